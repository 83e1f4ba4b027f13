/-
  Contracts of functions, printed by a program of ours.
-/
import Derived.Test.YtdjendhffbjnhaaDat
namespace Go.Proofs.Ytdjendhffbjnhaa
open Go.RowKit
set_option maxRecDepth 100000
set_option maxHeartbeats 4000000
open _root_.Go.Proofs.Try
def laws_szCondS_m (x0 : (List DCond)) (x1 : Int) : Int :=
 cond (decide ((IntKind.i64.wrap (x1 - ((x0.length : Nat) : Int))) < 0)) (-1) (IntKind.i64.wrap (x1 - ((x0.length : Nat) : Int)))
theorem cb122 : Cb Try.prog 122 := ⟨f122, _, func122, rfl, by decide⟩
theorem laws_szCondS_c (w : World) (z0 : Value) (x0 : (List DCond)) (x1 : Int) (r_0 : rdS tyLCond w w.heap.size z0 x0) :
  Calls Try.prog 122 #[z0, .int .i64 x1] w fun e w' => e = .returned (.int .i64 (laws_szCondS_m x0 x1)) ∧ Below w.heap.size w w' := by
 have r5 := r_0
 obtain ⟨m1, A2, c3, rfl, q4⟩ := r_0
 refine ce2 (L := [(0, .slice A2 x0.length c3), (1, .int .i64 x1)]) (N := 12) func122 ?_
 refine sr (wa (nt' (sr (wm (wm ?_)))))
 refine wv (vlen underlying125) ?_
 refine wv (fun W hm => rv_sub rfl rfl) ?_
 refine wa (nt' (CM_seq (sr (wm ?_))))
 refine wv vlss ?_
 refine nt' ?_
 by_cases h6 : (IntKind.i64.wrap (x1 - ((x0.length : Nat) : Int))) < 0
 ·have g7 : (decide ((IntKind.i64.wrap (x1 - ((x0.length : Nat) : Int))) < 0)) = true := decide_eq_true h6
  refine CM_condT rfl g7 ?_
  refine sr (wa (nt' (CM_ret (QM_then_ret ?_))))
  exact rti (h := by unfold laws_szCondS_m; exact cond_t g7 (rfl))
 ·have g7 : (decide ((IntKind.i64.wrap (x1 - ((x0.length : Nat) : Int))) < 0)) = false := decide_eq_false h6
  refine CM_condF rfl g7 ?_
  refine CM_skip (QM_then (sr (wm (wa (nt' (CM_ret ?_))))))
  exact rti (h := by unfold laws_szCondS_m; exact cond_f g7 (rfl))

def laws_szIntS_m (x0 : (List Int)) (x1 : Int) : Int :=
 cond (decide ((IntKind.i64.wrap (x1 - ((x0.length : Nat) : Int))) < 0)) (-1) (IntKind.i64.wrap (x1 - ((x0.length : Nat) : Int)))
theorem cb99 : Cb Try.prog 99 := ⟨f99, _, func99, rfl, by decide⟩
theorem laws_szIntS_c (w : World) (z0 : Value) (x0 : (List Int)) (x1 : Int) (r_0 : rdS tInt w w.heap.size z0 x0) :
  Calls Try.prog 99 #[z0, .int .i64 x1] w fun e w' => e = .returned (.int .i64 (laws_szIntS_m x0 x1)) ∧ Below w.heap.size w w' := by
 have r5 := r_0
 obtain ⟨m1, A2, c3, rfl, q4⟩ := r_0
 refine ce2 (L := [(0, .slice A2 x0.length c3), (1, .int .i64 x1)]) (N := 12) func99 ?_
 refine sr (wa (nt' (sr (wm (wm ?_)))))
 refine wv (vlen underlying37) ?_
 refine wv (fun W hm => rv_sub rfl rfl) ?_
 refine wa (nt' (CM_seq (sr (wm ?_))))
 refine wv vlss ?_
 refine nt' ?_
 by_cases h6 : (IntKind.i64.wrap (x1 - ((x0.length : Nat) : Int))) < 0
 ·have g7 : (decide ((IntKind.i64.wrap (x1 - ((x0.length : Nat) : Int))) < 0)) = true := decide_eq_true h6
  refine CM_condT rfl g7 ?_
  refine sr (wa (nt' (CM_ret (QM_then_ret ?_))))
  exact rti (h := by unfold laws_szIntS_m; exact cond_t g7 (rfl))
 ·have g7 : (decide ((IntKind.i64.wrap (x1 - ((x0.length : Nat) : Int))) < 0)) = false := decide_eq_false h6
  refine CM_condF rfl g7 ?_
  refine CM_skip (QM_then (sr (wm (wa (nt' (CM_ret ?_))))))
  exact rti (h := by unfold laws_szIntS_m; exact cond_f g7 (rfl))

def laws_szQuery_m (x0 : DQuery) (x1 : Int) : Int :=
 cond (decide ((laws_szCondS_m x0.Conds x1) < 0)) (-1) (cond (decide ((laws_szIntS_m x0.Out (laws_szCondS_m x0.Conds x1)) < 0)) (-1) (laws_szIntS_m x0.Out (laws_szCondS_m x0.Conds x1)))
theorem cb97 : Cb Try.prog 97 := ⟨f97, _, func97, rfl, by decide⟩
theorem laws_szQuery_c (w : World) (z0 : List Value) (x0 : DQuery) (x1 : Int) (r_0 : tyLQuery.rd w w.heap.size z0 x0) :
  Calls Try.prog 97 #[.agg z0.toArray, .int .i64 x1] w fun e w' => e = .returned (.int .i64 (laws_szQuery_m x0 x1)) ∧ Below w.heap.size w w' := by
 obtain ⟨v1, v3, rfl, r2, r4⟩ := tyLQuery_rd r_0
 have r9 := r2
 obtain ⟨m5, A6, c7, rfl, q8⟩ := r2
 have r14 := r4
 obtain ⟨m10, A11, c12, rfl, q13⟩ := r4
 refine ce2 (L := [(0, .agg #[.int .i64 x0.Id, .int .i64 x0.Tenant, .slice A6 x0.Conds.length c7, .slice A11 x0.Out.length c12]), (1, .int .i64 x1)]) (N := 18) func97 ?_
 refine sr ?_
 refine WM_box rfl (Wd_none rfl) (by decide) (fun p15 => ?_)
 refine wa (nt' (sr ?_))
 refine wv (vf underlying127 rfl type125) ?_
 refine wv (vl 0 2 underlying125) ?_
 refine wm ?_
 refine wcv (cl_fn cb122 rfl) (fun W hm => laws_szCondS_c W _ x0.Conds x1 (hm.rdS0 r9)) ?_
 refine wa (nt' (CM_seq (sr (wm ?_))))
 refine wv vlss ?_
 refine nt' ?_
 by_cases h16 : (laws_szCondS_m x0.Conds x1) < 0
 ·have g17 : (decide ((laws_szCondS_m x0.Conds x1) < 0)) = true := decide_eq_true h16
  refine CM_condT rfl g17 ?_
  refine sr (wa (nt' (CM_ret (QM_then_ret ?_))))
  exact rti (h := by unfold laws_szQuery_m; exact cond_t g17 (rfl))
 ·have g17 : (decide ((laws_szCondS_m x0.Conds x1) < 0)) = false := decide_eq_false h16
  refine CM_condF rfl g17 ?_
  refine CM_skip (QM_then (sr ?_))
  refine wv (vf underlying127 rfl type37) ?_
  refine wv (vl 0 3 underlying37) ?_
  refine wm ?_
  refine wcv (cl_fn cb99 rfl) (fun W hm => laws_szIntS_c W _ x0.Out (laws_szCondS_m x0.Conds x1) (hm.rdS0 r14)) ?_
  refine wa (nt' (CM_seq (sr (wm ?_))))
  refine wv vlss ?_
  refine nt' ?_
  by_cases h18 : (laws_szIntS_m x0.Out (laws_szCondS_m x0.Conds x1)) < 0
  ·have g19 : (decide ((laws_szIntS_m x0.Out (laws_szCondS_m x0.Conds x1)) < 0)) = true := decide_eq_true h18
   refine CM_condT rfl g19 ?_
   refine sr (wa (nt' (CM_ret (QM_then_ret ?_))))
   exact rti (h := by unfold laws_szQuery_m; exact cond_f g17 (cond_t g19 (rfl)))
  ·have g19 : (decide ((laws_szIntS_m x0.Out (laws_szCondS_m x0.Conds x1)) < 0)) = false := decide_eq_false h18
   refine CM_condF rfl g19 ?_
   refine CM_skip (QM_then (sr (wm (wa (nt' (CM_ret ?_))))))
   exact rti (h := by unfold laws_szQuery_m; exact cond_f g17 (cond_f g19 (rfl)))

def laws_szQueryS_b1 (x0 : (List DQuery)) (k8 : Nat) (s9 : Int) : Int ⊕ (Int) :=
 cond (decide ((laws_szQuery_m (gt x0 k8) s9) < 0)) (Sum.inl (-1)) (Sum.inr (laws_szQuery_m (gt x0 k8) s9))
def laws_szQueryS_m (x0 : (List DQuery)) (x1 : Int) : Int :=
 cond (decide ((IntKind.i64.wrap (x1 - ((x0.length : Nat) : Int))) < 0)) (-1) (Sum.elim id (fun (s : Int) => s) (rng (R := Int) (fun k (s : Int) => laws_szQueryS_b1 x0 k s) (x0.length - 0) 0 (IntKind.i64.wrap (x1 - ((x0.length : Nat) : Int)))))
theorem cb59 : Cb Try.prog 59 := ⟨f59, _, func59, rfl, by decide⟩
theorem laws_szQueryS_c (w : World) (z0 : Value) (x0 : (List DQuery)) (x1 : Int) (r_0 : rdS tyLQuery w w.heap.size z0 x0) :
  Calls Try.prog 59 #[z0, .int .i64 x1] w fun e w' => e = .returned (.int .i64 (laws_szQueryS_m x0 x1)) ∧ Below w.heap.size w w' := by
 have r5 := r_0
 obtain ⟨m1, A2, c3, rfl, q4⟩ := r_0
 refine ce2 (L := [(0, .slice A2 x0.length c3), (1, .int .i64 x1)]) (N := 27) func59 ?_
 refine sr (wa (nt' (sr (wm (wm ?_)))))
 refine wv (vlen underlying54) ?_
 refine wv (fun W hm => rv_sub rfl rfl) ?_
 refine wa (nt' (CM_seq (sr (wm ?_))))
 refine wv vlss ?_
 refine nt' ?_
 by_cases h6 : (IntKind.i64.wrap (x1 - ((x0.length : Nat) : Int))) < 0
 ·have g7 : (decide ((IntKind.i64.wrap (x1 - ((x0.length : Nat) : Int))) < 0)) = true := decide_eq_true h6
  refine CM_condT rfl g7 ?_
  refine sr (wa (nt' (CM_ret (QM_then_ret ?_))))
  exact rti (h := by unfold laws_szQueryS_m; exact cond_t g7 (rfl))
 ·have g7 : (decide ((IntKind.i64.wrap (x1 - ((x0.length : Nat) : Int))) < 0)) = false := decide_eq_false h6
  refine CM_condF rfl g7 ?_
  refine CM_skip (QM_then (CM_seq (sr (wa (nt' (CM_block ?_))))))
  let F1 := fun k (s : Int) => laws_szQueryS_b1 x0 k s
  let R2 := rng (R := Int) F1
  refine CM_loop (σ := Nat × (Int) × (Unit)) (fun s => [(0, .slice A2 x0.length c3), (1, .int .i64 s.2.1), (5, .int .i64 ((s.1 : Nat) : Int))]) (fun s => []) (fun s => s.1 ≤ x0.length ∧ R2 (x0.length - s.1) s.1 s.2.1 = R2 (x0.length - 0) 0 (IntKind.i64.wrap (x1 - ((x0.length : Nat) : Int)))) (fun s => x0.length - s.1) (0, (IntKind.i64.wrap (x1 - ((x0.length : Nat) : Int))), ()) sl3 (fun W hm => hm) ⟨(by omega), rfl⟩ ?_
  rintro ⟨k8, s9, ⟨⟩⟩ H12
  obtain ⟨hk10, hF11⟩ : k8 ≤ x0.length ∧ R2 (x0.length - k8) k8 s9 = R2 (x0.length - 0) 0 (IntKind.i64.wrap (x1 - ((x0.length : Nat) : Int))) := H12
  show CM Try.prog 27 _ _ _ _ [(0, .slice A2 x0.length c3), (1, .int .i64 s9), (5, .int .i64 ((k8 : Nat) : Int))] []
  refine CM_seq (sr (wm (wm ?_)))
  refine wv (vlen underlying54) ?_
  refine wv vlss ?_
  refine nt' ?_
  by_cases hl13 : k8 < x0.length
  ·have g14 : (decide (((k8 : Nat) : Int) < ((x0.length : Nat) : Int))) = true := decide_eq_true (by omega)
   refine CM_condT rfl g14 ?_
   refine CM_skip (QM_then (CM_seq (CM_block (sr (wm (wm ?_))))))
   obtain ⟨a15, rfl, hb16, he17⟩ := q4 (by omega)
   refine wv (vix 4 k8 underlying54 type127) ?_
   obtain ⟨_, e23, hc18⟩ := he17 k8 _ (gt_some (show k8 < x0.length from by omega))
   obtain ⟨v19, v21, rfl, r20, r22⟩ := tyLQuery_rd e23
   have r28 := r20
   obtain ⟨m24, A25, c26, rfl, q27⟩ := r20
   have r33 := r22
   obtain ⟨m29, A30, c31, rfl, q32⟩ := r22
   refine wv (fun W hm => rv_loadN (cs := [.int .i64 ((gt x0 k8).Id), .int .i64 ((gt x0 k8).Tenant), .slice A25 ((gt x0 k8).Conds).length c26, .slice A30 ((gt x0 k8).Out).length c31]) underlying127 type127 rfl rfl (hm.elCells (show (a15.add (k8 * 4)).block < w.heap.size from by rw [add_block]; exact hb16.1) hc18)) ?_
   refine wm ?_
   refine wcv (cl_fn cb97 rfl) (fun W hm => laws_szQuery_c W _ (gt x0 k8) s9 (tyLQuery_mk (x := (gt x0 k8)) (hm.rdS0 r28) (hm.rdS0 r33))) ?_
   refine wa (nt' (sr (wm ?_)))
   refine wv vlss ?_
   refine nt' ?_
   by_cases h34 : (laws_szQuery_m (gt x0 k8) s9) < 0
   ·have g35 : (decide ((laws_szQuery_m (gt x0 k8) s9) < 0)) = true := decide_eq_true h34
    refine CM_condT rfl g35 ?_
    refine sr (wa (nt' (CM_ret (QM_block_ret (QM_then_ret (QM_then_ret (QM_block_ret (QM_then_ret ?_))))))))
    exact rti (h := by unfold laws_szQueryS_m; exact cond_f g7 (fin_inl (rng_ret (body := F1) (k := k8) (s := s9) (show k8 < x0.length from by omega) (show laws_szQueryS_b1 x0 k8 s9 = Sum.inl (-1) from by unfold laws_szQueryS_b1; exact cond_t g35 (rfl)) hF11) rfl))
   ·have g35 : (decide ((laws_szQuery_m (gt x0 k8) s9) < 0)) = false := decide_eq_false h34
    refine CM_condF rfl g35 ?_
    refine CM_skip (QM_block_normal (QM_then (CM_region (wm ?_))))
    refine wv (vadN k8 1 (by omega)) ?_
    refine wa (WM_nil ?_)
    have hn36 := rng_next (R := Int) (body := F1) (k := k8) (s := s9) (s' := (laws_szQuery_m (gt x0 k8) s9)) (show k8 < x0.length from by omega) (show laws_szQueryS_b1 x0 k8 s9 = Sum.inr (laws_szQuery_m (gt x0 k8) s9) from by unfold laws_szQueryS_b1; exact cond_f g35 (rfl)) hF11
    exact QM_round (k8 + 1, (laws_szQuery_m (gt x0 k8) s9), ()) sl3 (fun W hm => hm) ⟨(by omega), hn36⟩ (rl (by omega))
  ·have g14 : (decide (((k8 : Nat) : Int) < ((x0.length : Nat) : Int))) = false := decide_eq_false (by omega)
   refine CM_condF rfl g14 ?_
   refine CM_exit (QM_then_exit (QM_then_exit ?_))
   have hE37 : R2 (x0.length - 0) 0 (IntKind.i64.wrap (x1 - ((x0.length : Nat) : Int))) = Sum.inr s9 := rng_end hl13 hF11
   refine QM_block_hit (QM_then (sr (wm (wa (nt' (CM_ret ?_))))))
   exact rti (h := by unfold laws_szQueryS_m; exact cond_f g7 (fin_inr hE37 (rfl)))

def laws_szSpan_m (x0 : DSpan) (x1 : Int) : Int :=
 cond (decide ((laws_szIntS_m x0.Set x1) < 0)) (-1) (laws_szIntS_m x0.Set x1)
theorem cb123 : Cb Try.prog 123 := ⟨f123, _, func123, rfl, by decide⟩
theorem laws_szSpan_c (w : World) (z0 : List Value) (x0 : DSpan) (x1 : Int) (r_0 : tyLSpan.rd w w.heap.size z0 x0) :
  Calls Try.prog 123 #[.agg z0.toArray, .int .i64 x1] w fun e w' => e = .returned (.int .i64 (laws_szSpan_m x0 x1)) ∧ Below w.heap.size w w' := by
 obtain ⟨v1, rfl, r2⟩ := tyLSpan_rd r_0
 have r7 := r2
 obtain ⟨m3, A4, c5, rfl, q6⟩ := r2
 refine ce2 (L := [(0, .agg #[.int .i64 x0.From, .int .i64 x0.To, .slice A4 x0.Set.length c5]), (1, .int .i64 x1)]) (N := 12) func123 ?_
 refine sr ?_
 refine WM_box rfl (Wd_none rfl) (by decide) (fun p8 => ?_)
 refine wa (nt' (sr ?_))
 refine wv (vf underlying143 rfl type37) ?_
 refine wv (vl 0 2 underlying37) ?_
 refine wm ?_
 refine wcv (cl_fn cb99 rfl) (fun W hm => laws_szIntS_c W _ x0.Set x1 (hm.rdS0 r7)) ?_
 refine wa (nt' (CM_seq (sr (wm ?_))))
 refine wv vlss ?_
 refine nt' ?_
 by_cases h9 : (laws_szIntS_m x0.Set x1) < 0
 ·have g10 : (decide ((laws_szIntS_m x0.Set x1) < 0)) = true := decide_eq_true h9
  refine CM_condT rfl g10 ?_
  refine sr (wa (nt' (CM_ret (QM_then_ret ?_))))
  exact rti (h := by unfold laws_szSpan_m; exact cond_t g10 (rfl))
 ·have g10 : (decide ((laws_szIntS_m x0.Set x1) < 0)) = false := decide_eq_false h9
  refine CM_condF rfl g10 ?_
  refine CM_skip (QM_then (sr (wm (wa (nt' (CM_ret ?_))))))
  exact rti (h := by unfold laws_szSpan_m; exact cond_f g10 (rfl))

def laws_szSpanS_b1 (x0 : (List DSpan)) (k8 : Nat) (s9 : Int) : Int ⊕ (Int) :=
 cond (decide ((laws_szSpan_m (gt x0 k8) s9) < 0)) (Sum.inl (-1)) (Sum.inr (laws_szSpan_m (gt x0 k8) s9))
def laws_szSpanS_m (x0 : (List DSpan)) (x1 : Int) : Int :=
 cond (decide ((IntKind.i64.wrap (x1 - ((x0.length : Nat) : Int))) < 0)) (-1) (Sum.elim id (fun (s : Int) => s) (rng (R := Int) (fun k (s : Int) => laws_szSpanS_b1 x0 k s) (x0.length - 0) 0 (IntKind.i64.wrap (x1 - ((x0.length : Nat) : Int)))))
theorem cb98 : Cb Try.prog 98 := ⟨f98, _, func98, rfl, by decide⟩
theorem laws_szSpanS_c (w : World) (z0 : Value) (x0 : (List DSpan)) (x1 : Int) (r_0 : rdS tyLSpan w w.heap.size z0 x0) :
  Calls Try.prog 98 #[z0, .int .i64 x1] w fun e w' => e = .returned (.int .i64 (laws_szSpanS_m x0 x1)) ∧ Below w.heap.size w w' := by
 have r5 := r_0
 obtain ⟨m1, A2, c3, rfl, q4⟩ := r_0
 refine ce2 (L := [(0, .slice A2 x0.length c3), (1, .int .i64 x1)]) (N := 27) func98 ?_
 refine sr (wa (nt' (sr (wm (wm ?_)))))
 refine wv (vlen underlying129) ?_
 refine wv (fun W hm => rv_sub rfl rfl) ?_
 refine wa (nt' (CM_seq (sr (wm ?_))))
 refine wv vlss ?_
 refine nt' ?_
 by_cases h6 : (IntKind.i64.wrap (x1 - ((x0.length : Nat) : Int))) < 0
 ·have g7 : (decide ((IntKind.i64.wrap (x1 - ((x0.length : Nat) : Int))) < 0)) = true := decide_eq_true h6
  refine CM_condT rfl g7 ?_
  refine sr (wa (nt' (CM_ret (QM_then_ret ?_))))
  exact rti (h := by unfold laws_szSpanS_m; exact cond_t g7 (rfl))
 ·have g7 : (decide ((IntKind.i64.wrap (x1 - ((x0.length : Nat) : Int))) < 0)) = false := decide_eq_false h6
  refine CM_condF rfl g7 ?_
  refine CM_skip (QM_then (CM_seq (sr (wa (nt' (CM_block ?_))))))
  let F1 := fun k (s : Int) => laws_szSpanS_b1 x0 k s
  let R2 := rng (R := Int) F1
  refine CM_loop (σ := Nat × (Int) × (Unit)) (fun s => [(0, .slice A2 x0.length c3), (1, .int .i64 s.2.1), (5, .int .i64 ((s.1 : Nat) : Int))]) (fun s => []) (fun s => s.1 ≤ x0.length ∧ R2 (x0.length - s.1) s.1 s.2.1 = R2 (x0.length - 0) 0 (IntKind.i64.wrap (x1 - ((x0.length : Nat) : Int)))) (fun s => x0.length - s.1) (0, (IntKind.i64.wrap (x1 - ((x0.length : Nat) : Int))), ()) sl3 (fun W hm => hm) ⟨(by omega), rfl⟩ ?_
  rintro ⟨k8, s9, ⟨⟩⟩ H12
  obtain ⟨hk10, hF11⟩ : k8 ≤ x0.length ∧ R2 (x0.length - k8) k8 s9 = R2 (x0.length - 0) 0 (IntKind.i64.wrap (x1 - ((x0.length : Nat) : Int))) := H12
  show CM Try.prog 27 _ _ _ _ [(0, .slice A2 x0.length c3), (1, .int .i64 s9), (5, .int .i64 ((k8 : Nat) : Int))] []
  refine CM_seq (sr (wm (wm ?_)))
  refine wv (vlen underlying129) ?_
  refine wv vlss ?_
  refine nt' ?_
  by_cases hl13 : k8 < x0.length
  ·have g14 : (decide (((k8 : Nat) : Int) < ((x0.length : Nat) : Int))) = true := decide_eq_true (by omega)
   refine CM_condT rfl g14 ?_
   refine CM_skip (QM_then (CM_seq (CM_block (sr (wm (wm ?_))))))
   obtain ⟨a15, rfl, hb16, he17⟩ := q4 (by omega)
   refine wv (vix 3 k8 underlying129 type143) ?_
   obtain ⟨_, e21, hc18⟩ := he17 k8 _ (gt_some (show k8 < x0.length from by omega))
   obtain ⟨v19, rfl, r20⟩ := tyLSpan_rd e21
   have r26 := r20
   obtain ⟨m22, A23, c24, rfl, q25⟩ := r20
   refine wv (fun W hm => rv_loadN (cs := [.int .i64 ((gt x0 k8).From), .int .i64 ((gt x0 k8).To), .slice A23 ((gt x0 k8).Set).length c24]) underlying143 type143 rfl rfl (hm.elCells (show (a15.add (k8 * 3)).block < w.heap.size from by rw [add_block]; exact hb16.1) hc18)) ?_
   refine wm ?_
   refine wcv (cl_fn cb123 rfl) (fun W hm => laws_szSpan_c W _ (gt x0 k8) s9 (tyLSpan_mk (x := (gt x0 k8)) (hm.rdS0 r26))) ?_
   refine wa (nt' (sr (wm ?_)))
   refine wv vlss ?_
   refine nt' ?_
   by_cases h27 : (laws_szSpan_m (gt x0 k8) s9) < 0
   ·have g28 : (decide ((laws_szSpan_m (gt x0 k8) s9) < 0)) = true := decide_eq_true h27
    refine CM_condT rfl g28 ?_
    refine sr (wa (nt' (CM_ret (QM_block_ret (QM_then_ret (QM_then_ret (QM_block_ret (QM_then_ret ?_))))))))
    exact rti (h := by unfold laws_szSpanS_m; exact cond_f g7 (fin_inl (rng_ret (body := F1) (k := k8) (s := s9) (show k8 < x0.length from by omega) (show laws_szSpanS_b1 x0 k8 s9 = Sum.inl (-1) from by unfold laws_szSpanS_b1; exact cond_t g28 (rfl)) hF11) rfl))
   ·have g28 : (decide ((laws_szSpan_m (gt x0 k8) s9) < 0)) = false := decide_eq_false h27
    refine CM_condF rfl g28 ?_
    refine CM_skip (QM_block_normal (QM_then (CM_region (wm ?_))))
    refine wv (vadN k8 1 (by omega)) ?_
    refine wa (WM_nil ?_)
    have hn29 := rng_next (R := Int) (body := F1) (k := k8) (s := s9) (s' := (laws_szSpan_m (gt x0 k8) s9)) (show k8 < x0.length from by omega) (show laws_szSpanS_b1 x0 k8 s9 = Sum.inr (laws_szSpan_m (gt x0 k8) s9) from by unfold laws_szSpanS_b1; exact cond_f g28 (rfl)) hF11
    exact QM_round (k8 + 1, (laws_szSpan_m (gt x0 k8) s9), ()) sl3 (fun W hm => hm) ⟨(by omega), hn29⟩ (rl (by omega))
  ·have g14 : (decide (((k8 : Nat) : Int) < ((x0.length : Nat) : Int))) = false := decide_eq_false (by omega)
   refine CM_condF rfl g14 ?_
   refine CM_exit (QM_then_exit (QM_then_exit ?_))
   have hE30 : R2 (x0.length - 0) 0 (IntKind.i64.wrap (x1 - ((x0.length : Nat) : Int))) = Sum.inr s9 := rng_end hl13 hF11
   refine QM_block_hit (QM_then (sr (wm (wa (nt' (CM_ret ?_))))))
   exact rti (h := by unfold laws_szSpanS_m; exact cond_f g7 (fin_inr hE30 (rfl)))

def laws_szSpanSS_b1 (x0 : (List (List DSpan))) (k8 : Nat) (s9 : Int) : Int ⊕ (Int) :=
 cond (decide ((laws_szSpanS_m (gt x0 k8) s9) < 0)) (Sum.inl (-1)) (Sum.inr (laws_szSpanS_m (gt x0 k8) s9))
def laws_szSpanSS_m (x0 : (List (List DSpan))) (x1 : Int) : Int :=
 cond (decide ((IntKind.i64.wrap (x1 - ((x0.length : Nat) : Int))) < 0)) (-1) (Sum.elim id (fun (s : Int) => s) (rng (R := Int) (fun k (s : Int) => laws_szSpanSS_b1 x0 k s) (x0.length - 0) 0 (IntKind.i64.wrap (x1 - ((x0.length : Nat) : Int)))))
theorem cb60 : Cb Try.prog 60 := ⟨f60, _, func60, rfl, by decide⟩
theorem laws_szSpanSS_c (w : World) (z0 : Value) (x0 : (List (List DSpan))) (x1 : Int) (r_0 : rdS (tSl tyLSpan 143) w w.heap.size z0 x0) :
  Calls Try.prog 60 #[z0, .int .i64 x1] w fun e w' => e = .returned (.int .i64 (laws_szSpanSS_m x0 x1)) ∧ Below w.heap.size w w' := by
 have r5 := r_0
 obtain ⟨m1, A2, c3, rfl, q4⟩ := r_0
 refine ce2 (L := [(0, .slice A2 x0.length c3), (1, .int .i64 x1)]) (N := 27) func60 ?_
 refine sr (wa (nt' (sr (wm (wm ?_)))))
 refine wv (vlen underlying55) ?_
 refine wv (fun W hm => rv_sub rfl rfl) ?_
 refine wa (nt' (CM_seq (sr (wm ?_))))
 refine wv vlss ?_
 refine nt' ?_
 by_cases h6 : (IntKind.i64.wrap (x1 - ((x0.length : Nat) : Int))) < 0
 ·have g7 : (decide ((IntKind.i64.wrap (x1 - ((x0.length : Nat) : Int))) < 0)) = true := decide_eq_true h6
  refine CM_condT rfl g7 ?_
  refine sr (wa (nt' (CM_ret (QM_then_ret ?_))))
  exact rti (h := by unfold laws_szSpanSS_m; exact cond_t g7 (rfl))
 ·have g7 : (decide ((IntKind.i64.wrap (x1 - ((x0.length : Nat) : Int))) < 0)) = false := decide_eq_false h6
  refine CM_condF rfl g7 ?_
  refine CM_skip (QM_then (CM_seq (sr (wa (nt' (CM_block ?_))))))
  let F1 := fun k (s : Int) => laws_szSpanSS_b1 x0 k s
  let R2 := rng (R := Int) F1
  refine CM_loop (σ := Nat × (Int) × (Unit)) (fun s => [(0, .slice A2 x0.length c3), (1, .int .i64 s.2.1), (5, .int .i64 ((s.1 : Nat) : Int))]) (fun s => []) (fun s => s.1 ≤ x0.length ∧ R2 (x0.length - s.1) s.1 s.2.1 = R2 (x0.length - 0) 0 (IntKind.i64.wrap (x1 - ((x0.length : Nat) : Int)))) (fun s => x0.length - s.1) (0, (IntKind.i64.wrap (x1 - ((x0.length : Nat) : Int))), ()) sl3 (fun W hm => hm) ⟨(by omega), rfl⟩ ?_
  rintro ⟨k8, s9, ⟨⟩⟩ H12
  obtain ⟨hk10, hF11⟩ : k8 ≤ x0.length ∧ R2 (x0.length - k8) k8 s9 = R2 (x0.length - 0) 0 (IntKind.i64.wrap (x1 - ((x0.length : Nat) : Int))) := H12
  show CM Try.prog 27 _ _ _ _ [(0, .slice A2 x0.length c3), (1, .int .i64 s9), (5, .int .i64 ((k8 : Nat) : Int))] []
  refine CM_seq (sr (wm (wm ?_)))
  refine wv (vlen underlying55) ?_
  refine wv vlss ?_
  refine nt' ?_
  by_cases hl13 : k8 < x0.length
  ·have g14 : (decide (((k8 : Nat) : Int) < ((x0.length : Nat) : Int))) = true := decide_eq_true (by omega)
   refine CM_condT rfl g14 ?_
   refine CM_skip (QM_then (CM_seq (CM_block (sr (wm (wm ?_))))))
   obtain ⟨a15, rfl, hb16, he17⟩ := q4 (by omega)
   refine wv (vix 1 k8 underlying55 type129) ?_
   obtain ⟨_, e19, hc18⟩ := he17 k8 _ (gt_some (show k8 < x0.length from by omega))
   obtain ⟨v20, rfl, r21⟩ := e19
   have r26 := r21
   obtain ⟨m22, A23, c24, rfl, q25⟩ := r21
   refine wv (fun W hm => rv_load underlying129 rfl rfl ((hm.cell0 (show (a15.add (k8 * 1)).block < w.heap.size from by rw [add_block]; exact hb16.1)).trans (hc18 0 _ rfl))) ?_
   refine wm ?_
   refine wcv (cl_fn cb98 rfl) (fun W hm => laws_szSpanS_c W _ (gt x0 k8) s9 (hm.rdS0 r26)) ?_
   refine wa (nt' (sr (wm ?_)))
   refine wv vlss ?_
   refine nt' ?_
   by_cases h27 : (laws_szSpanS_m (gt x0 k8) s9) < 0
   ·have g28 : (decide ((laws_szSpanS_m (gt x0 k8) s9) < 0)) = true := decide_eq_true h27
    refine CM_condT rfl g28 ?_
    refine sr (wa (nt' (CM_ret (QM_block_ret (QM_then_ret (QM_then_ret (QM_block_ret (QM_then_ret ?_))))))))
    exact rti (h := by unfold laws_szSpanSS_m; exact cond_f g7 (fin_inl (rng_ret (body := F1) (k := k8) (s := s9) (show k8 < x0.length from by omega) (show laws_szSpanSS_b1 x0 k8 s9 = Sum.inl (-1) from by unfold laws_szSpanSS_b1; exact cond_t g28 (rfl)) hF11) rfl))
   ·have g28 : (decide ((laws_szSpanS_m (gt x0 k8) s9) < 0)) = false := decide_eq_false h27
    refine CM_condF rfl g28 ?_
    refine CM_skip (QM_block_normal (QM_then (CM_region (wm ?_))))
    refine wv (vadN k8 1 (by omega)) ?_
    refine wa (WM_nil ?_)
    have hn29 := rng_next (R := Int) (body := F1) (k := k8) (s := s9) (s' := (laws_szSpanS_m (gt x0 k8) s9)) (show k8 < x0.length from by omega) (show laws_szSpanSS_b1 x0 k8 s9 = Sum.inr (laws_szSpanS_m (gt x0 k8) s9) from by unfold laws_szSpanSS_b1; exact cond_f g28 (rfl)) hF11
    exact QM_round (k8 + 1, (laws_szSpanS_m (gt x0 k8) s9), ()) sl3 (fun W hm => hm) ⟨(by omega), hn29⟩ (rl (by omega))
  ·have g14 : (decide (((k8 : Nat) : Int) < ((x0.length : Nat) : Int))) = false := decide_eq_false (by omega)
   refine CM_condF rfl g14 ?_
   refine CM_exit (QM_then_exit (QM_then_exit ?_))
   have hE30 : R2 (x0.length - 0) 0 (IntKind.i64.wrap (x1 - ((x0.length : Nat) : Int))) = Sum.inr s9 := rng_end hl13 hF11
   refine QM_block_hit (QM_then (sr (wm (wa (nt' (CM_ret ?_))))))
   exact rti (h := by unfold laws_szSpanSS_m; exact cond_f g7 (fin_inr hE30 (rfl)))

def laws_szIndex_m (x0 : DIndex) (x1 : Int) : Int :=
 cond (decide ((laws_szQueryS_m x0.Queries x1) < 0)) (-1) (cond (decide ((laws_szSpanSS_m x0.Fields (laws_szQueryS_m x0.Queries x1)) < 0)) (-1) (laws_szSpanSS_m x0.Fields (laws_szQueryS_m x0.Queries x1)))
theorem cb23 : Cb Try.prog 23 := ⟨f23, _, func23, rfl, by decide⟩
theorem laws_szIndex_c (w : World) (z0 : List Value) (x0 : DIndex) (x1 : Int) (r_0 : tyLIndex.rd w w.heap.size z0 x0) :
  Calls Try.prog 23 #[.agg z0.toArray, .int .i64 x1] w fun e w' => e = .returned (.int .i64 (laws_szIndex_m x0 x1)) ∧ Below w.heap.size w w' := by
 obtain ⟨v1, v3, rfl, r2, r4⟩ := tyLIndex_rd r_0
 have r9 := r2
 obtain ⟨m5, A6, c7, rfl, q8⟩ := r2
 have r14 := r4
 obtain ⟨m10, A11, c12, rfl, q13⟩ := r4
 refine ce2 (L := [(0, .agg #[.slice A6 x0.Queries.length c7, .slice A11 x0.Fields.length c12]), (1, .int .i64 x1)]) (N := 18) func23 ?_
 refine sr ?_
 refine WM_box rfl (Wd_none rfl) (by decide) (fun p15 => ?_)
 refine wa (nt' (sr ?_))
 refine wv (vf underlying57 rfl type54) ?_
 refine wv (vl 0 0 underlying54) ?_
 refine wm ?_
 refine wcv (cl_fn cb59 rfl) (fun W hm => laws_szQueryS_c W _ x0.Queries x1 (hm.rdS0 r9)) ?_
 refine wa (nt' (CM_seq (sr (wm ?_))))
 refine wv vlss ?_
 refine nt' ?_
 by_cases h16 : (laws_szQueryS_m x0.Queries x1) < 0
 ·have g17 : (decide ((laws_szQueryS_m x0.Queries x1) < 0)) = true := decide_eq_true h16
  refine CM_condT rfl g17 ?_
  refine sr (wa (nt' (CM_ret (QM_then_ret ?_))))
  exact rti (h := by unfold laws_szIndex_m; exact cond_t g17 (rfl))
 ·have g17 : (decide ((laws_szQueryS_m x0.Queries x1) < 0)) = false := decide_eq_false h16
  refine CM_condF rfl g17 ?_
  refine CM_skip (QM_then (sr ?_))
  refine wv (vf underlying57 rfl type55) ?_
  refine wv (vl 0 1 underlying55) ?_
  refine wm ?_
  refine wcv (cl_fn cb60 rfl) (fun W hm => laws_szSpanSS_c W _ x0.Fields (laws_szQueryS_m x0.Queries x1) (hm.rdS0 r14)) ?_
  refine wa (nt' (CM_seq (sr (wm ?_))))
  refine wv vlss ?_
  refine nt' ?_
  by_cases h18 : (laws_szSpanSS_m x0.Fields (laws_szQueryS_m x0.Queries x1)) < 0
  ·have g19 : (decide ((laws_szSpanSS_m x0.Fields (laws_szQueryS_m x0.Queries x1)) < 0)) = true := decide_eq_true h18
   refine CM_condT rfl g19 ?_
   refine sr (wa (nt' (CM_ret (QM_then_ret ?_))))
   exact rti (h := by unfold laws_szIndex_m; exact cond_f g17 (cond_t g19 (rfl)))
  ·have g19 : (decide ((laws_szSpanSS_m x0.Fields (laws_szQueryS_m x0.Queries x1)) < 0)) = false := decide_eq_false h18
   refine CM_condF rfl g19 ?_
   refine CM_skip (QM_then (sr (wm (wa (nt' (CM_ret ?_))))))
   exact rti (h := by unfold laws_szIndex_m; exact cond_f g17 (cond_f g19 (rfl)))

def laws_szRow_m (x0 : DRow) (x1 : Int) : Int :=
 cond (decide ((laws_szIntS_m x0.Values x1) < 0)) (-1) (laws_szIntS_m x0.Values x1)
theorem cb61 : Cb Try.prog 61 := ⟨f61, _, func61, rfl, by decide⟩
theorem laws_szRow_c (w : World) (z0 : List Value) (x0 : DRow) (x1 : Int) (r_0 : tyLRow.rd w w.heap.size z0 x0) :
  Calls Try.prog 61 #[.agg z0.toArray, .int .i64 x1] w fun e w' => e = .returned (.int .i64 (laws_szRow_m x0 x1)) ∧ Below w.heap.size w w' := by
 obtain ⟨v1, rfl, r2⟩ := tyLRow_rd r_0
 have r7 := r2
 obtain ⟨m3, A4, c5, rfl, q6⟩ := r2
 refine ce2 (L := [(0, .agg #[.int .i64 x0.Id, .slice A4 x0.Values.length c5]), (1, .int .i64 x1)]) (N := 12) func61 ?_
 refine sr ?_
 refine WM_box rfl (Wd_none rfl) (by decide) (fun p8 => ?_)
 refine wa (nt' (sr ?_))
 refine wv (vf underlying90 rfl type37) ?_
 refine wv (vl 0 1 underlying37) ?_
 refine wm ?_
 refine wcv (cl_fn cb99 rfl) (fun W hm => laws_szIntS_c W _ x0.Values x1 (hm.rdS0 r7)) ?_
 refine wa (nt' (CM_seq (sr (wm ?_))))
 refine wv vlss ?_
 refine nt' ?_
 by_cases h9 : (laws_szIntS_m x0.Values x1) < 0
 ·have g10 : (decide ((laws_szIntS_m x0.Values x1) < 0)) = true := decide_eq_true h9
  refine CM_condT rfl g10 ?_
  refine sr (wa (nt' (CM_ret (QM_then_ret ?_))))
  exact rti (h := by unfold laws_szRow_m; exact cond_t g10 (rfl))
 ·have g10 : (decide ((laws_szIntS_m x0.Values x1) < 0)) = false := decide_eq_false h9
  refine CM_condF rfl g10 ?_
  refine CM_skip (QM_then (sr (wm (wa (nt' (CM_ret ?_))))))
  exact rti (h := by unfold laws_szRow_m; exact cond_f g10 (rfl))

def laws_szRowS_b1 (x0 : (List DRow)) (k8 : Nat) (s9 : Int) : Int ⊕ (Int) :=
 cond (decide ((laws_szRow_m (gt x0 k8) s9) < 0)) (Sum.inl (-1)) (Sum.inr (laws_szRow_m (gt x0 k8) s9))
def laws_szRowS_m (x0 : (List DRow)) (x1 : Int) : Int :=
 cond (decide ((IntKind.i64.wrap (x1 - ((x0.length : Nat) : Int))) < 0)) (-1) (Sum.elim id (fun (s : Int) => s) (rng (R := Int) (fun k (s : Int) => laws_szRowS_b1 x0 k s) (x0.length - 0) 0 (IntKind.i64.wrap (x1 - ((x0.length : Nat) : Int)))))
theorem cb24 : Cb Try.prog 24 := ⟨f24, _, func24, rfl, by decide⟩
theorem laws_szRowS_c (w : World) (z0 : Value) (x0 : (List DRow)) (x1 : Int) (r_0 : rdS tyLRow w w.heap.size z0 x0) :
  Calls Try.prog 24 #[z0, .int .i64 x1] w fun e w' => e = .returned (.int .i64 (laws_szRowS_m x0 x1)) ∧ Below w.heap.size w w' := by
 have r5 := r_0
 obtain ⟨m1, A2, c3, rfl, q4⟩ := r_0
 refine ce2 (L := [(0, .slice A2 x0.length c3), (1, .int .i64 x1)]) (N := 27) func24 ?_
 refine sr (wa (nt' (sr (wm (wm ?_)))))
 refine wv (vlen underlying58) ?_
 refine wv (fun W hm => rv_sub rfl rfl) ?_
 refine wa (nt' (CM_seq (sr (wm ?_))))
 refine wv vlss ?_
 refine nt' ?_
 by_cases h6 : (IntKind.i64.wrap (x1 - ((x0.length : Nat) : Int))) < 0
 ·have g7 : (decide ((IntKind.i64.wrap (x1 - ((x0.length : Nat) : Int))) < 0)) = true := decide_eq_true h6
  refine CM_condT rfl g7 ?_
  refine sr (wa (nt' (CM_ret (QM_then_ret ?_))))
  exact rti (h := by unfold laws_szRowS_m; exact cond_t g7 (rfl))
 ·have g7 : (decide ((IntKind.i64.wrap (x1 - ((x0.length : Nat) : Int))) < 0)) = false := decide_eq_false h6
  refine CM_condF rfl g7 ?_
  refine CM_skip (QM_then (CM_seq (sr (wa (nt' (CM_block ?_))))))
  let F1 := fun k (s : Int) => laws_szRowS_b1 x0 k s
  let R2 := rng (R := Int) F1
  refine CM_loop (σ := Nat × (Int) × (Unit)) (fun s => [(0, .slice A2 x0.length c3), (1, .int .i64 s.2.1), (5, .int .i64 ((s.1 : Nat) : Int))]) (fun s => []) (fun s => s.1 ≤ x0.length ∧ R2 (x0.length - s.1) s.1 s.2.1 = R2 (x0.length - 0) 0 (IntKind.i64.wrap (x1 - ((x0.length : Nat) : Int)))) (fun s => x0.length - s.1) (0, (IntKind.i64.wrap (x1 - ((x0.length : Nat) : Int))), ()) sl3 (fun W hm => hm) ⟨(by omega), rfl⟩ ?_
  rintro ⟨k8, s9, ⟨⟩⟩ H12
  obtain ⟨hk10, hF11⟩ : k8 ≤ x0.length ∧ R2 (x0.length - k8) k8 s9 = R2 (x0.length - 0) 0 (IntKind.i64.wrap (x1 - ((x0.length : Nat) : Int))) := H12
  show CM Try.prog 27 _ _ _ _ [(0, .slice A2 x0.length c3), (1, .int .i64 s9), (5, .int .i64 ((k8 : Nat) : Int))] []
  refine CM_seq (sr (wm (wm ?_)))
  refine wv (vlen underlying58) ?_
  refine wv vlss ?_
  refine nt' ?_
  by_cases hl13 : k8 < x0.length
  ·have g14 : (decide (((k8 : Nat) : Int) < ((x0.length : Nat) : Int))) = true := decide_eq_true (by omega)
   refine CM_condT rfl g14 ?_
   refine CM_skip (QM_then (CM_seq (CM_block (sr (wm (wm ?_))))))
   obtain ⟨a15, rfl, hb16, he17⟩ := q4 (by omega)
   refine wv (vix 2 k8 underlying58 type90) ?_
   obtain ⟨_, e21, hc18⟩ := he17 k8 _ (gt_some (show k8 < x0.length from by omega))
   obtain ⟨v19, rfl, r20⟩ := tyLRow_rd e21
   have r26 := r20
   obtain ⟨m22, A23, c24, rfl, q25⟩ := r20
   refine wv (fun W hm => rv_loadN (cs := [.int .i64 ((gt x0 k8).Id), .slice A23 ((gt x0 k8).Values).length c24]) underlying90 type90 rfl rfl (hm.elCells (show (a15.add (k8 * 2)).block < w.heap.size from by rw [add_block]; exact hb16.1) hc18)) ?_
   refine wm ?_
   refine wcv (cl_fn cb61 rfl) (fun W hm => laws_szRow_c W _ (gt x0 k8) s9 (tyLRow_mk (x := (gt x0 k8)) (hm.rdS0 r26))) ?_
   refine wa (nt' (sr (wm ?_)))
   refine wv vlss ?_
   refine nt' ?_
   by_cases h27 : (laws_szRow_m (gt x0 k8) s9) < 0
   ·have g28 : (decide ((laws_szRow_m (gt x0 k8) s9) < 0)) = true := decide_eq_true h27
    refine CM_condT rfl g28 ?_
    refine sr (wa (nt' (CM_ret (QM_block_ret (QM_then_ret (QM_then_ret (QM_block_ret (QM_then_ret ?_))))))))
    exact rti (h := by unfold laws_szRowS_m; exact cond_f g7 (fin_inl (rng_ret (body := F1) (k := k8) (s := s9) (show k8 < x0.length from by omega) (show laws_szRowS_b1 x0 k8 s9 = Sum.inl (-1) from by unfold laws_szRowS_b1; exact cond_t g28 (rfl)) hF11) rfl))
   ·have g28 : (decide ((laws_szRow_m (gt x0 k8) s9) < 0)) = false := decide_eq_false h27
    refine CM_condF rfl g28 ?_
    refine CM_skip (QM_block_normal (QM_then (CM_region (wm ?_))))
    refine wv (vadN k8 1 (by omega)) ?_
    refine wa (WM_nil ?_)
    have hn29 := rng_next (R := Int) (body := F1) (k := k8) (s := s9) (s' := (laws_szRow_m (gt x0 k8) s9)) (show k8 < x0.length from by omega) (show laws_szRowS_b1 x0 k8 s9 = Sum.inr (laws_szRow_m (gt x0 k8) s9) from by unfold laws_szRowS_b1; exact cond_f g28 (rfl)) hF11
    exact QM_round (k8 + 1, (laws_szRow_m (gt x0 k8) s9), ()) sl3 (fun W hm => hm) ⟨(by omega), hn29⟩ (rl (by omega))
  ·have g14 : (decide (((k8 : Nat) : Int) < ((x0.length : Nat) : Int))) = false := decide_eq_false (by omega)
   refine CM_condF rfl g14 ?_
   refine CM_exit (QM_then_exit (QM_then_exit ?_))
   have hE30 : R2 (x0.length - 0) 0 (IntKind.i64.wrap (x1 - ((x0.length : Nat) : Int))) = Sum.inr s9 := rng_end hl13 hF11
   refine QM_block_hit (QM_then (sr (wm (wa (nt' (CM_ret ?_))))))
   exact rti (h := by unfold laws_szRowS_m; exact cond_f g7 (fin_inr hE30 (rfl)))

def laws_toCond_m (x0 : DCond) : DCond :=
 x0
theorem cb135 : Cb Try.prog 135 := ⟨f135, _, func135, rfl, by decide⟩
theorem laws_toCond_c (w : World) (z0 : List Value) (x0 : DCond) (r_0 : tyLCond.rd w w.heap.size z0 x0) :
  Calls Try.prog 135 #[.agg z0.toArray] w fun e w' => ∃ v : List Value, e = .returned (.agg v.toArray) ∧ Mem w.heap.size w [iOwn tyCond v (laws_toCond_m x0)] w' := by
 obtain rfl := tyLCond_rd r_0
 refine ce1 (L := [(0, .agg #[.int .i64 x0.Field, .int .i64 x0.Low, .int .i64 x0.High])]) (N := 14) func135 ?_
 refine sr ?_
 refine WM_box rfl (Wd_none rfl) (by decide) (fun p1 => ?_)
 refine WM_alloc type117 rfl (Wd_none rfl) (by decide) (fun p2 => ?_)
 refine nt' (sr ?_)
 refine WM_alloc type117 rfl (Wd_none rfl) (by decide) (fun p3 => ?_)
 refine nt' (sr ?_)
 refine wv (vf underlying152 rfl type3) ?_
 refine wv (vl 2 0 underlying3) ?_
 refine wv (vf underlying117 rfl type3) ?_
 let I1 : It := iBox p2 117 [.int .i64 0, .int .i64 0, .int .i64 0]
 let I2 : It := iBox p1 152 [.int .i64 x0.Field, .int .i64 x0.Low, .int .i64 x0.High]
 refine sb 0 [.int .i64 x0.Field, .int .i64 0, .int .i64 0] [I1, I2] (fun W hm => hm) type3 ?_
 refine nt' (sr ?_)
 refine wv (vf underlying152 rfl type3) ?_
 refine wv (vl 2 1 underlying3) ?_
 refine wv (vf underlying117 rfl type3) ?_
 refine sb 1 [.int .i64 x0.Field, .int .i64 x0.Low, .int .i64 0] [I1, I2] (fun W hm => hm) type3 ?_
 refine nt' (sr ?_)
 refine wv (vf underlying152 rfl type3) ?_
 refine wv (vl 2 2 underlying3) ?_
 refine wv (vf underlying117 rfl type3) ?_
 refine sb 2 [.int .i64 x0.Field, .int .i64 x0.Low, .int .i64 x0.High] [I1, I2] (fun W hm => hm) type3 ?_
 refine nt' (sr ?_)
 refine wv (fun W hm => rv_loadN (cs := [.int .i64 x0.Field, .int .i64 x0.Low, .int .i64 x0.High]) underlying117 type117 rfl rfl (hm.boxCells (n := 0) rfl)) ?_
 refine sb 0 [.int .i64 x0.Field, .int .i64 x0.Low, .int .i64 x0.High] [iBox p3 117 [.int .i64 x0.Field, .int .i64 x0.Low, .int .i64 x0.High], I2] (pk [1, 0, 2]) type117 ?_
 refine nt' (CM_ret ?_)
 refine QM_r1 rfl (RR_cell (n := 0) rfl rfl underlying117 type117 rfl) (fun W hm => ⟨[.int .i64 x0.Field, .int .i64 x0.Low, .int .i64 x0.High], ?_, ?_⟩)
 ·first | rw [(show laws_toCond_m x0 = x0 from by unfold laws_toCond_m; exact rfl)] | rfl
 ·rw [(show laws_toCond_m x0 = x0 from by unfold laws_toCond_m; exact rfl)]; exact Mem.join (is := []) (js := []) (fun _ _ hs => tyCond_join (x := x0) hs) (hm.pick [] (by decide))

def laws_toCondS_b1 (x0 : (List DCond)) (k9 : Nat) (d10 : (List DCond)) : (List DCond) ⊕ ((List DCond)) :=
 Sum.inr (d10.set k9 (laws_toCond_m (gt x0 k9)))
def laws_toCondS_m (x0 : (List DCond)) : (List DCond) :=
 Sum.elim id (fun (s : (List DCond)) => s) (rng (R := (List DCond)) (fun k (s : (List DCond)) => laws_toCondS_b1 x0 k s) (x0.length - 0) 0 (List.replicate x0.length (⟨(0 : Int), (0 : Int), (0 : Int)⟩ : DCond)))
theorem cb124 : Cb Try.prog 124 := ⟨f124, _, func124, rfl, by decide⟩
theorem laws_toCondS_c (w : World) (z0 : Value) (x0 : (List DCond)) (r_0 : rdS tyLCond w w.heap.size z0 x0) (s_0 : x0.length ≤ 68719476736) :
  Calls Try.prog 124 #[z0] w fun e w' => ∃ v : Value, e = .returned (v) ∧ Mem w.heap.size w [iOwn (tSl tyCond 117) [v] (laws_toCondS_m x0)] w' := by
 have r5 := r_0
 obtain ⟨m1, A2, c3, rfl, q4⟩ := r_0
 have l6 : x0.length ≤ 68719476736 := s_0
 refine ce1 (L := [(0, .slice A2 x0.length c3)]) (N := 23) func124 ?_
 refine sr (wa (nt' (sr (wm ?_))))
 refine wv (vlen underlying125) ?_
 refine WM_make (E := tyCond) (n := x0.length) (x0 := (⟨(0 : Int), (0 : Int), (0 : Int)⟩ : DCond)) underlying36 type117 rfl rfl rfl (fun _ => ⟨[], [], _, _, rfl, rfl, tInt_own, ⟨[], [], _, _, rfl, rfl, tInt_own, tInt_own⟩⟩) rfl rfl (show x0.length * 24 ≤ 281474976710656 from by omega) (by omega) (Wd_none rfl) (by decide) (fun p7 => ?_)
 refine wa (nt' (CM_seq (sr (wa (nt' (CM_block ?_))))))
 let F1 := fun k (s : (List DCond)) => laws_toCondS_b1 x0 k s
 let R2 := rng (R := (List DCond)) F1
 refine CM_loop (σ := Nat × ((List DCond)) × (Unit)) (fun s => [(0, .slice A2 x0.length c3), (3, .slice (some ⟨p7, 0, none⟩) x0.length x0.length), (4, .int .i64 ((s.1 : Nat) : Int))]) (fun s => [iOwn (tSl tyCond 117) [.slice (some ⟨p7, 0, none⟩) x0.length x0.length] s.2.1]) (fun s => s.1 ≤ x0.length ∧ R2 (x0.length - s.1) s.1 s.2.1 = R2 (x0.length - 0) 0 (List.replicate x0.length (⟨(0 : Int), (0 : Int), (0 : Int)⟩ : DCond))) (fun s => x0.length - s.1) (0, (List.replicate x0.length (⟨(0 : Int), (0 : Int), (0 : Int)⟩ : DCond)), ()) sl3 (fun W hm => hm) ⟨(by omega), rfl⟩ ?_
 rintro ⟨k9, d10, ⟨⟩⟩ H13
 obtain ⟨hk11, hF12⟩ : k9 ≤ x0.length ∧ R2 (x0.length - k9) k9 d10 = R2 (x0.length - 0) 0 (List.replicate x0.length (⟨(0 : Int), (0 : Int), (0 : Int)⟩ : DCond)) := H13
 show CM Try.prog 23 _ _ _ _ [(0, .slice A2 x0.length c3), (3, .slice (some ⟨p7, 0, none⟩) x0.length x0.length), (4, .int .i64 ((k9 : Nat) : Int))] [iOwn (tSl tyCond 117) [.slice (some ⟨p7, 0, none⟩) x0.length x0.length] d10]
 refine CM_seq (sr (wm (wm ?_)))
 refine wv (vlen underlying125) ?_
 refine wv vlss ?_
 refine nt' ?_
 by_cases hl14 : k9 < x0.length
 ·have g15 : (decide (((k9 : Nat) : Int) < ((x0.length : Nat) : Int))) = true := decide_eq_true (by omega)
  refine CM_condT rfl g15 ?_
  refine CM_skip (QM_then (CM_seq (CM_block (CM_region (wm (wm (wm (wm ?_))))))))
  obtain ⟨a16, rfl, hb17, he18⟩ := q4 (by omega)
  refine wv (vix 3 k9 underlying125 type152) ?_
  obtain ⟨_, e20, hc19⟩ := he18 k9 _ (gt_some (show k9 < x0.length from by omega))
  obtain rfl := tyLCond_rd e20
  refine wv (fun W hm => rv_loadN (cs := [.int .i64 ((gt x0 k9).Field), .int .i64 ((gt x0 k9).Low), .int .i64 ((gt x0 k9).High)]) underlying152 type152 rfl rfl (hm.elCells (show (a16.add (k9 * 3)).block < w.heap.size from by rw [add_block]; exact hb17.1) hc19)) ?_
  refine wcs tyCond (laws_toCond_m (gt x0 k9)) (cl_fn cb135 rfl) (fun W hm => laws_toCond_c W _ (gt x0 k9) (tyLCond_mk (x := (gt x0 k9)))) (fun z21 => ?_)
  refine tyCond_sp ?_
  rintro ⟨⟩ rfl
  refine wv (vix 3 k9 underlying36 type117) ?_
  refine WM_setEl (E := tyCond) (e := 117) (u := .agg #[.int .i64 ((laws_toCond_m (gt x0 k9)).Field), .int .i64 ((laws_toCond_m (gt x0 k9)).Low), .int .i64 ((laws_toCond_m (gt x0 k9)).High)]) (k := k9) (p := p7) (n := x0.length) (xs := d10) (eis := []) (js := []) (yv := (laws_toCond_m (gt x0 k9))) (fun W hm => hm) (fun _ _ hs => (tyCond_join (x := (laws_toCond_m (gt x0 k9))) hs)) rfl type117 rfl (by omega) rfl rfl (Wd_none rfl) ?_
  refine WM_nil (QM_block_normal (QM_then (CM_region (wm ?_))))
  refine wv (vadN k9 1 (by omega)) ?_
  refine wa (WM_nil ?_)
  have hn22 := rng_next (R := (List DCond)) (body := F1) (k := k9) (s := d10) (s' := (d10.set k9 (laws_toCond_m (gt x0 k9)))) (show k9 < x0.length from by omega) (show laws_toCondS_b1 x0 k9 d10 = Sum.inr (d10.set k9 (laws_toCond_m (gt x0 k9))) from by unfold laws_toCondS_b1; exact rfl) hF12
  exact QM_round (k9 + 1, (d10.set k9 (laws_toCond_m (gt x0 k9))), ()) sl3 (fun W hm => hm) ⟨(by omega), hn22⟩ (rl (by omega))
 ·have g15 : (decide (((k9 : Nat) : Int) < ((x0.length : Nat) : Int))) = false := decide_eq_false (by omega)
  refine CM_condF rfl g15 ?_
  refine CM_exit (QM_then_exit (QM_then_exit ?_))
  have hE23 : R2 (x0.length - 0) 0 (List.replicate x0.length (⟨(0 : Int), (0 : Int), (0 : Int)⟩ : DCond)) = Sum.inr d10 := rng_end hl14 hF12
  refine QM_block_hit (QM_then (sr (wm (wa (nt' (CM_ret ?_))))))
  refine QM_r1 rfl (RR_tmp rfl) (fun W hm => ⟨.slice (some ⟨p7, 0, none⟩) x0.length x0.length, ?_, ?_⟩)
  ·first | rw [(show laws_toCondS_m x0 = d10 from by unfold laws_toCondS_m; exact fin_inr hE23 (rfl))] | rfl
  ·rw [(show laws_toCondS_m x0 = d10 from by unfold laws_toCondS_m; exact fin_inr hE23 (rfl))]; exact hm

def laws_toIntS_b1 (x0 : (List Int)) (k9 : Nat) (d10 : (List Int)) : (List Int) ⊕ ((List Int)) :=
 Sum.inr (d10.set k9 (gt x0 k9))
def laws_toIntS_m (x0 : (List Int)) : (List Int) :=
 Sum.elim id (fun (s : (List Int)) => s) (rng (R := (List Int)) (fun k (s : (List Int)) => laws_toIntS_b1 x0 k s) (x0.length - 0) 0 (List.replicate x0.length (0 : Int)))
theorem cb102 : Cb Try.prog 102 := ⟨f102, _, func102, rfl, by decide⟩
theorem laws_toIntS_c (w : World) (z0 : Value) (x0 : (List Int)) (r_0 : rdS tInt w w.heap.size z0 x0) (s_0 : x0.length ≤ 68719476736) :
  Calls Try.prog 102 #[z0] w fun e w' => ∃ v : Value, e = .returned (v) ∧ Mem w.heap.size w [iOwn (tSl tInt 3) [v] (laws_toIntS_m x0)] w' := by
 have r5 := r_0
 obtain ⟨m1, A2, c3, rfl, q4⟩ := r_0
 have l6 : x0.length ≤ 68719476736 := s_0
 refine ce1 (L := [(0, .slice A2 x0.length c3)]) (N := 22) func102 ?_
 refine sr (wa (nt' (sr (wm ?_))))
 refine wv (vlen underlying37) ?_
 refine WM_make (E := tInt) (n := x0.length) (x0 := (0 : Int)) underlying37 type3 rfl rfl rfl (fun _ => tInt_own) rfl rfl (show x0.length * 8 ≤ 281474976710656 from by omega) (by omega) (Wd_none rfl) (by decide) (fun p7 => ?_)
 refine wa (nt' (CM_seq (sr (wa (nt' (CM_block ?_))))))
 let F1 := fun k (s : (List Int)) => laws_toIntS_b1 x0 k s
 let R2 := rng (R := (List Int)) F1
 refine CM_loop (σ := Nat × ((List Int)) × (Unit)) (fun s => [(0, .slice A2 x0.length c3), (3, .slice (some ⟨p7, 0, none⟩) x0.length x0.length), (4, .int .i64 ((s.1 : Nat) : Int))]) (fun s => [iOwn (tSl tInt 3) [.slice (some ⟨p7, 0, none⟩) x0.length x0.length] s.2.1]) (fun s => s.1 ≤ x0.length ∧ R2 (x0.length - s.1) s.1 s.2.1 = R2 (x0.length - 0) 0 (List.replicate x0.length (0 : Int))) (fun s => x0.length - s.1) (0, (List.replicate x0.length (0 : Int)), ()) sl3 (fun W hm => hm) ⟨(by omega), rfl⟩ ?_
 rintro ⟨k9, d10, ⟨⟩⟩ H13
 obtain ⟨hk11, hF12⟩ : k9 ≤ x0.length ∧ R2 (x0.length - k9) k9 d10 = R2 (x0.length - 0) 0 (List.replicate x0.length (0 : Int)) := H13
 show CM Try.prog 22 _ _ _ _ [(0, .slice A2 x0.length c3), (3, .slice (some ⟨p7, 0, none⟩) x0.length x0.length), (4, .int .i64 ((k9 : Nat) : Int))] [iOwn (tSl tInt 3) [.slice (some ⟨p7, 0, none⟩) x0.length x0.length] d10]
 refine CM_seq (sr (wm (wm ?_)))
 refine wv (vlen underlying37) ?_
 refine wv vlss ?_
 refine nt' ?_
 by_cases hl14 : k9 < x0.length
 ·have g15 : (decide (((k9 : Nat) : Int) < ((x0.length : Nat) : Int))) = true := decide_eq_true (by omega)
  refine CM_condT rfl g15 ?_
  refine CM_skip (QM_then (CM_seq (CM_block (CM_region (wm (wm (wm (wm ?_))))))))
  obtain ⟨a16, rfl, hb17, he18⟩ := q4 (by omega)
  refine wv (vix 1 k9 underlying37 type3) ?_
  refine wv (fun W hm => rv_load underlying3 rfl rfl ((hm.cell0 (show (a16.add (k9 * 1)).block < w.heap.size from by rw [add_block]; exact hb17.1)).trans (rdS_int he18 k9 (by omega)))) ?_
  refine wv (vix 1 k9 underlying37 type3) ?_
  refine WM_setEl (E := tInt) (e := 3) (u := .int .i64 (gt x0 k9)) (k := k9) (p := p7) (n := x0.length) (xs := d10) (eis := []) (js := []) (yv := (gt x0 k9)) (fun W hm => hm) (fun _ _ hs => (Sep.nil hs ▸ tInt_own)) rfl type3 rfl (by omega) rfl rfl (Wd_none rfl) ?_
  refine WM_nil (QM_block_normal (QM_then (CM_region (wm ?_))))
  refine wv (vadN k9 1 (by omega)) ?_
  refine wa (WM_nil ?_)
  have hn19 := rng_next (R := (List Int)) (body := F1) (k := k9) (s := d10) (s' := (d10.set k9 (gt x0 k9))) (show k9 < x0.length from by omega) (show laws_toIntS_b1 x0 k9 d10 = Sum.inr (d10.set k9 (gt x0 k9)) from by unfold laws_toIntS_b1; exact rfl) hF12
  exact QM_round (k9 + 1, (d10.set k9 (gt x0 k9)), ()) sl3 (fun W hm => hm) ⟨(by omega), hn19⟩ (rl (by omega))
 ·have g15 : (decide (((k9 : Nat) : Int) < ((x0.length : Nat) : Int))) = false := decide_eq_false (by omega)
  refine CM_condF rfl g15 ?_
  refine CM_exit (QM_then_exit (QM_then_exit ?_))
  have hE20 : R2 (x0.length - 0) 0 (List.replicate x0.length (0 : Int)) = Sum.inr d10 := rng_end hl14 hF12
  refine QM_block_hit (QM_then (sr (wm (wa (nt' (CM_ret ?_))))))
  refine QM_r1 rfl (RR_tmp rfl) (fun W hm => ⟨.slice (some ⟨p7, 0, none⟩) x0.length x0.length, ?_, ?_⟩)
  ·first | rw [(show laws_toIntS_m x0 = d10 from by unfold laws_toIntS_m; exact fin_inr hE20 (rfl))] | rfl
  ·rw [(show laws_toIntS_m x0 = d10 from by unfold laws_toIntS_m; exact fin_inr hE20 (rfl))]; exact hm

def laws_toQuery_m (x0 : DQuery) : DQuery :=
 (⟨x0.Id, x0.Tenant, (laws_toCondS_m x0.Conds), (laws_toIntS_m x0.Out)⟩ : DQuery)
theorem cb100 : Cb Try.prog 100 := ⟨f100, _, func100, rfl, by decide⟩
theorem laws_toQuery_c (w : World) (z0 : List Value) (x0 : DQuery) (r_0 : tyLQuery.rd w w.heap.size z0 x0) (s_0 : smQuery 68719476736 x0) :
  Calls Try.prog 100 #[.agg z0.toArray] w fun e w' => ∃ v : List Value, e = .returned (.agg v.toArray) ∧ Mem w.heap.size w [iOwn tyQuery v (laws_toQuery_m x0)] w' := by
 obtain ⟨v1, v3, rfl, r2, r4⟩ := tyLQuery_rd r_0
 have r9 := r2
 obtain ⟨m5, A6, c7, rfl, q8⟩ := r2
 have r14 := r4
 obtain ⟨m10, A11, c12, rfl, q13⟩ := r4
 have l15 : x0.Conds.length ≤ 68719476736 := s_0.1
 have l16 : x0.Out.length ≤ 68719476736 := s_0.2
 refine ce1 (L := [(0, .agg #[.int .i64 x0.Id, .int .i64 x0.Tenant, .slice A6 x0.Conds.length c7, .slice A11 x0.Out.length c12])]) (N := 19) func100 ?_
 refine sr ?_
 refine WM_box rfl (Wd_none rfl) (by decide) (fun p17 => ?_)
 refine WM_alloc type39 rfl (Wd_none rfl) (by decide) (fun p18 => ?_)
 refine nt' (sr ?_)
 refine WM_alloc type39 rfl (Wd_none rfl) (by decide) (fun p19 => ?_)
 refine nt' (sr ?_)
 refine wv (vf underlying127 rfl type3) ?_
 refine wv (vl 2 0 underlying3) ?_
 refine wv (vf underlying39 rfl type3) ?_
 let K1 : List Value := [.int .i64 0, .int .i64 0, .slice none 0 0, .slice none 0 0]
 let K2 : List Value := [.int .i64 x0.Id, .int .i64 x0.Tenant, .slice A6 x0.Conds.length c7, .slice A11 x0.Out.length c12]
 refine sb 0 [.int .i64 x0.Id, .int .i64 0, .slice none 0 0, .slice none 0 0] [iBox p18 39 K1, iBox p17 127 K2] (fun W hm => hm) type3 ?_
 refine nt' (sr ?_)
 refine wv (vf underlying127 rfl type3) ?_
 refine wv (vl 2 1 underlying3) ?_
 refine wv (vf underlying39 rfl type3) ?_
 refine sb 1 [.int .i64 x0.Id, .int .i64 x0.Tenant, .slice none 0 0, .slice none 0 0] [iBox p18 39 K1, iBox p17 127 K2] (fun W hm => hm) type3 ?_
 refine nt' (sr ?_)
 refine wv (vf underlying127 rfl type125) ?_
 refine wv (vl 2 2 underlying125) ?_
 refine wcl (tSl tyCond 117) (laws_toCondS_m x0.Conds) (cl_fn cb124 rfl) (fun W hm => laws_toCondS_c W _ x0.Conds (hm.rdS0 r9) s_0.1) (fun z20 => ?_)
 refine WM_form (n := 0) rfl ?_
 rintro A21 c22 rfl m23
 refine wv (vf underlying39 rfl type36) ?_
 let I4 : It := iOwn (tSl tyCond 117) [.slice A21 (laws_toCondS_m x0.Conds).length c22] (laws_toCondS_m x0.Conds)
 refine sb 2 [.int .i64 x0.Id, .int .i64 x0.Tenant, .slice A21 (laws_toCondS_m x0.Conds).length c22, .slice none 0 0] [I4, iBox p18 39 K1, iBox p17 127 K2] (pk [1, 0, 2, 3]) type36 ?_
 refine nt' (sr ?_)
 refine wv (vf underlying127 rfl type37) ?_
 refine wv (vl 3 3 underlying37) ?_
 refine wcl (tSl tInt 3) (laws_toIntS_m x0.Out) (cl_fn cb102 rfl) (fun W hm => laws_toIntS_c W _ x0.Out (hm.rdS0 r14) s_0.2) (fun z25 => ?_)
 refine WM_form (n := 0) rfl ?_
 rintro A26 c27 rfl m28
 refine wv (vf underlying39 rfl type37) ?_
 let K3 : List Value := [.int .i64 x0.Id, .int .i64 x0.Tenant, .slice A21 (laws_toCondS_m x0.Conds).length c22, .slice A26 (laws_toIntS_m x0.Out).length c27]
 let I5 : It := iOwn (tSl tInt 3) [.slice A26 (laws_toIntS_m x0.Out).length c27] (laws_toIntS_m x0.Out)
 refine sb 3 K3 [I5, I4, iBox p18 39 K1, iBox p17 127 K2] (pk [1, 0, 2, 3, 4]) type37 ?_
 refine nt' (sr ?_)
 refine wv (fun W hm => rv_loadN (cs := K3) underlying39 type39 rfl rfl (hm.boxCells (n := 0) rfl)) ?_
 refine sb 0 K3 [iBox p19 39 K3, I5, I4, iBox p17 127 K2] (pk [3, 0, 1, 2, 4]) type39 ?_
 refine nt' (CM_ret ?_)
 refine QM_r1 rfl (RR_cell (n := 0) rfl rfl underlying39 type39 rfl) (fun W hm => ⟨K3, ?_, ?_⟩)
 ·first | rw [(show laws_toQuery_m x0 = (⟨x0.Id, x0.Tenant, (laws_toCondS_m x0.Conds), (laws_toIntS_m x0.Out)⟩ : DQuery) from by unfold laws_toQuery_m; exact rfl)] | rfl
 ·rw [(show laws_toQuery_m x0 = (⟨x0.Id, x0.Tenant, (laws_toCondS_m x0.Conds), (laws_toIntS_m x0.Out)⟩ : DQuery) from by unfold laws_toQuery_m; exact rfl)]; exact Mem.join (is := [I4, I5]) (js := []) (fun _ _ hs => tyQuery_join (x := (⟨x0.Id, x0.Tenant, (laws_toCondS_m x0.Conds), (laws_toIntS_m x0.Out)⟩ : DQuery)) hs) (hm.pick [3, 2] (by decide))

def laws_toQueryS_b1 (x0 : (List DQuery)) (k9 : Nat) (d10 : (List DQuery)) : (List DQuery) ⊕ ((List DQuery)) :=
 Sum.inr (d10.set k9 (laws_toQuery_m (gt x0 k9)))
def laws_toQueryS_m (x0 : (List DQuery)) : (List DQuery) :=
 Sum.elim id (fun (s : (List DQuery)) => s) (rng (R := (List DQuery)) (fun k (s : (List DQuery)) => laws_toQueryS_b1 x0 k s) (x0.length - 0) 0 (List.replicate x0.length (⟨(0 : Int), (0 : Int), [], []⟩ : DQuery)))
theorem cb62 : Cb Try.prog 62 := ⟨f62, _, func62, rfl, by decide⟩
theorem laws_toQueryS_c (w : World) (z0 : Value) (x0 : (List DQuery)) (r_0 : rdS tyLQuery w w.heap.size z0 x0) (s_0 : (x0.length ≤ 68719476736 ∧ ∀ y ∈ x0, smQuery 68719476736 y)) :
  Calls Try.prog 62 #[z0] w fun e w' => ∃ v : Value, e = .returned (v) ∧ Mem w.heap.size w [iOwn (tSl tyQuery 39) [v] (laws_toQueryS_m x0)] w' := by
 have r5 := r_0
 obtain ⟨m1, A2, c3, rfl, q4⟩ := r_0
 have l6 : x0.length ≤ 68719476736 := s_0.1
 refine ce1 (L := [(0, .slice A2 x0.length c3)]) (N := 23) func62 ?_
 refine sr (wa (nt' (sr (wm ?_))))
 refine wv (vlen underlying54) ?_
 refine WM_make (E := tyQuery) (n := x0.length) (x0 := (⟨(0 : Int), (0 : Int), [], []⟩ : DQuery)) underlying24 type39 rfl rfl rfl (fun _ => ⟨[], [], _, _, rfl, rfl, tInt_own, ⟨[], [], _, _, rfl, rfl, tInt_own, ⟨[], [], _, _, rfl, rfl, own_nil, own_nil⟩⟩⟩) rfl rfl (show x0.length * 64 ≤ 281474976710656 from by omega) (by omega) (Wd_none rfl) (by decide) (fun p7 => ?_)
 refine wa (nt' (CM_seq (sr (wa (nt' (CM_block ?_))))))
 let F1 := fun k (s : (List DQuery)) => laws_toQueryS_b1 x0 k s
 let R2 := rng (R := (List DQuery)) F1
 refine CM_loop (σ := Nat × ((List DQuery)) × (Unit)) (fun s => [(0, .slice A2 x0.length c3), (3, .slice (some ⟨p7, 0, none⟩) x0.length x0.length), (4, .int .i64 ((s.1 : Nat) : Int))]) (fun s => [iOwn (tSl tyQuery 39) [.slice (some ⟨p7, 0, none⟩) x0.length x0.length] s.2.1]) (fun s => s.1 ≤ x0.length ∧ R2 (x0.length - s.1) s.1 s.2.1 = R2 (x0.length - 0) 0 (List.replicate x0.length (⟨(0 : Int), (0 : Int), [], []⟩ : DQuery))) (fun s => x0.length - s.1) (0, (List.replicate x0.length (⟨(0 : Int), (0 : Int), [], []⟩ : DQuery)), ()) sl3 (fun W hm => hm) ⟨(by omega), rfl⟩ ?_
 rintro ⟨k9, d10, ⟨⟩⟩ H13
 obtain ⟨hk11, hF12⟩ : k9 ≤ x0.length ∧ R2 (x0.length - k9) k9 d10 = R2 (x0.length - 0) 0 (List.replicate x0.length (⟨(0 : Int), (0 : Int), [], []⟩ : DQuery)) := H13
 show CM Try.prog 23 _ _ _ _ [(0, .slice A2 x0.length c3), (3, .slice (some ⟨p7, 0, none⟩) x0.length x0.length), (4, .int .i64 ((k9 : Nat) : Int))] [iOwn (tSl tyQuery 39) [.slice (some ⟨p7, 0, none⟩) x0.length x0.length] d10]
 refine CM_seq (sr (wm (wm ?_)))
 refine wv (vlen underlying54) ?_
 refine wv vlss ?_
 refine nt' ?_
 by_cases hl14 : k9 < x0.length
 ·have g15 : (decide (((k9 : Nat) : Int) < ((x0.length : Nat) : Int))) = true := decide_eq_true (by omega)
  refine CM_condT rfl g15 ?_
  refine CM_skip (QM_then (CM_seq (CM_block (CM_region (wm (wm (wm (wm ?_))))))))
  obtain ⟨a16, rfl, hb17, he18⟩ := q4 (by omega)
  refine wv (vix 4 k9 underlying54 type127) ?_
  obtain ⟨_, e24, hc19⟩ := he18 k9 _ (gt_some (show k9 < x0.length from by omega))
  obtain ⟨v20, v22, rfl, r21, r23⟩ := tyLQuery_rd e24
  have l25 : ((gt x0 k9).Conds).length ≤ 68719476736 := (s_0.2 _ (gt_mem (show k9 < x0.length from by omega))).1
  have l26 : ((gt x0 k9).Out).length ≤ 68719476736 := (s_0.2 _ (gt_mem (show k9 < x0.length from by omega))).2
  have r31 := r21
  obtain ⟨m27, A28, c29, rfl, q30⟩ := r21
  have r36 := r23
  obtain ⟨m32, A33, c34, rfl, q35⟩ := r23
  refine wv (fun W hm => rv_loadN (cs := [.int .i64 ((gt x0 k9).Id), .int .i64 ((gt x0 k9).Tenant), .slice A28 ((gt x0 k9).Conds).length c29, .slice A33 ((gt x0 k9).Out).length c34]) underlying127 type127 rfl rfl (hm.elCells (show (a16.add (k9 * 4)).block < w.heap.size from by rw [add_block]; exact hb17.1) hc19)) ?_
  refine wcs tyQuery (laws_toQuery_m (gt x0 k9)) (cl_fn cb100 rfl) (fun W hm => laws_toQuery_c W _ (gt x0 k9) (tyLQuery_mk (x := (gt x0 k9)) (hm.rdS0 r31) (hm.rdS0 r36)) (s_0.2 _ (gt_mem (show k9 < x0.length from by omega)))) (fun z37 => ?_)
  refine tyQuery_sp ?_
  rintro ⟨v38, v39⟩ rfl
  refine WM_form (n := 0) rfl ?_
  rintro A40 c41 rfl m42
  refine WM_form (n := 1) rfl ?_
  rintro A44 c45 rfl m46
  refine wv (vix 4 k9 underlying24 type39) ?_
  refine WM_setEl (E := tyQuery) (e := 39) (u := .agg #[.int .i64 ((laws_toQuery_m (gt x0 k9)).Id), .int .i64 ((laws_toQuery_m (gt x0 k9)).Tenant), .slice A40 ((laws_toQuery_m (gt x0 k9)).Conds).length c41, .slice A44 ((laws_toQuery_m (gt x0 k9)).Out).length c45]) (k := k9) (p := p7) (n := x0.length) (xs := d10) (eis := [iOwn (tSl tyCond 117) [.slice A40 ((laws_toQuery_m (gt x0 k9)).Conds).length c41] ((laws_toQuery_m (gt x0 k9)).Conds), iOwn (tSl tInt 3) [.slice A44 ((laws_toQuery_m (gt x0 k9)).Out).length c45] ((laws_toQuery_m (gt x0 k9)).Out)]) (js := []) (yv := (laws_toQuery_m (gt x0 k9))) (pk [2, 0, 1]) (fun _ _ hs => (tyQuery_join (x := (laws_toQuery_m (gt x0 k9))) hs)) rfl type39 rfl (by omega) rfl rfl (Wd_none rfl) ?_
  refine WM_nil (QM_block_normal (QM_then (CM_region (wm ?_))))
  refine wv (vadN k9 1 (by omega)) ?_
  refine wa (WM_nil ?_)
  have hn48 := rng_next (R := (List DQuery)) (body := F1) (k := k9) (s := d10) (s' := (d10.set k9 (laws_toQuery_m (gt x0 k9)))) (show k9 < x0.length from by omega) (show laws_toQueryS_b1 x0 k9 d10 = Sum.inr (d10.set k9 (laws_toQuery_m (gt x0 k9))) from by unfold laws_toQueryS_b1; exact rfl) hF12
  exact QM_round (k9 + 1, (d10.set k9 (laws_toQuery_m (gt x0 k9))), ()) sl3 (fun W hm => hm) ⟨(by omega), hn48⟩ (rl (by omega))
 ·have g15 : (decide (((k9 : Nat) : Int) < ((x0.length : Nat) : Int))) = false := decide_eq_false (by omega)
  refine CM_condF rfl g15 ?_
  refine CM_exit (QM_then_exit (QM_then_exit ?_))
  have hE49 : R2 (x0.length - 0) 0 (List.replicate x0.length (⟨(0 : Int), (0 : Int), [], []⟩ : DQuery)) = Sum.inr d10 := rng_end hl14 hF12
  refine QM_block_hit (QM_then (sr (wm (wa (nt' (CM_ret ?_))))))
  refine QM_r1 rfl (RR_tmp rfl) (fun W hm => ⟨.slice (some ⟨p7, 0, none⟩) x0.length x0.length, ?_, ?_⟩)
  ·first | rw [(show laws_toQueryS_m x0 = d10 from by unfold laws_toQueryS_m; exact fin_inr hE49 (rfl))] | rfl
  ·rw [(show laws_toQueryS_m x0 = d10 from by unfold laws_toQueryS_m; exact fin_inr hE49 (rfl))]; exact hm

def laws_toSpan_m (x0 : DSpan) : DSpan :=
 (⟨x0.From, x0.To, (laws_toIntS_m x0.Set)⟩ : DSpan)
theorem cb125 : Cb Try.prog 125 := ⟨f125, _, func125, rfl, by decide⟩
theorem laws_toSpan_c (w : World) (z0 : List Value) (x0 : DSpan) (r_0 : tyLSpan.rd w w.heap.size z0 x0) (s_0 : smSpan 68719476736 x0) :
  Calls Try.prog 125 #[.agg z0.toArray] w fun e w' => ∃ v : List Value, e = .returned (.agg v.toArray) ∧ Mem w.heap.size w [iOwn tySpan v (laws_toSpan_m x0)] w' := by
 obtain ⟨v1, rfl, r2⟩ := tyLSpan_rd r_0
 have r7 := r2
 obtain ⟨m3, A4, c5, rfl, q6⟩ := r2
 have l8 : x0.Set.length ≤ 68719476736 := s_0
 refine ce1 (L := [(0, .agg #[.int .i64 x0.From, .int .i64 x0.To, .slice A4 x0.Set.length c5])]) (N := 15) func125 ?_
 refine sr ?_
 refine WM_box rfl (Wd_none rfl) (by decide) (fun p9 => ?_)
 refine WM_alloc type113 rfl (Wd_none rfl) (by decide) (fun p10 => ?_)
 refine nt' (sr ?_)
 refine WM_alloc type113 rfl (Wd_none rfl) (by decide) (fun p11 => ?_)
 refine nt' (sr ?_)
 refine wv (vf underlying143 rfl type3) ?_
 refine wv (vl 2 0 underlying3) ?_
 refine wv (vf underlying113 rfl type3) ?_
 let K1 : List Value := [.int .i64 x0.From, .int .i64 x0.To, .slice A4 x0.Set.length c5]
 let I3 : It := iBox p10 113 [.int .i64 0, .int .i64 0, .slice none 0 0]
 refine sb 0 [.int .i64 x0.From, .int .i64 0, .slice none 0 0] [I3, iBox p9 143 K1] (fun W hm => hm) type3 ?_
 refine nt' (sr ?_)
 refine wv (vf underlying143 rfl type3) ?_
 refine wv (vl 2 1 underlying3) ?_
 refine wv (vf underlying113 rfl type3) ?_
 refine sb 1 [.int .i64 x0.From, .int .i64 x0.To, .slice none 0 0] [I3, iBox p9 143 K1] (fun W hm => hm) type3 ?_
 refine nt' (sr ?_)
 refine wv (vf underlying143 rfl type37) ?_
 refine wv (vl 2 2 underlying37) ?_
 refine wcl (tSl tInt 3) (laws_toIntS_m x0.Set) (cl_fn cb102 rfl) (fun W hm => laws_toIntS_c W _ x0.Set (hm.rdS0 r7) s_0) (fun z12 => ?_)
 refine WM_form (n := 0) rfl ?_
 rintro A13 c14 rfl m15
 refine wv (vf underlying113 rfl type37) ?_
 let K2 : List Value := [.int .i64 x0.From, .int .i64 x0.To, .slice A13 (laws_toIntS_m x0.Set).length c14]
 let I4 : It := iOwn (tSl tInt 3) [.slice A13 (laws_toIntS_m x0.Set).length c14] (laws_toIntS_m x0.Set)
 refine sb 2 K2 [I4, I3, iBox p9 143 K1] (pk [1, 0, 2, 3]) type37 ?_
 refine nt' (sr ?_)
 refine wv (fun W hm => rv_loadN (cs := K2) underlying113 type113 rfl rfl (hm.boxCells (n := 0) rfl)) ?_
 refine sb 0 K2 [iBox p11 113 K2, I4, iBox p9 143 K1] (pk [2, 0, 1, 3]) type113 ?_
 refine nt' (CM_ret ?_)
 refine QM_r1 rfl (RR_cell (n := 0) rfl rfl underlying113 type113 rfl) (fun W hm => ⟨K2, ?_, ?_⟩)
 ·first | rw [(show laws_toSpan_m x0 = (⟨x0.From, x0.To, (laws_toIntS_m x0.Set)⟩ : DSpan) from by unfold laws_toSpan_m; exact rfl)] | rfl
 ·rw [(show laws_toSpan_m x0 = (⟨x0.From, x0.To, (laws_toIntS_m x0.Set)⟩ : DSpan) from by unfold laws_toSpan_m; exact rfl)]; exact Mem.join (is := [I4]) (js := []) (fun _ _ hs => tySpan_join (x := (⟨x0.From, x0.To, (laws_toIntS_m x0.Set)⟩ : DSpan)) hs) (hm.pick [2] (by decide))

def laws_toSpanS_b1 (x0 : (List DSpan)) (k9 : Nat) (d10 : (List DSpan)) : (List DSpan) ⊕ ((List DSpan)) :=
 Sum.inr (d10.set k9 (laws_toSpan_m (gt x0 k9)))
def laws_toSpanS_m (x0 : (List DSpan)) : (List DSpan) :=
 Sum.elim id (fun (s : (List DSpan)) => s) (rng (R := (List DSpan)) (fun k (s : (List DSpan)) => laws_toSpanS_b1 x0 k s) (x0.length - 0) 0 (List.replicate x0.length (⟨(0 : Int), (0 : Int), []⟩ : DSpan)))
theorem cb101 : Cb Try.prog 101 := ⟨f101, _, func101, rfl, by decide⟩
theorem laws_toSpanS_c (w : World) (z0 : Value) (x0 : (List DSpan)) (r_0 : rdS tyLSpan w w.heap.size z0 x0) (s_0 : (x0.length ≤ 68719476736 ∧ ∀ y ∈ x0, smSpan 68719476736 y)) :
  Calls Try.prog 101 #[z0] w fun e w' => ∃ v : Value, e = .returned (v) ∧ Mem w.heap.size w [iOwn (tSl tySpan 113) [v] (laws_toSpanS_m x0)] w' := by
 have r5 := r_0
 obtain ⟨m1, A2, c3, rfl, q4⟩ := r_0
 have l6 : x0.length ≤ 68719476736 := s_0.1
 refine ce1 (L := [(0, .slice A2 x0.length c3)]) (N := 23) func101 ?_
 refine sr (wa (nt' (sr (wm ?_))))
 refine wv (vlen underlying129) ?_
 refine WM_make (E := tySpan) (n := x0.length) (x0 := (⟨(0 : Int), (0 : Int), []⟩ : DSpan)) underlying78 type113 rfl rfl rfl (fun _ => ⟨[], [], _, _, rfl, rfl, tInt_own, ⟨[], [], _, _, rfl, rfl, tInt_own, own_nil⟩⟩) rfl rfl (show x0.length * 40 ≤ 281474976710656 from by omega) (by omega) (Wd_none rfl) (by decide) (fun p7 => ?_)
 refine wa (nt' (CM_seq (sr (wa (nt' (CM_block ?_))))))
 let F1 := fun k (s : (List DSpan)) => laws_toSpanS_b1 x0 k s
 let R2 := rng (R := (List DSpan)) F1
 refine CM_loop (σ := Nat × ((List DSpan)) × (Unit)) (fun s => [(0, .slice A2 x0.length c3), (3, .slice (some ⟨p7, 0, none⟩) x0.length x0.length), (4, .int .i64 ((s.1 : Nat) : Int))]) (fun s => [iOwn (tSl tySpan 113) [.slice (some ⟨p7, 0, none⟩) x0.length x0.length] s.2.1]) (fun s => s.1 ≤ x0.length ∧ R2 (x0.length - s.1) s.1 s.2.1 = R2 (x0.length - 0) 0 (List.replicate x0.length (⟨(0 : Int), (0 : Int), []⟩ : DSpan))) (fun s => x0.length - s.1) (0, (List.replicate x0.length (⟨(0 : Int), (0 : Int), []⟩ : DSpan)), ()) sl3 (fun W hm => hm) ⟨(by omega), rfl⟩ ?_
 rintro ⟨k9, d10, ⟨⟩⟩ H13
 obtain ⟨hk11, hF12⟩ : k9 ≤ x0.length ∧ R2 (x0.length - k9) k9 d10 = R2 (x0.length - 0) 0 (List.replicate x0.length (⟨(0 : Int), (0 : Int), []⟩ : DSpan)) := H13
 show CM Try.prog 23 _ _ _ _ [(0, .slice A2 x0.length c3), (3, .slice (some ⟨p7, 0, none⟩) x0.length x0.length), (4, .int .i64 ((k9 : Nat) : Int))] [iOwn (tSl tySpan 113) [.slice (some ⟨p7, 0, none⟩) x0.length x0.length] d10]
 refine CM_seq (sr (wm (wm ?_)))
 refine wv (vlen underlying129) ?_
 refine wv vlss ?_
 refine nt' ?_
 by_cases hl14 : k9 < x0.length
 ·have g15 : (decide (((k9 : Nat) : Int) < ((x0.length : Nat) : Int))) = true := decide_eq_true (by omega)
  refine CM_condT rfl g15 ?_
  refine CM_skip (QM_then (CM_seq (CM_block (CM_region (wm (wm (wm (wm ?_))))))))
  obtain ⟨a16, rfl, hb17, he18⟩ := q4 (by omega)
  refine wv (vix 3 k9 underlying129 type143) ?_
  obtain ⟨_, e22, hc19⟩ := he18 k9 _ (gt_some (show k9 < x0.length from by omega))
  obtain ⟨v20, rfl, r21⟩ := tyLSpan_rd e22
  have l23 : ((gt x0 k9).Set).length ≤ 68719476736 := (s_0.2 _ (gt_mem (show k9 < x0.length from by omega)))
  have r28 := r21
  obtain ⟨m24, A25, c26, rfl, q27⟩ := r21
  refine wv (fun W hm => rv_loadN (cs := [.int .i64 ((gt x0 k9).From), .int .i64 ((gt x0 k9).To), .slice A25 ((gt x0 k9).Set).length c26]) underlying143 type143 rfl rfl (hm.elCells (show (a16.add (k9 * 3)).block < w.heap.size from by rw [add_block]; exact hb17.1) hc19)) ?_
  refine wcs tySpan (laws_toSpan_m (gt x0 k9)) (cl_fn cb125 rfl) (fun W hm => laws_toSpan_c W _ (gt x0 k9) (tyLSpan_mk (x := (gt x0 k9)) (hm.rdS0 r28)) (s_0.2 _ (gt_mem (show k9 < x0.length from by omega)))) (fun z29 => ?_)
  refine tySpan_sp ?_
  rintro v30 rfl
  refine WM_form (n := 0) rfl ?_
  rintro A31 c32 rfl m33
  refine wv (vix 3 k9 underlying78 type113) ?_
  refine WM_setEl (E := tySpan) (e := 113) (u := .agg #[.int .i64 ((laws_toSpan_m (gt x0 k9)).From), .int .i64 ((laws_toSpan_m (gt x0 k9)).To), .slice A31 ((laws_toSpan_m (gt x0 k9)).Set).length c32]) (k := k9) (p := p7) (n := x0.length) (xs := d10) (eis := [iOwn (tSl tInt 3) [.slice A31 ((laws_toSpan_m (gt x0 k9)).Set).length c32] ((laws_toSpan_m (gt x0 k9)).Set)]) (js := []) (yv := (laws_toSpan_m (gt x0 k9))) (pk [1, 0]) (fun _ _ hs => (tySpan_join (x := (laws_toSpan_m (gt x0 k9))) hs)) rfl type113 rfl (by omega) rfl rfl (Wd_none rfl) ?_
  refine WM_nil (QM_block_normal (QM_then (CM_region (wm ?_))))
  refine wv (vadN k9 1 (by omega)) ?_
  refine wa (WM_nil ?_)
  have hn35 := rng_next (R := (List DSpan)) (body := F1) (k := k9) (s := d10) (s' := (d10.set k9 (laws_toSpan_m (gt x0 k9)))) (show k9 < x0.length from by omega) (show laws_toSpanS_b1 x0 k9 d10 = Sum.inr (d10.set k9 (laws_toSpan_m (gt x0 k9))) from by unfold laws_toSpanS_b1; exact rfl) hF12
  exact QM_round (k9 + 1, (d10.set k9 (laws_toSpan_m (gt x0 k9))), ()) sl3 (fun W hm => hm) ⟨(by omega), hn35⟩ (rl (by omega))
 ·have g15 : (decide (((k9 : Nat) : Int) < ((x0.length : Nat) : Int))) = false := decide_eq_false (by omega)
  refine CM_condF rfl g15 ?_
  refine CM_exit (QM_then_exit (QM_then_exit ?_))
  have hE36 : R2 (x0.length - 0) 0 (List.replicate x0.length (⟨(0 : Int), (0 : Int), []⟩ : DSpan)) = Sum.inr d10 := rng_end hl14 hF12
  refine QM_block_hit (QM_then (sr (wm (wa (nt' (CM_ret ?_))))))
  refine QM_r1 rfl (RR_tmp rfl) (fun W hm => ⟨.slice (some ⟨p7, 0, none⟩) x0.length x0.length, ?_, ?_⟩)
  ·first | rw [(show laws_toSpanS_m x0 = d10 from by unfold laws_toSpanS_m; exact fin_inr hE36 (rfl))] | rfl
  ·rw [(show laws_toSpanS_m x0 = d10 from by unfold laws_toSpanS_m; exact fin_inr hE36 (rfl))]; exact hm

def laws_toSpanSS_b1 (x0 : (List (List DSpan))) (k9 : Nat) (d10 : (List (List DSpan))) : (List (List DSpan)) ⊕ ((List (List DSpan))) :=
 Sum.inr (d10.set k9 (laws_toSpanS_m (gt x0 k9)))
def laws_toSpanSS_m (x0 : (List (List DSpan))) : (List (List DSpan)) :=
 Sum.elim id (fun (s : (List (List DSpan))) => s) (rng (R := (List (List DSpan))) (fun k (s : (List (List DSpan))) => laws_toSpanSS_b1 x0 k s) (x0.length - 0) 0 (List.replicate x0.length []))
theorem cb63 : Cb Try.prog 63 := ⟨f63, _, func63, rfl, by decide⟩
theorem laws_toSpanSS_c (w : World) (z0 : Value) (x0 : (List (List DSpan))) (r_0 : rdS (tSl tyLSpan 143) w w.heap.size z0 x0) (s_0 : (x0.length ≤ 68719476736 ∧ ∀ y ∈ x0, (y.length ≤ 68719476736 ∧ ∀ y1 ∈ y, smSpan 68719476736 y1))) :
  Calls Try.prog 63 #[z0] w fun e w' => ∃ v : Value, e = .returned (v) ∧ Mem w.heap.size w [iOwn (tSl (tSl tySpan 113) 78) [v] (laws_toSpanSS_m x0)] w' := by
 have r5 := r_0
 obtain ⟨m1, A2, c3, rfl, q4⟩ := r_0
 have l6 : x0.length ≤ 68719476736 := s_0.1
 refine ce1 (L := [(0, .slice A2 x0.length c3)]) (N := 23) func63 ?_
 refine sr (wa (nt' (sr (wm ?_))))
 refine wv (vlen underlying55) ?_
 refine WM_make (E := (tSl tySpan 113)) (n := x0.length) (x0 := []) underlying25 type78 rfl rfl rfl (fun _ => own_nil) rfl rfl (show x0.length * 24 ≤ 281474976710656 from by omega) (by omega) (Wd_none rfl) (by decide) (fun p7 => ?_)
 refine wa (nt' (CM_seq (sr (wa (nt' (CM_block ?_))))))
 let F1 := fun k (s : (List (List DSpan))) => laws_toSpanSS_b1 x0 k s
 let R2 := rng (R := (List (List DSpan))) F1
 refine CM_loop (σ := Nat × ((List (List DSpan))) × (Unit)) (fun s => [(0, .slice A2 x0.length c3), (3, .slice (some ⟨p7, 0, none⟩) x0.length x0.length), (4, .int .i64 ((s.1 : Nat) : Int))]) (fun s => [iOwn (tSl (tSl tySpan 113) 78) [.slice (some ⟨p7, 0, none⟩) x0.length x0.length] s.2.1]) (fun s => s.1 ≤ x0.length ∧ R2 (x0.length - s.1) s.1 s.2.1 = R2 (x0.length - 0) 0 (List.replicate x0.length [])) (fun s => x0.length - s.1) (0, (List.replicate x0.length []), ()) sl3 (fun W hm => hm) ⟨(by omega), rfl⟩ ?_
 rintro ⟨k9, d10, ⟨⟩⟩ H13
 obtain ⟨hk11, hF12⟩ : k9 ≤ x0.length ∧ R2 (x0.length - k9) k9 d10 = R2 (x0.length - 0) 0 (List.replicate x0.length []) := H13
 show CM Try.prog 23 _ _ _ _ [(0, .slice A2 x0.length c3), (3, .slice (some ⟨p7, 0, none⟩) x0.length x0.length), (4, .int .i64 ((k9 : Nat) : Int))] [iOwn (tSl (tSl tySpan 113) 78) [.slice (some ⟨p7, 0, none⟩) x0.length x0.length] d10]
 refine CM_seq (sr (wm (wm ?_)))
 refine wv (vlen underlying55) ?_
 refine wv vlss ?_
 refine nt' ?_
 by_cases hl14 : k9 < x0.length
 ·have g15 : (decide (((k9 : Nat) : Int) < ((x0.length : Nat) : Int))) = true := decide_eq_true (by omega)
  refine CM_condT rfl g15 ?_
  refine CM_skip (QM_then (CM_seq (CM_block (CM_region (wm (wm (wm (wm ?_))))))))
  obtain ⟨a16, rfl, hb17, he18⟩ := q4 (by omega)
  refine wv (vix 1 k9 underlying55 type129) ?_
  obtain ⟨_, e20, hc19⟩ := he18 k9 _ (gt_some (show k9 < x0.length from by omega))
  have l21 : (gt x0 k9).length ≤ 68719476736 := (s_0.2 _ (gt_mem (show k9 < x0.length from by omega))).1
  obtain ⟨v22, rfl, r23⟩ := e20
  have r28 := r23
  obtain ⟨m24, A25, c26, rfl, q27⟩ := r23
  refine wv (fun W hm => rv_load underlying129 rfl rfl ((hm.cell0 (show (a16.add (k9 * 1)).block < w.heap.size from by rw [add_block]; exact hb17.1)).trans (hc19 0 _ rfl))) ?_
  refine wcl (tSl tySpan 113) (laws_toSpanS_m (gt x0 k9)) (cl_fn cb101 rfl) (fun W hm => laws_toSpanS_c W _ (gt x0 k9) (hm.rdS0 r28) (s_0.2 _ (gt_mem (show k9 < x0.length from by omega)))) (fun z29 => ?_)
  refine WM_form (n := 0) rfl ?_
  rintro A30 c31 rfl m32
  refine wv (vix 1 k9 underlying25 type78) ?_
  refine WM_setEl (E := (tSl tySpan 113)) (e := 78) (u := .slice A30 (laws_toSpanS_m (gt x0 k9)).length c31) (k := k9) (p := p7) (n := x0.length) (xs := d10) (eis := [iOwn (tSl tySpan 113) [.slice A30 (laws_toSpanS_m (gt x0 k9)).length c31] (laws_toSpanS_m (gt x0 k9))]) (js := []) (yv := (laws_toSpanS_m (gt x0 k9))) (pk [1, 0]) (fun _ _ hs => (Sep.one hs)) rfl type78 rfl (by omega) rfl rfl (Wd_none rfl) ?_
  refine WM_nil (QM_block_normal (QM_then (CM_region (wm ?_))))
  refine wv (vadN k9 1 (by omega)) ?_
  refine wa (WM_nil ?_)
  have hn34 := rng_next (R := (List (List DSpan))) (body := F1) (k := k9) (s := d10) (s' := (d10.set k9 (laws_toSpanS_m (gt x0 k9)))) (show k9 < x0.length from by omega) (show laws_toSpanSS_b1 x0 k9 d10 = Sum.inr (d10.set k9 (laws_toSpanS_m (gt x0 k9))) from by unfold laws_toSpanSS_b1; exact rfl) hF12
  exact QM_round (k9 + 1, (d10.set k9 (laws_toSpanS_m (gt x0 k9))), ()) sl3 (fun W hm => hm) ⟨(by omega), hn34⟩ (rl (by omega))
 ·have g15 : (decide (((k9 : Nat) : Int) < ((x0.length : Nat) : Int))) = false := decide_eq_false (by omega)
  refine CM_condF rfl g15 ?_
  refine CM_exit (QM_then_exit (QM_then_exit ?_))
  have hE35 : R2 (x0.length - 0) 0 (List.replicate x0.length []) = Sum.inr d10 := rng_end hl14 hF12
  refine QM_block_hit (QM_then (sr (wm (wa (nt' (CM_ret ?_))))))
  refine QM_r1 rfl (RR_tmp rfl) (fun W hm => ⟨.slice (some ⟨p7, 0, none⟩) x0.length x0.length, ?_, ?_⟩)
  ·first | rw [(show laws_toSpanSS_m x0 = d10 from by unfold laws_toSpanSS_m; exact fin_inr hE35 (rfl))] | rfl
  ·rw [(show laws_toSpanSS_m x0 = d10 from by unfold laws_toSpanSS_m; exact fin_inr hE35 (rfl))]; exact hm

def laws_toIndex_m (x0 : DIndex) : DIndex :=
 (⟨(laws_toQueryS_m x0.Queries), (laws_toSpanSS_m x0.Fields)⟩ : DIndex)
theorem cb25 : Cb Try.prog 25 := ⟨f25, _, func25, rfl, by decide⟩
theorem laws_toIndex_c (w : World) (z0 : List Value) (x0 : DIndex) (r_0 : tyLIndex.rd w w.heap.size z0 x0) (s_0 : smIndex 68719476736 x0) :
  Calls Try.prog 25 #[.agg z0.toArray] w fun e w' => ∃ v : List Value, e = .returned (.agg v.toArray) ∧ Mem w.heap.size w [iOwn tyIndex v (laws_toIndex_m x0)] w' := by
 obtain ⟨v1, v3, rfl, r2, r4⟩ := tyLIndex_rd r_0
 have r9 := r2
 obtain ⟨m5, A6, c7, rfl, q8⟩ := r2
 have r14 := r4
 obtain ⟨m10, A11, c12, rfl, q13⟩ := r4
 have l15 : x0.Queries.length ≤ 68719476736 := s_0.1.1
 have l16 : x0.Fields.length ≤ 68719476736 := s_0.2.1
 refine ce1 (L := [(0, .agg #[.slice A6 x0.Queries.length c7, .slice A11 x0.Fields.length c12])]) (N := 13) func25 ?_
 refine sr ?_
 refine WM_box rfl (Wd_none rfl) (by decide) (fun p17 => ?_)
 refine WM_alloc type27 rfl (Wd_none rfl) (by decide) (fun p18 => ?_)
 refine nt' (sr ?_)
 refine WM_alloc type27 rfl (Wd_none rfl) (by decide) (fun p19 => ?_)
 refine nt' (sr ?_)
 refine wv (vf underlying57 rfl type54) ?_
 refine wv (vl 2 0 underlying54) ?_
 refine wcl (tSl tyQuery 39) (laws_toQueryS_m x0.Queries) (cl_fn cb62 rfl) (fun W hm => laws_toQueryS_c W _ x0.Queries (hm.rdS0 r9) s_0.1) (fun z20 => ?_)
 refine WM_form (n := 0) rfl ?_
 rintro A21 c22 rfl m23
 refine wv (vf underlying27 rfl type24) ?_
 let K1 : List Value := [.slice A6 x0.Queries.length c7, .slice A11 x0.Fields.length c12]
 let I3 : It := iOwn (tSl tyQuery 39) [.slice A21 (laws_toQueryS_m x0.Queries).length c22] (laws_toQueryS_m x0.Queries)
 let I4 : It := iBox p18 27 [.slice none 0 0, .slice none 0 0]
 refine sb 0 [.slice A21 (laws_toQueryS_m x0.Queries).length c22, .slice none 0 0] [I3, I4, iBox p17 57 K1] (pk [1, 0, 2, 3]) type24 ?_
 refine nt' (sr ?_)
 refine wv (vf underlying57 rfl type55) ?_
 refine wv (vl 3 1 underlying55) ?_
 refine wcl (tSl (tSl tySpan 113) 78) (laws_toSpanSS_m x0.Fields) (cl_fn cb63 rfl) (fun W hm => laws_toSpanSS_c W _ x0.Fields (hm.rdS0 r14) s_0.2) (fun z25 => ?_)
 refine WM_form (n := 0) rfl ?_
 rintro A26 c27 rfl m28
 refine wv (vf underlying27 rfl type25) ?_
 let K2 : List Value := [.slice A21 (laws_toQueryS_m x0.Queries).length c22, .slice A26 (laws_toSpanSS_m x0.Fields).length c27]
 let I5 : It := iOwn (tSl (tSl tySpan 113) 78) [.slice A26 (laws_toSpanSS_m x0.Fields).length c27] (laws_toSpanSS_m x0.Fields)
 refine sb 1 K2 [I5, I3, I4, iBox p17 57 K1] (pk [1, 0, 2, 3, 4]) type25 ?_
 refine nt' (sr ?_)
 refine wv (fun W hm => rv_loadN (cs := K2) underlying27 type27 rfl rfl (hm.boxCells (n := 0) rfl)) ?_
 refine sb 0 K2 [iBox p19 27 K2, I5, I3, iBox p17 57 K1] (pk [3, 0, 1, 2, 4]) type27 ?_
 refine nt' (CM_ret ?_)
 refine QM_r1 rfl (RR_cell (n := 0) rfl rfl underlying27 type27 rfl) (fun W hm => ⟨K2, ?_, ?_⟩)
 ·first | rw [(show laws_toIndex_m x0 = (⟨(laws_toQueryS_m x0.Queries), (laws_toSpanSS_m x0.Fields)⟩ : DIndex) from by unfold laws_toIndex_m; exact rfl)] | rfl
 ·rw [(show laws_toIndex_m x0 = (⟨(laws_toQueryS_m x0.Queries), (laws_toSpanSS_m x0.Fields)⟩ : DIndex) from by unfold laws_toIndex_m; exact rfl)]; exact Mem.join (is := [I3, I5]) (js := []) (fun _ _ hs => tyIndex_join (x := (⟨(laws_toQueryS_m x0.Queries), (laws_toSpanSS_m x0.Fields)⟩ : DIndex)) hs) (hm.pick [3, 2] (by decide))

def laws_toRow_m (x0 : DRow) : DRow :=
 (⟨x0.Id, (laws_toIntS_m x0.Values)⟩ : DRow)
theorem cb64 : Cb Try.prog 64 := ⟨f64, _, func64, rfl, by decide⟩
theorem laws_toRow_c (w : World) (z0 : List Value) (x0 : DRow) (r_0 : tyLRow.rd w w.heap.size z0 x0) (s_0 : smRow 68719476736 x0) :
  Calls Try.prog 64 #[.agg z0.toArray] w fun e w' => ∃ v : List Value, e = .returned (.agg v.toArray) ∧ Mem w.heap.size w [iOwn tyRow v (laws_toRow_m x0)] w' := by
 obtain ⟨v1, rfl, r2⟩ := tyLRow_rd r_0
 have r7 := r2
 obtain ⟨m3, A4, c5, rfl, q6⟩ := r2
 have l8 : x0.Values.length ≤ 68719476736 := s_0
 refine ce1 (L := [(0, .agg #[.int .i64 x0.Id, .slice A4 x0.Values.length c5])]) (N := 12) func64 ?_
 refine sr ?_
 refine WM_box rfl (Wd_none rfl) (by decide) (fun p9 => ?_)
 refine WM_alloc type50 rfl (Wd_none rfl) (by decide) (fun p10 => ?_)
 refine nt' (sr ?_)
 refine WM_alloc type50 rfl (Wd_none rfl) (by decide) (fun p11 => ?_)
 refine nt' (sr ?_)
 refine wv (vf underlying90 rfl type3) ?_
 refine wv (vl 2 0 underlying3) ?_
 refine wv (vf underlying50 rfl type3) ?_
 let I2 : It := iBox p9 90 [.int .i64 x0.Id, .slice A4 x0.Values.length c5]
 refine sb 0 [.int .i64 x0.Id, .slice none 0 0] [iBox p10 50 [.int .i64 0, .slice none 0 0], I2] (fun W hm => hm) type3 ?_
 refine nt' (sr ?_)
 refine wv (vf underlying90 rfl type37) ?_
 refine wv (vl 2 1 underlying37) ?_
 refine wcl (tSl tInt 3) (laws_toIntS_m x0.Values) (cl_fn cb102 rfl) (fun W hm => laws_toIntS_c W _ x0.Values (hm.rdS0 r7) s_0) (fun z12 => ?_)
 refine WM_form (n := 0) rfl ?_
 rintro A13 c14 rfl m15
 refine wv (vf underlying50 rfl type37) ?_
 let K1 : List Value := [.int .i64 x0.Id, .slice A13 (laws_toIntS_m x0.Values).length c14]
 let I3 : It := iOwn (tSl tInt 3) [.slice A13 (laws_toIntS_m x0.Values).length c14] (laws_toIntS_m x0.Values)
 refine sb 1 K1 [I3, iBox p10 50 [.int .i64 0, .slice none 0 0], I2] (pk [1, 0, 2, 3]) type37 ?_
 refine nt' (sr ?_)
 refine wv (fun W hm => rv_loadN (cs := K1) underlying50 type50 rfl rfl (hm.boxCells (n := 0) rfl)) ?_
 refine sb 0 K1 [iBox p11 50 K1, I3, I2] (pk [2, 0, 1, 3]) type50 ?_
 refine nt' (CM_ret ?_)
 refine QM_r1 rfl (RR_cell (n := 0) rfl rfl underlying50 type50 rfl) (fun W hm => ⟨K1, ?_, ?_⟩)
 ·first | rw [(show laws_toRow_m x0 = (⟨x0.Id, (laws_toIntS_m x0.Values)⟩ : DRow) from by unfold laws_toRow_m; exact rfl)] | rfl
 ·rw [(show laws_toRow_m x0 = (⟨x0.Id, (laws_toIntS_m x0.Values)⟩ : DRow) from by unfold laws_toRow_m; exact rfl)]; exact Mem.join (is := [I3]) (js := []) (fun _ _ hs => tyRow_join (x := (⟨x0.Id, (laws_toIntS_m x0.Values)⟩ : DRow)) hs) (hm.pick [2] (by decide))

def laws_toRowS_b1 (x0 : (List DRow)) (k9 : Nat) (d10 : (List DRow)) : (List DRow) ⊕ ((List DRow)) :=
 Sum.inr (d10.set k9 (laws_toRow_m (gt x0 k9)))
def laws_toRowS_m (x0 : (List DRow)) : (List DRow) :=
 Sum.elim id (fun (s : (List DRow)) => s) (rng (R := (List DRow)) (fun k (s : (List DRow)) => laws_toRowS_b1 x0 k s) (x0.length - 0) 0 (List.replicate x0.length (⟨(0 : Int), []⟩ : DRow)))
theorem cb26 : Cb Try.prog 26 := ⟨f26, _, func26, rfl, by decide⟩
theorem laws_toRowS_c (w : World) (z0 : Value) (x0 : (List DRow)) (r_0 : rdS tyLRow w w.heap.size z0 x0) (s_0 : (x0.length ≤ 68719476736 ∧ ∀ y ∈ x0, smRow 68719476736 y)) :
  Calls Try.prog 26 #[z0] w fun e w' => ∃ v : Value, e = .returned (v) ∧ Mem w.heap.size w [iOwn (tSl tyRow 50) [v] (laws_toRowS_m x0)] w' := by
 have r5 := r_0
 obtain ⟨m1, A2, c3, rfl, q4⟩ := r_0
 have l6 : x0.length ≤ 68719476736 := s_0.1
 refine ce1 (L := [(0, .slice A2 x0.length c3)]) (N := 23) func26 ?_
 refine sr (wa (nt' (sr (wm ?_))))
 refine wv (vlen underlying58) ?_
 refine WM_make (E := tyRow) (n := x0.length) (x0 := (⟨(0 : Int), []⟩ : DRow)) underlying28 type50 rfl rfl rfl (fun _ => ⟨[], [], _, _, rfl, rfl, tInt_own, own_nil⟩) rfl rfl (show x0.length * 32 ≤ 281474976710656 from by omega) (by omega) (Wd_none rfl) (by decide) (fun p7 => ?_)
 refine wa (nt' (CM_seq (sr (wa (nt' (CM_block ?_))))))
 let F1 := fun k (s : (List DRow)) => laws_toRowS_b1 x0 k s
 let R2 := rng (R := (List DRow)) F1
 refine CM_loop (σ := Nat × ((List DRow)) × (Unit)) (fun s => [(0, .slice A2 x0.length c3), (3, .slice (some ⟨p7, 0, none⟩) x0.length x0.length), (4, .int .i64 ((s.1 : Nat) : Int))]) (fun s => [iOwn (tSl tyRow 50) [.slice (some ⟨p7, 0, none⟩) x0.length x0.length] s.2.1]) (fun s => s.1 ≤ x0.length ∧ R2 (x0.length - s.1) s.1 s.2.1 = R2 (x0.length - 0) 0 (List.replicate x0.length (⟨(0 : Int), []⟩ : DRow))) (fun s => x0.length - s.1) (0, (List.replicate x0.length (⟨(0 : Int), []⟩ : DRow)), ()) sl3 (fun W hm => hm) ⟨(by omega), rfl⟩ ?_
 rintro ⟨k9, d10, ⟨⟩⟩ H13
 obtain ⟨hk11, hF12⟩ : k9 ≤ x0.length ∧ R2 (x0.length - k9) k9 d10 = R2 (x0.length - 0) 0 (List.replicate x0.length (⟨(0 : Int), []⟩ : DRow)) := H13
 show CM Try.prog 23 _ _ _ _ [(0, .slice A2 x0.length c3), (3, .slice (some ⟨p7, 0, none⟩) x0.length x0.length), (4, .int .i64 ((k9 : Nat) : Int))] [iOwn (tSl tyRow 50) [.slice (some ⟨p7, 0, none⟩) x0.length x0.length] d10]
 refine CM_seq (sr (wm (wm ?_)))
 refine wv (vlen underlying58) ?_
 refine wv vlss ?_
 refine nt' ?_
 by_cases hl14 : k9 < x0.length
 ·have g15 : (decide (((k9 : Nat) : Int) < ((x0.length : Nat) : Int))) = true := decide_eq_true (by omega)
  refine CM_condT rfl g15 ?_
  refine CM_skip (QM_then (CM_seq (CM_block (CM_region (wm (wm (wm (wm ?_))))))))
  obtain ⟨a16, rfl, hb17, he18⟩ := q4 (by omega)
  refine wv (vix 2 k9 underlying58 type90) ?_
  obtain ⟨_, e22, hc19⟩ := he18 k9 _ (gt_some (show k9 < x0.length from by omega))
  obtain ⟨v20, rfl, r21⟩ := tyLRow_rd e22
  have l23 : ((gt x0 k9).Values).length ≤ 68719476736 := (s_0.2 _ (gt_mem (show k9 < x0.length from by omega)))
  have r28 := r21
  obtain ⟨m24, A25, c26, rfl, q27⟩ := r21
  refine wv (fun W hm => rv_loadN (cs := [.int .i64 ((gt x0 k9).Id), .slice A25 ((gt x0 k9).Values).length c26]) underlying90 type90 rfl rfl (hm.elCells (show (a16.add (k9 * 2)).block < w.heap.size from by rw [add_block]; exact hb17.1) hc19)) ?_
  refine wcs tyRow (laws_toRow_m (gt x0 k9)) (cl_fn cb64 rfl) (fun W hm => laws_toRow_c W _ (gt x0 k9) (tyLRow_mk (x := (gt x0 k9)) (hm.rdS0 r28)) (s_0.2 _ (gt_mem (show k9 < x0.length from by omega)))) (fun z29 => ?_)
  refine tyRow_sp ?_
  rintro v30 rfl
  refine WM_form (n := 0) rfl ?_
  rintro A31 c32 rfl m33
  refine wv (vix 2 k9 underlying28 type50) ?_
  refine WM_setEl (E := tyRow) (e := 50) (u := .agg #[.int .i64 ((laws_toRow_m (gt x0 k9)).Id), .slice A31 ((laws_toRow_m (gt x0 k9)).Values).length c32]) (k := k9) (p := p7) (n := x0.length) (xs := d10) (eis := [iOwn (tSl tInt 3) [.slice A31 ((laws_toRow_m (gt x0 k9)).Values).length c32] ((laws_toRow_m (gt x0 k9)).Values)]) (js := []) (yv := (laws_toRow_m (gt x0 k9))) (pk [1, 0]) (fun _ _ hs => (tyRow_join (x := (laws_toRow_m (gt x0 k9))) hs)) rfl type50 rfl (by omega) rfl rfl (Wd_none rfl) ?_
  refine WM_nil (QM_block_normal (QM_then (CM_region (wm ?_))))
  refine wv (vadN k9 1 (by omega)) ?_
  refine wa (WM_nil ?_)
  have hn35 := rng_next (R := (List DRow)) (body := F1) (k := k9) (s := d10) (s' := (d10.set k9 (laws_toRow_m (gt x0 k9)))) (show k9 < x0.length from by omega) (show laws_toRowS_b1 x0 k9 d10 = Sum.inr (d10.set k9 (laws_toRow_m (gt x0 k9))) from by unfold laws_toRowS_b1; exact rfl) hF12
  exact QM_round (k9 + 1, (d10.set k9 (laws_toRow_m (gt x0 k9))), ()) sl3 (fun W hm => hm) ⟨(by omega), hn35⟩ (rl (by omega))
 ·have g15 : (decide (((k9 : Nat) : Int) < ((x0.length : Nat) : Int))) = false := decide_eq_false (by omega)
  refine CM_condF rfl g15 ?_
  refine CM_exit (QM_then_exit (QM_then_exit ?_))
  have hE36 : R2 (x0.length - 0) 0 (List.replicate x0.length (⟨(0 : Int), []⟩ : DRow)) = Sum.inr d10 := rng_end hl14 hF12
  refine QM_block_hit (QM_then (sr (wm (wa (nt' (CM_ret ?_))))))
  refine QM_r1 rfl (RR_tmp rfl) (fun W hm => ⟨.slice (some ⟨p7, 0, none⟩) x0.length x0.length, ?_, ?_⟩)
  ·first | rw [(show laws_toRowS_m x0 = d10 from by unfold laws_toRowS_m; exact fin_inr hE36 (rfl))] | rfl
  ·rw [(show laws_toRowS_m x0 = d10 from by unfold laws_toRowS_m; exact fin_inr hE36 (rfl))]; exact hm

def spec_l1In_m (x0 : Int) (x1 : Int) (x2 : Int) : Bool :=
 cond (decide (x1 ≤ x0)) (decide (x0 ≤ x2)) false
theorem cb54 : Cb Try.prog 54 := ⟨f54, _, func54, rfl, by decide⟩
theorem spec_l1In_c (w : World) (x0 : Int) (x1 : Int) (x2 : Int) :
  Calls Try.prog 54 #[.int .i64 x0, .int .i64 x1, .int .i64 x2] w fun e w' => e = .returned (.bool (spec_l1In_m x0 x1 x2)) ∧ Below w.heap.size w w' := by
 refine ce3 (L := [(0, .int .i64 x0), (1, .int .i64 x1), (2, .int .i64 x2)]) (N := 15) func54 ?_
 refine sr (wa (nt' (sr (wm (wm ?_)))))
 refine wv (fun W hm => rv_geq rfl rfl) ?_
 refine wm ?_
 by_cases h1 : x1 ≤ x0
 ·have g2 : (decide (x1 ≤ x0)) = true := decide_eq_true h1
  refine wg vmv g2 ?_
  refine wg vmv g2 ?_
  refine wg (fun W hm => rv_leq rfl rfl) g2 ?_
  refine wv (vpT g2) ?_
  refine wa (nt' (CM_ret ?_))
  exact rtb (h := by unfold spec_l1In_m; exact cond_t g2 (rfl))
 ·have g2 : (decide (x1 ≤ x0)) = false := decide_eq_false h1
  refine ws g2 ?_
  refine ws g2 ?_
  refine ws g2 ?_
  refine wv (vpF g2) ?_
  refine wa (nt' (CM_ret ?_))
  exact rtb (h := by unfold spec_l1In_m; exact cond_f g2 (rfl))

theorem spec_l1In_fact {x a b : Int} (h : spec_l1In_m x a b = true) : a ≤ x ∧ x ≤ b := by
  unfold spec_l1In_m at h
  by_cases h1 : a ≤ x
  · rw [decide_eq_true h1] at h
    exact ⟨h1, of_decide_eq_true h⟩
  · rw [decide_eq_false h1] at h
    cases h
theorem spec_l1In_iff (x a b : Int) : spec_l1In_m x a b = decide (a ≤ x ∧ x ≤ b) := by
  unfold spec_l1In_m
  by_cases h1 : a ≤ x
  · by_cases h2 : x ≤ b
    · simp [h1, h2]
    · simp [h1, h2]
  · simp [h1]

def spec_IsCond_m (x0 : DCond) : Bool :=
 cond (spec_l1In_m x0.Field 0 2) (cond (spec_l1In_m x0.Low 0 x0.High) (decide (x0.High ≤ 99)) false) false
theorem cb119 : Cb Try.prog 119 := ⟨f119, _, func119, rfl, by decide⟩
theorem spec_IsCond_c (w : World) (z0 : List Value) (x0 : DCond) (r_0 : tyCond.rd w w.heap.size z0 x0) :
  Calls Try.prog 119 #[.agg z0.toArray] w fun e w' => e = .returned (.bool (spec_IsCond_m x0)) ∧ Below w.heap.size w w' := by
 obtain rfl := tyCond_rd r_0
 refine ce1 (L := [(0, .agg #[.int .i64 x0.Field, .int .i64 x0.Low, .int .i64 x0.High])]) (N := 18) func119 ?_
 refine sr ?_
 refine WM_box rfl (Wd_none rfl) (by decide) (fun p1 => ?_)
 refine wa (nt' (sr ?_))
 refine wv (vf underlying117 rfl type3) ?_
 refine wv (vl 0 0 underlying3) ?_
 refine wcv (cl_fn cb54 rfl) (fun W hm => spec_l1In_c W x0.Field 0 2) ?_
 refine wm ?_
 rcases Bool.eq_false_or_eq_true (spec_l1In_m x0.Field 0 2) with g3 | g3
 ·
  have hw := spec_l1In_fact g3
  refine wg (vf underlying117 rfl type3) g3 ?_
  refine wg (vl 0 1 underlying3) g3 ?_
  refine wg (vf underlying117 rfl type3) g3 ?_
  refine wg (vl 0 2 underlying3) g3 ?_
  refine WM_callV (cl_fn cb54 rfl) (fun W hm => spec_l1In_c W x0.Low 0 x0.High) (Wd_some rfl rfl rfl (bw g3 rfl)) (by decide) ?_
  refine wv (vpT g3) ?_
  refine wm ?_
  rcases Bool.eq_false_or_eq_true (spec_l1In_m x0.Low 0 x0.High) with g5 | g5
  ·
   have hw := spec_l1In_fact g5
   refine wg (vf underlying117 rfl type3) g5 ?_
   refine wg (vl 0 2 underlying3) g5 ?_
   refine wg (fun W hm => rv_leq rfl rfl) g5 ?_
   refine wv (vpT g5) ?_
   refine wa (nt' (CM_ret ?_))
   exact rtb (h := by unfold spec_IsCond_m; exact cond_t g3 (cond_t g5 (rfl)))
  ·
   refine ws g5 ?_
   refine ws g5 ?_
   refine ws g5 ?_
   refine wv (vpF g5) ?_
   refine wa (nt' (CM_ret ?_))
   exact rtb (h := by unfold spec_IsCond_m; exact cond_t g3 (cond_f g5 (rfl)))
 ·
  refine ws g3 ?_
  refine ws g3 ?_
  refine ws g3 ?_
  refine ws g3 ?_
  refine ws g3 ?_
  refine wv (vpF g3) ?_
  refine wm ?_
  refine wk ?_
  refine wk ?_
  refine wk ?_
  refine wv (vpF rfl) ?_
  refine wa (nt' (CM_ret ?_))
  exact rtb (h := by unfold spec_IsCond_m; exact cond_f g3 (rfl))

def spec_l4Fields_b1 (x0 : (List Int)) (k6 : Nat) : Bool ⊕ (Unit) :=
 cond (spec_l1In_m (gt x0 k6) 0 2) (Sum.inr ()) (Sum.inl false)
def spec_l4Fields_m (x0 : (List Int)) : Bool :=
 Sum.elim id (fun (s : Unit) => (spec_l1In_m ((x0.length : Nat) : Int) 1 3)) (rng (R := Bool) (fun k (_ : Unit) => spec_l4Fields_b1 x0 k) (x0.length - 0) 0 ())
theorem cb120 : Cb Try.prog 120 := ⟨f120, _, func120, rfl, by decide⟩
theorem spec_l4Fields_c (w : World) (z0 : Value) (x0 : (List Int)) (r_0 : rdS tInt w w.heap.size z0 x0) :
  Calls Try.prog 120 #[z0] w fun e w' => e = .returned (.bool (spec_l4Fields_m x0)) ∧ Below w.heap.size w w' := by
 have r5 := r_0
 obtain ⟨m1, A2, c3, rfl, q4⟩ := r_0
 refine ce1 (L := [(0, .slice A2 x0.length c3)]) (N := 19) func120 ?_
 refine sr (wa (nt' (CM_seq (sr (wa (nt' (CM_block ?_)))))))
 let F1 := fun k (_ : Unit) => spec_l4Fields_b1 x0 k
 let R2 := rng (R := Bool) F1
 refine CM_loop (σ := Nat × (Unit) × (Unit)) (fun s => [(0, .slice A2 x0.length c3), (3, .int .i64 ((s.1 : Nat) : Int))]) (fun s => []) (fun s => s.1 ≤ x0.length ∧ R2 (x0.length - s.1) s.1 s.2.1 = R2 (x0.length - 0) 0 ()) (fun s => x0.length - s.1) (0, (), ()) sl2 (fun W hm => hm) ⟨(by omega), rfl⟩ ?_
 rintro ⟨k6, ⟨⟩, ⟨⟩⟩ H9
 obtain ⟨hk7, hF8⟩ : k6 ≤ x0.length ∧ R2 (x0.length - k6) k6 () = R2 (x0.length - 0) 0 () := H9
 show CM Try.prog 19 _ _ _ _ [(0, .slice A2 x0.length c3), (3, .int .i64 ((k6 : Nat) : Int))] []
 refine CM_seq (sr (wm (wm ?_)))
 refine wv (vlen underlying37) ?_
 refine wv vlss ?_
 refine nt' ?_
 by_cases hl10 : k6 < x0.length
 ·have g11 : (decide (((k6 : Nat) : Int) < ((x0.length : Nat) : Int))) = true := decide_eq_true (by omega)
  refine CM_condT rfl g11 ?_
  refine CM_skip (QM_then (CM_seq (CM_block (sr (wm (wm ?_))))))
  obtain ⟨a12, rfl, hb13, he14⟩ := q4 (by omega)
  refine wv (vix 1 k6 underlying37 type3) ?_
  refine wv (fun W hm => rv_load underlying3 rfl rfl ((hm.cell0 (show (a12.add (k6 * 1)).block < w.heap.size from by rw [add_block]; exact hb13.1)).trans (rdS_int he14 k6 (by omega)))) ?_
  refine wcv (cl_fn cb54 rfl) (fun W hm => spec_l1In_c W (gt x0 k6) 0 2) ?_
  refine wv vnot ?_
  refine nt' ?_
  rcases Bool.eq_false_or_eq_true (spec_l1In_m (gt x0 k6) 0 2) with g16 | g16
  ·
   have hw := spec_l1In_fact g16
   refine CM_condF rfl (nt g16) ?_
   refine CM_skip (QM_block_normal (QM_then (CM_region (wm ?_))))
   refine wv (vadN k6 1 (by omega)) ?_
   refine wa (WM_nil ?_)
   have hn17 := rng_next (R := Bool) (body := F1) (k := k6) (s := ()) (s' := ()) (show k6 < x0.length from by omega) (show spec_l4Fields_b1 x0 k6 = Sum.inr () from by unfold spec_l4Fields_b1; exact cond_t g16 (rfl)) hF8
   exact QM_round (k6 + 1, (), ()) sl2 (fun W hm => hm) ⟨(by omega), hn17⟩ (rl (by omega))
  ·
   refine CM_condT rfl (nf g16) ?_
   refine sr (wa (nt' (CM_ret (QM_block_ret (QM_then_ret (QM_then_ret (QM_block_ret (QM_then_ret ?_))))))))
   exact rtb (h := by unfold spec_l4Fields_m; exact fin_inl (rng_ret (body := F1) (k := k6) (s := ()) (show k6 < x0.length from by omega) (show spec_l4Fields_b1 x0 k6 = Sum.inl false from by unfold spec_l4Fields_b1; exact cond_f g16 (rfl)) hF8) rfl)
 ·have g11 : (decide (((k6 : Nat) : Int) < ((x0.length : Nat) : Int))) = false := decide_eq_false (by omega)
  refine CM_condF rfl g11 ?_
  refine CM_exit (QM_then_exit (QM_then_exit ?_))
  have hE18 : R2 (x0.length - 0) 0 () = Sum.inr () := rng_end hl10 hF8
  refine QM_block_hit (QM_then (sr (wm ?_)))
  refine wv (vlen underlying37) ?_
  refine wcv (cl_fn cb54 rfl) (fun W hm => spec_l1In_c W ((x0.length : Nat) : Int) 1 3) ?_
  refine wa (nt' (CM_ret ?_))
  exact rtb (h := by unfold spec_l4Fields_m; exact fin_inr hE18 (rfl))

def spec_IsQuery_b1 (x0 : DQuery) (k16 : Nat) : Bool ⊕ (Unit) :=
 cond (spec_IsCond_m (gt x0.Conds k16)) (cond (decide (0 < ((k16 : Nat) : Int))) (cond (decide (((gt x0.Conds k16).Field) ≤ ((gt x0.Conds (k16 - 1)).Field))) (Sum.inl false) (Sum.inr ())) (Sum.inr ())) (Sum.inl false)
def spec_IsQuery_m (x0 : DQuery) : Bool :=
 Sum.elim id (fun (s : Unit) => cond (spec_l1In_m x0.Id 0 23) (cond (spec_l1In_m x0.Tenant 0 3) (cond (decide (((x0.Conds.length : Nat) : Int) ≤ 3)) (spec_l4Fields_m x0.Out) false) false) false) (rng (R := Bool) (fun k (_ : Unit) => spec_IsQuery_b1 x0 k) (x0.Conds.length - 0) 0 ())
theorem cb85 : Cb Try.prog 85 := ⟨f85, _, func85, rfl, by decide⟩
theorem spec_IsQuery_c (w : World) (z0 : List Value) (x0 : DQuery) (r_0 : tyQuery.rd w w.heap.size z0 x0) :
  Calls Try.prog 85 #[.agg z0.toArray] w fun e w' => e = .returned (.bool (spec_IsQuery_m x0)) ∧ Below w.heap.size w w' := by
 obtain ⟨v1, v3, rfl, r2, r4⟩ := tyQuery_rd r_0
 have r9 := r2
 obtain ⟨m5, A6, c7, rfl, q8⟩ := r2
 have r14 := r4
 obtain ⟨m10, A11, c12, rfl, q13⟩ := r4
 refine ce1 (L := [(0, .agg #[.int .i64 x0.Id, .int .i64 x0.Tenant, .slice A6 x0.Conds.length c7, .slice A11 x0.Out.length c12])]) (N := 57) func85 ?_
 refine sr ?_
 refine WM_box rfl (Wd_none rfl) (by decide) (fun p15 => ?_)
 refine wa (nt' (CM_seq (sr (wa (nt' (CM_block ?_))))))
 let F1 := fun k (_ : Unit) => spec_IsQuery_b1 x0 k
 let R2 := rng (R := Bool) F1
 let K3 : List Value := [.int .i64 x0.Id, .int .i64 x0.Tenant, .slice A6 x0.Conds.length c7, .slice A11 x0.Out.length c12]
 refine CM_loop (σ := Nat × (Unit) × (Unit)) (fun s => [(1, .pointer (some (⟨p15, 0, none⟩ : Addr))), (3, .int .i64 ((s.1 : Nat) : Int))]) (fun s => [iBox p15 39 K3]) (fun s => s.1 ≤ x0.Conds.length ∧ R2 (x0.Conds.length - s.1) s.1 s.2.1 = R2 (x0.Conds.length - 0) 0 ()) (fun s => x0.Conds.length - s.1) (0, (), ()) sl2 (fun W hm => hm) ⟨(by omega), rfl⟩ ?_
 rintro ⟨k16, ⟨⟩, ⟨⟩⟩ H19
 obtain ⟨hk17, hF18⟩ : k16 ≤ x0.Conds.length ∧ R2 (x0.Conds.length - k16) k16 () = R2 (x0.Conds.length - 0) 0 () := H19
 show CM Try.prog 57 _ _ _ _ [(1, .pointer (some (⟨p15, 0, none⟩ : Addr))), (3, .int .i64 ((k16 : Nat) : Int))] [iBox p15 39 K3]
 refine CM_seq (sr (wm ?_))
 refine wv (vf underlying39 rfl type36) ?_
 refine wv (vl 0 2 underlying36) ?_
 refine wv (vlen underlying36) ?_
 refine wv vlss ?_
 refine nt' ?_
 by_cases hl20 : k16 < x0.Conds.length
 ·have g21 : (decide (((k16 : Nat) : Int) < ((x0.Conds.length : Nat) : Int))) = true := decide_eq_true (by omega)
  refine CM_condT rfl g21 ?_
  refine CM_skip (QM_then (CM_seq (CM_block (CM_seq ?_))))
  refine CM_regionD (by kernel_rfl) (by kernel_rfl) ?_
  refine qv (vf underlying39 rfl type36) ?_
  refine qv (vl 0 2 underlying36) ?_
  refine qm ?_
  obtain ⟨a22, rfl, hb23, he24⟩ := q8 (by omega)
  refine qv (vix 3 k16 underlying36 type117) ?_
  obtain ⟨_, e26, hc25⟩ := he24 k16 _ (gt_some (show k16 < x0.Conds.length from by omega))
  obtain rfl := tyCond_rd e26
  refine qv (fun W hm => rv_loadN (cs := [.int .i64 ((gt x0.Conds k16).Field), .int .i64 ((gt x0.Conds k16).Low), .int .i64 ((gt x0.Conds k16).High)]) underlying117 type117 rfl rfl (hm.elCells (show (a22.add (k16 * 3)).block < w.heap.size from by rw [add_block]; exact hb23.1) hc25)) ?_
  refine QR_callV (cl_fn cb119 rfl) (fun W hm => spec_IsCond_c W _ (gt x0.Conds k16) (tyCond_mk (x := (gt x0.Conds k16)))) (Wd_none rfl) (by decide) ?_
  refine qv vnot ?_
  refine qm ?_
  rcases Bool.eq_false_or_eq_true (spec_IsCond_m (gt x0.Conds k16)) with g28 | g28
  ·
   refine qg vmv (nt g28) ?_
   refine qg (fun W hm => rv_gtr rfl rfl) (nt g28) ?_
   refine qg vmv (nt g28) ?_
   by_cases h29 : 0 < ((k16 : Nat) : Int)
   ·have g30 : (decide (0 < ((k16 : Nat) : Int))) = true := decide_eq_true h29
    refine qg (vf underlying39 rfl type36) g30 ?_
    refine qg (vl 0 2 underlying36) g30 ?_
    refine qg vmv g30 ?_
    refine qg (vix 3 k16 underlying36 type117) g30 ?_
    refine qg (vf underlying117 rfl type3) g30 ?_
    refine qg (fun W hm => rv_load underlying3 rfl rfl ((hm.cell0 (show ((a22.add (k16 * 3)).add 0).block < w.heap.size from by rw [add_block, add_block]; exact hb23.1)).trans (hc25 0 _ rfl))) g30 ?_
    refine qg (vf underlying39 rfl type36) g30 ?_
    refine qg (vl 0 2 underlying36) g30 ?_
    refine qg vmv g30 ?_
    refine qg (fun W hm => rv_subN (p := k16) (q := 1) rfl rfl (by omega) (by omega)) g30 ?_
    refine qg (fun W hm => rv_index (sz := 3) (k := k16 - 1) underlying36 type117 rfl rfl rfl (by omega)) g30 ?_
    refine qg (vf underlying117 rfl type3) g30 ?_
    obtain ⟨_, e32, hc31⟩ := he24 (k16 - 1) _ (gt_some (show (k16 - 1) < x0.Conds.length from by omega))
    obtain rfl := tyCond_rd e32
    refine qg (fun W hm => rv_load underlying3 rfl rfl ((hm.cell0 (show ((a22.add ((k16 - 1) * 3)).add 0).block < w.heap.size from by rw [add_block, add_block]; exact hb23.1)).trans (hc31 0 _ rfl))) g30 ?_
    refine qg (fun W hm => rv_leq rfl rfl) g30 ?_
    refine qg (vpT g30) (nt g28) ?_
    refine qv (vpF (nt g28)) ?_
    refine nq' ?_
    by_cases h33 : ((gt x0.Conds k16).Field) ≤ ((gt x0.Conds (k16 - 1)).Field)
    ·have g34 : (decide (((gt x0.Conds k16).Field) ≤ ((gt x0.Conds (k16 - 1)).Field))) = true := decide_eq_true h33
     refine CM_condT rfl g34 ?_
     refine sr (wa (nt' (CM_ret (QM_block_ret (QM_then_ret (QM_then_ret (QM_block_ret (QM_then_ret ?_))))))))
     exact rtb (h := by unfold spec_IsQuery_m; exact fin_inl (rng_ret (body := F1) (k := k16) (s := ()) (show k16 < x0.Conds.length from by omega) (show spec_IsQuery_b1 x0 k16 = Sum.inl false from by unfold spec_IsQuery_b1; exact cond_t g28 (cond_t g30 (cond_t g34 (rfl)))) hF18) rfl)
    ·have g34 : (decide (((gt x0.Conds k16).Field) ≤ ((gt x0.Conds (k16 - 1)).Field))) = false := decide_eq_false h33
     refine CM_condF rfl g34 ?_
     refine CM_skip (QM_block_normal (QM_then (CM_region (wm ?_))))
     refine wv (vadN k16 1 (by omega)) ?_
     refine wa (WM_nil ?_)
     have hn35 := rng_next (R := Bool) (body := F1) (k := k16) (s := ()) (s' := ()) (show k16 < x0.Conds.length from by omega) (show spec_IsQuery_b1 x0 k16 = Sum.inr () from by unfold spec_IsQuery_b1; exact cond_t g28 (cond_t g30 (cond_f g34 (rfl)))) hF18
     exact QM_round (k16 + 1, (), ()) sl2 (fun W hm => hm) ⟨(by omega), hn35⟩ (rl (by omega))
   ·have g30 : (decide (0 < ((k16 : Nat) : Int))) = false := decide_eq_false h29
    refine qs g30 ?_
    refine qs g30 ?_
    refine qs g30 ?_
    refine qs g30 ?_
    refine qs g30 ?_
    refine qs g30 ?_
    refine qs g30 ?_
    refine qs g30 ?_
    refine qs g30 ?_
    refine qs g30 ?_
    refine qs g30 ?_
    refine qs g30 ?_
    refine qs g30 ?_
    refine qs g30 ?_
    refine qg (vpF g30) (nt g28) ?_
    refine qv (vpF (nt g28)) ?_
    refine nq' ?_
    refine CM_condF rfl rfl ?_
    refine CM_skip (QM_block_normal (QM_then (CM_region (wm ?_))))
    refine wv (vadN k16 1 (by omega)) ?_
    refine wa (WM_nil ?_)
    have hn36 := rng_next (R := Bool) (body := F1) (k := k16) (s := ()) (s' := ()) (show k16 < x0.Conds.length from by omega) (show spec_IsQuery_b1 x0 k16 = Sum.inr () from by unfold spec_IsQuery_b1; exact cond_t g28 (cond_f g30 (rfl))) hF18
    exact QM_round (k16 + 1, (), ()) sl2 (fun W hm => hm) ⟨(by omega), hn36⟩ (rl (by omega))
  ·
   refine qs (nf g28) ?_
   refine qs (nf g28) ?_
   refine qs (nf g28) ?_
   refine qu ?_
   refine qu ?_
   refine qu ?_
   refine qu ?_
   refine qu ?_
   refine qu ?_
   refine qu ?_
   refine qu ?_
   refine qu ?_
   refine qu ?_
   refine qu ?_
   refine qu ?_
   refine qu ?_
   refine qu ?_
   refine qs (nf g28) ?_
   refine qv (vpT (nf g28)) ?_
   refine nq' ?_
   refine CM_condT rfl rfl ?_
   refine sr (wa (nt' (CM_ret (QM_block_ret (QM_then_ret (QM_then_ret (QM_block_ret (QM_then_ret ?_))))))))
   exact rtb (h := by unfold spec_IsQuery_m; exact fin_inl (rng_ret (body := F1) (k := k16) (s := ()) (show k16 < x0.Conds.length from by omega) (show spec_IsQuery_b1 x0 k16 = Sum.inl false from by unfold spec_IsQuery_b1; exact cond_f g28 (rfl)) hF18) rfl)
 ·have g21 : (decide (((k16 : Nat) : Int) < ((x0.Conds.length : Nat) : Int))) = false := decide_eq_false (by omega)
  refine CM_condF rfl g21 ?_
  refine CM_exit (QM_then_exit (QM_then_exit ?_))
  have hE37 : R2 (x0.Conds.length - 0) 0 () = Sum.inr () := rng_end hl20 hF18
  refine QM_block_hit (QM_then (sr ?_))
  refine wv (vf underlying39 rfl type3) ?_
  refine wv (vl 0 0 underlying3) ?_
  refine wcv (cl_fn cb54 rfl) (fun W hm => spec_l1In_c W x0.Id 0 23) ?_
  refine wm ?_
  rcases Bool.eq_false_or_eq_true (spec_l1In_m x0.Id 0 23) with g39 | g39
  ·
   have hw := spec_l1In_fact g39
   refine wg (vf underlying39 rfl type3) g39 ?_
   refine wg (vl 0 1 underlying3) g39 ?_
   refine WM_callV (cl_fn cb54 rfl) (fun W hm => spec_l1In_c W x0.Tenant 0 3) (Wd_some rfl rfl rfl (bw g39 rfl)) (by decide) ?_
   refine wv (vpT g39) ?_
   refine wm ?_
   rcases Bool.eq_false_or_eq_true (spec_l1In_m x0.Tenant 0 3) with g41 | g41
   ·
    have hw := spec_l1In_fact g41
    refine wg (vf underlying39 rfl type36) g41 ?_
    refine wg (vl 0 2 underlying36) g41 ?_
    refine wg (vlen underlying36) g41 ?_
    refine wg (fun W hm => rv_leq rfl rfl) g41 ?_
    refine wv (vpT g41) ?_
    refine wm ?_
    by_cases h42 : ((x0.Conds.length : Nat) : Int) ≤ 3
    ·have g43 : (decide (((x0.Conds.length : Nat) : Int) ≤ 3)) = true := decide_eq_true h42
     refine wg (vf underlying39 rfl type37) g43 ?_
     refine wg (vl 0 3 underlying37) g43 ?_
     refine WM_callV (cl_fn cb120 rfl) (fun W hm => spec_l4Fields_c W _ x0.Out (hm.rdS0 r14)) (Wd_some rfl rfl rfl (bw g43 rfl)) (by decide) ?_
     refine wv (vpT g43) ?_
     refine wa (nt' (CM_ret ?_))
     exact rtb (h := by unfold spec_IsQuery_m; exact fin_inr hE37 (cond_t g39 (cond_t g41 (cond_t g43 (rfl)))))
    ·have g43 : (decide (((x0.Conds.length : Nat) : Int) ≤ 3)) = false := decide_eq_false h42
     refine ws g43 ?_
     refine ws g43 ?_
     refine ws g43 ?_
     refine wv (vpF g43) ?_
     refine wa (nt' (CM_ret ?_))
     exact rtb (h := by unfold spec_IsQuery_m; exact fin_inr hE37 (cond_t g39 (cond_t g41 (cond_f g43 (rfl)))))
   ·
    refine ws g41 ?_
    refine ws g41 ?_
    refine ws g41 ?_
    refine ws g41 ?_
    refine wv (vpF g41) ?_
    refine wm ?_
    refine wk ?_
    refine wk ?_
    refine wk ?_
    refine wv (vpF rfl) ?_
    refine wa (nt' (CM_ret ?_))
    exact rtb (h := by unfold spec_IsQuery_m; exact fin_inr hE37 (cond_t g39 (cond_f g41 (rfl))))
  ·
   refine ws g39 ?_
   refine ws g39 ?_
   refine ws g39 ?_
   refine wv (vpF g39) ?_
   refine wm ?_
   refine wk ?_
   refine wk ?_
   refine wk ?_
   refine wk ?_
   refine wv (vpF rfl) ?_
   refine wm ?_
   refine wk ?_
   refine wk ?_
   refine wk ?_
   refine wv (vpF rfl) ?_
   refine wa (nt' (CM_ret ?_))
   exact rtb (h := by unfold spec_IsQuery_m; exact fin_inr hE37 (cond_f g39 (rfl)))

def spec_AreQueries_b1 (x0 : (List DQuery)) (k6 : Nat) : Bool ⊕ (Unit) :=
 cond (spec_IsQuery_m (gt x0 k6)) (cond (decide (0 < ((k6 : Nat) : Int))) (cond (decide (((gt x0 k6).Id) ≤ ((gt x0 (k6 - 1)).Id))) (Sum.inl false) (Sum.inr ())) (Sum.inr ())) (Sum.inl false)
def spec_AreQueries_m (x0 : (List DQuery)) : Bool :=
 Sum.elim id (fun (s : Unit) => (decide (((x0.length : Nat) : Int) ≤ 24))) (rng (R := Bool) (fun k (_ : Unit) => spec_AreQueries_b1 x0 k) (x0.length - 0) 0 ())
theorem cb44 : Cb Try.prog 44 := ⟨f44, _, func44, rfl, by decide⟩
theorem spec_AreQueries_c (w : World) (z0 : Value) (x0 : (List DQuery)) (r_0 : rdS tyQuery w w.heap.size z0 x0) :
  Calls Try.prog 44 #[z0] w fun e w' => e = .returned (.bool (spec_AreQueries_m x0)) ∧ Below w.heap.size w w' := by
 have r5 := r_0
 obtain ⟨m1, A2, c3, rfl, q4⟩ := r_0
 refine ce1 (L := [(0, .slice A2 x0.length c3)]) (N := 37) func44 ?_
 refine sr (wa (nt' (CM_seq (sr (wa (nt' (CM_block ?_)))))))
 let F1 := fun k (_ : Unit) => spec_AreQueries_b1 x0 k
 let R2 := rng (R := Bool) F1
 refine CM_loop (σ := Nat × (Unit) × (Unit)) (fun s => [(0, .slice A2 x0.length c3), (3, .int .i64 ((s.1 : Nat) : Int))]) (fun s => []) (fun s => s.1 ≤ x0.length ∧ R2 (x0.length - s.1) s.1 s.2.1 = R2 (x0.length - 0) 0 ()) (fun s => x0.length - s.1) (0, (), ()) sl2 (fun W hm => hm) ⟨(by omega), rfl⟩ ?_
 rintro ⟨k6, ⟨⟩, ⟨⟩⟩ H9
 obtain ⟨hk7, hF8⟩ : k6 ≤ x0.length ∧ R2 (x0.length - k6) k6 () = R2 (x0.length - 0) 0 () := H9
 show CM Try.prog 37 _ _ _ _ [(0, .slice A2 x0.length c3), (3, .int .i64 ((k6 : Nat) : Int))] []
 refine CM_seq (sr (wm (wm ?_)))
 refine wv (vlen underlying24) ?_
 refine wv vlss ?_
 refine nt' ?_
 by_cases hl10 : k6 < x0.length
 ·have g11 : (decide (((k6 : Nat) : Int) < ((x0.length : Nat) : Int))) = true := decide_eq_true (by omega)
  refine CM_condT rfl g11 ?_
  refine CM_skip (QM_then (CM_seq (CM_block (CM_seq ?_))))
  refine CM_regionD (by kernel_rfl) (by kernel_rfl) ?_
  refine qm (qm ?_)
  obtain ⟨a12, rfl, hb13, he14⟩ := q4 (by omega)
  refine qv (vix 4 k6 underlying24 type39) ?_
  obtain ⟨_, e20, hc15⟩ := he14 k6 _ (gt_some (show k6 < x0.length from by omega))
  obtain ⟨v16, v18, rfl, r17, r19⟩ := tyQuery_rd e20
  have r25 := r17
  obtain ⟨m21, A22, c23, rfl, q24⟩ := r17
  have r30 := r19
  obtain ⟨m26, A27, c28, rfl, q29⟩ := r19
  refine qv (fun W hm => rv_loadN (cs := [.int .i64 ((gt x0 k6).Id), .int .i64 ((gt x0 k6).Tenant), .slice A22 ((gt x0 k6).Conds).length c23, .slice A27 ((gt x0 k6).Out).length c28]) underlying39 type39 rfl rfl (hm.elCells (show (a12.add (k6 * 4)).block < w.heap.size from by rw [add_block]; exact hb13.1) hc15)) ?_
  refine QR_callV (cl_fn cb85 rfl) (fun W hm => spec_IsQuery_c W _ (gt x0 k6) (tyQuery_mk (x := (gt x0 k6)) (hm.rdS0 r25) (hm.rdS0 r30))) (Wd_none rfl) (by decide) ?_
  refine qv vnot ?_
  refine qm ?_
  rcases Bool.eq_false_or_eq_true (spec_IsQuery_m (gt x0 k6)) with g32 | g32
  ·
   refine qg vmv (nt g32) ?_
   refine qg (fun W hm => rv_gtr rfl rfl) (nt g32) ?_
   refine qg vmv (nt g32) ?_
   by_cases h33 : 0 < ((k6 : Nat) : Int)
   ·have g34 : (decide (0 < ((k6 : Nat) : Int))) = true := decide_eq_true h33
    refine qg vmv g34 ?_
    refine qg vmv g34 ?_
    refine qg (vix 4 k6 underlying24 type39) g34 ?_
    refine qg (vf underlying39 rfl type3) g34 ?_
    refine qg (fun W hm => rv_load underlying3 rfl rfl ((hm.cell0 (show ((a12.add (k6 * 4)).add 0).block < w.heap.size from by rw [add_block, add_block]; exact hb13.1)).trans (hc15 0 _ rfl))) g34 ?_
    refine qg vmv g34 ?_
    refine qg vmv g34 ?_
    refine qg (fun W hm => rv_subN (p := k6) (q := 1) rfl rfl (by omega) (by omega)) g34 ?_
    refine qg (fun W hm => rv_index (sz := 4) (k := k6 - 1) underlying24 type39 rfl rfl rfl (by omega)) g34 ?_
    refine qg (vf underlying39 rfl type3) g34 ?_
    obtain ⟨_, e40, hc35⟩ := he14 (k6 - 1) _ (gt_some (show (k6 - 1) < x0.length from by omega))
    obtain ⟨v36, v38, rfl, r37, r39⟩ := tyQuery_rd e40
    have r45 := r37
    obtain ⟨m41, A42, c43, rfl, q44⟩ := r37
    have r50 := r39
    obtain ⟨m46, A47, c48, rfl, q49⟩ := r39
    refine qg (fun W hm => rv_load underlying3 rfl rfl ((hm.cell0 (show ((a12.add ((k6 - 1) * 4)).add 0).block < w.heap.size from by rw [add_block, add_block]; exact hb13.1)).trans (hc35 0 _ rfl))) g34 ?_
    refine qg (fun W hm => rv_leq rfl rfl) g34 ?_
    refine qg (vpT g34) (nt g32) ?_
    refine qv (vpF (nt g32)) ?_
    refine nq' ?_
    by_cases h51 : ((gt x0 k6).Id) ≤ ((gt x0 (k6 - 1)).Id)
    ·have g52 : (decide (((gt x0 k6).Id) ≤ ((gt x0 (k6 - 1)).Id))) = true := decide_eq_true h51
     refine CM_condT rfl g52 ?_
     refine sr (wa (nt' (CM_ret (QM_block_ret (QM_then_ret (QM_then_ret (QM_block_ret (QM_then_ret ?_))))))))
     exact rtb (h := by unfold spec_AreQueries_m; exact fin_inl (rng_ret (body := F1) (k := k6) (s := ()) (show k6 < x0.length from by omega) (show spec_AreQueries_b1 x0 k6 = Sum.inl false from by unfold spec_AreQueries_b1; exact cond_t g32 (cond_t g34 (cond_t g52 (rfl)))) hF8) rfl)
    ·have g52 : (decide (((gt x0 k6).Id) ≤ ((gt x0 (k6 - 1)).Id))) = false := decide_eq_false h51
     refine CM_condF rfl g52 ?_
     refine CM_skip (QM_block_normal (QM_then (CM_region (wm ?_))))
     refine wv (vadN k6 1 (by omega)) ?_
     refine wa (WM_nil ?_)
     have hn53 := rng_next (R := Bool) (body := F1) (k := k6) (s := ()) (s' := ()) (show k6 < x0.length from by omega) (show spec_AreQueries_b1 x0 k6 = Sum.inr () from by unfold spec_AreQueries_b1; exact cond_t g32 (cond_t g34 (cond_f g52 (rfl)))) hF8
     exact QM_round (k6 + 1, (), ()) sl2 (fun W hm => hm) ⟨(by omega), hn53⟩ (rl (by omega))
   ·have g34 : (decide (0 < ((k6 : Nat) : Int))) = false := decide_eq_false h33
    refine qs g34 ?_
    refine qs g34 ?_
    refine qs g34 ?_
    refine qs g34 ?_
    refine qs g34 ?_
    refine qs g34 ?_
    refine qs g34 ?_
    refine qs g34 ?_
    refine qs g34 ?_
    refine qs g34 ?_
    refine qs g34 ?_
    refine qs g34 ?_
    refine qg (vpF g34) (nt g32) ?_
    refine qv (vpF (nt g32)) ?_
    refine nq' ?_
    refine CM_condF rfl rfl ?_
    refine CM_skip (QM_block_normal (QM_then (CM_region (wm ?_))))
    refine wv (vadN k6 1 (by omega)) ?_
    refine wa (WM_nil ?_)
    have hn54 := rng_next (R := Bool) (body := F1) (k := k6) (s := ()) (s' := ()) (show k6 < x0.length from by omega) (show spec_AreQueries_b1 x0 k6 = Sum.inr () from by unfold spec_AreQueries_b1; exact cond_t g32 (cond_f g34 (rfl))) hF8
    exact QM_round (k6 + 1, (), ()) sl2 (fun W hm => hm) ⟨(by omega), hn54⟩ (rl (by omega))
  ·
   refine qs (nf g32) ?_
   refine qs (nf g32) ?_
   refine qs (nf g32) ?_
   refine qu ?_
   refine qu ?_
   refine qu ?_
   refine qu ?_
   refine qu ?_
   refine qu ?_
   refine qu ?_
   refine qu ?_
   refine qu ?_
   refine qu ?_
   refine qu ?_
   refine qu ?_
   refine qs (nf g32) ?_
   refine qv (vpT (nf g32)) ?_
   refine nq' ?_
   refine CM_condT rfl rfl ?_
   refine sr (wa (nt' (CM_ret (QM_block_ret (QM_then_ret (QM_then_ret (QM_block_ret (QM_then_ret ?_))))))))
   exact rtb (h := by unfold spec_AreQueries_m; exact fin_inl (rng_ret (body := F1) (k := k6) (s := ()) (show k6 < x0.length from by omega) (show spec_AreQueries_b1 x0 k6 = Sum.inl false from by unfold spec_AreQueries_b1; exact cond_f g32 (rfl)) hF8) rfl)
 ·have g11 : (decide (((k6 : Nat) : Int) < ((x0.length : Nat) : Int))) = false := decide_eq_false (by omega)
  refine CM_condF rfl g11 ?_
  refine CM_exit (QM_then_exit (QM_then_exit ?_))
  have hE55 : R2 (x0.length - 0) 0 () = Sum.inr () := rng_end hl10 hF8
  refine QM_block_hit (QM_then (sr (wm ?_)))
  refine wv (vlen underlying24) ?_
  refine wv (fun W hm => rv_leq rfl rfl) ?_
  refine wa (nt' (CM_ret ?_))
  exact rtb (h := by unfold spec_AreQueries_m; exact fin_inr hE55 (rfl))

def spec_l5Admits_b1 (x0 : DQuery) (x1 : Int) (x2 : Int) (k16 : Nat) : Bool ⊕ (Unit) :=
 cond (((gt x0.Conds k16).Field) == x1) (cond (spec_l1In_m x2 ((gt x0.Conds k16).Low) ((gt x0.Conds k16).High)) (Sum.inr ()) (Sum.inl false)) (Sum.inr ())
def spec_l5Admits_m (x0 : DQuery) (x1 : Int) (x2 : Int) : Bool :=
 Sum.elim id (fun (s : Unit) => true) (rng (R := Bool) (fun k (_ : Unit) => spec_l5Admits_b1 x0 x1 x2 k) (x0.Conds.length - 0) 0 ())
theorem cb121 : Cb Try.prog 121 := ⟨f121, _, func121, rfl, by decide⟩
theorem spec_l5Admits_c (w : World) (z0 : List Value) (x0 : DQuery) (x1 : Int) (x2 : Int) (r_0 : tyQuery.rd w w.heap.size z0 x0) :
  Calls Try.prog 121 #[.agg z0.toArray, .int .i64 x1, .int .i64 x2] w fun e w' => e = .returned (.bool (spec_l5Admits_m x0 x1 x2)) ∧ Below w.heap.size w w' := by
 obtain ⟨v1, v3, rfl, r2, r4⟩ := tyQuery_rd r_0
 have r9 := r2
 obtain ⟨m5, A6, c7, rfl, q8⟩ := r2
 have r14 := r4
 obtain ⟨m10, A11, c12, rfl, q13⟩ := r4
 refine ce3 (L := [(0, .agg #[.int .i64 x0.Id, .int .i64 x0.Tenant, .slice A6 x0.Conds.length c7, .slice A11 x0.Out.length c12]), (1, .int .i64 x1), (2, .int .i64 x2)]) (N := 40) func121 ?_
 refine sr ?_
 refine WM_box rfl (Wd_none rfl) (by decide) (fun p15 => ?_)
 refine wa (nt' (CM_seq (sr (wa (nt' (CM_block ?_))))))
 let F1 := fun k (_ : Unit) => spec_l5Admits_b1 x0 x1 x2 k
 let R2 := rng (R := Bool) F1
 let K3 : List Value := [.int .i64 x0.Id, .int .i64 x0.Tenant, .slice A6 x0.Conds.length c7, .slice A11 x0.Out.length c12]
 refine CM_loop (σ := Nat × (Unit) × (Unit)) (fun s => [(1, .int .i64 x1), (2, .int .i64 x2), (3, .pointer (some (⟨p15, 0, none⟩ : Addr))), (7, .int .i64 ((s.1 : Nat) : Int))]) (fun s => [iBox p15 39 K3]) (fun s => s.1 ≤ x0.Conds.length ∧ R2 (x0.Conds.length - s.1) s.1 s.2.1 = R2 (x0.Conds.length - 0) 0 ()) (fun s => x0.Conds.length - s.1) (0, (), ()) sl4 (fun W hm => hm) ⟨(by omega), rfl⟩ ?_
 rintro ⟨k16, ⟨⟩, ⟨⟩⟩ H19
 obtain ⟨hk17, hF18⟩ : k16 ≤ x0.Conds.length ∧ R2 (x0.Conds.length - k16) k16 () = R2 (x0.Conds.length - 0) 0 () := H19
 show CM Try.prog 40 _ _ _ _ [(1, .int .i64 x1), (2, .int .i64 x2), (3, .pointer (some (⟨p15, 0, none⟩ : Addr))), (7, .int .i64 ((k16 : Nat) : Int))] [iBox p15 39 K3]
 refine CM_seq (sr (wm ?_))
 refine wv (vf underlying39 rfl type36) ?_
 refine wv (vl 0 2 underlying36) ?_
 refine wv (vlen underlying36) ?_
 refine wv vlss ?_
 refine nt' ?_
 by_cases hl20 : k16 < x0.Conds.length
 ·have g21 : (decide (((k16 : Nat) : Int) < ((x0.Conds.length : Nat) : Int))) = true := decide_eq_true (by omega)
  refine CM_condT rfl g21 ?_
  refine CM_skip (QM_then (CM_seq (CM_block (CM_seq ?_))))
  refine CM_regionD (by kernel_rfl) (by kernel_rfl) ?_
  refine qv (vf underlying39 rfl type36) ?_
  refine qv (vl 0 2 underlying36) ?_
  refine qm ?_
  obtain ⟨a22, rfl, hb23, he24⟩ := q8 (by omega)
  refine qv (vix 3 k16 underlying36 type117) ?_
  refine qv (vf underlying117 rfl type3) ?_
  obtain ⟨_, e26, hc25⟩ := he24 k16 _ (gt_some (show k16 < x0.Conds.length from by omega))
  obtain rfl := tyCond_rd e26
  refine qv (fun W hm => rv_load underlying3 rfl rfl ((hm.cell0 (show ((a22.add (k16 * 3)).add 0).block < w.heap.size from by rw [add_block, add_block]; exact hb23.1)).trans (hc25 0 _ rfl))) ?_
  refine qm ?_
  refine qv (fun W hm => rv_eql rfl rfl) ?_
  refine qm ?_
  by_cases h27 : ((gt x0.Conds k16).Field) = x1
  ·have g28 : (((gt x0.Conds k16).Field) == x1) = true := beq_iff_eq.2 h27
   refine qg vmv g28 ?_
   refine qg (vf underlying39 rfl type36) g28 ?_
   refine qg (vl 0 2 underlying36) g28 ?_
   refine qg vmv g28 ?_
   refine qg (vix 3 k16 underlying36 type117) g28 ?_
   refine qg (vf underlying117 rfl type3) g28 ?_
   refine qg (fun W hm => rv_load underlying3 rfl rfl ((hm.cell0 (show ((a22.add (k16 * 3)).add 1).block < w.heap.size from by rw [add_block, add_block]; exact hb23.1)).trans (hc25 1 _ rfl))) g28 ?_
   refine qg (vf underlying39 rfl type36) g28 ?_
   refine qg (vl 0 2 underlying36) g28 ?_
   refine qg vmv g28 ?_
   refine qg (vix 3 k16 underlying36 type117) g28 ?_
   refine qg (vf underlying117 rfl type3) g28 ?_
   refine qg (fun W hm => rv_load underlying3 rfl rfl ((hm.cell0 (show ((a22.add (k16 * 3)).add 2).block < w.heap.size from by rw [add_block, add_block]; exact hb23.1)).trans (hc25 2 _ rfl))) g28 ?_
   refine QR_callV (cl_fn cb54 rfl) (fun W hm => spec_l1In_c W x2 ((gt x0.Conds k16).Low) ((gt x0.Conds k16).High)) (Wd_some rfl rfl rfl (bw g28 rfl)) (by decide) ?_
   refine qg vnot g28 ?_
   refine qv (vpT g28) ?_
   refine nq' ?_
   rcases Bool.eq_false_or_eq_true (spec_l1In_m x2 ((gt x0.Conds k16).Low) ((gt x0.Conds k16).High)) with g30 | g30
   ·
    have hw := spec_l1In_fact g30
    refine CM_condF rfl (nt g30) ?_
    refine CM_skip (QM_block_normal (QM_then (CM_region (wm ?_))))
    refine wv (vadN k16 1 (by omega)) ?_
    refine wa (WM_nil ?_)
    have hn31 := rng_next (R := Bool) (body := F1) (k := k16) (s := ()) (s' := ()) (show k16 < x0.Conds.length from by omega) (show spec_l5Admits_b1 x0 x1 x2 k16 = Sum.inr () from by unfold spec_l5Admits_b1; exact cond_t g28 (cond_t g30 (rfl))) hF18
    exact QM_round (k16 + 1, (), ()) sl4 (fun W hm => hm) ⟨(by omega), hn31⟩ (rl (by omega))
   ·
    refine CM_condT rfl (nf g30) ?_
    refine sr (wa (nt' (CM_ret (QM_block_ret (QM_then_ret (QM_then_ret (QM_block_ret (QM_then_ret ?_))))))))
    exact rtb (h := by unfold spec_l5Admits_m; exact fin_inl (rng_ret (body := F1) (k := k16) (s := ()) (show k16 < x0.Conds.length from by omega) (show spec_l5Admits_b1 x0 x1 x2 k16 = Sum.inl false from by unfold spec_l5Admits_b1; exact cond_t g28 (cond_f g30 (rfl))) hF18) rfl)
  ·have g28 : (((gt x0.Conds k16).Field) == x1) = false := beq_eq_false_iff_ne.2 h27
   refine qs g28 ?_
   refine qs g28 ?_
   refine qs g28 ?_
   refine qs g28 ?_
   refine qs g28 ?_
   refine qs g28 ?_
   refine qs g28 ?_
   refine qs g28 ?_
   refine qs g28 ?_
   refine qs g28 ?_
   refine qs g28 ?_
   refine qs g28 ?_
   refine qs g28 ?_
   refine qs g28 ?_
   refine qs g28 ?_
   refine qv (vpF g28) ?_
   refine nq' ?_
   refine CM_condF rfl rfl ?_
   refine CM_skip (QM_block_normal (QM_then (CM_region (wm ?_))))
   refine wv (vadN k16 1 (by omega)) ?_
   refine wa (WM_nil ?_)
   have hn32 := rng_next (R := Bool) (body := F1) (k := k16) (s := ()) (s' := ()) (show k16 < x0.Conds.length from by omega) (show spec_l5Admits_b1 x0 x1 x2 k16 = Sum.inr () from by unfold spec_l5Admits_b1; exact cond_f g28 (rfl)) hF18
   exact QM_round (k16 + 1, (), ()) sl4 (fun W hm => hm) ⟨(by omega), hn32⟩ (rl (by omega))
 ·have g21 : (decide (((k16 : Nat) : Int) < ((x0.Conds.length : Nat) : Int))) = false := decide_eq_false (by omega)
  refine CM_condF rfl g21 ?_
  refine CM_exit (QM_then_exit (QM_then_exit ?_))
  have hE33 : R2 (x0.Conds.length - 0) 0 () = Sum.inr () := rng_end hl20 hF18
  refine QM_block_hit (QM_then (sr (wa (nt' (CM_ret ?_)))))
  exact rtb (h := by unfold spec_l5Admits_m; exact fin_inr hE33 (rfl))

def spec_StabSet_b1 (x0 : (List DQuery)) (x1 : Int) (x2 : Int) (k9 : Nat) (d10 : (List Int)) : (List Int) ⊕ (((List Int)) ⊕ ((List Int))) :=
 cond (spec_AreQueries_m x0) (cond (spec_l1In_m x1 0 2) (cond (spec_l1In_m x2 0 99) (cond (spec_l5Admits_m (gt x0 k9) x1 x2) (Sum.inr (Sum.inr (d10 ++ [(gt x0 k9).Id]))) (Sum.inr (Sum.inr d10))) (Sum.inr (Sum.inl d10))) (Sum.inr (Sum.inl d10))) (Sum.inr (Sum.inl d10))
def spec_StabSet_m (x0 : (List DQuery)) (x1 : Int) (x2 : Int) : (List Int) :=
 Sum.elim id (fun (s : (List Int)) => s) (rngb (R := (List Int)) (fun k (s : (List Int)) => spec_StabSet_b1 x0 x1 x2 k s) (x0.length - 0) 0 [])
theorem cb86 : Cb Try.prog 86 := ⟨f86, _, func86, rfl, by decide⟩
theorem spec_StabSet_c (w : World) (z0 : Value) (x0 : (List DQuery)) (x1 : Int) (x2 : Int) (r_0 : rdS tyQuery w w.heap.size z0 x0) (s_0 : (x0.length ≤ 68719476736 ∧ ∀ y ∈ x0, smQuery 68719476736 y)) :
  Calls Try.prog 86 #[z0, .int .i64 x1, .int .i64 x2] w fun e w' => ∃ v : Value, e = .returned (v) ∧ Mem w.heap.size w [iOwn (tSl tInt 3) [v] (spec_StabSet_m x0 x1 x2)] w' := by
 have r5 := r_0
 obtain ⟨m1, A2, c3, rfl, q4⟩ := r_0
 have l6 : x0.length ≤ 68719476736 := s_0.1
 refine ce3 (L := [(0, .slice A2 x0.length c3), (1, .int .i64 x1), (2, .int .i64 x2)]) (N := 44) func86 ?_
 refine sr (wa (nt' (sr ?_)))
 refine WM_build0 (E := tInt) underlying37 type3 (Wd_none rfl) (by decide) (fun p7 => ?_)
 refine wa (nt' (CM_seq (sr (wa (nt' ?_)))))
 let F1 := fun k (s : (List Int)) => spec_StabSet_b1 x0 x1 x2 k s
 let R2 := rngb (R := (List Int)) F1
 refine CM_cut (σ := ((List Int)) × (Option Addr × Nat)) (fun s => [(7, .slice s.2.1 s.1.length s.2.2)]) (fun s => [iOwn (tSl tInt 3) [.slice s.2.1 s.1.length s.2.2] s.1]) (fun s => R2 (x0.length - 0) 0 [] = Sum.inr s.1) ?_ ?_
 ·
  refine CM_block ?_
  refine CM_loop (σ := Nat × ((List Int)) × (Option Addr × Nat)) (fun s => [(0, .slice A2 x0.length c3), (1, .int .i64 x1), (2, .int .i64 x2), (7, .slice s.2.2.1 s.2.1.length s.2.2.2), (8, .int .i64 ((s.1 : Nat) : Int))]) (fun s => [iOwn (tSl tInt 3) [.slice s.2.2.1 s.2.1.length s.2.2.2] s.2.1]) (fun s => s.1 ≤ x0.length ∧ R2 (x0.length - s.1) s.1 s.2.1 = R2 (x0.length - 0) 0 [] ∧ s.2.1.length ≤ 0 + s.1) (fun s => x0.length - s.1) (0, [], ((some ⟨p7, 0, none⟩), 0)) sl5 (fun W hm => hm) ⟨(by omega), rfl, Nat.le_refl _⟩ ?_
  rintro ⟨k9, d10, ⟨A11, c12⟩⟩ H15
  obtain ⟨hk13, hF14, hi16⟩ : k9 ≤ x0.length ∧ R2 (x0.length - k9) k9 d10 = R2 (x0.length - 0) 0 [] ∧ d10.length ≤ 0 + k9 := H15
  show CM Try.prog 44 _ _ _ _ [(0, .slice A2 x0.length c3), (1, .int .i64 x1), (2, .int .i64 x2), (7, .slice A11 d10.length c12), (8, .int .i64 ((k9 : Nat) : Int))] [iOwn (tSl tInt 3) [.slice A11 d10.length c12] d10]
  refine CM_seq (sr (wm (wm ?_)))
  refine wv (vlen underlying24) ?_
  refine wv vlss ?_
  refine wm ?_
  by_cases hl17 : k9 < x0.length
  ·have g18 : (decide (((k9 : Nat) : Int) < ((x0.length : Nat) : Int))) = true := decide_eq_true (by omega)
   refine wg vmv g18 ?_
   refine WM_callV (cl_fn cb44 rfl) (fun W hm => spec_AreQueries_c W _ x0 (hm.rdS0 r5)) (Wd_some rfl rfl rfl (bw g18 rfl)) (by decide) ?_
   refine wv (vpT g18) ?_
   refine wm ?_
   rcases Bool.eq_false_or_eq_true (spec_AreQueries_m x0) with g20 | g20
   ·
    refine wg vmv g20 ?_
    refine WM_callV (cl_fn cb54 rfl) (fun W hm => spec_l1In_c W x1 0 2) (Wd_some rfl rfl rfl (bw g20 rfl)) (by decide) ?_
    refine wv (vpT g20) ?_
    refine wm ?_
    rcases Bool.eq_false_or_eq_true (spec_l1In_m x1 0 2) with g22 | g22
    ·
     have hw := spec_l1In_fact g22
     refine wg vmv g22 ?_
     refine WM_callV (cl_fn cb54 rfl) (fun W hm => spec_l1In_c W x2 0 99) (Wd_some rfl rfl rfl (bw g22 rfl)) (by decide) ?_
     refine wv (vpT g22) ?_
     refine nt' ?_
     rcases Bool.eq_false_or_eq_true (spec_l1In_m x2 0 99) with g24 | g24
     ·
      have hw := spec_l1In_fact g24
      refine CM_condT rfl g24 ?_
      refine CM_skip (QM_then (CM_seq (CM_block (sr (wm (wm ?_))))))
      obtain ⟨a25, rfl, hb26, he27⟩ := q4 (by omega)
      refine wv (vix 4 k9 underlying24 type39) ?_
      obtain ⟨_, e33, hc28⟩ := he27 k9 _ (gt_some (show k9 < x0.length from by omega))
      obtain ⟨v29, v31, rfl, r30, r32⟩ := tyQuery_rd e33
      have l34 : ((gt x0 k9).Conds).length ≤ 68719476736 := (s_0.2 _ (gt_mem (show k9 < x0.length from by omega))).1
      have l35 : ((gt x0 k9).Out).length ≤ 68719476736 := (s_0.2 _ (gt_mem (show k9 < x0.length from by omega))).2
      have r40 := r30
      obtain ⟨m36, A37, c38, rfl, q39⟩ := r30
      have r45 := r32
      obtain ⟨m41, A42, c43, rfl, q44⟩ := r32
      refine wv (fun W hm => rv_loadN (cs := [.int .i64 ((gt x0 k9).Id), .int .i64 ((gt x0 k9).Tenant), .slice A37 ((gt x0 k9).Conds).length c38, .slice A42 ((gt x0 k9).Out).length c43]) underlying39 type39 rfl rfl (hm.elCells (show (a25.add (k9 * 4)).block < w.heap.size from by rw [add_block]; exact hb26.1) hc28)) ?_
      refine wm (wm ?_)
      refine wcv (cl_fn cb121 rfl) (fun W hm => spec_l5Admits_c W _ (gt x0 k9) x1 x2 (tyQuery_mk (x := (gt x0 k9)) (hm.rdS0 r40) (hm.rdS0 r45))) ?_
      refine nt' ?_
      rcases Bool.eq_false_or_eq_true (spec_l5Admits_m (gt x0 k9) x1 x2) with g47 | g47
      ·
       refine CM_condT rfl g47 ?_
       refine CM_region (wm (wm (wm ?_)))
       refine wv (vix 4 k9 underlying24 type39) ?_
       refine wv (vf underlying39 rfl type3) ?_
       refine wv (fun W hm => rv_load underlying3 rfl rfl ((hm.cell0 (show ((a25.add (k9 * 4)).add 0).block < w.heap.size from by rw [add_block, add_block]; exact hb26.1)).trans (hc28 0 _ rfl))) ?_
       refine WM_build (cs := [.int .i64 ((gt x0 k9).Id)]) underlying37 type3 rfl (by decide) (by decide) rfl (by kernel_rfl) (Wd_none rfl) (by decide) (fun p48 => ?_)
       refine ap1 tInt 3 (.slice A11 d10.length c12) d10 ((gt x0 k9).Id) [] [] [.int .i64 ((gt x0 k9).Id)] (fun W hm => hm) (fun _ _ hs => by cases (Sep.nil hs); exact (els_cons tInt_own els_nil)) underlying37 type3 (show (d10.length + 1) * 8 ≤ 140737488355328 from by omega) (fun v49 => ?_)
       refine WM_form (n := 0) rfl ?_
       rintro A50 c51 rfl m52
       refine wa (WM_nil (QM_block_normal (QM_then (CM_region (wm ?_)))))
       refine wv (vadN k9 1 (by omega)) ?_
       refine wa (WM_nil ?_)
       have hn54 := rngb_next (R := (List Int)) (body := F1) (k := k9) (s := d10) (s' := (d10 ++ [(gt x0 k9).Id])) (show k9 < x0.length from by omega) (show spec_StabSet_b1 x0 x1 x2 k9 d10 = Sum.inr (Sum.inr (d10 ++ [(gt x0 k9).Id])) from by unfold spec_StabSet_b1; exact cond_t g20 (cond_t g22 (cond_t g24 (cond_t g47 (rfl))))) hF14
       exact QM_round (k9 + 1, (d10 ++ [(gt x0 k9).Id]), (A50, c51)) sl5 (fun W hm => hm) ⟨(by omega), hn54, (show (d10 ++ [(gt x0 k9).Id]).length ≤ 0 + (k9 + 1) from by first | omega | (simp only [List.length_append, List.length_cons, List.length_nil] at *; omega))⟩ (rl (by omega))
      ·
       refine CM_condF rfl g47 ?_
       refine CM_skip (QM_block_normal (QM_then (CM_region (wm ?_))))
       refine wv (vadN k9 1 (by omega)) ?_
       refine wa (WM_nil ?_)
       have hn55 := rngb_next (R := (List Int)) (body := F1) (k := k9) (s := d10) (s' := d10) (show k9 < x0.length from by omega) (show spec_StabSet_b1 x0 x1 x2 k9 d10 = Sum.inr (Sum.inr d10) from by unfold spec_StabSet_b1; exact cond_t g20 (cond_t g22 (cond_t g24 (cond_f g47 (rfl))))) hF14
       exact QM_round (k9 + 1, d10, (A11, c12)) sl5 (fun W hm => hm) ⟨(by omega), hn55, (show d10.length ≤ 0 + (k9 + 1) from by first | omega | (simp only [List.length_append, List.length_cons, List.length_nil] at *; omega))⟩ (rl (by omega))
     ·
      refine CM_condF rfl g24 ?_
      refine CM_exit (QM_then_exit (QM_then_exit (QM_block_hit ?_)))
      have hE56 := rngb_brk (R := (List Int)) (body := F1) (k := k9) (s := d10) (s' := d10) (show k9 < x0.length from by omega) (show spec_StabSet_b1 x0 x1 x2 k9 d10 = Sum.inr (Sum.inl d10) from by unfold spec_StabSet_b1; exact cond_t g20 (cond_t g22 (cond_f g24 (rfl)))) hF14
      exact QM_cut_normal (d10, (A11, c12)) (subL_cons rfl subL_nil) (fun W hm => hm) hE56
    ·
     refine ws g22 ?_
     refine ws g22 ?_
     refine wv (vpF g22) ?_
     refine nt' ?_
     refine CM_condF rfl rfl ?_
     refine CM_exit (QM_then_exit (QM_then_exit (QM_block_hit ?_)))
     have hE57 := rngb_brk (R := (List Int)) (body := F1) (k := k9) (s := d10) (s' := d10) (show k9 < x0.length from by omega) (show spec_StabSet_b1 x0 x1 x2 k9 d10 = Sum.inr (Sum.inl d10) from by unfold spec_StabSet_b1; exact cond_t g20 (cond_f g22 (rfl))) hF14
     exact QM_cut_normal (d10, (A11, c12)) (subL_cons rfl subL_nil) (fun W hm => hm) hE57
   ·
    refine ws g20 ?_
    refine ws g20 ?_
    refine wv (vpF g20) ?_
    refine wm ?_
    refine wk ?_
    refine wk ?_
    refine wv (vpF rfl) ?_
    refine nt' ?_
    refine CM_condF rfl rfl ?_
    refine CM_exit (QM_then_exit (QM_then_exit (QM_block_hit ?_)))
    have hE58 := rngb_brk (R := (List Int)) (body := F1) (k := k9) (s := d10) (s' := d10) (show k9 < x0.length from by omega) (show spec_StabSet_b1 x0 x1 x2 k9 d10 = Sum.inr (Sum.inl d10) from by unfold spec_StabSet_b1; exact cond_f g20 (rfl)) hF14
    exact QM_cut_normal (d10, (A11, c12)) (subL_cons rfl subL_nil) (fun W hm => hm) hE58
  ·have g18 : (decide (((k9 : Nat) : Int) < ((x0.length : Nat) : Int))) = false := decide_eq_false (by omega)
   refine ws g18 ?_
   refine ws g18 ?_
   refine wv (vpF g18) ?_
   refine wm ?_
   refine wk ?_
   refine wk ?_
   refine wv (vpF rfl) ?_
   refine wm ?_
   refine wk ?_
   refine wk ?_
   refine wv (vpF rfl) ?_
   refine nt' ?_
   refine CM_condF rfl rfl ?_
   refine CM_exit (QM_then_exit (QM_then_exit (QM_block_hit ?_)))
   have hE59 : R2 (x0.length - 0) 0 [] = Sum.inr d10 := rngb_end hl17 hF14
   exact QM_cut_normal (d10, (A11, c12)) (subL_cons rfl subL_nil) (fun W hm => hm) hE59
 ·
  rintro ⟨d10, ⟨A11, c12⟩⟩ H61
  have hE60 : R2 (x0.length - 0) 0 [] = Sum.inr d10 := H61
  show QM 44 _ _ _ .normal [(7, .slice A11 d10.length c12)] [iOwn (tSl tInt 3) [.slice A11 d10.length c12] d10]
  refine QM_then (sr (wm (wa (nt' (CM_ret ?_)))))
  refine QM_r1 rfl (RR_tmp rfl) (fun W hm => ⟨.slice A11 d10.length c12, ?_, ?_⟩)
  ·first | rw [(show spec_StabSet_m x0 x1 x2 = d10 from by unfold spec_StabSet_m; exact fin_inr hE60 (rfl))] | rfl
  ·rw [(show spec_StabSet_m x0 x1 x2 = d10 from by unfold spec_StabSet_m; exact fin_inr hE60 (rfl))]; exact hm

def spec_l2Ints_b1 (x0 : (List Int)) (x1 : (List Int)) (k13 : Nat) : Bool ⊕ (Unit) :=
 cond ((gt x0 k13) != (gt x1 k13)) (Sum.inl false) (Sum.inr ())
def spec_l2Ints_m (x0 : (List Int)) (x1 : (List Int)) : Bool :=
 cond (((x0.length : Nat) : Int) != ((x1.length : Nat) : Int)) false (Sum.elim id (fun (s : Unit) => true) (rng (R := Bool) (fun k (_ : Unit) => spec_l2Ints_b1 x0 x1 k) (x0.length - 0) 0 ()))
theorem cb41 : Cb Try.prog 41 := ⟨f41, _, func41, rfl, by decide⟩
theorem spec_l2Ints_c (w : World) (z0 : Value) (x0 : (List Int)) (z1 : Value) (x1 : (List Int)) (r_0 : rdS tInt w w.heap.size z0 x0) (r_1 : rdS tInt w w.heap.size z1 x1) :
  Calls Try.prog 41 #[z0, z1] w fun e w' => e = .returned (.bool (spec_l2Ints_m x0 x1)) ∧ Below w.heap.size w w' := by
 have r5 := r_0
 obtain ⟨m1, A2, c3, rfl, q4⟩ := r_0
 have r10 := r_1
 obtain ⟨m6, A7, c8, rfl, q9⟩ := r_1
 refine ce2 (L := [(0, .slice A2 x0.length c3), (1, .slice A7 x1.length c8)]) (N := 26) func41 ?_
 refine sr (wa (nt' (CM_seq (sr (wm ?_)))))
 refine wv (vlen underlying37) ?_
 refine wm ?_
 refine wv (vlen underlying37) ?_
 refine wv vneq ?_
 refine nt' ?_
 by_cases h11 : ((x0.length : Nat) : Int) = ((x1.length : Nat) : Int)
 ·have g12 : (((x0.length : Nat) : Int) != ((x1.length : Nat) : Int)) = false := by rw [h11]; exact bne_self_eq_false _
  refine CM_condF rfl g12 ?_
  refine CM_skip (QM_then (CM_seq (sr (wa (nt' (CM_block ?_))))))
  let F1 := fun k (_ : Unit) => spec_l2Ints_b1 x0 x1 k
  let R2 := rng (R := Bool) F1
  refine CM_loop (σ := Nat × (Unit) × (Unit)) (fun s => [(0, .slice A2 x0.length c3), (1, .slice A7 x1.length c8), (5, .int .i64 ((s.1 : Nat) : Int))]) (fun s => []) (fun s => s.1 ≤ x0.length ∧ R2 (x0.length - s.1) s.1 s.2.1 = R2 (x0.length - 0) 0 ()) (fun s => x0.length - s.1) (0, (), ()) sl3 (fun W hm => hm) ⟨(by omega), rfl⟩ ?_
  rintro ⟨k13, ⟨⟩, ⟨⟩⟩ H16
  obtain ⟨hk14, hF15⟩ : k13 ≤ x0.length ∧ R2 (x0.length - k13) k13 () = R2 (x0.length - 0) 0 () := H16
  show CM Try.prog 26 _ _ _ _ [(0, .slice A2 x0.length c3), (1, .slice A7 x1.length c8), (5, .int .i64 ((k13 : Nat) : Int))] []
  refine CM_seq (sr (wm (wm ?_)))
  refine wv (vlen underlying37) ?_
  refine wv vlss ?_
  refine nt' ?_
  by_cases hl17 : k13 < x0.length
  ·have g18 : (decide (((k13 : Nat) : Int) < ((x0.length : Nat) : Int))) = true := decide_eq_true (by omega)
   refine CM_condT rfl g18 ?_
   refine CM_skip (QM_then (CM_seq (CM_block (CM_seq ?_))))
   refine CM_regionD (by kernel_rfl) (by kernel_rfl) ?_
   refine qm (qm ?_)
   obtain ⟨a19, rfl, hb20, he21⟩ := q4 (by omega)
   refine qv (vix 1 k13 underlying37 type3) ?_
   refine qv (fun W hm => rv_load underlying3 rfl rfl ((hm.cell0 (show (a19.add (k13 * 1)).block < w.heap.size from by rw [add_block]; exact hb20.1)).trans (rdS_int he21 k13 (by omega)))) ?_
   refine qm (qm ?_)
   obtain ⟨a22, rfl, hb23, he24⟩ := q9 (by omega)
   refine qv (vix 1 k13 underlying37 type3) ?_
   refine qv (fun W hm => rv_load underlying3 rfl rfl ((hm.cell0 (show (a22.add (k13 * 1)).block < w.heap.size from by rw [add_block]; exact hb23.1)).trans (rdS_int he24 k13 (by omega)))) ?_
   refine qv vneq ?_
   refine nq' ?_
   by_cases h25 : (gt x0 k13) = (gt x1 k13)
   ·have g26 : ((gt x0 k13) != (gt x1 k13)) = false := by rw [h25]; exact bne_self_eq_false _
    refine CM_condF rfl g26 ?_
    refine CM_skip (QM_block_normal (QM_then (CM_region (wm ?_))))
    refine wv (vadN k13 1 (by omega)) ?_
    refine wa (WM_nil ?_)
    have hn27 := rng_next (R := Bool) (body := F1) (k := k13) (s := ()) (s' := ()) (show k13 < x0.length from by omega) (show spec_l2Ints_b1 x0 x1 k13 = Sum.inr () from by unfold spec_l2Ints_b1; exact cond_f g26 (rfl)) hF15
    exact QM_round (k13 + 1, (), ()) sl3 (fun W hm => hm) ⟨(by omega), hn27⟩ (rl (by omega))
   ·have g26 : ((gt x0 k13) != (gt x1 k13)) = true := bne_iff_ne.2 h25
    refine CM_condT rfl g26 ?_
    refine sr (wa (nt' (CM_ret (QM_block_ret (QM_then_ret (QM_then_ret (QM_block_ret (QM_then_ret ?_))))))))
    exact rtb (h := by unfold spec_l2Ints_m; exact cond_f g12 (fin_inl (rng_ret (body := F1) (k := k13) (s := ()) (show k13 < x0.length from by omega) (show spec_l2Ints_b1 x0 x1 k13 = Sum.inl false from by unfold spec_l2Ints_b1; exact cond_t g26 (rfl)) hF15) rfl))
  ·have g18 : (decide (((k13 : Nat) : Int) < ((x0.length : Nat) : Int))) = false := decide_eq_false (by omega)
   refine CM_condF rfl g18 ?_
   refine CM_exit (QM_then_exit (QM_then_exit ?_))
   have hE28 : R2 (x0.length - 0) 0 () = Sum.inr () := rng_end hl17 hF15
   refine QM_block_hit (QM_then (sr (wa (nt' (CM_ret ?_)))))
   exact rtb (h := by unfold spec_l2Ints_m; exact cond_f g12 (fin_inr hE28 (rfl)))
 ·have g12 : (((x0.length : Nat) : Int) != ((x1.length : Nat) : Int)) = true := bne_iff_ne.2 h11
  refine CM_condT rfl g12 ?_
  refine sr (wa (nt' (CM_ret (QM_then_ret ?_))))
  exact rtb (h := by unfold spec_l2Ints_m; exact cond_t g12 (rfl))

def spec_StabIndex_b1 (x0 : (List DQuery)) (x1 : Int) (k13 : Nat) (d14 : (List DSpan)) : (List DSpan) ⊕ ((List DSpan)) :=
 cond (decide (0 < ((d14.length : Nat) : Int))) (cond (spec_l2Ints_m ((gt d14 (d14.length - 1)).Set) (spec_StabSet_m x0 x1 ((k13 : Nat) : Int))) (Sum.inr (d14.set (d14.length - 1) (⟨(gt d14 (d14.length - 1)).From, ((k13 : Nat) : Int), (gt d14 (d14.length - 1)).Set⟩ : DSpan))) (Sum.inr (d14 ++ [(⟨((k13 : Nat) : Int), ((k13 : Nat) : Int), (spec_StabSet_m x0 x1 ((k13 : Nat) : Int))⟩ : DSpan)]))) (Sum.inr (d14 ++ [(⟨((k13 : Nat) : Int), ((k13 : Nat) : Int), (spec_StabSet_m x0 x1 ((k13 : Nat) : Int))⟩ : DSpan)]))
def spec_StabIndex_m (x0 : (List DQuery)) (x1 : Int) : (List DSpan) :=
 cond (spec_AreQueries_m x0) (cond (spec_l1In_m x1 0 2) (Sum.elim id (fun (s : (List DSpan)) => s) (rng (R := (List DSpan)) (fun k (s : (List DSpan)) => spec_StabIndex_b1 x0 x1 k s) (100 - 0) 0 [])) []) []
theorem cb46 : Cb Try.prog 46 := ⟨f46, _, func46, rfl, by decide⟩
theorem spec_StabIndex_c (w : World) (z0 : Value) (x0 : (List DQuery)) (x1 : Int) (r_0 : rdS tyQuery w w.heap.size z0 x0) (s_0 : (x0.length ≤ 68719476736 ∧ ∀ y ∈ x0, smQuery 68719476736 y)) :
  Calls Try.prog 46 #[z0, .int .i64 x1] w fun e w' => ∃ v : Value, e = .returned (v) ∧ Mem w.heap.size w [iOwn (tSl tySpan 113) [v] (spec_StabIndex_m x0 x1)] w' := by
 have r5 := r_0
 obtain ⟨m1, A2, c3, rfl, q4⟩ := r_0
 have l6 : x0.length ≤ 68719476736 := s_0.1
 refine ce2 (L := [(0, .slice A2 x0.length c3), (1, .int .i64 x1)]) (N := 55) func46 ?_
 refine sr (wa (nt' (sr ?_)))
 refine WM_build0 (E := tySpan) underlying78 type113 (Wd_none rfl) (by decide) (fun p7 => ?_)
 refine wa (nt' (CM_seq (sr (wm ?_))))
 refine wcv (cl_fn cb44 rfl) (fun W hm => spec_AreQueries_c W _ x0 (hm.rdS0 r5)) ?_
 refine wv vnot ?_
 refine wm ?_
 rcases Bool.eq_false_or_eq_true (spec_AreQueries_m x0) with g10 | g10
 ·
  refine wg vmv (nt g10) ?_
  refine WM_callV (cl_fn cb54 rfl) (fun W hm => spec_l1In_c W x1 0 2) (Wd_some rfl rfl rfl (bw (nt g10) rfl)) (by decide) ?_
  refine wg vnot (nt g10) ?_
  refine wv (vpF (nt g10)) ?_
  refine nt' ?_
  rcases Bool.eq_false_or_eq_true (spec_l1In_m x1 0 2) with g12 | g12
  ·
   have hw := spec_l1In_fact g12
   refine CM_condF rfl (nt g12) ?_
   refine CM_skip (QM_then (CM_seq (sr (wa (nt' (CM_block ?_))))))
   let F1 := fun k (s : (List DSpan)) => spec_StabIndex_b1 x0 x1 k s
   let R2 := rng (R := (List DSpan)) F1
   refine CM_loop (σ := Nat × ((List DSpan)) × (Option Addr × Nat)) (fun s => [(0, .slice A2 x0.length c3), (1, .int .i64 x1), (5, .slice s.2.2.1 s.2.1.length s.2.2.2), (6, .int .i64 ((s.1 : Nat) : Int))]) (fun s => [iOwn (tSl tySpan 113) [.slice s.2.2.1 s.2.1.length s.2.2.2] s.2.1]) (fun s => s.1 ≤ 100 ∧ R2 (100 - s.1) s.1 s.2.1 = R2 (100 - 0) 0 [] ∧ s.2.1.length ≤ 0 + s.1) (fun s => 100 - s.1) (0, [], ((some ⟨p7, 0, none⟩), 0)) sl4 (fun W hm => hm) ⟨(by omega), rfl, Nat.le_refl _⟩ ?_
   rintro ⟨k13, d14, ⟨A15, c16⟩⟩ H19
   obtain ⟨hk17, hF18, hi20⟩ : k13 ≤ 100 ∧ R2 (100 - k13) k13 d14 = R2 (100 - 0) 0 [] ∧ d14.length ≤ 0 + k13 := H19
   show CM Try.prog 55 _ _ _ _ [(0, .slice A2 x0.length c3), (1, .int .i64 x1), (5, .slice A15 d14.length c16), (6, .int .i64 ((k13 : Nat) : Int))] [iOwn (tSl tySpan 113) [.slice A15 d14.length c16] d14]
   refine CM_seq (sr (wm ?_))
   refine wv (fun W hm => rv_leq rfl rfl) ?_
   refine nt' ?_
   by_cases hl21 : k13 < 100
   ·have g22 : (decide (((k13 : Nat) : Int) ≤ 99)) = true := decide_eq_true (by omega)
    refine CM_condT rfl g22 ?_
    refine CM_skip (QM_then (CM_seq (CM_block (sr (wm (wm (wm ?_)))))))
    refine wcl (tSl tInt 3) (spec_StabSet_m x0 x1 ((k13 : Nat) : Int)) (cl_fn cb86 rfl) (fun W hm => spec_StabSet_c W _ x0 x1 ((k13 : Nat) : Int) (hm.rdS0 r5) s_0) (fun z23 => ?_)
    refine WM_form (n := 0) rfl ?_
    rintro A24 c25 rfl m26
    refine wa (nt' (sr (wm ?_)))
    refine wv (vlen underlying78) ?_
    refine wa (nt' (sr (wm ?_)))
    refine wv (fun W hm => rv_gtr rfl rfl) ?_
    refine wm ?_
    by_cases h28 : 0 < ((d14.length : Nat) : Int)
    ·have g29 : (decide (0 < ((d14.length : Nat) : Int))) = true := decide_eq_true h28
     refine wg vmv g29 ?_
     refine wg vmv g29 ?_
     refine wg (fun W hm => rv_subN (p := d14.length) (q := 1) rfl rfl (by omega) (by omega)) g29 ?_
     refine WM_formO (n := 1) rfl (by omega) ?_
     rintro g30 rfl
     refine wg (fun W hm => rv_index (sz := 3) (k := d14.length - 1) underlying78 type113 rfl rfl rfl (by omega)) g29 ?_
     refine wg (vf underlying113 rfl type37) g29 ?_
     let K3 : List Value := [.slice A24 (spec_StabSet_m x0 x1 ((k13 : Nat) : Int)).length c25]
     let I7 : It := iOwn (tSl tInt 3) K3 (spec_StabSet_m x0 x1 ((k13 : Nat) : Int))
     refine WM_focus (E := tySpan) (e := 113) (A := (some ⟨g30, 0, none⟩)) (n := d14.length) (c := c16) (xs := d14) (k := (d14.length - 1)) (js := [I7]) (by omega) (pk [1, 0]) (fun ck31 => ?_)
     refine tySpan_sp ?_
     rintro v32 rfl
     refine WM_form (n := 0) rfl ?_
     rintro A33 c34 rfl m35
     refine wg (fun W hm => rv_load underlying37 rfl rfl (hm.focCells (i := 1) rfl rfl 2 _ rfl)) g29 ?_
     refine wg vmv g29 ?_
     refine WM_callV (cl_fn cb41 rfl) (fun W hm => spec_l2Ints_c W _ ((gt d14 (d14.length - 1)).Set) _ (spec_StabSet_m x0 x1 ((k13 : Nat) : Int)) (hm.rdSI (n := 0) rfl) (hm.rdSI (n := 2) rfl)) (Wd_some rfl rfl rfl (bw g29 rfl)) (by decide) ?_
     refine wv (vpT g29) ?_
     refine nt' ?_
     rcases Bool.eq_false_or_eq_true (spec_l2Ints_m ((gt d14 (d14.length - 1)).Set) (spec_StabSet_m x0 x1 ((k13 : Nat) : Int))) with g38 | g38
     ·
      refine CM_condT rfl g38 ?_
      refine CM_region (wm (wm ?_))
      refine wv (fun W hm => rv_subN (p := d14.length) (q := 1) rfl rfl (by omega) (by omega)) ?_
      refine wm ?_
      refine wv (fun W hm => rv_index (sz := 3) (k := d14.length - 1) underlying78 type113 rfl rfl rfl (by omega)) ?_
      refine wv (vf underlying113 rfl type3) ?_
      let K4 : List Value := [.int .i64 ((gt d14 (d14.length - 1)).From), .int .i64 ((k13 : Nat) : Int), .slice A33 ((gt d14 (d14.length - 1)).Set).length c34]
      let I8 : It := iOwn (tSl tInt 3) [.slice A33 ((gt d14 (d14.length - 1)).Set).length c34] ((gt d14 (d14.length - 1)).Set)
      refine WM_storeFoc (E := tySpan) (e := 113) (g := g30) (n := d14.length) (c := c16) (k := (d14.length - 1)) (s := 3) (o := 1) (xs := d14) (ck := [.int .i64 ((gt d14 (d14.length - 1)).From), .int .i64 ((gt d14 (d14.length - 1)).To), .slice A33 ((gt d14 (d14.length - 1)).Set).length c34]) (ck' := K4) (js := [I8, I7]) (pk [1, 0, 2]) rfl rfl type3 rfl (Nat.le_of_ble_eq_true rfl) rfl rfl rfl rfl (Wd_none rfl) ?_
      refine WM_nil (QM_block_normal (QM_then (CM_region (wm ?_))))
      refine wv (vadN k13 1 (by omega)) ?_
      refine wa (WM_nil ?_)
      refine QM_items (fun W hm => Mem.unfocus (Mem.join (is := [I8]) (js := (iFoc tySpan 113 (some ⟨g30, 0, none⟩) d14.length c16 d14 (d14.length - 1) K4 :: [I7])) (fun _ _ hs => tySpan_join (x := (⟨(gt d14 (d14.length - 1)).From, ((k13 : Nat) : Int), (gt d14 (d14.length - 1)).Set⟩ : DSpan)) hs) (hm.pick [1, 0, 2] (by decide)))) ?_
      have hl39 : d14.length = (d14.set (d14.length - 1) (⟨(gt d14 (d14.length - 1)).From, ((k13 : Nat) : Int), (gt d14 (d14.length - 1)).Set⟩ : DSpan)).length := by first | rfl | exact List.length_set.symm
      generalize ix40h : d14.length - 1 = ix40
      rw [show d14.length = (d14.set ix40 (⟨(gt d14 ix40).From, ((k13 : Nat) : Int), (gt d14 ix40).Set⟩ : DSpan)).length from List.length_set.symm]
      subst ix40h
      have hn41 := rng_next (R := (List DSpan)) (body := F1) (k := k13) (s := d14) (s' := (d14.set (d14.length - 1) (⟨(gt d14 (d14.length - 1)).From, ((k13 : Nat) : Int), (gt d14 (d14.length - 1)).Set⟩ : DSpan))) (show k13 < 100 from by omega) (show spec_StabIndex_b1 x0 x1 k13 d14 = Sum.inr (d14.set (d14.length - 1) (⟨(gt d14 (d14.length - 1)).From, ((k13 : Nat) : Int), (gt d14 (d14.length - 1)).Set⟩ : DSpan)) from by unfold spec_StabIndex_b1; exact cond_t g29 (cond_t g38 (rfl))) hF18
      exact QM_round (k13 + 1, (d14.set (d14.length - 1) (⟨(gt d14 (d14.length - 1)).From, ((k13 : Nat) : Int), (gt d14 (d14.length - 1)).Set⟩ : DSpan)), ((some ⟨g30, 0, none⟩), c16)) sl4 (pk [0]) ⟨(by omega), hn41, (show (d14.set (d14.length - 1) (⟨(gt d14 (d14.length - 1)).From, ((k13 : Nat) : Int), (gt d14 (d14.length - 1)).Set⟩ : DSpan)).length ≤ 0 + (k13 + 1) from by first | omega | (simp only [List.length_append, List.length_cons, List.length_nil] at *; omega))⟩ (rl (by omega))
     ·
      refine CM_condF rfl g38 ?_
      refine CM_region (wm (wm (wm (wm ?_))))
      let K5 : List Value := [.int .i64 ((k13 : Nat) : Int), .int .i64 ((k13 : Nat) : Int), .slice A24 (spec_StabSet_m x0 x1 ((k13 : Nat) : Int)).length c25]
      refine wv (fun W hm => rv_build (cs := K5) rfl (by kernel_rfl)) ?_
      refine WM_build (cs := K5) underlying78 type113 rfl (by decide) (by decide) rfl (by kernel_rfl) (Wd_none rfl) (by decide) (fun p42 => ?_)
      refine WM_items (fun W hm => Mem.unfocus0 (Mem.join (is := [iOwn (tSl tInt 3) [.slice A33 ((gt d14 (d14.length - 1)).Set).length c34] ((gt d14 (d14.length - 1)).Set)]) (js := (iFoc tySpan 113 (some ⟨g30, 0, none⟩) d14.length c16 d14 (d14.length - 1) [.int .i64 ((gt d14 (d14.length - 1)).From), .int .i64 ((gt d14 (d14.length - 1)).To), .slice A33 ((gt d14 (d14.length - 1)).Set).length c34] :: [iBox p42 113 K5, I7])) (fun _ _ hs => tySpan_join (x := (gt d14 (d14.length - 1))) hs) (hm.pick [1, 2, 0, 3] (by decide)))) ?_
      refine ap1 tySpan 113 (.slice (some ⟨g30, 0, none⟩) d14.length c16) d14 (⟨((k13 : Nat) : Int), ((k13 : Nat) : Int), (spec_StabSet_m x0 x1 ((k13 : Nat) : Int))⟩ : DSpan) [I7] [] K5 (pk [1, 0, 2]) (fun _ _ hs => Els.single (tySpan_join (x := (⟨((k13 : Nat) : Int), ((k13 : Nat) : Int), (spec_StabSet_m x0 x1 ((k13 : Nat) : Int))⟩ : DSpan)) hs)) underlying78 type113 (show (d14.length + 1) * 40 ≤ 140737488355328 from by omega) (fun v43 => ?_)
      refine WM_form (n := 0) rfl ?_
      rintro A44 c45 rfl m46
      refine wa (WM_nil (QM_block_normal (QM_then (CM_region (wm ?_)))))
      refine wv (vadN k13 1 (by omega)) ?_
      refine wa (WM_nil ?_)
      have hn48 := rng_next (R := (List DSpan)) (body := F1) (k := k13) (s := d14) (s' := (d14 ++ [(⟨((k13 : Nat) : Int), ((k13 : Nat) : Int), (spec_StabSet_m x0 x1 ((k13 : Nat) : Int))⟩ : DSpan)])) (show k13 < 100 from by omega) (show spec_StabIndex_b1 x0 x1 k13 d14 = Sum.inr (d14 ++ [(⟨((k13 : Nat) : Int), ((k13 : Nat) : Int), (spec_StabSet_m x0 x1 ((k13 : Nat) : Int))⟩ : DSpan)]) from by unfold spec_StabIndex_b1; exact cond_t g29 (cond_f g38 (rfl))) hF18
      exact QM_round (k13 + 1, (d14 ++ [(⟨((k13 : Nat) : Int), ((k13 : Nat) : Int), (spec_StabSet_m x0 x1 ((k13 : Nat) : Int))⟩ : DSpan)]), (A44, c45)) sl4 (fun W hm => hm) ⟨(by omega), hn48, (show (d14 ++ [(⟨((k13 : Nat) : Int), ((k13 : Nat) : Int), (spec_StabSet_m x0 x1 ((k13 : Nat) : Int))⟩ : DSpan)]).length ≤ 0 + (k13 + 1) from by first | omega | (simp only [List.length_append, List.length_cons, List.length_nil] at *; omega))⟩ (rl (by omega))
    ·have g29 : (decide (0 < ((d14.length : Nat) : Int))) = false := decide_eq_false h28
     refine ws g29 ?_
     refine ws g29 ?_
     refine ws g29 ?_
     refine ws g29 ?_
     refine ws g29 ?_
     refine ws g29 ?_
     refine ws g29 ?_
     refine ws g29 ?_
     refine wv (vpF g29) ?_
     refine nt' ?_
     refine CM_condF rfl rfl ?_
     refine CM_region (wm (wm (wm (wm ?_))))
     let K6 : List Value := [.int .i64 ((k13 : Nat) : Int), .int .i64 ((k13 : Nat) : Int), .slice A24 (spec_StabSet_m x0 x1 ((k13 : Nat) : Int)).length c25]
     refine wv (fun W hm => rv_build (cs := K6) rfl (by kernel_rfl)) ?_
     refine WM_build (cs := K6) underlying78 type113 rfl (by decide) (by decide) rfl (by kernel_rfl) (Wd_none rfl) (by decide) (fun p49 => ?_)
     refine ap1 tySpan 113 (.slice A15 d14.length c16) d14 (⟨((k13 : Nat) : Int), ((k13 : Nat) : Int), (spec_StabSet_m x0 x1 ((k13 : Nat) : Int))⟩ : DSpan) [iOwn (tSl tInt 3) [.slice A24 (spec_StabSet_m x0 x1 ((k13 : Nat) : Int)).length c25] (spec_StabSet_m x0 x1 ((k13 : Nat) : Int))] [] K6 (pk [0, 2, 1]) (fun _ _ hs => Els.single (tySpan_join (x := (⟨((k13 : Nat) : Int), ((k13 : Nat) : Int), (spec_StabSet_m x0 x1 ((k13 : Nat) : Int))⟩ : DSpan)) hs)) underlying78 type113 (show (d14.length + 1) * 40 ≤ 140737488355328 from by omega) (fun v50 => ?_)
     refine WM_form (n := 0) rfl ?_
     rintro A51 c52 rfl m53
     refine wa (WM_nil (QM_block_normal (QM_then (CM_region (wm ?_)))))
     refine wv (vadN k13 1 (by omega)) ?_
     refine wa (WM_nil ?_)
     have hn55 := rng_next (R := (List DSpan)) (body := F1) (k := k13) (s := d14) (s' := (d14 ++ [(⟨((k13 : Nat) : Int), ((k13 : Nat) : Int), (spec_StabSet_m x0 x1 ((k13 : Nat) : Int))⟩ : DSpan)])) (show k13 < 100 from by omega) (show spec_StabIndex_b1 x0 x1 k13 d14 = Sum.inr (d14 ++ [(⟨((k13 : Nat) : Int), ((k13 : Nat) : Int), (spec_StabSet_m x0 x1 ((k13 : Nat) : Int))⟩ : DSpan)]) from by unfold spec_StabIndex_b1; exact cond_f g29 (rfl)) hF18
     exact QM_round (k13 + 1, (d14 ++ [(⟨((k13 : Nat) : Int), ((k13 : Nat) : Int), (spec_StabSet_m x0 x1 ((k13 : Nat) : Int))⟩ : DSpan)]), (A51, c52)) sl4 (fun W hm => hm) ⟨(by omega), hn55, (show (d14 ++ [(⟨((k13 : Nat) : Int), ((k13 : Nat) : Int), (spec_StabSet_m x0 x1 ((k13 : Nat) : Int))⟩ : DSpan)]).length ≤ 0 + (k13 + 1) from by first | omega | (simp only [List.length_append, List.length_cons, List.length_nil] at *; omega))⟩ (rl (by omega))
   ·have g22 : (decide (((k13 : Nat) : Int) ≤ 99)) = false := decide_eq_false (by omega)
    refine CM_condF rfl g22 ?_
    refine CM_exit (QM_then_exit (QM_then_exit ?_))
    have hE56 : R2 (100 - 0) 0 [] = Sum.inr d14 := rng_end hl21 hF18
    refine QM_block_hit (QM_then (sr (wm (wa (nt' (CM_ret ?_))))))
    refine QM_r1 rfl (RR_tmp rfl) (fun W hm => ⟨.slice A15 d14.length c16, ?_, ?_⟩)
    ·first | rw [(show spec_StabIndex_m x0 x1 = d14 from by unfold spec_StabIndex_m; exact cond_t g10 (cond_t g12 (fin_inr hE56 (rfl))))] | rfl
    ·rw [(show spec_StabIndex_m x0 x1 = d14 from by unfold spec_StabIndex_m; exact cond_t g10 (cond_t g12 (fin_inr hE56 (rfl))))]; exact hm
  ·
   refine CM_condT rfl (nf g12) ?_
   refine sr (wm (wa (nt' (CM_ret (QM_then_ret ?_)))))
   refine QM_r1 rfl (RR_tmp rfl) (fun W hm => ⟨.slice (some ⟨p7, 0, none⟩) 0 0, ?_, ?_⟩)
   ·first | rw [(show spec_StabIndex_m x0 x1 = [] from by unfold spec_StabIndex_m; exact cond_t g10 (cond_f g12 (rfl)))] | rfl
   ·rw [(show spec_StabIndex_m x0 x1 = [] from by unfold spec_StabIndex_m; exact cond_t g10 (cond_f g12 (rfl)))]; exact hm
 ·
  refine ws (nf g10) ?_
  refine ws (nf g10) ?_
  refine ws (nf g10) ?_
  refine wv (vpT (nf g10)) ?_
  refine nt' ?_
  refine CM_condT rfl rfl ?_
  refine sr (wm (wa (nt' (CM_ret (QM_then_ret ?_)))))
  refine QM_r1 rfl (RR_tmp rfl) (fun W hm => ⟨.slice (some ⟨p7, 0, none⟩) 0 0, ?_, ?_⟩)
  ·first | rw [(show spec_StabIndex_m x0 x1 = [] from by unfold spec_StabIndex_m; exact cond_f g10 (rfl))] | rfl
  ·rw [(show spec_StabIndex_m x0 x1 = [] from by unfold spec_StabIndex_m; exact cond_f g10 (rfl))]; exact hm

def spec_EqualSpans_b1 (x0 : (List DSpan)) (x1 : (List DSpan)) (k13 : Nat) : Bool ⊕ (Unit) :=
 cond (((gt x0 k13).From) != ((gt x1 k13).From)) (Sum.inl false) (cond (((gt x0 k13).To) != ((gt x1 k13).To)) (Sum.inl false) (cond (spec_l2Ints_m ((gt x0 k13).Set) ((gt x1 k13).Set)) (Sum.inr ()) (Sum.inl false)))
def spec_EqualSpans_m (x0 : (List DSpan)) (x1 : (List DSpan)) : Bool :=
 cond (((x0.length : Nat) : Int) != ((x1.length : Nat) : Int)) false (Sum.elim id (fun (s : Unit) => true) (rng (R := Bool) (fun k (_ : Unit) => spec_EqualSpans_b1 x0 x1 k) (x0.length - 0) 0 ()))
theorem cb45 : Cb Try.prog 45 := ⟨f45, _, func45, rfl, by decide⟩
theorem spec_EqualSpans_c (w : World) (z0 : Value) (x0 : (List DSpan)) (z1 : Value) (x1 : (List DSpan)) (r_0 : rdS tySpan w w.heap.size z0 x0) (r_1 : rdS tySpan w w.heap.size z1 x1) :
  Calls Try.prog 45 #[z0, z1] w fun e w' => e = .returned (.bool (spec_EqualSpans_m x0 x1)) ∧ Below w.heap.size w w' := by
 have r5 := r_0
 obtain ⟨m1, A2, c3, rfl, q4⟩ := r_0
 have r10 := r_1
 obtain ⟨m6, A7, c8, rfl, q9⟩ := r_1
 refine ce2 (L := [(0, .slice A2 x0.length c3), (1, .slice A7 x1.length c8)]) (N := 55) func45 ?_
 refine sr (wa (nt' (CM_seq (sr (wm ?_)))))
 refine wv (vlen underlying78) ?_
 refine wm ?_
 refine wv (vlen underlying78) ?_
 refine wv vneq ?_
 refine nt' ?_
 by_cases h11 : ((x0.length : Nat) : Int) = ((x1.length : Nat) : Int)
 ·have g12 : (((x0.length : Nat) : Int) != ((x1.length : Nat) : Int)) = false := by rw [h11]; exact bne_self_eq_false _
  refine CM_condF rfl g12 ?_
  refine CM_skip (QM_then (CM_seq (sr (wa (nt' (CM_block ?_))))))
  let F1 := fun k (_ : Unit) => spec_EqualSpans_b1 x0 x1 k
  let R2 := rng (R := Bool) F1
  refine CM_loop (σ := Nat × (Unit) × (Unit)) (fun s => [(0, .slice A2 x0.length c3), (1, .slice A7 x1.length c8), (5, .int .i64 ((s.1 : Nat) : Int))]) (fun s => []) (fun s => s.1 ≤ x0.length ∧ R2 (x0.length - s.1) s.1 s.2.1 = R2 (x0.length - 0) 0 ()) (fun s => x0.length - s.1) (0, (), ()) sl3 (fun W hm => hm) ⟨(by omega), rfl⟩ ?_
  rintro ⟨k13, ⟨⟩, ⟨⟩⟩ H16
  obtain ⟨hk14, hF15⟩ : k13 ≤ x0.length ∧ R2 (x0.length - k13) k13 () = R2 (x0.length - 0) 0 () := H16
  show CM Try.prog 55 _ _ _ _ [(0, .slice A2 x0.length c3), (1, .slice A7 x1.length c8), (5, .int .i64 ((k13 : Nat) : Int))] []
  refine CM_seq (sr (wm (wm ?_)))
  refine wv (vlen underlying78) ?_
  refine wv vlss ?_
  refine nt' ?_
  by_cases hl17 : k13 < x0.length
  ·have g18 : (decide (((k13 : Nat) : Int) < ((x0.length : Nat) : Int))) = true := decide_eq_true (by omega)
   refine CM_condT rfl g18 ?_
   refine CM_skip (QM_then (CM_seq (CM_block (CM_seq ?_))))
   refine CM_regionD (by kernel_rfl) (by kernel_rfl) ?_
   refine qm (qm ?_)
   obtain ⟨a19, rfl, hb20, he21⟩ := q4 (by omega)
   refine qv (vix 3 k13 underlying78 type113) ?_
   refine qv (vf underlying113 rfl type3) ?_
   obtain ⟨_, e25, hc22⟩ := he21 k13 _ (gt_some (show k13 < x0.length from by omega))
   obtain ⟨v23, rfl, r24⟩ := tySpan_rd e25
   have r30 := r24
   obtain ⟨m26, A27, c28, rfl, q29⟩ := r24
   refine qv (fun W hm => rv_load underlying3 rfl rfl ((hm.cell0 (show ((a19.add (k13 * 3)).add 0).block < w.heap.size from by rw [add_block, add_block]; exact hb20.1)).trans (hc22 0 _ rfl))) ?_
   refine qm (qm ?_)
   obtain ⟨a31, rfl, hb32, he33⟩ := q9 (by omega)
   refine qv (vix 3 k13 underlying78 type113) ?_
   refine qv (vf underlying113 rfl type3) ?_
   obtain ⟨_, e37, hc34⟩ := he33 k13 _ (gt_some (show k13 < x1.length from by omega))
   obtain ⟨v35, rfl, r36⟩ := tySpan_rd e37
   have r42 := r36
   obtain ⟨m38, A39, c40, rfl, q41⟩ := r36
   refine qv (fun W hm => rv_load underlying3 rfl rfl ((hm.cell0 (show ((a31.add (k13 * 3)).add 0).block < w.heap.size from by rw [add_block, add_block]; exact hb32.1)).trans (hc34 0 _ rfl))) ?_
   refine qv vneq ?_
   refine qm ?_
   by_cases h43 : ((gt x0 k13).From) = ((gt x1 k13).From)
   ·have g44 : (((gt x0 k13).From) != ((gt x1 k13).From)) = false := by rw [h43]; exact bne_self_eq_false _
    refine qg vmv g44 ?_
    refine qg vmv g44 ?_
    refine qg (vix 3 k13 underlying78 type113) g44 ?_
    refine qg (vf underlying113 rfl type3) g44 ?_
    refine qg (fun W hm => rv_load underlying3 rfl rfl ((hm.cell0 (show ((a19.add (k13 * 3)).add 1).block < w.heap.size from by rw [add_block, add_block]; exact hb20.1)).trans (hc22 1 _ rfl))) g44 ?_
    refine qg vmv g44 ?_
    refine qg vmv g44 ?_
    refine qg (vix 3 k13 underlying78 type113) g44 ?_
    refine qg (vf underlying113 rfl type3) g44 ?_
    refine qg (fun W hm => rv_load underlying3 rfl rfl ((hm.cell0 (show ((a31.add (k13 * 3)).add 1).block < w.heap.size from by rw [add_block, add_block]; exact hb32.1)).trans (hc34 1 _ rfl))) g44 ?_
    refine qg vneq g44 ?_
    refine qv (vpF g44) ?_
    refine qm ?_
    by_cases h45 : ((gt x0 k13).To) = ((gt x1 k13).To)
    ·have g46 : (((gt x0 k13).To) != ((gt x1 k13).To)) = false := by rw [h45]; exact bne_self_eq_false _
     refine qg vmv g46 ?_
     refine qg vmv g46 ?_
     refine qg (vix 3 k13 underlying78 type113) g46 ?_
     refine qg (vf underlying113 rfl type37) g46 ?_
     refine qg (fun W hm => rv_load underlying37 rfl rfl ((hm.cell0 (show ((a19.add (k13 * 3)).add 2).block < w.heap.size from by rw [add_block, add_block]; exact hb20.1)).trans (hc22 2 _ rfl))) g46 ?_
     refine qg vmv g46 ?_
     refine qg vmv g46 ?_
     refine qg (vix 3 k13 underlying78 type113) g46 ?_
     refine qg (vf underlying113 rfl type37) g46 ?_
     refine qg (fun W hm => rv_load underlying37 rfl rfl ((hm.cell0 (show ((a31.add (k13 * 3)).add 2).block < w.heap.size from by rw [add_block, add_block]; exact hb32.1)).trans (hc34 2 _ rfl))) g46 ?_
     refine QR_callV (cl_fn cb41 rfl) (fun W hm => spec_l2Ints_c W _ ((gt x0 k13).Set) _ ((gt x1 k13).Set) (hm.rdS0 r30) (hm.rdS0 r42)) (Wd_some rfl rfl rfl (bw g46 rfl)) (by decide) ?_
     refine qg vnot g46 ?_
     refine qv (vpF g46) ?_
     refine nq' ?_
     rcases Bool.eq_false_or_eq_true (spec_l2Ints_m ((gt x0 k13).Set) ((gt x1 k13).Set)) with g48 | g48
     ·
      refine CM_condF rfl (nt g48) ?_
      refine CM_skip (QM_block_normal (QM_then (CM_region (wm ?_))))
      refine wv (vadN k13 1 (by omega)) ?_
      refine wa (WM_nil ?_)
      have hn49 := rng_next (R := Bool) (body := F1) (k := k13) (s := ()) (s' := ()) (show k13 < x0.length from by omega) (show spec_EqualSpans_b1 x0 x1 k13 = Sum.inr () from by unfold spec_EqualSpans_b1; exact cond_f g44 (cond_f g46 (cond_t g48 (rfl)))) hF15
      exact QM_round (k13 + 1, (), ()) sl3 (fun W hm => hm) ⟨(by omega), hn49⟩ (rl (by omega))
     ·
      refine CM_condT rfl (nf g48) ?_
      refine sr (wa (nt' (CM_ret (QM_block_ret (QM_then_ret (QM_then_ret (QM_block_ret (QM_then_ret ?_))))))))
      exact rtb (h := by unfold spec_EqualSpans_m; exact cond_f g12 (fin_inl (rng_ret (body := F1) (k := k13) (s := ()) (show k13 < x0.length from by omega) (show spec_EqualSpans_b1 x0 x1 k13 = Sum.inl false from by unfold spec_EqualSpans_b1; exact cond_f g44 (cond_f g46 (cond_f g48 (rfl)))) hF15) rfl))
    ·have g46 : (((gt x0 k13).To) != ((gt x1 k13).To)) = true := bne_iff_ne.2 h45
     refine qs g46 ?_
     refine qs g46 ?_
     refine qs g46 ?_
     refine qs g46 ?_
     refine qs g46 ?_
     refine qs g46 ?_
     refine qs g46 ?_
     refine qs g46 ?_
     refine qs g46 ?_
     refine qs g46 ?_
     refine qs g46 ?_
     refine qs g46 ?_
     refine qv (vpT g46) ?_
     refine nq' ?_
     refine CM_condT rfl rfl ?_
     refine sr (wa (nt' (CM_ret (QM_block_ret (QM_then_ret (QM_then_ret (QM_block_ret (QM_then_ret ?_))))))))
     exact rtb (h := by unfold spec_EqualSpans_m; exact cond_f g12 (fin_inl (rng_ret (body := F1) (k := k13) (s := ()) (show k13 < x0.length from by omega) (show spec_EqualSpans_b1 x0 x1 k13 = Sum.inl false from by unfold spec_EqualSpans_b1; exact cond_f g44 (cond_t g46 (rfl))) hF15) rfl))
   ·have g44 : (((gt x0 k13).From) != ((gt x1 k13).From)) = true := bne_iff_ne.2 h43
    refine qs g44 ?_
    refine qs g44 ?_
    refine qs g44 ?_
    refine qs g44 ?_
    refine qs g44 ?_
    refine qs g44 ?_
    refine qs g44 ?_
    refine qs g44 ?_
    refine qs g44 ?_
    refine qs g44 ?_
    refine qs g44 ?_
    refine qv (vpT g44) ?_
    refine qm ?_
    refine QR_skip (Wd_some rfl rfl rfl rfl) rfl (by decide) ?_
    refine QR_skip (Wd_some rfl rfl rfl rfl) rfl (by decide) ?_
    refine QR_skip (Wd_some rfl rfl rfl rfl) rfl (by decide) ?_
    refine QR_skip (Wd_some rfl rfl rfl rfl) rfl (by decide) ?_
    refine QR_skip (Wd_some rfl rfl rfl rfl) rfl (by decide) ?_
    refine QR_skip (Wd_some rfl rfl rfl rfl) rfl (by decide) ?_
    refine QR_skip (Wd_some rfl rfl rfl rfl) rfl (by decide) ?_
    refine QR_skip (Wd_some rfl rfl rfl rfl) rfl (by decide) ?_
    refine QR_skip (Wd_some rfl rfl rfl rfl) rfl (by decide) ?_
    refine QR_skip (Wd_some rfl rfl rfl rfl) rfl (by decide) ?_
    refine QR_skip (Wd_some rfl rfl rfl rfl) rfl (by decide) ?_
    refine QR_skip (Wd_some rfl rfl rfl rfl) rfl (by decide) ?_
    refine qv (vpT rfl) ?_
    refine nq' ?_
    refine CM_condT rfl rfl ?_
    refine sr (wa (nt' (CM_ret (QM_block_ret (QM_then_ret (QM_then_ret (QM_block_ret (QM_then_ret ?_))))))))
    exact rtb (h := by unfold spec_EqualSpans_m; exact cond_f g12 (fin_inl (rng_ret (body := F1) (k := k13) (s := ()) (show k13 < x0.length from by omega) (show spec_EqualSpans_b1 x0 x1 k13 = Sum.inl false from by unfold spec_EqualSpans_b1; exact cond_t g44 (rfl)) hF15) rfl))
  ·have g18 : (decide (((k13 : Nat) : Int) < ((x0.length : Nat) : Int))) = false := decide_eq_false (by omega)
   refine CM_condF rfl g18 ?_
   refine CM_exit (QM_then_exit (QM_then_exit ?_))
   have hE50 : R2 (x0.length - 0) 0 () = Sum.inr () := rng_end hl17 hF15
   refine QM_block_hit (QM_then (sr (wa (nt' (CM_ret ?_)))))
   exact rtb (h := by unfold spec_EqualSpans_m; exact cond_f g12 (fin_inr hE50 (rfl)))
 ·have g12 : (((x0.length : Nat) : Int) != ((x1.length : Nat) : Int)) = true := bne_iff_ne.2 h11
  refine CM_condT rfl g12 ?_
  refine sr (wa (nt' (CM_ret (QM_then_ret ?_))))
  exact rtb (h := by unfold spec_EqualSpans_m; exact cond_t g12 (rfl))

def spec_IsIndex_b1 (x0 : DIndex) (k22 : Nat) : Bool ⊕ (Unit) :=
 cond (spec_EqualSpans_m (gt x0.Fields k22) (spec_StabIndex_m x0.Queries ((k22 : Nat) : Int))) (Sum.inr ()) (Sum.inl false)
def spec_IsIndex_m (x0 : DIndex) : Bool :=
 cond (spec_AreQueries_m x0.Queries) (cond (((x0.Fields.length : Nat) : Int) != 3) false (Sum.elim id (fun (s : Unit) => true) (rng (R := Bool) (fun k (_ : Unit) => spec_IsIndex_b1 x0 k) (3 - 0) 0 ()))) false
theorem cb10 : Cb Try.prog 10 := ⟨f10, _, func10, rfl, by decide⟩
theorem spec_IsIndex_c (w : World) (z0 : List Value) (x0 : DIndex) (r_0 : tyIndex.rd w w.heap.size z0 x0) (s_0 : smIndex 68719476736 x0) :
  Calls Try.prog 10 #[.agg z0.toArray] w fun e w' => e = .returned (.bool (spec_IsIndex_m x0)) ∧ Below w.heap.size w w' := by
 obtain ⟨v1, v3, rfl, r2, r4⟩ := tyIndex_rd r_0
 have r9 := r2
 obtain ⟨m5, A6, c7, rfl, q8⟩ := r2
 have r14 := r4
 obtain ⟨m10, A11, c12, rfl, q13⟩ := r4
 have l15 : x0.Queries.length ≤ 68719476736 := s_0.1.1
 have l16 : x0.Fields.length ≤ 68719476736 := s_0.2.1
 refine ce1 (L := [(0, .agg #[.slice A6 x0.Queries.length c7, .slice A11 x0.Fields.length c12])]) (N := 29) func10 ?_
 refine sr ?_
 refine WM_box rfl (Wd_none rfl) (by decide) (fun p17 => ?_)
 refine wa (nt' (CM_seq (sr ?_)))
 refine wv (vf underlying27 rfl type24) ?_
 refine wv (vl 0 0 underlying24) ?_
 refine wcv (cl_fn cb44 rfl) (fun W hm => spec_AreQueries_c W _ x0.Queries (hm.rdS0 r9)) ?_
 refine wv vnot ?_
 refine wm ?_
 rcases Bool.eq_false_or_eq_true (spec_AreQueries_m x0.Queries) with g19 | g19
 ·
  refine wg (vf underlying27 rfl type25) (nt g19) ?_
  refine wg (vl 0 1 underlying25) (nt g19) ?_
  refine wg (vlen underlying25) (nt g19) ?_
  refine wg vneq (nt g19) ?_
  refine wv (vpF (nt g19)) ?_
  refine nt' ?_
  by_cases h20 : ((x0.Fields.length : Nat) : Int) = 3
  ·have g21 : (((x0.Fields.length : Nat) : Int) != 3) = false := by rw [h20]; exact bne_self_eq_false _
   refine CM_condF rfl g21 ?_
   refine CM_skip (QM_then (CM_seq (sr (wa (nt' (CM_block ?_))))))
   let F1 := fun k (_ : Unit) => spec_IsIndex_b1 x0 k
   let R2 := rng (R := Bool) F1
   let K3 : List Value := [.slice A6 x0.Queries.length c7, .slice A11 x0.Fields.length c12]
   refine CM_loop (σ := Nat × (Unit) × (Unit)) (fun s => [(1, .pointer (some (⟨p17, 0, none⟩ : Addr))), (3, .int .i64 ((s.1 : Nat) : Int))]) (fun s => [iBox p17 27 K3]) (fun s => s.1 ≤ 3 ∧ R2 (3 - s.1) s.1 s.2.1 = R2 (3 - 0) 0 ()) (fun s => 3 - s.1) (0, (), ()) sl2 (fun W hm => hm) ⟨(by omega), rfl⟩ ?_
   rintro ⟨k22, ⟨⟩, ⟨⟩⟩ H25
   obtain ⟨hk23, hF24⟩ : k22 ≤ 3 ∧ R2 (3 - k22) k22 () = R2 (3 - 0) 0 () := H25
   show CM Try.prog 29 _ _ _ _ [(1, .pointer (some (⟨p17, 0, none⟩ : Addr))), (3, .int .i64 ((k22 : Nat) : Int))] [iBox p17 27 K3]
   refine CM_seq (sr (wm ?_))
   refine wv vlss ?_
   refine nt' ?_
   by_cases hl26 : k22 < 3
   ·have g27 : (decide (((k22 : Nat) : Int) < 3)) = true := decide_eq_true (by omega)
    refine CM_condT rfl g27 ?_
    refine CM_skip (QM_then (CM_seq (CM_block (CM_seq ?_))))
    obtain ⟨a28, rfl, hb29, he30⟩ := q13 (by omega)
    obtain ⟨_, e32, hc31⟩ := he30 k22 _ (gt_some (show k22 < x0.Fields.length from by omega))
    have l33 : (gt x0.Fields k22).length ≤ 68719476736 := (s_0.2.2 _ (gt_mem (show k22 < x0.Fields.length from by omega))).1
    obtain ⟨v34, rfl, r35⟩ := e32
    have r40 := r35
    obtain ⟨m36, A37, c38, rfl, q39⟩ := r35
    let K4 : List Value := [.slice A6 x0.Queries.length c7, .slice (some a28) x0.Fields.length c12]
    refine CM_cut (σ := Option Addr × Nat) (fun s => [(1, .pointer (some (⟨p17, 0, none⟩ : Addr))), (3, .int .i64 ((k22 : Nat) : Int)), (28, .bool (!(spec_EqualSpans_m (gt x0.Fields k22) (spec_StabIndex_m x0.Queries ((k22 : Nat) : Int)))))]) (fun s => [iOwn (tSl tySpan 113) [.slice s.1 (spec_StabIndex_m x0.Queries ((k22 : Nat) : Int)).length s.2] (spec_StabIndex_m x0.Queries ((k22 : Nat) : Int)), iBox p17 27 K4]) (fun _ => True) ?_ ?_
    ·
     refine rb 11 (s := []) (pk []) ?_
     refine qt 11 0 1 rfl (vf underlying27 rfl type25) ?_
     refine qt 11 2 5 rfl vmv ?_
     refine qt 11 5 37 rfl (vf underlying27 rfl type24) ?_
     refine qt 11 7 165 rfl vmv ?_
     refine qa [1, 6] ?_
     refine qc 11 167 rfl ?_ ?_
     ·
      refine wv (vl 0 1 underlying25) ?_
      refine qn (pk []) ?_
      refine qt 11 3 175 rfl (vix 1 k22 underlying25 type78) ?_
      refine qt 11 4 191 rfl (fun W hm => rv_load underlying78 rfl rfl ((hm.cell0 (show (a28.add (k22 * 1)).block < w.heap.size from by rw [add_block]; exact hb29.1)).trans (hc31 0 _ rfl))) ?_
      refine qo 11 6 255 rfl ?_
      refine wv (vl 0 0 underlying24) ?_
      refine qn (pk []) ?_
      refine qo 11 8 511 rfl ?_
      refine wcl (tSl tySpan 113) (spec_StabIndex_m x0.Queries ((k22 : Nat) : Int)) (cl_fn cb46 rfl) (fun W hm => spec_StabIndex_c W _ x0.Queries ((k22 : Nat) : Int) (hm.rdS0 r9) s_0.1) (fun z46 => ?_)
      refine WM_form (n := 0) rfl ?_
      rintro A47 c48 rfl m49
      refine qn (pk []) ?_
      refine qo 11 9 1023 rfl ?_
      refine wcv (cl_fn cb45 rfl) (fun W hm => spec_EqualSpans_c W _ (gt x0.Fields k22) _ (spec_StabIndex_m x0.Queries ((k22 : Nat) : Int)) (hm.rdS0 r40) (hm.rdSI (n := 0) rfl)) ?_
      refine qn (pk []) ?_
      refine qt 11 10 2047 rfl vnot ?_
      refine QB_done (by kernel_rfl) ?_
      exact QM_cut_normal (A47, c48) sl3 (fun W hm => hm) trivial
     refine qc 11 229 rfl ?_ ?_
     ·
      refine wv (vl 0 0 underlying24) ?_
      refine qn (pk []) ?_
      refine qa [1, 8] ?_
      refine qc 11 231 rfl ?_ ?_
      ·
       refine wv (vl 0 1 underlying25) ?_
       refine qn (pk []) ?_
       refine qt 11 3 239 rfl (vix 1 k22 underlying25 type78) ?_
       refine qt 11 4 255 rfl (fun W hm => rv_load underlying78 rfl rfl ((hm.cell0 (show (a28.add (k22 * 1)).block < w.heap.size from by rw [add_block]; exact hb29.1)).trans (hc31 0 _ rfl))) ?_
       refine qo 11 8 511 rfl ?_
       refine wcl (tSl tySpan 113) (spec_StabIndex_m x0.Queries ((k22 : Nat) : Int)) (cl_fn cb46 rfl) (fun W hm => spec_StabIndex_c W _ x0.Queries ((k22 : Nat) : Int) (hm.rdS0 r9) s_0.1) (fun z51 => ?_)
       refine WM_form (n := 0) rfl ?_
       rintro A52 c53 rfl m54
       refine qn (pk []) ?_
       refine qo 11 9 1023 rfl ?_
       refine wcv (cl_fn cb45 rfl) (fun W hm => spec_EqualSpans_c W _ (gt x0.Fields k22) _ (spec_StabIndex_m x0.Queries ((k22 : Nat) : Int)) (hm.rdS0 r40) (hm.rdSI (n := 0) rfl)) ?_
       refine qn (pk []) ?_
       refine qt 11 10 2047 rfl vnot ?_
       refine QB_done (by kernel_rfl) ?_
       exact QM_cut_normal (A52, c53) sl3 (fun W hm => hm) trivial
      refine qc 11 485 rfl ?_ ?_
      ·
       refine wcl (tSl tySpan 113) (spec_StabIndex_m x0.Queries ((k22 : Nat) : Int)) (cl_fn cb46 rfl) (fun W hm => spec_StabIndex_c W _ x0.Queries ((k22 : Nat) : Int) (hm.rdS0 r9) s_0.1) (fun z56 => ?_)
       refine WM_form (n := 0) rfl ?_
       rintro A57 c58 rfl m59
       refine qn (pk []) ?_
       refine qo 11 1 487 rfl ?_
       refine wv (vl 1 1 underlying25) ?_
       refine qn (pk []) ?_
       refine qt 11 3 495 rfl (vix 1 k22 underlying25 type78) ?_
       refine qt 11 4 511 rfl (fun W hm => rv_load underlying78 rfl rfl ((hm.cell0 (show (a28.add (k22 * 1)).block < w.heap.size from by rw [add_block]; exact hb29.1)).trans (hc31 0 _ rfl))) ?_
       refine qo 11 9 1023 rfl ?_
       refine wcv (cl_fn cb45 rfl) (fun W hm => spec_EqualSpans_c W _ (gt x0.Fields k22) _ (spec_StabIndex_m x0.Queries ((k22 : Nat) : Int)) (hm.rdS0 r40) (hm.rdSI (n := 0) rfl)) ?_
       refine qn (pk []) ?_
       refine qt 11 10 2047 rfl vnot ?_
       refine QB_done (by kernel_rfl) ?_
       exact QM_cut_normal (A57, c58) sl3 (fun W hm => hm) trivial
      exact QBs_nil
     exact QBs_nil
    ·
     rintro ⟨A42, c43⟩ -
     show QM 29 _ _ _ .normal [(1, .pointer (some (⟨p17, 0, none⟩ : Addr))), (3, .int .i64 ((k22 : Nat) : Int)), (28, .bool (!(spec_EqualSpans_m (gt x0.Fields k22) (spec_StabIndex_m x0.Queries ((k22 : Nat) : Int)))))] [iOwn (tSl tySpan 113) [.slice A42 (spec_StabIndex_m x0.Queries ((k22 : Nat) : Int)).length c43] (spec_StabIndex_m x0.Queries ((k22 : Nat) : Int)), iBox p17 27 K4]
     refine QM_len (n := 0) rfl ?_
     intro m61 m62
     refine QM_then ?_
     rcases Bool.eq_false_or_eq_true (spec_EqualSpans_m (gt x0.Fields k22) (spec_StabIndex_m x0.Queries ((k22 : Nat) : Int))) with g64 | g64
     ·
      refine CM_condF rfl (nt g64) ?_
      refine CM_skip (QM_block_normal (QM_then (CM_region (wm ?_))))
      refine wv (vadN k22 1 (by omega)) ?_
      refine wa (WM_nil ?_)
      have hn65 := rng_next (R := Bool) (body := F1) (k := k22) (s := ()) (s' := ()) (show k22 < 3 from by omega) (show spec_IsIndex_b1 x0 k22 = Sum.inr () from by unfold spec_IsIndex_b1; exact cond_t g64 (rfl)) hF24
      exact QM_round (k22 + 1, (), ()) sl2 (pk [1]) ⟨(by omega), hn65⟩ (rl (by omega))
     ·
      refine CM_condT rfl (nf g64) ?_
      refine sr (wa (nt' (CM_ret (QM_block_ret (QM_then_ret (QM_then_ret (QM_block_ret (QM_then_ret ?_))))))))
      exact rtb (h := by unfold spec_IsIndex_m; exact cond_t g19 (cond_f g21 (fin_inl (rng_ret (body := F1) (k := k22) (s := ()) (show k22 < 3 from by omega) (show spec_IsIndex_b1 x0 k22 = Sum.inl false from by unfold spec_IsIndex_b1; exact cond_f g64 (rfl)) hF24) rfl)))
   ·have g27 : (decide (((k22 : Nat) : Int) < 3)) = false := decide_eq_false (by omega)
    refine CM_condF rfl g27 ?_
    refine CM_exit (QM_then_exit (QM_then_exit ?_))
    have hE66 : R2 (3 - 0) 0 () = Sum.inr () := rng_end hl26 hF24
    refine QM_block_hit (QM_then (sr (wa (nt' (CM_ret ?_)))))
    exact rtb (h := by unfold spec_IsIndex_m; exact cond_t g19 (cond_f g21 (fin_inr hE66 (rfl))))
  ·have g21 : (((x0.Fields.length : Nat) : Int) != 3) = true := bne_iff_ne.2 h20
   refine CM_condT rfl g21 ?_
   refine sr (wa (nt' (CM_ret (QM_then_ret ?_))))
   exact rtb (h := by unfold spec_IsIndex_m; exact cond_t g19 (cond_t g21 (rfl)))
 ·
  refine ws (nf g19) ?_
  refine ws (nf g19) ?_
  refine ws (nf g19) ?_
  refine ws (nf g19) ?_
  refine wv (vpT (nf g19)) ?_
  refine nt' ?_
  refine CM_condT rfl rfl ?_
  refine sr (wa (nt' (CM_ret (QM_then_ret ?_))))
  exact rtb (h := by unfold spec_IsIndex_m; exact cond_f g19 (rfl))

def spec_IsRow_b1 (x0 : DRow) (k9 : Nat) : Bool ⊕ (Unit) :=
 cond (spec_l1In_m (gt x0.Values k9) 0 99) (Sum.inr ()) (Sum.inl false)
def spec_IsRow_m (x0 : DRow) : Bool :=
 Sum.elim id (fun (s : Unit) => cond (spec_l1In_m x0.Id 0 999) (((x0.Values.length : Nat) : Int) == 3) false) (rng (R := Bool) (fun k (_ : Unit) => spec_IsRow_b1 x0 k) (x0.Values.length - 0) 0 ())
theorem cb89 : Cb Try.prog 89 := ⟨f89, _, func89, rfl, by decide⟩
theorem spec_IsRow_c (w : World) (z0 : List Value) (x0 : DRow) (r_0 : tyRow.rd w w.heap.size z0 x0) :
  Calls Try.prog 89 #[.agg z0.toArray] w fun e w' => e = .returned (.bool (spec_IsRow_m x0)) ∧ Below w.heap.size w w' := by
 obtain ⟨v1, rfl, r2⟩ := tyRow_rd r_0
 have r7 := r2
 obtain ⟨m3, A4, c5, rfl, q6⟩ := r2
 refine ce1 (L := [(0, .agg #[.int .i64 x0.Id, .slice A4 x0.Values.length c5])]) (N := 27) func89 ?_
 refine sr ?_
 refine WM_box rfl (Wd_none rfl) (by decide) (fun p8 => ?_)
 refine wa (nt' (CM_seq (sr (wa (nt' (CM_block ?_))))))
 let F1 := fun k (_ : Unit) => spec_IsRow_b1 x0 k
 let R2 := rng (R := Bool) F1
 let I3 : It := iBox p8 50 [.int .i64 x0.Id, .slice A4 x0.Values.length c5]
 refine CM_loop (σ := Nat × (Unit) × (Unit)) (fun s => [(1, .pointer (some (⟨p8, 0, none⟩ : Addr))), (3, .int .i64 ((s.1 : Nat) : Int))]) (fun s => [I3]) (fun s => s.1 ≤ x0.Values.length ∧ R2 (x0.Values.length - s.1) s.1 s.2.1 = R2 (x0.Values.length - 0) 0 ()) (fun s => x0.Values.length - s.1) (0, (), ()) sl2 (fun W hm => hm) ⟨(by omega), rfl⟩ ?_
 rintro ⟨k9, ⟨⟩, ⟨⟩⟩ H12
 obtain ⟨hk10, hF11⟩ : k9 ≤ x0.Values.length ∧ R2 (x0.Values.length - k9) k9 () = R2 (x0.Values.length - 0) 0 () := H12
 show CM Try.prog 27 _ _ _ _ [(1, .pointer (some (⟨p8, 0, none⟩ : Addr))), (3, .int .i64 ((k9 : Nat) : Int))] [I3]
 refine CM_seq (sr (wm ?_))
 refine wv (vf underlying50 rfl type37) ?_
 refine wv (vl 0 1 underlying37) ?_
 refine wv (vlen underlying37) ?_
 refine wv vlss ?_
 refine nt' ?_
 by_cases hl13 : k9 < x0.Values.length
 ·have g14 : (decide (((k9 : Nat) : Int) < ((x0.Values.length : Nat) : Int))) = true := decide_eq_true (by omega)
  refine CM_condT rfl g14 ?_
  refine CM_skip (QM_then (CM_seq (CM_block (sr ?_))))
  refine wv (vf underlying50 rfl type37) ?_
  refine wv (vl 0 1 underlying37) ?_
  refine wm ?_
  obtain ⟨a15, rfl, hb16, he17⟩ := q6 (by omega)
  refine wv (vix 1 k9 underlying37 type3) ?_
  refine wv (fun W hm => rv_load underlying3 rfl rfl ((hm.cell0 (show (a15.add (k9 * 1)).block < w.heap.size from by rw [add_block]; exact hb16.1)).trans (rdS_int he17 k9 (by omega)))) ?_
  refine wcv (cl_fn cb54 rfl) (fun W hm => spec_l1In_c W (gt x0.Values k9) 0 99) ?_
  refine wv vnot ?_
  refine nt' ?_
  rcases Bool.eq_false_or_eq_true (spec_l1In_m (gt x0.Values k9) 0 99) with g19 | g19
  ·
   have hw := spec_l1In_fact g19
   refine CM_condF rfl (nt g19) ?_
   refine CM_skip (QM_block_normal (QM_then (CM_region (wm ?_))))
   refine wv (vadN k9 1 (by omega)) ?_
   refine wa (WM_nil ?_)
   have hn20 := rng_next (R := Bool) (body := F1) (k := k9) (s := ()) (s' := ()) (show k9 < x0.Values.length from by omega) (show spec_IsRow_b1 x0 k9 = Sum.inr () from by unfold spec_IsRow_b1; exact cond_t g19 (rfl)) hF11
   exact QM_round (k9 + 1, (), ()) sl2 (fun W hm => hm) ⟨(by omega), hn20⟩ (rl (by omega))
  ·
   refine CM_condT rfl (nf g19) ?_
   refine sr (wa (nt' (CM_ret (QM_block_ret (QM_then_ret (QM_then_ret (QM_block_ret (QM_then_ret ?_))))))))
   exact rtb (h := by unfold spec_IsRow_m; exact fin_inl (rng_ret (body := F1) (k := k9) (s := ()) (show k9 < x0.Values.length from by omega) (show spec_IsRow_b1 x0 k9 = Sum.inl false from by unfold spec_IsRow_b1; exact cond_f g19 (rfl)) hF11) rfl)
 ·have g14 : (decide (((k9 : Nat) : Int) < ((x0.Values.length : Nat) : Int))) = false := decide_eq_false (by omega)
  refine CM_condF rfl g14 ?_
  refine CM_exit (QM_then_exit (QM_then_exit ?_))
  have hE21 : R2 (x0.Values.length - 0) 0 () = Sum.inr () := rng_end hl13 hF11
  refine QM_block_hit (QM_then (sr ?_))
  refine wv (vf underlying50 rfl type3) ?_
  refine wv (vl 0 0 underlying3) ?_
  refine wcv (cl_fn cb54 rfl) (fun W hm => spec_l1In_c W x0.Id 0 999) ?_
  refine wm ?_
  rcases Bool.eq_false_or_eq_true (spec_l1In_m x0.Id 0 999) with g23 | g23
  ·
   have hw := spec_l1In_fact g23
   refine wg (vf underlying50 rfl type37) g23 ?_
   refine wg (vl 0 1 underlying37) g23 ?_
   refine wg (vlen underlying37) g23 ?_
   refine wg (fun W hm => rv_eql rfl rfl) g23 ?_
   refine wv (vpT g23) ?_
   refine wa (nt' (CM_ret ?_))
   exact rtb (h := by unfold spec_IsRow_m; exact fin_inr hE21 (cond_t g23 (rfl)))
  ·
   refine ws g23 ?_
   refine ws g23 ?_
   refine ws g23 ?_
   refine ws g23 ?_
   refine wv (vpF g23) ?_
   refine wa (nt' (CM_ret ?_))
   exact rtb (h := by unfold spec_IsRow_m; exact fin_inr hE21 (cond_f g23 (rfl)))

def spec_HasMember_b1 (x0 : (List Int)) (x1 : Int) (k6 : Nat) : Bool ⊕ (Unit) :=
 cond ((gt x0 k6) == x1) (Sum.inl true) (Sum.inr ())
def spec_HasMember_m (x0 : (List Int)) (x1 : Int) : Bool :=
 Sum.elim id (fun (s : Unit) => false) (rng (R := Bool) (fun k (_ : Unit) => spec_HasMember_b1 x0 x1 k) (x0.length - 0) 0 ())
theorem cb56 : Cb Try.prog 56 := ⟨f56, _, func56, rfl, by decide⟩
theorem spec_HasMember_c (w : World) (z0 : Value) (x0 : (List Int)) (x1 : Int) (r_0 : rdS tInt w w.heap.size z0 x0) :
  Calls Try.prog 56 #[z0, .int .i64 x1] w fun e w' => e = .returned (.bool (spec_HasMember_m x0 x1)) ∧ Below w.heap.size w w' := by
 have r5 := r_0
 obtain ⟨m1, A2, c3, rfl, q4⟩ := r_0
 refine ce2 (L := [(0, .slice A2 x0.length c3), (1, .int .i64 x1)]) (N := 18) func56 ?_
 refine sr (wa (nt' (CM_seq (sr (wa (nt' (CM_block ?_)))))))
 let F1 := fun k (_ : Unit) => spec_HasMember_b1 x0 x1 k
 let R2 := rng (R := Bool) F1
 refine CM_loop (σ := Nat × (Unit) × (Unit)) (fun s => [(0, .slice A2 x0.length c3), (1, .int .i64 x1), (5, .int .i64 ((s.1 : Nat) : Int))]) (fun s => []) (fun s => s.1 ≤ x0.length ∧ R2 (x0.length - s.1) s.1 s.2.1 = R2 (x0.length - 0) 0 ()) (fun s => x0.length - s.1) (0, (), ()) sl3 (fun W hm => hm) ⟨(by omega), rfl⟩ ?_
 rintro ⟨k6, ⟨⟩, ⟨⟩⟩ H9
 obtain ⟨hk7, hF8⟩ : k6 ≤ x0.length ∧ R2 (x0.length - k6) k6 () = R2 (x0.length - 0) 0 () := H9
 show CM Try.prog 18 _ _ _ _ [(0, .slice A2 x0.length c3), (1, .int .i64 x1), (5, .int .i64 ((k6 : Nat) : Int))] []
 refine CM_seq (sr (wm (wm ?_)))
 refine wv (vlen underlying37) ?_
 refine wv vlss ?_
 refine nt' ?_
 by_cases hl10 : k6 < x0.length
 ·have g11 : (decide (((k6 : Nat) : Int) < ((x0.length : Nat) : Int))) = true := decide_eq_true (by omega)
  refine CM_condT rfl g11 ?_
  refine CM_skip (QM_then (CM_seq (CM_block (sr (wm (wm ?_))))))
  obtain ⟨a12, rfl, hb13, he14⟩ := q4 (by omega)
  refine wv (vix 1 k6 underlying37 type3) ?_
  refine wv (fun W hm => rv_load underlying3 rfl rfl ((hm.cell0 (show (a12.add (k6 * 1)).block < w.heap.size from by rw [add_block]; exact hb13.1)).trans (rdS_int he14 k6 (by omega)))) ?_
  refine wm ?_
  refine wv (fun W hm => rv_eql rfl rfl) ?_
  refine nt' ?_
  by_cases h15 : (gt x0 k6) = x1
  ·have g16 : ((gt x0 k6) == x1) = true := beq_iff_eq.2 h15
   refine CM_condT rfl g16 ?_
   refine sr (wa (nt' (CM_ret (QM_block_ret (QM_then_ret (QM_then_ret (QM_block_ret (QM_then_ret ?_))))))))
   exact rtb (h := by unfold spec_HasMember_m; exact fin_inl (rng_ret (body := F1) (k := k6) (s := ()) (show k6 < x0.length from by omega) (show spec_HasMember_b1 x0 x1 k6 = Sum.inl true from by unfold spec_HasMember_b1; exact cond_t g16 (rfl)) hF8) rfl)
  ·have g16 : ((gt x0 k6) == x1) = false := beq_eq_false_iff_ne.2 h15
   refine CM_condF rfl g16 ?_
   refine CM_skip (QM_block_normal (QM_then (CM_region (wm ?_))))
   refine wv (vadN k6 1 (by omega)) ?_
   refine wa (WM_nil ?_)
   have hn17 := rng_next (R := Bool) (body := F1) (k := k6) (s := ()) (s' := ()) (show k6 < x0.length from by omega) (show spec_HasMember_b1 x0 x1 k6 = Sum.inr () from by unfold spec_HasMember_b1; exact cond_f g16 (rfl)) hF8
   exact QM_round (k6 + 1, (), ()) sl3 (fun W hm => hm) ⟨(by omega), hn17⟩ (rl (by omega))
 ·have g11 : (decide (((k6 : Nat) : Int) < ((x0.length : Nat) : Int))) = false := decide_eq_false (by omega)
  refine CM_condF rfl g11 ?_
  refine CM_exit (QM_then_exit (QM_then_exit ?_))
  have hE18 : R2 (x0.length - 0) 0 () = Sum.inr () := rng_end hl10 hF8
  refine QM_block_hit (QM_then (sr (wa (nt' (CM_ret ?_)))))
  exact rtb (h := by unfold spec_HasMember_m; exact fin_inr hE18 (rfl))

def spec_l6Order_b1 (x0 : (List Int)) (k8 : Nat) : Bool ⊕ (Unit) :=
 cond (spec_l1In_m (gt x0 k8) 0 2) (cond (spec_HasMember_m (List.take k8 x0) (gt x0 k8)) (Sum.inl false) (Sum.inr ())) (Sum.inl false)
def spec_l6Order_m (x0 : (List Int)) : Bool :=
 cond (((x0.length : Nat) : Int) != 3) false (Sum.elim id (fun (s : Unit) => true) (rng (R := Bool) (fun k (_ : Unit) => spec_l6Order_b1 x0 k) (x0.length - 0) 0 ()))
theorem cb117 : Cb Try.prog 117 := ⟨f117, _, func117, rfl, by decide⟩
theorem spec_l6Order_c (w : World) (z0 : Value) (x0 : (List Int)) (r_0 : rdS tInt w w.heap.size z0 x0) :
  Calls Try.prog 117 #[z0] w fun e w' => e = .returned (.bool (spec_l6Order_m x0)) ∧ Below w.heap.size w w' := by
 have r5 := r_0
 obtain ⟨m1, A2, c3, rfl, q4⟩ := r_0
 refine ce1 (L := [(0, .slice A2 x0.length c3)]) (N := 29) func117 ?_
 refine sr (wa (nt' (CM_seq (sr (wm ?_)))))
 refine wv (vlen underlying37) ?_
 refine wv vneq ?_
 refine nt' ?_
 by_cases h6 : ((x0.length : Nat) : Int) = 3
 ·have g7 : (((x0.length : Nat) : Int) != 3) = false := by rw [h6]; exact bne_self_eq_false _
  refine CM_condF rfl g7 ?_
  refine CM_skip (QM_then (CM_seq (sr (wa (nt' (CM_block ?_))))))
  let F1 := fun k (_ : Unit) => spec_l6Order_b1 x0 k
  let R2 := rng (R := Bool) F1
  refine CM_loop (σ := Nat × (Unit) × (Unit)) (fun s => [(0, .slice A2 x0.length c3), (3, .int .i64 ((s.1 : Nat) : Int))]) (fun s => []) (fun s => s.1 ≤ x0.length ∧ R2 (x0.length - s.1) s.1 s.2.1 = R2 (x0.length - 0) 0 ()) (fun s => x0.length - s.1) (0, (), ()) sl2 (fun W hm => hm) ⟨(by omega), rfl⟩ ?_
  rintro ⟨k8, ⟨⟩, ⟨⟩⟩ H11
  obtain ⟨hk9, hF10⟩ : k8 ≤ x0.length ∧ R2 (x0.length - k8) k8 () = R2 (x0.length - 0) 0 () := H11
  show CM Try.prog 29 _ _ _ _ [(0, .slice A2 x0.length c3), (3, .int .i64 ((k8 : Nat) : Int))] []
  refine CM_seq (sr (wm (wm ?_)))
  refine wv (vlen underlying37) ?_
  refine wv vlss ?_
  refine nt' ?_
  by_cases hl12 : k8 < x0.length
  ·have g13 : (decide (((k8 : Nat) : Int) < ((x0.length : Nat) : Int))) = true := decide_eq_true (by omega)
   refine CM_condT rfl g13 ?_
   refine CM_skip (QM_then (CM_seq (CM_block (CM_seq ?_))))
   refine CM_regionD (by kernel_rfl) (by kernel_rfl) ?_
   refine qm (qm ?_)
   obtain ⟨a14, rfl, hb15, he16⟩ := q4 (by omega)
   refine qv (vix 1 k8 underlying37 type3) ?_
   refine qv (fun W hm => rv_load underlying3 rfl rfl ((hm.cell0 (show (a14.add (k8 * 1)).block < w.heap.size from by rw [add_block]; exact hb15.1)).trans (rdS_int he16 k8 (by omega)))) ?_
   refine QR_callV (cl_fn cb54 rfl) (fun W hm => spec_l1In_c W (gt x0 k8) 0 2) (Wd_none rfl) (by decide) ?_
   refine qv vnot ?_
   refine qm ?_
   rcases Bool.eq_false_or_eq_true (spec_l1In_m (gt x0 k8) 0 2) with g18 | g18
   ·
    have hw := spec_l1In_fact g18
    refine qg vmv (nt g18) ?_
    refine qg vmv (nt g18) ?_
    have hc21 := rdS_cap r5
    have r19 := rdS_take (k := k8) (by omega) r5
    refine qg (fun W hm => rv_sliceHi (k := k8) underlying37 type3 rfl rfl (by omega)) (nt g18) ?_
    refine qg vmv (nt g18) ?_
    refine qg vmv (nt g18) ?_
    refine qg (vix 1 k8 underlying37 type3) (nt g18) ?_
    refine qg (fun W hm => rv_load underlying3 rfl rfl ((hm.cell0 (show (a14.add (k8 * 1)).block < w.heap.size from by rw [add_block]; exact hb15.1)).trans (rdS_int he16 k8 (by omega)))) (nt g18) ?_
    refine QR_callV (cl_fn cb56 rfl) (fun W hm => spec_HasMember_c W _ (List.take k8 x0) (gt x0 k8) (hm.rdS0 r19)) (Wd_some rfl rfl rfl (bw (nt g18) rfl)) (by decide) ?_
    refine qv (vpF (nt g18)) ?_
    refine nq' ?_
    rcases Bool.eq_false_or_eq_true (spec_HasMember_m (List.take k8 x0) (gt x0 k8)) with g23 | g23
    ·
     refine CM_condT rfl g23 ?_
     refine sr (wa (nt' (CM_ret (QM_block_ret (QM_then_ret (QM_then_ret (QM_block_ret (QM_then_ret ?_))))))))
     exact rtb (h := by unfold spec_l6Order_m; exact cond_f g7 (fin_inl (rng_ret (body := F1) (k := k8) (s := ()) (show k8 < x0.length from by omega) (show spec_l6Order_b1 x0 k8 = Sum.inl false from by unfold spec_l6Order_b1; exact cond_t g18 (cond_t g23 (rfl))) hF10) rfl))
    ·
     refine CM_condF rfl g23 ?_
     refine CM_skip (QM_block_normal (QM_then (CM_region (wm ?_))))
     refine wv (vadN k8 1 (by omega)) ?_
     refine wa (WM_nil ?_)
     have hn24 := rng_next (R := Bool) (body := F1) (k := k8) (s := ()) (s' := ()) (show k8 < x0.length from by omega) (show spec_l6Order_b1 x0 k8 = Sum.inr () from by unfold spec_l6Order_b1; exact cond_t g18 (cond_f g23 (rfl))) hF10
     exact QM_round (k8 + 1, (), ()) sl2 (fun W hm => hm) ⟨(by omega), hn24⟩ (rl (by omega))
   ·
    refine qs (nf g18) ?_
    refine qs (nf g18) ?_
    refine qs (nf g18) ?_
    refine qs (nf g18) ?_
    refine qs (nf g18) ?_
    refine qs (nf g18) ?_
    refine qs (nf g18) ?_
    refine qs (nf g18) ?_
    refine qv (vpT (nf g18)) ?_
    refine nq' ?_
    refine CM_condT rfl rfl ?_
    refine sr (wa (nt' (CM_ret (QM_block_ret (QM_then_ret (QM_then_ret (QM_block_ret (QM_then_ret ?_))))))))
    exact rtb (h := by unfold spec_l6Order_m; exact cond_f g7 (fin_inl (rng_ret (body := F1) (k := k8) (s := ()) (show k8 < x0.length from by omega) (show spec_l6Order_b1 x0 k8 = Sum.inl false from by unfold spec_l6Order_b1; exact cond_f g18 (rfl)) hF10) rfl))
  ·have g13 : (decide (((k8 : Nat) : Int) < ((x0.length : Nat) : Int))) = false := decide_eq_false (by omega)
   refine CM_condF rfl g13 ?_
   refine CM_exit (QM_then_exit (QM_then_exit ?_))
   have hE25 : R2 (x0.length - 0) 0 () = Sum.inr () := rng_end hl12 hF10
   refine QM_block_hit (QM_then (sr (wa (nt' (CM_ret ?_)))))
   exact rtb (h := by unfold spec_l6Order_m; exact cond_f g7 (fin_inr hE25 (rfl)))
 ·have g7 : (((x0.length : Nat) : Int) != 3) = true := bne_iff_ne.2 h6
  refine CM_condT rfl g7 ?_
  refine sr (wa (nt' (CM_ret (QM_then_ret ?_))))
  exact rtb (h := by unfold spec_l6Order_m; exact cond_t g7 (rfl))

def spec_l6All_b1 (x0 : (List DQuery)) (k9 : Nat) (d10 : (List Int)) : (List Int) ⊕ ((List Int)) :=
 Sum.inr (d10 ++ [(gt x0 k9).Id])
def spec_l6All_m (x0 : (List DQuery)) : (List Int) :=
 Sum.elim id (fun (s : (List Int)) => s) (rng (R := (List Int)) (fun k (s : (List Int)) => spec_l6All_b1 x0 k s) (x0.length - 0) 0 [])
theorem cb133 : Cb Try.prog 133 := ⟨f133, _, func133, rfl, by decide⟩
theorem spec_l6All_c (w : World) (z0 : Value) (x0 : (List DQuery)) (r_0 : rdS tyQuery w w.heap.size z0 x0) (s_0 : (x0.length ≤ 68719476736 ∧ ∀ y ∈ x0, smQuery 68719476736 y)) :
  Calls Try.prog 133 #[z0] w fun e w' => ∃ v : Value, e = .returned (v) ∧ Mem w.heap.size w [iOwn (tSl tInt 3) [v] (spec_l6All_m x0)] w' := by
 have r5 := r_0
 obtain ⟨m1, A2, c3, rfl, q4⟩ := r_0
 have l6 : x0.length ≤ 68719476736 := s_0.1
 refine ce1 (L := [(0, .slice A2 x0.length c3)]) (N := 21) func133 ?_
 refine sr (wa (nt' (sr ?_)))
 refine WM_build0 (E := tInt) underlying37 type3 (Wd_none rfl) (by decide) (fun p7 => ?_)
 refine wa (nt' (CM_seq (sr (wa (nt' (CM_block ?_))))))
 let F1 := fun k (s : (List Int)) => spec_l6All_b1 x0 k s
 let R2 := rng (R := (List Int)) F1
 refine CM_loop (σ := Nat × ((List Int)) × (Option Addr × Nat)) (fun s => [(0, .slice A2 x0.length c3), (3, .slice s.2.2.1 s.2.1.length s.2.2.2), (4, .int .i64 ((s.1 : Nat) : Int))]) (fun s => [iOwn (tSl tInt 3) [.slice s.2.2.1 s.2.1.length s.2.2.2] s.2.1]) (fun s => s.1 ≤ x0.length ∧ R2 (x0.length - s.1) s.1 s.2.1 = R2 (x0.length - 0) 0 [] ∧ s.2.1.length ≤ 0 + s.1) (fun s => x0.length - s.1) (0, [], ((some ⟨p7, 0, none⟩), 0)) sl3 (fun W hm => hm) ⟨(by omega), rfl, Nat.le_refl _⟩ ?_
 rintro ⟨k9, d10, ⟨A11, c12⟩⟩ H15
 obtain ⟨hk13, hF14, hi16⟩ : k9 ≤ x0.length ∧ R2 (x0.length - k9) k9 d10 = R2 (x0.length - 0) 0 [] ∧ d10.length ≤ 0 + k9 := H15
 show CM Try.prog 21 _ _ _ _ [(0, .slice A2 x0.length c3), (3, .slice A11 d10.length c12), (4, .int .i64 ((k9 : Nat) : Int))] [iOwn (tSl tInt 3) [.slice A11 d10.length c12] d10]
 refine CM_seq (sr (wm (wm ?_)))
 refine wv (vlen underlying24) ?_
 refine wv vlss ?_
 refine nt' ?_
 by_cases hl17 : k9 < x0.length
 ·have g18 : (decide (((k9 : Nat) : Int) < ((x0.length : Nat) : Int))) = true := decide_eq_true (by omega)
  refine CM_condT rfl g18 ?_
  refine CM_skip (QM_then (CM_seq (CM_block (CM_region (wm (wm (wm ?_)))))))
  obtain ⟨a19, rfl, hb20, he21⟩ := q4 (by omega)
  refine wv (vix 4 k9 underlying24 type39) ?_
  refine wv (vf underlying39 rfl type3) ?_
  obtain ⟨_, e27, hc22⟩ := he21 k9 _ (gt_some (show k9 < x0.length from by omega))
  obtain ⟨v23, v25, rfl, r24, r26⟩ := tyQuery_rd e27
  have l28 : ((gt x0 k9).Conds).length ≤ 68719476736 := (s_0.2 _ (gt_mem (show k9 < x0.length from by omega))).1
  have l29 : ((gt x0 k9).Out).length ≤ 68719476736 := (s_0.2 _ (gt_mem (show k9 < x0.length from by omega))).2
  have r34 := r24
  obtain ⟨m30, A31, c32, rfl, q33⟩ := r24
  have r39 := r26
  obtain ⟨m35, A36, c37, rfl, q38⟩ := r26
  refine wv (fun W hm => rv_load underlying3 rfl rfl ((hm.cell0 (show ((a19.add (k9 * 4)).add 0).block < w.heap.size from by rw [add_block, add_block]; exact hb20.1)).trans (hc22 0 _ rfl))) ?_
  refine WM_build (cs := [.int .i64 ((gt x0 k9).Id)]) underlying37 type3 rfl (by decide) (by decide) rfl (by kernel_rfl) (Wd_none rfl) (by decide) (fun p40 => ?_)
  refine ap1 tInt 3 (.slice A11 d10.length c12) d10 ((gt x0 k9).Id) [] [] [.int .i64 ((gt x0 k9).Id)] (fun W hm => hm) (fun _ _ hs => by cases (Sep.nil hs); exact (els_cons tInt_own els_nil)) underlying37 type3 (show (d10.length + 1) * 8 ≤ 140737488355328 from by omega) (fun v41 => ?_)
  refine WM_form (n := 0) rfl ?_
  rintro A42 c43 rfl m44
  refine wa (WM_nil (QM_block_normal (QM_then (CM_region (wm ?_)))))
  refine wv (vadN k9 1 (by omega)) ?_
  refine wa (WM_nil ?_)
  have hn46 := rng_next (R := (List Int)) (body := F1) (k := k9) (s := d10) (s' := (d10 ++ [(gt x0 k9).Id])) (show k9 < x0.length from by omega) (show spec_l6All_b1 x0 k9 d10 = Sum.inr (d10 ++ [(gt x0 k9).Id]) from by unfold spec_l6All_b1; exact rfl) hF14
  exact QM_round (k9 + 1, (d10 ++ [(gt x0 k9).Id]), (A42, c43)) sl3 (fun W hm => hm) ⟨(by omega), hn46, (show (d10 ++ [(gt x0 k9).Id]).length ≤ 0 + (k9 + 1) from by first | omega | (simp only [List.length_append, List.length_cons, List.length_nil] at *; omega))⟩ (rl (by omega))
 ·have g18 : (decide (((k9 : Nat) : Int) < ((x0.length : Nat) : Int))) = false := decide_eq_false (by omega)
  refine CM_condF rfl g18 ?_
  refine CM_exit (QM_then_exit (QM_then_exit ?_))
  have hE47 : R2 (x0.length - 0) 0 [] = Sum.inr d10 := rng_end hl17 hF14
  refine QM_block_hit (QM_then (sr (wm (wa (nt' (CM_ret ?_))))))
  refine QM_r1 rfl (RR_tmp rfl) (fun W hm => ⟨.slice A11 d10.length c12, ?_, ?_⟩)
  ·first | rw [(show spec_l6All_m x0 = d10 from by unfold spec_l6All_m; exact fin_inr hE47 (rfl))] | rfl
  ·rw [(show spec_l6All_m x0 = d10 from by unfold spec_l6All_m; exact fin_inr hE47 (rfl))]; exact hm

def spec_FindSpan_b1 (x0 : (List DSpan)) (x1 : Int) (k7 : Nat) : (List Int) ⊕ (Unit) :=
 cond (spec_l1In_m x1 ((gt x0 k7).From) ((gt x0 k7).To)) (Sum.inl ((gt x0 k7).Set)) (Sum.inr ())
def spec_FindSpan_m (x0 : (List DSpan)) (x1 : Int) : (List Int) :=
 Sum.elim id (fun (s : Unit) => []) (rng (R := (List Int)) (fun k (_ : Unit) => spec_FindSpan_b1 x0 x1 k) (x0.length - 0) 0 ())
theorem cb134 : Cb Try.prog 134 := ⟨f134, _, func134, rfl, by decide⟩
theorem spec_FindSpan_c (w : World) (z0 : Value) (x0 : (List DSpan)) (x1 : Int) (r_0 : rdS tySpan w w.heap.size z0 x0) (s_0 : (x0.length ≤ 68719476736 ∧ ∀ y ∈ x0, smSpan 68719476736 y)) :
  Calls Try.prog 134 #[z0, .int .i64 x1] w fun e w' => ∃ v : Value, e = .returned (v) ∧ Mem w.heap.size w [iOwn (tSl tInt 3) [v] (spec_FindSpan_m x0 x1)] w' := by
 have r5 := r_0
 obtain ⟨m1, A2, c3, rfl, q4⟩ := r_0
 have l6 : x0.length ≤ 68719476736 := s_0.1
 refine ce2 (L := [(0, .slice A2 x0.length c3), (1, .int .i64 x1)]) (N := 32) func134 ?_
 refine sr (wa (nt' (CM_seq (sr (wa (nt' (CM_block ?_)))))))
 let F1 := fun k (_ : Unit) => spec_FindSpan_b1 x0 x1 k
 let R2 := rng (R := (List Int)) F1
 refine CM_loop (σ := Nat × (Unit) × (Unit)) (fun s => [(0, .slice A2 x0.length c3), (1, .int .i64 x1), (5, .int .i64 ((s.1 : Nat) : Int))]) (fun s => []) (fun s => s.1 ≤ x0.length ∧ R2 (x0.length - s.1) s.1 s.2.1 = R2 (x0.length - 0) 0 ()) (fun s => x0.length - s.1) (0, (), ()) sl3 (fun W hm => hm) ⟨(by omega), rfl⟩ ?_
 rintro ⟨k7, ⟨⟩, ⟨⟩⟩ H10
 obtain ⟨hk8, hF9⟩ : k7 ≤ x0.length ∧ R2 (x0.length - k7) k7 () = R2 (x0.length - 0) 0 () := H10
 show CM Try.prog 32 _ _ _ _ [(0, .slice A2 x0.length c3), (1, .int .i64 x1), (5, .int .i64 ((k7 : Nat) : Int))] []
 refine CM_seq (sr (wm (wm ?_)))
 refine wv (vlen underlying78) ?_
 refine wv vlss ?_
 refine nt' ?_
 by_cases hl11 : k7 < x0.length
 ·have g12 : (decide (((k7 : Nat) : Int) < ((x0.length : Nat) : Int))) = true := decide_eq_true (by omega)
  refine CM_condT rfl g12 ?_
  refine CM_skip (QM_then (CM_seq (CM_block (CM_seq ?_))))
  refine CM_regionD (by kernel_rfl) (by kernel_rfl) ?_
  refine qm (qm (qm ?_))
  obtain ⟨a13, rfl, hb14, he15⟩ := q4 (by omega)
  refine qv (vix 3 k7 underlying78 type113) ?_
  refine qv (vf underlying113 rfl type3) ?_
  obtain ⟨_, e19, hc16⟩ := he15 k7 _ (gt_some (show k7 < x0.length from by omega))
  obtain ⟨v17, rfl, r18⟩ := tySpan_rd e19
  have l20 : ((gt x0 k7).Set).length ≤ 68719476736 := (s_0.2 _ (gt_mem (show k7 < x0.length from by omega)))
  have r25 := r18
  obtain ⟨m21, A22, c23, rfl, q24⟩ := r18
  refine qv (fun W hm => rv_load underlying3 rfl rfl ((hm.cell0 (show ((a13.add (k7 * 3)).add 0).block < w.heap.size from by rw [add_block, add_block]; exact hb14.1)).trans (hc16 0 _ rfl))) ?_
  refine qm (qm ?_)
  refine qv (vix 3 k7 underlying78 type113) ?_
  refine qv (vf underlying113 rfl type3) ?_
  refine qv (fun W hm => rv_load underlying3 rfl rfl ((hm.cell0 (show ((a13.add (k7 * 3)).add 1).block < w.heap.size from by rw [add_block, add_block]; exact hb14.1)).trans (hc16 1 _ rfl))) ?_
  refine QR_callV (cl_fn cb54 rfl) (fun W hm => spec_l1In_c W x1 ((gt x0 k7).From) ((gt x0 k7).To)) (Wd_none rfl) (by decide) ?_
  refine nq' ?_
  rcases Bool.eq_false_or_eq_true (spec_l1In_m x1 ((gt x0 k7).From) ((gt x0 k7).To)) with g27 | g27
  ·
   have hw := spec_l1In_fact g27
   refine CM_condT rfl g27 ?_
   refine sr ?_
   refine WM_build0 (E := tInt) underlying37 type3 (Wd_none rfl) (by decide) (fun p28 => ?_)
   refine wm (wm ?_)
   refine wv (vix 3 k7 underlying78 type113) ?_
   refine wv (vf underlying113 rfl type37) ?_
   refine wv (fun W hm => rv_load underlying37 rfl rfl ((hm.cell0 (show ((a13.add (k7 * 3)).add 2).block < w.heap.size from by rw [add_block, add_block]; exact hb14.1)).trans (hc16 2 _ rfl))) ?_
   refine apR tInt tInt 3 (.slice (some ⟨p28, 0, none⟩) 0 0) [] ((gt x0 k7).Set) [] (fun W hm => hm) (fun W hm => src_flat flat_int (hm.rdS0 r25)) underlying37 type3 (show (0 + ((gt x0 k7).Set).length) * 8 ≤ 140737488355328 from by omega) (fun v30 => ?_)
   refine WM_form (n := 0) rfl ?_
   rintro A31 c32 rfl m33
   refine wa (nt' (CM_ret (QM_block_ret (QM_then_ret (QM_then_ret (QM_block_ret (QM_then_ret ?_)))))))
   refine QM_r1 rfl (RR_tmp rfl) (fun W hm => ⟨.slice A31 ((gt x0 k7).Set).length c32, ?_, ?_⟩)
   ·first | rw [(show spec_FindSpan_m x0 x1 = (gt x0 k7).Set from by unfold spec_FindSpan_m; exact fin_inl (rng_ret (body := F1) (k := k7) (s := ()) (show k7 < x0.length from by omega) (show spec_FindSpan_b1 x0 x1 k7 = Sum.inl ((gt x0 k7).Set) from by unfold spec_FindSpan_b1; exact cond_t g27 (rfl)) hF9) rfl)] | rfl
   ·rw [(show spec_FindSpan_m x0 x1 = (gt x0 k7).Set from by unfold spec_FindSpan_m; exact fin_inl (rng_ret (body := F1) (k := k7) (s := ()) (show k7 < x0.length from by omega) (show spec_FindSpan_b1 x0 x1 k7 = Sum.inl ((gt x0 k7).Set) from by unfold spec_FindSpan_b1; exact cond_t g27 (rfl)) hF9) rfl)]; exact hm
  ·
   refine CM_condF rfl g27 ?_
   refine CM_skip (QM_block_normal (QM_then (CM_region (wm ?_))))
   refine wv (vadN k7 1 (by omega)) ?_
   refine wa (WM_nil ?_)
   have hn35 := rng_next (R := (List Int)) (body := F1) (k := k7) (s := ()) (s' := ()) (show k7 < x0.length from by omega) (show spec_FindSpan_b1 x0 x1 k7 = Sum.inr () from by unfold spec_FindSpan_b1; exact cond_f g27 (rfl)) hF9
   exact QM_round (k7 + 1, (), ()) sl3 (fun W hm => hm) ⟨(by omega), hn35⟩ (rl (by omega))
 ·have g12 : (decide (((k7 : Nat) : Int) < ((x0.length : Nat) : Int))) = false := decide_eq_false (by omega)
  refine CM_condF rfl g12 ?_
  refine CM_exit (QM_then_exit (QM_then_exit ?_))
  have hE36 : R2 (x0.length - 0) 0 () = Sum.inr () := rng_end hl11 hF9
  refine QM_block_hit (QM_then (sr ?_))
  refine WM_build0 (E := tInt) underlying37 type3 (Wd_none rfl) (by decide) (fun p37 => ?_)
  refine wa (nt' (CM_ret ?_))
  refine QM_r1 rfl (RR_tmp rfl) (fun W hm => ⟨.slice (some ⟨p37, 0, none⟩) 0 0, ?_, ?_⟩)
  ·first | rw [(show spec_FindSpan_m x0 x1 = [] from by unfold spec_FindSpan_m; exact fin_inr hE36 (rfl))] | rfl
  ·rw [(show spec_FindSpan_m x0 x1 = [] from by unfold spec_FindSpan_m; exact fin_inr hE36 (rfl))]; exact hm

def spec_IsSet_b1 (x0 : (List Int)) (k6 : Nat) : Bool ⊕ (Unit) :=
 cond (spec_l1In_m (gt x0 k6) 0 23) (cond (decide (0 < ((k6 : Nat) : Int))) (cond (decide ((gt x0 k6) ≤ (gt x0 (k6 - 1)))) (Sum.inl false) (Sum.inr ())) (Sum.inr ())) (Sum.inl false)
def spec_IsSet_m (x0 : (List Int)) : Bool :=
 Sum.elim id (fun (s : Unit) => true) (rng (R := Bool) (fun k (_ : Unit) => spec_IsSet_b1 x0 k) (x0.length - 0) 0 ())
theorem cb18 : Cb Try.prog 18 := ⟨f18, _, func18, rfl, by decide⟩
theorem spec_IsSet_c (w : World) (z0 : Value) (x0 : (List Int)) (r_0 : rdS tInt w w.heap.size z0 x0) :
  Calls Try.prog 18 #[z0] w fun e w' => e = .returned (.bool (spec_IsSet_m x0)) ∧ Below w.heap.size w w' := by
 have r5 := r_0
 obtain ⟨m1, A2, c3, rfl, q4⟩ := r_0
 refine ce1 (L := [(0, .slice A2 x0.length c3)]) (N := 32) func18 ?_
 refine sr (wa (nt' (CM_seq (sr (wa (nt' (CM_block ?_)))))))
 let F1 := fun k (_ : Unit) => spec_IsSet_b1 x0 k
 let R2 := rng (R := Bool) F1
 refine CM_loop (σ := Nat × (Unit) × (Unit)) (fun s => [(0, .slice A2 x0.length c3), (3, .int .i64 ((s.1 : Nat) : Int))]) (fun s => []) (fun s => s.1 ≤ x0.length ∧ R2 (x0.length - s.1) s.1 s.2.1 = R2 (x0.length - 0) 0 ()) (fun s => x0.length - s.1) (0, (), ()) sl2 (fun W hm => hm) ⟨(by omega), rfl⟩ ?_
 rintro ⟨k6, ⟨⟩, ⟨⟩⟩ H9
 obtain ⟨hk7, hF8⟩ : k6 ≤ x0.length ∧ R2 (x0.length - k6) k6 () = R2 (x0.length - 0) 0 () := H9
 show CM Try.prog 32 _ _ _ _ [(0, .slice A2 x0.length c3), (3, .int .i64 ((k6 : Nat) : Int))] []
 refine CM_seq (sr (wm (wm ?_)))
 refine wv (vlen underlying37) ?_
 refine wv vlss ?_
 refine nt' ?_
 by_cases hl10 : k6 < x0.length
 ·have g11 : (decide (((k6 : Nat) : Int) < ((x0.length : Nat) : Int))) = true := decide_eq_true (by omega)
  refine CM_condT rfl g11 ?_
  refine CM_skip (QM_then (CM_seq (CM_block (CM_seq ?_))))
  refine CM_regionD (by kernel_rfl) (by kernel_rfl) ?_
  refine qm (qm ?_)
  obtain ⟨a12, rfl, hb13, he14⟩ := q4 (by omega)
  refine qv (vix 1 k6 underlying37 type3) ?_
  refine qv (fun W hm => rv_load underlying3 rfl rfl ((hm.cell0 (show (a12.add (k6 * 1)).block < w.heap.size from by rw [add_block]; exact hb13.1)).trans (rdS_int he14 k6 (by omega)))) ?_
  refine QR_callV (cl_fn cb54 rfl) (fun W hm => spec_l1In_c W (gt x0 k6) 0 23) (Wd_none rfl) (by decide) ?_
  refine qv vnot ?_
  refine qm ?_
  rcases Bool.eq_false_or_eq_true (spec_l1In_m (gt x0 k6) 0 23) with g16 | g16
  ·
   have hw := spec_l1In_fact g16
   refine qg vmv (nt g16) ?_
   refine qg (fun W hm => rv_gtr rfl rfl) (nt g16) ?_
   refine qg vmv (nt g16) ?_
   by_cases h17 : 0 < ((k6 : Nat) : Int)
   ·have g18 : (decide (0 < ((k6 : Nat) : Int))) = true := decide_eq_true h17
    refine qg vmv g18 ?_
    refine qg vmv g18 ?_
    refine qg (vix 1 k6 underlying37 type3) g18 ?_
    refine qg (fun W hm => rv_load underlying3 rfl rfl ((hm.cell0 (show (a12.add (k6 * 1)).block < w.heap.size from by rw [add_block]; exact hb13.1)).trans (rdS_int he14 k6 (by omega)))) g18 ?_
    refine qg vmv g18 ?_
    refine qg vmv g18 ?_
    refine qg (fun W hm => rv_subN (p := k6) (q := 1) rfl rfl (by omega) (by omega)) g18 ?_
    refine qg (fun W hm => rv_index (sz := 1) (k := k6 - 1) underlying37 type3 rfl rfl rfl (by omega)) g18 ?_
    refine qg (fun W hm => rv_load underlying3 rfl rfl ((hm.cell0 (show (a12.add ((k6 - 1) * 1)).block < w.heap.size from by rw [add_block]; exact hb13.1)).trans (rdS_int he14 (k6 - 1) (by omega)))) g18 ?_
    refine qg (fun W hm => rv_leq rfl rfl) g18 ?_
    refine qg (vpT g18) (nt g16) ?_
    refine qv (vpF (nt g16)) ?_
    refine nq' ?_
    by_cases h19 : (gt x0 k6) ≤ (gt x0 (k6 - 1))
    ·have g20 : (decide ((gt x0 k6) ≤ (gt x0 (k6 - 1)))) = true := decide_eq_true h19
     refine CM_condT rfl g20 ?_
     refine sr (wa (nt' (CM_ret (QM_block_ret (QM_then_ret (QM_then_ret (QM_block_ret (QM_then_ret ?_))))))))
     exact rtb (h := by unfold spec_IsSet_m; exact fin_inl (rng_ret (body := F1) (k := k6) (s := ()) (show k6 < x0.length from by omega) (show spec_IsSet_b1 x0 k6 = Sum.inl false from by unfold spec_IsSet_b1; exact cond_t g16 (cond_t g18 (cond_t g20 (rfl)))) hF8) rfl)
    ·have g20 : (decide ((gt x0 k6) ≤ (gt x0 (k6 - 1)))) = false := decide_eq_false h19
     refine CM_condF rfl g20 ?_
     refine CM_skip (QM_block_normal (QM_then (CM_region (wm ?_))))
     refine wv (vadN k6 1 (by omega)) ?_
     refine wa (WM_nil ?_)
     have hn21 := rng_next (R := Bool) (body := F1) (k := k6) (s := ()) (s' := ()) (show k6 < x0.length from by omega) (show spec_IsSet_b1 x0 k6 = Sum.inr () from by unfold spec_IsSet_b1; exact cond_t g16 (cond_t g18 (cond_f g20 (rfl)))) hF8
     exact QM_round (k6 + 1, (), ()) sl2 (fun W hm => hm) ⟨(by omega), hn21⟩ (rl (by omega))
   ·have g18 : (decide (0 < ((k6 : Nat) : Int))) = false := decide_eq_false h17
    refine qs g18 ?_
    refine qs g18 ?_
    refine qs g18 ?_
    refine qs g18 ?_
    refine qs g18 ?_
    refine qs g18 ?_
    refine qs g18 ?_
    refine qs g18 ?_
    refine qs g18 ?_
    refine qs g18 ?_
    refine qg (vpF g18) (nt g16) ?_
    refine qv (vpF (nt g16)) ?_
    refine nq' ?_
    refine CM_condF rfl rfl ?_
    refine CM_skip (QM_block_normal (QM_then (CM_region (wm ?_))))
    refine wv (vadN k6 1 (by omega)) ?_
    refine wa (WM_nil ?_)
    have hn22 := rng_next (R := Bool) (body := F1) (k := k6) (s := ()) (s' := ()) (show k6 < x0.length from by omega) (show spec_IsSet_b1 x0 k6 = Sum.inr () from by unfold spec_IsSet_b1; exact cond_t g16 (cond_f g18 (rfl))) hF8
    exact QM_round (k6 + 1, (), ()) sl2 (fun W hm => hm) ⟨(by omega), hn22⟩ (rl (by omega))
  ·
   refine qs (nf g16) ?_
   refine qs (nf g16) ?_
   refine qs (nf g16) ?_
   refine qu ?_
   refine qu ?_
   refine qu ?_
   refine qu ?_
   refine qu ?_
   refine qu ?_
   refine qu ?_
   refine qu ?_
   refine qu ?_
   refine qu ?_
   refine qs (nf g16) ?_
   refine qv (vpT (nf g16)) ?_
   refine nq' ?_
   refine CM_condT rfl rfl ?_
   refine sr (wa (nt' (CM_ret (QM_block_ret (QM_then_ret (QM_then_ret (QM_block_ret (QM_then_ret ?_))))))))
   exact rtb (h := by unfold spec_IsSet_m; exact fin_inl (rng_ret (body := F1) (k := k6) (s := ()) (show k6 < x0.length from by omega) (show spec_IsSet_b1 x0 k6 = Sum.inl false from by unfold spec_IsSet_b1; exact cond_f g16 (rfl)) hF8) rfl)
 ·have g11 : (decide (((k6 : Nat) : Int) < ((x0.length : Nat) : Int))) = false := decide_eq_false (by omega)
  refine CM_condF rfl g11 ?_
  refine CM_exit (QM_then_exit (QM_then_exit ?_))
  have hE23 : R2 (x0.length - 0) 0 () = Sum.inr () := rng_end hl10 hF8
  refine QM_block_hit (QM_then (sr (wa (nt' (CM_ret ?_)))))
  exact rtb (h := by unfold spec_IsSet_m; exact fin_inr hE23 (rfl))

def spec_MeetSets_b1 (x0 : (List Int)) (x1 : (List Int)) (k15 : Nat) (d16 : (List Int)) : (List Int) ⊕ (((List Int)) ⊕ ((List Int))) :=
 cond (spec_IsSet_m x0) (cond (spec_IsSet_m x1) (cond (spec_HasMember_m x1 (gt x0 k15)) (Sum.inr (Sum.inr (d16 ++ [(gt x0 k15)]))) (Sum.inr (Sum.inr d16))) (Sum.inr (Sum.inl d16))) (Sum.inr (Sum.inl d16))
def spec_MeetSets_m (x0 : (List Int)) (x1 : (List Int)) : (List Int) :=
 Sum.elim id (fun (s : (List Int)) => s) (rngb (R := (List Int)) (fun k (s : (List Int)) => spec_MeetSets_b1 x0 x1 k s) (x0.length - 0) 0 [])
theorem cb55 : Cb Try.prog 55 := ⟨f55, _, func55, rfl, by decide⟩
theorem spec_MeetSets_c (w : World) (z0 : Value) (x0 : (List Int)) (z1 : Value) (x1 : (List Int)) (r_0 : rdS tInt w w.heap.size z0 x0) (r_1 : rdS tInt w w.heap.size z1 x1) (s_0 : x0.length ≤ 68719476736) (s_1 : x1.length ≤ 68719476736) :
  Calls Try.prog 55 #[z0, z1] w fun e w' => ∃ v : Value, e = .returned (v) ∧ Mem w.heap.size w [iOwn (tSl tInt 3) [v] (spec_MeetSets_m x0 x1)] w' := by
 have r5 := r_0
 obtain ⟨m1, A2, c3, rfl, q4⟩ := r_0
 have r10 := r_1
 obtain ⟨m6, A7, c8, rfl, q9⟩ := r_1
 have l11 : x0.length ≤ 68719476736 := s_0
 have l12 : x1.length ≤ 68719476736 := s_1
 refine ce2 (L := [(0, .slice A2 x0.length c3), (1, .slice A7 x1.length c8)]) (N := 36) func55 ?_
 refine sr (wa (nt' (sr ?_)))
 refine WM_build0 (E := tInt) underlying37 type3 (Wd_none rfl) (by decide) (fun p13 => ?_)
 refine wa (nt' (CM_seq (sr (wa (nt' ?_)))))
 let F1 := fun k (s : (List Int)) => spec_MeetSets_b1 x0 x1 k s
 let R2 := rngb (R := (List Int)) F1
 refine CM_cut (σ := ((List Int)) × (Option Addr × Nat)) (fun s => [(5, .slice s.2.1 s.1.length s.2.2)]) (fun s => [iOwn (tSl tInt 3) [.slice s.2.1 s.1.length s.2.2] s.1]) (fun s => R2 (x0.length - 0) 0 [] = Sum.inr s.1) ?_ ?_
 ·
  refine CM_block ?_
  refine CM_loop (σ := Nat × ((List Int)) × (Option Addr × Nat)) (fun s => [(0, .slice A2 x0.length c3), (1, .slice A7 x1.length c8), (5, .slice s.2.2.1 s.2.1.length s.2.2.2), (6, .int .i64 ((s.1 : Nat) : Int))]) (fun s => [iOwn (tSl tInt 3) [.slice s.2.2.1 s.2.1.length s.2.2.2] s.2.1]) (fun s => s.1 ≤ x0.length ∧ R2 (x0.length - s.1) s.1 s.2.1 = R2 (x0.length - 0) 0 [] ∧ s.2.1.length ≤ 0 + s.1) (fun s => x0.length - s.1) (0, [], ((some ⟨p13, 0, none⟩), 0)) sl4 (fun W hm => hm) ⟨(by omega), rfl, Nat.le_refl _⟩ ?_
  rintro ⟨k15, d16, ⟨A17, c18⟩⟩ H21
  obtain ⟨hk19, hF20, hi22⟩ : k15 ≤ x0.length ∧ R2 (x0.length - k15) k15 d16 = R2 (x0.length - 0) 0 [] ∧ d16.length ≤ 0 + k15 := H21
  show CM Try.prog 36 _ _ _ _ [(0, .slice A2 x0.length c3), (1, .slice A7 x1.length c8), (5, .slice A17 d16.length c18), (6, .int .i64 ((k15 : Nat) : Int))] [iOwn (tSl tInt 3) [.slice A17 d16.length c18] d16]
  refine CM_seq (sr (wm (wm ?_)))
  refine wv (vlen underlying37) ?_
  refine wv vlss ?_
  refine wm ?_
  by_cases hl23 : k15 < x0.length
  ·have g24 : (decide (((k15 : Nat) : Int) < ((x0.length : Nat) : Int))) = true := decide_eq_true (by omega)
   refine wg vmv g24 ?_
   refine WM_callV (cl_fn cb18 rfl) (fun W hm => spec_IsSet_c W _ x0 (hm.rdS0 r5)) (Wd_some rfl rfl rfl (bw g24 rfl)) (by decide) ?_
   refine wv (vpT g24) ?_
   refine wm ?_
   rcases Bool.eq_false_or_eq_true (spec_IsSet_m x0) with g26 | g26
   ·
    refine wg vmv g26 ?_
    refine WM_callV (cl_fn cb18 rfl) (fun W hm => spec_IsSet_c W _ x1 (hm.rdS0 r10)) (Wd_some rfl rfl rfl (bw g26 rfl)) (by decide) ?_
    refine wv (vpT g26) ?_
    refine nt' ?_
    rcases Bool.eq_false_or_eq_true (spec_IsSet_m x1) with g28 | g28
    ·
     refine CM_condT rfl g28 ?_
     refine CM_skip (QM_then (CM_seq (CM_block (sr (wm (wm (wm ?_)))))))
     obtain ⟨a29, rfl, hb30, he31⟩ := q4 (by omega)
     refine wv (vix 1 k15 underlying37 type3) ?_
     refine wv (fun W hm => rv_load underlying3 rfl rfl ((hm.cell0 (show (a29.add (k15 * 1)).block < w.heap.size from by rw [add_block]; exact hb30.1)).trans (rdS_int he31 k15 (by omega)))) ?_
     refine wcv (cl_fn cb56 rfl) (fun W hm => spec_HasMember_c W _ x1 (gt x0 k15) (hm.rdS0 r10)) ?_
     refine nt' ?_
     rcases Bool.eq_false_or_eq_true (spec_HasMember_m x1 (gt x0 k15)) with g33 | g33
     ·
      refine CM_condT rfl g33 ?_
      refine CM_region (wm (wm (wm ?_)))
      refine wv (vix 1 k15 underlying37 type3) ?_
      refine wv (fun W hm => rv_load underlying3 rfl rfl ((hm.cell0 (show (a29.add (k15 * 1)).block < w.heap.size from by rw [add_block]; exact hb30.1)).trans (rdS_int he31 k15 (by omega)))) ?_
      refine WM_build (cs := [.int .i64 (gt x0 k15)]) underlying37 type3 rfl (by decide) (by decide) rfl (by kernel_rfl) (Wd_none rfl) (by decide) (fun p34 => ?_)
      refine ap1 tInt 3 (.slice A17 d16.length c18) d16 (gt x0 k15) [] [] [.int .i64 (gt x0 k15)] (fun W hm => hm) (fun _ _ hs => by cases (Sep.nil hs); exact (els_cons tInt_own els_nil)) underlying37 type3 (show (d16.length + 1) * 8 ≤ 140737488355328 from by omega) (fun v35 => ?_)
      refine WM_form (n := 0) rfl ?_
      rintro A36 c37 rfl m38
      refine wa (WM_nil (QM_block_normal (QM_then (CM_region (wm ?_)))))
      refine wv (vadN k15 1 (by omega)) ?_
      refine wa (WM_nil ?_)
      have hn40 := rngb_next (R := (List Int)) (body := F1) (k := k15) (s := d16) (s' := (d16 ++ [(gt x0 k15)])) (show k15 < x0.length from by omega) (show spec_MeetSets_b1 x0 x1 k15 d16 = Sum.inr (Sum.inr (d16 ++ [(gt x0 k15)])) from by unfold spec_MeetSets_b1; exact cond_t g26 (cond_t g28 (cond_t g33 (rfl)))) hF20
      exact QM_round (k15 + 1, (d16 ++ [(gt x0 k15)]), (A36, c37)) sl4 (fun W hm => hm) ⟨(by omega), hn40, (show (d16 ++ [(gt x0 k15)]).length ≤ 0 + (k15 + 1) from by first | omega | (simp only [List.length_append, List.length_cons, List.length_nil] at *; omega))⟩ (rl (by omega))
     ·
      refine CM_condF rfl g33 ?_
      refine CM_skip (QM_block_normal (QM_then (CM_region (wm ?_))))
      refine wv (vadN k15 1 (by omega)) ?_
      refine wa (WM_nil ?_)
      have hn41 := rngb_next (R := (List Int)) (body := F1) (k := k15) (s := d16) (s' := d16) (show k15 < x0.length from by omega) (show spec_MeetSets_b1 x0 x1 k15 d16 = Sum.inr (Sum.inr d16) from by unfold spec_MeetSets_b1; exact cond_t g26 (cond_t g28 (cond_f g33 (rfl)))) hF20
      exact QM_round (k15 + 1, d16, (A17, c18)) sl4 (fun W hm => hm) ⟨(by omega), hn41, (show d16.length ≤ 0 + (k15 + 1) from by first | omega | (simp only [List.length_append, List.length_cons, List.length_nil] at *; omega))⟩ (rl (by omega))
    ·
     refine CM_condF rfl g28 ?_
     refine CM_exit (QM_then_exit (QM_then_exit (QM_block_hit ?_)))
     have hE42 := rngb_brk (R := (List Int)) (body := F1) (k := k15) (s := d16) (s' := d16) (show k15 < x0.length from by omega) (show spec_MeetSets_b1 x0 x1 k15 d16 = Sum.inr (Sum.inl d16) from by unfold spec_MeetSets_b1; exact cond_t g26 (cond_f g28 (rfl))) hF20
     exact QM_cut_normal (d16, (A17, c18)) (subL_cons rfl subL_nil) (fun W hm => hm) hE42
   ·
    refine ws g26 ?_
    refine ws g26 ?_
    refine wv (vpF g26) ?_
    refine nt' ?_
    refine CM_condF rfl rfl ?_
    refine CM_exit (QM_then_exit (QM_then_exit (QM_block_hit ?_)))
    have hE43 := rngb_brk (R := (List Int)) (body := F1) (k := k15) (s := d16) (s' := d16) (show k15 < x0.length from by omega) (show spec_MeetSets_b1 x0 x1 k15 d16 = Sum.inr (Sum.inl d16) from by unfold spec_MeetSets_b1; exact cond_f g26 (rfl)) hF20
    exact QM_cut_normal (d16, (A17, c18)) (subL_cons rfl subL_nil) (fun W hm => hm) hE43
  ·have g24 : (decide (((k15 : Nat) : Int) < ((x0.length : Nat) : Int))) = false := decide_eq_false (by omega)
   refine ws g24 ?_
   refine ws g24 ?_
   refine wv (vpF g24) ?_
   refine wm ?_
   refine wk ?_
   refine wk ?_
   refine wv (vpF rfl) ?_
   refine nt' ?_
   refine CM_condF rfl rfl ?_
   refine CM_exit (QM_then_exit (QM_then_exit (QM_block_hit ?_)))
   have hE44 : R2 (x0.length - 0) 0 [] = Sum.inr d16 := rngb_end hl23 hF20
   exact QM_cut_normal (d16, (A17, c18)) (subL_cons rfl subL_nil) (fun W hm => hm) hE44
 ·
  rintro ⟨d16, ⟨A17, c18⟩⟩ H46
  have hE45 : R2 (x0.length - 0) 0 [] = Sum.inr d16 := H46
  show QM 36 _ _ _ .normal [(5, .slice A17 d16.length c18)] [iOwn (tSl tInt 3) [.slice A17 d16.length c18] d16]
  refine QM_then (sr (wm (wa (nt' (CM_ret ?_)))))
  refine QM_r1 rfl (RR_tmp rfl) (fun W hm => ⟨.slice A17 d16.length c18, ?_, ?_⟩)
  ·first | rw [(show spec_MeetSets_m x0 x1 = d16 from by unfold spec_MeetSets_m; exact fin_inr hE45 (rfl))] | rfl
  ·rw [(show spec_MeetSets_m x0 x1 = d16 from by unfold spec_MeetSets_m; exact fin_inr hE45 (rfl))]; exact hm

theorem rngb_as {R S : Type} {b : Nat → S → R ⊕ S} {b' : Nat → S → R ⊕ (S ⊕ S)} (h : ∀ j s, b' j s = Sum.elim Sum.inl (fun s => Sum.inr (Sum.inr s)) (b j s)) : ∀ m k s, rngb b' m k s = rng b m k s
  | 0, _, _ => rfl
  | m + 1, k, s => by
    rw [rngb, rng, h]
    cases b k s with
    | inl r => rfl
    | inr s' => exact rngb_as h m (k + 1) s'
theorem spec_MeetSets_form (x y : List Int) : spec_MeetSets_m x y = cond (spec_IsSet_m x && spec_IsSet_m y) (x.filter fun z => spec_HasMember_m y z) [] := by
  unfold spec_MeetSets_m
  cases hx : spec_IsSet_m x with
  | false => rw [rngb_false (fun j s => by unfold spec_MeetSets_b1; rw [hx]; rfl)]; rfl
  | true =>
    cases hy : spec_IsSet_m y with
    | false => rw [rngb_false (fun j s => by unfold spec_MeetSets_b1; rw [hx, hy]; rfl)]; rfl
    | true =>
      rw [rngb_as (b := fun k d => cond (spec_HasMember_m y (gt x k)) (Sum.inr (d ++ [gt x k])) (Sum.inr d)) (fun j s => by unfold spec_MeetSets_b1; rw [hx, hy, cond_true, cond_true]; cases spec_HasMember_m y (gt x j) <;> rfl)]
      rw [rng_fold (xs := x) (f := fun d z => cond (spec_HasMember_m y z) (d ++ [z]) d) (b := fun k d => cond (spec_HasMember_m y (gt x k)) (Sum.inr (d ++ [gt x k])) (Sum.inr d)) (fun j s _ => by cases spec_HasMember_m y (gt x j) <;> rfl), foldl_filter]
      rfl
theorem foldl_ids : ∀ (l : List DQuery) (d : List Int), (l.foldl (fun d q => d ++ [q.Id]) d).length = d.length + l.length
  | [], _ => rfl
  | q :: l, d => by
    have h := foldl_ids l (d ++ [q.Id])
    simp only [List.length_append, List.length_cons, List.length_nil] at h ⊢
    rw [List.foldl_cons, h]
    omega
theorem spec_l6All_len (l : List DQuery) : (spec_l6All_m l).length ≤ l.length := by
  unfold spec_l6All_m
  rw [rng_fold (xs := l) (f := fun d q => d ++ [q.Id]) (b := fun k s => spec_l6All_b1 l k s) (fun _ _ _ => rfl)]
  have h := foldl_ids l []
  show (l.foldl (fun d q => d ++ [q.Id]) []).length ≤ _
  rw [h]
  simp
theorem spec_FindSpan_sm {B : Nat} {l : List DSpan} (h : ∀ z ∈ l, smSpan B z) (v : Int) : (spec_FindSpan_m l v).length ≤ B := by
  unfold spec_FindSpan_m
  rcases rng_find (P := fun (r : List Int) => r.length ≤ B) (n := l.length) (b := fun k (_ : Unit) => spec_FindSpan_b1 l v k) (fun j hj => by
    show (∃ r, spec_FindSpan_b1 l v j = _ ∧ _) ∨ spec_FindSpan_b1 l v j = _
    unfold spec_FindSpan_b1
    cases spec_l1In_m v (gt l j).From (gt l j).To
    · exact .inr rfl
    · exact .inl ⟨_, rfl, h _ (gt_mem hj)⟩) (l.length - 0) 0 (by omega) with ⟨r, h1, h2⟩ | h1
  · rw [h1]; exact h2
  · rw [h1]; exact Nat.zero_le _
theorem spec_MeetSets_len (x y : List Int) : (spec_MeetSets_m x y).length ≤ x.length := by
  rw [spec_MeetSets_form]
  cases (spec_IsSet_m x && spec_IsSet_m y)
  · exact Nat.zero_le _
  · exact List.length_filter_le _ _
def spec_l6Probe_b1 (x0 : DIndex) (x1 : DRow) (x2 : (List Int)) (k38 : Nat) (d39 : (List Int)) (s42 : Int) : ((List Int) × Int) ⊕ (((List Int) × Int) ⊕ ((List Int) × Int)) :=
 cond (decide (0 < ((d39.length : Nat) : Int))) (Sum.inr (Sum.inr ((spec_MeetSets_m d39 (spec_FindSpan_m (gt x0.Fields ((gt x2 k38).toNat)) (gt x1.Values ((gt x2 k38).toNat)))), (IntKind.i64.wrap ((IntKind.i64.wrap (s42 + 1)) + (if (((spec_FindSpan_m (gt x0.Fields ((gt x2 k38).toNat)) (gt x1.Values ((gt x2 k38).toNat))).length : Nat) : Int) < ((d39.length : Nat) : Int) then (((spec_FindSpan_m (gt x0.Fields ((gt x2 k38).toNat)) (gt x1.Values ((gt x2 k38).toNat))).length : Nat) : Int) else ((d39.length : Nat) : Int))))))) (Sum.inr (Sum.inl (d39, s42)))
def spec_l6Probe_m (x0 : DIndex) (x1 : DRow) (x2 : (List Int)) : ((List Int) × Int) :=
 Sum.elim id (fun (s : (List Int) × Int) => (s.1, s.2)) (rngb (R := ((List Int) × Int)) (fun k (s : (List Int) × Int) => spec_l6Probe_b1 x0 x1 x2 k s.1 s.2) (x2.length - 0) 0 ((spec_l6All_m x0.Queries), 0))
theorem cb118 : Cb Try.prog 118 := ⟨f118, _, func118, rfl, by decide⟩
theorem spec_l6Probe_c (w : World) (z0 : List Value) (x0 : DIndex) (z1 : List Value) (x1 : DRow) (z2 : Value) (x2 : (List Int)) (r_0 : tyIndex.rd w w.heap.size z0 x0) (r_1 : tyRow.rd w w.heap.size z1 x1) (r_2 : rdS tInt w w.heap.size z2 x2) (s_0 : smIndex 68719476736 x0) (s_1 : smRow 68719476736 x1) (s_2 : x2.length ≤ 68719476736) (hf : x0.Fields.length = 3) (hv : x1.Values.length = 3) (ho : ∀ y ∈ x2, 0 ≤ y ∧ y ≤ 2) :
  Calls Try.prog 118 #[.agg z0.toArray, .agg z1.toArray, z2] w fun e w' => ∃ v : Value, e = .returned (.tuple #[v, .int .i64 ((spec_l6Probe_m x0 x1 x2).2)]) ∧ Mem w.heap.size w [iOwn (tSl tInt 3) [v] (spec_l6Probe_m x0 x1 x2).1] w' := by
 obtain ⟨v1, v3, rfl, r2, r4⟩ := tyIndex_rd r_0
 have r9 := r2
 obtain ⟨m5, A6, c7, rfl, q8⟩ := r2
 have r14 := r4
 obtain ⟨m10, A11, c12, rfl, q13⟩ := r4
 obtain ⟨v15, rfl, r16⟩ := tyRow_rd r_1
 have r21 := r16
 obtain ⟨m17, A18, c19, rfl, q20⟩ := r16
 have r26 := r_2
 obtain ⟨m22, A23, c24, rfl, q25⟩ := r_2
 have l27 : x0.Queries.length ≤ 68719476736 := s_0.1.1
 have l28 : x0.Fields.length ≤ 68719476736 := s_0.2.1
 have l29 : x1.Values.length ≤ 68719476736 := s_1
 have l30 : x2.length ≤ 68719476736 := s_2
 refine ce3 (L := [(0, .agg #[.slice A6 x0.Queries.length c7, .slice A11 x0.Fields.length c12]), (1, .agg #[.int .i64 x1.Id, .slice A18 x1.Values.length c19]), (2, .slice A23 x2.length c24)]) (N := 56) func118 ?_
 refine sr ?_
 refine WM_box rfl (Wd_none rfl) (by decide) (fun p31 => ?_)
 refine WM_box rfl (Wd_none rfl) (by decide) (fun p32 => ?_)
 refine wa (wa (nt' (sr ?_)))
 refine wv (vf underlying27 rfl type24) ?_
 refine wv (vl 1 0 underlying24) ?_
 refine wcl (tSl tInt 3) (spec_l6All_m x0.Queries) (cl_fn cb133 rfl) (fun W hm => spec_l6All_c W _ x0.Queries (hm.rdS0 r9) s_0.1) (fun z33 => ?_)
 refine WM_form (n := 0) rfl ?_
 rintro A34 c35 rfl m36
 have ha := spec_l6All_len x0.Queries
 refine wa (nt' (sr (wa (nt' (CM_seq (sr (wa (nt' ?_))))))))
 let F1 := fun k (s : (List Int) × Int) => spec_l6Probe_b1 x0 x1 x2 k s.1 s.2
 let R2 := rngb (R := ((List Int) × Int)) F1
 let K3 : List Value := [.slice A6 x0.Queries.length c7, .slice A11 x0.Fields.length c12]
 let I5 : It := iBox p32 50 [.int .i64 x1.Id, .slice A18 x1.Values.length c19]
 refine CM_cut (σ := ((List Int) × Int) × (Option Addr × Nat)) (fun s => [(8, .slice s.2.1 s.1.1.length s.2.2), (9, .int .i64 s.1.2)]) (fun s => [iOwn (tSl tInt 3) [.slice s.2.1 s.1.1.length s.2.2] s.1.1, I5, iBox p31 27 K3]) (fun s => R2 (x2.length - 0) 0 ((spec_l6All_m x0.Queries), 0) = Sum.inr s.1) ?_ ?_
 ·
  refine CM_block ?_
  refine CM_loop (σ := Nat × ((List Int) × Int) × (Option Addr × Nat)) (fun s => [(2, .slice A23 x2.length c24), (3, .pointer (some (⟨p31, 0, none⟩ : Addr))), (4, .pointer (some (⟨p32, 0, none⟩ : Addr))), (8, .slice s.2.2.1 s.2.1.1.length s.2.2.2), (9, .int .i64 s.2.1.2), (10, .int .i64 ((s.1 : Nat) : Int))]) (fun s => [iOwn (tSl tInt 3) [.slice s.2.2.1 s.2.1.1.length s.2.2.2] s.2.1.1, I5, iBox p31 27 K3]) (fun s => s.1 ≤ x2.length ∧ R2 (x2.length - s.1) s.1 s.2.1 = R2 (x2.length - 0) 0 ((spec_l6All_m x0.Queries), 0) ∧ s.2.1.1.length ≤ 68719476736) (fun s => x2.length - s.1) (0, ((spec_l6All_m x0.Queries), 0), (A34, c35)) sl6 (fun W hm => hm) ⟨(by omega), rfl, (by have := s_0.1.1; dsimp only; omega)⟩ ?_
  rintro ⟨k38, ⟨d39, s42⟩, ⟨A40, c41⟩⟩ H45
  obtain ⟨hk43, hF44, hi46⟩ : k38 ≤ x2.length ∧ R2 (x2.length - k38) k38 (d39, s42) = R2 (x2.length - 0) 0 ((spec_l6All_m x0.Queries), 0) ∧ d39.length ≤ 68719476736 := H45
  let I6 : It := iOwn (tSl tInt 3) [.slice A40 d39.length c41] d39
  show CM Try.prog 56 _ _ _ _ [(2, .slice A23 x2.length c24), (3, .pointer (some (⟨p31, 0, none⟩ : Addr))), (4, .pointer (some (⟨p32, 0, none⟩ : Addr))), (8, .slice A40 d39.length c41), (9, .int .i64 s42), (10, .int .i64 ((k38 : Nat) : Int))] [I6, I5, iBox p31 27 K3]
  refine CM_seq (sr (wm (wm ?_)))
  refine wv (vlen underlying37) ?_
  refine wv vlss ?_
  refine wm ?_
  by_cases hl47 : k38 < x2.length
  ·have g48 : (decide (((k38 : Nat) : Int) < ((x2.length : Nat) : Int))) = true := decide_eq_true (by omega)
   have hq := ho _ (gt_mem (show k38 < x2.length from by omega))
   refine wg vmv g48 ?_
   refine wg (vlen underlying37) g48 ?_
   refine wg (fun W hm => rv_gtr rfl rfl) g48 ?_
   refine wv (vpT g48) ?_
   refine nt' ?_
   by_cases h49 : 0 < ((d39.length : Nat) : Int)
   ·have g50 : (decide (0 < ((d39.length : Nat) : Int))) = true := decide_eq_true h49
    refine CM_condT rfl g50 ?_
    refine CM_skip (QM_then (CM_seq (CM_block (CM_seq ?_))))
    obtain ⟨a51, rfl, hb52, he53⟩ := q25 (by omega)
    obtain ⟨a54, rfl, hb55, he56⟩ := q13 (by omega)
    obtain ⟨_, e58, hc57⟩ := he56 ((gt x2 k38).toNat) _ (gt_some (show ((gt x2 k38).toNat) < x0.Fields.length from by omega))
    have l59 : (gt x0.Fields ((gt x2 k38).toNat)).length ≤ 68719476736 := (s_0.2.2 _ (gt_mem (show ((gt x2 k38).toNat) < x0.Fields.length from by omega))).1
    obtain ⟨v60, rfl, r61⟩ := e58
    have r66 := r61
    obtain ⟨m62, A63, c64, rfl, q65⟩ := r61
    obtain ⟨a67, rfl, hb68, he69⟩ := q20 (by omega)
    let K4 : List Value := [.slice A6 x0.Queries.length c7, .slice (some a54) x0.Fields.length c12]
    let I7 : It := iBox p32 50 [.int .i64 x1.Id, .slice (some a67) x1.Values.length c19]
    refine CM_cut (σ := Option Addr × Nat) (fun s => [(2, .slice (some a51) x2.length c24), (3, .pointer (some (⟨p31, 0, none⟩ : Addr))), (4, .pointer (some (⟨p32, 0, none⟩ : Addr))), (8, .slice A40 d39.length c41), (9, .int .i64 s42), (10, .int .i64 ((k38 : Nat) : Int)), (11, .slice s.1 (spec_FindSpan_m (gt x0.Fields ((gt x2 k38).toNat)) (gt x1.Values ((gt x2 k38).toNat))).length s.2)]) (fun s => [iOwn (tSl tInt 3) [.slice s.1 (spec_FindSpan_m (gt x0.Fields ((gt x2 k38).toNat)) (gt x1.Values ((gt x2 k38).toNat))).length s.2] (spec_FindSpan_m (gt x0.Fields ((gt x2 k38).toNat)) (gt x1.Values ((gt x2 k38).toNat))), I6, I7, iBox p31 27 K4]) (fun _ => True) ?_ ?_
    ·
     refine rb 18 (s := [I6]) (pk [0]) ?_
     refine qt 18 0 1 rfl (vf underlying27 rfl type25) ?_
     refine qt 18 2 5 rfl vmv ?_
     refine qt 18 3 13 rfl vmv ?_
     refine qt 18 4 29 rfl (vix 1 k38 underlying37 type3) ?_
     refine qt 18 5 61 rfl (fun W hm => rv_load underlying3 rfl rfl ((hm.cell0 (show (a51.add (k38 * 1)).block < w.heap.size from by rw [add_block]; exact hb52.1)).trans (rdS_int he53 k38 (by omega)))) ?_
     refine qt 18 8 317 rfl (vf underlying50 rfl type37) ?_
     refine qt 18 10 1341 rfl vmv ?_
     refine qt 18 11 3389 rfl vmv ?_
     refine qt 18 12 7485 rfl (vix 1 k38 underlying37 type3) ?_
     refine qt 18 13 15677 rfl (fun W hm => rv_load underlying3 rfl rfl ((hm.cell0 (show (a51.add (k38 * 1)).block < w.heap.size from by rw [add_block]; exact hb52.1)).trans (rdS_int he53 k38 (by omega)))) ?_
     refine qa [1, 9] ?_
     refine qc 18 15679 rfl ?_ ?_
     ·
      refine wv (vl 2 1 underlying25) ?_
      refine qn (pk [0]) ?_
      refine qt 18 6 15743 rfl (fun W hm => rv_indexI (sz := 1) (k := (gt x2 k38)) underlying25 type78 rfl rfl rfl (by omega) (by omega)) ?_
      refine qt 18 7 15871 rfl (fun W hm => rv_load underlying78 rfl rfl ((hm.cell0 (show (a54.add (((gt x2 k38).toNat) * 1)).block < w.heap.size from by rw [add_block]; exact hb55.1)).trans (hc57 0 _ rfl))) ?_
      refine qo 18 9 16383 rfl ?_
      refine wv (vl 1 1 underlying37) ?_
      refine qn (pk [0]) ?_
      refine qt 18 14 32767 rfl (fun W hm => rv_indexI (sz := 1) (k := (gt x2 k38)) underlying37 type3 rfl rfl rfl (by omega) (by omega)) ?_
      refine qt 18 15 65535 rfl (fun W hm => rv_load underlying3 rfl rfl ((hm.cell0 (show (a67.add (((gt x2 k38).toNat) * 1)).block < w.heap.size from by rw [add_block]; exact hb68.1)).trans (rdS_int he69 ((gt x2 k38).toNat) (by omega)))) ?_
      refine qo 18 16 131071 rfl ?_
      refine wcl (tSl tInt 3) (spec_FindSpan_m (gt x0.Fields ((gt x2 k38).toNat)) (gt x1.Values ((gt x2 k38).toNat))) (cl_fn cb134 rfl) (fun W hm => spec_FindSpan_c W _ (gt x0.Fields ((gt x2 k38).toNat)) (gt x1.Values ((gt x2 k38).toNat)) (hm.rdS0 r66) (s_0.2.2 _ (gt_mem (show ((gt x2 k38).toNat) < x0.Fields.length from by omega)))) (fun z75 => ?_)
      refine WM_form (n := 0) rfl ?_
      rintro A76 c77 rfl m78
      refine qn (pk [1]) ?_
      refine qt 18 17 262143 rfl (fun W hm => rv_assign rfl) ?_
      refine QB_done (by kernel_rfl) ?_
      exact QM_cut_normal (A76, c77) sl7 (fun W hm => hm) trivial
     refine qc 18 16189 rfl ?_ ?_
     ·
      refine wv (vl 1 1 underlying37) ?_
      refine qn (pk [0]) ?_
      refine qt 18 14 32573 rfl (fun W hm => rv_indexI (sz := 1) (k := (gt x2 k38)) underlying37 type3 rfl rfl rfl (by omega) (by omega)) ?_
      refine qt 18 15 65341 rfl (fun W hm => rv_load underlying3 rfl rfl ((hm.cell0 (show (a67.add (((gt x2 k38).toNat) * 1)).block < w.heap.size from by rw [add_block]; exact hb68.1)).trans (rdS_int he69 ((gt x2 k38).toNat) (by omega)))) ?_
      refine qo 18 1 65343 rfl ?_
      refine wv (vl 2 1 underlying25) ?_
      refine qn (pk [0]) ?_
      refine qt 18 6 65407 rfl (fun W hm => rv_indexI (sz := 1) (k := (gt x2 k38)) underlying25 type78 rfl rfl rfl (by omega) (by omega)) ?_
      refine qt 18 7 65535 rfl (fun W hm => rv_load underlying78 rfl rfl ((hm.cell0 (show (a54.add (((gt x2 k38).toNat) * 1)).block < w.heap.size from by rw [add_block]; exact hb55.1)).trans (hc57 0 _ rfl))) ?_
      refine qo 18 16 131071 rfl ?_
      refine wcl (tSl tInt 3) (spec_FindSpan_m (gt x0.Fields ((gt x2 k38).toNat)) (gt x1.Values ((gt x2 k38).toNat))) (cl_fn cb134 rfl) (fun W hm => spec_FindSpan_c W _ (gt x0.Fields ((gt x2 k38).toNat)) (gt x1.Values ((gt x2 k38).toNat)) (hm.rdS0 r66) (s_0.2.2 _ (gt_mem (show ((gt x2 k38).toNat) < x0.Fields.length from by omega)))) (fun z80 => ?_)
      refine WM_form (n := 0) rfl ?_
      rintro A81 c82 rfl m83
      refine qn (pk [1]) ?_
      refine qt 18 17 262143 rfl (fun W hm => rv_assign rfl) ?_
      refine QB_done (by kernel_rfl) ?_
      exact QM_cut_normal (A81, c82) sl7 (fun W hm => hm) trivial
     exact QBs_nil
    ·
     rintro ⟨A71, c72⟩ -
     show QM 56 _ _ _ .normal [(2, .slice (some a51) x2.length c24), (3, .pointer (some (⟨p31, 0, none⟩ : Addr))), (4, .pointer (some (⟨p32, 0, none⟩ : Addr))), (8, .slice A40 d39.length c41), (9, .int .i64 s42), (10, .int .i64 ((k38 : Nat) : Int)), (11, .slice A71 (spec_FindSpan_m (gt x0.Fields ((gt x2 k38).toNat)) (gt x1.Values ((gt x2 k38).toNat))).length c72)] [iOwn (tSl tInt 3) [.slice A71 (spec_FindSpan_m (gt x0.Fields ((gt x2 k38).toNat)) (gt x1.Values ((gt x2 k38).toNat))).length c72] (spec_FindSpan_m (gt x0.Fields ((gt x2 k38).toNat)) (gt x1.Values ((gt x2 k38).toNat))), I6, I7, iBox p31 27 K4]
     refine QM_len (n := 0) rfl ?_
     intro m85 m86
     refine QM_then (sr (wm ?_))
     refine wv vadd ?_
     refine wm ?_
     refine wv (vlen underlying37) ?_
     refine wm ?_
     refine wv (vlen underlying37) ?_
     refine wv (fun W hm => rv_min rfl rfl) ?_
     refine wv vadd ?_
     refine wa (nt' (CM_region (wm (wm ?_))))
     refine wcl (tSl tInt 3) (spec_MeetSets_m d39 (spec_FindSpan_m (gt x0.Fields ((gt x2 k38).toNat)) (gt x1.Values ((gt x2 k38).toNat)))) (cl_fn cb55 rfl) (fun W hm => spec_MeetSets_c W _ d39 _ (spec_FindSpan_m (gt x0.Fields ((gt x2 k38).toNat)) (gt x1.Values ((gt x2 k38).toNat))) (hm.rdSI (n := 1) rfl) (hm.rdSI (n := 0) rfl) (show _ ≤ 68719476736 from by omega) (spec_FindSpan_sm (s_0.2.2 _ (gt_mem (by omega))).2 _)) (fun z87 => ?_)
     refine WM_form (n := 0) rfl ?_
     rintro A88 c89 rfl m90
     refine wa (WM_nil (QM_block_normal (QM_then (CM_region (wm ?_)))))
     refine wv (vadN k38 1 (by omega)) ?_
     refine wa (WM_nil ?_)
     have hn92 := rngb_next (R := ((List Int) × Int)) (body := F1) (k := k38) (s := (d39, s42)) (s' := ((spec_MeetSets_m d39 (spec_FindSpan_m (gt x0.Fields ((gt x2 k38).toNat)) (gt x1.Values ((gt x2 k38).toNat)))), (IntKind.i64.wrap ((IntKind.i64.wrap (s42 + 1)) + (if (((spec_FindSpan_m (gt x0.Fields ((gt x2 k38).toNat)) (gt x1.Values ((gt x2 k38).toNat))).length : Nat) : Int) < ((d39.length : Nat) : Int) then (((spec_FindSpan_m (gt x0.Fields ((gt x2 k38).toNat)) (gt x1.Values ((gt x2 k38).toNat))).length : Nat) : Int) else ((d39.length : Nat) : Int)))))) (show k38 < x2.length from by omega) (show spec_l6Probe_b1 x0 x1 x2 k38 d39 s42 = Sum.inr (Sum.inr ((spec_MeetSets_m d39 (spec_FindSpan_m (gt x0.Fields ((gt x2 k38).toNat)) (gt x1.Values ((gt x2 k38).toNat)))), (IntKind.i64.wrap ((IntKind.i64.wrap (s42 + 1)) + (if (((spec_FindSpan_m (gt x0.Fields ((gt x2 k38).toNat)) (gt x1.Values ((gt x2 k38).toNat))).length : Nat) : Int) < ((d39.length : Nat) : Int) then (((spec_FindSpan_m (gt x0.Fields ((gt x2 k38).toNat)) (gt x1.Values ((gt x2 k38).toNat))).length : Nat) : Int) else ((d39.length : Nat) : Int)))))) from by unfold spec_l6Probe_b1; exact cond_t g50 (rfl)) hF44
     exact QM_round (k38 + 1, ((spec_MeetSets_m d39 (spec_FindSpan_m (gt x0.Fields ((gt x2 k38).toNat)) (gt x1.Values ((gt x2 k38).toNat)))), (IntKind.i64.wrap ((IntKind.i64.wrap (s42 + 1)) + (if (((spec_FindSpan_m (gt x0.Fields ((gt x2 k38).toNat)) (gt x1.Values ((gt x2 k38).toNat))).length : Nat) : Int) < ((d39.length : Nat) : Int) then (((spec_FindSpan_m (gt x0.Fields ((gt x2 k38).toNat)) (gt x1.Values ((gt x2 k38).toNat))).length : Nat) : Int) else ((d39.length : Nat) : Int))))), (A88, c89)) sl6 (pk [0, 3, 4]) ⟨(by omega), hn92, (show (spec_MeetSets_m d39 (spec_FindSpan_m (gt x0.Fields ((gt x2 k38).toNat)) (gt x1.Values ((gt x2 k38).toNat)))).length ≤ 68719476736 from by exact Nat.le_trans (spec_MeetSets_len _ _) hi46)⟩ (rl (by omega))
   ·have g50 : (decide (0 < ((d39.length : Nat) : Int))) = false := decide_eq_false h49
    refine CM_condF rfl g50 ?_
    refine CM_exit (QM_then_exit (QM_then_exit (QM_block_hit ?_)))
    have hE93 := rngb_brk (R := ((List Int) × Int)) (body := F1) (k := k38) (s := (d39, s42)) (s' := (d39, s42)) (show k38 < x2.length from by omega) (show spec_l6Probe_b1 x0 x1 x2 k38 d39 s42 = Sum.inr (Sum.inl (d39, s42)) from by unfold spec_l6Probe_b1; exact cond_f g50 (rfl)) hF44
    exact QM_cut_normal ((d39, s42), (A40, c41)) sl2 (fun W hm => hm) hE93
  ·have g48 : (decide (((k38 : Nat) : Int) < ((x2.length : Nat) : Int))) = false := decide_eq_false (by omega)
   refine ws g48 ?_
   refine ws g48 ?_
   refine ws g48 ?_
   refine wv (vpF g48) ?_
   refine nt' ?_
   refine CM_condF rfl rfl ?_
   refine CM_exit (QM_then_exit (QM_then_exit (QM_block_hit ?_)))
   have hE94 : R2 (x2.length - 0) 0 ((spec_l6All_m x0.Queries), 0) = Sum.inr (d39, s42) := rngb_end hl47 hF44
   exact QM_cut_normal ((d39, s42), (A40, c41)) sl2 (fun W hm => hm) hE94
 ·
  rintro ⟨⟨d39, s42⟩, ⟨A40, c41⟩⟩ H96
  have hE95 : R2 (x2.length - 0) 0 ((spec_l6All_m x0.Queries), 0) = Sum.inr (d39, s42) := H96
  show QM 56 _ _ _ .normal [(8, .slice A40 d39.length c41), (9, .int .i64 s42)] [iOwn (tSl tInt 3) [.slice A40 d39.length c41] d39, I5, iBox p31 27 K3]
  refine QM_then (sr (wm (wm (wa (wa (nt' (CM_ret ?_)))))))
  refine QM_r2 rfl (RR_tmp rfl) (RR_tmp rfl) (fun W hm => ⟨.slice A40 d39.length c41, ?_, ?_⟩)
  ·first | rw [(show spec_l6Probe_m x0 x1 x2 = (d39, s42) from by unfold spec_l6Probe_m; exact fin_inr hE95 (rfl))] | rfl
   try rfl
  ·rw [(show spec_l6Probe_m x0 x1 x2 = (d39, s42) from by unfold spec_l6Probe_m; exact fin_inr hE95 (rfl))]; exact (hm.pick [0] (by decide))

theorem spec_IsRow_len {r : DRow} (h : spec_IsRow_m r = true) : r.Values.length = 3 := by
  unfold spec_IsRow_m at h
  rw [rng_allN (p := fun k => spec_l1In_m (gt r.Values k) 0 99) (r := false) (fun k _ => by
    unfold spec_IsRow_b1
    cases spec_l1In_m (gt r.Values k) 0 99 <;> rfl)] at h
  by_cases h1 : r.Values.length = 3
  · exact h1
  · rw [beq_eq_false_iff_ne.2 (show ¬ ((r.Values.length : Nat) : Int) = 3 by omega)] at h
    revert h
    cases (List.range r.Values.length).all (fun k => spec_l1In_m (gt r.Values k) 0 99) <;> cases spec_l1In_m r.Id 0 999 <;> intro h <;> cases h
theorem spec_IsIndex_fact {x : DIndex} (h : spec_IsIndex_m x = true) : x.Fields.length = 3 := by
  unfold spec_IsIndex_m at h
  cases h1 : spec_AreQueries_m x.Queries <;> rw [h1] at h
  · cases h
  · by_cases h2 : ((x.Fields.length : Nat) : Int) = 3
    · omega
    · rw [bne_iff_ne.2 h2] at h
      cases h
theorem spec_Order_fact {x : List Int} (h : spec_l6Order_m x = true) : ∀ y ∈ x, 0 ≤ y ∧ y ≤ 2 := by
  unfold spec_l6Order_m at h
  rw [rng_allN (p := fun k => spec_l1In_m (gt x k) 0 2 && !spec_HasMember_m (List.take k x) (gt x k)) (r := false) (fun k _ => by
    unfold spec_l6Order_b1
    cases spec_l1In_m (gt x k) 0 2 <;> cases spec_HasMember_m (List.take k x) (gt x k) <;> rfl)] at h
  intro y hy
  obtain ⟨k, hk, rfl⟩ := List.getElem_of_mem hy
  rw [← gt_at hk]
  cases ha : (List.range x.length).all (fun k => spec_l1In_m (gt x k) 0 2 && !spec_HasMember_m (List.take k x) (gt x k)) with
  | false =>
    rw [ha] at h
    cases hl : (((x.length : Nat) : Int) != 3) <;> rw [hl] at h <;> cases h
  | true =>
    have h2 := List.all_eq_true.1 ha k (List.mem_range.2 hk)
    cases h3 : spec_l1In_m (gt x k) 0 2 with
    | false => rw [h3] at h2; cases h2
    | true => exact spec_l1In_fact h3
def spec_ProbeSet_m (x0 : DIndex) (x1 : DRow) (x2 : (List Int)) : ((List Int) × Int) :=
 cond (spec_IsIndex_m x0) (cond (spec_IsRow_m x1) (cond (spec_l6Order_m x2) ((spec_l6Probe_m x0 x1 x2).1, (spec_l6Probe_m x0 x1 x2).2) ([], 0)) ([], 0)) ([], 0)
theorem cb84 : Cb Try.prog 84 := ⟨f84, _, func84, rfl, by decide⟩
theorem spec_ProbeSet_c (w : World) (z0 : List Value) (x0 : DIndex) (z1 : List Value) (x1 : DRow) (z2 : Value) (x2 : (List Int)) (r_0 : tyIndex.rd w w.heap.size z0 x0) (r_1 : tyRow.rd w w.heap.size z1 x1) (r_2 : rdS tInt w w.heap.size z2 x2) (s_0 : smIndex 68719476736 x0) (s_1 : smRow 68719476736 x1) (s_2 : x2.length ≤ 68719476736) :
  Calls Try.prog 84 #[.agg z0.toArray, .agg z1.toArray, z2] w fun e w' => ∃ v : Value, e = .returned (.tuple #[v, .int .i64 ((spec_ProbeSet_m x0 x1 x2).2)]) ∧ Mem w.heap.size w [iOwn (tSl tInt 3) [v] (spec_ProbeSet_m x0 x1 x2).1] w' := by
 obtain ⟨v1, v3, rfl, r2, r4⟩ := tyIndex_rd r_0
 have r9 := r2
 obtain ⟨m5, A6, c7, rfl, q8⟩ := r2
 have r14 := r4
 obtain ⟨m10, A11, c12, rfl, q13⟩ := r4
 obtain ⟨v15, rfl, r16⟩ := tyRow_rd r_1
 have r21 := r16
 obtain ⟨m17, A18, c19, rfl, q20⟩ := r16
 have r26 := r_2
 obtain ⟨m22, A23, c24, rfl, q25⟩ := r_2
 have l27 : x0.Queries.length ≤ 68719476736 := s_0.1.1
 have l28 : x0.Fields.length ≤ 68719476736 := s_0.2.1
 have l29 : x1.Values.length ≤ 68719476736 := s_1
 have l30 : x2.length ≤ 68719476736 := s_2
 refine ce3 (L := [(0, .agg #[.slice A6 x0.Queries.length c7, .slice A11 x0.Fields.length c12]), (1, .agg #[.int .i64 x1.Id, .slice A18 x1.Values.length c19]), (2, .slice A23 x2.length c24)]) (N := 33) func84 ?_
 refine sr ?_
 refine WM_box rfl (Wd_none rfl) (by decide) (fun p31 => ?_)
 refine WM_box rfl (Wd_none rfl) (by decide) (fun p32 => ?_)
 refine wa (wa (nt' (CM_seq (sr ?_))))
 let K1 : List Value := [.slice A6 x0.Queries.length c7, .slice A11 x0.Fields.length c12]
 refine wv (fun W hm => rv_loadN (cs := K1) underlying27 type27 rfl rfl (hm.boxCells (n := 1) rfl)) ?_
 refine wcv (cl_fn cb10 rfl) (fun W hm => spec_IsIndex_c W _ x0 (tyIndex_mk (x := x0) (hm.rdS0 r9) (hm.rdS0 r14)) s_0) ?_
 refine wv vnot ?_
 refine wm ?_
 rcases Bool.eq_false_or_eq_true (spec_IsIndex_m x0) with g34 | g34
 ·
  have hf := spec_IsIndex_fact g34
  refine wg (fun W hm => rv_loadN (cs := [.int .i64 x1.Id, .slice A18 x1.Values.length c19]) underlying50 type50 rfl rfl (hm.boxCells (n := 0) rfl)) (nt g34) ?_
  refine WM_callV (cl_fn cb89 rfl) (fun W hm => spec_IsRow_c W _ x1 (tyRow_mk (x := x1) (hm.rdS0 r21))) (Wd_some rfl rfl rfl (bw (nt g34) rfl)) (by decide) ?_
  refine wg vnot (nt g34) ?_
  refine wv (vpF (nt g34)) ?_
  refine wm ?_
  rcases Bool.eq_false_or_eq_true (spec_IsRow_m x1) with g36 | g36
  ·
   have hv := spec_IsRow_len g36
   refine wg vmv (nt g36) ?_
   refine WM_callV (cl_fn cb117 rfl) (fun W hm => spec_l6Order_c W _ x2 (hm.rdS0 r26)) (Wd_some rfl rfl rfl (bw (nt g36) rfl)) (by decide) ?_
   refine wg vnot (nt g36) ?_
   refine wv (vpF (nt g36)) ?_
   refine nt' ?_
   rcases Bool.eq_false_or_eq_true (spec_l6Order_m x2) with g38 | g38
   ·
    have ho := spec_Order_fact g38
    refine CM_condF rfl (nt g38) ?_
    refine CM_skip (QM_then (sr ?_))
    refine wv (fun W hm => rv_loadN (cs := K1) underlying27 type27 rfl rfl (hm.boxCells (n := 1) rfl)) ?_
    refine wv (fun W hm => rv_loadN (cs := [.int .i64 x1.Id, .slice A18 x1.Values.length c19]) underlying50 type50 rfl rfl (hm.boxCells (n := 0) rfl)) ?_
    refine wm ?_
    refine WM_call (χ := Value) (val := fun x => .tuple #[x, .int .i64 ((spec_l6Probe_m x0 x1 x2).2)]) (js := fun x => [iOwn (tSl tInt 3) [x] ((spec_l6Probe_m x0 x1 x2).1)]) (cl_fn cb118 rfl) (fun W hm => spec_l6Probe_c W _ x0 _ x1 _ x2 (tyIndex_mk (x := x0) (hm.rdS0 r9) (hm.rdS0 r14)) (tyRow_mk (x := x1) (hm.rdS0 r21)) (hm.rdS0 r26) s_0 s_1 s_2 (hf) (hv) (ho)) (Wd_none rfl) (by decide) (fun z39 => ?_)
    refine WM_form (n := 0) rfl ?_
    rintro A40 c41 rfl m42
    refine wm ?_
    refine wv (fun W hm => rv_extract rfl rfl) ?_
    refine wv (fun W hm => rv_extract rfl rfl) ?_
    refine wa (wa (nt' (sr (wm (wm (wa (wa (nt' (CM_ret ?_)))))))))
    refine QM_r2 rfl (RR_tmp rfl) (RR_tmp rfl) (fun W hm => ⟨.slice A40 ((spec_l6Probe_m x0 x1 x2).1).length c41, ?_, ?_⟩)
    ·first | rw [(show spec_ProbeSet_m x0 x1 x2 = ((spec_l6Probe_m x0 x1 x2).1, (spec_l6Probe_m x0 x1 x2).2) from by unfold spec_ProbeSet_m; exact cond_t g34 (cond_t g36 (cond_t g38 (rfl))))] | rfl
     try rfl
    ·rw [(show spec_ProbeSet_m x0 x1 x2 = ((spec_l6Probe_m x0 x1 x2).1, (spec_l6Probe_m x0 x1 x2).2) from by unfold spec_ProbeSet_m; exact cond_t g34 (cond_t g36 (cond_t g38 (rfl))))]; exact (hm.pick [0] (by decide))
   ·
    refine CM_condT rfl (nf g38) ?_
    refine sr ?_
    refine WM_build0 (E := tInt) underlying37 type3 (Wd_none rfl) (by decide) (fun p44 => ?_)
    refine wa (wa (nt' (CM_ret (QM_then_ret ?_))))
    refine QM_r2 rfl (RR_tmp rfl) (RR_tmp rfl) (fun W hm => ⟨.slice (some ⟨p44, 0, none⟩) 0 0, ?_, ?_⟩)
    ·first | rw [(show spec_ProbeSet_m x0 x1 x2 = ([], 0) from by unfold spec_ProbeSet_m; exact cond_t g34 (cond_t g36 (cond_f g38 (rfl))))] | rfl
     try rfl
    ·rw [(show spec_ProbeSet_m x0 x1 x2 = ([], 0) from by unfold spec_ProbeSet_m; exact cond_t g34 (cond_t g36 (cond_f g38 (rfl))))]; exact (hm.pick [0] (by decide))
  ·
   refine ws (nf g36) ?_
   refine ws (nf g36) ?_
   refine ws (nf g36) ?_
   refine wv (vpT (nf g36)) ?_
   refine nt' ?_
   refine CM_condT rfl rfl ?_
   refine sr ?_
   refine WM_build0 (E := tInt) underlying37 type3 (Wd_none rfl) (by decide) (fun p46 => ?_)
   refine wa (wa (nt' (CM_ret (QM_then_ret ?_))))
   refine QM_r2 rfl (RR_tmp rfl) (RR_tmp rfl) (fun W hm => ⟨.slice (some ⟨p46, 0, none⟩) 0 0, ?_, ?_⟩)
   ·first | rw [(show spec_ProbeSet_m x0 x1 x2 = ([], 0) from by unfold spec_ProbeSet_m; exact cond_t g34 (cond_f g36 (rfl)))] | rfl
    try rfl
   ·rw [(show spec_ProbeSet_m x0 x1 x2 = ([], 0) from by unfold spec_ProbeSet_m; exact cond_t g34 (cond_f g36 (rfl)))]; exact (hm.pick [0] (by decide))
 ·
  refine ws (nf g34) ?_
  refine ws (nf g34) ?_
  refine ws (nf g34) ?_
  refine wv (vpT (nf g34)) ?_
  refine wm ?_
  refine wk ?_
  refine wk ?_
  refine wk ?_
  refine wv (vpT rfl) ?_
  refine nt' ?_
  refine CM_condT rfl rfl ?_
  refine sr ?_
  refine WM_build0 (E := tInt) underlying37 type3 (Wd_none rfl) (by decide) (fun p48 => ?_)
  refine wa (wa (nt' (CM_ret (QM_then_ret ?_))))
  refine QM_r2 rfl (RR_tmp rfl) (RR_tmp rfl) (fun W hm => ⟨.slice (some ⟨p48, 0, none⟩) 0 0, ?_, ?_⟩)
  ·first | rw [(show spec_ProbeSet_m x0 x1 x2 = ([], 0) from by unfold spec_ProbeSet_m; exact cond_f g34 (rfl))] | rfl
   try rfl
  ·rw [(show spec_ProbeSet_m x0 x1 x2 = ([], 0) from by unfold spec_ProbeSet_m; exact cond_f g34 (rfl))]; exact (hm.pick [0] (by decide))

end Go.Proofs.Ytdjendhffbjnhaa
