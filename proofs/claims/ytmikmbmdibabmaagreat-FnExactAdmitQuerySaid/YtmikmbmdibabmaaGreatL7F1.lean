/-
  Contracts of functions, printed by a program of ours.
-/
import Derived.Test.YtmikmbmdibabmaaGreatDat
namespace Go.Proofs.YtmikmbmdibabmaaGreat
open Go.RowKit
set_option maxRecDepth 100000
set_option maxHeartbeats 4000000
open _root_.Go.Proofs.Tryz
def laws_szIntS_m (x0 : (List Int)) (x1 : Int) : Int :=
 cond (decide ((IntKind.i64.wrap (x1 - ((x0.length : Nat) : Int))) < 0)) (-1) (IntKind.i64.wrap (x1 - ((x0.length : Nat) : Int)))
theorem cb77 : Cb Tryz.prog 77 := ⟨f77, _, func77, rfl, by decide⟩
theorem laws_szIntS_c (w : World) (z0 : Value) (x0 : (List Int)) (x1 : Int) (r_0 : rdS tInt w w.heap.size z0 x0) :
  Calls Tryz.prog 77 #[z0, .int .i64 x1] w fun e w' => e = .returned (.int .i64 (laws_szIntS_m x0 x1)) ∧ Below w.heap.size w w' := by
 obtain ⟨m1, A2, c3, rfl, q4, r5⟩ := rdS_op r_0
 refine ce2 (L := [(0, .slice A2 x0.length c3), (1, .int .i64 x1)]) (N := 12) func77 ?_
 refine sr (wa (nt' (sr (wm (wm ?_)))))
 refine wv (vlen underlying25) ?_
 refine wv (fun W hm => rv_sub rfl rfl) ?_
 refine wa (nt' (CM_seq (sr (wm ?_))))
 refine wv vlss ?_
 refine nt' ?_
 by_cases h6 : (IntKind.i64.wrap (x1 - ((x0.length : Nat) : Int))) < 0
 ·have g7 := decide_eq_true h6
  refine CM_condT rfl g7 ?_
  refine sr (wa (nt' (CM_ret (QM_then_ret ?_))))
  exact rti (h := cond_t g7 (rfl))
 ·have g7 := decide_eq_false h6
  refine CM_condF rfl g7 ?_
  refine CM_skip (QM_then (sr (wm (wa (nt' (CM_ret ?_))))))
  exact rti (h := cond_f g7 (rfl))

def laws_szVersion_m (x0 : DVersion) (x1 : Int) : Int :=
 cond (decide ((laws_szIntS_m x0.Values x1) < 0)) (-1) (laws_szIntS_m x0.Values x1)
theorem cb230 : Cb Tryz.prog 230 := ⟨f230, _, func230, rfl, by decide⟩
theorem laws_szVersion_c (w : World) (z0 : List Value) (x0 : DVersion) (x1 : Int) (r_0 : tyLVersion.rd w w.heap.size z0 x0) :
  Calls Tryz.prog 230 #[.agg z0.toArray, .int .i64 x1] w fun e w' => e = .returned (.int .i64 (laws_szVersion_m x0 x1)) ∧ Below w.heap.size w w' := by
 obtain ⟨v1, rfl, r2⟩ := tyLVersion_rd r_0
 obtain ⟨m3, A4, c5, rfl, q6, r7⟩ := rdS_op r2
 refine ce2 (L := [(0, .agg #[.int .i64 x0.Id, .slice A4 x0.Values.length c5, .int .i64 x0.Born, .int .i64 x0.Died]), (1, .int .i64 x1)]) (N := 12) func230 ?_
 refine sr ?_
 refine WM_box rfl (Wd_none rfl) (by decide) (fun p8 => ?_)
 refine wa (nt' (sr ?_))
 refine wv (vf underlying239 rfl type25) ?_
 refine wv (vl 0 1 underlying25) ?_
 refine wm ?_
 refine wcv (cl_fn cb77 rfl) (fun W hm => laws_szIntS_c W _ x0.Values x1 (hm.rdS0 r7)) ?_
 refine wa (nt' (CM_seq (sr (wm ?_))))
 refine wv vlss ?_
 refine nt' ?_
 by_cases h9 : (laws_szIntS_m x0.Values x1) < 0
 ·have g10 := decide_eq_true h9
  refine CM_condT rfl g10 ?_
  refine sr (wa (nt' (CM_ret (QM_then_ret ?_))))
  exact rti (h := cond_t g10 (rfl))
 ·have g10 := decide_eq_false h9
  refine CM_condF rfl g10 ?_
  refine CM_skip (QM_then (sr (wm (wa (nt' (CM_ret ?_))))))
  exact rti (h := cond_f g10 (rfl))

def laws_szVersionS_b1 (x0 : (List DVersion)) (k8 : Nat) (s9 : Int) : Int ⊕ (Int) :=
 cond (decide ((laws_szVersion_m (gt x0 k8) s9) < 0)) (Sum.inl (-1)) (Sum.inr (laws_szVersion_m (gt x0 k8) s9))
def laws_szVersionS_m (x0 : (List DVersion)) (x1 : Int) : Int :=
 cond (decide ((IntKind.i64.wrap (x1 - ((x0.length : Nat) : Int))) < 0)) (-1) (Sum.elim id (fun (s : Int) => s) (rng (R := Int) (fun k (s : Int) => laws_szVersionS_b1 x0 k s) (x0.length - 0) 0 (IntKind.i64.wrap (x1 - ((x0.length : Nat) : Int)))))
theorem cb211 : Cb Tryz.prog 211 := ⟨f211, _, func211, rfl, by decide⟩
theorem laws_szVersionS_c (w : World) (z0 : Value) (x0 : (List DVersion)) (x1 : Int) (r_0 : rdS tyLVersion w w.heap.size z0 x0) :
  Calls Tryz.prog 211 #[z0, .int .i64 x1] w fun e w' => e = .returned (.int .i64 (laws_szVersionS_m x0 x1)) ∧ Below w.heap.size w w' := by
 obtain ⟨m1, A2, c3, rfl, q4, r5⟩ := rdS_op r_0
 refine ce2 (L := [(0, .slice A2 x0.length c3), (1, .int .i64 x1)]) (N := 27) func211 ?_
 refine sr (wa (nt' (sr (wm (wm ?_)))))
 refine wv (vlen underlying219) ?_
 refine wv (fun W hm => rv_sub rfl rfl) ?_
 refine wa (nt' (CM_seq (sr (wm ?_))))
 refine wv vlss ?_
 refine nt' ?_
 by_cases h6 : (IntKind.i64.wrap (x1 - ((x0.length : Nat) : Int))) < 0
 ·have g7 := decide_eq_true h6
  refine CM_condT rfl g7 ?_
  refine sr (wa (nt' (CM_ret (QM_then_ret ?_))))
  exact rti (h := cond_t g7 (rfl))
 ·have g7 := decide_eq_false h6
  refine CM_condF rfl g7 ?_
  refine CM_skip (QM_then (CM_seq (sr (wa (nt' (CM_block ?_))))))
  let F1 := fun k (s : Int) => laws_szVersionS_b1 x0 k s
  let R2 := rng (R := Int) F1
  refine CM_loop (σ := Nat × (Int) × (Unit)) (fun s => [(0, .slice A2 x0.length c3), (1, .int .i64 s.2.1), (5, .int .i64 ((s.1 : Nat) : Int))]) (fun s => []) (fun s => s.1 ≤ x0.length ∧ R2 (x0.length - s.1) s.1 s.2.1 = R2 (x0.length - 0) 0 (IntKind.i64.wrap (x1 - ((x0.length : Nat) : Int)))) (fun s => x0.length - s.1) (0, (IntKind.i64.wrap (x1 - ((x0.length : Nat) : Int))), ()) sl3 (fun W hm => hm) ⟨(by omega), rfl⟩ ?_
  rintro ⟨k8, s9, ⟨⟩⟩ H12
  obtain ⟨hk10, hF11⟩ : k8 ≤ x0.length ∧ R2 (x0.length - k8) k8 s9 = R2 (x0.length - 0) 0 (IntKind.i64.wrap (x1 - ((x0.length : Nat) : Int))) := H12
  show CM Tryz.prog 27 _ _ _ _ [(0, .slice A2 x0.length c3), (1, .int .i64 s9), (5, .int .i64 ((k8 : Nat) : Int))] []
  refine CM_seq (sr (wm (wm ?_)))
  refine wv (vlen underlying219) ?_
  refine wv vlss ?_
  refine nt' ?_
  by_cases hl13 : k8 < x0.length
  ·have g14 := dlT hl13
   refine CM_condT rfl g14 ?_
   refine CM_skip (QM_then (CM_seq (CM_block (sr (wm (wm ?_))))))
   obtain ⟨a15, rfl, hb16, he17⟩ := q4 (by omega)
   refine wv (vix 4 k8 underlying219 type239) ?_
   obtain ⟨_, e21, hc18⟩ := he17 k8 _ (gt_some (show k8 < x0.length from by omega))
   obtain ⟨v19, rfl, r20⟩ := tyLVersion_rd e21
   obtain ⟨m22, A23, c24, rfl, q25, r26⟩ := rdS_op r20
   refine wv (fun W hm => rv_loadN (cs := [.int .i64 ((gt x0 k8).Id), .slice A23 ((gt x0 k8).Values).length c24, .int .i64 ((gt x0 k8).Born), .int .i64 ((gt x0 k8).Died)]) underlying239 type239 rfl rfl (hm.elCells (show (a15.add (k8 * 4)).block < w.heap.size from by rw [add_block]; exact hb16.1) hc18)) ?_
   refine wm ?_
   refine wcv (cl_fn cb230 rfl) (fun W hm => laws_szVersion_c W _ (gt x0 k8) s9 (tyLVersion_mk (x := (gt x0 k8)) (hm.rdS0 r26))) ?_
   refine wa (nt' (sr (wm ?_)))
   refine wv vlss ?_
   refine nt' ?_
   by_cases h27 : (laws_szVersion_m (gt x0 k8) s9) < 0
   ·have g28 := decide_eq_true h27
    refine CM_condT rfl g28 ?_
    refine sr (wa (nt' (CM_ret (QM_block_ret (QM_then_ret (QM_then_ret (QM_block_ret (QM_then_ret ?_))))))))
    exact rti (h := cond_f g7 (fin_inl (rng_ret (body := F1) (k := k8) (s := s9) (show k8 < x0.length from by omega) (cond_t g28 (rfl)) hF11) rfl))
   ·have g28 := decide_eq_false h27
    refine CM_condF rfl g28 ?_
    refine CM_skip (QM_block_normal (QM_then (CM_region (wm ?_))))
    refine wv (vadN k8 1 (by omega)) ?_
    refine wa (WM_nil ?_)
    have hn29 := rng_next (R := Int) (body := F1) (k := k8) (s := s9) (s' := (laws_szVersion_m (gt x0 k8) s9)) (show k8 < x0.length from by omega) (cond_f g28 (rfl)) hF11
    exact QM_round (k8 + 1, (laws_szVersion_m (gt x0 k8) s9), ()) sl3 (fun W hm => hm) ⟨(by omega), hn29⟩ (rl (by omega))
  ·have g14 := dlF hl13
   refine CM_condF rfl g14 ?_
   refine CM_exit (QM_then_exit (QM_then_exit ?_))
   have hE30 : R2 (x0.length - 0) 0 (IntKind.i64.wrap (x1 - ((x0.length : Nat) : Int))) = Sum.inr s9 := rng_end hl13 hF11
   refine QM_block_hit (QM_then (sr (wm (wa (nt' (CM_ret ?_))))))
   exact rti (h := cond_f g7 (fin_inr hE30 (rfl)))

def laws_szVersionSS_b1 (x0 : (List (List DVersion))) (k8 : Nat) (s9 : Int) : Int ⊕ (Int) :=
 cond (decide ((laws_szVersionS_m (gt x0 k8) s9) < 0)) (Sum.inl (-1)) (Sum.inr (laws_szVersionS_m (gt x0 k8) s9))
def laws_szVersionSS_m (x0 : (List (List DVersion))) (x1 : Int) : Int :=
 cond (decide ((IntKind.i64.wrap (x1 - ((x0.length : Nat) : Int))) < 0)) (-1) (Sum.elim id (fun (s : Int) => s) (rng (R := Int) (fun k (s : Int) => laws_szVersionSS_b1 x0 k s) (x0.length - 0) 0 (IntKind.i64.wrap (x1 - ((x0.length : Nat) : Int)))))
theorem cb155 : Cb Tryz.prog 155 := ⟨f155, _, func155, rfl, by decide⟩
theorem laws_szVersionSS_c (w : World) (z0 : Value) (x0 : (List (List DVersion))) (x1 : Int) (r_0 : rdS (tSl tyLVersion 239) w w.heap.size z0 x0) :
  Calls Tryz.prog 155 #[z0, .int .i64 x1] w fun e w' => e = .returned (.int .i64 (laws_szVersionSS_m x0 x1)) ∧ Below w.heap.size w w' := by
 obtain ⟨m1, A2, c3, rfl, q4, r5⟩ := rdS_op r_0
 refine ce2 (L := [(0, .slice A2 x0.length c3), (1, .int .i64 x1)]) (N := 27) func155 ?_
 refine sr (wa (nt' (sr (wm (wm ?_)))))
 refine wv (vlen underlying22) ?_
 refine wv (fun W hm => rv_sub rfl rfl) ?_
 refine wa (nt' (CM_seq (sr (wm ?_))))
 refine wv vlss ?_
 refine nt' ?_
 by_cases h6 : (IntKind.i64.wrap (x1 - ((x0.length : Nat) : Int))) < 0
 ·have g7 := decide_eq_true h6
  refine CM_condT rfl g7 ?_
  refine sr (wa (nt' (CM_ret (QM_then_ret ?_))))
  exact rti (h := cond_t g7 (rfl))
 ·have g7 := decide_eq_false h6
  refine CM_condF rfl g7 ?_
  refine CM_skip (QM_then (CM_seq (sr (wa (nt' (CM_block ?_))))))
  let F1 := fun k (s : Int) => laws_szVersionSS_b1 x0 k s
  let R2 := rng (R := Int) F1
  refine CM_loop (σ := Nat × (Int) × (Unit)) (fun s => [(0, .slice A2 x0.length c3), (1, .int .i64 s.2.1), (5, .int .i64 ((s.1 : Nat) : Int))]) (fun s => []) (fun s => s.1 ≤ x0.length ∧ R2 (x0.length - s.1) s.1 s.2.1 = R2 (x0.length - 0) 0 (IntKind.i64.wrap (x1 - ((x0.length : Nat) : Int)))) (fun s => x0.length - s.1) (0, (IntKind.i64.wrap (x1 - ((x0.length : Nat) : Int))), ()) sl3 (fun W hm => hm) ⟨(by omega), rfl⟩ ?_
  rintro ⟨k8, s9, ⟨⟩⟩ H12
  obtain ⟨hk10, hF11⟩ : k8 ≤ x0.length ∧ R2 (x0.length - k8) k8 s9 = R2 (x0.length - 0) 0 (IntKind.i64.wrap (x1 - ((x0.length : Nat) : Int))) := H12
  show CM Tryz.prog 27 _ _ _ _ [(0, .slice A2 x0.length c3), (1, .int .i64 s9), (5, .int .i64 ((k8 : Nat) : Int))] []
  refine CM_seq (sr (wm (wm ?_)))
  refine wv (vlen underlying22) ?_
  refine wv vlss ?_
  refine nt' ?_
  by_cases hl13 : k8 < x0.length
  ·have g14 := dlT hl13
   refine CM_condT rfl g14 ?_
   refine CM_skip (QM_then (CM_seq (CM_block (sr (wm (wm ?_))))))
   obtain ⟨a15, rfl, hb16, he17⟩ := q4 (by omega)
   refine wv (vix 1 k8 underlying22 type219) ?_
   obtain ⟨_, e19, hc18⟩ := he17 k8 _ (gt_some (show k8 < x0.length from by omega))
   obtain ⟨v20, rfl, r21⟩ := e19
   obtain ⟨m22, A23, c24, rfl, q25, r26⟩ := rdS_op r21
   refine wv (fun W hm => rv_load underlying219 rfl rfl ((hm.cell0 (show (a15.add (k8 * 1)).block < w.heap.size from by rw [add_block]; exact hb16.1)).trans (hc18 0 _ rfl))) ?_
   refine wm ?_
   refine wcv (cl_fn cb211 rfl) (fun W hm => laws_szVersionS_c W _ (gt x0 k8) s9 (hm.rdS0 r26)) ?_
   refine wa (nt' (sr (wm ?_)))
   refine wv vlss ?_
   refine nt' ?_
   by_cases h27 : (laws_szVersionS_m (gt x0 k8) s9) < 0
   ·have g28 := decide_eq_true h27
    refine CM_condT rfl g28 ?_
    refine sr (wa (nt' (CM_ret (QM_block_ret (QM_then_ret (QM_then_ret (QM_block_ret (QM_then_ret ?_))))))))
    exact rti (h := cond_f g7 (fin_inl (rng_ret (body := F1) (k := k8) (s := s9) (show k8 < x0.length from by omega) (cond_t g28 (rfl)) hF11) rfl))
   ·have g28 := decide_eq_false h27
    refine CM_condF rfl g28 ?_
    refine CM_skip (QM_block_normal (QM_then (CM_region (wm ?_))))
    refine wv (vadN k8 1 (by omega)) ?_
    refine wa (WM_nil ?_)
    have hn29 := rng_next (R := Int) (body := F1) (k := k8) (s := s9) (s' := (laws_szVersionS_m (gt x0 k8) s9)) (show k8 < x0.length from by omega) (cond_f g28 (rfl)) hF11
    exact QM_round (k8 + 1, (laws_szVersionS_m (gt x0 k8) s9), ()) sl3 (fun W hm => hm) ⟨(by omega), hn29⟩ (rl (by omega))
  ·have g14 := dlF hl13
   refine CM_condF rfl g14 ?_
   refine CM_exit (QM_then_exit (QM_then_exit ?_))
   have hE30 : R2 (x0.length - 0) 0 (IntKind.i64.wrap (x1 - ((x0.length : Nat) : Int))) = Sum.inr s9 := rng_end hl13 hF11
   refine QM_block_hit (QM_then (sr (wm (wa (nt' (CM_ret ?_))))))
   exact rti (h := cond_f g7 (fin_inr hE30 (rfl)))

def laws_szStore_m (x0 : DStore) (x1 : Int) : Int :=
 cond (decide ((laws_szVersionSS_m x0.Segments x1) < 0)) (-1) (laws_szVersionSS_m x0.Segments x1)
theorem cb76 : Cb Tryz.prog 76 := ⟨f76, _, func76, rfl, by decide⟩
theorem laws_szStore_c (w : World) (z0 : List Value) (x0 : DStore) (x1 : Int) (r_0 : tyLStore.rd w w.heap.size z0 x0) :
  Calls Tryz.prog 76 #[.agg z0.toArray, .int .i64 x1] w fun e w' => e = .returned (.int .i64 (laws_szStore_m x0 x1)) ∧ Below w.heap.size w w' := by
 obtain ⟨v1, rfl, r2⟩ := tyLStore_rd r_0
 obtain ⟨m3, A4, c5, rfl, q6, r7⟩ := rdS_op r2
 refine ce2 (L := [(0, .agg #[.slice A4 x0.Segments.length c5, .int .i64 x0.Now]), (1, .int .i64 x1)]) (N := 12) func76 ?_
 refine sr ?_
 refine WM_box rfl (Wd_none rfl) (by decide) (fun p8 => ?_)
 refine wa (nt' (sr ?_))
 refine wv (vf underlying24 rfl type22) ?_
 refine wv (vl 0 0 underlying22) ?_
 refine wm ?_
 refine wcv (cl_fn cb155 rfl) (fun W hm => laws_szVersionSS_c W _ x0.Segments x1 (hm.rdS0 r7)) ?_
 refine wa (nt' (CM_seq (sr (wm ?_))))
 refine wv vlss ?_
 refine nt' ?_
 by_cases h9 : (laws_szVersionSS_m x0.Segments x1) < 0
 ·have g10 := decide_eq_true h9
  refine CM_condT rfl g10 ?_
  refine sr (wa (nt' (CM_ret (QM_then_ret ?_))))
  exact rti (h := cond_t g10 (rfl))
 ·have g10 := decide_eq_false h9
  refine CM_condF rfl g10 ?_
  refine CM_skip (QM_then (sr (wm (wa (nt' (CM_ret ?_))))))
  exact rti (h := cond_f g10 (rfl))

def laws_szCondS_m (x0 : (List DCond)) (x1 : Int) : Int :=
 cond (decide ((IntKind.i64.wrap (x1 - ((x0.length : Nat) : Int))) < 0)) (-1) (IntKind.i64.wrap (x1 - ((x0.length : Nat) : Int)))
theorem cb143 : Cb Tryz.prog 143 := ⟨f143, _, func143, rfl, by decide⟩
theorem laws_szCondS_c (w : World) (z0 : Value) (x0 : (List DCond)) (x1 : Int) (r_0 : rdS tyLCond w w.heap.size z0 x0) :
  Calls Tryz.prog 143 #[z0, .int .i64 x1] w fun e w' => e = .returned (.int .i64 (laws_szCondS_m x0 x1)) ∧ Below w.heap.size w w' := by
 obtain ⟨m1, A2, c3, rfl, q4, r5⟩ := rdS_op r_0
 refine ce2 (L := [(0, .slice A2 x0.length c3), (1, .int .i64 x1)]) (N := 12) func143 ?_
 refine sr (wa (nt' (sr (wm (wm ?_)))))
 refine wv (vlen underlying85) ?_
 refine wv (fun W hm => rv_sub rfl rfl) ?_
 refine wa (nt' (CM_seq (sr (wm ?_))))
 refine wv vlss ?_
 refine nt' ?_
 by_cases h6 : (IntKind.i64.wrap (x1 - ((x0.length : Nat) : Int))) < 0
 ·have g7 := decide_eq_true h6
  refine CM_condT rfl g7 ?_
  refine sr (wa (nt' (CM_ret (QM_then_ret ?_))))
  exact rti (h := cond_t g7 (rfl))
 ·have g7 := decide_eq_false h6
  refine CM_condF rfl g7 ?_
  refine CM_skip (QM_then (sr (wm (wa (nt' (CM_ret ?_))))))
  exact rti (h := cond_f g7 (rfl))

def laws_szQuery_m (x0 : DQuery) (x1 : Int) : Int :=
 cond (decide ((laws_szCondS_m x0.Conds x1) < 0)) (-1) (cond (decide ((laws_szIntS_m x0.Out (laws_szCondS_m x0.Conds x1)) < 0)) (-1) (laws_szIntS_m x0.Out (laws_szCondS_m x0.Conds x1)))
theorem cb52 : Cb Tryz.prog 52 := ⟨f52, _, func52, rfl, by decide⟩
theorem laws_szQuery_c (w : World) (z0 : List Value) (x0 : DQuery) (x1 : Int) (r_0 : tyLQuery.rd w w.heap.size z0 x0) :
  Calls Tryz.prog 52 #[.agg z0.toArray, .int .i64 x1] w fun e w' => e = .returned (.int .i64 (laws_szQuery_m x0 x1)) ∧ Below w.heap.size w w' := by
 obtain ⟨v1, v3, rfl, r2, r4⟩ := tyLQuery_rd r_0
 obtain ⟨m5, A6, c7, rfl, q8, r9⟩ := rdS_op r2
 obtain ⟨m10, A11, c12, rfl, q13, r14⟩ := rdS_op r4
 refine ce2 (L := [(0, .agg #[.int .i64 x0.Id, .int .i64 x0.Tenant, .slice A6 x0.Conds.length c7, .slice A11 x0.Out.length c12]), (1, .int .i64 x1)]) (N := 18) func52 ?_
 refine sr ?_
 refine WM_box rfl (Wd_none rfl) (by decide) (fun p15 => ?_)
 refine wa (nt' (sr ?_))
 refine wv (vf underlying87 rfl type85) ?_
 refine wv (vl 0 2 underlying85) ?_
 refine wm ?_
 refine wcv (cl_fn cb143 rfl) (fun W hm => laws_szCondS_c W _ x0.Conds x1 (hm.rdS0 r9)) ?_
 refine wa (nt' (CM_seq (sr (wm ?_))))
 refine wv vlss ?_
 refine nt' ?_
 by_cases h16 : (laws_szCondS_m x0.Conds x1) < 0
 ·have g17 := decide_eq_true h16
  refine CM_condT rfl g17 ?_
  refine sr (wa (nt' (CM_ret (QM_then_ret ?_))))
  exact rti (h := cond_t g17 (rfl))
 ·have g17 := decide_eq_false h16
  refine CM_condF rfl g17 ?_
  refine CM_skip (QM_then (sr ?_))
  refine wv (vf underlying87 rfl type25) ?_
  refine wv (vl 0 3 underlying25) ?_
  refine wm ?_
  refine wcv (cl_fn cb77 rfl) (fun W hm => laws_szIntS_c W _ x0.Out (laws_szCondS_m x0.Conds x1) (hm.rdS0 r14)) ?_
  refine wa (nt' (CM_seq (sr (wm ?_))))
  refine wv vlss ?_
  refine nt' ?_
  by_cases h18 : (laws_szIntS_m x0.Out (laws_szCondS_m x0.Conds x1)) < 0
  ·have g19 := decide_eq_true h18
   refine CM_condT rfl g19 ?_
   refine sr (wa (nt' (CM_ret (QM_then_ret ?_))))
   exact rti (h := cond_f g17 (cond_t g19 (rfl)))
  ·have g19 := decide_eq_false h18
   refine CM_condF rfl g19 ?_
   refine CM_skip (QM_then (sr (wm (wa (nt' (CM_ret ?_))))))
   exact rti (h := cond_f g17 (cond_f g19 (rfl)))

def laws_szRow_m (x0 : DRow) (x1 : Int) : Int :=
 cond (decide ((laws_szIntS_m x0.Values x1) < 0)) (-1) (laws_szIntS_m x0.Values x1)
theorem cb147 : Cb Tryz.prog 147 := ⟨f147, _, func147, rfl, by decide⟩
theorem laws_szRow_c (w : World) (z0 : List Value) (x0 : DRow) (x1 : Int) (r_0 : tyLRow.rd w w.heap.size z0 x0) :
  Calls Tryz.prog 147 #[.agg z0.toArray, .int .i64 x1] w fun e w' => e = .returned (.int .i64 (laws_szRow_m x0 x1)) ∧ Below w.heap.size w w' := by
 obtain ⟨v1, rfl, r2⟩ := tyLRow_rd r_0
 obtain ⟨m3, A4, c5, rfl, q6, r7⟩ := rdS_op r2
 refine ce2 (L := [(0, .agg #[.int .i64 x0.Id, .slice A4 x0.Values.length c5]), (1, .int .i64 x1)]) (N := 12) func147 ?_
 refine sr ?_
 refine WM_box rfl (Wd_none rfl) (by decide) (fun p8 => ?_)
 refine wa (nt' (sr ?_))
 refine wv (vf underlying93 rfl type25) ?_
 refine wv (vl 0 1 underlying25) ?_
 refine wm ?_
 refine wcv (cl_fn cb77 rfl) (fun W hm => laws_szIntS_c W _ x0.Values x1 (hm.rdS0 r7)) ?_
 refine wa (nt' (CM_seq (sr (wm ?_))))
 refine wv vlss ?_
 refine nt' ?_
 by_cases h9 : (laws_szIntS_m x0.Values x1) < 0
 ·have g10 := decide_eq_true h9
  refine CM_condT rfl g10 ?_
  refine sr (wa (nt' (CM_ret (QM_then_ret ?_))))
  exact rti (h := cond_t g10 (rfl))
 ·have g10 := decide_eq_false h9
  refine CM_condF rfl g10 ?_
  refine CM_skip (QM_then (sr (wm (wa (nt' (CM_ret ?_))))))
  exact rti (h := cond_f g10 (rfl))

def laws_szRowS_b1 (x0 : (List DRow)) (k8 : Nat) (s9 : Int) : Int ⊕ (Int) :=
 cond (decide ((laws_szRow_m (gt x0 k8) s9) < 0)) (Sum.inl (-1)) (Sum.inr (laws_szRow_m (gt x0 k8) s9))
def laws_szRowS_m (x0 : (List DRow)) (x1 : Int) : Int :=
 cond (decide ((IntKind.i64.wrap (x1 - ((x0.length : Nat) : Int))) < 0)) (-1) (Sum.elim id (fun (s : Int) => s) (rng (R := Int) (fun k (s : Int) => laws_szRowS_b1 x0 k s) (x0.length - 0) 0 (IntKind.i64.wrap (x1 - ((x0.length : Nat) : Int)))))
theorem cb212 : Cb Tryz.prog 212 := ⟨f212, _, func212, rfl, by decide⟩
theorem laws_szRowS_c (w : World) (z0 : Value) (x0 : (List DRow)) (x1 : Int) (r_0 : rdS tyLRow w w.heap.size z0 x0) :
  Calls Tryz.prog 212 #[z0, .int .i64 x1] w fun e w' => e = .returned (.int .i64 (laws_szRowS_m x0 x1)) ∧ Below w.heap.size w w' := by
 obtain ⟨m1, A2, c3, rfl, q4, r5⟩ := rdS_op r_0
 refine ce2 (L := [(0, .slice A2 x0.length c3), (1, .int .i64 x1)]) (N := 27) func212 ?_
 refine sr (wa (nt' (sr (wm (wm ?_)))))
 refine wv (vlen underlying169) ?_
 refine wv (fun W hm => rv_sub rfl rfl) ?_
 refine wa (nt' (CM_seq (sr (wm ?_))))
 refine wv vlss ?_
 refine nt' ?_
 by_cases h6 : (IntKind.i64.wrap (x1 - ((x0.length : Nat) : Int))) < 0
 ·have g7 := decide_eq_true h6
  refine CM_condT rfl g7 ?_
  refine sr (wa (nt' (CM_ret (QM_then_ret ?_))))
  exact rti (h := cond_t g7 (rfl))
 ·have g7 := decide_eq_false h6
  refine CM_condF rfl g7 ?_
  refine CM_skip (QM_then (CM_seq (sr (wa (nt' (CM_block ?_))))))
  let F1 := fun k (s : Int) => laws_szRowS_b1 x0 k s
  let R2 := rng (R := Int) F1
  refine CM_loop (σ := Nat × (Int) × (Unit)) (fun s => [(0, .slice A2 x0.length c3), (1, .int .i64 s.2.1), (5, .int .i64 ((s.1 : Nat) : Int))]) (fun s => []) (fun s => s.1 ≤ x0.length ∧ R2 (x0.length - s.1) s.1 s.2.1 = R2 (x0.length - 0) 0 (IntKind.i64.wrap (x1 - ((x0.length : Nat) : Int)))) (fun s => x0.length - s.1) (0, (IntKind.i64.wrap (x1 - ((x0.length : Nat) : Int))), ()) sl3 (fun W hm => hm) ⟨(by omega), rfl⟩ ?_
  rintro ⟨k8, s9, ⟨⟩⟩ H12
  obtain ⟨hk10, hF11⟩ : k8 ≤ x0.length ∧ R2 (x0.length - k8) k8 s9 = R2 (x0.length - 0) 0 (IntKind.i64.wrap (x1 - ((x0.length : Nat) : Int))) := H12
  show CM Tryz.prog 27 _ _ _ _ [(0, .slice A2 x0.length c3), (1, .int .i64 s9), (5, .int .i64 ((k8 : Nat) : Int))] []
  refine CM_seq (sr (wm (wm ?_)))
  refine wv (vlen underlying169) ?_
  refine wv vlss ?_
  refine nt' ?_
  by_cases hl13 : k8 < x0.length
  ·have g14 := dlT hl13
   refine CM_condT rfl g14 ?_
   refine CM_skip (QM_then (CM_seq (CM_block (sr (wm (wm ?_))))))
   obtain ⟨a15, rfl, hb16, he17⟩ := q4 (by omega)
   refine wv (vix 2 k8 underlying169 type93) ?_
   obtain ⟨_, e21, hc18⟩ := he17 k8 _ (gt_some (show k8 < x0.length from by omega))
   obtain ⟨v19, rfl, r20⟩ := tyLRow_rd e21
   obtain ⟨m22, A23, c24, rfl, q25, r26⟩ := rdS_op r20
   refine wv (fun W hm => rv_loadN (cs := [.int .i64 ((gt x0 k8).Id), .slice A23 ((gt x0 k8).Values).length c24]) underlying93 type93 rfl rfl (hm.elCells (show (a15.add (k8 * 2)).block < w.heap.size from by rw [add_block]; exact hb16.1) hc18)) ?_
   refine wm ?_
   refine wcv (cl_fn cb147 rfl) (fun W hm => laws_szRow_c W _ (gt x0 k8) s9 (tyLRow_mk (x := (gt x0 k8)) (hm.rdS0 r26))) ?_
   refine wa (nt' (sr (wm ?_)))
   refine wv vlss ?_
   refine nt' ?_
   by_cases h27 : (laws_szRow_m (gt x0 k8) s9) < 0
   ·have g28 := decide_eq_true h27
    refine CM_condT rfl g28 ?_
    refine sr (wa (nt' (CM_ret (QM_block_ret (QM_then_ret (QM_then_ret (QM_block_ret (QM_then_ret ?_))))))))
    exact rti (h := cond_f g7 (fin_inl (rng_ret (body := F1) (k := k8) (s := s9) (show k8 < x0.length from by omega) (cond_t g28 (rfl)) hF11) rfl))
   ·have g28 := decide_eq_false h27
    refine CM_condF rfl g28 ?_
    refine CM_skip (QM_block_normal (QM_then (CM_region (wm ?_))))
    refine wv (vadN k8 1 (by omega)) ?_
    refine wa (WM_nil ?_)
    have hn29 := rng_next (R := Int) (body := F1) (k := k8) (s := s9) (s' := (laws_szRow_m (gt x0 k8) s9)) (show k8 < x0.length from by omega) (cond_f g28 (rfl)) hF11
    exact QM_round (k8 + 1, (laws_szRow_m (gt x0 k8) s9), ()) sl3 (fun W hm => hm) ⟨(by omega), hn29⟩ (rl (by omega))
  ·have g14 := dlF hl13
   refine CM_condF rfl g14 ?_
   refine CM_exit (QM_then_exit (QM_then_exit ?_))
   have hE30 : R2 (x0.length - 0) 0 (IntKind.i64.wrap (x1 - ((x0.length : Nat) : Int))) = Sum.inr s9 := rng_end hl13 hF11
   refine QM_block_hit (QM_then (sr (wm (wa (nt' (CM_ret ?_))))))
   exact rti (h := cond_f g7 (fin_inr hE30 (rfl)))

def laws_szActive_m (x0 : DActive) (x1 : Int) : Int :=
 cond (decide ((laws_szQuery_m x0.Query x1) < 0)) (-1) (cond (decide ((laws_szIntS_m x0.Todo (laws_szQuery_m x0.Query x1)) < 0)) (-1) (cond (decide ((laws_szRowS_m x0.Rows (laws_szIntS_m x0.Todo (laws_szQuery_m x0.Query x1))) < 0)) (-1) (laws_szRowS_m x0.Rows (laws_szIntS_m x0.Todo (laws_szQuery_m x0.Query x1)))))
theorem cb156 : Cb Tryz.prog 156 := ⟨f156, _, func156, rfl, by decide⟩
theorem laws_szActive_c (w : World) (z0 : List Value) (x0 : DActive) (x1 : Int) (r_0 : tyLActive.rd w w.heap.size z0 x0) :
  Calls Tryz.prog 156 #[.agg z0.toArray, .int .i64 x1] w fun e w' => e = .returned (.int .i64 (laws_szActive_m x0 x1)) ∧ Below w.heap.size w w' := by
 obtain ⟨v1, v3, v5, v7, rfl, r2, r4, r6, r8⟩ := tyLActive_rd r_0
 obtain ⟨m9, A10, c11, rfl, q12, r13⟩ := rdS_op r2
 obtain ⟨m14, A15, c16, rfl, q17, r18⟩ := rdS_op r4
 obtain ⟨m19, A20, c21, rfl, q22, r23⟩ := rdS_op r6
 obtain ⟨m24, A25, c26, rfl, q27, r28⟩ := rdS_op r8
 refine ce2 (L := [(0, .agg #[.int .i64 x0.Query.Id, .int .i64 x0.Query.Tenant, .slice A10 x0.Query.Conds.length c11, .slice A15 x0.Query.Out.length c16, .int .i64 x0.Time, .slice A20 x0.Todo.length c21, .int .i64 x0.Age, .int .i64 x0.Sent, .int .i64 x0.Cap, .slice A25 x0.Rows.length c26]), (1, .int .i64 x1)]) (N := 24) func156 ?_
 refine sr ?_
 refine WM_box rfl (Wd_none rfl) (by decide) (fun p29 => ?_)
 refine wa (nt' (sr ?_))
 refine wv (vf underlying171 rfl type87) ?_
 refine wv (fun W hm => rv_loadN (cs := [.int .i64 x0.Query.Id, .int .i64 x0.Query.Tenant, .slice A10 x0.Query.Conds.length c11, .slice A15 x0.Query.Out.length c16]) underlying87 type87 rfl rfl (hm.boxPart (n := 0) rfl rfl)) ?_
 refine wm ?_
 refine wcv (cl_fn cb52 rfl) (fun W hm => laws_szQuery_c W _ x0.Query x1 (tyLQuery_mk (x := x0.Query) (hm.rdS0 r13) (hm.rdS0 r18))) ?_
 refine wa (nt' (CM_seq (sr (wm ?_))))
 refine wv vlss ?_
 refine nt' ?_
 by_cases h30 : (laws_szQuery_m x0.Query x1) < 0
 ·have g31 := decide_eq_true h30
  refine CM_condT rfl g31 ?_
  refine sr (wa (nt' (CM_ret (QM_then_ret ?_))))
  exact rti (h := cond_t g31 (rfl))
 ·have g31 := decide_eq_false h30
  refine CM_condF rfl g31 ?_
  refine CM_skip (QM_then (sr ?_))
  refine wv (vf underlying171 rfl type25) ?_
  refine wv (vl 0 5 underlying25) ?_
  refine wm ?_
  refine wcv (cl_fn cb77 rfl) (fun W hm => laws_szIntS_c W _ x0.Todo (laws_szQuery_m x0.Query x1) (hm.rdS0 r23)) ?_
  refine wa (nt' (CM_seq (sr (wm ?_))))
  refine wv vlss ?_
  refine nt' ?_
  by_cases h32 : (laws_szIntS_m x0.Todo (laws_szQuery_m x0.Query x1)) < 0
  ·have g33 := decide_eq_true h32
   refine CM_condT rfl g33 ?_
   refine sr (wa (nt' (CM_ret (QM_then_ret ?_))))
   exact rti (h := cond_f g31 (cond_t g33 (rfl)))
  ·have g33 := decide_eq_false h32
   refine CM_condF rfl g33 ?_
   refine CM_skip (QM_then (sr ?_))
   refine wv (vf underlying171 rfl type169) ?_
   refine wv (vl 0 9 underlying169) ?_
   refine wm ?_
   refine wcv (cl_fn cb212 rfl) (fun W hm => laws_szRowS_c W _ x0.Rows (laws_szIntS_m x0.Todo (laws_szQuery_m x0.Query x1)) (hm.rdS0 r28)) ?_
   refine wa (nt' (CM_seq (sr (wm ?_))))
   refine wv vlss ?_
   refine nt' ?_
   by_cases h34 : (laws_szRowS_m x0.Rows (laws_szIntS_m x0.Todo (laws_szQuery_m x0.Query x1))) < 0
   ·have g35 := decide_eq_true h34
    refine CM_condT rfl g35 ?_
    refine sr (wa (nt' (CM_ret (QM_then_ret ?_))))
    exact rti (h := cond_f g31 (cond_f g33 (cond_t g35 (rfl))))
   ·have g35 := decide_eq_false h34
    refine CM_condF rfl g35 ?_
    refine CM_skip (QM_then (sr (wm (wa (nt' (CM_ret ?_))))))
    exact rti (h := cond_f g31 (cond_f g33 (cond_f g35 (rfl))))

def laws_szActiveS_b1 (x0 : (List DActive)) (k8 : Nat) (s9 : Int) : Int ⊕ (Int) :=
 cond (decide ((laws_szActive_m (gt x0 k8) s9) < 0)) (Sum.inl (-1)) (Sum.inr (laws_szActive_m (gt x0 k8) s9))
def laws_szActiveS_m (x0 : (List DActive)) (x1 : Int) : Int :=
 cond (decide ((IntKind.i64.wrap (x1 - ((x0.length : Nat) : Int))) < 0)) (-1) (Sum.elim id (fun (s : Int) => s) (rng (R := Int) (fun k (s : Int) => laws_szActiveS_b1 x0 k s) (x0.length - 0) 0 (IntKind.i64.wrap (x1 - ((x0.length : Nat) : Int)))))
theorem cb78 : Cb Tryz.prog 78 := ⟨f78, _, func78, rfl, by decide⟩
theorem laws_szActiveS_c (w : World) (z0 : Value) (x0 : (List DActive)) (x1 : Int) (r_0 : rdS tyLActive w w.heap.size z0 x0) :
  Calls Tryz.prog 78 #[z0, .int .i64 x1] w fun e w' => e = .returned (.int .i64 (laws_szActiveS_m x0 x1)) ∧ Below w.heap.size w w' := by
 obtain ⟨m1, A2, c3, rfl, q4, r5⟩ := rdS_op r_0
 refine ce2 (L := [(0, .slice A2 x0.length c3), (1, .int .i64 x1)]) (N := 27) func78 ?_
 refine sr (wa (nt' (sr (wm (wm ?_)))))
 refine wv (vlen underlying26) ?_
 refine wv (fun W hm => rv_sub rfl rfl) ?_
 refine wa (nt' (CM_seq (sr (wm ?_))))
 refine wv vlss ?_
 refine nt' ?_
 by_cases h6 : (IntKind.i64.wrap (x1 - ((x0.length : Nat) : Int))) < 0
 ·have g7 := decide_eq_true h6
  refine CM_condT rfl g7 ?_
  refine sr (wa (nt' (CM_ret (QM_then_ret ?_))))
  exact rti (h := cond_t g7 (rfl))
 ·have g7 := decide_eq_false h6
  refine CM_condF rfl g7 ?_
  refine CM_skip (QM_then (CM_seq (sr (wa (nt' (CM_block ?_))))))
  let F1 := fun k (s : Int) => laws_szActiveS_b1 x0 k s
  let R2 := rng (R := Int) F1
  refine CM_loop (σ := Nat × (Int) × (Unit)) (fun s => [(0, .slice A2 x0.length c3), (1, .int .i64 s.2.1), (5, .int .i64 ((s.1 : Nat) : Int))]) (fun s => []) (fun s => s.1 ≤ x0.length ∧ R2 (x0.length - s.1) s.1 s.2.1 = R2 (x0.length - 0) 0 (IntKind.i64.wrap (x1 - ((x0.length : Nat) : Int)))) (fun s => x0.length - s.1) (0, (IntKind.i64.wrap (x1 - ((x0.length : Nat) : Int))), ()) sl3 (fun W hm => hm) ⟨(by omega), rfl⟩ ?_
  rintro ⟨k8, s9, ⟨⟩⟩ H12
  obtain ⟨hk10, hF11⟩ : k8 ≤ x0.length ∧ R2 (x0.length - k8) k8 s9 = R2 (x0.length - 0) 0 (IntKind.i64.wrap (x1 - ((x0.length : Nat) : Int))) := H12
  show CM Tryz.prog 27 _ _ _ _ [(0, .slice A2 x0.length c3), (1, .int .i64 s9), (5, .int .i64 ((k8 : Nat) : Int))] []
  refine CM_seq (sr (wm (wm ?_)))
  refine wv (vlen underlying26) ?_
  refine wv vlss ?_
  refine nt' ?_
  by_cases hl13 : k8 < x0.length
  ·have g14 := dlT hl13
   refine CM_condT rfl g14 ?_
   refine CM_skip (QM_then (CM_seq (CM_block (sr (wm (wm ?_))))))
   obtain ⟨a15, rfl, hb16, he17⟩ := q4 (by omega)
   refine wv (vix 10 k8 underlying26 type171) ?_
   obtain ⟨_, e27, hc18⟩ := he17 k8 _ (gt_some (show k8 < x0.length from by omega))
   obtain ⟨v19, v21, v23, v25, rfl, r20, r22, r24, r26⟩ := tyLActive_rd e27
   obtain ⟨m28, A29, c30, rfl, q31, r32⟩ := rdS_op r20
   obtain ⟨m33, A34, c35, rfl, q36, r37⟩ := rdS_op r22
   obtain ⟨m38, A39, c40, rfl, q41, r42⟩ := rdS_op r24
   obtain ⟨m43, A44, c45, rfl, q46, r47⟩ := rdS_op r26
   refine wv (fun W hm => rv_loadN (cs := [.int .i64 ((gt x0 k8).Query.Id), .int .i64 ((gt x0 k8).Query.Tenant), .slice A29 ((gt x0 k8).Query.Conds).length c30, .slice A34 ((gt x0 k8).Query.Out).length c35, .int .i64 ((gt x0 k8).Time), .slice A39 ((gt x0 k8).Todo).length c40, .int .i64 ((gt x0 k8).Age), .int .i64 ((gt x0 k8).Sent), .int .i64 ((gt x0 k8).Cap), .slice A44 ((gt x0 k8).Rows).length c45]) underlying171 type171 rfl rfl (hm.elCells (show (a15.add (k8 * 10)).block < w.heap.size from by rw [add_block]; exact hb16.1) hc18)) ?_
   refine wm ?_
   refine wcv (cl_fn cb156 rfl) (fun W hm => laws_szActive_c W _ (gt x0 k8) s9 (tyLActive_mk (x := (gt x0 k8)) (hm.rdS0 r32) (hm.rdS0 r37) (hm.rdS0 r42) (hm.rdS0 r47))) ?_
   refine wa (nt' (sr (wm ?_)))
   refine wv vlss ?_
   refine nt' ?_
   by_cases h48 : (laws_szActive_m (gt x0 k8) s9) < 0
   ·have g49 := decide_eq_true h48
    refine CM_condT rfl g49 ?_
    refine sr (wa (nt' (CM_ret (QM_block_ret (QM_then_ret (QM_then_ret (QM_block_ret (QM_then_ret ?_))))))))
    exact rti (h := cond_f g7 (fin_inl (rng_ret (body := F1) (k := k8) (s := s9) (show k8 < x0.length from by omega) (cond_t g49 (rfl)) hF11) rfl))
   ·have g49 := decide_eq_false h48
    refine CM_condF rfl g49 ?_
    refine CM_skip (QM_block_normal (QM_then (CM_region (wm ?_))))
    refine wv (vadN k8 1 (by omega)) ?_
    refine wa (WM_nil ?_)
    have hn50 := rng_next (R := Int) (body := F1) (k := k8) (s := s9) (s' := (laws_szActive_m (gt x0 k8) s9)) (show k8 < x0.length from by omega) (cond_f g49 (rfl)) hF11
    exact QM_round (k8 + 1, (laws_szActive_m (gt x0 k8) s9), ()) sl3 (fun W hm => hm) ⟨(by omega), hn50⟩ (rl (by omega))
  ·have g14 := dlF hl13
   refine CM_condF rfl g14 ?_
   refine CM_exit (QM_then_exit (QM_then_exit ?_))
   have hE51 : R2 (x0.length - 0) 0 (IntKind.i64.wrap (x1 - ((x0.length : Nat) : Int))) = Sum.inr s9 := rng_end hl13 hF11
   refine QM_block_hit (QM_then (sr (wm (wa (nt' (CM_ret ?_))))))
   exact rti (h := cond_f g7 (fin_inr hE51 (rfl)))

def laws_szFinished_m (x0 : DFinished) (x1 : Int) : Int :=
 cond (decide ((laws_szQuery_m x0.Query x1) < 0)) (-1) (cond (decide ((laws_szRowS_m x0.Rows (laws_szQuery_m x0.Query x1)) < 0)) (-1) (laws_szRowS_m x0.Rows (laws_szQuery_m x0.Query x1)))
theorem cb157 : Cb Tryz.prog 157 := ⟨f157, _, func157, rfl, by decide⟩
theorem laws_szFinished_c (w : World) (z0 : List Value) (x0 : DFinished) (x1 : Int) (r_0 : tyLFinished.rd w w.heap.size z0 x0) :
  Calls Tryz.prog 157 #[.agg z0.toArray, .int .i64 x1] w fun e w' => e = .returned (.int .i64 (laws_szFinished_m x0 x1)) ∧ Below w.heap.size w w' := by
 obtain ⟨v1, v3, v5, rfl, r2, r4, r6⟩ := tyLFinished_rd r_0
 obtain ⟨m7, A8, c9, rfl, q10, r11⟩ := rdS_op r2
 obtain ⟨m12, A13, c14, rfl, q15, r16⟩ := rdS_op r4
 obtain ⟨m17, A18, c19, rfl, q20, r21⟩ := rdS_op r6
 refine ce2 (L := [(0, .agg #[.int .i64 x0.Query.Id, .int .i64 x0.Query.Tenant, .slice A8 x0.Query.Conds.length c9, .slice A13 x0.Query.Out.length c14, .int .i64 x0.Time, .int .i64 x0.Steps, .slice A18 x0.Rows.length c19]), (1, .int .i64 x1)]) (N := 18) func157 ?_
 refine sr ?_
 refine WM_box rfl (Wd_none rfl) (by decide) (fun p22 => ?_)
 refine wa (nt' (sr ?_))
 refine wv (vf underlying174 rfl type87) ?_
 refine wv (fun W hm => rv_loadN (cs := [.int .i64 x0.Query.Id, .int .i64 x0.Query.Tenant, .slice A8 x0.Query.Conds.length c9, .slice A13 x0.Query.Out.length c14]) underlying87 type87 rfl rfl (hm.boxPart (n := 0) rfl rfl)) ?_
 refine wm ?_
 refine wcv (cl_fn cb52 rfl) (fun W hm => laws_szQuery_c W _ x0.Query x1 (tyLQuery_mk (x := x0.Query) (hm.rdS0 r11) (hm.rdS0 r16))) ?_
 refine wa (nt' (CM_seq (sr (wm ?_))))
 refine wv vlss ?_
 refine nt' ?_
 by_cases h23 : (laws_szQuery_m x0.Query x1) < 0
 ·have g24 := decide_eq_true h23
  refine CM_condT rfl g24 ?_
  refine sr (wa (nt' (CM_ret (QM_then_ret ?_))))
  exact rti (h := cond_t g24 (rfl))
 ·have g24 := decide_eq_false h23
  refine CM_condF rfl g24 ?_
  refine CM_skip (QM_then (sr ?_))
  refine wv (vf underlying174 rfl type169) ?_
  refine wv (vl 0 6 underlying169) ?_
  refine wm ?_
  refine wcv (cl_fn cb212 rfl) (fun W hm => laws_szRowS_c W _ x0.Rows (laws_szQuery_m x0.Query x1) (hm.rdS0 r21)) ?_
  refine wa (nt' (CM_seq (sr (wm ?_))))
  refine wv vlss ?_
  refine nt' ?_
  by_cases h25 : (laws_szRowS_m x0.Rows (laws_szQuery_m x0.Query x1)) < 0
  ·have g26 := decide_eq_true h25
   refine CM_condT rfl g26 ?_
   refine sr (wa (nt' (CM_ret (QM_then_ret ?_))))
   exact rti (h := cond_f g24 (cond_t g26 (rfl)))
  ·have g26 := decide_eq_false h25
   refine CM_condF rfl g26 ?_
   refine CM_skip (QM_then (sr (wm (wa (nt' (CM_ret ?_))))))
   exact rti (h := cond_f g24 (cond_f g26 (rfl)))

def laws_szFinishedS_b1 (x0 : (List DFinished)) (k8 : Nat) (s9 : Int) : Int ⊕ (Int) :=
 cond (decide ((laws_szFinished_m (gt x0 k8) s9) < 0)) (Sum.inl (-1)) (Sum.inr (laws_szFinished_m (gt x0 k8) s9))
def laws_szFinishedS_m (x0 : (List DFinished)) (x1 : Int) : Int :=
 cond (decide ((IntKind.i64.wrap (x1 - ((x0.length : Nat) : Int))) < 0)) (-1) (Sum.elim id (fun (s : Int) => s) (rng (R := Int) (fun k (s : Int) => laws_szFinishedS_b1 x0 k s) (x0.length - 0) 0 (IntKind.i64.wrap (x1 - ((x0.length : Nat) : Int)))))
theorem cb79 : Cb Tryz.prog 79 := ⟨f79, _, func79, rfl, by decide⟩
theorem laws_szFinishedS_c (w : World) (z0 : Value) (x0 : (List DFinished)) (x1 : Int) (r_0 : rdS tyLFinished w w.heap.size z0 x0) :
  Calls Tryz.prog 79 #[z0, .int .i64 x1] w fun e w' => e = .returned (.int .i64 (laws_szFinishedS_m x0 x1)) ∧ Below w.heap.size w w' := by
 obtain ⟨m1, A2, c3, rfl, q4, r5⟩ := rdS_op r_0
 refine ce2 (L := [(0, .slice A2 x0.length c3), (1, .int .i64 x1)]) (N := 27) func79 ?_
 refine sr (wa (nt' (sr (wm (wm ?_)))))
 refine wv (vlen underlying27) ?_
 refine wv (fun W hm => rv_sub rfl rfl) ?_
 refine wa (nt' (CM_seq (sr (wm ?_))))
 refine wv vlss ?_
 refine nt' ?_
 by_cases h6 : (IntKind.i64.wrap (x1 - ((x0.length : Nat) : Int))) < 0
 ·have g7 := decide_eq_true h6
  refine CM_condT rfl g7 ?_
  refine sr (wa (nt' (CM_ret (QM_then_ret ?_))))
  exact rti (h := cond_t g7 (rfl))
 ·have g7 := decide_eq_false h6
  refine CM_condF rfl g7 ?_
  refine CM_skip (QM_then (CM_seq (sr (wa (nt' (CM_block ?_))))))
  let F1 := fun k (s : Int) => laws_szFinishedS_b1 x0 k s
  let R2 := rng (R := Int) F1
  refine CM_loop (σ := Nat × (Int) × (Unit)) (fun s => [(0, .slice A2 x0.length c3), (1, .int .i64 s.2.1), (5, .int .i64 ((s.1 : Nat) : Int))]) (fun s => []) (fun s => s.1 ≤ x0.length ∧ R2 (x0.length - s.1) s.1 s.2.1 = R2 (x0.length - 0) 0 (IntKind.i64.wrap (x1 - ((x0.length : Nat) : Int)))) (fun s => x0.length - s.1) (0, (IntKind.i64.wrap (x1 - ((x0.length : Nat) : Int))), ()) sl3 (fun W hm => hm) ⟨(by omega), rfl⟩ ?_
  rintro ⟨k8, s9, ⟨⟩⟩ H12
  obtain ⟨hk10, hF11⟩ : k8 ≤ x0.length ∧ R2 (x0.length - k8) k8 s9 = R2 (x0.length - 0) 0 (IntKind.i64.wrap (x1 - ((x0.length : Nat) : Int))) := H12
  show CM Tryz.prog 27 _ _ _ _ [(0, .slice A2 x0.length c3), (1, .int .i64 s9), (5, .int .i64 ((k8 : Nat) : Int))] []
  refine CM_seq (sr (wm (wm ?_)))
  refine wv (vlen underlying27) ?_
  refine wv vlss ?_
  refine nt' ?_
  by_cases hl13 : k8 < x0.length
  ·have g14 := dlT hl13
   refine CM_condT rfl g14 ?_
   refine CM_skip (QM_then (CM_seq (CM_block (sr (wm (wm ?_))))))
   obtain ⟨a15, rfl, hb16, he17⟩ := q4 (by omega)
   refine wv (vix 7 k8 underlying27 type174) ?_
   obtain ⟨_, e25, hc18⟩ := he17 k8 _ (gt_some (show k8 < x0.length from by omega))
   obtain ⟨v19, v21, v23, rfl, r20, r22, r24⟩ := tyLFinished_rd e25
   obtain ⟨m26, A27, c28, rfl, q29, r30⟩ := rdS_op r20
   obtain ⟨m31, A32, c33, rfl, q34, r35⟩ := rdS_op r22
   obtain ⟨m36, A37, c38, rfl, q39, r40⟩ := rdS_op r24
   refine wv (fun W hm => rv_loadN (cs := [.int .i64 ((gt x0 k8).Query.Id), .int .i64 ((gt x0 k8).Query.Tenant), .slice A27 ((gt x0 k8).Query.Conds).length c28, .slice A32 ((gt x0 k8).Query.Out).length c33, .int .i64 ((gt x0 k8).Time), .int .i64 ((gt x0 k8).Steps), .slice A37 ((gt x0 k8).Rows).length c38]) underlying174 type174 rfl rfl (hm.elCells (show (a15.add (k8 * 7)).block < w.heap.size from by rw [add_block]; exact hb16.1) hc18)) ?_
   refine wm ?_
   refine wcv (cl_fn cb157 rfl) (fun W hm => laws_szFinished_c W _ (gt x0 k8) s9 (tyLFinished_mk (x := (gt x0 k8)) (hm.rdS0 r30) (hm.rdS0 r35) (hm.rdS0 r40))) ?_
   refine wa (nt' (sr (wm ?_)))
   refine wv vlss ?_
   refine nt' ?_
   by_cases h41 : (laws_szFinished_m (gt x0 k8) s9) < 0
   ·have g42 := decide_eq_true h41
    refine CM_condT rfl g42 ?_
    refine sr (wa (nt' (CM_ret (QM_block_ret (QM_then_ret (QM_then_ret (QM_block_ret (QM_then_ret ?_))))))))
    exact rti (h := cond_f g7 (fin_inl (rng_ret (body := F1) (k := k8) (s := s9) (show k8 < x0.length from by omega) (cond_t g42 (rfl)) hF11) rfl))
   ·have g42 := decide_eq_false h41
    refine CM_condF rfl g42 ?_
    refine CM_skip (QM_block_normal (QM_then (CM_region (wm ?_))))
    refine wv (vadN k8 1 (by omega)) ?_
    refine wa (WM_nil ?_)
    have hn43 := rng_next (R := Int) (body := F1) (k := k8) (s := s9) (s' := (laws_szFinished_m (gt x0 k8) s9)) (show k8 < x0.length from by omega) (cond_f g42 (rfl)) hF11
    exact QM_round (k8 + 1, (laws_szFinished_m (gt x0 k8) s9), ()) sl3 (fun W hm => hm) ⟨(by omega), hn43⟩ (rl (by omega))
  ·have g14 := dlF hl13
   refine CM_condF rfl g14 ?_
   refine CM_exit (QM_then_exit (QM_then_exit ?_))
   have hE44 : R2 (x0.length - 0) 0 (IntKind.i64.wrap (x1 - ((x0.length : Nat) : Int))) = Sum.inr s9 := rng_end hl13 hF11
   refine QM_block_hit (QM_then (sr (wm (wa (nt' (CM_ret ?_))))))
   exact rti (h := cond_f g7 (fin_inr hE44 (rfl)))

def laws_szCharge_m (x0 : DCharge) (x1 : Int) : Int :=
 cond (decide ((laws_szIntS_m x0.Ids x1) < 0)) (-1) (cond (decide ((laws_szIntS_m x0.Tenants (laws_szIntS_m x0.Ids x1)) < 0)) (-1) (cond (decide ((laws_szIntS_m x0.Rows (laws_szIntS_m x0.Tenants (laws_szIntS_m x0.Ids x1))) < 0)) (-1) (laws_szIntS_m x0.Rows (laws_szIntS_m x0.Tenants (laws_szIntS_m x0.Ids x1)))))
theorem cb158 : Cb Tryz.prog 158 := ⟨f158, _, func158, rfl, by decide⟩
theorem laws_szCharge_c (w : World) (z0 : List Value) (x0 : DCharge) (x1 : Int) (r_0 : tyLCharge.rd w w.heap.size z0 x0) :
  Calls Tryz.prog 158 #[.agg z0.toArray, .int .i64 x1] w fun e w' => e = .returned (.int .i64 (laws_szCharge_m x0 x1)) ∧ Below w.heap.size w w' := by
 obtain ⟨v1, v3, v5, rfl, r2, r4, r6⟩ := tyLCharge_rd r_0
 obtain ⟨m7, A8, c9, rfl, q10, r11⟩ := rdS_op r2
 obtain ⟨m12, A13, c14, rfl, q15, r16⟩ := rdS_op r4
 obtain ⟨m17, A18, c19, rfl, q20, r21⟩ := rdS_op r6
 refine ce2 (L := [(0, .agg #[.int .i64 x0.Segment, .int .i64 x0.Base, .slice A8 x0.Ids.length c9, .slice A13 x0.Tenants.length c14, .slice A18 x0.Rows.length c19]), (1, .int .i64 x1)]) (N := 24) func158 ?_
 refine sr ?_
 refine WM_box rfl (Wd_none rfl) (by decide) (fun p22 => ?_)
 refine wa (nt' (sr ?_))
 refine wv (vf underlying176 rfl type25) ?_
 refine wv (vl 0 2 underlying25) ?_
 refine wm ?_
 refine wcv (cl_fn cb77 rfl) (fun W hm => laws_szIntS_c W _ x0.Ids x1 (hm.rdS0 r11)) ?_
 refine wa (nt' (CM_seq (sr (wm ?_))))
 refine wv vlss ?_
 refine nt' ?_
 by_cases h23 : (laws_szIntS_m x0.Ids x1) < 0
 ·have g24 := decide_eq_true h23
  refine CM_condT rfl g24 ?_
  refine sr (wa (nt' (CM_ret (QM_then_ret ?_))))
  exact rti (h := cond_t g24 (rfl))
 ·have g24 := decide_eq_false h23
  refine CM_condF rfl g24 ?_
  refine CM_skip (QM_then (sr ?_))
  refine wv (vf underlying176 rfl type25) ?_
  refine wv (vl 0 3 underlying25) ?_
  refine wm ?_
  refine wcv (cl_fn cb77 rfl) (fun W hm => laws_szIntS_c W _ x0.Tenants (laws_szIntS_m x0.Ids x1) (hm.rdS0 r16)) ?_
  refine wa (nt' (CM_seq (sr (wm ?_))))
  refine wv vlss ?_
  refine nt' ?_
  by_cases h25 : (laws_szIntS_m x0.Tenants (laws_szIntS_m x0.Ids x1)) < 0
  ·have g26 := decide_eq_true h25
   refine CM_condT rfl g26 ?_
   refine sr (wa (nt' (CM_ret (QM_then_ret ?_))))
   exact rti (h := cond_f g24 (cond_t g26 (rfl)))
  ·have g26 := decide_eq_false h25
   refine CM_condF rfl g26 ?_
   refine CM_skip (QM_then (sr ?_))
   refine wv (vf underlying176 rfl type25) ?_
   refine wv (vl 0 4 underlying25) ?_
   refine wm ?_
   refine wcv (cl_fn cb77 rfl) (fun W hm => laws_szIntS_c W _ x0.Rows (laws_szIntS_m x0.Tenants (laws_szIntS_m x0.Ids x1)) (hm.rdS0 r21)) ?_
   refine wa (nt' (CM_seq (sr (wm ?_))))
   refine wv vlss ?_
   refine nt' ?_
   by_cases h27 : (laws_szIntS_m x0.Rows (laws_szIntS_m x0.Tenants (laws_szIntS_m x0.Ids x1))) < 0
   ·have g28 := decide_eq_true h27
    refine CM_condT rfl g28 ?_
    refine sr (wa (nt' (CM_ret (QM_then_ret ?_))))
    exact rti (h := cond_f g24 (cond_f g26 (cond_t g28 (rfl))))
   ·have g28 := decide_eq_false h27
    refine CM_condF rfl g28 ?_
    refine CM_skip (QM_then (sr (wm (wa (nt' (CM_ret ?_))))))
    exact rti (h := cond_f g24 (cond_f g26 (cond_f g28 (rfl))))

def laws_szChargeS_b1 (x0 : (List DCharge)) (k8 : Nat) (s9 : Int) : Int ⊕ (Int) :=
 cond (decide ((laws_szCharge_m (gt x0 k8) s9) < 0)) (Sum.inl (-1)) (Sum.inr (laws_szCharge_m (gt x0 k8) s9))
def laws_szChargeS_m (x0 : (List DCharge)) (x1 : Int) : Int :=
 cond (decide ((IntKind.i64.wrap (x1 - ((x0.length : Nat) : Int))) < 0)) (-1) (Sum.elim id (fun (s : Int) => s) (rng (R := Int) (fun k (s : Int) => laws_szChargeS_b1 x0 k s) (x0.length - 0) 0 (IntKind.i64.wrap (x1 - ((x0.length : Nat) : Int)))))
theorem cb80 : Cb Tryz.prog 80 := ⟨f80, _, func80, rfl, by decide⟩
theorem laws_szChargeS_c (w : World) (z0 : Value) (x0 : (List DCharge)) (x1 : Int) (r_0 : rdS tyLCharge w w.heap.size z0 x0) :
  Calls Tryz.prog 80 #[z0, .int .i64 x1] w fun e w' => e = .returned (.int .i64 (laws_szChargeS_m x0 x1)) ∧ Below w.heap.size w w' := by
 obtain ⟨m1, A2, c3, rfl, q4, r5⟩ := rdS_op r_0
 refine ce2 (L := [(0, .slice A2 x0.length c3), (1, .int .i64 x1)]) (N := 27) func80 ?_
 refine sr (wa (nt' (sr (wm (wm ?_)))))
 refine wv (vlen underlying28) ?_
 refine wv (fun W hm => rv_sub rfl rfl) ?_
 refine wa (nt' (CM_seq (sr (wm ?_))))
 refine wv vlss ?_
 refine nt' ?_
 by_cases h6 : (IntKind.i64.wrap (x1 - ((x0.length : Nat) : Int))) < 0
 ·have g7 := decide_eq_true h6
  refine CM_condT rfl g7 ?_
  refine sr (wa (nt' (CM_ret (QM_then_ret ?_))))
  exact rti (h := cond_t g7 (rfl))
 ·have g7 := decide_eq_false h6
  refine CM_condF rfl g7 ?_
  refine CM_skip (QM_then (CM_seq (sr (wa (nt' (CM_block ?_))))))
  let F1 := fun k (s : Int) => laws_szChargeS_b1 x0 k s
  let R2 := rng (R := Int) F1
  refine CM_loop (σ := Nat × (Int) × (Unit)) (fun s => [(0, .slice A2 x0.length c3), (1, .int .i64 s.2.1), (5, .int .i64 ((s.1 : Nat) : Int))]) (fun s => []) (fun s => s.1 ≤ x0.length ∧ R2 (x0.length - s.1) s.1 s.2.1 = R2 (x0.length - 0) 0 (IntKind.i64.wrap (x1 - ((x0.length : Nat) : Int)))) (fun s => x0.length - s.1) (0, (IntKind.i64.wrap (x1 - ((x0.length : Nat) : Int))), ()) sl3 (fun W hm => hm) ⟨(by omega), rfl⟩ ?_
  rintro ⟨k8, s9, ⟨⟩⟩ H12
  obtain ⟨hk10, hF11⟩ : k8 ≤ x0.length ∧ R2 (x0.length - k8) k8 s9 = R2 (x0.length - 0) 0 (IntKind.i64.wrap (x1 - ((x0.length : Nat) : Int))) := H12
  show CM Tryz.prog 27 _ _ _ _ [(0, .slice A2 x0.length c3), (1, .int .i64 s9), (5, .int .i64 ((k8 : Nat) : Int))] []
  refine CM_seq (sr (wm (wm ?_)))
  refine wv (vlen underlying28) ?_
  refine wv vlss ?_
  refine nt' ?_
  by_cases hl13 : k8 < x0.length
  ·have g14 := dlT hl13
   refine CM_condT rfl g14 ?_
   refine CM_skip (QM_then (CM_seq (CM_block (sr (wm (wm ?_))))))
   obtain ⟨a15, rfl, hb16, he17⟩ := q4 (by omega)
   refine wv (vix 5 k8 underlying28 type176) ?_
   obtain ⟨_, e25, hc18⟩ := he17 k8 _ (gt_some (show k8 < x0.length from by omega))
   obtain ⟨v19, v21, v23, rfl, r20, r22, r24⟩ := tyLCharge_rd e25
   obtain ⟨m26, A27, c28, rfl, q29, r30⟩ := rdS_op r20
   obtain ⟨m31, A32, c33, rfl, q34, r35⟩ := rdS_op r22
   obtain ⟨m36, A37, c38, rfl, q39, r40⟩ := rdS_op r24
   refine wv (fun W hm => rv_loadN (cs := [.int .i64 ((gt x0 k8).Segment), .int .i64 ((gt x0 k8).Base), .slice A27 ((gt x0 k8).Ids).length c28, .slice A32 ((gt x0 k8).Tenants).length c33, .slice A37 ((gt x0 k8).Rows).length c38]) underlying176 type176 rfl rfl (hm.elCells (show (a15.add (k8 * 5)).block < w.heap.size from by rw [add_block]; exact hb16.1) hc18)) ?_
   refine wm ?_
   refine wcv (cl_fn cb158 rfl) (fun W hm => laws_szCharge_c W _ (gt x0 k8) s9 (tyLCharge_mk (x := (gt x0 k8)) (hm.rdS0 r30) (hm.rdS0 r35) (hm.rdS0 r40))) ?_
   refine wa (nt' (sr (wm ?_)))
   refine wv vlss ?_
   refine nt' ?_
   by_cases h41 : (laws_szCharge_m (gt x0 k8) s9) < 0
   ·have g42 := decide_eq_true h41
    refine CM_condT rfl g42 ?_
    refine sr (wa (nt' (CM_ret (QM_block_ret (QM_then_ret (QM_then_ret (QM_block_ret (QM_then_ret ?_))))))))
    exact rti (h := cond_f g7 (fin_inl (rng_ret (body := F1) (k := k8) (s := s9) (show k8 < x0.length from by omega) (cond_t g42 (rfl)) hF11) rfl))
   ·have g42 := decide_eq_false h41
    refine CM_condF rfl g42 ?_
    refine CM_skip (QM_block_normal (QM_then (CM_region (wm ?_))))
    refine wv (vadN k8 1 (by omega)) ?_
    refine wa (WM_nil ?_)
    have hn43 := rng_next (R := Int) (body := F1) (k := k8) (s := s9) (s' := (laws_szCharge_m (gt x0 k8) s9)) (show k8 < x0.length from by omega) (cond_f g42 (rfl)) hF11
    exact QM_round (k8 + 1, (laws_szCharge_m (gt x0 k8) s9), ()) sl3 (fun W hm => hm) ⟨(by omega), hn43⟩ (rl (by omega))
  ·have g14 := dlF hl13
   refine CM_condF rfl g14 ?_
   refine CM_exit (QM_then_exit (QM_then_exit ?_))
   have hE44 : R2 (x0.length - 0) 0 (IntKind.i64.wrap (x1 - ((x0.length : Nat) : Int))) = Sum.inr s9 := rng_end hl13 hF11
   refine QM_block_hit (QM_then (sr (wm (wa (nt' (CM_ret ?_))))))
   exact rti (h := cond_f g7 (fin_inr hE44 (rfl)))

def laws_szEngine_m (x0 : DEngine) (x1 : Int) : Int :=
 cond (decide ((laws_szStore_m x0.Store x1) < 0)) (-1) (cond (decide ((laws_szIntS_m x0.Order (laws_szStore_m x0.Store x1)) < 0)) (-1) (cond (decide ((laws_szActiveS_m x0.Active (laws_szIntS_m x0.Order (laws_szStore_m x0.Store x1))) < 0)) (-1) (cond (decide ((laws_szFinishedS_m x0.Done (laws_szActiveS_m x0.Active (laws_szIntS_m x0.Order (laws_szStore_m x0.Store x1)))) < 0)) (-1) (cond (decide ((laws_szChargeS_m x0.Ledger (laws_szFinishedS_m x0.Done (laws_szActiveS_m x0.Active (laws_szIntS_m x0.Order (laws_szStore_m x0.Store x1))))) < 0)) (-1) (laws_szChargeS_m x0.Ledger (laws_szFinishedS_m x0.Done (laws_szActiveS_m x0.Active (laws_szIntS_m x0.Order (laws_szStore_m x0.Store x1)))))))))
theorem cb14 : Cb Tryz.prog 14 := ⟨f14, _, func14, rfl, by decide⟩
theorem laws_szEngine_c (w : World) (z0 : List Value) (x0 : DEngine) (x1 : Int) (r_0 : tyLEngine.rd w w.heap.size z0 x0) :
  Calls Tryz.prog 14 #[.agg z0.toArray, .int .i64 x1] w fun e w' => e = .returned (.int .i64 (laws_szEngine_m x0 x1)) ∧ Below w.heap.size w w' := by
 obtain ⟨v1, v3, v5, v7, v9, rfl, r2, r4, r6, r8, r10⟩ := tyLEngine_rd r_0
 obtain ⟨m11, A12, c13, rfl, q14, r15⟩ := rdS_op r2
 obtain ⟨m16, A17, c18, rfl, q19, r20⟩ := rdS_op r4
 obtain ⟨m21, A22, c23, rfl, q24, r25⟩ := rdS_op r6
 obtain ⟨m26, A27, c28, rfl, q29, r30⟩ := rdS_op r8
 obtain ⟨m31, A32, c33, rfl, q34, r35⟩ := rdS_op r10
 refine ce2 (L := [(0, .agg #[.slice A12 x0.Store.Segments.length c13, .int .i64 x0.Store.Now, .int .i64 x0.Cursor, .slice A17 x0.Order.length c18, .slice A22 x0.Active.length c23, .slice A27 x0.Done.length c28, .slice A32 x0.Ledger.length c33, .int .i64 x0.Steps]), (1, .int .i64 x1)]) (N := 36) func14 ?_
 refine sr ?_
 refine WM_box rfl (Wd_none rfl) (by decide) (fun p36 => ?_)
 refine wa (nt' (sr ?_))
 refine wv (vf underlying30 rfl type24) ?_
 refine wv (fun W hm => rv_loadN (cs := [.slice A12 x0.Store.Segments.length c13, .int .i64 x0.Store.Now]) underlying24 type24 rfl rfl (hm.boxPart (n := 0) rfl rfl)) ?_
 refine wm ?_
 refine wcv (cl_fn cb76 rfl) (fun W hm => laws_szStore_c W _ x0.Store x1 (tyLStore_mk (x := x0.Store) (hm.rdS0 r15))) ?_
 refine wa (nt' (CM_seq (sr (wm ?_))))
 refine wv vlss ?_
 refine nt' ?_
 by_cases h37 : (laws_szStore_m x0.Store x1) < 0
 ·have g38 := decide_eq_true h37
  refine CM_condT rfl g38 ?_
  refine sr (wa (nt' (CM_ret (QM_then_ret ?_))))
  exact rti (h := cond_t g38 (rfl))
 ·have g38 := decide_eq_false h37
  refine CM_condF rfl g38 ?_
  refine CM_skip (QM_then (sr ?_))
  refine wv (vf underlying30 rfl type25) ?_
  refine wv (vl 0 3 underlying25) ?_
  refine wm ?_
  refine wcv (cl_fn cb77 rfl) (fun W hm => laws_szIntS_c W _ x0.Order (laws_szStore_m x0.Store x1) (hm.rdS0 r20)) ?_
  refine wa (nt' (CM_seq (sr (wm ?_))))
  refine wv vlss ?_
  refine nt' ?_
  by_cases h39 : (laws_szIntS_m x0.Order (laws_szStore_m x0.Store x1)) < 0
  ·have g40 := decide_eq_true h39
   refine CM_condT rfl g40 ?_
   refine sr (wa (nt' (CM_ret (QM_then_ret ?_))))
   exact rti (h := cond_f g38 (cond_t g40 (rfl)))
  ·have g40 := decide_eq_false h39
   refine CM_condF rfl g40 ?_
   refine CM_skip (QM_then (sr ?_))
   refine wv (vf underlying30 rfl type26) ?_
   refine wv (vl 0 4 underlying26) ?_
   refine wm ?_
   refine wcv (cl_fn cb78 rfl) (fun W hm => laws_szActiveS_c W _ x0.Active (laws_szIntS_m x0.Order (laws_szStore_m x0.Store x1)) (hm.rdS0 r25)) ?_
   refine wa (nt' (CM_seq (sr (wm ?_))))
   refine wv vlss ?_
   refine nt' ?_
   by_cases h41 : (laws_szActiveS_m x0.Active (laws_szIntS_m x0.Order (laws_szStore_m x0.Store x1))) < 0
   ·have g42 := decide_eq_true h41
    refine CM_condT rfl g42 ?_
    refine sr (wa (nt' (CM_ret (QM_then_ret ?_))))
    exact rti (h := cond_f g38 (cond_f g40 (cond_t g42 (rfl))))
   ·have g42 := decide_eq_false h41
    refine CM_condF rfl g42 ?_
    refine CM_skip (QM_then (sr ?_))
    refine wv (vf underlying30 rfl type27) ?_
    refine wv (vl 0 5 underlying27) ?_
    refine wm ?_
    refine wcv (cl_fn cb79 rfl) (fun W hm => laws_szFinishedS_c W _ x0.Done (laws_szActiveS_m x0.Active (laws_szIntS_m x0.Order (laws_szStore_m x0.Store x1))) (hm.rdS0 r30)) ?_
    refine wa (nt' (CM_seq (sr (wm ?_))))
    refine wv vlss ?_
    refine nt' ?_
    by_cases h43 : (laws_szFinishedS_m x0.Done (laws_szActiveS_m x0.Active (laws_szIntS_m x0.Order (laws_szStore_m x0.Store x1)))) < 0
    ·have g44 := decide_eq_true h43
     refine CM_condT rfl g44 ?_
     refine sr (wa (nt' (CM_ret (QM_then_ret ?_))))
     exact rti (h := cond_f g38 (cond_f g40 (cond_f g42 (cond_t g44 (rfl)))))
    ·have g44 := decide_eq_false h43
     refine CM_condF rfl g44 ?_
     refine CM_skip (QM_then (sr ?_))
     refine wv (vf underlying30 rfl type28) ?_
     refine wv (vl 0 6 underlying28) ?_
     refine wm ?_
     refine wcv (cl_fn cb80 rfl) (fun W hm => laws_szChargeS_c W _ x0.Ledger (laws_szFinishedS_m x0.Done (laws_szActiveS_m x0.Active (laws_szIntS_m x0.Order (laws_szStore_m x0.Store x1)))) (hm.rdS0 r35)) ?_
     refine wa (nt' (CM_seq (sr (wm ?_))))
     refine wv vlss ?_
     refine nt' ?_
     by_cases h45 : (laws_szChargeS_m x0.Ledger (laws_szFinishedS_m x0.Done (laws_szActiveS_m x0.Active (laws_szIntS_m x0.Order (laws_szStore_m x0.Store x1))))) < 0
     ·have g46 := decide_eq_true h45
      refine CM_condT rfl g46 ?_
      refine sr (wa (nt' (CM_ret (QM_then_ret ?_))))
      exact rti (h := cond_f g38 (cond_f g40 (cond_f g42 (cond_f g44 (cond_t g46 (rfl))))))
     ·have g46 := decide_eq_false h45
      refine CM_condF rfl g46 ?_
      refine CM_skip (QM_then (sr (wm (wa (nt' (CM_ret ?_))))))
      exact rti (h := cond_f g38 (cond_f g40 (cond_f g42 (cond_f g44 (cond_f g46 (rfl))))))

def laws_toIntS_b1 (x0 : (List Int)) (k9 : Nat) (d10 : (List Int)) : (List Int) ⊕ ((List Int)) :=
 Sum.inr (d10.set k9 (gt x0 k9))
def laws_toIntS_m (x0 : (List Int)) : (List Int) :=
 Sum.elim id (fun (s : (List Int)) => s) (rng (R := (List Int)) (fun k (s : (List Int)) => laws_toIntS_b1 x0 k s) (x0.length - 0) 0 (List.replicate x0.length (0 : Int)))
theorem cb48 : Cb Tryz.prog 48 := ⟨f48, _, func48, rfl, by decide⟩
theorem laws_toIntS_c (w : World) (z0 : Value) (x0 : (List Int)) (r_0 : rdS tInt w w.heap.size z0 x0) (s_0 : x0.length ≤ 68719476736) :
  Calls Tryz.prog 48 #[z0] w fun e w' => ∃ v : Value, e = .returned (v) ∧ Mem w.heap.size w [iOwn (tSl tInt 3) [v] (laws_toIntS_m x0)] w' := by
 obtain ⟨m1, A2, c3, rfl, q4, r5⟩ := rdS_op r_0
 have l6 : x0.length ≤ 68719476736 := s_0
 refine ce1 (L := [(0, .slice A2 x0.length c3)]) (N := 22) func48 ?_
 refine sr (wa (nt' (sr (wm ?_))))
 refine wv (vlen underlying25) ?_
 refine WM_make (E := tInt) (n := x0.length) (x0 := (0 : Int)) underlying25 type3 rfl rfl rfl (fun _ => tInt_own) rfl rfl (show x0.length * 8 ≤ 281474976710656 from by omega) (by omega) (Wd_none rfl) (by decide) (fun p7 => ?_)
 refine wa (nt' (CM_seq (sr (wa (nt' (CM_block ?_))))))
 let F1 := fun k (s : (List Int)) => laws_toIntS_b1 x0 k s
 let R2 := rng (R := (List Int)) F1
 refine CM_loop (σ := Nat × ((List Int)) × (Unit)) (fun s => [(0, .slice A2 x0.length c3), (3, .slice (some ⟨p7, 0, none⟩) x0.length x0.length), (4, .int .i64 ((s.1 : Nat) : Int))]) (fun s => [iOwn (tSl tInt 3) [.slice (some ⟨p7, 0, none⟩) x0.length x0.length] s.2.1]) (fun s => s.1 ≤ x0.length ∧ R2 (x0.length - s.1) s.1 s.2.1 = R2 (x0.length - 0) 0 (List.replicate x0.length (0 : Int))) (fun s => x0.length - s.1) (0, (List.replicate x0.length (0 : Int)), ()) sl3 (fun W hm => hm) ⟨(by omega), rfl⟩ ?_
 rintro ⟨k9, d10, ⟨⟩⟩ H13
 obtain ⟨hk11, hF12⟩ : k9 ≤ x0.length ∧ R2 (x0.length - k9) k9 d10 = R2 (x0.length - 0) 0 (List.replicate x0.length (0 : Int)) := H13
 show CM Tryz.prog 22 _ _ _ _ [(0, .slice A2 x0.length c3), (3, .slice (some ⟨p7, 0, none⟩) x0.length x0.length), (4, .int .i64 ((k9 : Nat) : Int))] [iOwn (tSl tInt 3) [.slice (some ⟨p7, 0, none⟩) x0.length x0.length] d10]
 refine CM_seq (sr (wm (wm ?_)))
 refine wv (vlen underlying25) ?_
 refine wv vlss ?_
 refine nt' ?_
 by_cases hl14 : k9 < x0.length
 ·have g15 := dlT hl14
  refine CM_condT rfl g15 ?_
  refine CM_skip (QM_then (CM_seq (CM_block (CM_region (wm (wm (wm (wm ?_))))))))
  obtain ⟨a16, rfl, hb17, he18⟩ := q4 (by omega)
  refine wv (vix 1 k9 underlying25 type3) ?_
  refine wv (fun W hm => rv_load underlying3 rfl rfl ((hm.cell0 (show (a16.add (k9 * 1)).block < w.heap.size from by rw [add_block]; exact hb17.1)).trans (rdS_int he18 k9 (by omega)))) ?_
  refine wv (vix 1 k9 underlying25 type3) ?_
  refine WM_setEl (E := tInt) (e := 3) (u := .int .i64 (gt x0 k9)) (k := k9) (p := p7) (n := x0.length) (xs := d10) (eis := []) (js := []) (yv := (gt x0 k9)) (fun W hm => hm) (fun _ _ hs => (Sep.nil hs ▸ tInt_own)) rfl type3 rfl (by omega) rfl rfl (Wd_none rfl) ?_
  refine WM_nil (QM_block_normal (QM_then (CM_region (wm ?_))))
  refine wv (vadN k9 1 (by omega)) ?_
  refine wa (WM_nil ?_)
  have hn19 := rng_next (R := (List Int)) (body := F1) (k := k9) (s := d10) (s' := (d10.set k9 (gt x0 k9))) (show k9 < x0.length from by omega) (rfl) hF12
  exact QM_round (k9 + 1, (d10.set k9 (gt x0 k9)), ()) sl3 (fun W hm => hm) ⟨(by omega), hn19⟩ (rl (by omega))
 ·have g15 := dlF hl14
  refine CM_condF rfl g15 ?_
  refine CM_exit (QM_then_exit (QM_then_exit ?_))
  have hE20 : R2 (x0.length - 0) 0 (List.replicate x0.length (0 : Int)) = Sum.inr d10 := rng_end hl14 hF12
  refine QM_block_hit (QM_then (sr (wm (wa (nt' (CM_ret ?_))))))
  have he21 := (show laws_toIntS_m x0 = d10 from fin_inr hE20 (rfl))
  refine QM_r1 rfl (RR_tmp rfl) (fun W hm => ⟨.slice (some ⟨p7, 0, none⟩) x0.length x0.length, ?_, ?_⟩)
  ·first | rw [he21] | rfl
  ·rw [he21]; exact hm

def laws_toVersion_m (x0 : DVersion) : DVersion :=
 (⟨x0.Id, (laws_toIntS_m x0.Values), x0.Born, x0.Died⟩ : DVersion)
theorem cb232 : Cb Tryz.prog 232 := ⟨f232, _, func232, rfl, by decide⟩
theorem laws_toVersion_c (w : World) (z0 : List Value) (x0 : DVersion) (r_0 : tyLVersion.rd w w.heap.size z0 x0) (s_0 : smVersion 68719476736 x0) :
  Calls Tryz.prog 232 #[.agg z0.toArray] w fun e w' => ∃ v : List Value, e = .returned (.agg v.toArray) ∧ Mem w.heap.size w [iOwn tyVersion v (laws_toVersion_m x0)] w' := by
 obtain ⟨v1, rfl, r2⟩ := tyLVersion_rd r_0
 obtain ⟨m3, A4, c5, rfl, q6, r7⟩ := rdS_op r2
 have l8 : x0.Values.length ≤ 68719476736 := s_0
 refine ce1 (L := [(0, .agg #[.int .i64 x0.Id, .slice A4 x0.Values.length c5, .int .i64 x0.Born, .int .i64 x0.Died])]) (N := 18) func232 ?_
 refine sr ?_
 refine WM_box rfl (Wd_none rfl) (by decide) (fun p9 => ?_)
 refine WM_alloc type191 rfl (Wd_none rfl) (by decide) (fun p10 => ?_)
 refine nt' (sr ?_)
 refine WM_alloc type191 rfl (Wd_none rfl) (by decide) (fun p11 => ?_)
 refine nt' (sr ?_)
 refine wv (vf underlying239 rfl type3) ?_
 refine wv (vl 2 0 underlying3) ?_
 refine wv (vf underlying191 rfl type3) ?_
 let K1 : List Value := [.int .i64 x0.Id, .slice A4 x0.Values.length c5, .int .i64 x0.Born, .int .i64 x0.Died]
 let I3 : It := iBox p10 191 [.int .i64 0, .slice none 0 0, .int .i64 0, .int .i64 0]
 refine sb 0 [.int .i64 x0.Id, .slice none 0 0, .int .i64 0, .int .i64 0] [I3, iBox p9 239 K1] (fun W hm => hm) type3 ?_
 refine nt' (sr ?_)
 refine wv (vf underlying239 rfl type25) ?_
 refine wv (vl 2 1 underlying25) ?_
 refine wcl (tSl tInt 3) (laws_toIntS_m x0.Values) (cl_fn cb48 rfl) (fun W hm => laws_toIntS_c W _ x0.Values (hm.rdS0 r7) s_0) (fun z12 => ?_)
 refine WM_form (n := 0) rfl ?_
 rintro A13 c14 rfl m15
 refine wv (vf underlying191 rfl type25) ?_
 let I4 : It := iOwn (tSl tInt 3) [.slice A13 (laws_toIntS_m x0.Values).length c14] (laws_toIntS_m x0.Values)
 refine sb 1 [.int .i64 x0.Id, .slice A13 (laws_toIntS_m x0.Values).length c14, .int .i64 0, .int .i64 0] [I4, I3, iBox p9 239 K1] (pk [1, 0, 2, 3]) type25 ?_
 refine nt' (sr ?_)
 refine wv (vf underlying239 rfl type3) ?_
 refine wv (vl 3 2 underlying3) ?_
 refine wv (vf underlying191 rfl type3) ?_
 refine sb 2 [.int .i64 x0.Id, .slice A13 (laws_toIntS_m x0.Values).length c14, .int .i64 x0.Born, .int .i64 0] [I4, I3, iBox p9 239 K1] (fun W hm => hm) type3 ?_
 refine nt' (sr ?_)
 refine wv (vf underlying239 rfl type3) ?_
 refine wv (vl 3 3 underlying3) ?_
 refine wv (vf underlying191 rfl type3) ?_
 let K2 : List Value := [.int .i64 x0.Id, .slice A13 (laws_toIntS_m x0.Values).length c14, .int .i64 x0.Born, .int .i64 x0.Died]
 refine sb 3 K2 [I4, I3, iBox p9 239 K1] (fun W hm => hm) type3 ?_
 refine nt' (sr ?_)
 refine wv (fun W hm => rv_loadN (cs := K2) underlying191 type191 rfl rfl (hm.boxCells (n := 0) rfl)) ?_
 refine sb 0 K2 [iBox p11 191 K2, I4, iBox p9 239 K1] (pk [2, 0, 1, 3]) type191 ?_
 refine nt' (CM_ret ?_)
 have he17 := (show laws_toVersion_m x0 = (⟨x0.Id, (laws_toIntS_m x0.Values), x0.Born, x0.Died⟩ : DVersion) from rfl)
 refine QM_r1 rfl (RR_cell (n := 0) rfl rfl underlying191 type191 rfl) (fun W hm => ⟨K2, ?_, ?_⟩)
 ·first | rw [he17] | rfl
 ·rw [he17]; exact Mem.join (is := [I4]) (js := []) (fun _ _ hs => tyVersion_join (x := (⟨x0.Id, (laws_toIntS_m x0.Values), x0.Born, x0.Died⟩ : DVersion)) hs) (hm.pick [2] (by decide))

def laws_toVersionS_b1 (x0 : (List DVersion)) (k9 : Nat) (d10 : (List DVersion)) : (List DVersion) ⊕ ((List DVersion)) :=
 Sum.inr (d10.set k9 (laws_toVersion_m (gt x0 k9)))
def laws_toVersionS_m (x0 : (List DVersion)) : (List DVersion) :=
 Sum.elim id (fun (s : (List DVersion)) => s) (rng (R := (List DVersion)) (fun k (s : (List DVersion)) => laws_toVersionS_b1 x0 k s) (x0.length - 0) 0 (List.replicate x0.length (⟨(0 : Int), [], (0 : Int), (0 : Int)⟩ : DVersion)))
theorem cb215 : Cb Tryz.prog 215 := ⟨f215, _, func215, rfl, by decide⟩
theorem laws_toVersionS_c (w : World) (z0 : Value) (x0 : (List DVersion)) (r_0 : rdS tyLVersion w w.heap.size z0 x0) (s_0 : (x0.length ≤ 68719476736 ∧ ∀ y ∈ x0, smVersion 68719476736 y)) :
  Calls Tryz.prog 215 #[z0] w fun e w' => ∃ v : Value, e = .returned (v) ∧ Mem w.heap.size w [iOwn (tSl tyVersion 191) [v] (laws_toVersionS_m x0)] w' := by
 obtain ⟨m1, A2, c3, rfl, q4, r5⟩ := rdS_op r_0
 have l6 : x0.length ≤ 68719476736 := s_0.1
 refine ce1 (L := [(0, .slice A2 x0.length c3)]) (N := 23) func215 ?_
 refine sr (wa (nt' (sr (wm ?_))))
 refine wv (vlen underlying219) ?_
 refine WM_make (E := tyVersion) (n := x0.length) (x0 := (⟨(0 : Int), [], (0 : Int), (0 : Int)⟩ : DVersion)) underlying131 type191 rfl rfl rfl (fun _ => ⟨[], [], _, _, rfl, rfl, tInt_own, ⟨[], [], _, _, rfl, rfl, own_nil, ⟨[], [], _, _, rfl, rfl, tInt_own, tInt_own⟩⟩⟩) rfl rfl (show x0.length * 48 ≤ 281474976710656 from by omega) (by omega) (Wd_none rfl) (by decide) (fun p7 => ?_)
 refine wa (nt' (CM_seq (sr (wa (nt' (CM_block ?_))))))
 let F1 := fun k (s : (List DVersion)) => laws_toVersionS_b1 x0 k s
 let R2 := rng (R := (List DVersion)) F1
 refine CM_loop (σ := Nat × ((List DVersion)) × (Unit)) (fun s => [(0, .slice A2 x0.length c3), (3, .slice (some ⟨p7, 0, none⟩) x0.length x0.length), (4, .int .i64 ((s.1 : Nat) : Int))]) (fun s => [iOwn (tSl tyVersion 191) [.slice (some ⟨p7, 0, none⟩) x0.length x0.length] s.2.1]) (fun s => s.1 ≤ x0.length ∧ R2 (x0.length - s.1) s.1 s.2.1 = R2 (x0.length - 0) 0 (List.replicate x0.length (⟨(0 : Int), [], (0 : Int), (0 : Int)⟩ : DVersion))) (fun s => x0.length - s.1) (0, (List.replicate x0.length (⟨(0 : Int), [], (0 : Int), (0 : Int)⟩ : DVersion)), ()) sl3 (fun W hm => hm) ⟨(by omega), rfl⟩ ?_
 rintro ⟨k9, d10, ⟨⟩⟩ H13
 obtain ⟨hk11, hF12⟩ : k9 ≤ x0.length ∧ R2 (x0.length - k9) k9 d10 = R2 (x0.length - 0) 0 (List.replicate x0.length (⟨(0 : Int), [], (0 : Int), (0 : Int)⟩ : DVersion)) := H13
 show CM Tryz.prog 23 _ _ _ _ [(0, .slice A2 x0.length c3), (3, .slice (some ⟨p7, 0, none⟩) x0.length x0.length), (4, .int .i64 ((k9 : Nat) : Int))] [iOwn (tSl tyVersion 191) [.slice (some ⟨p7, 0, none⟩) x0.length x0.length] d10]
 refine CM_seq (sr (wm (wm ?_)))
 refine wv (vlen underlying219) ?_
 refine wv vlss ?_
 refine nt' ?_
 by_cases hl14 : k9 < x0.length
 ·have g15 := dlT hl14
  refine CM_condT rfl g15 ?_
  refine CM_skip (QM_then (CM_seq (CM_block (CM_region (wm (wm (wm (wm ?_))))))))
  obtain ⟨a16, rfl, hb17, he18⟩ := q4 (by omega)
  refine wv (vix 4 k9 underlying219 type239) ?_
  obtain ⟨_, e22, hc19⟩ := he18 k9 _ (gt_some (show k9 < x0.length from by omega))
  obtain ⟨v20, rfl, r21⟩ := tyLVersion_rd e22
  have l23 : ((gt x0 k9).Values).length ≤ 68719476736 := (s_0.2 _ (gt_mem (show k9 < x0.length from by omega)))
  obtain ⟨m24, A25, c26, rfl, q27, r28⟩ := rdS_op r21
  refine wv (fun W hm => rv_loadN (cs := [.int .i64 ((gt x0 k9).Id), .slice A25 ((gt x0 k9).Values).length c26, .int .i64 ((gt x0 k9).Born), .int .i64 ((gt x0 k9).Died)]) underlying239 type239 rfl rfl (hm.elCells (show (a16.add (k9 * 4)).block < w.heap.size from by rw [add_block]; exact hb17.1) hc19)) ?_
  refine wcs tyVersion (laws_toVersion_m (gt x0 k9)) (cl_fn cb232 rfl) (fun W hm => laws_toVersion_c W _ (gt x0 k9) (tyLVersion_mk (x := (gt x0 k9)) (hm.rdS0 r28)) (s_0.2 _ (gt_mem (show k9 < x0.length from by omega)))) (fun z29 => ?_)
  refine tyVersion_sp ?_
  rintro v30 rfl
  refine WM_form (n := 0) rfl ?_
  rintro A31 c32 rfl m33
  refine wv (vix 4 k9 underlying131 type191) ?_
  refine WM_setEl (E := tyVersion) (e := 191) (u := .agg #[.int .i64 ((laws_toVersion_m (gt x0 k9)).Id), .slice A31 ((laws_toVersion_m (gt x0 k9)).Values).length c32, .int .i64 ((laws_toVersion_m (gt x0 k9)).Born), .int .i64 ((laws_toVersion_m (gt x0 k9)).Died)]) (k := k9) (p := p7) (n := x0.length) (xs := d10) (eis := [iOwn (tSl tInt 3) [.slice A31 ((laws_toVersion_m (gt x0 k9)).Values).length c32] ((laws_toVersion_m (gt x0 k9)).Values)]) (js := []) (yv := (laws_toVersion_m (gt x0 k9))) (pk [1, 0]) (fun _ _ hs => (tyVersion_join (x := (laws_toVersion_m (gt x0 k9))) hs)) rfl type191 rfl (by omega) rfl rfl (Wd_none rfl) ?_
  refine WM_nil (QM_block_normal (QM_then (CM_region (wm ?_))))
  refine wv (vadN k9 1 (by omega)) ?_
  refine wa (WM_nil ?_)
  have hn35 := rng_next (R := (List DVersion)) (body := F1) (k := k9) (s := d10) (s' := (d10.set k9 (laws_toVersion_m (gt x0 k9)))) (show k9 < x0.length from by omega) (rfl) hF12
  exact QM_round (k9 + 1, (d10.set k9 (laws_toVersion_m (gt x0 k9))), ()) sl3 (fun W hm => hm) ⟨(by omega), hn35⟩ (rl (by omega))
 ·have g15 := dlF hl14
  refine CM_condF rfl g15 ?_
  refine CM_exit (QM_then_exit (QM_then_exit ?_))
  have hE36 : R2 (x0.length - 0) 0 (List.replicate x0.length (⟨(0 : Int), [], (0 : Int), (0 : Int)⟩ : DVersion)) = Sum.inr d10 := rng_end hl14 hF12
  refine QM_block_hit (QM_then (sr (wm (wa (nt' (CM_ret ?_))))))
  have he37 := (show laws_toVersionS_m x0 = d10 from fin_inr hE36 (rfl))
  refine QM_r1 rfl (RR_tmp rfl) (fun W hm => ⟨.slice (some ⟨p7, 0, none⟩) x0.length x0.length, ?_, ?_⟩)
  ·first | rw [he37] | rfl
  ·rw [he37]; exact hm

def laws_toVersionSS_b1 (x0 : (List (List DVersion))) (k9 : Nat) (d10 : (List (List DVersion))) : (List (List DVersion)) ⊕ ((List (List DVersion))) :=
 Sum.inr (d10.set k9 (laws_toVersionS_m (gt x0 k9)))
def laws_toVersionSS_m (x0 : (List (List DVersion))) : (List (List DVersion)) :=
 Sum.elim id (fun (s : (List (List DVersion))) => s) (rng (R := (List (List DVersion))) (fun k (s : (List (List DVersion))) => laws_toVersionSS_b1 x0 k s) (x0.length - 0) 0 (List.replicate x0.length []))
theorem cb162 : Cb Tryz.prog 162 := ⟨f162, _, func162, rfl, by decide⟩
theorem laws_toVersionSS_c (w : World) (z0 : Value) (x0 : (List (List DVersion))) (r_0 : rdS (tSl tyLVersion 239) w w.heap.size z0 x0) (s_0 : (x0.length ≤ 68719476736 ∧ ∀ y ∈ x0, (y.length ≤ 68719476736 ∧ ∀ y1 ∈ y, smVersion 68719476736 y1))) :
  Calls Tryz.prog 162 #[z0] w fun e w' => ∃ v : Value, e = .returned (v) ∧ Mem w.heap.size w [iOwn (tSl (tSl tyVersion 191) 131) [v] (laws_toVersionSS_m x0)] w' := by
 obtain ⟨m1, A2, c3, rfl, q4, r5⟩ := rdS_op r_0
 have l6 : x0.length ≤ 68719476736 := s_0.1
 refine ce1 (L := [(0, .slice A2 x0.length c3)]) (N := 23) func162 ?_
 refine sr (wa (nt' (sr (wm ?_))))
 refine wv (vlen underlying22) ?_
 refine WM_make (E := (tSl tyVersion 191)) (n := x0.length) (x0 := []) underlying40 type131 rfl rfl rfl (fun _ => own_nil) rfl rfl (show x0.length * 24 ≤ 281474976710656 from by omega) (by omega) (Wd_none rfl) (by decide) (fun p7 => ?_)
 refine wa (nt' (CM_seq (sr (wa (nt' (CM_block ?_))))))
 let F1 := fun k (s : (List (List DVersion))) => laws_toVersionSS_b1 x0 k s
 let R2 := rng (R := (List (List DVersion))) F1
 refine CM_loop (σ := Nat × ((List (List DVersion))) × (Unit)) (fun s => [(0, .slice A2 x0.length c3), (3, .slice (some ⟨p7, 0, none⟩) x0.length x0.length), (4, .int .i64 ((s.1 : Nat) : Int))]) (fun s => [iOwn (tSl (tSl tyVersion 191) 131) [.slice (some ⟨p7, 0, none⟩) x0.length x0.length] s.2.1]) (fun s => s.1 ≤ x0.length ∧ R2 (x0.length - s.1) s.1 s.2.1 = R2 (x0.length - 0) 0 (List.replicate x0.length [])) (fun s => x0.length - s.1) (0, (List.replicate x0.length []), ()) sl3 (fun W hm => hm) ⟨(by omega), rfl⟩ ?_
 rintro ⟨k9, d10, ⟨⟩⟩ H13
 obtain ⟨hk11, hF12⟩ : k9 ≤ x0.length ∧ R2 (x0.length - k9) k9 d10 = R2 (x0.length - 0) 0 (List.replicate x0.length []) := H13
 show CM Tryz.prog 23 _ _ _ _ [(0, .slice A2 x0.length c3), (3, .slice (some ⟨p7, 0, none⟩) x0.length x0.length), (4, .int .i64 ((k9 : Nat) : Int))] [iOwn (tSl (tSl tyVersion 191) 131) [.slice (some ⟨p7, 0, none⟩) x0.length x0.length] d10]
 refine CM_seq (sr (wm (wm ?_)))
 refine wv (vlen underlying22) ?_
 refine wv vlss ?_
 refine nt' ?_
 by_cases hl14 : k9 < x0.length
 ·have g15 := dlT hl14
  refine CM_condT rfl g15 ?_
  refine CM_skip (QM_then (CM_seq (CM_block (CM_region (wm (wm (wm (wm ?_))))))))
  obtain ⟨a16, rfl, hb17, he18⟩ := q4 (by omega)
  refine wv (vix 1 k9 underlying22 type219) ?_
  obtain ⟨_, e20, hc19⟩ := he18 k9 _ (gt_some (show k9 < x0.length from by omega))
  have l21 : (gt x0 k9).length ≤ 68719476736 := (s_0.2 _ (gt_mem (show k9 < x0.length from by omega))).1
  obtain ⟨v22, rfl, r23⟩ := e20
  obtain ⟨m24, A25, c26, rfl, q27, r28⟩ := rdS_op r23
  refine wv (fun W hm => rv_load underlying219 rfl rfl ((hm.cell0 (show (a16.add (k9 * 1)).block < w.heap.size from by rw [add_block]; exact hb17.1)).trans (hc19 0 _ rfl))) ?_
  refine wcl (tSl tyVersion 191) (laws_toVersionS_m (gt x0 k9)) (cl_fn cb215 rfl) (fun W hm => laws_toVersionS_c W _ (gt x0 k9) (hm.rdS0 r28) (s_0.2 _ (gt_mem (show k9 < x0.length from by omega)))) (fun z29 => ?_)
  refine WM_form (n := 0) rfl ?_
  rintro A30 c31 rfl m32
  refine wv (vix 1 k9 underlying40 type131) ?_
  refine WM_setEl (E := (tSl tyVersion 191)) (e := 131) (u := .slice A30 (laws_toVersionS_m (gt x0 k9)).length c31) (k := k9) (p := p7) (n := x0.length) (xs := d10) (eis := [iOwn (tSl tyVersion 191) [.slice A30 (laws_toVersionS_m (gt x0 k9)).length c31] (laws_toVersionS_m (gt x0 k9))]) (js := []) (yv := (laws_toVersionS_m (gt x0 k9))) (pk [1, 0]) (fun _ _ hs => (Sep.one hs)) rfl type131 rfl (by omega) rfl rfl (Wd_none rfl) ?_
  refine WM_nil (QM_block_normal (QM_then (CM_region (wm ?_))))
  refine wv (vadN k9 1 (by omega)) ?_
  refine wa (WM_nil ?_)
  have hn34 := rng_next (R := (List (List DVersion))) (body := F1) (k := k9) (s := d10) (s' := (d10.set k9 (laws_toVersionS_m (gt x0 k9)))) (show k9 < x0.length from by omega) (rfl) hF12
  exact QM_round (k9 + 1, (d10.set k9 (laws_toVersionS_m (gt x0 k9))), ()) sl3 (fun W hm => hm) ⟨(by omega), hn34⟩ (rl (by omega))
 ·have g15 := dlF hl14
  refine CM_condF rfl g15 ?_
  refine CM_exit (QM_then_exit (QM_then_exit ?_))
  have hE35 : R2 (x0.length - 0) 0 (List.replicate x0.length []) = Sum.inr d10 := rng_end hl14 hF12
  refine QM_block_hit (QM_then (sr (wm (wa (nt' (CM_ret ?_))))))
  have he36 := (show laws_toVersionSS_m x0 = d10 from fin_inr hE35 (rfl))
  refine QM_r1 rfl (RR_tmp rfl) (fun W hm => ⟨.slice (some ⟨p7, 0, none⟩) x0.length x0.length, ?_, ?_⟩)
  ·first | rw [he36] | rfl
  ·rw [he36]; exact hm

def laws_toStore_m (x0 : DStore) : DStore :=
 (⟨(laws_toVersionSS_m x0.Segments), x0.Now⟩ : DStore)
theorem cb82 : Cb Tryz.prog 82 := ⟨f82, _, func82, rfl, by decide⟩
theorem laws_toStore_c (w : World) (z0 : List Value) (x0 : DStore) (r_0 : tyLStore.rd w w.heap.size z0 x0) (s_0 : smStore 68719476736 x0) :
  Calls Tryz.prog 82 #[.agg z0.toArray] w fun e w' => ∃ v : List Value, e = .returned (.agg v.toArray) ∧ Mem w.heap.size w [iOwn tyStore v (laws_toStore_m x0)] w' := by
 obtain ⟨v1, rfl, r2⟩ := tyLStore_rd r_0
 obtain ⟨m3, A4, c5, rfl, q6, r7⟩ := rdS_op r2
 have l8 : x0.Segments.length ≤ 68719476736 := s_0.1
 refine ce1 (L := [(0, .agg #[.slice A4 x0.Segments.length c5, .int .i64 x0.Now])]) (N := 12) func82 ?_
 refine sr ?_
 refine WM_box rfl (Wd_none rfl) (by decide) (fun p9 => ?_)
 refine WM_alloc type42 rfl (Wd_none rfl) (by decide) (fun p10 => ?_)
 refine nt' (sr ?_)
 refine WM_alloc type42 rfl (Wd_none rfl) (by decide) (fun p11 => ?_)
 refine nt' (sr ?_)
 refine wv (vf underlying24 rfl type22) ?_
 refine wv (vl 2 0 underlying22) ?_
 refine wcl (tSl (tSl tyVersion 191) 131) (laws_toVersionSS_m x0.Segments) (cl_fn cb162 rfl) (fun W hm => laws_toVersionSS_c W _ x0.Segments (hm.rdS0 r7) s_0) (fun z12 => ?_)
 refine WM_form (n := 0) rfl ?_
 rintro A13 c14 rfl m15
 refine wv (vf underlying42 rfl type40) ?_
 let I2 : It := iOwn (tSl (tSl tyVersion 191) 131) [.slice A13 (laws_toVersionSS_m x0.Segments).length c14] (laws_toVersionSS_m x0.Segments)
 let I3 : It := iBox p9 24 [.slice A4 x0.Segments.length c5, .int .i64 x0.Now]
 refine sb 0 [.slice A13 (laws_toVersionSS_m x0.Segments).length c14, .int .i64 0] [I2, iBox p10 42 [.slice none 0 0, .int .i64 0], I3] (pk [1, 0, 2, 3]) type40 ?_
 refine nt' (sr ?_)
 refine wv (vf underlying24 rfl type3) ?_
 refine wv (vl 3 1 underlying3) ?_
 refine wv (vf underlying42 rfl type3) ?_
 let K1 : List Value := [.slice A13 (laws_toVersionSS_m x0.Segments).length c14, .int .i64 x0.Now]
 refine sb 1 K1 [I2, iBox p10 42 [.slice none 0 0, .int .i64 0], I3] (fun W hm => hm) type3 ?_
 refine nt' (sr ?_)
 refine wv (fun W hm => rv_loadN (cs := K1) underlying42 type42 rfl rfl (hm.boxCells (n := 0) rfl)) ?_
 refine sb 0 K1 [iBox p11 42 K1, I2, I3] (pk [2, 0, 1, 3]) type42 ?_
 refine nt' (CM_ret ?_)
 have he17 := (show laws_toStore_m x0 = (⟨(laws_toVersionSS_m x0.Segments), x0.Now⟩ : DStore) from rfl)
 refine QM_r1 rfl (RR_cell (n := 0) rfl rfl underlying42 type42 rfl) (fun W hm => ⟨K1, ?_, ?_⟩)
 ·first | rw [he17] | rfl
 ·rw [he17]; exact Mem.join (is := [I2]) (js := []) (fun _ _ hs => tyStore_join (x := (⟨(laws_toVersionSS_m x0.Segments), x0.Now⟩ : DStore)) hs) (hm.pick [2] (by decide))

def laws_toCond_m (x0 : DCond) : DCond :=
 x0
theorem cb203 : Cb Tryz.prog 203 := ⟨f203, _, func203, rfl, by decide⟩
theorem laws_toCond_c (w : World) (z0 : List Value) (x0 : DCond) (r_0 : tyLCond.rd w w.heap.size z0 x0) :
  Calls Tryz.prog 203 #[.agg z0.toArray] w fun e w' => ∃ v : List Value, e = .returned (.agg v.toArray) ∧ Mem w.heap.size w [iOwn tyCond v (laws_toCond_m x0)] w' := by
 obtain rfl := tyLCond_rd r_0
 refine ce1 (L := [(0, .agg #[.int .i64 x0.Field, .int .i64 x0.Low, .int .i64 x0.High])]) (N := 14) func203 ?_
 refine sr ?_
 refine WM_box rfl (Wd_none rfl) (by decide) (fun p1 => ?_)
 refine WM_alloc type201 rfl (Wd_none rfl) (by decide) (fun p2 => ?_)
 refine nt' (sr ?_)
 refine WM_alloc type201 rfl (Wd_none rfl) (by decide) (fun p3 => ?_)
 refine nt' (sr ?_)
 refine wv (vf underlying215 rfl type3) ?_
 refine wv (vl 2 0 underlying3) ?_
 refine wv (vf underlying201 rfl type3) ?_
 let I1 : It := iBox p2 201 [.int .i64 0, .int .i64 0, .int .i64 0]
 let I2 : It := iBox p1 215 [.int .i64 x0.Field, .int .i64 x0.Low, .int .i64 x0.High]
 refine sb 0 [.int .i64 x0.Field, .int .i64 0, .int .i64 0] [I1, I2] (fun W hm => hm) type3 ?_
 refine nt' (sr ?_)
 refine wv (vf underlying215 rfl type3) ?_
 refine wv (vl 2 1 underlying3) ?_
 refine wv (vf underlying201 rfl type3) ?_
 refine sb 1 [.int .i64 x0.Field, .int .i64 x0.Low, .int .i64 0] [I1, I2] (fun W hm => hm) type3 ?_
 refine nt' (sr ?_)
 refine wv (vf underlying215 rfl type3) ?_
 refine wv (vl 2 2 underlying3) ?_
 refine wv (vf underlying201 rfl type3) ?_
 refine sb 2 [.int .i64 x0.Field, .int .i64 x0.Low, .int .i64 x0.High] [I1, I2] (fun W hm => hm) type3 ?_
 refine nt' (sr ?_)
 refine wv (fun W hm => rv_loadN (cs := [.int .i64 x0.Field, .int .i64 x0.Low, .int .i64 x0.High]) underlying201 type201 rfl rfl (hm.boxCells (n := 0) rfl)) ?_
 refine sb 0 [.int .i64 x0.Field, .int .i64 x0.Low, .int .i64 x0.High] [iBox p3 201 [.int .i64 x0.Field, .int .i64 x0.Low, .int .i64 x0.High], I2] (pk [1, 0, 2]) type201 ?_
 refine nt' (CM_ret ?_)
 have he4 := (show laws_toCond_m x0 = x0 from rfl)
 refine QM_r1 rfl (RR_cell (n := 0) rfl rfl underlying201 type201 rfl) (fun W hm => ⟨[.int .i64 x0.Field, .int .i64 x0.Low, .int .i64 x0.High], ?_, ?_⟩)
 ·first | rw [he4] | rfl
 ·rw [he4]; exact Mem.join (is := []) (js := []) (fun _ _ hs => tyCond_join (x := x0) hs) (hm.pick [] (by decide))

def laws_toCondS_b1 (x0 : (List DCond)) (k9 : Nat) (d10 : (List DCond)) : (List DCond) ⊕ ((List DCond)) :=
 Sum.inr (d10.set k9 (laws_toCond_m (gt x0 k9)))
def laws_toCondS_m (x0 : (List DCond)) : (List DCond) :=
 Sum.elim id (fun (s : (List DCond)) => s) (rng (R := (List DCond)) (fun k (s : (List DCond)) => laws_toCondS_b1 x0 k s) (x0.length - 0) 0 (List.replicate x0.length (⟨(0 : Int), (0 : Int), (0 : Int)⟩ : DCond)))
theorem cb144 : Cb Tryz.prog 144 := ⟨f144, _, func144, rfl, by decide⟩
theorem laws_toCondS_c (w : World) (z0 : Value) (x0 : (List DCond)) (r_0 : rdS tyLCond w w.heap.size z0 x0) (s_0 : x0.length ≤ 68719476736) :
  Calls Tryz.prog 144 #[z0] w fun e w' => ∃ v : Value, e = .returned (v) ∧ Mem w.heap.size w [iOwn (tSl tyCond 201) [v] (laws_toCondS_m x0)] w' := by
 obtain ⟨m1, A2, c3, rfl, q4, r5⟩ := rdS_op r_0
 have l6 : x0.length ≤ 68719476736 := s_0
 refine ce1 (L := [(0, .slice A2 x0.length c3)]) (N := 23) func144 ?_
 refine sr (wa (nt' (sr (wm ?_))))
 refine wv (vlen underlying85) ?_
 refine WM_make (E := tyCond) (n := x0.length) (x0 := (⟨(0 : Int), (0 : Int), (0 : Int)⟩ : DCond)) underlying32 type201 rfl rfl rfl (fun _ => ⟨[], [], _, _, rfl, rfl, tInt_own, ⟨[], [], _, _, rfl, rfl, tInt_own, tInt_own⟩⟩) rfl rfl (show x0.length * 24 ≤ 281474976710656 from by omega) (by omega) (Wd_none rfl) (by decide) (fun p7 => ?_)
 refine wa (nt' (CM_seq (sr (wa (nt' (CM_block ?_))))))
 let F1 := fun k (s : (List DCond)) => laws_toCondS_b1 x0 k s
 let R2 := rng (R := (List DCond)) F1
 refine CM_loop (σ := Nat × ((List DCond)) × (Unit)) (fun s => [(0, .slice A2 x0.length c3), (3, .slice (some ⟨p7, 0, none⟩) x0.length x0.length), (4, .int .i64 ((s.1 : Nat) : Int))]) (fun s => [iOwn (tSl tyCond 201) [.slice (some ⟨p7, 0, none⟩) x0.length x0.length] s.2.1]) (fun s => s.1 ≤ x0.length ∧ R2 (x0.length - s.1) s.1 s.2.1 = R2 (x0.length - 0) 0 (List.replicate x0.length (⟨(0 : Int), (0 : Int), (0 : Int)⟩ : DCond))) (fun s => x0.length - s.1) (0, (List.replicate x0.length (⟨(0 : Int), (0 : Int), (0 : Int)⟩ : DCond)), ()) sl3 (fun W hm => hm) ⟨(by omega), rfl⟩ ?_
 rintro ⟨k9, d10, ⟨⟩⟩ H13
 obtain ⟨hk11, hF12⟩ : k9 ≤ x0.length ∧ R2 (x0.length - k9) k9 d10 = R2 (x0.length - 0) 0 (List.replicate x0.length (⟨(0 : Int), (0 : Int), (0 : Int)⟩ : DCond)) := H13
 show CM Tryz.prog 23 _ _ _ _ [(0, .slice A2 x0.length c3), (3, .slice (some ⟨p7, 0, none⟩) x0.length x0.length), (4, .int .i64 ((k9 : Nat) : Int))] [iOwn (tSl tyCond 201) [.slice (some ⟨p7, 0, none⟩) x0.length x0.length] d10]
 refine CM_seq (sr (wm (wm ?_)))
 refine wv (vlen underlying85) ?_
 refine wv vlss ?_
 refine nt' ?_
 by_cases hl14 : k9 < x0.length
 ·have g15 := dlT hl14
  refine CM_condT rfl g15 ?_
  refine CM_skip (QM_then (CM_seq (CM_block (CM_region (wm (wm (wm (wm ?_))))))))
  obtain ⟨a16, rfl, hb17, he18⟩ := q4 (by omega)
  refine wv (vix 3 k9 underlying85 type215) ?_
  obtain ⟨_, e20, hc19⟩ := he18 k9 _ (gt_some (show k9 < x0.length from by omega))
  obtain rfl := tyLCond_rd e20
  refine wv (fun W hm => rv_loadN (cs := [.int .i64 ((gt x0 k9).Field), .int .i64 ((gt x0 k9).Low), .int .i64 ((gt x0 k9).High)]) underlying215 type215 rfl rfl (hm.elCells (show (a16.add (k9 * 3)).block < w.heap.size from by rw [add_block]; exact hb17.1) hc19)) ?_
  refine wcs tyCond (laws_toCond_m (gt x0 k9)) (cl_fn cb203 rfl) (fun W hm => laws_toCond_c W _ (gt x0 k9) (tyLCond_mk (x := (gt x0 k9)))) (fun z21 => ?_)
  refine tyCond_sp ?_
  rintro ⟨⟩ rfl
  refine wv (vix 3 k9 underlying32 type201) ?_
  refine WM_setEl (E := tyCond) (e := 201) (u := .agg #[.int .i64 ((laws_toCond_m (gt x0 k9)).Field), .int .i64 ((laws_toCond_m (gt x0 k9)).Low), .int .i64 ((laws_toCond_m (gt x0 k9)).High)]) (k := k9) (p := p7) (n := x0.length) (xs := d10) (eis := []) (js := []) (yv := (laws_toCond_m (gt x0 k9))) (fun W hm => hm) (fun _ _ hs => (tyCond_join (x := (laws_toCond_m (gt x0 k9))) hs)) rfl type201 rfl (by omega) rfl rfl (Wd_none rfl) ?_
  refine WM_nil (QM_block_normal (QM_then (CM_region (wm ?_))))
  refine wv (vadN k9 1 (by omega)) ?_
  refine wa (WM_nil ?_)
  have hn22 := rng_next (R := (List DCond)) (body := F1) (k := k9) (s := d10) (s' := (d10.set k9 (laws_toCond_m (gt x0 k9)))) (show k9 < x0.length from by omega) (rfl) hF12
  exact QM_round (k9 + 1, (d10.set k9 (laws_toCond_m (gt x0 k9))), ()) sl3 (fun W hm => hm) ⟨(by omega), hn22⟩ (rl (by omega))
 ·have g15 := dlF hl14
  refine CM_condF rfl g15 ?_
  refine CM_exit (QM_then_exit (QM_then_exit ?_))
  have hE23 : R2 (x0.length - 0) 0 (List.replicate x0.length (⟨(0 : Int), (0 : Int), (0 : Int)⟩ : DCond)) = Sum.inr d10 := rng_end hl14 hF12
  refine QM_block_hit (QM_then (sr (wm (wa (nt' (CM_ret ?_))))))
  have he24 := (show laws_toCondS_m x0 = d10 from fin_inr hE23 (rfl))
  refine QM_r1 rfl (RR_tmp rfl) (fun W hm => ⟨.slice (some ⟨p7, 0, none⟩) x0.length x0.length, ?_, ?_⟩)
  ·first | rw [he24] | rfl
  ·rw [he24]; exact hm

def laws_toQuery_m (x0 : DQuery) : DQuery :=
 (⟨x0.Id, x0.Tenant, (laws_toCondS_m x0.Conds), (laws_toIntS_m x0.Out)⟩ : DQuery)
theorem cb53 : Cb Tryz.prog 53 := ⟨f53, _, func53, rfl, by decide⟩
theorem laws_toQuery_c (w : World) (z0 : List Value) (x0 : DQuery) (r_0 : tyLQuery.rd w w.heap.size z0 x0) (s_0 : smQuery 68719476736 x0) :
  Calls Tryz.prog 53 #[.agg z0.toArray] w fun e w' => ∃ v : List Value, e = .returned (.agg v.toArray) ∧ Mem w.heap.size w [iOwn tyQuery v (laws_toQuery_m x0)] w' := by
 obtain ⟨v1, v3, rfl, r2, r4⟩ := tyLQuery_rd r_0
 obtain ⟨m5, A6, c7, rfl, q8, r9⟩ := rdS_op r2
 obtain ⟨m10, A11, c12, rfl, q13, r14⟩ := rdS_op r4
 have l15 : x0.Conds.length ≤ 68719476736 := s_0.1
 have l16 : x0.Out.length ≤ 68719476736 := s_0.2
 refine ce1 (L := [(0, .agg #[.int .i64 x0.Id, .int .i64 x0.Tenant, .slice A6 x0.Conds.length c7, .slice A11 x0.Out.length c12])]) (N := 19) func53 ?_
 refine sr ?_
 refine WM_box rfl (Wd_none rfl) (by decide) (fun p17 => ?_)
 refine WM_alloc type34 rfl (Wd_none rfl) (by decide) (fun p18 => ?_)
 refine nt' (sr ?_)
 refine WM_alloc type34 rfl (Wd_none rfl) (by decide) (fun p19 => ?_)
 refine nt' (sr ?_)
 refine wv (vf underlying87 rfl type3) ?_
 refine wv (vl 2 0 underlying3) ?_
 refine wv (vf underlying34 rfl type3) ?_
 let K1 : List Value := [.int .i64 0, .int .i64 0, .slice none 0 0, .slice none 0 0]
 let K2 : List Value := [.int .i64 x0.Id, .int .i64 x0.Tenant, .slice A6 x0.Conds.length c7, .slice A11 x0.Out.length c12]
 refine sb 0 [.int .i64 x0.Id, .int .i64 0, .slice none 0 0, .slice none 0 0] [iBox p18 34 K1, iBox p17 87 K2] (fun W hm => hm) type3 ?_
 refine nt' (sr ?_)
 refine wv (vf underlying87 rfl type3) ?_
 refine wv (vl 2 1 underlying3) ?_
 refine wv (vf underlying34 rfl type3) ?_
 refine sb 1 [.int .i64 x0.Id, .int .i64 x0.Tenant, .slice none 0 0, .slice none 0 0] [iBox p18 34 K1, iBox p17 87 K2] (fun W hm => hm) type3 ?_
 refine nt' (sr ?_)
 refine wv (vf underlying87 rfl type85) ?_
 refine wv (vl 2 2 underlying85) ?_
 refine wcl (tSl tyCond 201) (laws_toCondS_m x0.Conds) (cl_fn cb144 rfl) (fun W hm => laws_toCondS_c W _ x0.Conds (hm.rdS0 r9) s_0.1) (fun z20 => ?_)
 refine WM_form (n := 0) rfl ?_
 rintro A21 c22 rfl m23
 refine wv (vf underlying34 rfl type32) ?_
 let I4 : It := iOwn (tSl tyCond 201) [.slice A21 (laws_toCondS_m x0.Conds).length c22] (laws_toCondS_m x0.Conds)
 refine sb 2 [.int .i64 x0.Id, .int .i64 x0.Tenant, .slice A21 (laws_toCondS_m x0.Conds).length c22, .slice none 0 0] [I4, iBox p18 34 K1, iBox p17 87 K2] (pk [1, 0, 2, 3]) type32 ?_
 refine nt' (sr ?_)
 refine wv (vf underlying87 rfl type25) ?_
 refine wv (vl 3 3 underlying25) ?_
 refine wcl (tSl tInt 3) (laws_toIntS_m x0.Out) (cl_fn cb48 rfl) (fun W hm => laws_toIntS_c W _ x0.Out (hm.rdS0 r14) s_0.2) (fun z25 => ?_)
 refine WM_form (n := 0) rfl ?_
 rintro A26 c27 rfl m28
 refine wv (vf underlying34 rfl type25) ?_
 let K3 : List Value := [.int .i64 x0.Id, .int .i64 x0.Tenant, .slice A21 (laws_toCondS_m x0.Conds).length c22, .slice A26 (laws_toIntS_m x0.Out).length c27]
 let I5 : It := iOwn (tSl tInt 3) [.slice A26 (laws_toIntS_m x0.Out).length c27] (laws_toIntS_m x0.Out)
 refine sb 3 K3 [I5, I4, iBox p18 34 K1, iBox p17 87 K2] (pk [1, 0, 2, 3, 4]) type25 ?_
 refine nt' (sr ?_)
 refine wv (fun W hm => rv_loadN (cs := K3) underlying34 type34 rfl rfl (hm.boxCells (n := 0) rfl)) ?_
 refine sb 0 K3 [iBox p19 34 K3, I5, I4, iBox p17 87 K2] (pk [3, 0, 1, 2, 4]) type34 ?_
 refine nt' (CM_ret ?_)
 have he30 := (show laws_toQuery_m x0 = (⟨x0.Id, x0.Tenant, (laws_toCondS_m x0.Conds), (laws_toIntS_m x0.Out)⟩ : DQuery) from rfl)
 refine QM_r1 rfl (RR_cell (n := 0) rfl rfl underlying34 type34 rfl) (fun W hm => ⟨K3, ?_, ?_⟩)
 ·first | rw [he30] | rfl
 ·rw [he30]; exact Mem.join (is := [I4, I5]) (js := []) (fun _ _ hs => tyQuery_join (x := (⟨x0.Id, x0.Tenant, (laws_toCondS_m x0.Conds), (laws_toIntS_m x0.Out)⟩ : DQuery)) hs) (hm.pick [3, 2] (by decide))

def laws_toRow_m (x0 : DRow) : DRow :=
 (⟨x0.Id, (laws_toIntS_m x0.Values)⟩ : DRow)
theorem cb148 : Cb Tryz.prog 148 := ⟨f148, _, func148, rfl, by decide⟩
theorem laws_toRow_c (w : World) (z0 : List Value) (x0 : DRow) (r_0 : tyLRow.rd w w.heap.size z0 x0) (s_0 : smRow 68719476736 x0) :
  Calls Tryz.prog 148 #[.agg z0.toArray] w fun e w' => ∃ v : List Value, e = .returned (.agg v.toArray) ∧ Mem w.heap.size w [iOwn tyRow v (laws_toRow_m x0)] w' := by
 obtain ⟨v1, rfl, r2⟩ := tyLRow_rd r_0
 obtain ⟨m3, A4, c5, rfl, q6, r7⟩ := rdS_op r2
 have l8 : x0.Values.length ≤ 68719476736 := s_0
 refine ce1 (L := [(0, .agg #[.int .i64 x0.Id, .slice A4 x0.Values.length c5])]) (N := 12) func148 ?_
 refine sr ?_
 refine WM_box rfl (Wd_none rfl) (by decide) (fun p9 => ?_)
 refine WM_alloc type73 rfl (Wd_none rfl) (by decide) (fun p10 => ?_)
 refine nt' (sr ?_)
 refine WM_alloc type73 rfl (Wd_none rfl) (by decide) (fun p11 => ?_)
 refine nt' (sr ?_)
 refine wv (vf underlying93 rfl type3) ?_
 refine wv (vl 2 0 underlying3) ?_
 refine wv (vf underlying73 rfl type3) ?_
 let I2 : It := iBox p9 93 [.int .i64 x0.Id, .slice A4 x0.Values.length c5]
 refine sb 0 [.int .i64 x0.Id, .slice none 0 0] [iBox p10 73 [.int .i64 0, .slice none 0 0], I2] (fun W hm => hm) type3 ?_
 refine nt' (sr ?_)
 refine wv (vf underlying93 rfl type25) ?_
 refine wv (vl 2 1 underlying25) ?_
 refine wcl (tSl tInt 3) (laws_toIntS_m x0.Values) (cl_fn cb48 rfl) (fun W hm => laws_toIntS_c W _ x0.Values (hm.rdS0 r7) s_0) (fun z12 => ?_)
 refine WM_form (n := 0) rfl ?_
 rintro A13 c14 rfl m15
 refine wv (vf underlying73 rfl type25) ?_
 let K1 : List Value := [.int .i64 x0.Id, .slice A13 (laws_toIntS_m x0.Values).length c14]
 let I3 : It := iOwn (tSl tInt 3) [.slice A13 (laws_toIntS_m x0.Values).length c14] (laws_toIntS_m x0.Values)
 refine sb 1 K1 [I3, iBox p10 73 [.int .i64 0, .slice none 0 0], I2] (pk [1, 0, 2, 3]) type25 ?_
 refine nt' (sr ?_)
 refine wv (fun W hm => rv_loadN (cs := K1) underlying73 type73 rfl rfl (hm.boxCells (n := 0) rfl)) ?_
 refine sb 0 K1 [iBox p11 73 K1, I3, I2] (pk [2, 0, 1, 3]) type73 ?_
 refine nt' (CM_ret ?_)
 have he17 := (show laws_toRow_m x0 = (⟨x0.Id, (laws_toIntS_m x0.Values)⟩ : DRow) from rfl)
 refine QM_r1 rfl (RR_cell (n := 0) rfl rfl underlying73 type73 rfl) (fun W hm => ⟨K1, ?_, ?_⟩)
 ·first | rw [he17] | rfl
 ·rw [he17]; exact Mem.join (is := [I3]) (js := []) (fun _ _ hs => tyRow_join (x := (⟨x0.Id, (laws_toIntS_m x0.Values)⟩ : DRow)) hs) (hm.pick [2] (by decide))

def laws_toRowS_b1 (x0 : (List DRow)) (k9 : Nat) (d10 : (List DRow)) : (List DRow) ⊕ ((List DRow)) :=
 Sum.inr (d10.set k9 (laws_toRow_m (gt x0 k9)))
def laws_toRowS_m (x0 : (List DRow)) : (List DRow) :=
 Sum.elim id (fun (s : (List DRow)) => s) (rng (R := (List DRow)) (fun k (s : (List DRow)) => laws_toRowS_b1 x0 k s) (x0.length - 0) 0 (List.replicate x0.length (⟨(0 : Int), []⟩ : DRow)))
theorem cb216 : Cb Tryz.prog 216 := ⟨f216, _, func216, rfl, by decide⟩
theorem laws_toRowS_c (w : World) (z0 : Value) (x0 : (List DRow)) (r_0 : rdS tyLRow w w.heap.size z0 x0) (s_0 : (x0.length ≤ 68719476736 ∧ ∀ y ∈ x0, smRow 68719476736 y)) :
  Calls Tryz.prog 216 #[z0] w fun e w' => ∃ v : Value, e = .returned (v) ∧ Mem w.heap.size w [iOwn (tSl tyRow 73) [v] (laws_toRowS_m x0)] w' := by
 obtain ⟨m1, A2, c3, rfl, q4, r5⟩ := rdS_op r_0
 have l6 : x0.length ≤ 68719476736 := s_0.1
 refine ce1 (L := [(0, .slice A2 x0.length c3)]) (N := 23) func216 ?_
 refine sr (wa (nt' (sr (wm ?_))))
 refine wv (vlen underlying169) ?_
 refine WM_make (E := tyRow) (n := x0.length) (x0 := (⟨(0 : Int), []⟩ : DRow)) underlying35 type73 rfl rfl rfl (fun _ => ⟨[], [], _, _, rfl, rfl, tInt_own, own_nil⟩) rfl rfl (show x0.length * 32 ≤ 281474976710656 from by omega) (by omega) (Wd_none rfl) (by decide) (fun p7 => ?_)
 refine wa (nt' (CM_seq (sr (wa (nt' (CM_block ?_))))))
 let F1 := fun k (s : (List DRow)) => laws_toRowS_b1 x0 k s
 let R2 := rng (R := (List DRow)) F1
 refine CM_loop (σ := Nat × ((List DRow)) × (Unit)) (fun s => [(0, .slice A2 x0.length c3), (3, .slice (some ⟨p7, 0, none⟩) x0.length x0.length), (4, .int .i64 ((s.1 : Nat) : Int))]) (fun s => [iOwn (tSl tyRow 73) [.slice (some ⟨p7, 0, none⟩) x0.length x0.length] s.2.1]) (fun s => s.1 ≤ x0.length ∧ R2 (x0.length - s.1) s.1 s.2.1 = R2 (x0.length - 0) 0 (List.replicate x0.length (⟨(0 : Int), []⟩ : DRow))) (fun s => x0.length - s.1) (0, (List.replicate x0.length (⟨(0 : Int), []⟩ : DRow)), ()) sl3 (fun W hm => hm) ⟨(by omega), rfl⟩ ?_
 rintro ⟨k9, d10, ⟨⟩⟩ H13
 obtain ⟨hk11, hF12⟩ : k9 ≤ x0.length ∧ R2 (x0.length - k9) k9 d10 = R2 (x0.length - 0) 0 (List.replicate x0.length (⟨(0 : Int), []⟩ : DRow)) := H13
 show CM Tryz.prog 23 _ _ _ _ [(0, .slice A2 x0.length c3), (3, .slice (some ⟨p7, 0, none⟩) x0.length x0.length), (4, .int .i64 ((k9 : Nat) : Int))] [iOwn (tSl tyRow 73) [.slice (some ⟨p7, 0, none⟩) x0.length x0.length] d10]
 refine CM_seq (sr (wm (wm ?_)))
 refine wv (vlen underlying169) ?_
 refine wv vlss ?_
 refine nt' ?_
 by_cases hl14 : k9 < x0.length
 ·have g15 := dlT hl14
  refine CM_condT rfl g15 ?_
  refine CM_skip (QM_then (CM_seq (CM_block (CM_region (wm (wm (wm (wm ?_))))))))
  obtain ⟨a16, rfl, hb17, he18⟩ := q4 (by omega)
  refine wv (vix 2 k9 underlying169 type93) ?_
  obtain ⟨_, e22, hc19⟩ := he18 k9 _ (gt_some (show k9 < x0.length from by omega))
  obtain ⟨v20, rfl, r21⟩ := tyLRow_rd e22
  have l23 : ((gt x0 k9).Values).length ≤ 68719476736 := (s_0.2 _ (gt_mem (show k9 < x0.length from by omega)))
  obtain ⟨m24, A25, c26, rfl, q27, r28⟩ := rdS_op r21
  refine wv (fun W hm => rv_loadN (cs := [.int .i64 ((gt x0 k9).Id), .slice A25 ((gt x0 k9).Values).length c26]) underlying93 type93 rfl rfl (hm.elCells (show (a16.add (k9 * 2)).block < w.heap.size from by rw [add_block]; exact hb17.1) hc19)) ?_
  refine wcs tyRow (laws_toRow_m (gt x0 k9)) (cl_fn cb148 rfl) (fun W hm => laws_toRow_c W _ (gt x0 k9) (tyLRow_mk (x := (gt x0 k9)) (hm.rdS0 r28)) (s_0.2 _ (gt_mem (show k9 < x0.length from by omega)))) (fun z29 => ?_)
  refine tyRow_sp ?_
  rintro v30 rfl
  refine WM_form (n := 0) rfl ?_
  rintro A31 c32 rfl m33
  refine wv (vix 2 k9 underlying35 type73) ?_
  refine WM_setEl (E := tyRow) (e := 73) (u := .agg #[.int .i64 ((laws_toRow_m (gt x0 k9)).Id), .slice A31 ((laws_toRow_m (gt x0 k9)).Values).length c32]) (k := k9) (p := p7) (n := x0.length) (xs := d10) (eis := [iOwn (tSl tInt 3) [.slice A31 ((laws_toRow_m (gt x0 k9)).Values).length c32] ((laws_toRow_m (gt x0 k9)).Values)]) (js := []) (yv := (laws_toRow_m (gt x0 k9))) (pk [1, 0]) (fun _ _ hs => (tyRow_join (x := (laws_toRow_m (gt x0 k9))) hs)) rfl type73 rfl (by omega) rfl rfl (Wd_none rfl) ?_
  refine WM_nil (QM_block_normal (QM_then (CM_region (wm ?_))))
  refine wv (vadN k9 1 (by omega)) ?_
  refine wa (WM_nil ?_)
  have hn35 := rng_next (R := (List DRow)) (body := F1) (k := k9) (s := d10) (s' := (d10.set k9 (laws_toRow_m (gt x0 k9)))) (show k9 < x0.length from by omega) (rfl) hF12
  exact QM_round (k9 + 1, (d10.set k9 (laws_toRow_m (gt x0 k9))), ()) sl3 (fun W hm => hm) ⟨(by omega), hn35⟩ (rl (by omega))
 ·have g15 := dlF hl14
  refine CM_condF rfl g15 ?_
  refine CM_exit (QM_then_exit (QM_then_exit ?_))
  have hE36 : R2 (x0.length - 0) 0 (List.replicate x0.length (⟨(0 : Int), []⟩ : DRow)) = Sum.inr d10 := rng_end hl14 hF12
  refine QM_block_hit (QM_then (sr (wm (wa (nt' (CM_ret ?_))))))
  have he37 := (show laws_toRowS_m x0 = d10 from fin_inr hE36 (rfl))
  refine QM_r1 rfl (RR_tmp rfl) (fun W hm => ⟨.slice (some ⟨p7, 0, none⟩) x0.length x0.length, ?_, ?_⟩)
  ·first | rw [he37] | rfl
  ·rw [he37]; exact hm

def laws_toActive_m (x0 : DActive) : DActive :=
 (⟨(laws_toQuery_m x0.Query), x0.Time, (laws_toIntS_m x0.Todo), x0.Age, x0.Sent, x0.Cap, (laws_toRowS_m x0.Rows)⟩ : DActive)
theorem cb163 : Cb Tryz.prog 163 := ⟨f163, _, func163, rfl, by decide⟩
theorem laws_toActive_c (w : World) (z0 : List Value) (x0 : DActive) (r_0 : tyLActive.rd w w.heap.size z0 x0) (s_0 : smActive 68719476736 x0) :
  Calls Tryz.prog 163 #[.agg z0.toArray] w fun e w' => ∃ v : List Value, e = .returned (.agg v.toArray) ∧ Mem w.heap.size w [iOwn tyActive v (laws_toActive_m x0)] w' := by
 obtain ⟨v1, v3, v5, v7, rfl, r2, r4, r6, r8⟩ := tyLActive_rd r_0
 obtain ⟨m9, A10, c11, rfl, q12, r13⟩ := rdS_op r2
 obtain ⟨m14, A15, c16, rfl, q17, r18⟩ := rdS_op r4
 obtain ⟨m19, A20, c21, rfl, q22, r23⟩ := rdS_op r6
 obtain ⟨m24, A25, c26, rfl, q27, r28⟩ := rdS_op r8
 have l29 : x0.Query.Conds.length ≤ 68719476736 := s_0.1.1
 have l30 : x0.Query.Out.length ≤ 68719476736 := s_0.1.2
 have l31 : x0.Todo.length ≤ 68719476736 := s_0.2.1
 have l32 : x0.Rows.length ≤ 68719476736 := s_0.2.2.1
 refine ce1 (L := [(0, .agg #[.int .i64 x0.Query.Id, .int .i64 x0.Query.Tenant, .slice A10 x0.Query.Conds.length c11, .slice A15 x0.Query.Out.length c16, .int .i64 x0.Time, .slice A20 x0.Todo.length c21, .int .i64 x0.Age, .int .i64 x0.Sent, .int .i64 x0.Cap, .slice A25 x0.Rows.length c26])]) (N := 29) func163 ?_
 refine sr ?_
 refine WM_box rfl (Wd_none rfl) (by decide) (fun p33 => ?_)
 refine WM_alloc type64 rfl (Wd_none rfl) (by decide) (fun p34 => ?_)
 refine nt' (sr ?_)
 refine WM_alloc type64 rfl (Wd_none rfl) (by decide) (fun p35 => ?_)
 refine nt' (sr ?_)
 refine wv (vf underlying171 rfl type87) ?_
 refine wv (fun W hm => rv_loadN (cs := [.int .i64 x0.Query.Id, .int .i64 x0.Query.Tenant, .slice A10 x0.Query.Conds.length c11, .slice A15 x0.Query.Out.length c16]) underlying87 type87 rfl rfl (hm.boxPart (n := 2) rfl rfl)) ?_
 refine wcs tyQuery (laws_toQuery_m x0.Query) (cl_fn cb53 rfl) (fun W hm => laws_toQuery_c W _ x0.Query (tyLQuery_mk (x := x0.Query) (hm.rdS0 r13) (hm.rdS0 r18)) s_0.1) (fun z36 => ?_)
 refine tyQuery_sp ?_
 rintro ⟨v37, v38⟩ rfl
 refine WM_form (n := 0) rfl ?_
 rintro A39 c40 rfl m41
 refine WM_form (n := 1) rfl ?_
 rintro A43 c44 rfl m45
 refine wv (vf underlying64 rfl type34) ?_
 let K1 : List Value := [.int .i64 0, .int .i64 0, .slice none 0 0, .slice none 0 0, .int .i64 0, .slice none 0 0, .int .i64 0, .int .i64 0, .int .i64 0, .slice none 0 0]
 let K2 : List Value := [.int .i64 x0.Query.Id, .int .i64 x0.Query.Tenant, .slice A10 x0.Query.Conds.length c11, .slice A15 x0.Query.Out.length c16, .int .i64 x0.Time, .slice A20 x0.Todo.length c21, .int .i64 x0.Age, .int .i64 x0.Sent, .int .i64 x0.Cap, .slice A25 x0.Rows.length c26]
 let I4 : It := iOwn (tSl tyCond 201) [.slice A39 ((laws_toQuery_m x0.Query).Conds).length c40] ((laws_toQuery_m x0.Query).Conds)
 let I5 : It := iOwn (tSl tInt 3) [.slice A43 ((laws_toQuery_m x0.Query).Out).length c44] ((laws_toQuery_m x0.Query).Out)
 refine sb 0 [.int .i64 ((laws_toQuery_m x0.Query).Id), .int .i64 ((laws_toQuery_m x0.Query).Tenant), .slice A39 ((laws_toQuery_m x0.Query).Conds).length c40, .slice A43 ((laws_toQuery_m x0.Query).Out).length c44, .int .i64 0, .slice none 0 0, .int .i64 0, .int .i64 0, .int .i64 0, .slice none 0 0] [I4, I5, iBox p34 64 K1, iBox p33 171 K2] (pk [2, 0, 1, 3, 4]) type34 ?_
 refine nt' (sr ?_)
 refine wv (vf underlying171 rfl type3) ?_
 refine wv (vl 4 4 underlying3) ?_
 refine wv (vf underlying64 rfl type3) ?_
 refine sb 4 [.int .i64 ((laws_toQuery_m x0.Query).Id), .int .i64 ((laws_toQuery_m x0.Query).Tenant), .slice A39 ((laws_toQuery_m x0.Query).Conds).length c40, .slice A43 ((laws_toQuery_m x0.Query).Out).length c44, .int .i64 x0.Time, .slice none 0 0, .int .i64 0, .int .i64 0, .int .i64 0, .slice none 0 0] [I4, I5, iBox p34 64 K1, iBox p33 171 K2] (fun W hm => hm) type3 ?_
 refine nt' (sr ?_)
 refine wv (vf underlying171 rfl type25) ?_
 refine wv (vl 4 5 underlying25) ?_
 refine wcl (tSl tInt 3) (laws_toIntS_m x0.Todo) (cl_fn cb48 rfl) (fun W hm => laws_toIntS_c W _ x0.Todo (hm.rdS0 r23) s_0.2.1) (fun z47 => ?_)
 refine WM_form (n := 0) rfl ?_
 rintro A48 c49 rfl m50
 refine wv (vf underlying64 rfl type25) ?_
 let I6 : It := iOwn (tSl tInt 3) [.slice A48 (laws_toIntS_m x0.Todo).length c49] (laws_toIntS_m x0.Todo)
 refine sb 5 [.int .i64 ((laws_toQuery_m x0.Query).Id), .int .i64 ((laws_toQuery_m x0.Query).Tenant), .slice A39 ((laws_toQuery_m x0.Query).Conds).length c40, .slice A43 ((laws_toQuery_m x0.Query).Out).length c44, .int .i64 x0.Time, .slice A48 (laws_toIntS_m x0.Todo).length c49, .int .i64 0, .int .i64 0, .int .i64 0, .slice none 0 0] [I6, I4, I5, iBox p34 64 K1, iBox p33 171 K2] (pk [1, 0, 2, 3, 4, 5]) type25 ?_
 refine nt' (sr ?_)
 refine wv (vf underlying171 rfl type3) ?_
 refine wv (vl 5 6 underlying3) ?_
 refine wv (vf underlying64 rfl type3) ?_
 refine sb 6 [.int .i64 ((laws_toQuery_m x0.Query).Id), .int .i64 ((laws_toQuery_m x0.Query).Tenant), .slice A39 ((laws_toQuery_m x0.Query).Conds).length c40, .slice A43 ((laws_toQuery_m x0.Query).Out).length c44, .int .i64 x0.Time, .slice A48 (laws_toIntS_m x0.Todo).length c49, .int .i64 x0.Age, .int .i64 0, .int .i64 0, .slice none 0 0] [I6, I4, I5, iBox p34 64 K1, iBox p33 171 K2] (fun W hm => hm) type3 ?_
 refine nt' (sr ?_)
 refine wv (vf underlying171 rfl type3) ?_
 refine wv (vl 5 7 underlying3) ?_
 refine wv (vf underlying64 rfl type3) ?_
 refine sb 7 [.int .i64 ((laws_toQuery_m x0.Query).Id), .int .i64 ((laws_toQuery_m x0.Query).Tenant), .slice A39 ((laws_toQuery_m x0.Query).Conds).length c40, .slice A43 ((laws_toQuery_m x0.Query).Out).length c44, .int .i64 x0.Time, .slice A48 (laws_toIntS_m x0.Todo).length c49, .int .i64 x0.Age, .int .i64 x0.Sent, .int .i64 0, .slice none 0 0] [I6, I4, I5, iBox p34 64 K1, iBox p33 171 K2] (fun W hm => hm) type3 ?_
 refine nt' (sr ?_)
 refine wv (vf underlying171 rfl type3) ?_
 refine wv (vl 5 8 underlying3) ?_
 refine wv (vf underlying64 rfl type3) ?_
 refine sb 8 [.int .i64 ((laws_toQuery_m x0.Query).Id), .int .i64 ((laws_toQuery_m x0.Query).Tenant), .slice A39 ((laws_toQuery_m x0.Query).Conds).length c40, .slice A43 ((laws_toQuery_m x0.Query).Out).length c44, .int .i64 x0.Time, .slice A48 (laws_toIntS_m x0.Todo).length c49, .int .i64 x0.Age, .int .i64 x0.Sent, .int .i64 x0.Cap, .slice none 0 0] [I6, I4, I5, iBox p34 64 K1, iBox p33 171 K2] (fun W hm => hm) type3 ?_
 refine nt' (sr ?_)
 refine wv (vf underlying171 rfl type169) ?_
 refine wv (vl 5 9 underlying169) ?_
 refine wcl (tSl tyRow 73) (laws_toRowS_m x0.Rows) (cl_fn cb216 rfl) (fun W hm => laws_toRowS_c W _ x0.Rows (hm.rdS0 r28) s_0.2.2) (fun z52 => ?_)
 refine WM_form (n := 0) rfl ?_
 rintro A53 c54 rfl m55
 refine wv (vf underlying64 rfl type35) ?_
 let K3 : List Value := [.int .i64 ((laws_toQuery_m x0.Query).Id), .int .i64 ((laws_toQuery_m x0.Query).Tenant), .slice A39 ((laws_toQuery_m x0.Query).Conds).length c40, .slice A43 ((laws_toQuery_m x0.Query).Out).length c44, .int .i64 x0.Time, .slice A48 (laws_toIntS_m x0.Todo).length c49, .int .i64 x0.Age, .int .i64 x0.Sent, .int .i64 x0.Cap, .slice A53 (laws_toRowS_m x0.Rows).length c54]
 let I7 : It := iOwn (tSl tyRow 73) [.slice A53 (laws_toRowS_m x0.Rows).length c54] (laws_toRowS_m x0.Rows)
 refine sb 9 K3 [I7, I6, I4, I5, iBox p34 64 K1, iBox p33 171 K2] (pk [1, 0, 2, 3, 4, 5, 6]) type35 ?_
 refine nt' (sr ?_)
 refine wv (fun W hm => rv_loadN (cs := K3) underlying64 type64 rfl rfl (hm.boxCells (n := 0) rfl)) ?_
 refine sb 0 K3 [iBox p35 64 K3, I7, I6, I4, I5, iBox p33 171 K2] (pk [5, 0, 1, 2, 3, 4, 6]) type64 ?_
 refine nt' (CM_ret ?_)
 have he57 := (show laws_toActive_m x0 = (⟨(laws_toQuery_m x0.Query), x0.Time, (laws_toIntS_m x0.Todo), x0.Age, x0.Sent, x0.Cap, (laws_toRowS_m x0.Rows)⟩ : DActive) from rfl)
 refine QM_r1 rfl (RR_cell (n := 0) rfl rfl underlying64 type64 rfl) (fun W hm => ⟨K3, ?_, ?_⟩)
 ·first | rw [he57] | rfl
 ·rw [he57]; exact Mem.join (is := [I4, I5, I6, I7]) (js := []) (fun _ _ hs => tyActive_join (x := (⟨(laws_toQuery_m x0.Query), x0.Time, (laws_toIntS_m x0.Todo), x0.Age, x0.Sent, x0.Cap, (laws_toRowS_m x0.Rows)⟩ : DActive)) hs) (hm.pick [4, 5, 3, 2] (by decide))

def laws_toActiveS_b1 (x0 : (List DActive)) (k9 : Nat) (d10 : (List DActive)) : (List DActive) ⊕ ((List DActive)) :=
 Sum.inr (d10.set k9 (laws_toActive_m (gt x0 k9)))
def laws_toActiveS_m (x0 : (List DActive)) : (List DActive) :=
 Sum.elim id (fun (s : (List DActive)) => s) (rng (R := (List DActive)) (fun k (s : (List DActive)) => laws_toActiveS_b1 x0 k s) (x0.length - 0) 0 (List.replicate x0.length (⟨(⟨(0 : Int), (0 : Int), [], []⟩ : DQuery), (0 : Int), [], (0 : Int), (0 : Int), (0 : Int), []⟩ : DActive)))
theorem cb83 : Cb Tryz.prog 83 := ⟨f83, _, func83, rfl, by decide⟩
theorem laws_toActiveS_c (w : World) (z0 : Value) (x0 : (List DActive)) (r_0 : rdS tyLActive w w.heap.size z0 x0) (s_0 : (x0.length ≤ 68719476736 ∧ ∀ y ∈ x0, smActive 68719476736 y)) :
  Calls Tryz.prog 83 #[z0] w fun e w' => ∃ v : Value, e = .returned (v) ∧ Mem w.heap.size w [iOwn (tSl tyActive 64) [v] (laws_toActiveS_m x0)] w' := by
 obtain ⟨m1, A2, c3, rfl, q4, r5⟩ := rdS_op r_0
 have l6 : x0.length ≤ 68719476736 := s_0.1
 refine ce1 (L := [(0, .slice A2 x0.length c3)]) (N := 23) func83 ?_
 refine sr (wa (nt' (sr (wm ?_))))
 refine wv (vlen underlying26) ?_
 refine WM_make (E := tyActive) (n := x0.length) (x0 := (⟨(⟨(0 : Int), (0 : Int), [], []⟩ : DQuery), (0 : Int), [], (0 : Int), (0 : Int), (0 : Int), []⟩ : DActive)) underlying43 type64 rfl rfl rfl (fun _ => ⟨[], [], _, _, rfl, rfl, ⟨[], [], _, _, rfl, rfl, tInt_own, ⟨[], [], _, _, rfl, rfl, tInt_own, ⟨[], [], _, _, rfl, rfl, own_nil, own_nil⟩⟩⟩, ⟨[], [], _, _, rfl, rfl, tInt_own, ⟨[], [], _, _, rfl, rfl, own_nil, ⟨[], [], _, _, rfl, rfl, tInt_own, ⟨[], [], _, _, rfl, rfl, tInt_own, ⟨[], [], _, _, rfl, rfl, tInt_own, own_nil⟩⟩⟩⟩⟩⟩) rfl rfl (show x0.length * 144 ≤ 281474976710656 from by omega) (by omega) (Wd_none rfl) (by decide) (fun p7 => ?_)
 refine wa (nt' (CM_seq (sr (wa (nt' (CM_block ?_))))))
 let F1 := fun k (s : (List DActive)) => laws_toActiveS_b1 x0 k s
 let R2 := rng (R := (List DActive)) F1
 refine CM_loop (σ := Nat × ((List DActive)) × (Unit)) (fun s => [(0, .slice A2 x0.length c3), (3, .slice (some ⟨p7, 0, none⟩) x0.length x0.length), (4, .int .i64 ((s.1 : Nat) : Int))]) (fun s => [iOwn (tSl tyActive 64) [.slice (some ⟨p7, 0, none⟩) x0.length x0.length] s.2.1]) (fun s => s.1 ≤ x0.length ∧ R2 (x0.length - s.1) s.1 s.2.1 = R2 (x0.length - 0) 0 (List.replicate x0.length (⟨(⟨(0 : Int), (0 : Int), [], []⟩ : DQuery), (0 : Int), [], (0 : Int), (0 : Int), (0 : Int), []⟩ : DActive))) (fun s => x0.length - s.1) (0, (List.replicate x0.length (⟨(⟨(0 : Int), (0 : Int), [], []⟩ : DQuery), (0 : Int), [], (0 : Int), (0 : Int), (0 : Int), []⟩ : DActive)), ()) sl3 (fun W hm => hm) ⟨(by omega), rfl⟩ ?_
 rintro ⟨k9, d10, ⟨⟩⟩ H13
 obtain ⟨hk11, hF12⟩ : k9 ≤ x0.length ∧ R2 (x0.length - k9) k9 d10 = R2 (x0.length - 0) 0 (List.replicate x0.length (⟨(⟨(0 : Int), (0 : Int), [], []⟩ : DQuery), (0 : Int), [], (0 : Int), (0 : Int), (0 : Int), []⟩ : DActive)) := H13
 show CM Tryz.prog 23 _ _ _ _ [(0, .slice A2 x0.length c3), (3, .slice (some ⟨p7, 0, none⟩) x0.length x0.length), (4, .int .i64 ((k9 : Nat) : Int))] [iOwn (tSl tyActive 64) [.slice (some ⟨p7, 0, none⟩) x0.length x0.length] d10]
 refine CM_seq (sr (wm (wm ?_)))
 refine wv (vlen underlying26) ?_
 refine wv vlss ?_
 refine nt' ?_
 by_cases hl14 : k9 < x0.length
 ·have g15 := dlT hl14
  refine CM_condT rfl g15 ?_
  refine CM_skip (QM_then (CM_seq (CM_block (CM_region (wm (wm (wm (wm ?_))))))))
  obtain ⟨a16, rfl, hb17, he18⟩ := q4 (by omega)
  refine wv (vix 10 k9 underlying26 type171) ?_
  obtain ⟨_, e28, hc19⟩ := he18 k9 _ (gt_some (show k9 < x0.length from by omega))
  obtain ⟨v20, v22, v24, v26, rfl, r21, r23, r25, r27⟩ := tyLActive_rd e28
  have l29 : ((gt x0 k9).Query.Conds).length ≤ 68719476736 := (s_0.2 _ (gt_mem (show k9 < x0.length from by omega))).1.1
  have l30 : ((gt x0 k9).Query.Out).length ≤ 68719476736 := (s_0.2 _ (gt_mem (show k9 < x0.length from by omega))).1.2
  have l31 : ((gt x0 k9).Todo).length ≤ 68719476736 := (s_0.2 _ (gt_mem (show k9 < x0.length from by omega))).2.1
  have l32 : ((gt x0 k9).Rows).length ≤ 68719476736 := (s_0.2 _ (gt_mem (show k9 < x0.length from by omega))).2.2.1
  obtain ⟨m33, A34, c35, rfl, q36, r37⟩ := rdS_op r21
  obtain ⟨m38, A39, c40, rfl, q41, r42⟩ := rdS_op r23
  obtain ⟨m43, A44, c45, rfl, q46, r47⟩ := rdS_op r25
  obtain ⟨m48, A49, c50, rfl, q51, r52⟩ := rdS_op r27
  refine wv (fun W hm => rv_loadN (cs := [.int .i64 ((gt x0 k9).Query.Id), .int .i64 ((gt x0 k9).Query.Tenant), .slice A34 ((gt x0 k9).Query.Conds).length c35, .slice A39 ((gt x0 k9).Query.Out).length c40, .int .i64 ((gt x0 k9).Time), .slice A44 ((gt x0 k9).Todo).length c45, .int .i64 ((gt x0 k9).Age), .int .i64 ((gt x0 k9).Sent), .int .i64 ((gt x0 k9).Cap), .slice A49 ((gt x0 k9).Rows).length c50]) underlying171 type171 rfl rfl (hm.elCells (show (a16.add (k9 * 10)).block < w.heap.size from by rw [add_block]; exact hb17.1) hc19)) ?_
  refine wcs tyActive (laws_toActive_m (gt x0 k9)) (cl_fn cb163 rfl) (fun W hm => laws_toActive_c W _ (gt x0 k9) (tyLActive_mk (x := (gt x0 k9)) (hm.rdS0 r37) (hm.rdS0 r42) (hm.rdS0 r47) (hm.rdS0 r52)) (s_0.2 _ (gt_mem (show k9 < x0.length from by omega)))) (fun z53 => ?_)
  refine tyActive_sp ?_
  rintro ⟨v54, v55, v56, v57⟩ rfl
  refine WM_form (n := 0) rfl ?_
  rintro A58 c59 rfl m60
  refine WM_form (n := 1) rfl ?_
  rintro A62 c63 rfl m64
  refine WM_form (n := 2) rfl ?_
  rintro A66 c67 rfl m68
  refine WM_form (n := 3) rfl ?_
  rintro A70 c71 rfl m72
  refine wv (vix 10 k9 underlying43 type64) ?_
  refine WM_setEl (E := tyActive) (e := 64) (u := .agg #[.int .i64 ((laws_toActive_m (gt x0 k9)).Query.Id), .int .i64 ((laws_toActive_m (gt x0 k9)).Query.Tenant), .slice A58 ((laws_toActive_m (gt x0 k9)).Query.Conds).length c59, .slice A62 ((laws_toActive_m (gt x0 k9)).Query.Out).length c63, .int .i64 ((laws_toActive_m (gt x0 k9)).Time), .slice A66 ((laws_toActive_m (gt x0 k9)).Todo).length c67, .int .i64 ((laws_toActive_m (gt x0 k9)).Age), .int .i64 ((laws_toActive_m (gt x0 k9)).Sent), .int .i64 ((laws_toActive_m (gt x0 k9)).Cap), .slice A70 ((laws_toActive_m (gt x0 k9)).Rows).length c71]) (k := k9) (p := p7) (n := x0.length) (xs := d10) (eis := [iOwn (tSl tyCond 201) [.slice A58 ((laws_toActive_m (gt x0 k9)).Query.Conds).length c59] ((laws_toActive_m (gt x0 k9)).Query.Conds), iOwn (tSl tInt 3) [.slice A62 ((laws_toActive_m (gt x0 k9)).Query.Out).length c63] ((laws_toActive_m (gt x0 k9)).Query.Out), iOwn (tSl tInt 3) [.slice A66 ((laws_toActive_m (gt x0 k9)).Todo).length c67] ((laws_toActive_m (gt x0 k9)).Todo), iOwn (tSl tyRow 73) [.slice A70 ((laws_toActive_m (gt x0 k9)).Rows).length c71] ((laws_toActive_m (gt x0 k9)).Rows)]) (js := []) (yv := (laws_toActive_m (gt x0 k9))) (pk [4, 0, 1, 2, 3]) (fun _ _ hs => (tyActive_join (x := (laws_toActive_m (gt x0 k9))) hs)) rfl type64 rfl (by omega) rfl rfl (Wd_none rfl) ?_
  refine WM_nil (QM_block_normal (QM_then (CM_region (wm ?_))))
  refine wv (vadN k9 1 (by omega)) ?_
  refine wa (WM_nil ?_)
  have hn74 := rng_next (R := (List DActive)) (body := F1) (k := k9) (s := d10) (s' := (d10.set k9 (laws_toActive_m (gt x0 k9)))) (show k9 < x0.length from by omega) (rfl) hF12
  exact QM_round (k9 + 1, (d10.set k9 (laws_toActive_m (gt x0 k9))), ()) sl3 (fun W hm => hm) ⟨(by omega), hn74⟩ (rl (by omega))
 ·have g15 := dlF hl14
  refine CM_condF rfl g15 ?_
  refine CM_exit (QM_then_exit (QM_then_exit ?_))
  have hE75 : R2 (x0.length - 0) 0 (List.replicate x0.length (⟨(⟨(0 : Int), (0 : Int), [], []⟩ : DQuery), (0 : Int), [], (0 : Int), (0 : Int), (0 : Int), []⟩ : DActive)) = Sum.inr d10 := rng_end hl14 hF12
  refine QM_block_hit (QM_then (sr (wm (wa (nt' (CM_ret ?_))))))
  have he76 := (show laws_toActiveS_m x0 = d10 from fin_inr hE75 (rfl))
  refine QM_r1 rfl (RR_tmp rfl) (fun W hm => ⟨.slice (some ⟨p7, 0, none⟩) x0.length x0.length, ?_, ?_⟩)
  ·first | rw [he76] | rfl
  ·rw [he76]; exact hm

def laws_toFinished_m (x0 : DFinished) : DFinished :=
 (⟨(laws_toQuery_m x0.Query), x0.Time, x0.Steps, (laws_toRowS_m x0.Rows)⟩ : DFinished)
theorem cb164 : Cb Tryz.prog 164 := ⟨f164, _, func164, rfl, by decide⟩
theorem laws_toFinished_c (w : World) (z0 : List Value) (x0 : DFinished) (r_0 : tyLFinished.rd w w.heap.size z0 x0) (s_0 : smFinished 68719476736 x0) :
  Calls Tryz.prog 164 #[.agg z0.toArray] w fun e w' => ∃ v : List Value, e = .returned (.agg v.toArray) ∧ Mem w.heap.size w [iOwn tyFinished v (laws_toFinished_m x0)] w' := by
 obtain ⟨v1, v3, v5, rfl, r2, r4, r6⟩ := tyLFinished_rd r_0
 obtain ⟨m7, A8, c9, rfl, q10, r11⟩ := rdS_op r2
 obtain ⟨m12, A13, c14, rfl, q15, r16⟩ := rdS_op r4
 obtain ⟨m17, A18, c19, rfl, q20, r21⟩ := rdS_op r6
 have l22 : x0.Query.Conds.length ≤ 68719476736 := s_0.1.1
 have l23 : x0.Query.Out.length ≤ 68719476736 := s_0.1.2
 have l24 : x0.Rows.length ≤ 68719476736 := s_0.2.1
 refine ce1 (L := [(0, .agg #[.int .i64 x0.Query.Id, .int .i64 x0.Query.Tenant, .slice A8 x0.Query.Conds.length c9, .slice A13 x0.Query.Out.length c14, .int .i64 x0.Time, .int .i64 x0.Steps, .slice A18 x0.Rows.length c19])]) (N := 19) func164 ?_
 refine sr ?_
 refine WM_box rfl (Wd_none rfl) (by decide) (fun p25 => ?_)
 refine WM_alloc type37 rfl (Wd_none rfl) (by decide) (fun p26 => ?_)
 refine nt' (sr ?_)
 refine WM_alloc type37 rfl (Wd_none rfl) (by decide) (fun p27 => ?_)
 refine nt' (sr ?_)
 refine wv (vf underlying174 rfl type87) ?_
 refine wv (fun W hm => rv_loadN (cs := [.int .i64 x0.Query.Id, .int .i64 x0.Query.Tenant, .slice A8 x0.Query.Conds.length c9, .slice A13 x0.Query.Out.length c14]) underlying87 type87 rfl rfl (hm.boxPart (n := 2) rfl rfl)) ?_
 refine wcs tyQuery (laws_toQuery_m x0.Query) (cl_fn cb53 rfl) (fun W hm => laws_toQuery_c W _ x0.Query (tyLQuery_mk (x := x0.Query) (hm.rdS0 r11) (hm.rdS0 r16)) s_0.1) (fun z28 => ?_)
 refine tyQuery_sp ?_
 rintro ⟨v29, v30⟩ rfl
 refine WM_form (n := 0) rfl ?_
 rintro A31 c32 rfl m33
 refine WM_form (n := 1) rfl ?_
 rintro A35 c36 rfl m37
 refine wv (vf underlying37 rfl type34) ?_
 let K1 : List Value := [.int .i64 0, .int .i64 0, .slice none 0 0, .slice none 0 0, .int .i64 0, .int .i64 0, .slice none 0 0]
 let K2 : List Value := [.int .i64 x0.Query.Id, .int .i64 x0.Query.Tenant, .slice A8 x0.Query.Conds.length c9, .slice A13 x0.Query.Out.length c14, .int .i64 x0.Time, .int .i64 x0.Steps, .slice A18 x0.Rows.length c19]
 let I4 : It := iOwn (tSl tyCond 201) [.slice A31 ((laws_toQuery_m x0.Query).Conds).length c32] ((laws_toQuery_m x0.Query).Conds)
 let I5 : It := iOwn (tSl tInt 3) [.slice A35 ((laws_toQuery_m x0.Query).Out).length c36] ((laws_toQuery_m x0.Query).Out)
 refine sb 0 [.int .i64 ((laws_toQuery_m x0.Query).Id), .int .i64 ((laws_toQuery_m x0.Query).Tenant), .slice A31 ((laws_toQuery_m x0.Query).Conds).length c32, .slice A35 ((laws_toQuery_m x0.Query).Out).length c36, .int .i64 0, .int .i64 0, .slice none 0 0] [I4, I5, iBox p26 37 K1, iBox p25 174 K2] (pk [2, 0, 1, 3, 4]) type34 ?_
 refine nt' (sr ?_)
 refine wv (vf underlying174 rfl type3) ?_
 refine wv (vl 4 4 underlying3) ?_
 refine wv (vf underlying37 rfl type3) ?_
 refine sb 4 [.int .i64 ((laws_toQuery_m x0.Query).Id), .int .i64 ((laws_toQuery_m x0.Query).Tenant), .slice A31 ((laws_toQuery_m x0.Query).Conds).length c32, .slice A35 ((laws_toQuery_m x0.Query).Out).length c36, .int .i64 x0.Time, .int .i64 0, .slice none 0 0] [I4, I5, iBox p26 37 K1, iBox p25 174 K2] (fun W hm => hm) type3 ?_
 refine nt' (sr ?_)
 refine wv (vf underlying174 rfl type3) ?_
 refine wv (vl 4 5 underlying3) ?_
 refine wv (vf underlying37 rfl type3) ?_
 refine sb 5 [.int .i64 ((laws_toQuery_m x0.Query).Id), .int .i64 ((laws_toQuery_m x0.Query).Tenant), .slice A31 ((laws_toQuery_m x0.Query).Conds).length c32, .slice A35 ((laws_toQuery_m x0.Query).Out).length c36, .int .i64 x0.Time, .int .i64 x0.Steps, .slice none 0 0] [I4, I5, iBox p26 37 K1, iBox p25 174 K2] (fun W hm => hm) type3 ?_
 refine nt' (sr ?_)
 refine wv (vf underlying174 rfl type169) ?_
 refine wv (vl 4 6 underlying169) ?_
 refine wcl (tSl tyRow 73) (laws_toRowS_m x0.Rows) (cl_fn cb216 rfl) (fun W hm => laws_toRowS_c W _ x0.Rows (hm.rdS0 r21) s_0.2) (fun z39 => ?_)
 refine WM_form (n := 0) rfl ?_
 rintro A40 c41 rfl m42
 refine wv (vf underlying37 rfl type35) ?_
 let K3 : List Value := [.int .i64 ((laws_toQuery_m x0.Query).Id), .int .i64 ((laws_toQuery_m x0.Query).Tenant), .slice A31 ((laws_toQuery_m x0.Query).Conds).length c32, .slice A35 ((laws_toQuery_m x0.Query).Out).length c36, .int .i64 x0.Time, .int .i64 x0.Steps, .slice A40 (laws_toRowS_m x0.Rows).length c41]
 let I6 : It := iOwn (tSl tyRow 73) [.slice A40 (laws_toRowS_m x0.Rows).length c41] (laws_toRowS_m x0.Rows)
 refine sb 6 K3 [I6, I4, I5, iBox p26 37 K1, iBox p25 174 K2] (pk [1, 0, 2, 3, 4, 5]) type35 ?_
 refine nt' (sr ?_)
 refine wv (fun W hm => rv_loadN (cs := K3) underlying37 type37 rfl rfl (hm.boxCells (n := 0) rfl)) ?_
 refine sb 0 K3 [iBox p27 37 K3, I6, I4, I5, iBox p25 174 K2] (pk [4, 0, 1, 2, 3, 5]) type37 ?_
 refine nt' (CM_ret ?_)
 have he44 := (show laws_toFinished_m x0 = (⟨(laws_toQuery_m x0.Query), x0.Time, x0.Steps, (laws_toRowS_m x0.Rows)⟩ : DFinished) from rfl)
 refine QM_r1 rfl (RR_cell (n := 0) rfl rfl underlying37 type37 rfl) (fun W hm => ⟨K3, ?_, ?_⟩)
 ·first | rw [he44] | rfl
 ·rw [he44]; exact Mem.join (is := [I4, I5, I6]) (js := []) (fun _ _ hs => tyFinished_join (x := (⟨(laws_toQuery_m x0.Query), x0.Time, x0.Steps, (laws_toRowS_m x0.Rows)⟩ : DFinished)) hs) (hm.pick [3, 4, 2] (by decide))

def laws_toFinishedS_b1 (x0 : (List DFinished)) (k9 : Nat) (d10 : (List DFinished)) : (List DFinished) ⊕ ((List DFinished)) :=
 Sum.inr (d10.set k9 (laws_toFinished_m (gt x0 k9)))
def laws_toFinishedS_m (x0 : (List DFinished)) : (List DFinished) :=
 Sum.elim id (fun (s : (List DFinished)) => s) (rng (R := (List DFinished)) (fun k (s : (List DFinished)) => laws_toFinishedS_b1 x0 k s) (x0.length - 0) 0 (List.replicate x0.length (⟨(⟨(0 : Int), (0 : Int), [], []⟩ : DQuery), (0 : Int), (0 : Int), []⟩ : DFinished)))
theorem cb84 : Cb Tryz.prog 84 := ⟨f84, _, func84, rfl, by decide⟩
theorem laws_toFinishedS_c (w : World) (z0 : Value) (x0 : (List DFinished)) (r_0 : rdS tyLFinished w w.heap.size z0 x0) (s_0 : (x0.length ≤ 68719476736 ∧ ∀ y ∈ x0, smFinished 68719476736 y)) :
  Calls Tryz.prog 84 #[z0] w fun e w' => ∃ v : Value, e = .returned (v) ∧ Mem w.heap.size w [iOwn (tSl tyFinished 37) [v] (laws_toFinishedS_m x0)] w' := by
 obtain ⟨m1, A2, c3, rfl, q4, r5⟩ := rdS_op r_0
 have l6 : x0.length ≤ 68719476736 := s_0.1
 refine ce1 (L := [(0, .slice A2 x0.length c3)]) (N := 23) func84 ?_
 refine sr (wa (nt' (sr (wm ?_))))
 refine wv (vlen underlying27) ?_
 refine WM_make (E := tyFinished) (n := x0.length) (x0 := (⟨(⟨(0 : Int), (0 : Int), [], []⟩ : DQuery), (0 : Int), (0 : Int), []⟩ : DFinished)) underlying44 type37 rfl rfl rfl (fun _ => ⟨[], [], _, _, rfl, rfl, ⟨[], [], _, _, rfl, rfl, tInt_own, ⟨[], [], _, _, rfl, rfl, tInt_own, ⟨[], [], _, _, rfl, rfl, own_nil, own_nil⟩⟩⟩, ⟨[], [], _, _, rfl, rfl, tInt_own, ⟨[], [], _, _, rfl, rfl, tInt_own, own_nil⟩⟩⟩) rfl rfl (show x0.length * 104 ≤ 281474976710656 from by omega) (by omega) (Wd_none rfl) (by decide) (fun p7 => ?_)
 refine wa (nt' (CM_seq (sr (wa (nt' (CM_block ?_))))))
 let F1 := fun k (s : (List DFinished)) => laws_toFinishedS_b1 x0 k s
 let R2 := rng (R := (List DFinished)) F1
 refine CM_loop (σ := Nat × ((List DFinished)) × (Unit)) (fun s => [(0, .slice A2 x0.length c3), (3, .slice (some ⟨p7, 0, none⟩) x0.length x0.length), (4, .int .i64 ((s.1 : Nat) : Int))]) (fun s => [iOwn (tSl tyFinished 37) [.slice (some ⟨p7, 0, none⟩) x0.length x0.length] s.2.1]) (fun s => s.1 ≤ x0.length ∧ R2 (x0.length - s.1) s.1 s.2.1 = R2 (x0.length - 0) 0 (List.replicate x0.length (⟨(⟨(0 : Int), (0 : Int), [], []⟩ : DQuery), (0 : Int), (0 : Int), []⟩ : DFinished))) (fun s => x0.length - s.1) (0, (List.replicate x0.length (⟨(⟨(0 : Int), (0 : Int), [], []⟩ : DQuery), (0 : Int), (0 : Int), []⟩ : DFinished)), ()) sl3 (fun W hm => hm) ⟨(by omega), rfl⟩ ?_
 rintro ⟨k9, d10, ⟨⟩⟩ H13
 obtain ⟨hk11, hF12⟩ : k9 ≤ x0.length ∧ R2 (x0.length - k9) k9 d10 = R2 (x0.length - 0) 0 (List.replicate x0.length (⟨(⟨(0 : Int), (0 : Int), [], []⟩ : DQuery), (0 : Int), (0 : Int), []⟩ : DFinished)) := H13
 show CM Tryz.prog 23 _ _ _ _ [(0, .slice A2 x0.length c3), (3, .slice (some ⟨p7, 0, none⟩) x0.length x0.length), (4, .int .i64 ((k9 : Nat) : Int))] [iOwn (tSl tyFinished 37) [.slice (some ⟨p7, 0, none⟩) x0.length x0.length] d10]
 refine CM_seq (sr (wm (wm ?_)))
 refine wv (vlen underlying27) ?_
 refine wv vlss ?_
 refine nt' ?_
 by_cases hl14 : k9 < x0.length
 ·have g15 := dlT hl14
  refine CM_condT rfl g15 ?_
  refine CM_skip (QM_then (CM_seq (CM_block (CM_region (wm (wm (wm (wm ?_))))))))
  obtain ⟨a16, rfl, hb17, he18⟩ := q4 (by omega)
  refine wv (vix 7 k9 underlying27 type174) ?_
  obtain ⟨_, e26, hc19⟩ := he18 k9 _ (gt_some (show k9 < x0.length from by omega))
  obtain ⟨v20, v22, v24, rfl, r21, r23, r25⟩ := tyLFinished_rd e26
  have l27 : ((gt x0 k9).Query.Conds).length ≤ 68719476736 := (s_0.2 _ (gt_mem (show k9 < x0.length from by omega))).1.1
  have l28 : ((gt x0 k9).Query.Out).length ≤ 68719476736 := (s_0.2 _ (gt_mem (show k9 < x0.length from by omega))).1.2
  have l29 : ((gt x0 k9).Rows).length ≤ 68719476736 := (s_0.2 _ (gt_mem (show k9 < x0.length from by omega))).2.1
  obtain ⟨m30, A31, c32, rfl, q33, r34⟩ := rdS_op r21
  obtain ⟨m35, A36, c37, rfl, q38, r39⟩ := rdS_op r23
  obtain ⟨m40, A41, c42, rfl, q43, r44⟩ := rdS_op r25
  refine wv (fun W hm => rv_loadN (cs := [.int .i64 ((gt x0 k9).Query.Id), .int .i64 ((gt x0 k9).Query.Tenant), .slice A31 ((gt x0 k9).Query.Conds).length c32, .slice A36 ((gt x0 k9).Query.Out).length c37, .int .i64 ((gt x0 k9).Time), .int .i64 ((gt x0 k9).Steps), .slice A41 ((gt x0 k9).Rows).length c42]) underlying174 type174 rfl rfl (hm.elCells (show (a16.add (k9 * 7)).block < w.heap.size from by rw [add_block]; exact hb17.1) hc19)) ?_
  refine wcs tyFinished (laws_toFinished_m (gt x0 k9)) (cl_fn cb164 rfl) (fun W hm => laws_toFinished_c W _ (gt x0 k9) (tyLFinished_mk (x := (gt x0 k9)) (hm.rdS0 r34) (hm.rdS0 r39) (hm.rdS0 r44)) (s_0.2 _ (gt_mem (show k9 < x0.length from by omega)))) (fun z45 => ?_)
  refine tyFinished_sp ?_
  rintro ⟨v46, v47, v48⟩ rfl
  refine WM_form (n := 0) rfl ?_
  rintro A49 c50 rfl m51
  refine WM_form (n := 1) rfl ?_
  rintro A53 c54 rfl m55
  refine WM_form (n := 2) rfl ?_
  rintro A57 c58 rfl m59
  refine wv (vix 7 k9 underlying44 type37) ?_
  refine WM_setEl (E := tyFinished) (e := 37) (u := .agg #[.int .i64 ((laws_toFinished_m (gt x0 k9)).Query.Id), .int .i64 ((laws_toFinished_m (gt x0 k9)).Query.Tenant), .slice A49 ((laws_toFinished_m (gt x0 k9)).Query.Conds).length c50, .slice A53 ((laws_toFinished_m (gt x0 k9)).Query.Out).length c54, .int .i64 ((laws_toFinished_m (gt x0 k9)).Time), .int .i64 ((laws_toFinished_m (gt x0 k9)).Steps), .slice A57 ((laws_toFinished_m (gt x0 k9)).Rows).length c58]) (k := k9) (p := p7) (n := x0.length) (xs := d10) (eis := [iOwn (tSl tyCond 201) [.slice A49 ((laws_toFinished_m (gt x0 k9)).Query.Conds).length c50] ((laws_toFinished_m (gt x0 k9)).Query.Conds), iOwn (tSl tInt 3) [.slice A53 ((laws_toFinished_m (gt x0 k9)).Query.Out).length c54] ((laws_toFinished_m (gt x0 k9)).Query.Out), iOwn (tSl tyRow 73) [.slice A57 ((laws_toFinished_m (gt x0 k9)).Rows).length c58] ((laws_toFinished_m (gt x0 k9)).Rows)]) (js := []) (yv := (laws_toFinished_m (gt x0 k9))) (pk [3, 0, 1, 2]) (fun _ _ hs => (tyFinished_join (x := (laws_toFinished_m (gt x0 k9))) hs)) rfl type37 rfl (by omega) rfl rfl (Wd_none rfl) ?_
  refine WM_nil (QM_block_normal (QM_then (CM_region (wm ?_))))
  refine wv (vadN k9 1 (by omega)) ?_
  refine wa (WM_nil ?_)
  have hn61 := rng_next (R := (List DFinished)) (body := F1) (k := k9) (s := d10) (s' := (d10.set k9 (laws_toFinished_m (gt x0 k9)))) (show k9 < x0.length from by omega) (rfl) hF12
  exact QM_round (k9 + 1, (d10.set k9 (laws_toFinished_m (gt x0 k9))), ()) sl3 (fun W hm => hm) ⟨(by omega), hn61⟩ (rl (by omega))
 ·have g15 := dlF hl14
  refine CM_condF rfl g15 ?_
  refine CM_exit (QM_then_exit (QM_then_exit ?_))
  have hE62 : R2 (x0.length - 0) 0 (List.replicate x0.length (⟨(⟨(0 : Int), (0 : Int), [], []⟩ : DQuery), (0 : Int), (0 : Int), []⟩ : DFinished)) = Sum.inr d10 := rng_end hl14 hF12
  refine QM_block_hit (QM_then (sr (wm (wa (nt' (CM_ret ?_))))))
  have he63 := (show laws_toFinishedS_m x0 = d10 from fin_inr hE62 (rfl))
  refine QM_r1 rfl (RR_tmp rfl) (fun W hm => ⟨.slice (some ⟨p7, 0, none⟩) x0.length x0.length, ?_, ?_⟩)
  ·first | rw [he63] | rfl
  ·rw [he63]; exact hm

def laws_toCharge_m (x0 : DCharge) : DCharge :=
 (⟨x0.Segment, x0.Base, (laws_toIntS_m x0.Ids), (laws_toIntS_m x0.Tenants), (laws_toIntS_m x0.Rows)⟩ : DCharge)
theorem cb165 : Cb Tryz.prog 165 := ⟨f165, _, func165, rfl, by decide⟩
theorem laws_toCharge_c (w : World) (z0 : List Value) (x0 : DCharge) (r_0 : tyLCharge.rd w w.heap.size z0 x0) (s_0 : smCharge 68719476736 x0) :
  Calls Tryz.prog 165 #[.agg z0.toArray] w fun e w' => ∃ v : List Value, e = .returned (.agg v.toArray) ∧ Mem w.heap.size w [iOwn tyCharge v (laws_toCharge_m x0)] w' := by
 obtain ⟨v1, v3, v5, rfl, r2, r4, r6⟩ := tyLCharge_rd r_0
 obtain ⟨m7, A8, c9, rfl, q10, r11⟩ := rdS_op r2
 obtain ⟨m12, A13, c14, rfl, q15, r16⟩ := rdS_op r4
 obtain ⟨m17, A18, c19, rfl, q20, r21⟩ := rdS_op r6
 have l22 : x0.Ids.length ≤ 68719476736 := s_0.1
 have l23 : x0.Tenants.length ≤ 68719476736 := s_0.2.1
 have l24 : x0.Rows.length ≤ 68719476736 := s_0.2.2
 refine ce1 (L := [(0, .agg #[.int .i64 x0.Segment, .int .i64 x0.Base, .slice A8 x0.Ids.length c9, .slice A13 x0.Tenants.length c14, .slice A18 x0.Rows.length c19])]) (N := 23) func165 ?_
 refine sr ?_
 refine WM_box rfl (Wd_none rfl) (by decide) (fun p25 => ?_)
 refine WM_alloc type133 rfl (Wd_none rfl) (by decide) (fun p26 => ?_)
 refine nt' (sr ?_)
 refine WM_alloc type133 rfl (Wd_none rfl) (by decide) (fun p27 => ?_)
 refine nt' (sr ?_)
 refine wv (vf underlying176 rfl type3) ?_
 refine wv (vl 2 0 underlying3) ?_
 refine wv (vf underlying133 rfl type3) ?_
 let K1 : List Value := [.int .i64 0, .int .i64 0, .slice none 0 0, .slice none 0 0, .slice none 0 0]
 let K2 : List Value := [.int .i64 x0.Segment, .int .i64 x0.Base, .slice A8 x0.Ids.length c9, .slice A13 x0.Tenants.length c14, .slice A18 x0.Rows.length c19]
 refine sb 0 [.int .i64 x0.Segment, .int .i64 0, .slice none 0 0, .slice none 0 0, .slice none 0 0] [iBox p26 133 K1, iBox p25 176 K2] (fun W hm => hm) type3 ?_
 refine nt' (sr ?_)
 refine wv (vf underlying176 rfl type3) ?_
 refine wv (vl 2 1 underlying3) ?_
 refine wv (vf underlying133 rfl type3) ?_
 refine sb 1 [.int .i64 x0.Segment, .int .i64 x0.Base, .slice none 0 0, .slice none 0 0, .slice none 0 0] [iBox p26 133 K1, iBox p25 176 K2] (fun W hm => hm) type3 ?_
 refine nt' (sr ?_)
 refine wv (vf underlying176 rfl type25) ?_
 refine wv (vl 2 2 underlying25) ?_
 refine wcl (tSl tInt 3) (laws_toIntS_m x0.Ids) (cl_fn cb48 rfl) (fun W hm => laws_toIntS_c W _ x0.Ids (hm.rdS0 r11) s_0.1) (fun z28 => ?_)
 refine WM_form (n := 0) rfl ?_
 rintro A29 c30 rfl m31
 refine wv (vf underlying133 rfl type25) ?_
 let I4 : It := iOwn (tSl tInt 3) [.slice A29 (laws_toIntS_m x0.Ids).length c30] (laws_toIntS_m x0.Ids)
 refine sb 2 [.int .i64 x0.Segment, .int .i64 x0.Base, .slice A29 (laws_toIntS_m x0.Ids).length c30, .slice none 0 0, .slice none 0 0] [I4, iBox p26 133 K1, iBox p25 176 K2] (pk [1, 0, 2, 3]) type25 ?_
 refine nt' (sr ?_)
 refine wv (vf underlying176 rfl type25) ?_
 refine wv (vl 3 3 underlying25) ?_
 refine wcl (tSl tInt 3) (laws_toIntS_m x0.Tenants) (cl_fn cb48 rfl) (fun W hm => laws_toIntS_c W _ x0.Tenants (hm.rdS0 r16) s_0.2.1) (fun z33 => ?_)
 refine WM_form (n := 0) rfl ?_
 rintro A34 c35 rfl m36
 refine wv (vf underlying133 rfl type25) ?_
 let I5 : It := iOwn (tSl tInt 3) [.slice A34 (laws_toIntS_m x0.Tenants).length c35] (laws_toIntS_m x0.Tenants)
 refine sb 3 [.int .i64 x0.Segment, .int .i64 x0.Base, .slice A29 (laws_toIntS_m x0.Ids).length c30, .slice A34 (laws_toIntS_m x0.Tenants).length c35, .slice none 0 0] [I5, I4, iBox p26 133 K1, iBox p25 176 K2] (pk [1, 0, 2, 3, 4]) type25 ?_
 refine nt' (sr ?_)
 refine wv (vf underlying176 rfl type25) ?_
 refine wv (vl 4 4 underlying25) ?_
 refine wcl (tSl tInt 3) (laws_toIntS_m x0.Rows) (cl_fn cb48 rfl) (fun W hm => laws_toIntS_c W _ x0.Rows (hm.rdS0 r21) s_0.2.2) (fun z38 => ?_)
 refine WM_form (n := 0) rfl ?_
 rintro A39 c40 rfl m41
 refine wv (vf underlying133 rfl type25) ?_
 let K3 : List Value := [.int .i64 x0.Segment, .int .i64 x0.Base, .slice A29 (laws_toIntS_m x0.Ids).length c30, .slice A34 (laws_toIntS_m x0.Tenants).length c35, .slice A39 (laws_toIntS_m x0.Rows).length c40]
 let I6 : It := iOwn (tSl tInt 3) [.slice A39 (laws_toIntS_m x0.Rows).length c40] (laws_toIntS_m x0.Rows)
 refine sb 4 K3 [I6, I5, I4, iBox p26 133 K1, iBox p25 176 K2] (pk [1, 0, 2, 3, 4, 5]) type25 ?_
 refine nt' (sr ?_)
 refine wv (fun W hm => rv_loadN (cs := K3) underlying133 type133 rfl rfl (hm.boxCells (n := 0) rfl)) ?_
 refine sb 0 K3 [iBox p27 133 K3, I6, I5, I4, iBox p25 176 K2] (pk [4, 0, 1, 2, 3, 5]) type133 ?_
 refine nt' (CM_ret ?_)
 have he43 := (show laws_toCharge_m x0 = (⟨x0.Segment, x0.Base, (laws_toIntS_m x0.Ids), (laws_toIntS_m x0.Tenants), (laws_toIntS_m x0.Rows)⟩ : DCharge) from rfl)
 refine QM_r1 rfl (RR_cell (n := 0) rfl rfl underlying133 type133 rfl) (fun W hm => ⟨K3, ?_, ?_⟩)
 ·first | rw [he43] | rfl
 ·rw [he43]; exact Mem.join (is := [I4, I5, I6]) (js := []) (fun _ _ hs => tyCharge_join (x := (⟨x0.Segment, x0.Base, (laws_toIntS_m x0.Ids), (laws_toIntS_m x0.Tenants), (laws_toIntS_m x0.Rows)⟩ : DCharge)) hs) (hm.pick [4, 3, 2] (by decide))

def laws_toChargeS_b1 (x0 : (List DCharge)) (k9 : Nat) (d10 : (List DCharge)) : (List DCharge) ⊕ ((List DCharge)) :=
 Sum.inr (d10.set k9 (laws_toCharge_m (gt x0 k9)))
def laws_toChargeS_m (x0 : (List DCharge)) : (List DCharge) :=
 Sum.elim id (fun (s : (List DCharge)) => s) (rng (R := (List DCharge)) (fun k (s : (List DCharge)) => laws_toChargeS_b1 x0 k s) (x0.length - 0) 0 (List.replicate x0.length (⟨(0 : Int), (0 : Int), [], [], []⟩ : DCharge)))
theorem cb85 : Cb Tryz.prog 85 := ⟨f85, _, func85, rfl, by decide⟩
theorem laws_toChargeS_c (w : World) (z0 : Value) (x0 : (List DCharge)) (r_0 : rdS tyLCharge w w.heap.size z0 x0) (s_0 : (x0.length ≤ 68719476736 ∧ ∀ y ∈ x0, smCharge 68719476736 y)) :
  Calls Tryz.prog 85 #[z0] w fun e w' => ∃ v : Value, e = .returned (v) ∧ Mem w.heap.size w [iOwn (tSl tyCharge 133) [v] (laws_toChargeS_m x0)] w' := by
 obtain ⟨m1, A2, c3, rfl, q4, r5⟩ := rdS_op r_0
 have l6 : x0.length ≤ 68719476736 := s_0.1
 refine ce1 (L := [(0, .slice A2 x0.length c3)]) (N := 23) func85 ?_
 refine sr (wa (nt' (sr (wm ?_))))
 refine wv (vlen underlying28) ?_
 refine WM_make (E := tyCharge) (n := x0.length) (x0 := (⟨(0 : Int), (0 : Int), [], [], []⟩ : DCharge)) underlying45 type133 rfl rfl rfl (fun _ => ⟨[], [], _, _, rfl, rfl, tInt_own, ⟨[], [], _, _, rfl, rfl, tInt_own, ⟨[], [], _, _, rfl, rfl, own_nil, ⟨[], [], _, _, rfl, rfl, own_nil, own_nil⟩⟩⟩⟩) rfl rfl (show x0.length * 88 ≤ 281474976710656 from by omega) (by omega) (Wd_none rfl) (by decide) (fun p7 => ?_)
 refine wa (nt' (CM_seq (sr (wa (nt' (CM_block ?_))))))
 let F1 := fun k (s : (List DCharge)) => laws_toChargeS_b1 x0 k s
 let R2 := rng (R := (List DCharge)) F1
 refine CM_loop (σ := Nat × ((List DCharge)) × (Unit)) (fun s => [(0, .slice A2 x0.length c3), (3, .slice (some ⟨p7, 0, none⟩) x0.length x0.length), (4, .int .i64 ((s.1 : Nat) : Int))]) (fun s => [iOwn (tSl tyCharge 133) [.slice (some ⟨p7, 0, none⟩) x0.length x0.length] s.2.1]) (fun s => s.1 ≤ x0.length ∧ R2 (x0.length - s.1) s.1 s.2.1 = R2 (x0.length - 0) 0 (List.replicate x0.length (⟨(0 : Int), (0 : Int), [], [], []⟩ : DCharge))) (fun s => x0.length - s.1) (0, (List.replicate x0.length (⟨(0 : Int), (0 : Int), [], [], []⟩ : DCharge)), ()) sl3 (fun W hm => hm) ⟨(by omega), rfl⟩ ?_
 rintro ⟨k9, d10, ⟨⟩⟩ H13
 obtain ⟨hk11, hF12⟩ : k9 ≤ x0.length ∧ R2 (x0.length - k9) k9 d10 = R2 (x0.length - 0) 0 (List.replicate x0.length (⟨(0 : Int), (0 : Int), [], [], []⟩ : DCharge)) := H13
 show CM Tryz.prog 23 _ _ _ _ [(0, .slice A2 x0.length c3), (3, .slice (some ⟨p7, 0, none⟩) x0.length x0.length), (4, .int .i64 ((k9 : Nat) : Int))] [iOwn (tSl tyCharge 133) [.slice (some ⟨p7, 0, none⟩) x0.length x0.length] d10]
 refine CM_seq (sr (wm (wm ?_)))
 refine wv (vlen underlying28) ?_
 refine wv vlss ?_
 refine nt' ?_
 by_cases hl14 : k9 < x0.length
 ·have g15 := dlT hl14
  refine CM_condT rfl g15 ?_
  refine CM_skip (QM_then (CM_seq (CM_block (CM_region (wm (wm (wm (wm ?_))))))))
  obtain ⟨a16, rfl, hb17, he18⟩ := q4 (by omega)
  refine wv (vix 5 k9 underlying28 type176) ?_
  obtain ⟨_, e26, hc19⟩ := he18 k9 _ (gt_some (show k9 < x0.length from by omega))
  obtain ⟨v20, v22, v24, rfl, r21, r23, r25⟩ := tyLCharge_rd e26
  have l27 : ((gt x0 k9).Ids).length ≤ 68719476736 := (s_0.2 _ (gt_mem (show k9 < x0.length from by omega))).1
  have l28 : ((gt x0 k9).Tenants).length ≤ 68719476736 := (s_0.2 _ (gt_mem (show k9 < x0.length from by omega))).2.1
  have l29 : ((gt x0 k9).Rows).length ≤ 68719476736 := (s_0.2 _ (gt_mem (show k9 < x0.length from by omega))).2.2
  obtain ⟨m30, A31, c32, rfl, q33, r34⟩ := rdS_op r21
  obtain ⟨m35, A36, c37, rfl, q38, r39⟩ := rdS_op r23
  obtain ⟨m40, A41, c42, rfl, q43, r44⟩ := rdS_op r25
  refine wv (fun W hm => rv_loadN (cs := [.int .i64 ((gt x0 k9).Segment), .int .i64 ((gt x0 k9).Base), .slice A31 ((gt x0 k9).Ids).length c32, .slice A36 ((gt x0 k9).Tenants).length c37, .slice A41 ((gt x0 k9).Rows).length c42]) underlying176 type176 rfl rfl (hm.elCells (show (a16.add (k9 * 5)).block < w.heap.size from by rw [add_block]; exact hb17.1) hc19)) ?_
  refine wcs tyCharge (laws_toCharge_m (gt x0 k9)) (cl_fn cb165 rfl) (fun W hm => laws_toCharge_c W _ (gt x0 k9) (tyLCharge_mk (x := (gt x0 k9)) (hm.rdS0 r34) (hm.rdS0 r39) (hm.rdS0 r44)) (s_0.2 _ (gt_mem (show k9 < x0.length from by omega)))) (fun z45 => ?_)
  refine tyCharge_sp ?_
  rintro ⟨v46, v47, v48⟩ rfl
  refine WM_form (n := 0) rfl ?_
  rintro A49 c50 rfl m51
  refine WM_form (n := 1) rfl ?_
  rintro A53 c54 rfl m55
  refine WM_form (n := 2) rfl ?_
  rintro A57 c58 rfl m59
  refine wv (vix 5 k9 underlying45 type133) ?_
  refine WM_setEl (E := tyCharge) (e := 133) (u := .agg #[.int .i64 ((laws_toCharge_m (gt x0 k9)).Segment), .int .i64 ((laws_toCharge_m (gt x0 k9)).Base), .slice A49 ((laws_toCharge_m (gt x0 k9)).Ids).length c50, .slice A53 ((laws_toCharge_m (gt x0 k9)).Tenants).length c54, .slice A57 ((laws_toCharge_m (gt x0 k9)).Rows).length c58]) (k := k9) (p := p7) (n := x0.length) (xs := d10) (eis := [iOwn (tSl tInt 3) [.slice A49 ((laws_toCharge_m (gt x0 k9)).Ids).length c50] ((laws_toCharge_m (gt x0 k9)).Ids), iOwn (tSl tInt 3) [.slice A53 ((laws_toCharge_m (gt x0 k9)).Tenants).length c54] ((laws_toCharge_m (gt x0 k9)).Tenants), iOwn (tSl tInt 3) [.slice A57 ((laws_toCharge_m (gt x0 k9)).Rows).length c58] ((laws_toCharge_m (gt x0 k9)).Rows)]) (js := []) (yv := (laws_toCharge_m (gt x0 k9))) (pk [3, 0, 1, 2]) (fun _ _ hs => (tyCharge_join (x := (laws_toCharge_m (gt x0 k9))) hs)) rfl type133 rfl (by omega) rfl rfl (Wd_none rfl) ?_
  refine WM_nil (QM_block_normal (QM_then (CM_region (wm ?_))))
  refine wv (vadN k9 1 (by omega)) ?_
  refine wa (WM_nil ?_)
  have hn61 := rng_next (R := (List DCharge)) (body := F1) (k := k9) (s := d10) (s' := (d10.set k9 (laws_toCharge_m (gt x0 k9)))) (show k9 < x0.length from by omega) (rfl) hF12
  exact QM_round (k9 + 1, (d10.set k9 (laws_toCharge_m (gt x0 k9))), ()) sl3 (fun W hm => hm) ⟨(by omega), hn61⟩ (rl (by omega))
 ·have g15 := dlF hl14
  refine CM_condF rfl g15 ?_
  refine CM_exit (QM_then_exit (QM_then_exit ?_))
  have hE62 : R2 (x0.length - 0) 0 (List.replicate x0.length (⟨(0 : Int), (0 : Int), [], [], []⟩ : DCharge)) = Sum.inr d10 := rng_end hl14 hF12
  refine QM_block_hit (QM_then (sr (wm (wa (nt' (CM_ret ?_))))))
  have he63 := (show laws_toChargeS_m x0 = d10 from fin_inr hE62 (rfl))
  refine QM_r1 rfl (RR_tmp rfl) (fun W hm => ⟨.slice (some ⟨p7, 0, none⟩) x0.length x0.length, ?_, ?_⟩)
  ·first | rw [he63] | rfl
  ·rw [he63]; exact hm

def laws_toEngine_m (x0 : DEngine) : DEngine :=
 (⟨(laws_toStore_m x0.Store), x0.Cursor, (laws_toIntS_m x0.Order), (laws_toActiveS_m x0.Active), (laws_toFinishedS_m x0.Done), (laws_toChargeS_m x0.Ledger), x0.Steps⟩ : DEngine)
theorem cb16 : Cb Tryz.prog 16 := ⟨f16, _, func16, rfl, by decide⟩
theorem laws_toEngine_c (w : World) (z0 : List Value) (x0 : DEngine) (r_0 : tyLEngine.rd w w.heap.size z0 x0) (s_0 : smEngine 68719476736 x0) :
  Calls Tryz.prog 16 #[.agg z0.toArray] w fun e w' => ∃ v : List Value, e = .returned (.agg v.toArray) ∧ Mem w.heap.size w [iOwn tyEngine v (laws_toEngine_m x0)] w' := by
 obtain ⟨v1, v3, v5, v7, v9, rfl, r2, r4, r6, r8, r10⟩ := tyLEngine_rd r_0
 obtain ⟨m11, A12, c13, rfl, q14, r15⟩ := rdS_op r2
 obtain ⟨m16, A17, c18, rfl, q19, r20⟩ := rdS_op r4
 obtain ⟨m21, A22, c23, rfl, q24, r25⟩ := rdS_op r6
 obtain ⟨m26, A27, c28, rfl, q29, r30⟩ := rdS_op r8
 obtain ⟨m31, A32, c33, rfl, q34, r35⟩ := rdS_op r10
 have l36 : x0.Store.Segments.length ≤ 68719476736 := s_0.1.1
 have l37 : x0.Order.length ≤ 68719476736 := s_0.2.1
 have l38 : x0.Active.length ≤ 68719476736 := s_0.2.2.1.1
 have l39 : x0.Done.length ≤ 68719476736 := s_0.2.2.2.1.1
 have l40 : x0.Ledger.length ≤ 68719476736 := s_0.2.2.2.2.1
 refine ce1 (L := [(0, .agg #[.slice A12 x0.Store.Segments.length c13, .int .i64 x0.Store.Now, .int .i64 x0.Cursor, .slice A17 x0.Order.length c18, .slice A22 x0.Active.length c23, .slice A27 x0.Done.length c28, .slice A32 x0.Ledger.length c33, .int .i64 x0.Steps])]) (N := 31) func16 ?_
 refine sr ?_
 refine WM_box rfl (Wd_none rfl) (by decide) (fun p41 => ?_)
 refine WM_alloc type47 rfl (Wd_none rfl) (by decide) (fun p42 => ?_)
 refine nt' (sr ?_)
 refine WM_alloc type47 rfl (Wd_none rfl) (by decide) (fun p43 => ?_)
 refine nt' (sr ?_)
 refine wv (vf underlying30 rfl type24) ?_
 refine wv (fun W hm => rv_loadN (cs := [.slice A12 x0.Store.Segments.length c13, .int .i64 x0.Store.Now]) underlying24 type24 rfl rfl (hm.boxPart (n := 2) rfl rfl)) ?_
 refine wcs tyStore (laws_toStore_m x0.Store) (cl_fn cb82 rfl) (fun W hm => laws_toStore_c W _ x0.Store (tyLStore_mk (x := x0.Store) (hm.rdS0 r15)) s_0.1) (fun z44 => ?_)
 refine tyStore_sp ?_
 rintro v45 rfl
 refine WM_form (n := 0) rfl ?_
 rintro A46 c47 rfl m48
 refine wv (vf underlying47 rfl type42) ?_
 let K1 : List Value := [.slice A46 ((laws_toStore_m x0.Store).Segments).length c47]
 let K2 : List Value := [.slice none 0 0, .int .i64 0, .int .i64 0, .slice none 0 0, .slice none 0 0, .slice none 0 0, .slice none 0 0, .int .i64 0]
 let K3 : List Value := [.slice A12 x0.Store.Segments.length c13, .int .i64 x0.Store.Now, .int .i64 x0.Cursor, .slice A17 x0.Order.length c18, .slice A22 x0.Active.length c23, .slice A27 x0.Done.length c28, .slice A32 x0.Ledger.length c33, .int .i64 x0.Steps]
 let I5 : It := iOwn (tSl (tSl tyVersion 191) 131) K1 ((laws_toStore_m x0.Store).Segments)
 refine sb 0 [.slice A46 ((laws_toStore_m x0.Store).Segments).length c47, .int .i64 ((laws_toStore_m x0.Store).Now), .int .i64 0, .slice none 0 0, .slice none 0 0, .slice none 0 0, .slice none 0 0, .int .i64 0] [I5, iBox p42 47 K2, iBox p41 30 K3] (pk [1, 0, 2, 3]) type42 ?_
 refine nt' (sr ?_)
 refine wv (vf underlying30 rfl type3) ?_
 refine wv (vl 3 2 underlying3) ?_
 refine wv (vf underlying47 rfl type3) ?_
 refine sb 2 [.slice A46 ((laws_toStore_m x0.Store).Segments).length c47, .int .i64 ((laws_toStore_m x0.Store).Now), .int .i64 x0.Cursor, .slice none 0 0, .slice none 0 0, .slice none 0 0, .slice none 0 0, .int .i64 0] [I5, iBox p42 47 K2, iBox p41 30 K3] (fun W hm => hm) type3 ?_
 refine nt' (sr ?_)
 refine wv (vf underlying30 rfl type25) ?_
 refine wv (vl 3 3 underlying25) ?_
 refine wcl (tSl tInt 3) (laws_toIntS_m x0.Order) (cl_fn cb48 rfl) (fun W hm => laws_toIntS_c W _ x0.Order (hm.rdS0 r20) s_0.2.1) (fun z50 => ?_)
 refine WM_form (n := 0) rfl ?_
 rintro A51 c52 rfl m53
 refine wv (vf underlying47 rfl type25) ?_
 let I6 : It := iOwn (tSl tInt 3) [.slice A51 (laws_toIntS_m x0.Order).length c52] (laws_toIntS_m x0.Order)
 refine sb 3 [.slice A46 ((laws_toStore_m x0.Store).Segments).length c47, .int .i64 ((laws_toStore_m x0.Store).Now), .int .i64 x0.Cursor, .slice A51 (laws_toIntS_m x0.Order).length c52, .slice none 0 0, .slice none 0 0, .slice none 0 0, .int .i64 0] [I6, I5, iBox p42 47 K2, iBox p41 30 K3] (pk [1, 0, 2, 3, 4]) type25 ?_
 refine nt' (sr ?_)
 refine wv (vf underlying30 rfl type26) ?_
 refine wv (vl 4 4 underlying26) ?_
 refine wcl (tSl tyActive 64) (laws_toActiveS_m x0.Active) (cl_fn cb83 rfl) (fun W hm => laws_toActiveS_c W _ x0.Active (hm.rdS0 r25) s_0.2.2.1) (fun z55 => ?_)
 refine WM_form (n := 0) rfl ?_
 rintro A56 c57 rfl m58
 refine wv (vf underlying47 rfl type43) ?_
 let I7 : It := iOwn (tSl tyActive 64) [.slice A56 (laws_toActiveS_m x0.Active).length c57] (laws_toActiveS_m x0.Active)
 refine sb 4 [.slice A46 ((laws_toStore_m x0.Store).Segments).length c47, .int .i64 ((laws_toStore_m x0.Store).Now), .int .i64 x0.Cursor, .slice A51 (laws_toIntS_m x0.Order).length c52, .slice A56 (laws_toActiveS_m x0.Active).length c57, .slice none 0 0, .slice none 0 0, .int .i64 0] [I7, I6, I5, iBox p42 47 K2, iBox p41 30 K3] (pk [1, 0, 2, 3, 4, 5]) type43 ?_
 refine nt' (sr ?_)
 refine wv (vf underlying30 rfl type27) ?_
 refine wv (vl 5 5 underlying27) ?_
 refine wcl (tSl tyFinished 37) (laws_toFinishedS_m x0.Done) (cl_fn cb84 rfl) (fun W hm => laws_toFinishedS_c W _ x0.Done (hm.rdS0 r30) s_0.2.2.2.1) (fun z60 => ?_)
 refine WM_form (n := 0) rfl ?_
 rintro A61 c62 rfl m63
 refine wv (vf underlying47 rfl type44) ?_
 let I8 : It := iOwn (tSl tyFinished 37) [.slice A61 (laws_toFinishedS_m x0.Done).length c62] (laws_toFinishedS_m x0.Done)
 refine sb 5 [.slice A46 ((laws_toStore_m x0.Store).Segments).length c47, .int .i64 ((laws_toStore_m x0.Store).Now), .int .i64 x0.Cursor, .slice A51 (laws_toIntS_m x0.Order).length c52, .slice A56 (laws_toActiveS_m x0.Active).length c57, .slice A61 (laws_toFinishedS_m x0.Done).length c62, .slice none 0 0, .int .i64 0] [I8, I7, I6, I5, iBox p42 47 K2, iBox p41 30 K3] (pk [1, 0, 2, 3, 4, 5, 6]) type44 ?_
 refine nt' (sr ?_)
 refine wv (vf underlying30 rfl type28) ?_
 refine wv (vl 6 6 underlying28) ?_
 refine wcl (tSl tyCharge 133) (laws_toChargeS_m x0.Ledger) (cl_fn cb85 rfl) (fun W hm => laws_toChargeS_c W _ x0.Ledger (hm.rdS0 r35) s_0.2.2.2.2) (fun z65 => ?_)
 refine WM_form (n := 0) rfl ?_
 rintro A66 c67 rfl m68
 refine wv (vf underlying47 rfl type45) ?_
 let I9 : It := iOwn (tSl tyCharge 133) [.slice A66 (laws_toChargeS_m x0.Ledger).length c67] (laws_toChargeS_m x0.Ledger)
 refine sb 6 [.slice A46 ((laws_toStore_m x0.Store).Segments).length c47, .int .i64 ((laws_toStore_m x0.Store).Now), .int .i64 x0.Cursor, .slice A51 (laws_toIntS_m x0.Order).length c52, .slice A56 (laws_toActiveS_m x0.Active).length c57, .slice A61 (laws_toFinishedS_m x0.Done).length c62, .slice A66 (laws_toChargeS_m x0.Ledger).length c67, .int .i64 0] [I9, I8, I7, I6, I5, iBox p42 47 K2, iBox p41 30 K3] (pk [1, 0, 2, 3, 4, 5, 6, 7]) type45 ?_
 refine nt' (sr ?_)
 refine wv (vf underlying30 rfl type3) ?_
 refine wv (vl 7 7 underlying3) ?_
 refine wv (vf underlying47 rfl type3) ?_
 let K4 : List Value := [.slice A46 ((laws_toStore_m x0.Store).Segments).length c47, .int .i64 ((laws_toStore_m x0.Store).Now), .int .i64 x0.Cursor, .slice A51 (laws_toIntS_m x0.Order).length c52, .slice A56 (laws_toActiveS_m x0.Active).length c57, .slice A61 (laws_toFinishedS_m x0.Done).length c62, .slice A66 (laws_toChargeS_m x0.Ledger).length c67, .int .i64 x0.Steps]
 refine sb 7 K4 [I9, I8, I7, I6, I5, iBox p42 47 K2, iBox p41 30 K3] (fun W hm => hm) type3 ?_
 refine nt' (sr ?_)
 refine wv (fun W hm => rv_loadN (cs := K4) underlying47 type47 rfl rfl (hm.boxCells (n := 0) rfl)) ?_
 refine sb 0 K4 [iBox p43 47 K4, I9, I8, I7, I6, I5, iBox p41 30 K3] (pk [6, 0, 1, 2, 3, 4, 5, 7]) type47 ?_
 refine nt' (CM_ret ?_)
 have he70 := (show laws_toEngine_m x0 = (⟨(laws_toStore_m x0.Store), x0.Cursor, (laws_toIntS_m x0.Order), (laws_toActiveS_m x0.Active), (laws_toFinishedS_m x0.Done), (laws_toChargeS_m x0.Ledger), x0.Steps⟩ : DEngine) from rfl)
 refine QM_r1 rfl (RR_cell (n := 0) rfl rfl underlying47 type47 rfl) (fun W hm => ⟨K4, ?_, ?_⟩)
 ·first | rw [he70] | rfl
 ·rw [he70]; exact Mem.join (is := [I5, I6, I7, I8, I9]) (js := []) (fun _ _ hs => tyEngine_join (x := (⟨(laws_toStore_m x0.Store), x0.Cursor, (laws_toIntS_m x0.Order), (laws_toActiveS_m x0.Active), (laws_toFinishedS_m x0.Done), (laws_toChargeS_m x0.Ledger), x0.Steps⟩ : DEngine)) hs) (hm.pick [6, 5, 4, 3, 2] (by decide))

def spec_l7One_m (x0 : Int) (x1 : (List Int)) (x2 : Int) (x3 : Int) : DVersion :=
 (⟨x0, x1, x2, x3⟩ : DVersion)
theorem cb231 : Cb Tryz.prog 231 := ⟨f231, _, func231, rfl, by decide⟩
theorem spec_l7One_c (w : World) (x0 : Int) (z1 : Value) (x1 : (List Int)) (x2 : Int) (x3 : Int) (r_1 : rdS tInt w w.heap.size z1 x1) (s_1 : x1.length ≤ 68719476736) :
  Calls Tryz.prog 231 #[.int .i64 x0, z1, .int .i64 x2, .int .i64 x3] w fun e w' => ∃ v : List Value, e = .returned (.agg v.toArray) ∧ Mem w.heap.size w [iOwn tyVersion v (spec_l7One_m x0 x1 x2 x3)] w' := by
 obtain ⟨m1, A2, c3, rfl, q4, r5⟩ := rdS_op r_1
 have l6 : x1.length ≤ 68719476736 := s_1
 refine ce4 (L := [(0, .int .i64 x0), (1, .slice A2 x1.length c3), (2, .int .i64 x2), (3, .int .i64 x3)]) (N := 16) func231 ?_
 refine sr ?_
 refine WM_alloc type191 rfl (Wd_none rfl) (by decide) (fun p7 => ?_)
 refine nt' (sr (wm ?_))
 refine WM_build0 (E := tInt) underlying25 type3 (Wd_none rfl) (by decide) (fun p8 => ?_)
 refine wm ?_
 refine apR tInt tInt 3 (.slice (some ⟨p8, 0, none⟩) 0 0) [] x1 [iBox p7 191 [.int .i64 0, .slice none 0 0, .int .i64 0, .int .i64 0]] (fun W hm => hm) (fun W hm => src_flat flat_int (hm.rdS0 r5)) underlying25 type3 (show (0 + x1.length) * 8 ≤ 140737488355328 from by omega) (fun v10 => ?_)
 refine WM_form (n := 0) rfl ?_
 rintro A11 c12 rfl m13
 refine wm (wm ?_)
 let K1 : List Value := [.int .i64 x0, .slice A11 x1.length c12, .int .i64 x2, .int .i64 x3]
 refine wv (fun W hm => rv_build (cs := K1) rfl (by kernel_rfl)) ?_
 let I2 : It := iOwn (tSl tInt 3) [.slice A11 x1.length c12] x1
 refine sb 0 K1 [I2] (pk [1, 0]) type191 ?_
 refine nt' (CM_ret ?_)
 have he15 := (show spec_l7One_m x0 x1 x2 x3 = (⟨x0, x1, x2, x3⟩ : DVersion) from rfl)
 refine QM_r1 rfl (RR_cell (n := 0) rfl rfl underlying191 type191 rfl) (fun W hm => ⟨K1, ?_, ?_⟩)
 ·first | rw [he15] | rfl
 ·rw [he15]; exact Mem.join (is := [I2]) (js := []) (fun _ _ hs => tyVersion_join (x := (⟨x0, x1, x2, x3⟩ : DVersion)) hs) (hm.pick [1] (by decide))

def spec_l7Part_b1 (x0 : (List DVersion)) (k9 : Nat) (d10 : (List DVersion)) : (List DVersion) ⊕ ((List DVersion)) :=
 Sum.inr (d10 ++ [(spec_l7One_m ((gt x0 k9).Id) ((gt x0 k9).Values) ((gt x0 k9).Born) ((gt x0 k9).Died))])
def spec_l7Part_m (x0 : (List DVersion)) : (List DVersion) :=
 Sum.elim id (fun (s : (List DVersion)) => s) (rng (R := (List DVersion)) (fun k (s : (List DVersion)) => spec_l7Part_b1 x0 k s) (x0.length - 0) 0 [])
theorem cb213 : Cb Tryz.prog 213 := ⟨f213, _, func213, rfl, by decide⟩
theorem spec_l7Part_c (w : World) (z0 : Value) (x0 : (List DVersion)) (r_0 : rdS tyVersion w w.heap.size z0 x0) (s_0 : (x0.length ≤ 68719476736 ∧ ∀ y ∈ x0, smVersion 68719476736 y)) :
  Calls Tryz.prog 213 #[z0] w fun e w' => ∃ v : Value, e = .returned (v) ∧ Mem w.heap.size w [iOwn (tSl tyVersion 191) [v] (spec_l7Part_m x0)] w' := by
 obtain ⟨m1, A2, c3, rfl, q4, r5⟩ := rdS_op r_0
 have l6 : x0.length ≤ 68719476736 := s_0.1
 refine ce1 (L := [(0, .slice A2 x0.length c3)]) (N := 37) func213 ?_
 refine sr (wa (nt' (sr ?_)))
 refine WM_build0 (E := tyVersion) underlying131 type191 (Wd_none rfl) (by decide) (fun p7 => ?_)
 refine wa (nt' (CM_seq (sr (wa (nt' (CM_block ?_))))))
 let F1 := fun k (s : (List DVersion)) => spec_l7Part_b1 x0 k s
 let R2 := rng (R := (List DVersion)) F1
 refine CM_loop (σ := Nat × ((List DVersion)) × (Option Addr × Nat)) (fun s => [(0, .slice A2 x0.length c3), (3, .slice s.2.2.1 s.2.1.length s.2.2.2), (4, .int .i64 ((s.1 : Nat) : Int))]) (fun s => [iOwn (tSl tyVersion 191) [.slice s.2.2.1 s.2.1.length s.2.2.2] s.2.1]) (fun s => s.1 ≤ x0.length ∧ R2 (x0.length - s.1) s.1 s.2.1 = R2 (x0.length - 0) 0 [] ∧ s.2.1.length ≤ 0 + s.1) (fun s => x0.length - s.1) (0, [], ((some ⟨p7, 0, none⟩), 0)) sl3 (fun W hm => hm) ⟨(by omega), rfl, Nat.le_refl _⟩ ?_
 rintro ⟨k9, d10, ⟨A11, c12⟩⟩ H15
 obtain ⟨hk13, hF14, hi16⟩ : k9 ≤ x0.length ∧ R2 (x0.length - k9) k9 d10 = R2 (x0.length - 0) 0 [] ∧ d10.length ≤ 0 + k9 := H15
 show CM Tryz.prog 37 _ _ _ _ [(0, .slice A2 x0.length c3), (3, .slice A11 d10.length c12), (4, .int .i64 ((k9 : Nat) : Int))] [iOwn (tSl tyVersion 191) [.slice A11 d10.length c12] d10]
 refine CM_seq (sr (wm (wm ?_)))
 refine wv (vlen underlying131) ?_
 refine wv vlss ?_
 refine nt' ?_
 by_cases hl17 : k9 < x0.length
 ·have g18 := dlT hl17
  refine CM_condT rfl g18 ?_
  refine CM_skip (QM_then (CM_seq (CM_block ?_)))
  refine rb 25 (s := []) (pk []) ?_
  refine qt 25 0 1 rfl vmv ?_
  refine qt 25 1 3 rfl vmv ?_
  refine qt 25 2 7 rfl vmv ?_
  obtain ⟨a19, rfl, hb20, he21⟩ := q4 (by omega)
  refine qt 25 3 15 rfl (vix 4 k9 underlying131 type191) ?_
  refine qt 25 4 31 rfl (vf underlying191 rfl type3) ?_
  obtain ⟨_, e25, hc22⟩ := he21 k9 _ (gt_some (show k9 < x0.length from by omega))
  obtain ⟨v23, rfl, r24⟩ := tyVersion_rd e25
  have l26 : ((gt x0 k9).Values).length ≤ 68719476736 := (s_0.2 _ (gt_mem (show k9 < x0.length from by omega)))
  obtain ⟨m27, A28, c29, rfl, q30, r31⟩ := rdS_op r24
  refine qt 25 5 63 rfl (fun W hm => rv_load underlying3 rfl rfl ((hm.cell0 (show ((a19.add (k9 * 4)).add 0).block < w.heap.size from by rw [add_block, add_block]; exact hb20.1)).trans (hc22 0 _ rfl))) ?_
  refine qt 25 6 127 rfl vmv ?_
  refine qt 25 7 255 rfl vmv ?_
  refine qt 25 8 511 rfl (vix 4 k9 underlying131 type191) ?_
  refine qt 25 9 1023 rfl (vf underlying191 rfl type25) ?_
  refine qt 25 10 2047 rfl (fun W hm => rv_load underlying25 rfl rfl ((hm.cell0 (show ((a19.add (k9 * 4)).add 1).block < w.heap.size from by rw [add_block, add_block]; exact hb20.1)).trans (hc22 1 _ rfl))) ?_
  refine qt 25 11 4095 rfl vmv ?_
  refine qt 25 12 8191 rfl vmv ?_
  refine qt 25 13 16383 rfl (vix 4 k9 underlying131 type191) ?_
  refine qt 25 14 32767 rfl (vf underlying191 rfl type3) ?_
  refine qt 25 15 65535 rfl (fun W hm => rv_load underlying3 rfl rfl ((hm.cell0 (show ((a19.add (k9 * 4)).add 2).block < w.heap.size from by rw [add_block, add_block]; exact hb20.1)).trans (hc22 2 _ rfl))) ?_
  refine qt 25 16 131071 rfl vmv ?_
  refine qt 25 17 262143 rfl vmv ?_
  refine qt 25 18 524287 rfl (vix 4 k9 underlying131 type191) ?_
  refine qt 25 19 1048575 rfl (vf underlying191 rfl type3) ?_
  refine qt 25 20 2097151 rfl (fun W hm => rv_load underlying3 rfl rfl ((hm.cell0 (show ((a19.add (k9 * 4)).add 3).block < w.heap.size from by rw [add_block, add_block]; exact hb20.1)).trans (hc22 3 _ rfl))) ?_
  refine qo 25 21 4194303 rfl ?_
  refine wcs tyVersion (spec_l7One_m ((gt x0 k9).Id) ((gt x0 k9).Values) ((gt x0 k9).Born) ((gt x0 k9).Died)) (cl_fn cb231 rfl) (fun W hm => spec_l7One_c W ((gt x0 k9).Id) _ ((gt x0 k9).Values) ((gt x0 k9).Born) ((gt x0 k9).Died) (hm.rdS0 r31) (s_0.2 _ (gt_mem (show k9 < x0.length from by omega)))) (fun z32 => ?_)
  refine tyVersion_sp ?_
  rintro v33 rfl
  refine WM_form (n := 0) rfl ?_
  rintro A34 c35 rfl m36
  refine qn (pk []) ?_
  refine qo 25 22 8388607 rfl ?_
  let K3 : List Value := [.int .i64 ((spec_l7One_m ((gt x0 k9).Id) ((gt x0 k9).Values) ((gt x0 k9).Born) ((gt x0 k9).Died)).Id), .slice A34 ((spec_l7One_m ((gt x0 k9).Id) ((gt x0 k9).Values) ((gt x0 k9).Born) ((gt x0 k9).Died)).Values).length c35, .int .i64 ((spec_l7One_m ((gt x0 k9).Id) ((gt x0 k9).Values) ((gt x0 k9).Born) ((gt x0 k9).Died)).Born), .int .i64 ((spec_l7One_m ((gt x0 k9).Id) ((gt x0 k9).Values) ((gt x0 k9).Born) ((gt x0 k9).Died)).Died)]
  refine WM_build (cs := K3) underlying131 type191 rfl (by decide) (by decide) rfl (by kernel_rfl) (Wd_none rfl) (by decide) (fun p38 => ?_)
  refine qn (pk []) ?_
  refine qo 25 23 16777215 rfl ?_
  refine ap1 tyVersion 191 (.slice A11 d10.length c12) d10 (spec_l7One_m ((gt x0 k9).Id) ((gt x0 k9).Values) ((gt x0 k9).Born) ((gt x0 k9).Died)) [iOwn (tSl tInt 3) [.slice A34 ((spec_l7One_m ((gt x0 k9).Id) ((gt x0 k9).Values) ((gt x0 k9).Born) ((gt x0 k9).Died)).Values).length c35] ((spec_l7One_m ((gt x0 k9).Id) ((gt x0 k9).Values) ((gt x0 k9).Born) ((gt x0 k9).Died)).Values)] [] K3 (pk [0, 2, 1]) (fun _ _ hs => Els.single (tyVersion_join (x := (spec_l7One_m ((gt x0 k9).Id) ((gt x0 k9).Values) ((gt x0 k9).Born) ((gt x0 k9).Died))) hs)) underlying131 type191 (show (d10.length + 1) * 48 ≤ 140737488355328 from by omega) (fun v39 => ?_)
  refine WM_form (n := 0) rfl ?_
  rintro A40 c41 rfl m42
  refine qn (pk []) ?_
  refine qt 25 24 33554431 rfl (fun W hm => rv_assign rfl) ?_
  refine QB_done (by kernel_rfl) ?_
  refine QM_block_normal (QM_then (CM_region (wm ?_)))
  refine wv (vadN k9 1 (by omega)) ?_
  refine wa (WM_nil ?_)
  have hn44 := rng_next (R := (List DVersion)) (body := F1) (k := k9) (s := d10) (s' := (d10 ++ [(spec_l7One_m ((gt x0 k9).Id) ((gt x0 k9).Values) ((gt x0 k9).Born) ((gt x0 k9).Died))])) (show k9 < x0.length from by omega) (rfl) hF14
  exact QM_round (k9 + 1, (d10 ++ [(spec_l7One_m ((gt x0 k9).Id) ((gt x0 k9).Values) ((gt x0 k9).Born) ((gt x0 k9).Died))]), (A40, c41)) sl3 (fun W hm => hm) ⟨(by omega), hn44, (show (d10 ++ [(spec_l7One_m ((gt x0 k9).Id) ((gt x0 k9).Values) ((gt x0 k9).Born) ((gt x0 k9).Died))]).length ≤ 0 + (k9 + 1) from by first | omega | (simp only [List.length_append, List.length_cons, List.length_nil] at *; omega))⟩ (rl (by omega))
 ·have g18 := dlF hl17
  refine CM_condF rfl g18 ?_
  refine CM_exit (QM_then_exit (QM_then_exit ?_))
  have hE45 : R2 (x0.length - 0) 0 [] = Sum.inr d10 := rng_end hl17 hF14
  refine QM_block_hit (QM_then (sr (wm (wa (nt' (CM_ret ?_))))))
  have he46 := (show spec_l7Part_m x0 = d10 from fin_inr hE45 (rfl))
  refine QM_r1 rfl (RR_tmp rfl) (fun W hm => ⟨.slice A11 d10.length c12, ?_, ?_⟩)
  ·first | rw [he46] | rfl
  ·rw [he46]; exact hm
theorem spec_l7Part_eq (x0 : (List DVersion)) : spec_l7Part_m x0 = x0 := by
 unfold spec_l7Part_m; rw [rng_app (xs := x0) (b := fun k s => spec_l7Part_b1 x0 k s) (fun _ _ => rfl)]; rfl
theorem spec_l7Part_c2 (w : World) (z0 : Value) (x0 : (List DVersion)) (r_0 : rdS tyVersion w w.heap.size z0 x0) (s_0 : (x0.length ≤ 68719476736 ∧ ∀ y ∈ x0, smVersion 68719476736 y)) :
  Calls Tryz.prog 213 #[z0] w fun e w' => ∃ v : Value, e = .returned (v) ∧ Mem w.heap.size w [iOwn (tSl tyVersion 191) [v] x0] w' := by
 have h := spec_l7Part_c w z0 x0 r_0 s_0
 rw [spec_l7Part_eq] at h
 exact h

def spec_l7Copy_b1 (x0 : DStore) (k12 : Nat) (d15 : (List (List DVersion))) : DStore ⊕ ((List (List DVersion))) :=
 Sum.inr (d15 ++ [(gt x0.Segments k12)])
def spec_l7Copy_m (x0 : DStore) : DStore :=
 Sum.elim id (fun (s : (List (List DVersion))) => (⟨s, x0.Now⟩ : DStore)) (rng (R := DStore) (fun k (s : (List (List DVersion))) => spec_l7Copy_b1 x0 k s) (x0.Segments.length - 0) 0 [])
theorem cb159 : Cb Tryz.prog 159 := ⟨f159, _, func159, rfl, by decide⟩
theorem spec_l7Copy_c (w : World) (z0 : List Value) (x0 : DStore) (r_0 : tyStore.rd w w.heap.size z0 x0) (s_0 : smStore 68719476736 x0) :
  Calls Tryz.prog 159 #[.agg z0.toArray] w fun e w' => ∃ v : List Value, e = .returned (.agg v.toArray) ∧ Mem w.heap.size w [iOwn tyStore v (spec_l7Copy_m x0)] w' := by
 obtain ⟨v1, rfl, r2⟩ := tyStore_rd r_0
 obtain ⟨m3, A4, c5, rfl, q6, r7⟩ := rdS_op r2
 have l8 : x0.Segments.length ≤ 68719476736 := s_0.1
 refine ce1 (L := [(0, .agg #[.slice A4 x0.Segments.length c5, .int .i64 x0.Now])]) (N := 27) func159 ?_
 refine sr ?_
 refine WM_box rfl (Wd_none rfl) (by decide) (fun p9 => ?_)
 refine WM_alloc type42 rfl (Wd_none rfl) (by decide) (fun p10 => ?_)
 refine nt' (sr ?_)
 refine wv (vf underlying42 rfl type3) ?_
 refine wv (vl 1 1 underlying3) ?_
 refine wv (fun W hm => rv_build (cs := [.slice none 0 0, .int .i64 x0.Now]) rfl (by kernel_rfl)) ?_
 refine WM_alloc type42 rfl (Wd_none rfl) (by decide) (fun p11 => ?_)
 let I3 : It := iBox p9 42 [.slice A4 x0.Segments.length c5, .int .i64 x0.Now]
 refine sb 0 [.slice none 0 0, .int .i64 x0.Now] [iBox p10 42 [.slice none 0 0, .int .i64 0], I3] (fun W hm => hm) type42 ?_
 refine nt' (CM_seq (sr (wa (nt' (CM_block ?_)))))
 refine CM_items (fun W hm => (hm.addNil (E := (tSl tyVersion 191)) (e := 131)).last) ?_
 let F1 := fun k (s : (List (List DVersion))) => spec_l7Copy_b1 x0 k s
 let R2 := rng (R := DStore) F1
 refine CM_loop (σ := Nat × ((List (List DVersion))) × (Option Addr × Nat)) (fun s => [(1, .pointer (some (⟨p9, 0, none⟩ : Addr))), (2, .pointer (some (⟨p10, 0, none⟩ : Addr))), (3, .pointer (some (⟨p11, 0, none⟩ : Addr))), (4, .int .i64 ((s.1 : Nat) : Int))]) (fun s => [iBox p11 42 [.slice s.2.2.1 s.2.1.length s.2.2.2, .int .i64 x0.Now], iBox p10 42 [.slice none 0 0, .int .i64 0], I3, iOwn (tSl (tSl tyVersion 191) 131) [.slice s.2.2.1 s.2.1.length s.2.2.2] s.2.1]) (fun s => s.1 ≤ x0.Segments.length ∧ R2 (x0.Segments.length - s.1) s.1 s.2.1 = R2 (x0.Segments.length - 0) 0 [] ∧ s.2.1.length ≤ 0 + s.1) (fun s => x0.Segments.length - s.1) (0, [], (none, 0)) sl4 (fun W hm => hm) ⟨(by omega), rfl, Nat.le_refl _⟩ ?_
 rintro ⟨k12, d15, ⟨A16, c17⟩⟩ H20
 obtain ⟨hk18, hF19, hi21⟩ : k12 ≤ x0.Segments.length ∧ R2 (x0.Segments.length - k12) k12 d15 = R2 (x0.Segments.length - 0) 0 [] ∧ d15.length ≤ 0 + k12 := H20
 let I4 : It := iBox p11 42 [.slice A16 d15.length c17, .int .i64 x0.Now]
 let I5 : It := iOwn (tSl (tSl tyVersion 191) 131) [.slice A16 d15.length c17] d15
 show CM Tryz.prog 27 _ _ _ _ [(1, .pointer (some (⟨p9, 0, none⟩ : Addr))), (2, .pointer (some (⟨p10, 0, none⟩ : Addr))), (3, .pointer (some (⟨p11, 0, none⟩ : Addr))), (4, .int .i64 ((k12 : Nat) : Int))] [I4, iBox p10 42 [.slice none 0 0, .int .i64 0], I3, I5]
 refine CM_seq (sr (wm ?_))
 refine wv (vf underlying42 rfl type40) ?_
 refine wv (vl 2 0 underlying40) ?_
 refine wv (vlen underlying40) ?_
 refine wv vlss ?_
 refine nt' ?_
 by_cases hl22 : k12 < x0.Segments.length
 ·have g23 := dlT hl22
  refine CM_condT rfl g23 ?_
  refine CM_skip (QM_then (CM_seq (CM_block ?_)))
  refine rd2 12 [11] (s := [iBox p10 42 [.slice none 0 0, .int .i64 0]]) (s2 := [I4, iBox p10 42 [.slice none 0 0, .int .i64 0], I3]) (pk [1]) (pk [0, 1, 2]) ?_
  refine qtD 12 0 1 rfl (vf underlying42 rfl type40) ?_
  refine qtD 12 1 3 rfl (vl 0 0 underlying40) ?_
  refine qtD 12 2 7 rfl (vf underlying42 rfl type40) ?_
  refine qtD 12 3 15 rfl (vl 2 0 underlying40) ?_
  refine qtD 12 4 31 rfl vmv ?_
  obtain ⟨a24, rfl, hb25, he26⟩ := q6 (by omega)
  refine qtD 12 5 63 rfl (vix 1 k12 underlying40 type131) ?_
  obtain ⟨_, e28, hc27⟩ := he26 k12 _ (gt_some (show k12 < x0.Segments.length from by omega))
  have l29 : (gt x0.Segments k12).length ≤ 68719476736 := (s_0.2 _ (gt_mem (show k12 < x0.Segments.length from by omega))).1
  obtain ⟨v30, rfl, r31⟩ := e28
  obtain ⟨m32, A33, c34, rfl, q35, r36⟩ := rdS_op r31
  refine qtD 12 6 127 rfl (fun W hm => rv_load underlying131 rfl rfl ((hm.cell0 (show (a24.add (k12 * 1)).block < w.heap.size from by rw [add_block]; exact hb25.1)).trans (hc27 0 _ rfl))) ?_
  refine qoD 12 7 255 rfl ?_
  refine wcl (tSl tyVersion 191) (gt x0.Segments k12) (cl_fn cb213 rfl) (fun W hm => spec_l7Part_c2 W _ (gt x0.Segments k12) (hm.rdS0 r36) (s_0.2 _ (gt_mem (show k12 < x0.Segments.length from by omega)))) (fun z37 => ?_)
  refine WM_form (n := 0) rfl ?_
  rintro A38 c39 rfl m40
  refine qnD (pk [2]) (pk [1, 2, 3]) ?_
  refine qoD 12 8 511 rfl ?_
  refine WM_build (cs := [.slice A38 (gt x0.Segments k12).length c39]) underlying40 type131 rfl (by decide) (by decide) rfl (by kernel_rfl) (Wd_none rfl) (by decide) (fun p42 => ?_)
  refine qnD (pk [3]) (pk [2, 3, 4]) ?_
  refine qoD 12 9 1023 rfl ?_
  let I6 : It := iBox p9 42 [.slice (some a24) x0.Segments.length c5, .int .i64 x0.Now]
  refine ap1 (tSl tyVersion 191) 131 (.slice A16 d15.length c17) d15 (gt x0.Segments k12) [iOwn (tSl tyVersion 191) [.slice A38 (gt x0.Segments k12).length c39] (gt x0.Segments k12)] [I4, iBox p10 42 [.slice none 0 0, .int .i64 0], I6] [.slice A38 (gt x0.Segments k12).length c39] (pk [0, 5, 1, 2, 3, 4]) (fun _ _ hs => Els.single (Sep.one hs)) underlying40 type131 (show (d15.length + 1) * 24 ≤ 140737488355328 from by omega) (fun v43 => ?_)
  refine WM_form (n := 0) rfl ?_
  rintro A44 c45 rfl m46
  refine qnD (pk [2]) (pk [1, 2, 3]) ?_
  refine qtD 12 10 2047 rfl (vf underlying42 rfl type40) ?_
  refine qoD 12 11 4095 rfl ?_
  refine sb 0 [.slice A44 (d15 ++ [(gt x0.Segments k12)]).length c45, .int .i64 x0.Now] [iOwn (tSl (tSl tyVersion 191) 131) [.slice A44 (d15 ++ [(gt x0.Segments k12)]).length c45] (d15 ++ [(gt x0.Segments k12)]), iBox p10 42 [.slice none 0 0, .int .i64 0], I6] (pk [1, 0, 2, 3]) type40 ?_
  refine qxD (pk [2]) ?_
  refine QB_done (by kernel_rfl) ?_
  refine QM_block_normal (QM_then (CM_region (wm ?_)))
  refine wv (vadN k12 1 (by omega)) ?_
  refine wa (WM_nil ?_)
  have hn48 := rng_next (R := DStore) (body := F1) (k := k12) (s := d15) (s' := (d15 ++ [(gt x0.Segments k12)])) (show k12 < x0.Segments.length from by omega) (rfl) hF19
  exact QM_round (k12 + 1, (d15 ++ [(gt x0.Segments k12)]), (A44, c45)) sl4 (pk [0, 2, 3, 1]) ⟨(by omega), hn48, (show (d15 ++ [(gt x0.Segments k12)]).length ≤ 0 + (k12 + 1) from by first | omega | (simp only [List.length_append, List.length_cons, List.length_nil] at *; omega))⟩ (rl (by omega))
 ·have g23 := dlF hl22
  refine CM_condF rfl g23 ?_
  refine CM_exit (QM_then_exit (QM_then_exit ?_))
  have hE49 : R2 (x0.Segments.length - 0) 0 [] = Sum.inr d15 := rng_end hl22 hF19
  refine QM_block_hit (QM_then (sr ?_))
  refine wv (fun W hm => rv_loadN (cs := [.slice A16 d15.length c17, .int .i64 x0.Now]) underlying42 type42 rfl rfl (hm.boxCells (n := 0) rfl)) ?_
  refine sb 0 [.slice A16 d15.length c17, .int .i64 x0.Now] [I4, I3, I5] (pk [1, 0, 2, 3]) type42 ?_
  refine nt' (CM_ret ?_)
  have he50 := (show spec_l7Copy_m x0 = (⟨d15, x0.Now⟩ : DStore) from fin_inr hE49 (rfl))
  refine QM_r1 rfl (RR_cell (n := 0) rfl rfl underlying42 type42 rfl) (fun W hm => ⟨[.slice A16 d15.length c17, .int .i64 x0.Now], ?_, ?_⟩)
  ·first | rw [he50] | rfl
  ·rw [he50]; exact Mem.join (is := [I5]) (js := []) (fun _ _ hs => tyStore_join (x := (⟨d15, x0.Now⟩ : DStore)) hs) (hm.pick [3] (by decide))
theorem spec_l7Copy_eq (x0 : DStore) : spec_l7Copy_m x0 = x0 := by
 unfold spec_l7Copy_m; rw [rng_app (xs := x0.Segments) (b := fun k s => spec_l7Copy_b1 x0 k s) (fun _ _ => rfl)]; rfl
theorem spec_l7Copy_c2 (w : World) (z0 : List Value) (x0 : DStore) (r_0 : tyStore.rd w w.heap.size z0 x0) (s_0 : smStore 68719476736 x0) :
  Calls Tryz.prog 159 #[.agg z0.toArray] w fun e w' => ∃ v : List Value, e = .returned (.agg v.toArray) ∧ Mem w.heap.size w [iOwn tyStore v x0] w' := by
 have h := spec_l7Copy_c w z0 x0 r_0 s_0
 rw [spec_l7Copy_eq] at h
 exact h

def spec_l6Query_m (x0 : DQuery) : DQuery :=
 x0
theorem cb129 : Cb Tryz.prog 129 := ⟨f129, _, func129, rfl, by decide⟩
theorem spec_l6Query_c (w : World) (z0 : List Value) (x0 : DQuery) (r_0 : tyQuery.rd w w.heap.size z0 x0) (s_0 : smQuery 68719476736 x0) :
  Calls Tryz.prog 129 #[.agg z0.toArray] w fun e w' => ∃ v : List Value, e = .returned (.agg v.toArray) ∧ Mem w.heap.size w [iOwn tyQuery v (spec_l6Query_m x0)] w' := by
 obtain ⟨v1, v3, rfl, r2, r4⟩ := tyQuery_rd r_0
 obtain ⟨m5, A6, c7, rfl, q8, r9⟩ := rdS_op r2
 obtain ⟨m10, A11, c12, rfl, q13, r14⟩ := rdS_op r4
 have l15 : x0.Conds.length ≤ 68719476736 := s_0.1
 have l16 : x0.Out.length ≤ 68719476736 := s_0.2
 refine ce1 (L := [(0, .agg #[.int .i64 x0.Id, .int .i64 x0.Tenant, .slice A6 x0.Conds.length c7, .slice A11 x0.Out.length c12])]) (N := 16) func129 ?_
 refine sr ?_
 refine WM_box rfl (Wd_none rfl) (by decide) (fun p17 => ?_)
 refine WM_alloc type34 rfl (Wd_none rfl) (by decide) (fun p18 => ?_)
 refine nt' (CM_seq ?_)
 let K1 : List Value := [.int .i64 x0.Id, .int .i64 x0.Tenant, .slice A6 x0.Conds.length c7, .slice A11 x0.Out.length c12]
 let K2 : List Value := [.int .i64 0, .int .i64 0, .slice none 0 0, .slice none 0 0]
 refine rd2 14 [13] (s := [iBox p17 34 K1]) (s2 := [iBox p18 34 K2, iBox p17 34 K1]) (pk [1]) (fun W hm => hm) ?_
 refine QD_mid (σ := Option Addr × Nat × Nat) (fun s => [iBox p18 34 K2, iBox p17 34 K1]) 14 2047 3 (fun s => [(2, .pointer (some (⟨p18, 0, none⟩ : Addr))), (4, .int .i64 x0.Id), (6, .int .i64 x0.Tenant), (13, .slice A11 x0.Out.length c12), (10, .slice s.1 x0.Conds.length s.2.1), (11, .slice (some ⟨s.2.2, 0, none⟩) 0 0)]) (fun s => [iOwn (tSl tInt 3) [.slice (some ⟨s.2.2, 0, none⟩) 0 0] [], iOwn (tSl tyCond 201) [.slice s.1 x0.Conds.length s.2.1] x0.Conds, iBox p18 34 K2, iBox p17 34 K1]) ?_ (fun H => ?_)
 ·
  rintro ⟨A22, c23, p26⟩
  let I4 : It := iOwn (tSl tyCond 201) [.slice A22 x0.Conds.length c23] x0.Conds
  show QD _ _ _ _ _ _ _ _ [(2, .pointer (some (⟨p18, 0, none⟩ : Addr))), (4, .int .i64 x0.Id), (6, .int .i64 x0.Tenant), (13, .slice A11 x0.Out.length c12), (10, .slice A22 x0.Conds.length c23), (11, .slice (some ⟨p26, 0, none⟩) 0 0)] _ [iBox p18 34 K2, iBox p17 34 K1] _ [iOwn (tSl tInt 3) [.slice (some ⟨p26, 0, none⟩) 0 0] [], I4, iBox p18 34 K2, iBox p17 34 K1]
  refine QD_len (n := 0) rfl ?_
  intro m28 m29
  refine QD_len (n := 1) rfl ?_
  intro m30 m31
  refine qoD 14 11 4095 rfl ?_
  refine apR tInt tInt 3 (.slice (some ⟨p26, 0, none⟩) 0 0) [] x0.Out [I4, iBox p18 34 K2, iBox p17 34 K1] (fun W hm => hm) (fun W hm => src_flat flat_int (hm.rdS0 r14)) underlying25 type3 (show (0 + x0.Out.length) * 8 ≤ 140737488355328 from by omega) (fun v32 => ?_)
  refine WM_form (n := 0) rfl ?_
  rintro A33 c34 rfl m35
  refine qnD (pk [3]) (pk [2, 3]) ?_
  let K3 : List Value := [.int .i64 x0.Id, .int .i64 x0.Tenant, .slice A22 x0.Conds.length c23, .slice A33 x0.Out.length c34]
  refine qtD 14 12 8191 rfl (fun W hm => rv_build (cs := K3) rfl (by kernel_rfl)) ?_
  refine qoD 14 13 16383 rfl ?_
  let I5 : It := iOwn (tSl tInt 3) [.slice A33 x0.Out.length c34] x0.Out
  refine sb 0 K3 [I5, I4, iBox p17 34 K1] (pk [2, 0, 1, 3]) type34 ?_
  refine qxD (pk [3]) ?_
  refine QB_done (by kernel_rfl) ?_
  refine QM_then (CM_ret ?_)
  have he37 := (show spec_l6Query_m x0 = x0 from rfl)
  refine QM_r1 rfl (RR_cell (n := 0) rfl rfl underlying34 type34 rfl) (fun W hm => ⟨K3, ?_, ?_⟩)
  ·first | rw [he37] | rfl
  ·rw [he37]; exact Mem.join (is := [I4, I5]) (js := []) (fun _ _ hs => tyQuery_join (x := x0) hs) (hm.pick [2, 1] (by decide))
 ·
  refine qtD 14 0 1 rfl (vf underlying34 rfl type3) ?_
  refine qtD 14 1 3 rfl (vl 1 0 underlying3) ?_
  refine qtD 14 2 7 rfl (vf underlying34 rfl type3) ?_
  refine qtD 14 3 15 rfl (vl 1 1 underlying3) ?_
  refine qtD 14 5 47 rfl (vf underlying34 rfl type32) ?_
  refine qtD 14 6 111 rfl (vl 1 2 underlying32) ?_
  refine qtD 14 9 623 rfl (vf underlying34 rfl type25) ?_
  refine qtD 14 10 1647 rfl (vl 1 3 underlying25) ?_
  refine qaD [4, 8] ?_
  refine qcD 14 1663 rfl ?_ ?_
  ·
   refine WM_build0 (E := tyCond) underlying32 type201 (Wd_none rfl) (by decide) (fun p38 => ?_)
   refine qnD (pk [2]) (pk [1, 2]) ?_
   refine qaD [7, 8] ?_
   refine qcD 14 1791 rfl ?_ ?_
   ·
    refine apR tyCond tyCond 201 (.slice (some ⟨p38, 0, none⟩) 0 0) [] x0.Conds [iBox p18 34 K2, iBox p17 34 K1] (fun W hm => hm) (fun W hm => src_flat (flat_map (flat_pair flat_int (flat_pair flat_int flat_int))) (hm.rdS0 r9)) underlying32 type201 (show (0 + x0.Conds.length) * 24 ≤ 140737488355328 from by omega) (fun v40 => ?_)
    refine WM_form (n := 0) rfl ?_
    rintro A41 c42 rfl m43
    refine qnD (pk [2]) (pk [1, 2]) ?_
    refine qoD 14 8 2047 rfl ?_
    refine WM_build0 (E := tInt) underlying25 type3 (Wd_none rfl) (by decide) (fun p45 => ?_)
    refine qnD (pk [3]) (pk [2, 3]) ?_
    exact QD_sub sl6 (fun W hm => hm) (H (A41, c42, p45))
   refine qcD 14 1919 rfl ?_ ?_
   ·
    refine WM_build0 (E := tInt) underlying25 type3 (Wd_none rfl) (by decide) (fun p47 => ?_)
    refine qnD (pk [3]) (pk [2, 3]) ?_
    refine qoD 14 7 2047 rfl ?_
    refine apR tyCond tyCond 201 (.slice (some ⟨p38, 0, none⟩) 0 0) [] x0.Conds [iOwn (tSl tInt 3) [.slice (some ⟨p47, 0, none⟩) 0 0] [], iBox p18 34 K2, iBox p17 34 K1] (pk [1, 0, 2, 3]) (fun W hm => src_flat (flat_map (flat_pair flat_int (flat_pair flat_int flat_int))) (hm.rdS0 r9)) underlying32 type201 (show (0 + x0.Conds.length) * 24 ≤ 140737488355328 from by omega) (fun v49 => ?_)
    refine WM_form (n := 0) rfl ?_
    rintro A50 c51 rfl m52
    refine qnD (pk [3]) (pk [2, 3]) ?_
    exact QD_sub sl6 (pk [1, 0, 2, 3]) (H (A50, c51, p47))
   exact QDs_nil
  refine qcD 14 1903 rfl ?_ ?_
  ·
   refine WM_build0 (E := tInt) underlying25 type3 (Wd_none rfl) (by decide) (fun p54 => ?_)
   refine qnD (pk [2]) (pk [1, 2]) ?_
   refine qoD 14 4 1919 rfl ?_
   refine WM_build0 (E := tyCond) underlying32 type201 (Wd_none rfl) (by decide) (fun p56 => ?_)
   refine qnD (pk [3]) (pk [2, 3]) ?_
   refine qoD 14 7 2047 rfl ?_
   refine apR tyCond tyCond 201 (.slice (some ⟨p56, 0, none⟩) 0 0) [] x0.Conds [iOwn (tSl tInt 3) [.slice (some ⟨p54, 0, none⟩) 0 0] [], iBox p18 34 K2, iBox p17 34 K1] (fun W hm => hm) (fun W hm => src_flat (flat_map (flat_pair flat_int (flat_pair flat_int flat_int))) (hm.rdS0 r9)) underlying32 type201 (show (0 + x0.Conds.length) * 24 ≤ 140737488355328 from by omega) (fun v58 => ?_)
   refine WM_form (n := 0) rfl ?_
   rintro A59 c60 rfl m61
   refine qnD (pk [3]) (pk [2, 3]) ?_
   exact QD_sub sl6 (pk [1, 0, 2, 3]) (H (A59, c60, p54))
  exact QDs_nil
theorem spec_l6Query_eq (x0 : DQuery) : spec_l6Query_m x0 = x0 := by
 rfl
theorem spec_l6Query_c2 (w : World) (z0 : List Value) (x0 : DQuery) (r_0 : tyQuery.rd w w.heap.size z0 x0) (s_0 : smQuery 68719476736 x0) :
  Calls Tryz.prog 129 #[.agg z0.toArray] w fun e w' => ∃ v : List Value, e = .returned (.agg v.toArray) ∧ Mem w.heap.size w [iOwn tyQuery v x0] w' := by
 have h := spec_l6Query_c w z0 x0 r_0 s_0
 rw [spec_l6Query_eq] at h
 exact h

def spec_l3Copy_m (x0 : DRow) : DRow :=
 x0
theorem cb214 : Cb Tryz.prog 214 := ⟨f214, _, func214, rfl, by decide⟩
theorem spec_l3Copy_c (w : World) (z0 : List Value) (x0 : DRow) (r_0 : tyRow.rd w w.heap.size z0 x0) (s_0 : smRow 68719476736 x0) :
  Calls Tryz.prog 214 #[.agg z0.toArray] w fun e w' => ∃ v : List Value, e = .returned (.agg v.toArray) ∧ Mem w.heap.size w [iOwn tyRow v (spec_l3Copy_m x0)] w' := by
 obtain ⟨v1, rfl, r2⟩ := tyRow_rd r_0
 obtain ⟨m3, A4, c5, rfl, q6, r7⟩ := rdS_op r2
 have l8 : x0.Values.length ≤ 68719476736 := s_0
 refine ce1 (L := [(0, .agg #[.int .i64 x0.Id, .slice A4 x0.Values.length c5])]) (N := 10) func214 ?_
 refine sr ?_
 refine WM_box rfl (Wd_none rfl) (by decide) (fun p9 => ?_)
 refine WM_alloc type73 rfl (Wd_none rfl) (by decide) (fun p10 => ?_)
 refine nt' (CM_seq ?_)
 let I1 : It := iBox p9 73 [.int .i64 x0.Id, .slice A4 x0.Values.length c5]
 refine rd2 8 [7] (s := [I1]) (s2 := [iBox p10 73 [.int .i64 0, .slice none 0 0], I1]) (pk [1]) (fun W hm => hm) ?_
 refine qtD 8 0 1 rfl (vf underlying73 rfl type3) ?_
 refine qtD 8 1 3 rfl (vl 1 0 underlying3) ?_
 refine qtD 8 3 11 rfl (vf underlying73 rfl type25) ?_
 refine qtD 8 4 27 rfl (vl 1 1 underlying25) ?_
 refine qoD 8 2 31 rfl ?_
 refine WM_build0 (E := tInt) underlying25 type3 (Wd_none rfl) (by decide) (fun p11 => ?_)
 refine qnD (pk [2]) (pk [1, 2]) ?_
 refine qoD 8 5 63 rfl ?_
 refine apR tInt tInt 3 (.slice (some ⟨p11, 0, none⟩) 0 0) [] x0.Values [iBox p10 73 [.int .i64 0, .slice none 0 0], I1] (fun W hm => hm) (fun W hm => src_flat flat_int (hm.rdS0 r7)) underlying25 type3 (show (0 + x0.Values.length) * 8 ≤ 140737488355328 from by omega) (fun v13 => ?_)
 refine WM_form (n := 0) rfl ?_
 rintro A14 c15 rfl m16
 refine qnD (pk [2]) (pk [1, 2]) ?_
 refine qtD 8 6 127 rfl (fun W hm => rv_build (cs := [.int .i64 x0.Id, .slice A14 x0.Values.length c15]) rfl (by kernel_rfl)) ?_
 refine qoD 8 7 255 rfl ?_
 let I2 : It := iOwn (tSl tInt 3) [.slice A14 x0.Values.length c15] x0.Values
 refine sb 0 [.int .i64 x0.Id, .slice A14 x0.Values.length c15] [I2, I1] (pk [1, 0, 2]) type73 ?_
 refine qxD (pk [2]) ?_
 refine QB_done (by kernel_rfl) ?_
 refine QM_then (CM_ret ?_)
 have he18 := (show spec_l3Copy_m x0 = x0 from rfl)
 refine QM_r1 rfl (RR_cell (n := 0) rfl rfl underlying73 type73 rfl) (fun W hm => ⟨[.int .i64 x0.Id, .slice A14 x0.Values.length c15], ?_, ?_⟩)
 ·first | rw [he18] | rfl
 ·rw [he18]; exact Mem.join (is := [I2]) (js := []) (fun _ _ hs => tyRow_join (x := x0) hs) (hm.pick [1] (by decide))
theorem spec_l3Copy_eq (x0 : DRow) : spec_l3Copy_m x0 = x0 := by
 rfl
theorem spec_l3Copy_c2 (w : World) (z0 : List Value) (x0 : DRow) (r_0 : tyRow.rd w w.heap.size z0 x0) (s_0 : smRow 68719476736 x0) :
  Calls Tryz.prog 214 #[.agg z0.toArray] w fun e w' => ∃ v : List Value, e = .returned (.agg v.toArray) ∧ Mem w.heap.size w [iOwn tyRow v x0] w' := by
 have h := spec_l3Copy_c w z0 x0 r_0 s_0
 rw [spec_l3Copy_eq] at h
 exact h

def spec_l9Rows_b1 (x0 : (List DRow)) (k9 : Nat) (d10 : (List DRow)) : (List DRow) ⊕ ((List DRow)) :=
 Sum.inr (d10 ++ [(gt x0 k9)])
def spec_l9Rows_m (x0 : (List DRow)) : (List DRow) :=
 Sum.elim id (fun (s : (List DRow)) => s) (rng (R := (List DRow)) (fun k (s : (List DRow)) => spec_l9Rows_b1 x0 k s) (x0.length - 0) 0 [])
theorem cb160 : Cb Tryz.prog 160 := ⟨f160, _, func160, rfl, by decide⟩
theorem spec_l9Rows_c (w : World) (z0 : Value) (x0 : (List DRow)) (r_0 : rdS tyRow w w.heap.size z0 x0) (s_0 : (x0.length ≤ 68719476736 ∧ ∀ y ∈ x0, smRow 68719476736 y)) :
  Calls Tryz.prog 160 #[z0] w fun e w' => ∃ v : Value, e = .returned (v) ∧ Mem w.heap.size w [iOwn (tSl tyRow 73) [v] (spec_l9Rows_m x0)] w' := by
 obtain ⟨m1, A2, c3, rfl, q4, r5⟩ := rdS_op r_0
 have l6 : x0.length ≤ 68719476736 := s_0.1
 refine ce1 (L := [(0, .slice A2 x0.length c3)]) (N := 21) func160 ?_
 refine sr (wa (nt' (sr ?_)))
 refine WM_build0 (E := tyRow) underlying35 type73 (Wd_none rfl) (by decide) (fun p7 => ?_)
 refine wa (nt' (CM_seq (sr (wa (nt' (CM_block ?_))))))
 let F1 := fun k (s : (List DRow)) => spec_l9Rows_b1 x0 k s
 let R2 := rng (R := (List DRow)) F1
 refine CM_loop (σ := Nat × ((List DRow)) × (Option Addr × Nat)) (fun s => [(0, .slice A2 x0.length c3), (3, .slice s.2.2.1 s.2.1.length s.2.2.2), (4, .int .i64 ((s.1 : Nat) : Int))]) (fun s => [iOwn (tSl tyRow 73) [.slice s.2.2.1 s.2.1.length s.2.2.2] s.2.1]) (fun s => s.1 ≤ x0.length ∧ R2 (x0.length - s.1) s.1 s.2.1 = R2 (x0.length - 0) 0 [] ∧ s.2.1.length ≤ 0 + s.1) (fun s => x0.length - s.1) (0, [], ((some ⟨p7, 0, none⟩), 0)) sl3 (fun W hm => hm) ⟨(by omega), rfl, Nat.le_refl _⟩ ?_
 rintro ⟨k9, d10, ⟨A11, c12⟩⟩ H15
 obtain ⟨hk13, hF14, hi16⟩ : k9 ≤ x0.length ∧ R2 (x0.length - k9) k9 d10 = R2 (x0.length - 0) 0 [] ∧ d10.length ≤ 0 + k9 := H15
 show CM Tryz.prog 21 _ _ _ _ [(0, .slice A2 x0.length c3), (3, .slice A11 d10.length c12), (4, .int .i64 ((k9 : Nat) : Int))] [iOwn (tSl tyRow 73) [.slice A11 d10.length c12] d10]
 refine CM_seq (sr (wm (wm ?_)))
 refine wv (vlen underlying35) ?_
 refine wv vlss ?_
 refine nt' ?_
 by_cases hl17 : k9 < x0.length
 ·have g18 := dlT hl17
  refine CM_condT rfl g18 ?_
  refine CM_skip (QM_then (CM_seq (CM_block (CM_region (wm (wm (wm ?_)))))))
  obtain ⟨a19, rfl, hb20, he21⟩ := q4 (by omega)
  refine wv (vix 2 k9 underlying35 type73) ?_
  obtain ⟨_, e25, hc22⟩ := he21 k9 _ (gt_some (show k9 < x0.length from by omega))
  obtain ⟨v23, rfl, r24⟩ := tyRow_rd e25
  have l26 : ((gt x0 k9).Values).length ≤ 68719476736 := (s_0.2 _ (gt_mem (show k9 < x0.length from by omega)))
  obtain ⟨m27, A28, c29, rfl, q30, r31⟩ := rdS_op r24
  refine wv (fun W hm => rv_loadN (cs := [.int .i64 ((gt x0 k9).Id), .slice A28 ((gt x0 k9).Values).length c29]) underlying73 type73 rfl rfl (hm.elCells (show (a19.add (k9 * 2)).block < w.heap.size from by rw [add_block]; exact hb20.1) hc22)) ?_
  refine wcs tyRow (gt x0 k9) (cl_fn cb214 rfl) (fun W hm => spec_l3Copy_c2 W _ (gt x0 k9) (tyRow_mk (x := (gt x0 k9)) (hm.rdS0 r31)) (s_0.2 _ (gt_mem (show k9 < x0.length from by omega)))) (fun z32 => ?_)
  refine tyRow_sp ?_
  rintro v33 rfl
  refine WM_form (n := 0) rfl ?_
  rintro A34 c35 rfl m36
  let K3 : List Value := [.int .i64 ((gt x0 k9).Id), .slice A34 ((gt x0 k9).Values).length c35]
  refine WM_build (cs := K3) underlying35 type73 rfl (by decide) (by decide) rfl (by kernel_rfl) (Wd_none rfl) (by decide) (fun p38 => ?_)
  refine ap1 tyRow 73 (.slice A11 d10.length c12) d10 (gt x0 k9) [iOwn (tSl tInt 3) [.slice A34 ((gt x0 k9).Values).length c35] ((gt x0 k9).Values)] [] K3 (pk [0, 2, 1]) (fun _ _ hs => Els.single (tyRow_join (x := (gt x0 k9)) hs)) underlying35 type73 (show (d10.length + 1) * 32 ≤ 140737488355328 from by omega) (fun v39 => ?_)
  refine WM_form (n := 0) rfl ?_
  rintro A40 c41 rfl m42
  refine wa (WM_nil (QM_block_normal (QM_then (CM_region (wm ?_)))))
  refine wv (vadN k9 1 (by omega)) ?_
  refine wa (WM_nil ?_)
  have hn44 := rng_next (R := (List DRow)) (body := F1) (k := k9) (s := d10) (s' := (d10 ++ [(gt x0 k9)])) (show k9 < x0.length from by omega) (rfl) hF14
  exact QM_round (k9 + 1, (d10 ++ [(gt x0 k9)]), (A40, c41)) sl3 (fun W hm => hm) ⟨(by omega), hn44, (show (d10 ++ [(gt x0 k9)]).length ≤ 0 + (k9 + 1) from by first | omega | (simp only [List.length_append, List.length_cons, List.length_nil] at *; omega))⟩ (rl (by omega))
 ·have g18 := dlF hl17
  refine CM_condF rfl g18 ?_
  refine CM_exit (QM_then_exit (QM_then_exit ?_))
  have hE45 : R2 (x0.length - 0) 0 [] = Sum.inr d10 := rng_end hl17 hF14
  refine QM_block_hit (QM_then (sr (wm (wa (nt' (CM_ret ?_))))))
  have he46 := (show spec_l9Rows_m x0 = d10 from fin_inr hE45 (rfl))
  refine QM_r1 rfl (RR_tmp rfl) (fun W hm => ⟨.slice A11 d10.length c12, ?_, ?_⟩)
  ·first | rw [he46] | rfl
  ·rw [he46]; exact hm
theorem spec_l9Rows_eq (x0 : (List DRow)) : spec_l9Rows_m x0 = x0 := by
 unfold spec_l9Rows_m; rw [rng_app (xs := x0) (b := fun k s => spec_l9Rows_b1 x0 k s) (fun _ _ => rfl)]; rfl
theorem spec_l9Rows_c2 (w : World) (z0 : Value) (x0 : (List DRow)) (r_0 : rdS tyRow w w.heap.size z0 x0) (s_0 : (x0.length ≤ 68719476736 ∧ ∀ y ∈ x0, smRow 68719476736 y)) :
  Calls Tryz.prog 160 #[z0] w fun e w' => ∃ v : Value, e = .returned (v) ∧ Mem w.heap.size w [iOwn (tSl tyRow 73) [v] x0] w' := by
 have h := spec_l9Rows_c w z0 x0 r_0 s_0
 rw [spec_l9Rows_eq] at h
 exact h

def spec_l10Copy_m (x0 : DCharge) : DCharge :=
 x0
theorem cb161 : Cb Tryz.prog 161 := ⟨f161, _, func161, rfl, by decide⟩
theorem spec_l10Copy_c (w : World) (z0 : List Value) (x0 : DCharge) (r_0 : tyCharge.rd w w.heap.size z0 x0) (s_0 : smCharge 68719476736 x0) :
  Calls Tryz.prog 161 #[.agg z0.toArray] w fun e w' => ∃ v : List Value, e = .returned (.agg v.toArray) ∧ Mem w.heap.size w [iOwn tyCharge v (spec_l10Copy_m x0)] w' := by
 obtain ⟨v1, v3, v5, rfl, r2, r4, r6⟩ := tyCharge_rd r_0
 obtain ⟨m7, A8, c9, rfl, q10, r11⟩ := rdS_op r2
 obtain ⟨m12, A13, c14, rfl, q15, r16⟩ := rdS_op r4
 obtain ⟨m17, A18, c19, rfl, q20, r21⟩ := rdS_op r6
 have l22 : x0.Ids.length ≤ 68719476736 := s_0.1
 have l23 : x0.Tenants.length ≤ 68719476736 := s_0.2.1
 have l24 : x0.Rows.length ≤ 68719476736 := s_0.2.2
 refine ce1 (L := [(0, .agg #[.int .i64 x0.Segment, .int .i64 x0.Base, .slice A8 x0.Ids.length c9, .slice A13 x0.Tenants.length c14, .slice A18 x0.Rows.length c19])]) (N := 20) func161 ?_
 refine sr ?_
 refine WM_box rfl (Wd_none rfl) (by decide) (fun p25 => ?_)
 refine WM_alloc type133 rfl (Wd_none rfl) (by decide) (fun p26 => ?_)
 refine nt' (CM_seq ?_)
 let K1 : List Value := [.int .i64 x0.Segment, .int .i64 x0.Base, .slice A8 x0.Ids.length c9, .slice A13 x0.Tenants.length c14, .slice A18 x0.Rows.length c19]
 let K2 : List Value := [.int .i64 0, .int .i64 0, .slice none 0 0, .slice none 0 0, .slice none 0 0]
 refine rd2 18 [17] (s := [iBox p25 133 K1]) (s2 := [iBox p26 133 K2, iBox p25 133 K1]) (pk [1]) (fun W hm => hm) ?_
 refine QD_mid (σ := Option Addr × Nat × Option Addr × Nat × Nat) (fun s => [iBox p26 133 K2, iBox p25 133 K1]) 18 32767 3 (fun s => [(2, .pointer (some (⟨p26, 0, none⟩ : Addr))), (4, .int .i64 x0.Segment), (6, .int .i64 x0.Base), (17, .slice A18 x0.Rows.length c19), (10, .slice s.1 x0.Ids.length s.2.1), (14, .slice s.2.2.1 x0.Tenants.length s.2.2.2.1), (15, .slice (some ⟨s.2.2.2.2, 0, none⟩) 0 0)]) (fun s => [iOwn (tSl tInt 3) [.slice (some ⟨s.2.2.2.2, 0, none⟩) 0 0] [], iOwn (tSl tInt 3) [.slice s.2.2.1 x0.Tenants.length s.2.2.2.1] x0.Tenants, iOwn (tSl tInt 3) [.slice s.1 x0.Ids.length s.2.1] x0.Ids, iBox p26 133 K2, iBox p25 133 K1]) ?_ (fun H => ?_)
 ·
  rintro ⟨A30, c31, A37, c38, p41⟩
  let I4 : It := iOwn (tSl tInt 3) [.slice A37 x0.Tenants.length c38] x0.Tenants
  let I5 : It := iOwn (tSl tInt 3) [.slice A30 x0.Ids.length c31] x0.Ids
  show QD _ _ _ _ _ _ _ _ [(2, .pointer (some (⟨p26, 0, none⟩ : Addr))), (4, .int .i64 x0.Segment), (6, .int .i64 x0.Base), (17, .slice A18 x0.Rows.length c19), (10, .slice A30 x0.Ids.length c31), (14, .slice A37 x0.Tenants.length c38), (15, .slice (some ⟨p41, 0, none⟩) 0 0)] _ [iBox p26 133 K2, iBox p25 133 K1] _ [iOwn (tSl tInt 3) [.slice (some ⟨p41, 0, none⟩) 0 0] [], I4, I5, iBox p26 133 K2, iBox p25 133 K1]
  refine QD_len (n := 0) rfl ?_
  intro m43 m44
  refine QD_len (n := 1) rfl ?_
  intro m45 m46
  refine QD_len (n := 2) rfl ?_
  intro m47 m48
  refine qoD 18 15 65535 rfl ?_
  refine apR tInt tInt 3 (.slice (some ⟨p41, 0, none⟩) 0 0) [] x0.Rows [I4, I5, iBox p26 133 K2, iBox p25 133 K1] (fun W hm => hm) (fun W hm => src_flat flat_int (hm.rdS0 r21)) underlying25 type3 (show (0 + x0.Rows.length) * 8 ≤ 140737488355328 from by omega) (fun v49 => ?_)
  refine WM_form (n := 0) rfl ?_
  rintro A50 c51 rfl m52
  refine qnD (pk [4]) (pk [3, 4]) ?_
  let K3 : List Value := [.int .i64 x0.Segment, .int .i64 x0.Base, .slice A30 x0.Ids.length c31, .slice A37 x0.Tenants.length c38, .slice A50 x0.Rows.length c51]
  refine qtD 18 16 131071 rfl (fun W hm => rv_build (cs := K3) rfl (by kernel_rfl)) ?_
  refine qoD 18 17 262143 rfl ?_
  let I6 : It := iOwn (tSl tInt 3) [.slice A50 x0.Rows.length c51] x0.Rows
  refine sb 0 K3 [I6, I4, I5, iBox p25 133 K1] (pk [3, 0, 1, 2, 4]) type133 ?_
  refine qxD (pk [4]) ?_
  refine QB_done (by kernel_rfl) ?_
  refine QM_then (CM_ret ?_)
  have he54 := (show spec_l10Copy_m x0 = x0 from rfl)
  refine QM_r1 rfl (RR_cell (n := 0) rfl rfl underlying133 type133 rfl) (fun W hm => ⟨K3, ?_, ?_⟩)
  ·first | rw [he54] | rfl
  ·rw [he54]; exact Mem.join (is := [I5, I4, I6]) (js := []) (fun _ _ hs => tyCharge_join (x := x0) hs) (hm.pick [3, 2, 1] (by decide))
 ·
  refine qtD 18 0 1 rfl (vf underlying133 rfl type3) ?_
  refine qtD 18 1 3 rfl (vl 1 0 underlying3) ?_
  refine qtD 18 2 7 rfl (vf underlying133 rfl type3) ?_
  refine qtD 18 3 15 rfl (vl 1 1 underlying3) ?_
  refine qtD 18 5 47 rfl (vf underlying133 rfl type25) ?_
  refine qtD 18 6 111 rfl (vl 1 2 underlying25) ?_
  refine qtD 18 9 623 rfl (vf underlying133 rfl type25) ?_
  refine qtD 18 10 1647 rfl (vl 1 3 underlying25) ?_
  refine qtD 18 13 9839 rfl (vf underlying133 rfl type25) ?_
  refine qtD 18 14 26223 rfl (vl 1 4 underlying25) ?_
  refine qaD [4, 8, 12] ?_
  refine qcD 18 26239 rfl ?_ ?_
  ·
   refine WM_build0 (E := tInt) underlying25 type3 (Wd_none rfl) (by decide) (fun p55 => ?_)
   refine qnD (pk [2]) (pk [1, 2]) ?_
   refine qaD [7, 8, 12] ?_
   refine qcD 18 26367 rfl ?_ ?_
   ·
    refine apR tInt tInt 3 (.slice (some ⟨p55, 0, none⟩) 0 0) [] x0.Ids [iBox p26 133 K2, iBox p25 133 K1] (fun W hm => hm) (fun W hm => src_flat flat_int (hm.rdS0 r11)) underlying25 type3 (show (0 + x0.Ids.length) * 8 ≤ 140737488355328 from by omega) (fun v57 => ?_)
    refine WM_form (n := 0) rfl ?_
    rintro A58 c59 rfl m60
    refine qnD (pk [2]) (pk [1, 2]) ?_
    refine qaD [8, 12] ?_
    refine qcD 18 26623 rfl ?_ ?_
    ·
     refine WM_build0 (E := tInt) underlying25 type3 (Wd_none rfl) (by decide) (fun p62 => ?_)
     refine qnD (pk [3]) (pk [2, 3]) ?_
     refine qaD [11, 12] ?_
     refine qcD 18 28671 rfl ?_ ?_
     ·
      refine apR tInt tInt 3 (.slice (some ⟨p62, 0, none⟩) 0 0) [] x0.Tenants [iOwn (tSl tInt 3) [.slice A58 x0.Ids.length c59] x0.Ids, iBox p26 133 K2, iBox p25 133 K1] (fun W hm => hm) (fun W hm => src_flat flat_int (hm.rdS0 r16)) underlying25 type3 (show (0 + x0.Tenants.length) * 8 ≤ 140737488355328 from by omega) (fun v64 => ?_)
      refine WM_form (n := 0) rfl ?_
      rintro A65 c66 rfl m67
      refine qnD (pk [3]) (pk [2, 3]) ?_
      refine qoD 18 12 32767 rfl ?_
      refine WM_build0 (E := tInt) underlying25 type3 (Wd_none rfl) (by decide) (fun p69 => ?_)
      refine qnD (pk [4]) (pk [3, 4]) ?_
      exact QD_sub sl7 (fun W hm => hm) (H (A58, c59, A65, c66, p69))
     refine qcD 18 30719 rfl ?_ ?_
     ·
      refine WM_build0 (E := tInt) underlying25 type3 (Wd_none rfl) (by decide) (fun p71 => ?_)
      refine qnD (pk [4]) (pk [3, 4]) ?_
      refine qoD 18 11 32767 rfl ?_
      refine apR tInt tInt 3 (.slice (some ⟨p62, 0, none⟩) 0 0) [] x0.Tenants [iOwn (tSl tInt 3) [.slice (some ⟨p71, 0, none⟩) 0 0] [], iOwn (tSl tInt 3) [.slice A58 x0.Ids.length c59] x0.Ids, iBox p26 133 K2, iBox p25 133 K1] (pk [1, 0, 2, 3, 4]) (fun W hm => src_flat flat_int (hm.rdS0 r16)) underlying25 type3 (show (0 + x0.Tenants.length) * 8 ≤ 140737488355328 from by omega) (fun v73 => ?_)
      refine WM_form (n := 0) rfl ?_
      rintro A74 c75 rfl m76
      refine qnD (pk [4]) (pk [3, 4]) ?_
      exact QD_sub sl7 (pk [1, 0, 2, 3, 4]) (H (A58, c59, A74, c75, p71))
     exact QDs_nil
    refine qcD 18 30463 rfl ?_ ?_
    ·
     refine WM_build0 (E := tInt) underlying25 type3 (Wd_none rfl) (by decide) (fun p78 => ?_)
     refine qnD (pk [3]) (pk [2, 3]) ?_
     refine qoD 18 8 30719 rfl ?_
     refine WM_build0 (E := tInt) underlying25 type3 (Wd_none rfl) (by decide) (fun p80 => ?_)
     refine qnD (pk [4]) (pk [3, 4]) ?_
     refine qoD 18 11 32767 rfl ?_
     refine apR tInt tInt 3 (.slice (some ⟨p80, 0, none⟩) 0 0) [] x0.Tenants [iOwn (tSl tInt 3) [.slice (some ⟨p78, 0, none⟩) 0 0] [], iOwn (tSl tInt 3) [.slice A58 x0.Ids.length c59] x0.Ids, iBox p26 133 K2, iBox p25 133 K1] (fun W hm => hm) (fun W hm => src_flat flat_int (hm.rdS0 r16)) underlying25 type3 (show (0 + x0.Tenants.length) * 8 ≤ 140737488355328 from by omega) (fun v82 => ?_)
     refine WM_form (n := 0) rfl ?_
     rintro A83 c84 rfl m85
     refine qnD (pk [4]) (pk [3, 4]) ?_
     exact QD_sub sl7 (pk [1, 0, 2, 3, 4]) (H (A58, c59, A83, c84, p78))
    exact QDs_nil
   refine qcD 18 26495 rfl ?_ ?_
   ·
    refine WM_build0 (E := tInt) underlying25 type3 (Wd_none rfl) (by decide) (fun p87 => ?_)
    refine qnD (pk [3]) (pk [2, 3]) ?_
    refine qaD [7, 12] ?_
    refine qcD 18 26623 rfl ?_ ?_
    ·
     refine apR tInt tInt 3 (.slice (some ⟨p55, 0, none⟩) 0 0) [] x0.Ids [iOwn (tSl tInt 3) [.slice (some ⟨p87, 0, none⟩) 0 0] [], iBox p26 133 K2, iBox p25 133 K1] (pk [1, 0, 2, 3]) (fun W hm => src_flat flat_int (hm.rdS0 r11)) underlying25 type3 (show (0 + x0.Ids.length) * 8 ≤ 140737488355328 from by omega) (fun v89 => ?_)
     refine WM_form (n := 0) rfl ?_
     rintro A90 c91 rfl m92
     refine qnD (pk [3]) (pk [2, 3]) ?_
     refine qaD [11, 12] ?_
     refine qcD 18 28671 rfl ?_ ?_
     ·
      refine apR tInt tInt 3 (.slice (some ⟨p87, 0, none⟩) 0 0) [] x0.Tenants [iOwn (tSl tInt 3) [.slice A90 x0.Ids.length c91] x0.Ids, iBox p26 133 K2, iBox p25 133 K1] (pk [1, 0, 2, 3]) (fun W hm => src_flat flat_int (hm.rdS0 r16)) underlying25 type3 (show (0 + x0.Tenants.length) * 8 ≤ 140737488355328 from by omega) (fun v94 => ?_)
      refine WM_form (n := 0) rfl ?_
      rintro A95 c96 rfl m97
      refine qnD (pk [3]) (pk [2, 3]) ?_
      refine qoD 18 12 32767 rfl ?_
      refine WM_build0 (E := tInt) underlying25 type3 (Wd_none rfl) (by decide) (fun p99 => ?_)
      refine qnD (pk [4]) (pk [3, 4]) ?_
      exact QD_sub sl7 (fun W hm => hm) (H (A90, c91, A95, c96, p99))
     refine qcD 18 30719 rfl ?_ ?_
     ·
      refine WM_build0 (E := tInt) underlying25 type3 (Wd_none rfl) (by decide) (fun p101 => ?_)
      refine qnD (pk [4]) (pk [3, 4]) ?_
      refine qoD 18 11 32767 rfl ?_
      refine apR tInt tInt 3 (.slice (some ⟨p87, 0, none⟩) 0 0) [] x0.Tenants [iOwn (tSl tInt 3) [.slice (some ⟨p101, 0, none⟩) 0 0] [], iOwn (tSl tInt 3) [.slice A90 x0.Ids.length c91] x0.Ids, iBox p26 133 K2, iBox p25 133 K1] (pk [2, 0, 1, 3, 4]) (fun W hm => src_flat flat_int (hm.rdS0 r16)) underlying25 type3 (show (0 + x0.Tenants.length) * 8 ≤ 140737488355328 from by omega) (fun v103 => ?_)
      refine WM_form (n := 0) rfl ?_
      rintro A104 c105 rfl m106
      refine qnD (pk [4]) (pk [3, 4]) ?_
      exact QD_sub sl7 (pk [1, 0, 2, 3, 4]) (H (A90, c91, A104, c105, p101))
     exact QDs_nil
    refine qcD 18 30591 rfl ?_ ?_
    ·
     refine WM_build0 (E := tInt) underlying25 type3 (Wd_none rfl) (by decide) (fun p108 => ?_)
     refine qnD (pk [4]) (pk [3, 4]) ?_
     refine qoD 18 7 30719 rfl ?_
     let I7 : It := iOwn (tSl tInt 3) [.slice (some ⟨p108, 0, none⟩) 0 0] []
     refine apR tInt tInt 3 (.slice (some ⟨p55, 0, none⟩) 0 0) [] x0.Ids [I7, iOwn (tSl tInt 3) [.slice (some ⟨p87, 0, none⟩) 0 0] [], iBox p26 133 K2, iBox p25 133 K1] (pk [2, 0, 1, 3, 4]) (fun W hm => src_flat flat_int (hm.rdS0 r11)) underlying25 type3 (show (0 + x0.Ids.length) * 8 ≤ 140737488355328 from by omega) (fun v110 => ?_)
     refine WM_form (n := 0) rfl ?_
     rintro A111 c112 rfl m113
     refine qnD (pk [4]) (pk [3, 4]) ?_
     refine qoD 18 11 32767 rfl ?_
     refine apR tInt tInt 3 (.slice (some ⟨p87, 0, none⟩) 0 0) [] x0.Tenants [iOwn (tSl tInt 3) [.slice A111 x0.Ids.length c112] x0.Ids, I7, iBox p26 133 K2, iBox p25 133 K1] (pk [2, 0, 1, 3, 4]) (fun W hm => src_flat flat_int (hm.rdS0 r16)) underlying25 type3 (show (0 + x0.Tenants.length) * 8 ≤ 140737488355328 from by omega) (fun v115 => ?_)
     refine WM_form (n := 0) rfl ?_
     rintro A116 c117 rfl m118
     refine qnD (pk [4]) (pk [3, 4]) ?_
     exact QD_sub sl7 (pk [2, 0, 1, 3, 4]) (H (A111, c112, A116, c117, p108))
    exact QDs_nil
   refine qcD 18 30335 rfl ?_ ?_
   ·
    refine WM_build0 (E := tInt) underlying25 type3 (Wd_none rfl) (by decide) (fun p120 => ?_)
    refine qnD (pk [3]) (pk [2, 3]) ?_
    refine qaD [7, 8] ?_
    refine qcD 18 30463 rfl ?_ ?_
    ·
     let I8 : It := iOwn (tSl tInt 3) [.slice (some ⟨p120, 0, none⟩) 0 0] []
     refine apR tInt tInt 3 (.slice (some ⟨p55, 0, none⟩) 0 0) [] x0.Ids [I8, iBox p26 133 K2, iBox p25 133 K1] (pk [1, 0, 2, 3]) (fun W hm => src_flat flat_int (hm.rdS0 r11)) underlying25 type3 (show (0 + x0.Ids.length) * 8 ≤ 140737488355328 from by omega) (fun v122 => ?_)
     refine WM_form (n := 0) rfl ?_
     rintro A123 c124 rfl m125
     refine qnD (pk [3]) (pk [2, 3]) ?_
     refine qoD 18 8 30719 rfl ?_
     refine WM_build0 (E := tInt) underlying25 type3 (Wd_none rfl) (by decide) (fun p127 => ?_)
     refine qnD (pk [4]) (pk [3, 4]) ?_
     refine qoD 18 11 32767 rfl ?_
     refine apR tInt tInt 3 (.slice (some ⟨p127, 0, none⟩) 0 0) [] x0.Tenants [iOwn (tSl tInt 3) [.slice A123 x0.Ids.length c124] x0.Ids, I8, iBox p26 133 K2, iBox p25 133 K1] (fun W hm => hm) (fun W hm => src_flat flat_int (hm.rdS0 r16)) underlying25 type3 (show (0 + x0.Tenants.length) * 8 ≤ 140737488355328 from by omega) (fun v129 => ?_)
     refine WM_form (n := 0) rfl ?_
     rintro A130 c131 rfl m132
     refine qnD (pk [4]) (pk [3, 4]) ?_
     exact QD_sub sl7 (pk [2, 0, 1, 3, 4]) (H (A123, c124, A130, c131, p120))
    refine qcD 18 30591 rfl ?_ ?_
    ·
     refine WM_build0 (E := tInt) underlying25 type3 (Wd_none rfl) (by decide) (fun p134 => ?_)
     refine qnD (pk [4]) (pk [3, 4]) ?_
     refine qoD 18 7 30719 rfl ?_
     let I9 : It := iOwn (tSl tInt 3) [.slice (some ⟨p120, 0, none⟩) 0 0] []
     refine apR tInt tInt 3 (.slice (some ⟨p55, 0, none⟩) 0 0) [] x0.Ids [iOwn (tSl tInt 3) [.slice (some ⟨p134, 0, none⟩) 0 0] [], I9, iBox p26 133 K2, iBox p25 133 K1] (pk [2, 0, 1, 3, 4]) (fun W hm => src_flat flat_int (hm.rdS0 r11)) underlying25 type3 (show (0 + x0.Ids.length) * 8 ≤ 140737488355328 from by omega) (fun v136 => ?_)
     refine WM_form (n := 0) rfl ?_
     rintro A137 c138 rfl m139
     refine qnD (pk [4]) (pk [3, 4]) ?_
     refine qoD 18 11 32767 rfl ?_
     refine apR tInt tInt 3 (.slice (some ⟨p134, 0, none⟩) 0 0) [] x0.Tenants [iOwn (tSl tInt 3) [.slice A137 x0.Ids.length c138] x0.Ids, I9, iBox p26 133 K2, iBox p25 133 K1] (pk [1, 0, 2, 3, 4]) (fun W hm => src_flat flat_int (hm.rdS0 r16)) underlying25 type3 (show (0 + x0.Tenants.length) * 8 ≤ 140737488355328 from by omega) (fun v141 => ?_)
     refine WM_form (n := 0) rfl ?_
     rintro A142 c143 rfl m144
     refine qnD (pk [4]) (pk [3, 4]) ?_
     exact QD_sub sl7 (pk [2, 0, 1, 3, 4]) (H (A137, c138, A142, c143, p120))
    exact QDs_nil
   exact QDs_nil
  refine qcD 18 26479 rfl ?_ ?_
  ·
   refine WM_build0 (E := tInt) underlying25 type3 (Wd_none rfl) (by decide) (fun p146 => ?_)
   refine qnD (pk [2]) (pk [1, 2]) ?_
   refine qaD [4, 12] ?_
   refine qcD 18 26495 rfl ?_ ?_
   ·
    refine WM_build0 (E := tInt) underlying25 type3 (Wd_none rfl) (by decide) (fun p148 => ?_)
    refine qnD (pk [3]) (pk [2, 3]) ?_
    refine qaD [7, 12] ?_
    refine qcD 18 26623 rfl ?_ ?_
    ·
     refine apR tInt tInt 3 (.slice (some ⟨p148, 0, none⟩) 0 0) [] x0.Ids [iOwn (tSl tInt 3) [.slice (some ⟨p146, 0, none⟩) 0 0] [], iBox p26 133 K2, iBox p25 133 K1] (fun W hm => hm) (fun W hm => src_flat flat_int (hm.rdS0 r11)) underlying25 type3 (show (0 + x0.Ids.length) * 8 ≤ 140737488355328 from by omega) (fun v150 => ?_)
     refine WM_form (n := 0) rfl ?_
     rintro A151 c152 rfl m153
     refine qnD (pk [3]) (pk [2, 3]) ?_
     refine qaD [11, 12] ?_
     refine qcD 18 28671 rfl ?_ ?_
     ·
      refine apR tInt tInt 3 (.slice (some ⟨p146, 0, none⟩) 0 0) [] x0.Tenants [iOwn (tSl tInt 3) [.slice A151 x0.Ids.length c152] x0.Ids, iBox p26 133 K2, iBox p25 133 K1] (pk [1, 0, 2, 3]) (fun W hm => src_flat flat_int (hm.rdS0 r16)) underlying25 type3 (show (0 + x0.Tenants.length) * 8 ≤ 140737488355328 from by omega) (fun v155 => ?_)
      refine WM_form (n := 0) rfl ?_
      rintro A156 c157 rfl m158
      refine qnD (pk [3]) (pk [2, 3]) ?_
      refine qoD 18 12 32767 rfl ?_
      refine WM_build0 (E := tInt) underlying25 type3 (Wd_none rfl) (by decide) (fun p160 => ?_)
      refine qnD (pk [4]) (pk [3, 4]) ?_
      exact QD_sub sl7 (fun W hm => hm) (H (A151, c152, A156, c157, p160))
     refine qcD 18 30719 rfl ?_ ?_
     ·
      refine WM_build0 (E := tInt) underlying25 type3 (Wd_none rfl) (by decide) (fun p162 => ?_)
      refine qnD (pk [4]) (pk [3, 4]) ?_
      refine qoD 18 11 32767 rfl ?_
      refine apR tInt tInt 3 (.slice (some ⟨p146, 0, none⟩) 0 0) [] x0.Tenants [iOwn (tSl tInt 3) [.slice (some ⟨p162, 0, none⟩) 0 0] [], iOwn (tSl tInt 3) [.slice A151 x0.Ids.length c152] x0.Ids, iBox p26 133 K2, iBox p25 133 K1] (pk [2, 0, 1, 3, 4]) (fun W hm => src_flat flat_int (hm.rdS0 r16)) underlying25 type3 (show (0 + x0.Tenants.length) * 8 ≤ 140737488355328 from by omega) (fun v164 => ?_)
      refine WM_form (n := 0) rfl ?_
      rintro A165 c166 rfl m167
      refine qnD (pk [4]) (pk [3, 4]) ?_
      exact QD_sub sl7 (pk [1, 0, 2, 3, 4]) (H (A151, c152, A165, c166, p162))
     exact QDs_nil
    refine qcD 18 30591 rfl ?_ ?_
    ·
     refine WM_build0 (E := tInt) underlying25 type3 (Wd_none rfl) (by decide) (fun p169 => ?_)
     refine qnD (pk [4]) (pk [3, 4]) ?_
     refine qoD 18 7 30719 rfl ?_
     let I10 : It := iOwn (tSl tInt 3) [.slice (some ⟨p169, 0, none⟩) 0 0] []
     refine apR tInt tInt 3 (.slice (some ⟨p148, 0, none⟩) 0 0) [] x0.Ids [I10, iOwn (tSl tInt 3) [.slice (some ⟨p146, 0, none⟩) 0 0] [], iBox p26 133 K2, iBox p25 133 K1] (pk [1, 0, 2, 3, 4]) (fun W hm => src_flat flat_int (hm.rdS0 r11)) underlying25 type3 (show (0 + x0.Ids.length) * 8 ≤ 140737488355328 from by omega) (fun v171 => ?_)
     refine WM_form (n := 0) rfl ?_
     rintro A172 c173 rfl m174
     refine qnD (pk [4]) (pk [3, 4]) ?_
     refine qoD 18 11 32767 rfl ?_
     refine apR tInt tInt 3 (.slice (some ⟨p146, 0, none⟩) 0 0) [] x0.Tenants [iOwn (tSl tInt 3) [.slice A172 x0.Ids.length c173] x0.Ids, I10, iBox p26 133 K2, iBox p25 133 K1] (pk [2, 0, 1, 3, 4]) (fun W hm => src_flat flat_int (hm.rdS0 r16)) underlying25 type3 (show (0 + x0.Tenants.length) * 8 ≤ 140737488355328 from by omega) (fun v176 => ?_)
     refine WM_form (n := 0) rfl ?_
     rintro A177 c178 rfl m179
     refine qnD (pk [4]) (pk [3, 4]) ?_
     exact QD_sub sl7 (pk [2, 0, 1, 3, 4]) (H (A172, c173, A177, c178, p169))
    exact QDs_nil
   refine qcD 18 30575 rfl ?_ ?_
   ·
    refine WM_build0 (E := tInt) underlying25 type3 (Wd_none rfl) (by decide) (fun p181 => ?_)
    refine qnD (pk [3]) (pk [2, 3]) ?_
    refine qoD 18 4 30591 rfl ?_
    refine WM_build0 (E := tInt) underlying25 type3 (Wd_none rfl) (by decide) (fun p183 => ?_)
    refine qnD (pk [4]) (pk [3, 4]) ?_
    refine qoD 18 7 30719 rfl ?_
    let I11 : It := iOwn (tSl tInt 3) [.slice (some ⟨p181, 0, none⟩) 0 0] []
    refine apR tInt tInt 3 (.slice (some ⟨p183, 0, none⟩) 0 0) [] x0.Ids [I11, iOwn (tSl tInt 3) [.slice (some ⟨p146, 0, none⟩) 0 0] [], iBox p26 133 K2, iBox p25 133 K1] (fun W hm => hm) (fun W hm => src_flat flat_int (hm.rdS0 r11)) underlying25 type3 (show (0 + x0.Ids.length) * 8 ≤ 140737488355328 from by omega) (fun v185 => ?_)
    refine WM_form (n := 0) rfl ?_
    rintro A186 c187 rfl m188
    refine qnD (pk [4]) (pk [3, 4]) ?_
    refine qoD 18 11 32767 rfl ?_
    refine apR tInt tInt 3 (.slice (some ⟨p146, 0, none⟩) 0 0) [] x0.Tenants [iOwn (tSl tInt 3) [.slice A186 x0.Ids.length c187] x0.Ids, I11, iBox p26 133 K2, iBox p25 133 K1] (pk [2, 0, 1, 3, 4]) (fun W hm => src_flat flat_int (hm.rdS0 r16)) underlying25 type3 (show (0 + x0.Tenants.length) * 8 ≤ 140737488355328 from by omega) (fun v190 => ?_)
    refine WM_form (n := 0) rfl ?_
    rintro A191 c192 rfl m193
    refine qnD (pk [4]) (pk [3, 4]) ?_
    exact QD_sub sl7 (pk [2, 0, 1, 3, 4]) (H (A186, c187, A191, c192, p181))
   exact QDs_nil
  refine qcD 18 30319 rfl ?_ ?_
  ·
   refine WM_build0 (E := tInt) underlying25 type3 (Wd_none rfl) (by decide) (fun p195 => ?_)
   refine qnD (pk [2]) (pk [1, 2]) ?_
   refine qaD [4, 8] ?_
   refine qcD 18 30335 rfl ?_ ?_
   ·
    refine WM_build0 (E := tInt) underlying25 type3 (Wd_none rfl) (by decide) (fun p197 => ?_)
    refine qnD (pk [3]) (pk [2, 3]) ?_
    refine qaD [7, 8] ?_
    refine qcD 18 30463 rfl ?_ ?_
    ·
     let I12 : It := iOwn (tSl tInt 3) [.slice (some ⟨p195, 0, none⟩) 0 0] []
     refine apR tInt tInt 3 (.slice (some ⟨p197, 0, none⟩) 0 0) [] x0.Ids [I12, iBox p26 133 K2, iBox p25 133 K1] (fun W hm => hm) (fun W hm => src_flat flat_int (hm.rdS0 r11)) underlying25 type3 (show (0 + x0.Ids.length) * 8 ≤ 140737488355328 from by omega) (fun v199 => ?_)
     refine WM_form (n := 0) rfl ?_
     rintro A200 c201 rfl m202
     refine qnD (pk [3]) (pk [2, 3]) ?_
     refine qoD 18 8 30719 rfl ?_
     refine WM_build0 (E := tInt) underlying25 type3 (Wd_none rfl) (by decide) (fun p204 => ?_)
     refine qnD (pk [4]) (pk [3, 4]) ?_
     refine qoD 18 11 32767 rfl ?_
     refine apR tInt tInt 3 (.slice (some ⟨p204, 0, none⟩) 0 0) [] x0.Tenants [iOwn (tSl tInt 3) [.slice A200 x0.Ids.length c201] x0.Ids, I12, iBox p26 133 K2, iBox p25 133 K1] (fun W hm => hm) (fun W hm => src_flat flat_int (hm.rdS0 r16)) underlying25 type3 (show (0 + x0.Tenants.length) * 8 ≤ 140737488355328 from by omega) (fun v206 => ?_)
     refine WM_form (n := 0) rfl ?_
     rintro A207 c208 rfl m209
     refine qnD (pk [4]) (pk [3, 4]) ?_
     exact QD_sub sl7 (pk [2, 0, 1, 3, 4]) (H (A200, c201, A207, c208, p195))
    refine qcD 18 30591 rfl ?_ ?_
    ·
     refine WM_build0 (E := tInt) underlying25 type3 (Wd_none rfl) (by decide) (fun p211 => ?_)
     refine qnD (pk [4]) (pk [3, 4]) ?_
     refine qoD 18 7 30719 rfl ?_
     let I13 : It := iOwn (tSl tInt 3) [.slice (some ⟨p195, 0, none⟩) 0 0] []
     refine apR tInt tInt 3 (.slice (some ⟨p197, 0, none⟩) 0 0) [] x0.Ids [iOwn (tSl tInt 3) [.slice (some ⟨p211, 0, none⟩) 0 0] [], I13, iBox p26 133 K2, iBox p25 133 K1] (pk [1, 0, 2, 3, 4]) (fun W hm => src_flat flat_int (hm.rdS0 r11)) underlying25 type3 (show (0 + x0.Ids.length) * 8 ≤ 140737488355328 from by omega) (fun v213 => ?_)
     refine WM_form (n := 0) rfl ?_
     rintro A214 c215 rfl m216
     refine qnD (pk [4]) (pk [3, 4]) ?_
     refine qoD 18 11 32767 rfl ?_
     refine apR tInt tInt 3 (.slice (some ⟨p211, 0, none⟩) 0 0) [] x0.Tenants [iOwn (tSl tInt 3) [.slice A214 x0.Ids.length c215] x0.Ids, I13, iBox p26 133 K2, iBox p25 133 K1] (pk [1, 0, 2, 3, 4]) (fun W hm => src_flat flat_int (hm.rdS0 r16)) underlying25 type3 (show (0 + x0.Tenants.length) * 8 ≤ 140737488355328 from by omega) (fun v218 => ?_)
     refine WM_form (n := 0) rfl ?_
     rintro A219 c220 rfl m221
     refine qnD (pk [4]) (pk [3, 4]) ?_
     exact QD_sub sl7 (pk [2, 0, 1, 3, 4]) (H (A214, c215, A219, c220, p195))
    exact QDs_nil
   refine qcD 18 30575 rfl ?_ ?_
   ·
    refine WM_build0 (E := tInt) underlying25 type3 (Wd_none rfl) (by decide) (fun p223 => ?_)
    refine qnD (pk [3]) (pk [2, 3]) ?_
    refine qoD 18 4 30591 rfl ?_
    refine WM_build0 (E := tInt) underlying25 type3 (Wd_none rfl) (by decide) (fun p225 => ?_)
    refine qnD (pk [4]) (pk [3, 4]) ?_
    refine qoD 18 7 30719 rfl ?_
    let I14 : It := iOwn (tSl tInt 3) [.slice (some ⟨p195, 0, none⟩) 0 0] []
    refine apR tInt tInt 3 (.slice (some ⟨p225, 0, none⟩) 0 0) [] x0.Ids [iOwn (tSl tInt 3) [.slice (some ⟨p223, 0, none⟩) 0 0] [], I14, iBox p26 133 K2, iBox p25 133 K1] (fun W hm => hm) (fun W hm => src_flat flat_int (hm.rdS0 r11)) underlying25 type3 (show (0 + x0.Ids.length) * 8 ≤ 140737488355328 from by omega) (fun v227 => ?_)
    refine WM_form (n := 0) rfl ?_
    rintro A228 c229 rfl m230
    refine qnD (pk [4]) (pk [3, 4]) ?_
    refine qoD 18 11 32767 rfl ?_
    refine apR tInt tInt 3 (.slice (some ⟨p223, 0, none⟩) 0 0) [] x0.Tenants [iOwn (tSl tInt 3) [.slice A228 x0.Ids.length c229] x0.Ids, I14, iBox p26 133 K2, iBox p25 133 K1] (pk [1, 0, 2, 3, 4]) (fun W hm => src_flat flat_int (hm.rdS0 r16)) underlying25 type3 (show (0 + x0.Tenants.length) * 8 ≤ 140737488355328 from by omega) (fun v232 => ?_)
    refine WM_form (n := 0) rfl ?_
    rintro A233 c234 rfl m235
    refine qnD (pk [4]) (pk [3, 4]) ?_
    exact QD_sub sl7 (pk [2, 0, 1, 3, 4]) (H (A228, c229, A233, c234, p195))
   exact QDs_nil
  exact QDs_nil
theorem spec_l10Copy_eq (x0 : DCharge) : spec_l10Copy_m x0 = x0 := by
 rfl
theorem spec_l10Copy_c2 (w : World) (z0 : List Value) (x0 : DCharge) (r_0 : tyCharge.rd w w.heap.size z0 x0) (s_0 : smCharge 68719476736 x0) :
  Calls Tryz.prog 161 #[.agg z0.toArray] w fun e w' => ∃ v : List Value, e = .returned (.agg v.toArray) ∧ Mem w.heap.size w [iOwn tyCharge v x0] w' := by
 have h := spec_l10Copy_c w z0 x0 r_0 s_0
 rw [spec_l10Copy_eq] at h
 exact h

end Go.Proofs.YtmikmbmdibabmaaGreat
