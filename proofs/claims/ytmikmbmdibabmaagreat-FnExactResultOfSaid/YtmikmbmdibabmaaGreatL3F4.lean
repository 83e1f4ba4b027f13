/-
  Contracts of functions, printed by a program of ours.
-/
import Derived.Test.YtmikmbmdibabmaaGreatL3F3
namespace Go.Proofs.YtmikmbmdibabmaaGreat
open Go.RowKit
set_option maxRecDepth 100000
set_option maxHeartbeats 4000000
open _root_.Go.Proofs.Tryz
def laws_eqStore_m (x0 : DStore) (x1 : DStore) : Bool :=
 cond (laws_eqVersionSS_m x0.Segments x1.Segments) (cond (x0.Now != x1.Now) false true) false
theorem cb88 : Cb Tryz.prog 88 := ⟨f88, _, func88, rfl, by decide⟩
theorem laws_eqStore_c (w : World) (z0 : List Value) (x0 : DStore) (z1 : List Value) (x1 : DStore) (r_0 : tyStore.rd w w.heap.size z0 x0) (r_1 : tyStore.rd w w.heap.size z1 x1) :
  Calls Tryz.prog 88 #[.agg z0.toArray, .agg z1.toArray] w fun e w' => e = .returned (.bool (laws_eqStore_m x0 x1)) ∧ Below w.heap.size w w' := by
 obtain ⟨v1, rfl, r2⟩ := tyStore_rd r_0
 have r7 := r2
 obtain ⟨m3, A4, c5, rfl, q6⟩ := r2
 obtain ⟨v8, rfl, r9⟩ := tyStore_rd r_1
 have r14 := r9
 obtain ⟨m10, A11, c12, rfl, q13⟩ := r9
 refine ce2 (L := [(0, .agg #[.slice A4 x0.Segments.length c5, .int .i64 x0.Now]), (1, .agg #[.slice A11 x1.Segments.length c12, .int .i64 x1.Now])]) (N := 16) func88 ?_
 refine sr ?_
 refine WM_box rfl (Wd_none rfl) (by decide) (fun p15 => ?_)
 refine WM_box rfl (Wd_none rfl) (by decide) (fun p16 => ?_)
 refine wa (nt' (CM_seq (sr ?_)))
 refine wv (vf underlying42 rfl type40) ?_
 refine wv (vl 1 0 underlying40) ?_
 refine wv (vf underlying42 rfl type40) ?_
 refine wv (vl 0 0 underlying40) ?_
 refine wcv (cl_fn cb167 rfl) (fun W hm => laws_eqVersionSS_c W _ x0.Segments _ x1.Segments (hm.rdS0 r7) (hm.rdS0 r14)) ?_
 refine wv vnot ?_
 refine nt' ?_
 rcases Bool.eq_false_or_eq_true (laws_eqVersionSS_m x0.Segments x1.Segments) with g18 | g18
 ·
  refine CM_condF rfl (nt g18) ?_
  refine CM_skip (QM_then (CM_seq (sr ?_)))
  refine wv (vf underlying42 rfl type3) ?_
  refine wv (vl 1 1 underlying3) ?_
  refine wv (vf underlying42 rfl type3) ?_
  refine wv (vl 0 1 underlying3) ?_
  refine wv vneq ?_
  refine nt' ?_
  by_cases h19 : x0.Now = x1.Now
  ·have g20 : (x0.Now != x1.Now) = false := by rw [h19]; exact bne_self_eq_false _
   refine CM_condF rfl g20 ?_
   refine CM_skip (QM_then (sr (wa (nt' (CM_ret ?_)))))
   exact rtb (h := by unfold laws_eqStore_m; exact cond_t g18 (cond_f g20 (rfl)))
  ·have g20 : (x0.Now != x1.Now) = true := bne_iff_ne.2 h19
   refine CM_condT rfl g20 ?_
   refine sr (wa (nt' (CM_ret (QM_then_ret ?_))))
   exact rtb (h := by unfold laws_eqStore_m; exact cond_t g18 (cond_t g20 (rfl)))
 ·
  refine CM_condT rfl (nf g18) ?_
  refine sr (wa (nt' (CM_ret (QM_then_ret ?_))))
  exact rtb (h := by unfold laws_eqStore_m; exact cond_f g18 (rfl))

def laws_eqActive_m (x0 : DActive) (x1 : DActive) : Bool :=
 cond (laws_eqQuery_m x0.Query x1.Query) (cond (x0.Time != x1.Time) false (cond (laws_eqIntS_m x0.Todo x1.Todo) (cond (x0.Age != x1.Age) false (cond (x0.Sent != x1.Sent) false (cond (x0.Cap != x1.Cap) false (cond (laws_eqRowS_m x0.Rows x1.Rows) true false)))) false)) false
theorem cb168 : Cb Tryz.prog 168 := ⟨f168, _, func168, rfl, by decide⟩
theorem laws_eqActive_c (w : World) (z0 : List Value) (x0 : DActive) (z1 : List Value) (x1 : DActive) (r_0 : tyActive.rd w w.heap.size z0 x0) (r_1 : tyActive.rd w w.heap.size z1 x1) :
  Calls Tryz.prog 168 #[.agg z0.toArray, .agg z1.toArray] w fun e w' => e = .returned (.bool (laws_eqActive_m x0 x1)) ∧ Below w.heap.size w w' := by
 obtain ⟨v1, v3, v5, v7, rfl, r2, r4, r6, r8⟩ := tyActive_rd r_0
 have r13 := r2
 obtain ⟨m9, A10, c11, rfl, q12⟩ := r2
 have r18 := r4
 obtain ⟨m14, A15, c16, rfl, q17⟩ := r4
 have r23 := r6
 obtain ⟨m19, A20, c21, rfl, q22⟩ := r6
 have r28 := r8
 obtain ⟨m24, A25, c26, rfl, q27⟩ := r8
 obtain ⟨v29, v31, v33, v35, rfl, r30, r32, r34, r36⟩ := tyActive_rd r_1
 have r41 := r30
 obtain ⟨m37, A38, c39, rfl, q40⟩ := r30
 have r46 := r32
 obtain ⟨m42, A43, c44, rfl, q45⟩ := r32
 have r51 := r34
 obtain ⟨m47, A48, c49, rfl, q50⟩ := r34
 have r56 := r36
 obtain ⟨m52, A53, c54, rfl, q55⟩ := r36
 refine ce2 (L := [(0, .agg #[.int .i64 x0.Query.Id, .int .i64 x0.Query.Tenant, .slice A10 x0.Query.Conds.length c11, .slice A15 x0.Query.Out.length c16, .int .i64 x0.Time, .slice A20 x0.Todo.length c21, .int .i64 x0.Age, .int .i64 x0.Sent, .int .i64 x0.Cap, .slice A25 x0.Rows.length c26]), (1, .agg #[.int .i64 x1.Query.Id, .int .i64 x1.Query.Tenant, .slice A38 x1.Query.Conds.length c39, .slice A43 x1.Query.Out.length c44, .int .i64 x1.Time, .slice A48 x1.Todo.length c49, .int .i64 x1.Age, .int .i64 x1.Sent, .int .i64 x1.Cap, .slice A53 x1.Rows.length c54])]) (N := 43) func168 ?_
 refine sr ?_
 refine WM_box rfl (Wd_none rfl) (by decide) (fun p57 => ?_)
 refine WM_box rfl (Wd_none rfl) (by decide) (fun p58 => ?_)
 refine wa (nt' (CM_seq (sr ?_)))
 refine wv (vf underlying64 rfl type34) ?_
 refine wv (fun W hm => rv_loadN (cs := [.int .i64 x0.Query.Id, .int .i64 x0.Query.Tenant, .slice A10 x0.Query.Conds.length c11, .slice A15 x0.Query.Out.length c16]) underlying34 type34 rfl rfl (hm.boxPart (n := 1) rfl rfl)) ?_
 refine wv (vf underlying64 rfl type34) ?_
 refine wv (fun W hm => rv_loadN (cs := [.int .i64 x1.Query.Id, .int .i64 x1.Query.Tenant, .slice A38 x1.Query.Conds.length c39, .slice A43 x1.Query.Out.length c44]) underlying34 type34 rfl rfl (hm.boxPart (n := 0) rfl rfl)) ?_
 refine wcv (cl_fn cb54 rfl) (fun W hm => laws_eqQuery_c W _ x0.Query _ x1.Query (tyQuery_mk (x := x0.Query) (hm.rdS0 r13) (hm.rdS0 r18)) (tyQuery_mk (x := x1.Query) (hm.rdS0 r41) (hm.rdS0 r46))) ?_
 refine wv vnot ?_
 refine nt' ?_
 rcases Bool.eq_false_or_eq_true (laws_eqQuery_m x0.Query x1.Query) with g60 | g60
 ·
  refine CM_condF rfl (nt g60) ?_
  refine CM_skip (QM_then (CM_seq (sr ?_)))
  refine wv (vf underlying64 rfl type3) ?_
  refine wv (vl 1 4 underlying3) ?_
  refine wv (vf underlying64 rfl type3) ?_
  refine wv (vl 0 4 underlying3) ?_
  refine wv vneq ?_
  refine nt' ?_
  by_cases h61 : x0.Time = x1.Time
  ·have g62 : (x0.Time != x1.Time) = false := by rw [h61]; exact bne_self_eq_false _
   refine CM_condF rfl g62 ?_
   refine CM_skip (QM_then (CM_seq (sr ?_)))
   refine wv (vf underlying64 rfl type25) ?_
   refine wv (vl 1 5 underlying25) ?_
   refine wv (vf underlying64 rfl type25) ?_
   refine wv (vl 0 5 underlying25) ?_
   refine wcv (cl_fn cb49 rfl) (fun W hm => laws_eqIntS_c W _ x0.Todo _ x1.Todo (hm.rdS0 r23) (hm.rdS0 r51)) ?_
   refine wv vnot ?_
   refine nt' ?_
   rcases Bool.eq_false_or_eq_true (laws_eqIntS_m x0.Todo x1.Todo) with g64 | g64
   ·
    refine CM_condF rfl (nt g64) ?_
    refine CM_skip (QM_then (CM_seq (sr ?_)))
    refine wv (vf underlying64 rfl type3) ?_
    refine wv (vl 1 6 underlying3) ?_
    refine wv (vf underlying64 rfl type3) ?_
    refine wv (vl 0 6 underlying3) ?_
    refine wv vneq ?_
    refine nt' ?_
    by_cases h65 : x0.Age = x1.Age
    ·have g66 : (x0.Age != x1.Age) = false := by rw [h65]; exact bne_self_eq_false _
     refine CM_condF rfl g66 ?_
     refine CM_skip (QM_then (CM_seq (sr ?_)))
     refine wv (vf underlying64 rfl type3) ?_
     refine wv (vl 1 7 underlying3) ?_
     refine wv (vf underlying64 rfl type3) ?_
     refine wv (vl 0 7 underlying3) ?_
     refine wv vneq ?_
     refine nt' ?_
     by_cases h67 : x0.Sent = x1.Sent
     ·have g68 : (x0.Sent != x1.Sent) = false := by rw [h67]; exact bne_self_eq_false _
      refine CM_condF rfl g68 ?_
      refine CM_skip (QM_then (CM_seq (sr ?_)))
      refine wv (vf underlying64 rfl type3) ?_
      refine wv (vl 1 8 underlying3) ?_
      refine wv (vf underlying64 rfl type3) ?_
      refine wv (vl 0 8 underlying3) ?_
      refine wv vneq ?_
      refine nt' ?_
      by_cases h69 : x0.Cap = x1.Cap
      ·have g70 : (x0.Cap != x1.Cap) = false := by rw [h69]; exact bne_self_eq_false _
       refine CM_condF rfl g70 ?_
       refine CM_skip (QM_then (CM_seq (sr ?_)))
       refine wv (vf underlying64 rfl type35) ?_
       refine wv (vl 1 9 underlying35) ?_
       refine wv (vf underlying64 rfl type35) ?_
       refine wv (vl 0 9 underlying35) ?_
       refine wcv (cl_fn cb87 rfl) (fun W hm => laws_eqRowS_c W _ x0.Rows _ x1.Rows (hm.rdS0 r28) (hm.rdS0 r56)) ?_
       refine wv vnot ?_
       refine nt' ?_
       rcases Bool.eq_false_or_eq_true (laws_eqRowS_m x0.Rows x1.Rows) with g72 | g72
       ·
        refine CM_condF rfl (nt g72) ?_
        refine CM_skip (QM_then (sr (wa (nt' (CM_ret ?_)))))
        exact rtb (h := by unfold laws_eqActive_m; exact cond_t g60 (cond_f g62 (cond_t g64 (cond_f g66 (cond_f g68 (cond_f g70 (cond_t g72 (rfl))))))))
       ·
        refine CM_condT rfl (nf g72) ?_
        refine sr (wa (nt' (CM_ret (QM_then_ret ?_))))
        exact rtb (h := by unfold laws_eqActive_m; exact cond_t g60 (cond_f g62 (cond_t g64 (cond_f g66 (cond_f g68 (cond_f g70 (cond_f g72 (rfl))))))))
      ·have g70 : (x0.Cap != x1.Cap) = true := bne_iff_ne.2 h69
       refine CM_condT rfl g70 ?_
       refine sr (wa (nt' (CM_ret (QM_then_ret ?_))))
       exact rtb (h := by unfold laws_eqActive_m; exact cond_t g60 (cond_f g62 (cond_t g64 (cond_f g66 (cond_f g68 (cond_t g70 (rfl)))))))
     ·have g68 : (x0.Sent != x1.Sent) = true := bne_iff_ne.2 h67
      refine CM_condT rfl g68 ?_
      refine sr (wa (nt' (CM_ret (QM_then_ret ?_))))
      exact rtb (h := by unfold laws_eqActive_m; exact cond_t g60 (cond_f g62 (cond_t g64 (cond_f g66 (cond_t g68 (rfl))))))
    ·have g66 : (x0.Age != x1.Age) = true := bne_iff_ne.2 h65
     refine CM_condT rfl g66 ?_
     refine sr (wa (nt' (CM_ret (QM_then_ret ?_))))
     exact rtb (h := by unfold laws_eqActive_m; exact cond_t g60 (cond_f g62 (cond_t g64 (cond_t g66 (rfl)))))
   ·
    refine CM_condT rfl (nf g64) ?_
    refine sr (wa (nt' (CM_ret (QM_then_ret ?_))))
    exact rtb (h := by unfold laws_eqActive_m; exact cond_t g60 (cond_f g62 (cond_f g64 (rfl))))
  ·have g62 : (x0.Time != x1.Time) = true := bne_iff_ne.2 h61
   refine CM_condT rfl g62 ?_
   refine sr (wa (nt' (CM_ret (QM_then_ret ?_))))
   exact rtb (h := by unfold laws_eqActive_m; exact cond_t g60 (cond_t g62 (rfl)))
 ·
  refine CM_condT rfl (nf g60) ?_
  refine sr (wa (nt' (CM_ret (QM_then_ret ?_))))
  exact rtb (h := by unfold laws_eqActive_m; exact cond_f g60 (rfl))

def laws_eqActiveS_b1 (x0 : (List DActive)) (x1 : (List DActive)) (k13 : Nat) : Bool ⊕ (Unit) :=
 cond (laws_eqActive_m (gt x0 k13) (gt x1 k13)) (Sum.inr ()) (Sum.inl false)
def laws_eqActiveS_m (x0 : (List DActive)) (x1 : (List DActive)) : Bool :=
 cond (((x0.length : Nat) : Int) != ((x1.length : Nat) : Int)) false (Sum.elim id (fun (s : Unit) => true) (rng (R := Bool) (fun k (_ : Unit) => laws_eqActiveS_b1 x0 x1 k) (x0.length - 0) 0 ()))
theorem cb89 : Cb Tryz.prog 89 := ⟨f89, _, func89, rfl, by decide⟩
theorem laws_eqActiveS_c (w : World) (z0 : Value) (x0 : (List DActive)) (z1 : Value) (x1 : (List DActive)) (r_0 : rdS tyActive w w.heap.size z0 x0) (r_1 : rdS tyActive w w.heap.size z1 x1) :
  Calls Tryz.prog 89 #[z0, z1] w fun e w' => e = .returned (.bool (laws_eqActiveS_m x0 x1)) ∧ Below w.heap.size w w' := by
 have r5 := r_0
 obtain ⟨m1, A2, c3, rfl, q4⟩ := r_0
 have r10 := r_1
 obtain ⟨m6, A7, c8, rfl, q9⟩ := r_1
 refine ce2 (L := [(0, .slice A2 x0.length c3), (1, .slice A7 x1.length c8)]) (N := 27) func89 ?_
 refine sr (wa (nt' (CM_seq (sr (wm ?_)))))
 refine wv (vlen underlying43) ?_
 refine wm ?_
 refine wv (vlen underlying43) ?_
 refine wv vneq ?_
 refine nt' ?_
 by_cases h11 : ((x0.length : Nat) : Int) = ((x1.length : Nat) : Int)
 ·have g12 : (((x0.length : Nat) : Int) != ((x1.length : Nat) : Int)) = false := by rw [h11]; exact bne_self_eq_false _
  refine CM_condF rfl g12 ?_
  refine CM_skip (QM_then (CM_seq (sr (wa (nt' (CM_block ?_))))))
  let F1 := fun k (_ : Unit) => laws_eqActiveS_b1 x0 x1 k
  let R2 := rng (R := Bool) F1
  refine CM_loop (σ := Nat × (Unit) × (Unit)) (fun s => [(0, .slice A2 x0.length c3), (1, .slice A7 x1.length c8), (5, .int .i64 ((s.1 : Nat) : Int))]) (fun s => []) (fun s => s.1 ≤ x0.length ∧ R2 (x0.length - s.1) s.1 s.2.1 = R2 (x0.length - 0) 0 ()) (fun s => x0.length - s.1) (0, (), ()) sl3 (fun W hm => hm) ⟨(by omega), rfl⟩ ?_
  rintro ⟨k13, ⟨⟩, ⟨⟩⟩ H16
  obtain ⟨hk14, hF15⟩ : k13 ≤ x0.length ∧ R2 (x0.length - k13) k13 () = R2 (x0.length - 0) 0 () := H16
  show CM Tryz.prog 27 _ _ _ _ [(0, .slice A2 x0.length c3), (1, .slice A7 x1.length c8), (5, .int .i64 ((k13 : Nat) : Int))] []
  refine CM_seq (sr (wm (wm ?_)))
  refine wv (vlen underlying43) ?_
  refine wv vlss ?_
  refine nt' ?_
  by_cases hl17 : k13 < x0.length
  ·have g18 : (decide (((k13 : Nat) : Int) < ((x0.length : Nat) : Int))) = true := decide_eq_true (by omega)
   refine CM_condT rfl g18 ?_
   refine CM_skip (QM_then (CM_seq (CM_block (CM_seq ?_))))
   refine CM_regionD (by kernel_rfl) (by kernel_rfl) ?_
   refine qm (qm ?_)
   obtain ⟨a19, rfl, hb20, he21⟩ := q4 (by omega)
   refine qv (vix 10 k13 underlying43 type64) ?_
   obtain ⟨_, e31, hc22⟩ := he21 k13 _ (gt_some (show k13 < x0.length from by omega))
   obtain ⟨v23, v25, v27, v29, rfl, r24, r26, r28, r30⟩ := tyActive_rd e31
   have r36 := r24
   obtain ⟨m32, A33, c34, rfl, q35⟩ := r24
   have r41 := r26
   obtain ⟨m37, A38, c39, rfl, q40⟩ := r26
   have r46 := r28
   obtain ⟨m42, A43, c44, rfl, q45⟩ := r28
   have r51 := r30
   obtain ⟨m47, A48, c49, rfl, q50⟩ := r30
   refine qv (fun W hm => rv_loadN (cs := [.int .i64 ((gt x0 k13).Query.Id), .int .i64 ((gt x0 k13).Query.Tenant), .slice A33 ((gt x0 k13).Query.Conds).length c34, .slice A38 ((gt x0 k13).Query.Out).length c39, .int .i64 ((gt x0 k13).Time), .slice A43 ((gt x0 k13).Todo).length c44, .int .i64 ((gt x0 k13).Age), .int .i64 ((gt x0 k13).Sent), .int .i64 ((gt x0 k13).Cap), .slice A48 ((gt x0 k13).Rows).length c49]) underlying64 type64 rfl rfl (hm.elCells (show (a19.add (k13 * 10)).block < w.heap.size from by rw [add_block]; exact hb20.1) hc22)) ?_
   refine qm (qm ?_)
   obtain ⟨a52, rfl, hb53, he54⟩ := q9 (by omega)
   refine qv (vix 10 k13 underlying43 type64) ?_
   obtain ⟨_, e64, hc55⟩ := he54 k13 _ (gt_some (show k13 < x1.length from by omega))
   obtain ⟨v56, v58, v60, v62, rfl, r57, r59, r61, r63⟩ := tyActive_rd e64
   have r69 := r57
   obtain ⟨m65, A66, c67, rfl, q68⟩ := r57
   have r74 := r59
   obtain ⟨m70, A71, c72, rfl, q73⟩ := r59
   have r79 := r61
   obtain ⟨m75, A76, c77, rfl, q78⟩ := r61
   have r84 := r63
   obtain ⟨m80, A81, c82, rfl, q83⟩ := r63
   refine qv (fun W hm => rv_loadN (cs := [.int .i64 ((gt x1 k13).Query.Id), .int .i64 ((gt x1 k13).Query.Tenant), .slice A66 ((gt x1 k13).Query.Conds).length c67, .slice A71 ((gt x1 k13).Query.Out).length c72, .int .i64 ((gt x1 k13).Time), .slice A76 ((gt x1 k13).Todo).length c77, .int .i64 ((gt x1 k13).Age), .int .i64 ((gt x1 k13).Sent), .int .i64 ((gt x1 k13).Cap), .slice A81 ((gt x1 k13).Rows).length c82]) underlying64 type64 rfl rfl (hm.elCells (show (a52.add (k13 * 10)).block < w.heap.size from by rw [add_block]; exact hb53.1) hc55)) ?_
   refine QR_callV (cl_fn cb168 rfl) (fun W hm => laws_eqActive_c W _ (gt x0 k13) _ (gt x1 k13) (tyActive_mk (x := (gt x0 k13)) (hm.rdS0 r36) (hm.rdS0 r41) (hm.rdS0 r46) (hm.rdS0 r51)) (tyActive_mk (x := (gt x1 k13)) (hm.rdS0 r69) (hm.rdS0 r74) (hm.rdS0 r79) (hm.rdS0 r84))) (Wd_none rfl) (by decide) ?_
   refine qv vnot ?_
   refine nq' ?_
   rcases Bool.eq_false_or_eq_true (laws_eqActive_m (gt x0 k13) (gt x1 k13)) with g86 | g86
   ·
    refine CM_condF rfl (nt g86) ?_
    refine CM_skip (QM_block_normal (QM_then (CM_region (wm ?_))))
    refine wv (vadN k13 1 (by omega)) ?_
    refine wa (WM_nil ?_)
    have hn87 := rng_next (R := Bool) (body := F1) (k := k13) (s := ()) (s' := ()) (show k13 < x0.length from by omega) (show laws_eqActiveS_b1 x0 x1 k13 = Sum.inr () from by unfold laws_eqActiveS_b1; exact cond_t g86 (rfl)) hF15
    exact QM_round (k13 + 1, (), ()) sl3 (fun W hm => hm) ⟨(by omega), hn87⟩ (rl (by omega))
   ·
    refine CM_condT rfl (nf g86) ?_
    refine sr (wa (nt' (CM_ret (QM_block_ret (QM_then_ret (QM_then_ret (QM_block_ret (QM_then_ret ?_))))))))
    exact rtb (h := by unfold laws_eqActiveS_m; exact cond_f g12 (fin_inl (rng_ret (body := F1) (k := k13) (s := ()) (show k13 < x0.length from by omega) (show laws_eqActiveS_b1 x0 x1 k13 = Sum.inl false from by unfold laws_eqActiveS_b1; exact cond_f g86 (rfl)) hF15) rfl))
  ·have g18 : (decide (((k13 : Nat) : Int) < ((x0.length : Nat) : Int))) = false := decide_eq_false (by omega)
   refine CM_condF rfl g18 ?_
   refine CM_exit (QM_then_exit (QM_then_exit ?_))
   have hE88 : R2 (x0.length - 0) 0 () = Sum.inr () := rng_end hl17 hF15
   refine QM_block_hit (QM_then (sr (wa (nt' (CM_ret ?_)))))
   exact rtb (h := by unfold laws_eqActiveS_m; exact cond_f g12 (fin_inr hE88 (rfl)))
 ·have g12 : (((x0.length : Nat) : Int) != ((x1.length : Nat) : Int)) = true := bne_iff_ne.2 h11
  refine CM_condT rfl g12 ?_
  refine sr (wa (nt' (CM_ret (QM_then_ret ?_))))
  exact rtb (h := by unfold laws_eqActiveS_m; exact cond_t g12 (rfl))

def laws_eqFinishedS_b1 (x0 : (List DFinished)) (x1 : (List DFinished)) (k13 : Nat) : Bool ⊕ (Unit) :=
 cond (laws_eqFinished_m (gt x0 k13) (gt x1 k13)) (Sum.inr ()) (Sum.inl false)
def laws_eqFinishedS_m (x0 : (List DFinished)) (x1 : (List DFinished)) : Bool :=
 cond (((x0.length : Nat) : Int) != ((x1.length : Nat) : Int)) false (Sum.elim id (fun (s : Unit) => true) (rng (R := Bool) (fun k (_ : Unit) => laws_eqFinishedS_b1 x0 x1 k) (x0.length - 0) 0 ()))
theorem cb90 : Cb Tryz.prog 90 := ⟨f90, _, func90, rfl, by decide⟩
theorem laws_eqFinishedS_c (w : World) (z0 : Value) (x0 : (List DFinished)) (z1 : Value) (x1 : (List DFinished)) (r_0 : rdS tyFinished w w.heap.size z0 x0) (r_1 : rdS tyFinished w w.heap.size z1 x1) :
  Calls Tryz.prog 90 #[z0, z1] w fun e w' => e = .returned (.bool (laws_eqFinishedS_m x0 x1)) ∧ Below w.heap.size w w' := by
 have r5 := r_0
 obtain ⟨m1, A2, c3, rfl, q4⟩ := r_0
 have r10 := r_1
 obtain ⟨m6, A7, c8, rfl, q9⟩ := r_1
 refine ce2 (L := [(0, .slice A2 x0.length c3), (1, .slice A7 x1.length c8)]) (N := 27) func90 ?_
 refine sr (wa (nt' (CM_seq (sr (wm ?_)))))
 refine wv (vlen underlying44) ?_
 refine wm ?_
 refine wv (vlen underlying44) ?_
 refine wv vneq ?_
 refine nt' ?_
 by_cases h11 : ((x0.length : Nat) : Int) = ((x1.length : Nat) : Int)
 ·have g12 : (((x0.length : Nat) : Int) != ((x1.length : Nat) : Int)) = false := by rw [h11]; exact bne_self_eq_false _
  refine CM_condF rfl g12 ?_
  refine CM_skip (QM_then (CM_seq (sr (wa (nt' (CM_block ?_))))))
  let F1 := fun k (_ : Unit) => laws_eqFinishedS_b1 x0 x1 k
  let R2 := rng (R := Bool) F1
  refine CM_loop (σ := Nat × (Unit) × (Unit)) (fun s => [(0, .slice A2 x0.length c3), (1, .slice A7 x1.length c8), (5, .int .i64 ((s.1 : Nat) : Int))]) (fun s => []) (fun s => s.1 ≤ x0.length ∧ R2 (x0.length - s.1) s.1 s.2.1 = R2 (x0.length - 0) 0 ()) (fun s => x0.length - s.1) (0, (), ()) sl3 (fun W hm => hm) ⟨(by omega), rfl⟩ ?_
  rintro ⟨k13, ⟨⟩, ⟨⟩⟩ H16
  obtain ⟨hk14, hF15⟩ : k13 ≤ x0.length ∧ R2 (x0.length - k13) k13 () = R2 (x0.length - 0) 0 () := H16
  show CM Tryz.prog 27 _ _ _ _ [(0, .slice A2 x0.length c3), (1, .slice A7 x1.length c8), (5, .int .i64 ((k13 : Nat) : Int))] []
  refine CM_seq (sr (wm (wm ?_)))
  refine wv (vlen underlying44) ?_
  refine wv vlss ?_
  refine nt' ?_
  by_cases hl17 : k13 < x0.length
  ·have g18 : (decide (((k13 : Nat) : Int) < ((x0.length : Nat) : Int))) = true := decide_eq_true (by omega)
   refine CM_condT rfl g18 ?_
   refine CM_skip (QM_then (CM_seq (CM_block (CM_seq ?_))))
   refine CM_regionD (by kernel_rfl) (by kernel_rfl) ?_
   refine qm (qm ?_)
   obtain ⟨a19, rfl, hb20, he21⟩ := q4 (by omega)
   refine qv (vix 7 k13 underlying44 type37) ?_
   obtain ⟨_, e29, hc22⟩ := he21 k13 _ (gt_some (show k13 < x0.length from by omega))
   obtain ⟨v23, v25, v27, rfl, r24, r26, r28⟩ := tyFinished_rd e29
   have r34 := r24
   obtain ⟨m30, A31, c32, rfl, q33⟩ := r24
   have r39 := r26
   obtain ⟨m35, A36, c37, rfl, q38⟩ := r26
   have r44 := r28
   obtain ⟨m40, A41, c42, rfl, q43⟩ := r28
   refine qv (fun W hm => rv_loadN (cs := [.int .i64 ((gt x0 k13).Query.Id), .int .i64 ((gt x0 k13).Query.Tenant), .slice A31 ((gt x0 k13).Query.Conds).length c32, .slice A36 ((gt x0 k13).Query.Out).length c37, .int .i64 ((gt x0 k13).Time), .int .i64 ((gt x0 k13).Steps), .slice A41 ((gt x0 k13).Rows).length c42]) underlying37 type37 rfl rfl (hm.elCells (show (a19.add (k13 * 7)).block < w.heap.size from by rw [add_block]; exact hb20.1) hc22)) ?_
   refine qm (qm ?_)
   obtain ⟨a45, rfl, hb46, he47⟩ := q9 (by omega)
   refine qv (vix 7 k13 underlying44 type37) ?_
   obtain ⟨_, e55, hc48⟩ := he47 k13 _ (gt_some (show k13 < x1.length from by omega))
   obtain ⟨v49, v51, v53, rfl, r50, r52, r54⟩ := tyFinished_rd e55
   have r60 := r50
   obtain ⟨m56, A57, c58, rfl, q59⟩ := r50
   have r65 := r52
   obtain ⟨m61, A62, c63, rfl, q64⟩ := r52
   have r70 := r54
   obtain ⟨m66, A67, c68, rfl, q69⟩ := r54
   refine qv (fun W hm => rv_loadN (cs := [.int .i64 ((gt x1 k13).Query.Id), .int .i64 ((gt x1 k13).Query.Tenant), .slice A57 ((gt x1 k13).Query.Conds).length c58, .slice A62 ((gt x1 k13).Query.Out).length c63, .int .i64 ((gt x1 k13).Time), .int .i64 ((gt x1 k13).Steps), .slice A67 ((gt x1 k13).Rows).length c68]) underlying37 type37 rfl rfl (hm.elCells (show (a45.add (k13 * 7)).block < w.heap.size from by rw [add_block]; exact hb46.1) hc48)) ?_
   refine QR_callV (cl_fn cb18 rfl) (fun W hm => laws_eqFinished_c W _ (gt x0 k13) _ (gt x1 k13) (tyFinished_mk (x := (gt x0 k13)) (hm.rdS0 r34) (hm.rdS0 r39) (hm.rdS0 r44)) (tyFinished_mk (x := (gt x1 k13)) (hm.rdS0 r60) (hm.rdS0 r65) (hm.rdS0 r70))) (Wd_none rfl) (by decide) ?_
   refine qv vnot ?_
   refine nq' ?_
   rcases Bool.eq_false_or_eq_true (laws_eqFinished_m (gt x0 k13) (gt x1 k13)) with g72 | g72
   ·
    refine CM_condF rfl (nt g72) ?_
    refine CM_skip (QM_block_normal (QM_then (CM_region (wm ?_))))
    refine wv (vadN k13 1 (by omega)) ?_
    refine wa (WM_nil ?_)
    have hn73 := rng_next (R := Bool) (body := F1) (k := k13) (s := ()) (s' := ()) (show k13 < x0.length from by omega) (show laws_eqFinishedS_b1 x0 x1 k13 = Sum.inr () from by unfold laws_eqFinishedS_b1; exact cond_t g72 (rfl)) hF15
    exact QM_round (k13 + 1, (), ()) sl3 (fun W hm => hm) ⟨(by omega), hn73⟩ (rl (by omega))
   ·
    refine CM_condT rfl (nf g72) ?_
    refine sr (wa (nt' (CM_ret (QM_block_ret (QM_then_ret (QM_then_ret (QM_block_ret (QM_then_ret ?_))))))))
    exact rtb (h := by unfold laws_eqFinishedS_m; exact cond_f g12 (fin_inl (rng_ret (body := F1) (k := k13) (s := ()) (show k13 < x0.length from by omega) (show laws_eqFinishedS_b1 x0 x1 k13 = Sum.inl false from by unfold laws_eqFinishedS_b1; exact cond_f g72 (rfl)) hF15) rfl))
  ·have g18 : (decide (((k13 : Nat) : Int) < ((x0.length : Nat) : Int))) = false := decide_eq_false (by omega)
   refine CM_condF rfl g18 ?_
   refine CM_exit (QM_then_exit (QM_then_exit ?_))
   have hE74 : R2 (x0.length - 0) 0 () = Sum.inr () := rng_end hl17 hF15
   refine QM_block_hit (QM_then (sr (wa (nt' (CM_ret ?_)))))
   exact rtb (h := by unfold laws_eqFinishedS_m; exact cond_f g12 (fin_inr hE74 (rfl)))
 ·have g12 : (((x0.length : Nat) : Int) != ((x1.length : Nat) : Int)) = true := bne_iff_ne.2 h11
  refine CM_condT rfl g12 ?_
  refine sr (wa (nt' (CM_ret (QM_then_ret ?_))))
  exact rtb (h := by unfold laws_eqFinishedS_m; exact cond_t g12 (rfl))

def laws_eqCharge_m (x0 : DCharge) (x1 : DCharge) : Bool :=
 cond (x0.Segment != x1.Segment) false (cond (x0.Base != x1.Base) false (cond (laws_eqIntS_m x0.Ids x1.Ids) (cond (laws_eqIntS_m x0.Tenants x1.Tenants) (cond (laws_eqIntS_m x0.Rows x1.Rows) true false) false) false))
theorem cb169 : Cb Tryz.prog 169 := ⟨f169, _, func169, rfl, by decide⟩
theorem laws_eqCharge_c (w : World) (z0 : List Value) (x0 : DCharge) (z1 : List Value) (x1 : DCharge) (r_0 : tyCharge.rd w w.heap.size z0 x0) (r_1 : tyCharge.rd w w.heap.size z1 x1) :
  Calls Tryz.prog 169 #[.agg z0.toArray, .agg z1.toArray] w fun e w' => e = .returned (.bool (laws_eqCharge_m x0 x1)) ∧ Below w.heap.size w w' := by
 obtain ⟨v1, v3, v5, rfl, r2, r4, r6⟩ := tyCharge_rd r_0
 have r11 := r2
 obtain ⟨m7, A8, c9, rfl, q10⟩ := r2
 have r16 := r4
 obtain ⟨m12, A13, c14, rfl, q15⟩ := r4
 have r21 := r6
 obtain ⟨m17, A18, c19, rfl, q20⟩ := r6
 obtain ⟨v22, v24, v26, rfl, r23, r25, r27⟩ := tyCharge_rd r_1
 have r32 := r23
 obtain ⟨m28, A29, c30, rfl, q31⟩ := r23
 have r37 := r25
 obtain ⟨m33, A34, c35, rfl, q36⟩ := r25
 have r42 := r27
 obtain ⟨m38, A39, c40, rfl, q41⟩ := r27
 refine ce2 (L := [(0, .agg #[.int .i64 x0.Segment, .int .i64 x0.Base, .slice A8 x0.Ids.length c9, .slice A13 x0.Tenants.length c14, .slice A18 x0.Rows.length c19]), (1, .agg #[.int .i64 x1.Segment, .int .i64 x1.Base, .slice A29 x1.Ids.length c30, .slice A34 x1.Tenants.length c35, .slice A39 x1.Rows.length c40])]) (N := 33) func169 ?_
 refine sr ?_
 refine WM_box rfl (Wd_none rfl) (by decide) (fun p43 => ?_)
 refine WM_box rfl (Wd_none rfl) (by decide) (fun p44 => ?_)
 refine wa (nt' (CM_seq (sr ?_)))
 refine wv (vf underlying133 rfl type3) ?_
 refine wv (vl 1 0 underlying3) ?_
 refine wv (vf underlying133 rfl type3) ?_
 refine wv (vl 0 0 underlying3) ?_
 refine wv vneq ?_
 refine nt' ?_
 by_cases h45 : x0.Segment = x1.Segment
 ·have g46 : (x0.Segment != x1.Segment) = false := by rw [h45]; exact bne_self_eq_false _
  refine CM_condF rfl g46 ?_
  refine CM_skip (QM_then (CM_seq (sr ?_)))
  refine wv (vf underlying133 rfl type3) ?_
  refine wv (vl 1 1 underlying3) ?_
  refine wv (vf underlying133 rfl type3) ?_
  refine wv (vl 0 1 underlying3) ?_
  refine wv vneq ?_
  refine nt' ?_
  by_cases h47 : x0.Base = x1.Base
  ·have g48 : (x0.Base != x1.Base) = false := by rw [h47]; exact bne_self_eq_false _
   refine CM_condF rfl g48 ?_
   refine CM_skip (QM_then (CM_seq (sr ?_)))
   refine wv (vf underlying133 rfl type25) ?_
   refine wv (vl 1 2 underlying25) ?_
   refine wv (vf underlying133 rfl type25) ?_
   refine wv (vl 0 2 underlying25) ?_
   refine wcv (cl_fn cb49 rfl) (fun W hm => laws_eqIntS_c W _ x0.Ids _ x1.Ids (hm.rdS0 r11) (hm.rdS0 r32)) ?_
   refine wv vnot ?_
   refine nt' ?_
   rcases Bool.eq_false_or_eq_true (laws_eqIntS_m x0.Ids x1.Ids) with g50 | g50
   ·
    refine CM_condF rfl (nt g50) ?_
    refine CM_skip (QM_then (CM_seq (sr ?_)))
    refine wv (vf underlying133 rfl type25) ?_
    refine wv (vl 1 3 underlying25) ?_
    refine wv (vf underlying133 rfl type25) ?_
    refine wv (vl 0 3 underlying25) ?_
    refine wcv (cl_fn cb49 rfl) (fun W hm => laws_eqIntS_c W _ x0.Tenants _ x1.Tenants (hm.rdS0 r16) (hm.rdS0 r37)) ?_
    refine wv vnot ?_
    refine nt' ?_
    rcases Bool.eq_false_or_eq_true (laws_eqIntS_m x0.Tenants x1.Tenants) with g52 | g52
    ·
     refine CM_condF rfl (nt g52) ?_
     refine CM_skip (QM_then (CM_seq (sr ?_)))
     refine wv (vf underlying133 rfl type25) ?_
     refine wv (vl 1 4 underlying25) ?_
     refine wv (vf underlying133 rfl type25) ?_
     refine wv (vl 0 4 underlying25) ?_
     refine wcv (cl_fn cb49 rfl) (fun W hm => laws_eqIntS_c W _ x0.Rows _ x1.Rows (hm.rdS0 r21) (hm.rdS0 r42)) ?_
     refine wv vnot ?_
     refine nt' ?_
     rcases Bool.eq_false_or_eq_true (laws_eqIntS_m x0.Rows x1.Rows) with g54 | g54
     ·
      refine CM_condF rfl (nt g54) ?_
      refine CM_skip (QM_then (sr (wa (nt' (CM_ret ?_)))))
      exact rtb (h := by unfold laws_eqCharge_m; exact cond_f g46 (cond_f g48 (cond_t g50 (cond_t g52 (cond_t g54 (rfl))))))
     ·
      refine CM_condT rfl (nf g54) ?_
      refine sr (wa (nt' (CM_ret (QM_then_ret ?_))))
      exact rtb (h := by unfold laws_eqCharge_m; exact cond_f g46 (cond_f g48 (cond_t g50 (cond_t g52 (cond_f g54 (rfl))))))
    ·
     refine CM_condT rfl (nf g52) ?_
     refine sr (wa (nt' (CM_ret (QM_then_ret ?_))))
     exact rtb (h := by unfold laws_eqCharge_m; exact cond_f g46 (cond_f g48 (cond_t g50 (cond_f g52 (rfl)))))
   ·
    refine CM_condT rfl (nf g50) ?_
    refine sr (wa (nt' (CM_ret (QM_then_ret ?_))))
    exact rtb (h := by unfold laws_eqCharge_m; exact cond_f g46 (cond_f g48 (cond_f g50 (rfl))))
  ·have g48 : (x0.Base != x1.Base) = true := bne_iff_ne.2 h47
   refine CM_condT rfl g48 ?_
   refine sr (wa (nt' (CM_ret (QM_then_ret ?_))))
   exact rtb (h := by unfold laws_eqCharge_m; exact cond_f g46 (cond_t g48 (rfl)))
 ·have g46 : (x0.Segment != x1.Segment) = true := bne_iff_ne.2 h45
  refine CM_condT rfl g46 ?_
  refine sr (wa (nt' (CM_ret (QM_then_ret ?_))))
  exact rtb (h := by unfold laws_eqCharge_m; exact cond_t g46 (rfl))

def laws_eqChargeS_b1 (x0 : (List DCharge)) (x1 : (List DCharge)) (k13 : Nat) : Bool ⊕ (Unit) :=
 cond (laws_eqCharge_m (gt x0 k13) (gt x1 k13)) (Sum.inr ()) (Sum.inl false)
def laws_eqChargeS_m (x0 : (List DCharge)) (x1 : (List DCharge)) : Bool :=
 cond (((x0.length : Nat) : Int) != ((x1.length : Nat) : Int)) false (Sum.elim id (fun (s : Unit) => true) (rng (R := Bool) (fun k (_ : Unit) => laws_eqChargeS_b1 x0 x1 k) (x0.length - 0) 0 ()))
theorem cb91 : Cb Tryz.prog 91 := ⟨f91, _, func91, rfl, by decide⟩
theorem laws_eqChargeS_c (w : World) (z0 : Value) (x0 : (List DCharge)) (z1 : Value) (x1 : (List DCharge)) (r_0 : rdS tyCharge w w.heap.size z0 x0) (r_1 : rdS tyCharge w w.heap.size z1 x1) :
  Calls Tryz.prog 91 #[z0, z1] w fun e w' => e = .returned (.bool (laws_eqChargeS_m x0 x1)) ∧ Below w.heap.size w w' := by
 have r5 := r_0
 obtain ⟨m1, A2, c3, rfl, q4⟩ := r_0
 have r10 := r_1
 obtain ⟨m6, A7, c8, rfl, q9⟩ := r_1
 refine ce2 (L := [(0, .slice A2 x0.length c3), (1, .slice A7 x1.length c8)]) (N := 27) func91 ?_
 refine sr (wa (nt' (CM_seq (sr (wm ?_)))))
 refine wv (vlen underlying45) ?_
 refine wm ?_
 refine wv (vlen underlying45) ?_
 refine wv vneq ?_
 refine nt' ?_
 by_cases h11 : ((x0.length : Nat) : Int) = ((x1.length : Nat) : Int)
 ·have g12 : (((x0.length : Nat) : Int) != ((x1.length : Nat) : Int)) = false := by rw [h11]; exact bne_self_eq_false _
  refine CM_condF rfl g12 ?_
  refine CM_skip (QM_then (CM_seq (sr (wa (nt' (CM_block ?_))))))
  let F1 := fun k (_ : Unit) => laws_eqChargeS_b1 x0 x1 k
  let R2 := rng (R := Bool) F1
  refine CM_loop (σ := Nat × (Unit) × (Unit)) (fun s => [(0, .slice A2 x0.length c3), (1, .slice A7 x1.length c8), (5, .int .i64 ((s.1 : Nat) : Int))]) (fun s => []) (fun s => s.1 ≤ x0.length ∧ R2 (x0.length - s.1) s.1 s.2.1 = R2 (x0.length - 0) 0 ()) (fun s => x0.length - s.1) (0, (), ()) sl3 (fun W hm => hm) ⟨(by omega), rfl⟩ ?_
  rintro ⟨k13, ⟨⟩, ⟨⟩⟩ H16
  obtain ⟨hk14, hF15⟩ : k13 ≤ x0.length ∧ R2 (x0.length - k13) k13 () = R2 (x0.length - 0) 0 () := H16
  show CM Tryz.prog 27 _ _ _ _ [(0, .slice A2 x0.length c3), (1, .slice A7 x1.length c8), (5, .int .i64 ((k13 : Nat) : Int))] []
  refine CM_seq (sr (wm (wm ?_)))
  refine wv (vlen underlying45) ?_
  refine wv vlss ?_
  refine nt' ?_
  by_cases hl17 : k13 < x0.length
  ·have g18 : (decide (((k13 : Nat) : Int) < ((x0.length : Nat) : Int))) = true := decide_eq_true (by omega)
   refine CM_condT rfl g18 ?_
   refine CM_skip (QM_then (CM_seq (CM_block (CM_seq ?_))))
   refine CM_regionD (by kernel_rfl) (by kernel_rfl) ?_
   refine qm (qm ?_)
   obtain ⟨a19, rfl, hb20, he21⟩ := q4 (by omega)
   refine qv (vix 5 k13 underlying45 type133) ?_
   obtain ⟨_, e29, hc22⟩ := he21 k13 _ (gt_some (show k13 < x0.length from by omega))
   obtain ⟨v23, v25, v27, rfl, r24, r26, r28⟩ := tyCharge_rd e29
   have r34 := r24
   obtain ⟨m30, A31, c32, rfl, q33⟩ := r24
   have r39 := r26
   obtain ⟨m35, A36, c37, rfl, q38⟩ := r26
   have r44 := r28
   obtain ⟨m40, A41, c42, rfl, q43⟩ := r28
   refine qv (fun W hm => rv_loadN (cs := [.int .i64 ((gt x0 k13).Segment), .int .i64 ((gt x0 k13).Base), .slice A31 ((gt x0 k13).Ids).length c32, .slice A36 ((gt x0 k13).Tenants).length c37, .slice A41 ((gt x0 k13).Rows).length c42]) underlying133 type133 rfl rfl (hm.elCells (show (a19.add (k13 * 5)).block < w.heap.size from by rw [add_block]; exact hb20.1) hc22)) ?_
   refine qm (qm ?_)
   obtain ⟨a45, rfl, hb46, he47⟩ := q9 (by omega)
   refine qv (vix 5 k13 underlying45 type133) ?_
   obtain ⟨_, e55, hc48⟩ := he47 k13 _ (gt_some (show k13 < x1.length from by omega))
   obtain ⟨v49, v51, v53, rfl, r50, r52, r54⟩ := tyCharge_rd e55
   have r60 := r50
   obtain ⟨m56, A57, c58, rfl, q59⟩ := r50
   have r65 := r52
   obtain ⟨m61, A62, c63, rfl, q64⟩ := r52
   have r70 := r54
   obtain ⟨m66, A67, c68, rfl, q69⟩ := r54
   refine qv (fun W hm => rv_loadN (cs := [.int .i64 ((gt x1 k13).Segment), .int .i64 ((gt x1 k13).Base), .slice A57 ((gt x1 k13).Ids).length c58, .slice A62 ((gt x1 k13).Tenants).length c63, .slice A67 ((gt x1 k13).Rows).length c68]) underlying133 type133 rfl rfl (hm.elCells (show (a45.add (k13 * 5)).block < w.heap.size from by rw [add_block]; exact hb46.1) hc48)) ?_
   refine QR_callV (cl_fn cb169 rfl) (fun W hm => laws_eqCharge_c W _ (gt x0 k13) _ (gt x1 k13) (tyCharge_mk (x := (gt x0 k13)) (hm.rdS0 r34) (hm.rdS0 r39) (hm.rdS0 r44)) (tyCharge_mk (x := (gt x1 k13)) (hm.rdS0 r60) (hm.rdS0 r65) (hm.rdS0 r70))) (Wd_none rfl) (by decide) ?_
   refine qv vnot ?_
   refine nq' ?_
   rcases Bool.eq_false_or_eq_true (laws_eqCharge_m (gt x0 k13) (gt x1 k13)) with g72 | g72
   ·
    refine CM_condF rfl (nt g72) ?_
    refine CM_skip (QM_block_normal (QM_then (CM_region (wm ?_))))
    refine wv (vadN k13 1 (by omega)) ?_
    refine wa (WM_nil ?_)
    have hn73 := rng_next (R := Bool) (body := F1) (k := k13) (s := ()) (s' := ()) (show k13 < x0.length from by omega) (show laws_eqChargeS_b1 x0 x1 k13 = Sum.inr () from by unfold laws_eqChargeS_b1; exact cond_t g72 (rfl)) hF15
    exact QM_round (k13 + 1, (), ()) sl3 (fun W hm => hm) ⟨(by omega), hn73⟩ (rl (by omega))
   ·
    refine CM_condT rfl (nf g72) ?_
    refine sr (wa (nt' (CM_ret (QM_block_ret (QM_then_ret (QM_then_ret (QM_block_ret (QM_then_ret ?_))))))))
    exact rtb (h := by unfold laws_eqChargeS_m; exact cond_f g12 (fin_inl (rng_ret (body := F1) (k := k13) (s := ()) (show k13 < x0.length from by omega) (show laws_eqChargeS_b1 x0 x1 k13 = Sum.inl false from by unfold laws_eqChargeS_b1; exact cond_f g72 (rfl)) hF15) rfl))
  ·have g18 : (decide (((k13 : Nat) : Int) < ((x0.length : Nat) : Int))) = false := decide_eq_false (by omega)
   refine CM_condF rfl g18 ?_
   refine CM_exit (QM_then_exit (QM_then_exit ?_))
   have hE74 : R2 (x0.length - 0) 0 () = Sum.inr () := rng_end hl17 hF15
   refine QM_block_hit (QM_then (sr (wa (nt' (CM_ret ?_)))))
   exact rtb (h := by unfold laws_eqChargeS_m; exact cond_f g12 (fin_inr hE74 (rfl)))
 ·have g12 : (((x0.length : Nat) : Int) != ((x1.length : Nat) : Int)) = true := bne_iff_ne.2 h11
  refine CM_condT rfl g12 ?_
  refine sr (wa (nt' (CM_ret (QM_then_ret ?_))))
  exact rtb (h := by unfold laws_eqChargeS_m; exact cond_t g12 (rfl))

def laws_eqEngine_m (x0 : DEngine) (x1 : DEngine) : Bool :=
 cond (laws_eqStore_m x0.Store x1.Store) (cond (x0.Cursor != x1.Cursor) false (cond (laws_eqIntS_m x0.Order x1.Order) (cond (laws_eqActiveS_m x0.Active x1.Active) (cond (laws_eqFinishedS_m x0.Done x1.Done) (cond (laws_eqChargeS_m x0.Ledger x1.Ledger) (cond (x0.Steps != x1.Steps) false true) false) false) false) false)) false
theorem cb19 : Cb Tryz.prog 19 := ⟨f19, _, func19, rfl, by decide⟩
theorem laws_eqEngine_c (w : World) (z0 : List Value) (x0 : DEngine) (z1 : List Value) (x1 : DEngine) (r_0 : tyEngine.rd w w.heap.size z0 x0) (r_1 : tyEngine.rd w w.heap.size z1 x1) :
  Calls Tryz.prog 19 #[.agg z0.toArray, .agg z1.toArray] w fun e w' => e = .returned (.bool (laws_eqEngine_m x0 x1)) ∧ Below w.heap.size w w' := by
 obtain ⟨v1, v3, v5, v7, v9, rfl, r2, r4, r6, r8, r10⟩ := tyEngine_rd r_0
 have r15 := r2
 obtain ⟨m11, A12, c13, rfl, q14⟩ := r2
 have r20 := r4
 obtain ⟨m16, A17, c18, rfl, q19⟩ := r4
 have r25 := r6
 obtain ⟨m21, A22, c23, rfl, q24⟩ := r6
 have r30 := r8
 obtain ⟨m26, A27, c28, rfl, q29⟩ := r8
 have r35 := r10
 obtain ⟨m31, A32, c33, rfl, q34⟩ := r10
 obtain ⟨v36, v38, v40, v42, v44, rfl, r37, r39, r41, r43, r45⟩ := tyEngine_rd r_1
 have r50 := r37
 obtain ⟨m46, A47, c48, rfl, q49⟩ := r37
 have r55 := r39
 obtain ⟨m51, A52, c53, rfl, q54⟩ := r39
 have r60 := r41
 obtain ⟨m56, A57, c58, rfl, q59⟩ := r41
 have r65 := r43
 obtain ⟨m61, A62, c63, rfl, q64⟩ := r43
 have r70 := r45
 obtain ⟨m66, A67, c68, rfl, q69⟩ := r45
 refine ce2 (L := [(0, .agg #[.slice A12 x0.Store.Segments.length c13, .int .i64 x0.Store.Now, .int .i64 x0.Cursor, .slice A17 x0.Order.length c18, .slice A22 x0.Active.length c23, .slice A27 x0.Done.length c28, .slice A32 x0.Ledger.length c33, .int .i64 x0.Steps]), (1, .agg #[.slice A47 x1.Store.Segments.length c48, .int .i64 x1.Store.Now, .int .i64 x1.Cursor, .slice A52 x1.Order.length c53, .slice A57 x1.Active.length c58, .slice A62 x1.Done.length c63, .slice A67 x1.Ledger.length c68, .int .i64 x1.Steps])]) (N := 45) func19 ?_
 refine sr ?_
 refine WM_box rfl (Wd_none rfl) (by decide) (fun p71 => ?_)
 refine WM_box rfl (Wd_none rfl) (by decide) (fun p72 => ?_)
 refine wa (nt' (CM_seq (sr ?_)))
 refine wv (vf underlying47 rfl type42) ?_
 refine wv (fun W hm => rv_loadN (cs := [.slice A12 x0.Store.Segments.length c13, .int .i64 x0.Store.Now]) underlying42 type42 rfl rfl (hm.boxPart (n := 1) rfl rfl)) ?_
 refine wv (vf underlying47 rfl type42) ?_
 refine wv (fun W hm => rv_loadN (cs := [.slice A47 x1.Store.Segments.length c48, .int .i64 x1.Store.Now]) underlying42 type42 rfl rfl (hm.boxPart (n := 0) rfl rfl)) ?_
 refine wcv (cl_fn cb88 rfl) (fun W hm => laws_eqStore_c W _ x0.Store _ x1.Store (tyStore_mk (x := x0.Store) (hm.rdS0 r15)) (tyStore_mk (x := x1.Store) (hm.rdS0 r50))) ?_
 refine wv vnot ?_
 refine nt' ?_
 rcases Bool.eq_false_or_eq_true (laws_eqStore_m x0.Store x1.Store) with g74 | g74
 ·
  refine CM_condF rfl (nt g74) ?_
  refine CM_skip (QM_then (CM_seq (sr ?_)))
  refine wv (vf underlying47 rfl type3) ?_
  refine wv (vl 1 2 underlying3) ?_
  refine wv (vf underlying47 rfl type3) ?_
  refine wv (vl 0 2 underlying3) ?_
  refine wv vneq ?_
  refine nt' ?_
  by_cases h75 : x0.Cursor = x1.Cursor
  ·have g76 : (x0.Cursor != x1.Cursor) = false := by rw [h75]; exact bne_self_eq_false _
   refine CM_condF rfl g76 ?_
   refine CM_skip (QM_then (CM_seq (sr ?_)))
   refine wv (vf underlying47 rfl type25) ?_
   refine wv (vl 1 3 underlying25) ?_
   refine wv (vf underlying47 rfl type25) ?_
   refine wv (vl 0 3 underlying25) ?_
   refine wcv (cl_fn cb49 rfl) (fun W hm => laws_eqIntS_c W _ x0.Order _ x1.Order (hm.rdS0 r20) (hm.rdS0 r55)) ?_
   refine wv vnot ?_
   refine nt' ?_
   rcases Bool.eq_false_or_eq_true (laws_eqIntS_m x0.Order x1.Order) with g78 | g78
   ·
    refine CM_condF rfl (nt g78) ?_
    refine CM_skip (QM_then (CM_seq (sr ?_)))
    refine wv (vf underlying47 rfl type43) ?_
    refine wv (vl 1 4 underlying43) ?_
    refine wv (vf underlying47 rfl type43) ?_
    refine wv (vl 0 4 underlying43) ?_
    refine wcv (cl_fn cb89 rfl) (fun W hm => laws_eqActiveS_c W _ x0.Active _ x1.Active (hm.rdS0 r25) (hm.rdS0 r60)) ?_
    refine wv vnot ?_
    refine nt' ?_
    rcases Bool.eq_false_or_eq_true (laws_eqActiveS_m x0.Active x1.Active) with g80 | g80
    ·
     refine CM_condF rfl (nt g80) ?_
     refine CM_skip (QM_then (CM_seq (sr ?_)))
     refine wv (vf underlying47 rfl type44) ?_
     refine wv (vl 1 5 underlying44) ?_
     refine wv (vf underlying47 rfl type44) ?_
     refine wv (vl 0 5 underlying44) ?_
     refine wcv (cl_fn cb90 rfl) (fun W hm => laws_eqFinishedS_c W _ x0.Done _ x1.Done (hm.rdS0 r30) (hm.rdS0 r65)) ?_
     refine wv vnot ?_
     refine nt' ?_
     rcases Bool.eq_false_or_eq_true (laws_eqFinishedS_m x0.Done x1.Done) with g82 | g82
     ·
      refine CM_condF rfl (nt g82) ?_
      refine CM_skip (QM_then (CM_seq (sr ?_)))
      refine wv (vf underlying47 rfl type45) ?_
      refine wv (vl 1 6 underlying45) ?_
      refine wv (vf underlying47 rfl type45) ?_
      refine wv (vl 0 6 underlying45) ?_
      refine wcv (cl_fn cb91 rfl) (fun W hm => laws_eqChargeS_c W _ x0.Ledger _ x1.Ledger (hm.rdS0 r35) (hm.rdS0 r70)) ?_
      refine wv vnot ?_
      refine nt' ?_
      rcases Bool.eq_false_or_eq_true (laws_eqChargeS_m x0.Ledger x1.Ledger) with g84 | g84
      ·
       refine CM_condF rfl (nt g84) ?_
       refine CM_skip (QM_then (CM_seq (sr ?_)))
       refine wv (vf underlying47 rfl type3) ?_
       refine wv (vl 1 7 underlying3) ?_
       refine wv (vf underlying47 rfl type3) ?_
       refine wv (vl 0 7 underlying3) ?_
       refine wv vneq ?_
       refine nt' ?_
       by_cases h85 : x0.Steps = x1.Steps
       ·have g86 : (x0.Steps != x1.Steps) = false := by rw [h85]; exact bne_self_eq_false _
        refine CM_condF rfl g86 ?_
        refine CM_skip (QM_then (sr (wa (nt' (CM_ret ?_)))))
        exact rtb (h := by unfold laws_eqEngine_m; exact cond_t g74 (cond_f g76 (cond_t g78 (cond_t g80 (cond_t g82 (cond_t g84 (cond_f g86 (rfl))))))))
       ·have g86 : (x0.Steps != x1.Steps) = true := bne_iff_ne.2 h85
        refine CM_condT rfl g86 ?_
        refine sr (wa (nt' (CM_ret (QM_then_ret ?_))))
        exact rtb (h := by unfold laws_eqEngine_m; exact cond_t g74 (cond_f g76 (cond_t g78 (cond_t g80 (cond_t g82 (cond_t g84 (cond_t g86 (rfl))))))))
      ·
       refine CM_condT rfl (nf g84) ?_
       refine sr (wa (nt' (CM_ret (QM_then_ret ?_))))
       exact rtb (h := by unfold laws_eqEngine_m; exact cond_t g74 (cond_f g76 (cond_t g78 (cond_t g80 (cond_t g82 (cond_f g84 (rfl)))))))
     ·
      refine CM_condT rfl (nf g82) ?_
      refine sr (wa (nt' (CM_ret (QM_then_ret ?_))))
      exact rtb (h := by unfold laws_eqEngine_m; exact cond_t g74 (cond_f g76 (cond_t g78 (cond_t g80 (cond_f g82 (rfl))))))
    ·
     refine CM_condT rfl (nf g80) ?_
     refine sr (wa (nt' (CM_ret (QM_then_ret ?_))))
     exact rtb (h := by unfold laws_eqEngine_m; exact cond_t g74 (cond_f g76 (cond_t g78 (cond_f g80 (rfl)))))
   ·
    refine CM_condT rfl (nf g78) ?_
    refine sr (wa (nt' (CM_ret (QM_then_ret ?_))))
    exact rtb (h := by unfold laws_eqEngine_m; exact cond_t g74 (cond_f g76 (cond_f g78 (rfl))))
  ·have g76 : (x0.Cursor != x1.Cursor) = true := bne_iff_ne.2 h75
   refine CM_condT rfl g76 ?_
   refine sr (wa (nt' (CM_ret (QM_then_ret ?_))))
   exact rtb (h := by unfold laws_eqEngine_m; exact cond_t g74 (cond_t g76 (rfl)))
 ·
  refine CM_condT rfl (nf g74) ?_
  refine sr (wa (nt' (CM_ret (QM_then_ret ?_))))
  exact rtb (h := by unfold laws_eqEngine_m; exact cond_f g74 (rfl))

def laws_markIntS_b1 (k5 : Nat) (s6 : Int) (d7 : (List Int)) : (Int × (List Int)) ⊕ (Int × (List Int)) :=
 Sum.inr ((IntKind.i64.wrap (s6 + 1)), (d7.set k5 s6))
def laws_markIntS_m (x0 : (List Int)) (x1 : Int) : (Int × (List Int)) :=
 Sum.elim id (fun (s : Int × (List Int)) => (s.1, s.2)) (rng (R := (Int × (List Int))) (fun k (s : Int × (List Int)) => laws_markIntS_b1 k s.1 s.2) (x0.length - 0) 0 (x1, x0))
theorem cb50 : Cb Tryz.prog 50 := ⟨f50, _, func50, rfl, by decide⟩
theorem laws_markIntS_c (B : Nat) (w0 : World) (is : List It) (w : World) (z0 : Value) (x0 : (List Int)) (x1 : Int) (hm : Mem B w0 (iOwn (tSl tInt 3) [z0] x0 :: is) w) :
  Calls Tryz.prog 50 #[z0, .int .i64 x1] w fun e w' => e = .returned (.int .i64 (laws_markIntS_m x0 x1).1) ∧ Mem B w0 (iOwn (tSl tInt 3) [z0] (laws_markIntS_m x0 x1).2 :: is) w' := by
 refine call_enterW (L := [(0, z0), (1, .int .i64 x1)]) (N := 19) func50 rfl rfl (Nat.le_of_ble_eq_true rfl) (argsL_cons rfl (argsL_cons rfl argsL_nil)) hm ?_
 refine CM_form (n := 0) rfl ?_
 rintro A1 c2 rfl m3
 refine sr (wa (nt' (CM_seq (sr (wa (nt' (CM_block ?_)))))))
 let F1 := fun k (s : Int × (List Int)) => laws_markIntS_b1 k s.1 s.2
 let R2 := rng (R := (Int × (List Int))) F1
 refine CM_loop (σ := Nat × (Int × (List Int)) × (Unit)) (fun s => [(0, .slice A1 x0.length c2), (1, .int .i64 s.2.1.1), (5, .int .i64 ((s.1 : Nat) : Int))]) (fun s => (iOwn (tSl tInt 3) [.slice A1 x0.length c2] s.2.1.2 :: is)) (fun s => s.1 ≤ x0.length ∧ R2 (x0.length - s.1) s.1 s.2.1 = R2 (x0.length - 0) 0 (x1, x0)) (fun s => x0.length - s.1) (0, (x1, x0), ()) sl3 (fun W hm => hm) ⟨(by omega), rfl⟩ ?_
 rintro ⟨k5, ⟨s6, d7⟩, ⟨⟩⟩ H10
 obtain ⟨hk8, hF9⟩ : k5 ≤ x0.length ∧ R2 (x0.length - k5) k5 (s6, d7) = R2 (x0.length - 0) 0 (x1, x0) := H10
 show CM Tryz.prog 19 _ _ _ _ [(0, .slice A1 x0.length c2), (1, .int .i64 s6), (5, .int .i64 ((k5 : Nat) : Int))] (iOwn (tSl tInt 3) [.slice A1 x0.length c2] d7 :: is)
 refine CM_seq (sr (wm (wm ?_)))
 refine wv (vlen underlying25) ?_
 refine wv vlss ?_
 refine nt' ?_
 by_cases hl11 : k5 < x0.length
 ·have g12 : (decide (((k5 : Nat) : Int) < ((x0.length : Nat) : Int))) = true := decide_eq_true (by omega)
  refine CM_condT rfl g12 ?_
  refine CM_skip (QM_then (CM_seq (CM_block (sr (wm (wm (wm ?_)))))))
  refine WM_formO (n := 0) rfl (by omega) ?_
  rintro g13 rfl
  refine wv (vix 1 k5 underlying25 type3) ?_
  refine WM_setEl (E := tInt) (e := 3) (u := .int .i64 s6) (k := k5) (p := g13) (n := x0.length) (xs := d7) (eis := []) (js := (is)) (yv := s6) (fun W hm => (hm.front (n := 0) rfl)) (fun _ _ hs => (Sep.nil hs ▸ tInt_own)) rfl type3 rfl (by omega) rfl rfl (Wd_none rfl) ?_
  refine nt' (CM_region (wm ?_))
  refine wv vadd ?_
  refine wa (WM_nil (QM_block_normal (QM_then (CM_region (wm ?_)))))
  refine wv (vadN k5 1 (by omega)) ?_
  refine wa (WM_nil ?_)
  have hn14 := rng_next (R := (Int × (List Int))) (body := F1) (k := k5) (s := (s6, d7)) (s' := ((IntKind.i64.wrap (s6 + 1)), (d7.set k5 s6))) (show k5 < x0.length from by omega) (show laws_markIntS_b1 k5 s6 d7 = Sum.inr ((IntKind.i64.wrap (s6 + 1)), (d7.set k5 s6)) from by unfold laws_markIntS_b1; exact rfl) hF9
  exact QM_round (k5 + 1, ((IntKind.i64.wrap (s6 + 1)), (d7.set k5 s6)), ()) sl3 (fun W hm => hm) ⟨(by omega), hn14⟩ (rl (by omega))
 ·have g12 : (decide (((k5 : Nat) : Int) < ((x0.length : Nat) : Int))) = false := decide_eq_false (by omega)
  refine CM_condF rfl g12 ?_
  refine CM_exit (QM_then_exit (QM_then_exit ?_))
  have hE15 : R2 (x0.length - 0) 0 (x1, x0) = Sum.inr (s6, d7) := rng_end hl11 hF9
  refine QM_block_hit (QM_then (sr (wm (wa (nt' (CM_ret ?_))))))
  refine QM_rW rfl rfl (fun W hm => ⟨?_, ?_⟩)
  ·rw [(show laws_markIntS_m x0 x1 = (s6, d7) from by unfold laws_markIntS_m; exact fin_inr hE15 (rfl))]
  ·rw [(show laws_markIntS_m x0 x1 = (s6, d7) from by unfold laws_markIntS_m; exact fin_inr hE15 (rfl))]; exact hm

def laws_markVersionS_b1 (k5 : Nat) (s6 : Int) (d7 : (List DVersion)) : (Int × (List DVersion)) ⊕ (Int × (List DVersion)) :=
 Sum.inr ((IntKind.i64.wrap ((IntKind.i64.wrap (((laws_markIntS_m ((gt d7 k5).Values) (IntKind.i64.wrap (s6 + 1))).1) + 1)) + 1)), (d7.set k5 (⟨s6, (laws_markIntS_m ((gt d7 k5).Values) (IntKind.i64.wrap (s6 + 1))).2, (laws_markIntS_m ((gt d7 k5).Values) (IntKind.i64.wrap (s6 + 1))).1, (IntKind.i64.wrap (((laws_markIntS_m ((gt d7 k5).Values) (IntKind.i64.wrap (s6 + 1))).1) + 1))⟩ : DVersion)))
def laws_markVersionS_m (x0 : (List DVersion)) (x1 : Int) : (Int × (List DVersion)) :=
 Sum.elim id (fun (s : Int × (List DVersion)) => (s.1, s.2)) (rng (R := (Int × (List DVersion))) (fun k (s : Int × (List DVersion)) => laws_markVersionS_b1 k s.1 s.2) (x0.length - 0) 0 (x1, x0))
theorem cb219 : Cb Tryz.prog 219 := ⟨f219, _, func219, rfl, by decide⟩
theorem laws_markVersionS_c (B : Nat) (w0 : World) (is : List It) (w : World) (z0 : Value) (x0 : (List DVersion)) (x1 : Int) (hm : Mem B w0 (iOwn (tSl tyVersion 191) [z0] x0 :: is) w) :
  Calls Tryz.prog 219 #[z0, .int .i64 x1] w fun e w' => e = .returned (.int .i64 (laws_markVersionS_m x0 x1).1) ∧ Mem B w0 (iOwn (tSl tyVersion 191) [z0] (laws_markVersionS_m x0 x1).2 :: is) w' := by
 refine call_enterW (L := [(0, z0), (1, .int .i64 x1)]) (N := 41) func219 rfl rfl (Nat.le_of_ble_eq_true rfl) (argsL_cons rfl (argsL_cons rfl argsL_nil)) hm ?_
 refine CM_form (n := 0) rfl ?_
 rintro A1 c2 rfl m3
 refine sr (wa (nt' (CM_seq (sr (wa (nt' (CM_block ?_)))))))
 let F1 := fun k (s : Int × (List DVersion)) => laws_markVersionS_b1 k s.1 s.2
 let R2 := rng (R := (Int × (List DVersion))) F1
 refine CM_loop (σ := Nat × (Int × (List DVersion)) × (Unit)) (fun s => [(0, .slice A1 x0.length c2), (1, .int .i64 s.2.1.1), (5, .int .i64 ((s.1 : Nat) : Int))]) (fun s => (iOwn (tSl tyVersion 191) [.slice A1 x0.length c2] s.2.1.2 :: is)) (fun s => s.1 ≤ x0.length ∧ R2 (x0.length - s.1) s.1 s.2.1 = R2 (x0.length - 0) 0 (x1, x0)) (fun s => x0.length - s.1) (0, (x1, x0), ()) sl3 (fun W hm => hm) ⟨(by omega), rfl⟩ ?_
 rintro ⟨k5, ⟨s6, d7⟩, ⟨⟩⟩ H10
 obtain ⟨hk8, hF9⟩ : k5 ≤ x0.length ∧ R2 (x0.length - k5) k5 (s6, d7) = R2 (x0.length - 0) 0 (x1, x0) := H10
 show CM Tryz.prog 41 _ _ _ _ [(0, .slice A1 x0.length c2), (1, .int .i64 s6), (5, .int .i64 ((k5 : Nat) : Int))] (iOwn (tSl tyVersion 191) [.slice A1 x0.length c2] d7 :: is)
 refine CM_seq (sr (wm (wm ?_)))
 refine wv (vlen underlying131) ?_
 refine wv vlss ?_
 refine nt' ?_
 by_cases hl11 : k5 < x0.length
 ·have g12 : (decide (((k5 : Nat) : Int) < ((x0.length : Nat) : Int))) = true := decide_eq_true (by omega)
  refine CM_condT rfl g12 ?_
  refine CM_skip (QM_then (CM_seq (CM_block (sr (wm (wm (wm ?_)))))))
  refine WM_formO (n := 0) rfl (by omega) ?_
  rintro g13 rfl
  refine wv (vix 4 k5 underlying131 type191) ?_
  refine wv (vf underlying191 rfl type3) ?_
  refine WM_focus (E := tyVersion) (e := 191) (A := (some ⟨g13, 0, none⟩)) (n := x0.length) (c := c2) (xs := d7) (k := k5) (js := (is)) (by omega) (fun W hm => (hm.front (n := 0) rfl)) (fun ck14 => ?_)
  refine tyVersion_sp ?_
  rintro v15 rfl
  refine WM_form (n := 0) rfl ?_
  rintro A16 c17 rfl m18
  let K3 : List Value := [.int .i64 s6, .slice A16 ((gt d7 k5).Values).length c17, .int .i64 ((gt d7 k5).Born), .int .i64 ((gt d7 k5).Died)]
  refine WM_storeFoc (E := tyVersion) (e := 191) (g := g13) (n := x0.length) (c := c2) (k := k5) (s := 4) (o := 0) (xs := d7) (ck := [.int .i64 ((gt d7 k5).Id), .slice A16 ((gt d7 k5).Values).length c17, .int .i64 ((gt d7 k5).Born), .int .i64 ((gt d7 k5).Died)]) (ck' := K3) (js := (iOwn (tSl tInt 3) [.slice A16 ((gt d7 k5).Values).length c17] ((gt d7 k5).Values) :: is)) (fun W hm => (hm.front (n := 1) rfl)) rfl rfl type3 rfl (Nat.le_of_ble_eq_true rfl) rfl rfl rfl rfl (Wd_none rfl) ?_
  refine nt' (sr (wm ?_))
  refine wv vadd ?_
  refine wa (nt' (sr (wm (wm ?_))))
  refine wv (vix 4 k5 underlying131 type191) ?_
  refine wv (vf underlying191 rfl type25) ?_
  refine wv (fun W hm => rv_load underlying25 rfl rfl (hm.focCells (i := 0) rfl rfl 1 _ rfl)) ?_
  refine wm ?_
  refine WM_callW (χ := Unit) (val := fun _ => .int .i64 (laws_markIntS_m ((gt d7 k5).Values) (IntKind.i64.wrap (s6 + 1))).1) (js := fun _ => (iOwn (tSl tInt 3) [.slice A16 ((gt d7 k5).Values).length c17] (laws_markIntS_m ((gt d7 k5).Values) (IntKind.i64.wrap (s6 + 1))).2 :: (iFoc tyVersion 191 (some ⟨g13, 0, none⟩) x0.length c2 d7 k5 K3 :: is))) (cl_fn cb50 rfl) (fun W hm => (laws_markIntS_c B w0 (iFoc tyVersion 191 (some ⟨g13, 0, none⟩) x0.length c2 d7 k5 K3 :: is) W (.slice A16 ((gt d7 k5).Values).length c17) ((gt d7 k5).Values) (IntKind.i64.wrap (s6 + 1)) (hm.front (n := 1) rfl)).mono (fun _ _ h => ⟨(), h.1, h.2⟩)) (Wd_none rfl) (by decide) (fun _ => ?_)
  refine wa (nt' (sr (wm (wm (wm ?_)))))
  refine wv (vix 4 k5 underlying131 type191) ?_
  refine wv (vf underlying191 rfl type3) ?_
  let K4 : List Value := [.int .i64 s6, .slice A16 ((gt d7 k5).Values).length c17, .int .i64 ((laws_markIntS_m ((gt d7 k5).Values) (IntKind.i64.wrap (s6 + 1))).1), .int .i64 ((gt d7 k5).Died)]
  let I6 : It := iOwn (tSl tInt 3) [.slice A16 ((gt d7 k5).Values).length c17] ((laws_markIntS_m ((gt d7 k5).Values) (IntKind.i64.wrap (s6 + 1))).2)
  refine WM_storeFoc (E := tyVersion) (e := 191) (g := g13) (n := x0.length) (c := c2) (k := k5) (s := 4) (o := 2) (xs := d7) (ck := K3) (ck' := K4) (js := (I6 :: is)) (fun W hm => (hm.front (n := 1) rfl)) rfl rfl type3 rfl (Nat.le_of_ble_eq_true rfl) rfl rfl rfl rfl (Wd_none rfl) ?_
  refine nt' (sr (wm ?_))
  refine wv vadd ?_
  refine wa (nt' (sr (wm (wm (wm ?_)))))
  refine wv (vix 4 k5 underlying131 type191) ?_
  refine wv (vf underlying191 rfl type3) ?_
  let K5 : List Value := [.int .i64 s6, .slice A16 ((gt d7 k5).Values).length c17, .int .i64 ((laws_markIntS_m ((gt d7 k5).Values) (IntKind.i64.wrap (s6 + 1))).1), .int .i64 (IntKind.i64.wrap (((laws_markIntS_m ((gt d7 k5).Values) (IntKind.i64.wrap (s6 + 1))).1) + 1))]
  refine WM_storeFoc (E := tyVersion) (e := 191) (g := g13) (n := x0.length) (c := c2) (k := k5) (s := 4) (o := 3) (xs := d7) (ck := K4) (ck' := K5) (js := (I6 :: is)) (fun W hm => (hm.front (n := 0) rfl)) rfl rfl type3 rfl (Nat.le_of_ble_eq_true rfl) rfl rfl rfl rfl (Wd_none rfl) ?_
  refine nt' (CM_region (wm ?_))
  refine wv vadd ?_
  refine wa (WM_nil (QM_block_normal (QM_then (CM_region (wm ?_)))))
  refine wv (vadN k5 1 (by omega)) ?_
  refine wa (WM_nil ?_)
  refine QM_items (fun W hm => Mem.unfocus (Mem.join (is := [I6]) (js := (iFoc tyVersion 191 (some ⟨g13, 0, none⟩) x0.length c2 d7 k5 K5 :: (is))) (fun _ _ hs => tyVersion_join (x := (⟨s6, (laws_markIntS_m ((gt d7 k5).Values) (IntKind.i64.wrap (s6 + 1))).2, (laws_markIntS_m ((gt d7 k5).Values) (IntKind.i64.wrap (s6 + 1))).1, (IntKind.i64.wrap (((laws_markIntS_m ((gt d7 k5).Values) (IntKind.i64.wrap (s6 + 1))).1) + 1))⟩ : DVersion)) hs) ((hm.front (n := 0) rfl).front (n := 1) rfl))) ?_
  have hn20 := rng_next (R := (Int × (List DVersion))) (body := F1) (k := k5) (s := (s6, d7)) (s' := ((IntKind.i64.wrap ((IntKind.i64.wrap (((laws_markIntS_m ((gt d7 k5).Values) (IntKind.i64.wrap (s6 + 1))).1) + 1)) + 1)), (d7.set k5 (⟨s6, (laws_markIntS_m ((gt d7 k5).Values) (IntKind.i64.wrap (s6 + 1))).2, (laws_markIntS_m ((gt d7 k5).Values) (IntKind.i64.wrap (s6 + 1))).1, (IntKind.i64.wrap (((laws_markIntS_m ((gt d7 k5).Values) (IntKind.i64.wrap (s6 + 1))).1) + 1))⟩ : DVersion)))) (show k5 < x0.length from by omega) (show laws_markVersionS_b1 k5 s6 d7 = Sum.inr ((IntKind.i64.wrap ((IntKind.i64.wrap (((laws_markIntS_m ((gt d7 k5).Values) (IntKind.i64.wrap (s6 + 1))).1) + 1)) + 1)), (d7.set k5 (⟨s6, (laws_markIntS_m ((gt d7 k5).Values) (IntKind.i64.wrap (s6 + 1))).2, (laws_markIntS_m ((gt d7 k5).Values) (IntKind.i64.wrap (s6 + 1))).1, (IntKind.i64.wrap (((laws_markIntS_m ((gt d7 k5).Values) (IntKind.i64.wrap (s6 + 1))).1) + 1))⟩ : DVersion))) from by unfold laws_markVersionS_b1; exact rfl) hF9
  exact QM_round (k5 + 1, ((IntKind.i64.wrap ((IntKind.i64.wrap (((laws_markIntS_m ((gt d7 k5).Values) (IntKind.i64.wrap (s6 + 1))).1) + 1)) + 1)), (d7.set k5 (⟨s6, (laws_markIntS_m ((gt d7 k5).Values) (IntKind.i64.wrap (s6 + 1))).2, (laws_markIntS_m ((gt d7 k5).Values) (IntKind.i64.wrap (s6 + 1))).1, (IntKind.i64.wrap (((laws_markIntS_m ((gt d7 k5).Values) (IntKind.i64.wrap (s6 + 1))).1) + 1))⟩ : DVersion))), ()) sl3 (fun W hm => hm) ⟨(by omega), hn20⟩ (rl (by omega))
 ·have g12 : (decide (((k5 : Nat) : Int) < ((x0.length : Nat) : Int))) = false := decide_eq_false (by omega)
  refine CM_condF rfl g12 ?_
  refine CM_exit (QM_then_exit (QM_then_exit ?_))
  have hE21 : R2 (x0.length - 0) 0 (x1, x0) = Sum.inr (s6, d7) := rng_end hl11 hF9
  refine QM_block_hit (QM_then (sr (wm (wa (nt' (CM_ret ?_))))))
  refine QM_rW rfl rfl (fun W hm => ⟨?_, ?_⟩)
  ·rw [(show laws_markVersionS_m x0 x1 = (s6, d7) from by unfold laws_markVersionS_m; exact fin_inr hE21 (rfl))]
  ·rw [(show laws_markVersionS_m x0 x1 = (s6, d7) from by unfold laws_markVersionS_m; exact fin_inr hE21 (rfl))]; exact hm

def laws_markVersionSS_b1 (k5 : Nat) (s6 : Int) (d7 : (List (List DVersion))) : (Int × (List (List DVersion))) ⊕ (Int × (List (List DVersion))) :=
 Sum.inr ((laws_markVersionS_m (gt d7 k5) s6).1, (d7.set k5 ((laws_markVersionS_m (gt d7 k5) s6).2)))
def laws_markVersionSS_m (x0 : (List (List DVersion))) (x1 : Int) : (Int × (List (List DVersion))) :=
 Sum.elim id (fun (s : Int × (List (List DVersion))) => (s.1, s.2)) (rng (R := (Int × (List (List DVersion)))) (fun k (s : Int × (List (List DVersion))) => laws_markVersionSS_b1 k s.1 s.2) (x0.length - 0) 0 (x1, x0))
theorem cb170 : Cb Tryz.prog 170 := ⟨f170, _, func170, rfl, by decide⟩
theorem laws_markVersionSS_c (B : Nat) (w0 : World) (is : List It) (w : World) (z0 : Value) (x0 : (List (List DVersion))) (x1 : Int) (hm : Mem B w0 (iOwn (tSl (tSl tyVersion 191) 131) [z0] x0 :: is) w) :
  Calls Tryz.prog 170 #[z0, .int .i64 x1] w fun e w' => e = .returned (.int .i64 (laws_markVersionSS_m x0 x1).1) ∧ Mem B w0 (iOwn (tSl (tSl tyVersion 191) 131) [z0] (laws_markVersionSS_m x0 x1).2 :: is) w' := by
 refine call_enterW (L := [(0, z0), (1, .int .i64 x1)]) (N := 19) func170 rfl rfl (Nat.le_of_ble_eq_true rfl) (argsL_cons rfl (argsL_cons rfl argsL_nil)) hm ?_
 refine CM_form (n := 0) rfl ?_
 rintro A1 c2 rfl m3
 refine sr (wa (nt' (CM_seq (sr (wa (nt' (CM_block ?_)))))))
 let F1 := fun k (s : Int × (List (List DVersion))) => laws_markVersionSS_b1 k s.1 s.2
 let R2 := rng (R := (Int × (List (List DVersion)))) F1
 refine CM_loop (σ := Nat × (Int × (List (List DVersion))) × (Unit)) (fun s => [(0, .slice A1 x0.length c2), (1, .int .i64 s.2.1.1), (5, .int .i64 ((s.1 : Nat) : Int))]) (fun s => (iOwn (tSl (tSl tyVersion 191) 131) [.slice A1 x0.length c2] s.2.1.2 :: is)) (fun s => s.1 ≤ x0.length ∧ R2 (x0.length - s.1) s.1 s.2.1 = R2 (x0.length - 0) 0 (x1, x0)) (fun s => x0.length - s.1) (0, (x1, x0), ()) sl3 (fun W hm => hm) ⟨(by omega), rfl⟩ ?_
 rintro ⟨k5, ⟨s6, d7⟩, ⟨⟩⟩ H10
 obtain ⟨hk8, hF9⟩ : k5 ≤ x0.length ∧ R2 (x0.length - k5) k5 (s6, d7) = R2 (x0.length - 0) 0 (x1, x0) := H10
 show CM Tryz.prog 19 _ _ _ _ [(0, .slice A1 x0.length c2), (1, .int .i64 s6), (5, .int .i64 ((k5 : Nat) : Int))] (iOwn (tSl (tSl tyVersion 191) 131) [.slice A1 x0.length c2] d7 :: is)
 refine CM_seq (sr (wm (wm ?_)))
 refine wv (vlen underlying40) ?_
 refine wv vlss ?_
 refine nt' ?_
 by_cases hl11 : k5 < x0.length
 ·have g12 : (decide (((k5 : Nat) : Int) < ((x0.length : Nat) : Int))) = true := decide_eq_true (by omega)
  refine CM_condT rfl g12 ?_
  refine CM_skip (QM_then (CM_seq (CM_block (CM_region (wm (wm ?_))))))
  refine WM_formO (n := 0) rfl (by omega) ?_
  rintro g13 rfl
  refine wv (vix 1 k5 underlying40 type131) ?_
  refine WM_focus (E := (tSl tyVersion 191)) (e := 131) (A := (some ⟨g13, 0, none⟩)) (n := x0.length) (c := c2) (xs := d7) (k := k5) (js := (is)) (by omega) (fun W hm => (hm.front (n := 0) rfl)) (fun ck14 => ?_)
  refine WM_split (γ := Value) (js := fun g => [iOwn (tSl tyVersion 191) [g] (gt d7 k5)]) (C := fun g => ck14 = [g]) (fun _ _ h => tSl_split h) ?_
  rintro v15 rfl
  refine WM_form (n := 0) rfl ?_
  rintro A16 c17 rfl m18
  refine wv (fun W hm => rv_load underlying131 rfl rfl (hm.focInt (i := 1) rfl rfl)) ?_
  refine wm ?_
  refine WM_callW (χ := Unit) (val := fun _ => .int .i64 (laws_markVersionS_m (gt d7 k5) s6).1) (js := fun _ => (iOwn (tSl tyVersion 191) [.slice A16 (gt d7 k5).length c17] (laws_markVersionS_m (gt d7 k5) s6).2 :: (iFoc (tSl tyVersion 191) 131 (some ⟨g13, 0, none⟩) x0.length c2 d7 k5 [.slice A16 (gt d7 k5).length c17] :: is))) (cl_fn cb219 rfl) (fun W hm => (laws_markVersionS_c B w0 (iFoc (tSl tyVersion 191) 131 (some ⟨g13, 0, none⟩) x0.length c2 d7 k5 [.slice A16 (gt d7 k5).length c17] :: is) W (.slice A16 (gt d7 k5).length c17) (gt d7 k5) s6 (hm.front (n := 0) rfl)).mono (fun _ _ h => ⟨(), h.1, h.2⟩)) (Wd_none rfl) (by decide) (fun _ => ?_)
  refine wa (WM_nil (QM_block_normal (QM_then (CM_region (wm ?_)))))
  refine wv (vadN k5 1 (by omega)) ?_
  refine wa (WM_nil ?_)
  refine QM_items (fun W hm => Mem.unfocus (Mem.join (is := [iOwn (tSl tyVersion 191) [.slice A16 (gt d7 k5).length c17] ((laws_markVersionS_m (gt d7 k5) s6).2)]) (js := (iFoc (tSl tyVersion 191) 131 (some ⟨g13, 0, none⟩) x0.length c2 d7 k5 [.slice A16 (gt d7 k5).length c17] :: (is))) (fun _ _ hs => Sep.one hs) ((hm.front (n := 1) rfl).front (n := 1) rfl))) ?_
  have hn20 := rng_next (R := (Int × (List (List DVersion)))) (body := F1) (k := k5) (s := (s6, d7)) (s' := ((laws_markVersionS_m (gt d7 k5) s6).1, (d7.set k5 ((laws_markVersionS_m (gt d7 k5) s6).2)))) (show k5 < x0.length from by omega) (show laws_markVersionSS_b1 k5 s6 d7 = Sum.inr ((laws_markVersionS_m (gt d7 k5) s6).1, (d7.set k5 ((laws_markVersionS_m (gt d7 k5) s6).2))) from by unfold laws_markVersionSS_b1; exact rfl) hF9
  exact QM_round (k5 + 1, ((laws_markVersionS_m (gt d7 k5) s6).1, (d7.set k5 ((laws_markVersionS_m (gt d7 k5) s6).2))), ()) sl3 (fun W hm => hm) ⟨(by omega), hn20⟩ (rl (by omega))
 ·have g12 : (decide (((k5 : Nat) : Int) < ((x0.length : Nat) : Int))) = false := decide_eq_false (by omega)
  refine CM_condF rfl g12 ?_
  refine CM_exit (QM_then_exit (QM_then_exit ?_))
  have hE21 : R2 (x0.length - 0) 0 (x1, x0) = Sum.inr (s6, d7) := rng_end hl11 hF9
  refine QM_block_hit (QM_then (sr (wm (wa (nt' (CM_ret ?_))))))
  refine QM_rW rfl rfl (fun W hm => ⟨?_, ?_⟩)
  ·rw [(show laws_markVersionSS_m x0 x1 = (s6, d7) from by unfold laws_markVersionSS_m; exact fin_inr hE21 (rfl))]
  ·rw [(show laws_markVersionSS_m x0 x1 = (s6, d7) from by unfold laws_markVersionSS_m; exact fin_inr hE21 (rfl))]; exact hm

def laws_markStore_m (x0 : DStore) (x1 : Int) : (Int × DStore) :=
 ((laws_markVersionSS_m x0.Segments x1).1, (⟨(laws_markVersionSS_m x0.Segments x1).2, x0.Now⟩ : DStore))
theorem cb92 : Cb Tryz.prog 92 := ⟨f92, _, func92, rfl, by decide⟩
theorem laws_markStore_c (B : Nat) (w0 : World) (is : List It) (w : World) (z0 : List Value) (x0 : DStore) (x1 : Int) (hm : Mem B w0 (iOwn tyStore z0 x0 :: is) w) :
  Calls Tryz.prog 92 #[.agg z0.toArray, .int .i64 x1] w fun e w' => e = .returned (.int .i64 (laws_markStore_m x0 x1).1) ∧ Mem B w0 (iOwn tyStore z0 (laws_markStore_m x0 x1).2 :: is) w' := by
 refine call_enterW (L := [(0, .agg z0.toArray), (1, .int .i64 x1)]) (N := 10) func92 rfl rfl (Nat.le_of_ble_eq_true rfl) (argsL_cons rfl (argsL_cons rfl argsL_nil)) hm ?_
 refine CM_split (γ := Value) (js := fun g => [iOwn (tSl (tSl tyVersion 191) 131) [g] x0.Segments]) (C := fun g => z0 = [g, .int .i64 x0.Now]) (fun _ _ h => tyStore_split h) ?_
 rintro v1 rfl
 refine CM_form (n := 0) rfl ?_
 rintro A2 c3 rfl m4
 refine sr ?_
 refine WM_box rfl (Wd_none rfl) (by decide) (fun p6 => ?_)
 refine wa (nt' (sr ?_))
 refine wv (vf underlying42 rfl type40) ?_
 refine wv (vl 0 0 underlying40) ?_
 refine wm ?_
 let I1 : It := iBox p6 42 [.slice A2 x0.Segments.length c3, .int .i64 x0.Now]
 refine WM_callW (χ := Unit) (val := fun _ => .int .i64 (laws_markVersionSS_m x0.Segments x1).1) (js := fun _ => (iOwn (tSl (tSl tyVersion 191) 131) [.slice A2 x0.Segments.length c3] (laws_markVersionSS_m x0.Segments x1).2 :: (I1 :: is))) (cl_fn cb170 rfl) (fun W hm => (laws_markVersionSS_c B w0 (I1 :: is) W (.slice A2 x0.Segments.length c3) x0.Segments x1 (hm.front (n := 1) rfl)).mono (fun _ _ h => ⟨(), h.1, h.2⟩)) (Wd_none rfl) (by decide) (fun _ => ?_)
 refine wa (nt' (sr (wm (wa (nt' (CM_ret ?_))))))
 refine QM_rW rfl rfl (fun W hm => ⟨?_, ?_⟩)
 ·rw [(show laws_markStore_m x0 x1 = ((laws_markVersionSS_m x0.Segments x1).1, (⟨(laws_markVersionSS_m x0.Segments x1).2, x0.Now⟩ : DStore)) from by unfold laws_markStore_m; exact rfl)]
 ·rw [(show laws_markStore_m x0 x1 = ((laws_markVersionSS_m x0.Segments x1).1, (⟨(laws_markVersionSS_m x0.Segments x1).2, x0.Now⟩ : DStore)) from by unfold laws_markStore_m; exact rfl)]; exact Mem.join (is := [iOwn (tSl (tSl tyVersion 191) 131) [.slice A2 x0.Segments.length c3] ((laws_markVersionSS_m x0.Segments x1).2)]) (js := is) (fun _ _ hs => tyStore_join (x := (⟨(laws_markVersionSS_m x0.Segments x1).2, x0.Now⟩ : DStore)) hs) ((hm.front (n := 0) rfl).front (n := 1) rfl).tail

def laws_markCondS_b1 (k5 : Nat) (s6 : Int) (d7 : (List DCond)) : (Int × (List DCond)) ⊕ (Int × (List DCond)) :=
 Sum.inr ((IntKind.i64.wrap ((IntKind.i64.wrap ((IntKind.i64.wrap (s6 + 1)) + 1)) + 1)), (d7.set k5 (⟨s6, (IntKind.i64.wrap (s6 + 1)), (IntKind.i64.wrap ((IntKind.i64.wrap (s6 + 1)) + 1))⟩ : DCond)))
def laws_markCondS_m (x0 : (List DCond)) (x1 : Int) : (Int × (List DCond)) :=
 Sum.elim id (fun (s : Int × (List DCond)) => (s.1, s.2)) (rng (R := (Int × (List DCond))) (fun k (s : Int × (List DCond)) => laws_markCondS_b1 k s.1 s.2) (x0.length - 0) 0 (x1, x0))
theorem cb146 : Cb Tryz.prog 146 := ⟨f146, _, func146, rfl, by decide⟩
theorem laws_markCondS_c (B : Nat) (w0 : World) (is : List It) (w : World) (z0 : Value) (x0 : (List DCond)) (x1 : Int) (hm : Mem B w0 (iOwn (tSl tyCond 201) [z0] x0 :: is) w) :
  Calls Tryz.prog 146 #[z0, .int .i64 x1] w fun e w' => e = .returned (.int .i64 (laws_markCondS_m x0 x1).1) ∧ Mem B w0 (iOwn (tSl tyCond 201) [z0] (laws_markCondS_m x0 x1).2 :: is) w' := by
 refine call_enterW (L := [(0, z0), (1, .int .i64 x1)]) (N := 34) func146 rfl rfl (Nat.le_of_ble_eq_true rfl) (argsL_cons rfl (argsL_cons rfl argsL_nil)) hm ?_
 refine CM_form (n := 0) rfl ?_
 rintro A1 c2 rfl m3
 refine sr (wa (nt' (CM_seq (sr (wa (nt' (CM_block ?_)))))))
 let F1 := fun k (s : Int × (List DCond)) => laws_markCondS_b1 k s.1 s.2
 let R2 := rng (R := (Int × (List DCond))) F1
 refine CM_loop (σ := Nat × (Int × (List DCond)) × (Unit)) (fun s => [(0, .slice A1 x0.length c2), (1, .int .i64 s.2.1.1), (5, .int .i64 ((s.1 : Nat) : Int))]) (fun s => (iOwn (tSl tyCond 201) [.slice A1 x0.length c2] s.2.1.2 :: is)) (fun s => s.1 ≤ x0.length ∧ R2 (x0.length - s.1) s.1 s.2.1 = R2 (x0.length - 0) 0 (x1, x0)) (fun s => x0.length - s.1) (0, (x1, x0), ()) sl3 (fun W hm => hm) ⟨(by omega), rfl⟩ ?_
 rintro ⟨k5, ⟨s6, d7⟩, ⟨⟩⟩ H10
 obtain ⟨hk8, hF9⟩ : k5 ≤ x0.length ∧ R2 (x0.length - k5) k5 (s6, d7) = R2 (x0.length - 0) 0 (x1, x0) := H10
 show CM Tryz.prog 34 _ _ _ _ [(0, .slice A1 x0.length c2), (1, .int .i64 s6), (5, .int .i64 ((k5 : Nat) : Int))] (iOwn (tSl tyCond 201) [.slice A1 x0.length c2] d7 :: is)
 refine CM_seq (sr (wm (wm ?_)))
 refine wv (vlen underlying32) ?_
 refine wv vlss ?_
 refine nt' ?_
 by_cases hl11 : k5 < x0.length
 ·have g12 : (decide (((k5 : Nat) : Int) < ((x0.length : Nat) : Int))) = true := decide_eq_true (by omega)
  refine CM_condT rfl g12 ?_
  refine CM_skip (QM_then (CM_seq (CM_block (sr (wm (wm (wm ?_)))))))
  refine WM_formO (n := 0) rfl (by omega) ?_
  rintro g13 rfl
  refine wv (vix 3 k5 underlying32 type201) ?_
  refine wv (vf underlying201 rfl type3) ?_
  refine WM_focus (E := tyCond) (e := 201) (A := (some ⟨g13, 0, none⟩)) (n := x0.length) (c := c2) (xs := d7) (k := k5) (js := (is)) (by omega) (fun W hm => (hm.front (n := 0) rfl)) (fun ck14 => ?_)
  refine tyCond_sp ?_
  rintro ⟨⟩ rfl
  let K3 : List Value := [.int .i64 s6, .int .i64 ((gt d7 k5).Low), .int .i64 ((gt d7 k5).High)]
  refine WM_storeFoc (E := tyCond) (e := 201) (g := g13) (n := x0.length) (c := c2) (k := k5) (s := 3) (o := 0) (xs := d7) (ck := [.int .i64 ((gt d7 k5).Field), .int .i64 ((gt d7 k5).Low), .int .i64 ((gt d7 k5).High)]) (ck' := K3) (js := (is)) (fun W hm => (hm.front (n := 0) rfl)) rfl rfl type3 rfl (Nat.le_of_ble_eq_true rfl) rfl rfl rfl rfl (Wd_none rfl) ?_
  refine nt' (sr (wm ?_))
  refine wv vadd ?_
  refine wa (nt' (sr (wm (wm (wm ?_)))))
  refine wv (vix 3 k5 underlying32 type201) ?_
  refine wv (vf underlying201 rfl type3) ?_
  let K4 : List Value := [.int .i64 s6, .int .i64 (IntKind.i64.wrap (s6 + 1)), .int .i64 ((gt d7 k5).High)]
  refine WM_storeFoc (E := tyCond) (e := 201) (g := g13) (n := x0.length) (c := c2) (k := k5) (s := 3) (o := 1) (xs := d7) (ck := K3) (ck' := K4) (js := (is)) (fun W hm => (hm.front (n := 0) rfl)) rfl rfl type3 rfl (Nat.le_of_ble_eq_true rfl) rfl rfl rfl rfl (Wd_none rfl) ?_
  refine nt' (sr (wm ?_))
  refine wv vadd ?_
  refine wa (nt' (sr (wm (wm (wm ?_)))))
  refine wv (vix 3 k5 underlying32 type201) ?_
  refine wv (vf underlying201 rfl type3) ?_
  let K5 : List Value := [.int .i64 s6, .int .i64 (IntKind.i64.wrap (s6 + 1)), .int .i64 (IntKind.i64.wrap ((IntKind.i64.wrap (s6 + 1)) + 1))]
  refine WM_storeFoc (E := tyCond) (e := 201) (g := g13) (n := x0.length) (c := c2) (k := k5) (s := 3) (o := 2) (xs := d7) (ck := K4) (ck' := K5) (js := (is)) (fun W hm => (hm.front (n := 0) rfl)) rfl rfl type3 rfl (Nat.le_of_ble_eq_true rfl) rfl rfl rfl rfl (Wd_none rfl) ?_
  refine nt' (CM_region (wm ?_))
  refine wv vadd ?_
  refine wa (WM_nil (QM_block_normal (QM_then (CM_region (wm ?_)))))
  refine wv (vadN k5 1 (by omega)) ?_
  refine wa (WM_nil ?_)
  refine QM_items (fun W hm => Mem.unfocus (Mem.join (is := []) (js := (iFoc tyCond 201 (some ⟨g13, 0, none⟩) x0.length c2 d7 k5 K5 :: (is))) (fun _ _ hs => tyCond_join (x := (⟨s6, (IntKind.i64.wrap (s6 + 1)), (IntKind.i64.wrap ((IntKind.i64.wrap (s6 + 1)) + 1))⟩ : DCond)) hs) (hm.front (n := 0) rfl))) ?_
  have hn15 := rng_next (R := (Int × (List DCond))) (body := F1) (k := k5) (s := (s6, d7)) (s' := ((IntKind.i64.wrap ((IntKind.i64.wrap ((IntKind.i64.wrap (s6 + 1)) + 1)) + 1)), (d7.set k5 (⟨s6, (IntKind.i64.wrap (s6 + 1)), (IntKind.i64.wrap ((IntKind.i64.wrap (s6 + 1)) + 1))⟩ : DCond)))) (show k5 < x0.length from by omega) (show laws_markCondS_b1 k5 s6 d7 = Sum.inr ((IntKind.i64.wrap ((IntKind.i64.wrap ((IntKind.i64.wrap (s6 + 1)) + 1)) + 1)), (d7.set k5 (⟨s6, (IntKind.i64.wrap (s6 + 1)), (IntKind.i64.wrap ((IntKind.i64.wrap (s6 + 1)) + 1))⟩ : DCond))) from by unfold laws_markCondS_b1; exact rfl) hF9
  exact QM_round (k5 + 1, ((IntKind.i64.wrap ((IntKind.i64.wrap ((IntKind.i64.wrap (s6 + 1)) + 1)) + 1)), (d7.set k5 (⟨s6, (IntKind.i64.wrap (s6 + 1)), (IntKind.i64.wrap ((IntKind.i64.wrap (s6 + 1)) + 1))⟩ : DCond))), ()) sl3 (fun W hm => hm) ⟨(by omega), hn15⟩ (rl (by omega))
 ·have g12 : (decide (((k5 : Nat) : Int) < ((x0.length : Nat) : Int))) = false := decide_eq_false (by omega)
  refine CM_condF rfl g12 ?_
  refine CM_exit (QM_then_exit (QM_then_exit ?_))
  have hE16 : R2 (x0.length - 0) 0 (x1, x0) = Sum.inr (s6, d7) := rng_end hl11 hF9
  refine QM_block_hit (QM_then (sr (wm (wa (nt' (CM_ret ?_))))))
  refine QM_rW rfl rfl (fun W hm => ⟨?_, ?_⟩)
  ·rw [(show laws_markCondS_m x0 x1 = (s6, d7) from by unfold laws_markCondS_m; exact fin_inr hE16 (rfl))]
  ·rw [(show laws_markCondS_m x0 x1 = (s6, d7) from by unfold laws_markCondS_m; exact fin_inr hE16 (rfl))]; exact hm

def laws_markRowS_b1 (k5 : Nat) (s6 : Int) (d7 : (List DRow)) : (Int × (List DRow)) ⊕ (Int × (List DRow)) :=
 Sum.inr ((laws_markIntS_m ((gt d7 k5).Values) (IntKind.i64.wrap (s6 + 1))).1, (d7.set k5 (⟨s6, (laws_markIntS_m ((gt d7 k5).Values) (IntKind.i64.wrap (s6 + 1))).2⟩ : DRow)))
def laws_markRowS_m (x0 : (List DRow)) (x1 : Int) : (Int × (List DRow)) :=
 Sum.elim id (fun (s : Int × (List DRow)) => (s.1, s.2)) (rng (R := (Int × (List DRow))) (fun k (s : Int × (List DRow)) => laws_markRowS_b1 k s.1 s.2) (x0.length - 0) 0 (x1, x0))
theorem cb96 : Cb Tryz.prog 96 := ⟨f96, _, func96, rfl, by decide⟩
theorem laws_markRowS_c (B : Nat) (w0 : World) (is : List It) (w : World) (z0 : Value) (x0 : (List DRow)) (x1 : Int) (hm : Mem B w0 (iOwn (tSl tyRow 73) [z0] x0 :: is) w) :
  Calls Tryz.prog 96 #[z0, .int .i64 x1] w fun e w' => e = .returned (.int .i64 (laws_markRowS_m x0 x1).1) ∧ Mem B w0 (iOwn (tSl tyRow 73) [z0] (laws_markRowS_m x0 x1).2 :: is) w' := by
 refine call_enterW (L := [(0, z0), (1, .int .i64 x1)]) (N := 27) func96 rfl rfl (Nat.le_of_ble_eq_true rfl) (argsL_cons rfl (argsL_cons rfl argsL_nil)) hm ?_
 refine CM_form (n := 0) rfl ?_
 rintro A1 c2 rfl m3
 refine sr (wa (nt' (CM_seq (sr (wa (nt' (CM_block ?_)))))))
 let F1 := fun k (s : Int × (List DRow)) => laws_markRowS_b1 k s.1 s.2
 let R2 := rng (R := (Int × (List DRow))) F1
 refine CM_loop (σ := Nat × (Int × (List DRow)) × (Unit)) (fun s => [(0, .slice A1 x0.length c2), (1, .int .i64 s.2.1.1), (5, .int .i64 ((s.1 : Nat) : Int))]) (fun s => (iOwn (tSl tyRow 73) [.slice A1 x0.length c2] s.2.1.2 :: is)) (fun s => s.1 ≤ x0.length ∧ R2 (x0.length - s.1) s.1 s.2.1 = R2 (x0.length - 0) 0 (x1, x0)) (fun s => x0.length - s.1) (0, (x1, x0), ()) sl3 (fun W hm => hm) ⟨(by omega), rfl⟩ ?_
 rintro ⟨k5, ⟨s6, d7⟩, ⟨⟩⟩ H10
 obtain ⟨hk8, hF9⟩ : k5 ≤ x0.length ∧ R2 (x0.length - k5) k5 (s6, d7) = R2 (x0.length - 0) 0 (x1, x0) := H10
 show CM Tryz.prog 27 _ _ _ _ [(0, .slice A1 x0.length c2), (1, .int .i64 s6), (5, .int .i64 ((k5 : Nat) : Int))] (iOwn (tSl tyRow 73) [.slice A1 x0.length c2] d7 :: is)
 refine CM_seq (sr (wm (wm ?_)))
 refine wv (vlen underlying35) ?_
 refine wv vlss ?_
 refine nt' ?_
 by_cases hl11 : k5 < x0.length
 ·have g12 : (decide (((k5 : Nat) : Int) < ((x0.length : Nat) : Int))) = true := decide_eq_true (by omega)
  refine CM_condT rfl g12 ?_
  refine CM_skip (QM_then (CM_seq (CM_block (sr (wm (wm (wm ?_)))))))
  refine WM_formO (n := 0) rfl (by omega) ?_
  rintro g13 rfl
  refine wv (vix 2 k5 underlying35 type73) ?_
  refine wv (vf underlying73 rfl type3) ?_
  refine WM_focus (E := tyRow) (e := 73) (A := (some ⟨g13, 0, none⟩)) (n := x0.length) (c := c2) (xs := d7) (k := k5) (js := (is)) (by omega) (fun W hm => (hm.front (n := 0) rfl)) (fun ck14 => ?_)
  refine tyRow_sp ?_
  rintro v15 rfl
  refine WM_form (n := 0) rfl ?_
  rintro A16 c17 rfl m18
  refine WM_storeFoc (E := tyRow) (e := 73) (g := g13) (n := x0.length) (c := c2) (k := k5) (s := 2) (o := 0) (xs := d7) (ck := [.int .i64 ((gt d7 k5).Id), .slice A16 ((gt d7 k5).Values).length c17]) (ck' := [.int .i64 s6, .slice A16 ((gt d7 k5).Values).length c17]) (js := (iOwn (tSl tInt 3) [.slice A16 ((gt d7 k5).Values).length c17] ((gt d7 k5).Values) :: is)) (fun W hm => (hm.front (n := 1) rfl)) rfl rfl type3 rfl (Nat.le_of_ble_eq_true rfl) rfl rfl rfl rfl (Wd_none rfl) ?_
  refine nt' (sr (wm ?_))
  refine wv vadd ?_
  refine wa (nt' (CM_region (wm (wm ?_))))
  refine wv (vix 2 k5 underlying35 type73) ?_
  refine wv (vf underlying73 rfl type25) ?_
  refine wv (fun W hm => rv_load underlying25 rfl rfl (hm.focCells (i := 0) rfl rfl 1 _ rfl)) ?_
  refine wm ?_
  refine WM_callW (χ := Unit) (val := fun _ => .int .i64 (laws_markIntS_m ((gt d7 k5).Values) (IntKind.i64.wrap (s6 + 1))).1) (js := fun _ => (iOwn (tSl tInt 3) [.slice A16 ((gt d7 k5).Values).length c17] (laws_markIntS_m ((gt d7 k5).Values) (IntKind.i64.wrap (s6 + 1))).2 :: (iFoc tyRow 73 (some ⟨g13, 0, none⟩) x0.length c2 d7 k5 [.int .i64 s6, .slice A16 ((gt d7 k5).Values).length c17] :: is))) (cl_fn cb50 rfl) (fun W hm => (laws_markIntS_c B w0 (iFoc tyRow 73 (some ⟨g13, 0, none⟩) x0.length c2 d7 k5 [.int .i64 s6, .slice A16 ((gt d7 k5).Values).length c17] :: is) W (.slice A16 ((gt d7 k5).Values).length c17) ((gt d7 k5).Values) (IntKind.i64.wrap (s6 + 1)) (hm.front (n := 1) rfl)).mono (fun _ _ h => ⟨(), h.1, h.2⟩)) (Wd_none rfl) (by decide) (fun _ => ?_)
  refine wa (WM_nil (QM_block_normal (QM_then (CM_region (wm ?_)))))
  refine wv (vadN k5 1 (by omega)) ?_
  refine wa (WM_nil ?_)
  refine QM_items (fun W hm => Mem.unfocus (Mem.join (is := [iOwn (tSl tInt 3) [.slice A16 ((gt d7 k5).Values).length c17] ((laws_markIntS_m ((gt d7 k5).Values) (IntKind.i64.wrap (s6 + 1))).2)]) (js := (iFoc tyRow 73 (some ⟨g13, 0, none⟩) x0.length c2 d7 k5 [.int .i64 s6, .slice A16 ((gt d7 k5).Values).length c17] :: (is))) (fun _ _ hs => tyRow_join (x := (⟨s6, (laws_markIntS_m ((gt d7 k5).Values) (IntKind.i64.wrap (s6 + 1))).2⟩ : DRow)) hs) ((hm.front (n := 1) rfl).front (n := 1) rfl))) ?_
  have hn20 := rng_next (R := (Int × (List DRow))) (body := F1) (k := k5) (s := (s6, d7)) (s' := ((laws_markIntS_m ((gt d7 k5).Values) (IntKind.i64.wrap (s6 + 1))).1, (d7.set k5 (⟨s6, (laws_markIntS_m ((gt d7 k5).Values) (IntKind.i64.wrap (s6 + 1))).2⟩ : DRow)))) (show k5 < x0.length from by omega) (show laws_markRowS_b1 k5 s6 d7 = Sum.inr ((laws_markIntS_m ((gt d7 k5).Values) (IntKind.i64.wrap (s6 + 1))).1, (d7.set k5 (⟨s6, (laws_markIntS_m ((gt d7 k5).Values) (IntKind.i64.wrap (s6 + 1))).2⟩ : DRow))) from by unfold laws_markRowS_b1; exact rfl) hF9
  exact QM_round (k5 + 1, ((laws_markIntS_m ((gt d7 k5).Values) (IntKind.i64.wrap (s6 + 1))).1, (d7.set k5 (⟨s6, (laws_markIntS_m ((gt d7 k5).Values) (IntKind.i64.wrap (s6 + 1))).2⟩ : DRow))), ()) sl3 (fun W hm => hm) ⟨(by omega), hn20⟩ (rl (by omega))
 ·have g12 : (decide (((k5 : Nat) : Int) < ((x0.length : Nat) : Int))) = false := decide_eq_false (by omega)
  refine CM_condF rfl g12 ?_
  refine CM_exit (QM_then_exit (QM_then_exit ?_))
  have hE21 : R2 (x0.length - 0) 0 (x1, x0) = Sum.inr (s6, d7) := rng_end hl11 hF9
  refine QM_block_hit (QM_then (sr (wm (wa (nt' (CM_ret ?_))))))
  refine QM_rW rfl rfl (fun W hm => ⟨?_, ?_⟩)
  ·rw [(show laws_markRowS_m x0 x1 = (s6, d7) from by unfold laws_markRowS_m; exact fin_inr hE21 (rfl))]
  ·rw [(show laws_markRowS_m x0 x1 = (s6, d7) from by unfold laws_markRowS_m; exact fin_inr hE21 (rfl))]; exact hm

def laws_markActiveS_b1 (k5 : Nat) (s6 : Int) (d7 : (List DActive)) : (Int × (List DActive)) ⊕ (Int × (List DActive)) :=
 Sum.inr ((laws_markRowS_m ((gt d7 k5).Rows) (IntKind.i64.wrap ((IntKind.i64.wrap ((IntKind.i64.wrap (((laws_markIntS_m ((gt d7 k5).Todo) (IntKind.i64.wrap (((laws_markIntS_m ((gt d7 k5).Query.Out) ((laws_markCondS_m ((gt d7 k5).Query.Conds) (IntKind.i64.wrap ((IntKind.i64.wrap (s6 + 1)) + 1))).1)).1) + 1))).1) + 1)) + 1)) + 1))).1, (d7.set k5 (⟨(⟨s6, (IntKind.i64.wrap (s6 + 1)), (laws_markCondS_m ((gt d7 k5).Query.Conds) (IntKind.i64.wrap ((IntKind.i64.wrap (s6 + 1)) + 1))).2, (laws_markIntS_m ((gt d7 k5).Query.Out) ((laws_markCondS_m ((gt d7 k5).Query.Conds) (IntKind.i64.wrap ((IntKind.i64.wrap (s6 + 1)) + 1))).1)).2⟩ : DQuery), (laws_markIntS_m ((gt d7 k5).Query.Out) ((laws_markCondS_m ((gt d7 k5).Query.Conds) (IntKind.i64.wrap ((IntKind.i64.wrap (s6 + 1)) + 1))).1)).1, (laws_markIntS_m ((gt d7 k5).Todo) (IntKind.i64.wrap (((laws_markIntS_m ((gt d7 k5).Query.Out) ((laws_markCondS_m ((gt d7 k5).Query.Conds) (IntKind.i64.wrap ((IntKind.i64.wrap (s6 + 1)) + 1))).1)).1) + 1))).2, (laws_markIntS_m ((gt d7 k5).Todo) (IntKind.i64.wrap (((laws_markIntS_m ((gt d7 k5).Query.Out) ((laws_markCondS_m ((gt d7 k5).Query.Conds) (IntKind.i64.wrap ((IntKind.i64.wrap (s6 + 1)) + 1))).1)).1) + 1))).1, (IntKind.i64.wrap (((laws_markIntS_m ((gt d7 k5).Todo) (IntKind.i64.wrap (((laws_markIntS_m ((gt d7 k5).Query.Out) ((laws_markCondS_m ((gt d7 k5).Query.Conds) (IntKind.i64.wrap ((IntKind.i64.wrap (s6 + 1)) + 1))).1)).1) + 1))).1) + 1)), (IntKind.i64.wrap ((IntKind.i64.wrap (((laws_markIntS_m ((gt d7 k5).Todo) (IntKind.i64.wrap (((laws_markIntS_m ((gt d7 k5).Query.Out) ((laws_markCondS_m ((gt d7 k5).Query.Conds) (IntKind.i64.wrap ((IntKind.i64.wrap (s6 + 1)) + 1))).1)).1) + 1))).1) + 1)) + 1)), (laws_markRowS_m ((gt d7 k5).Rows) (IntKind.i64.wrap ((IntKind.i64.wrap ((IntKind.i64.wrap (((laws_markIntS_m ((gt d7 k5).Todo) (IntKind.i64.wrap (((laws_markIntS_m ((gt d7 k5).Query.Out) ((laws_markCondS_m ((gt d7 k5).Query.Conds) (IntKind.i64.wrap ((IntKind.i64.wrap (s6 + 1)) + 1))).1)).1) + 1))).1) + 1)) + 1)) + 1))).2⟩ : DActive)))
def laws_markActiveS_m (x0 : (List DActive)) (x1 : Int) : (Int × (List DActive)) :=
 Sum.elim id (fun (s : Int × (List DActive)) => (s.1, s.2)) (rng (R := (Int × (List DActive))) (fun k (s : Int × (List DActive)) => laws_markActiveS_b1 k s.1 s.2) (x0.length - 0) 0 (x1, x0))
theorem cb93 : Cb Tryz.prog 93 := ⟨f93, _, func93, rfl, by decide⟩
theorem laws_markActiveS_c (B : Nat) (w0 : World) (is : List It) (w : World) (z0 : Value) (x0 : (List DActive)) (x1 : Int) (hm : Mem B w0 (iOwn (tSl tyActive 64) [z0] x0 :: is) w) :
  Calls Tryz.prog 93 #[z0, .int .i64 x1] w fun e w' => e = .returned (.int .i64 (laws_markActiveS_m x0 x1).1) ∧ Mem B w0 (iOwn (tSl tyActive 64) [z0] (laws_markActiveS_m x0 x1).2 :: is) w' := by
 refine call_enterW (L := [(0, z0), (1, .int .i64 x1)]) (N := 87) func93 rfl rfl (Nat.le_of_ble_eq_true rfl) (argsL_cons rfl (argsL_cons rfl argsL_nil)) hm ?_
 refine CM_form (n := 0) rfl ?_
 rintro A1 c2 rfl m3
 refine sr (wa (nt' (CM_seq (sr (wa (nt' (CM_block ?_)))))))
 let F1 := fun k (s : Int × (List DActive)) => laws_markActiveS_b1 k s.1 s.2
 let R2 := rng (R := (Int × (List DActive))) F1
 refine CM_loop (σ := Nat × (Int × (List DActive)) × (Unit)) (fun s => [(0, .slice A1 x0.length c2), (1, .int .i64 s.2.1.1), (5, .int .i64 ((s.1 : Nat) : Int))]) (fun s => (iOwn (tSl tyActive 64) [.slice A1 x0.length c2] s.2.1.2 :: is)) (fun s => s.1 ≤ x0.length ∧ R2 (x0.length - s.1) s.1 s.2.1 = R2 (x0.length - 0) 0 (x1, x0)) (fun s => x0.length - s.1) (0, (x1, x0), ()) sl3 (fun W hm => hm) ⟨(by omega), rfl⟩ ?_
 rintro ⟨k5, ⟨s6, d7⟩, ⟨⟩⟩ H10
 obtain ⟨hk8, hF9⟩ : k5 ≤ x0.length ∧ R2 (x0.length - k5) k5 (s6, d7) = R2 (x0.length - 0) 0 (x1, x0) := H10
 show CM Tryz.prog 87 _ _ _ _ [(0, .slice A1 x0.length c2), (1, .int .i64 s6), (5, .int .i64 ((k5 : Nat) : Int))] (iOwn (tSl tyActive 64) [.slice A1 x0.length c2] d7 :: is)
 refine CM_seq (sr (wm (wm ?_)))
 refine wv (vlen underlying43) ?_
 refine wv vlss ?_
 refine nt' ?_
 by_cases hl11 : k5 < x0.length
 ·have g12 : (decide (((k5 : Nat) : Int) < ((x0.length : Nat) : Int))) = true := decide_eq_true (by omega)
  refine CM_condT rfl g12 ?_
  refine CM_skip (QM_then (CM_seq (CM_block (sr (wm (wm (wm ?_)))))))
  refine WM_formO (n := 0) rfl (by omega) ?_
  rintro g13 rfl
  refine wv (vix 10 k5 underlying43 type64) ?_
  refine wv (vf underlying64 rfl type34) ?_
  refine wv (fun W hm => rv_fieldA (o := 0) underlying34 rfl type3 (by decide) rfl rfl) ?_
  refine WM_focus (E := tyActive) (e := 64) (A := (some ⟨g13, 0, none⟩)) (n := x0.length) (c := c2) (xs := d7) (k := k5) (js := (is)) (by omega) (fun W hm => (hm.front (n := 0) rfl)) (fun ck14 => ?_)
  refine tyActive_sp ?_
  rintro ⟨v15, v16, v17, v18⟩ rfl
  refine WM_form (n := 0) rfl ?_
  rintro A19 c20 rfl m21
  refine WM_form (n := 1) rfl ?_
  rintro A23 c24 rfl m25
  refine WM_form (n := 2) rfl ?_
  rintro A27 c28 rfl m29
  refine WM_form (n := 3) rfl ?_
  rintro A31 c32 rfl m33
  let K3 : List Value := [.int .i64 s6, .int .i64 ((gt d7 k5).Query.Tenant), .slice A19 ((gt d7 k5).Query.Conds).length c20, .slice A23 ((gt d7 k5).Query.Out).length c24, .int .i64 ((gt d7 k5).Time), .slice A27 ((gt d7 k5).Todo).length c28, .int .i64 ((gt d7 k5).Age), .int .i64 ((gt d7 k5).Sent), .int .i64 ((gt d7 k5).Cap), .slice A31 ((gt d7 k5).Rows).length c32]
  let I9 : It := iOwn (tSl tyCond 201) [.slice A19 ((gt d7 k5).Query.Conds).length c20] ((gt d7 k5).Query.Conds)
  let I10 : It := iOwn (tSl tInt 3) [.slice A23 ((gt d7 k5).Query.Out).length c24] ((gt d7 k5).Query.Out)
  let I11 : It := iOwn (tSl tInt 3) [.slice A27 ((gt d7 k5).Todo).length c28] ((gt d7 k5).Todo)
  let I12 : It := iOwn (tSl tyRow 73) [.slice A31 ((gt d7 k5).Rows).length c32] ((gt d7 k5).Rows)
  refine WM_storeFoc (E := tyActive) (e := 64) (g := g13) (n := x0.length) (c := c2) (k := k5) (s := 10) (o := 0) (xs := d7) (ck := [.int .i64 ((gt d7 k5).Query.Id), .int .i64 ((gt d7 k5).Query.Tenant), .slice A19 ((gt d7 k5).Query.Conds).length c20, .slice A23 ((gt d7 k5).Query.Out).length c24, .int .i64 ((gt d7 k5).Time), .slice A27 ((gt d7 k5).Todo).length c28, .int .i64 ((gt d7 k5).Age), .int .i64 ((gt d7 k5).Sent), .int .i64 ((gt d7 k5).Cap), .slice A31 ((gt d7 k5).Rows).length c32]) (ck' := K3) (js := (I9 :: I10 :: I11 :: I12 :: is)) (fun W hm => (hm.front (n := 4) rfl)) rfl rfl type3 rfl (Nat.le_of_ble_eq_true rfl) rfl rfl rfl rfl (Wd_none rfl) ?_
  refine nt' (sr (wm ?_))
  refine wv vadd ?_
  refine wa (nt' (sr (wm (wm (wm ?_)))))
  refine wv (vix 10 k5 underlying43 type64) ?_
  refine wv (vf underlying64 rfl type34) ?_
  refine wv (fun W hm => rv_fieldA (o := 1) underlying34 rfl type3 (by decide) rfl rfl) ?_
  let K4 : List Value := [.int .i64 s6, .int .i64 (IntKind.i64.wrap (s6 + 1)), .slice A19 ((gt d7 k5).Query.Conds).length c20, .slice A23 ((gt d7 k5).Query.Out).length c24, .int .i64 ((gt d7 k5).Time), .slice A27 ((gt d7 k5).Todo).length c28, .int .i64 ((gt d7 k5).Age), .int .i64 ((gt d7 k5).Sent), .int .i64 ((gt d7 k5).Cap), .slice A31 ((gt d7 k5).Rows).length c32]
  refine WM_storeFoc (E := tyActive) (e := 64) (g := g13) (n := x0.length) (c := c2) (k := k5) (s := 10) (o := 1) (xs := d7) (ck := K3) (ck' := K4) (js := (I9 :: I10 :: I11 :: I12 :: is)) (fun W hm => (hm.front (n := 0) rfl)) rfl rfl type3 rfl (Nat.le_of_ble_eq_true rfl) rfl rfl rfl rfl (Wd_none rfl) ?_
  refine nt' (sr (wm ?_))
  refine wv vadd ?_
  refine wa (nt' (sr (wm (wm ?_))))
  refine wv (vix 10 k5 underlying43 type64) ?_
  refine wv (vf underlying64 rfl type34) ?_
  refine wv (fun W hm => rv_fieldA (o := 2) underlying34 rfl type32 (by decide) rfl rfl) ?_
  refine wv (fun W hm => rv_load underlying32 rfl rfl (hm.focCells (i := 0) rfl rfl 2 _ rfl)) ?_
  refine wm ?_
  refine WM_callW (χ := Unit) (val := fun _ => .int .i64 (laws_markCondS_m ((gt d7 k5).Query.Conds) (IntKind.i64.wrap ((IntKind.i64.wrap (s6 + 1)) + 1))).1) (js := fun _ => (iOwn (tSl tyCond 201) [.slice A19 ((gt d7 k5).Query.Conds).length c20] (laws_markCondS_m ((gt d7 k5).Query.Conds) (IntKind.i64.wrap ((IntKind.i64.wrap (s6 + 1)) + 1))).2 :: (iFoc tyActive 64 (some ⟨g13, 0, none⟩) x0.length c2 d7 k5 K4 :: I10 :: I11 :: I12 :: is))) (cl_fn cb146 rfl) (fun W hm => (laws_markCondS_c B w0 (iFoc tyActive 64 (some ⟨g13, 0, none⟩) x0.length c2 d7 k5 K4 :: I10 :: I11 :: I12 :: is) W (.slice A19 ((gt d7 k5).Query.Conds).length c20) ((gt d7 k5).Query.Conds) (IntKind.i64.wrap ((IntKind.i64.wrap (s6 + 1)) + 1)) (hm.front (n := 1) rfl)).mono (fun _ _ h => ⟨(), h.1, h.2⟩)) (Wd_none rfl) (by decide) (fun _ => ?_)
  refine wa (nt' (sr (wm (wm ?_))))
  refine wv (vix 10 k5 underlying43 type64) ?_
  refine wv (vf underlying64 rfl type34) ?_
  refine wv (fun W hm => rv_fieldA (o := 3) underlying34 rfl type25 (by decide) rfl rfl) ?_
  refine wv (fun W hm => rv_load underlying25 rfl rfl (hm.focCells (i := 1) rfl rfl 3 _ rfl)) ?_
  refine wm ?_
  let I13 : It := iOwn (tSl tyCond 201) [.slice A19 ((gt d7 k5).Query.Conds).length c20] ((laws_markCondS_m ((gt d7 k5).Query.Conds) (IntKind.i64.wrap ((IntKind.i64.wrap (s6 + 1)) + 1))).2)
  refine WM_callW (χ := Unit) (val := fun _ => .int .i64 (laws_markIntS_m ((gt d7 k5).Query.Out) ((laws_markCondS_m ((gt d7 k5).Query.Conds) (IntKind.i64.wrap ((IntKind.i64.wrap (s6 + 1)) + 1))).1)).1) (js := fun _ => (iOwn (tSl tInt 3) [.slice A23 ((gt d7 k5).Query.Out).length c24] (laws_markIntS_m ((gt d7 k5).Query.Out) ((laws_markCondS_m ((gt d7 k5).Query.Conds) (IntKind.i64.wrap ((IntKind.i64.wrap (s6 + 1)) + 1))).1)).2 :: (I13 :: iFoc tyActive 64 (some ⟨g13, 0, none⟩) x0.length c2 d7 k5 K4 :: I11 :: I12 :: is))) (cl_fn cb50 rfl) (fun W hm => (laws_markIntS_c B w0 (I13 :: iFoc tyActive 64 (some ⟨g13, 0, none⟩) x0.length c2 d7 k5 K4 :: I11 :: I12 :: is) W (.slice A23 ((gt d7 k5).Query.Out).length c24) ((gt d7 k5).Query.Out) ((laws_markCondS_m ((gt d7 k5).Query.Conds) (IntKind.i64.wrap ((IntKind.i64.wrap (s6 + 1)) + 1))).1) (hm.front (n := 2) rfl)).mono (fun _ _ h => ⟨(), h.1, h.2⟩)) (Wd_none rfl) (by decide) (fun _ => ?_)
  refine wa (nt' (sr (wm (wm (wm ?_)))))
  refine wv (vix 10 k5 underlying43 type64) ?_
  refine wv (vf underlying64 rfl type3) ?_
  let K5 : List Value := [.int .i64 s6, .int .i64 (IntKind.i64.wrap (s6 + 1)), .slice A19 ((gt d7 k5).Query.Conds).length c20, .slice A23 ((gt d7 k5).Query.Out).length c24, .int .i64 ((laws_markIntS_m ((gt d7 k5).Query.Out) ((laws_markCondS_m ((gt d7 k5).Query.Conds) (IntKind.i64.wrap ((IntKind.i64.wrap (s6 + 1)) + 1))).1)).1), .slice A27 ((gt d7 k5).Todo).length c28, .int .i64 ((gt d7 k5).Age), .int .i64 ((gt d7 k5).Sent), .int .i64 ((gt d7 k5).Cap), .slice A31 ((gt d7 k5).Rows).length c32]
  let I14 : It := iOwn (tSl tInt 3) [.slice A23 ((gt d7 k5).Query.Out).length c24] ((laws_markIntS_m ((gt d7 k5).Query.Out) ((laws_markCondS_m ((gt d7 k5).Query.Conds) (IntKind.i64.wrap ((IntKind.i64.wrap (s6 + 1)) + 1))).1)).2)
  refine WM_storeFoc (E := tyActive) (e := 64) (g := g13) (n := x0.length) (c := c2) (k := k5) (s := 10) (o := 4) (xs := d7) (ck := K4) (ck' := K5) (js := (I14 :: I13 :: I11 :: I12 :: is)) (fun W hm => (hm.front (n := 2) rfl)) rfl rfl type3 rfl (Nat.le_of_ble_eq_true rfl) rfl rfl rfl rfl (Wd_none rfl) ?_
  refine nt' (sr (wm ?_))
  refine wv vadd ?_
  refine wa (nt' (sr (wm (wm ?_))))
  refine wv (vix 10 k5 underlying43 type64) ?_
  refine wv (vf underlying64 rfl type25) ?_
  refine wv (fun W hm => rv_load underlying25 rfl rfl (hm.focCells (i := 0) rfl rfl 5 _ rfl)) ?_
  refine wm ?_
  refine WM_callW (χ := Unit) (val := fun _ => .int .i64 (laws_markIntS_m ((gt d7 k5).Todo) (IntKind.i64.wrap (((laws_markIntS_m ((gt d7 k5).Query.Out) ((laws_markCondS_m ((gt d7 k5).Query.Conds) (IntKind.i64.wrap ((IntKind.i64.wrap (s6 + 1)) + 1))).1)).1) + 1))).1) (js := fun _ => (iOwn (tSl tInt 3) [.slice A27 ((gt d7 k5).Todo).length c28] (laws_markIntS_m ((gt d7 k5).Todo) (IntKind.i64.wrap (((laws_markIntS_m ((gt d7 k5).Query.Out) ((laws_markCondS_m ((gt d7 k5).Query.Conds) (IntKind.i64.wrap ((IntKind.i64.wrap (s6 + 1)) + 1))).1)).1) + 1))).2 :: (iFoc tyActive 64 (some ⟨g13, 0, none⟩) x0.length c2 d7 k5 K5 :: I14 :: I13 :: I12 :: is))) (cl_fn cb50 rfl) (fun W hm => (laws_markIntS_c B w0 (iFoc tyActive 64 (some ⟨g13, 0, none⟩) x0.length c2 d7 k5 K5 :: I14 :: I13 :: I12 :: is) W (.slice A27 ((gt d7 k5).Todo).length c28) ((gt d7 k5).Todo) (IntKind.i64.wrap (((laws_markIntS_m ((gt d7 k5).Query.Out) ((laws_markCondS_m ((gt d7 k5).Query.Conds) (IntKind.i64.wrap ((IntKind.i64.wrap (s6 + 1)) + 1))).1)).1) + 1)) (hm.front (n := 3) rfl)).mono (fun _ _ h => ⟨(), h.1, h.2⟩)) (Wd_none rfl) (by decide) (fun _ => ?_)
  refine wa (nt' (sr (wm (wm (wm ?_)))))
  refine wv (vix 10 k5 underlying43 type64) ?_
  refine wv (vf underlying64 rfl type3) ?_
  let K6 : List Value := [.int .i64 s6, .int .i64 (IntKind.i64.wrap (s6 + 1)), .slice A19 ((gt d7 k5).Query.Conds).length c20, .slice A23 ((gt d7 k5).Query.Out).length c24, .int .i64 ((laws_markIntS_m ((gt d7 k5).Query.Out) ((laws_markCondS_m ((gt d7 k5).Query.Conds) (IntKind.i64.wrap ((IntKind.i64.wrap (s6 + 1)) + 1))).1)).1), .slice A27 ((gt d7 k5).Todo).length c28, .int .i64 ((laws_markIntS_m ((gt d7 k5).Todo) (IntKind.i64.wrap (((laws_markIntS_m ((gt d7 k5).Query.Out) ((laws_markCondS_m ((gt d7 k5).Query.Conds) (IntKind.i64.wrap ((IntKind.i64.wrap (s6 + 1)) + 1))).1)).1) + 1))).1), .int .i64 ((gt d7 k5).Sent), .int .i64 ((gt d7 k5).Cap), .slice A31 ((gt d7 k5).Rows).length c32]
  let I15 : It := iOwn (tSl tInt 3) [.slice A27 ((gt d7 k5).Todo).length c28] ((laws_markIntS_m ((gt d7 k5).Todo) (IntKind.i64.wrap (((laws_markIntS_m ((gt d7 k5).Query.Out) ((laws_markCondS_m ((gt d7 k5).Query.Conds) (IntKind.i64.wrap ((IntKind.i64.wrap (s6 + 1)) + 1))).1)).1) + 1))).2)
  refine WM_storeFoc (E := tyActive) (e := 64) (g := g13) (n := x0.length) (c := c2) (k := k5) (s := 10) (o := 6) (xs := d7) (ck := K5) (ck' := K6) (js := (I15 :: I14 :: I13 :: I12 :: is)) (fun W hm => (hm.front (n := 1) rfl)) rfl rfl type3 rfl (Nat.le_of_ble_eq_true rfl) rfl rfl rfl rfl (Wd_none rfl) ?_
  refine nt' (sr (wm ?_))
  refine wv vadd ?_
  refine wa (nt' (sr (wm (wm (wm ?_)))))
  refine wv (vix 10 k5 underlying43 type64) ?_
  refine wv (vf underlying64 rfl type3) ?_
  let K7 : List Value := [.int .i64 s6, .int .i64 (IntKind.i64.wrap (s6 + 1)), .slice A19 ((gt d7 k5).Query.Conds).length c20, .slice A23 ((gt d7 k5).Query.Out).length c24, .int .i64 ((laws_markIntS_m ((gt d7 k5).Query.Out) ((laws_markCondS_m ((gt d7 k5).Query.Conds) (IntKind.i64.wrap ((IntKind.i64.wrap (s6 + 1)) + 1))).1)).1), .slice A27 ((gt d7 k5).Todo).length c28, .int .i64 ((laws_markIntS_m ((gt d7 k5).Todo) (IntKind.i64.wrap (((laws_markIntS_m ((gt d7 k5).Query.Out) ((laws_markCondS_m ((gt d7 k5).Query.Conds) (IntKind.i64.wrap ((IntKind.i64.wrap (s6 + 1)) + 1))).1)).1) + 1))).1), .int .i64 (IntKind.i64.wrap (((laws_markIntS_m ((gt d7 k5).Todo) (IntKind.i64.wrap (((laws_markIntS_m ((gt d7 k5).Query.Out) ((laws_markCondS_m ((gt d7 k5).Query.Conds) (IntKind.i64.wrap ((IntKind.i64.wrap (s6 + 1)) + 1))).1)).1) + 1))).1) + 1)), .int .i64 ((gt d7 k5).Cap), .slice A31 ((gt d7 k5).Rows).length c32]
  refine WM_storeFoc (E := tyActive) (e := 64) (g := g13) (n := x0.length) (c := c2) (k := k5) (s := 10) (o := 7) (xs := d7) (ck := K6) (ck' := K7) (js := (I15 :: I14 :: I13 :: I12 :: is)) (fun W hm => (hm.front (n := 0) rfl)) rfl rfl type3 rfl (Nat.le_of_ble_eq_true rfl) rfl rfl rfl rfl (Wd_none rfl) ?_
  refine nt' (sr (wm ?_))
  refine wv vadd ?_
  refine wa (nt' (sr (wm (wm (wm ?_)))))
  refine wv (vix 10 k5 underlying43 type64) ?_
  refine wv (vf underlying64 rfl type3) ?_
  let K8 : List Value := [.int .i64 s6, .int .i64 (IntKind.i64.wrap (s6 + 1)), .slice A19 ((gt d7 k5).Query.Conds).length c20, .slice A23 ((gt d7 k5).Query.Out).length c24, .int .i64 ((laws_markIntS_m ((gt d7 k5).Query.Out) ((laws_markCondS_m ((gt d7 k5).Query.Conds) (IntKind.i64.wrap ((IntKind.i64.wrap (s6 + 1)) + 1))).1)).1), .slice A27 ((gt d7 k5).Todo).length c28, .int .i64 ((laws_markIntS_m ((gt d7 k5).Todo) (IntKind.i64.wrap (((laws_markIntS_m ((gt d7 k5).Query.Out) ((laws_markCondS_m ((gt d7 k5).Query.Conds) (IntKind.i64.wrap ((IntKind.i64.wrap (s6 + 1)) + 1))).1)).1) + 1))).1), .int .i64 (IntKind.i64.wrap (((laws_markIntS_m ((gt d7 k5).Todo) (IntKind.i64.wrap (((laws_markIntS_m ((gt d7 k5).Query.Out) ((laws_markCondS_m ((gt d7 k5).Query.Conds) (IntKind.i64.wrap ((IntKind.i64.wrap (s6 + 1)) + 1))).1)).1) + 1))).1) + 1)), .int .i64 (IntKind.i64.wrap ((IntKind.i64.wrap (((laws_markIntS_m ((gt d7 k5).Todo) (IntKind.i64.wrap (((laws_markIntS_m ((gt d7 k5).Query.Out) ((laws_markCondS_m ((gt d7 k5).Query.Conds) (IntKind.i64.wrap ((IntKind.i64.wrap (s6 + 1)) + 1))).1)).1) + 1))).1) + 1)) + 1)), .slice A31 ((gt d7 k5).Rows).length c32]
  refine WM_storeFoc (E := tyActive) (e := 64) (g := g13) (n := x0.length) (c := c2) (k := k5) (s := 10) (o := 8) (xs := d7) (ck := K7) (ck' := K8) (js := (I15 :: I14 :: I13 :: I12 :: is)) (fun W hm => (hm.front (n := 0) rfl)) rfl rfl type3 rfl (Nat.le_of_ble_eq_true rfl) rfl rfl rfl rfl (Wd_none rfl) ?_
  refine nt' (sr (wm ?_))
  refine wv vadd ?_
  refine wa (nt' (CM_region (wm (wm ?_))))
  refine wv (vix 10 k5 underlying43 type64) ?_
  refine wv (vf underlying64 rfl type35) ?_
  refine wv (fun W hm => rv_load underlying35 rfl rfl (hm.focCells (i := 0) rfl rfl 9 _ rfl)) ?_
  refine wm ?_
  refine WM_callW (χ := Unit) (val := fun _ => .int .i64 (laws_markRowS_m ((gt d7 k5).Rows) (IntKind.i64.wrap ((IntKind.i64.wrap ((IntKind.i64.wrap (((laws_markIntS_m ((gt d7 k5).Todo) (IntKind.i64.wrap (((laws_markIntS_m ((gt d7 k5).Query.Out) ((laws_markCondS_m ((gt d7 k5).Query.Conds) (IntKind.i64.wrap ((IntKind.i64.wrap (s6 + 1)) + 1))).1)).1) + 1))).1) + 1)) + 1)) + 1))).1) (js := fun _ => (iOwn (tSl tyRow 73) [.slice A31 ((gt d7 k5).Rows).length c32] (laws_markRowS_m ((gt d7 k5).Rows) (IntKind.i64.wrap ((IntKind.i64.wrap ((IntKind.i64.wrap (((laws_markIntS_m ((gt d7 k5).Todo) (IntKind.i64.wrap (((laws_markIntS_m ((gt d7 k5).Query.Out) ((laws_markCondS_m ((gt d7 k5).Query.Conds) (IntKind.i64.wrap ((IntKind.i64.wrap (s6 + 1)) + 1))).1)).1) + 1))).1) + 1)) + 1)) + 1))).2 :: (iFoc tyActive 64 (some ⟨g13, 0, none⟩) x0.length c2 d7 k5 K8 :: I15 :: I14 :: I13 :: is))) (cl_fn cb96 rfl) (fun W hm => (laws_markRowS_c B w0 (iFoc tyActive 64 (some ⟨g13, 0, none⟩) x0.length c2 d7 k5 K8 :: I15 :: I14 :: I13 :: is) W (.slice A31 ((gt d7 k5).Rows).length c32) ((gt d7 k5).Rows) (IntKind.i64.wrap ((IntKind.i64.wrap ((IntKind.i64.wrap (((laws_markIntS_m ((gt d7 k5).Todo) (IntKind.i64.wrap (((laws_markIntS_m ((gt d7 k5).Query.Out) ((laws_markCondS_m ((gt d7 k5).Query.Conds) (IntKind.i64.wrap ((IntKind.i64.wrap (s6 + 1)) + 1))).1)).1) + 1))).1) + 1)) + 1)) + 1)) (hm.front (n := 4) rfl)).mono (fun _ _ h => ⟨(), h.1, h.2⟩)) (Wd_none rfl) (by decide) (fun _ => ?_)
  refine wa (WM_nil (QM_block_normal (QM_then (CM_region (wm ?_)))))
  refine wv (vadN k5 1 (by omega)) ?_
  refine wa (WM_nil ?_)
  refine QM_items (fun W hm => Mem.unfocus (Mem.join (is := [I13, I14, I15, iOwn (tSl tyRow 73) [.slice A31 ((gt d7 k5).Rows).length c32] ((laws_markRowS_m ((gt d7 k5).Rows) (IntKind.i64.wrap ((IntKind.i64.wrap ((IntKind.i64.wrap (((laws_markIntS_m ((gt d7 k5).Todo) (IntKind.i64.wrap (((laws_markIntS_m ((gt d7 k5).Query.Out) ((laws_markCondS_m ((gt d7 k5).Query.Conds) (IntKind.i64.wrap ((IntKind.i64.wrap (s6 + 1)) + 1))).1)).1) + 1))).1) + 1)) + 1)) + 1))).2)]) (js := (iFoc tyActive 64 (some ⟨g13, 0, none⟩) x0.length c2 d7 k5 K8 :: (is))) (fun _ _ hs => tyActive_join (x := (⟨(⟨s6, (IntKind.i64.wrap (s6 + 1)), (laws_markCondS_m ((gt d7 k5).Query.Conds) (IntKind.i64.wrap ((IntKind.i64.wrap (s6 + 1)) + 1))).2, (laws_markIntS_m ((gt d7 k5).Query.Out) ((laws_markCondS_m ((gt d7 k5).Query.Conds) (IntKind.i64.wrap ((IntKind.i64.wrap (s6 + 1)) + 1))).1)).2⟩ : DQuery), (laws_markIntS_m ((gt d7 k5).Query.Out) ((laws_markCondS_m ((gt d7 k5).Query.Conds) (IntKind.i64.wrap ((IntKind.i64.wrap (s6 + 1)) + 1))).1)).1, (laws_markIntS_m ((gt d7 k5).Todo) (IntKind.i64.wrap (((laws_markIntS_m ((gt d7 k5).Query.Out) ((laws_markCondS_m ((gt d7 k5).Query.Conds) (IntKind.i64.wrap ((IntKind.i64.wrap (s6 + 1)) + 1))).1)).1) + 1))).2, (laws_markIntS_m ((gt d7 k5).Todo) (IntKind.i64.wrap (((laws_markIntS_m ((gt d7 k5).Query.Out) ((laws_markCondS_m ((gt d7 k5).Query.Conds) (IntKind.i64.wrap ((IntKind.i64.wrap (s6 + 1)) + 1))).1)).1) + 1))).1, (IntKind.i64.wrap (((laws_markIntS_m ((gt d7 k5).Todo) (IntKind.i64.wrap (((laws_markIntS_m ((gt d7 k5).Query.Out) ((laws_markCondS_m ((gt d7 k5).Query.Conds) (IntKind.i64.wrap ((IntKind.i64.wrap (s6 + 1)) + 1))).1)).1) + 1))).1) + 1)), (IntKind.i64.wrap ((IntKind.i64.wrap (((laws_markIntS_m ((gt d7 k5).Todo) (IntKind.i64.wrap (((laws_markIntS_m ((gt d7 k5).Query.Out) ((laws_markCondS_m ((gt d7 k5).Query.Conds) (IntKind.i64.wrap ((IntKind.i64.wrap (s6 + 1)) + 1))).1)).1) + 1))).1) + 1)) + 1)), (laws_markRowS_m ((gt d7 k5).Rows) (IntKind.i64.wrap ((IntKind.i64.wrap ((IntKind.i64.wrap (((laws_markIntS_m ((gt d7 k5).Todo) (IntKind.i64.wrap (((laws_markIntS_m ((gt d7 k5).Query.Out) ((laws_markCondS_m ((gt d7 k5).Query.Conds) (IntKind.i64.wrap ((IntKind.i64.wrap (s6 + 1)) + 1))).1)).1) + 1))).1) + 1)) + 1)) + 1))).2⟩ : DActive)) hs) (((((hm.front (n := 1) rfl).front (n := 1) rfl).front (n := 2) rfl).front (n := 3) rfl).front (n := 4) rfl))) ?_
  have hn35 := rng_next (R := (Int × (List DActive))) (body := F1) (k := k5) (s := (s6, d7)) (s' := ((laws_markRowS_m ((gt d7 k5).Rows) (IntKind.i64.wrap ((IntKind.i64.wrap ((IntKind.i64.wrap (((laws_markIntS_m ((gt d7 k5).Todo) (IntKind.i64.wrap (((laws_markIntS_m ((gt d7 k5).Query.Out) ((laws_markCondS_m ((gt d7 k5).Query.Conds) (IntKind.i64.wrap ((IntKind.i64.wrap (s6 + 1)) + 1))).1)).1) + 1))).1) + 1)) + 1)) + 1))).1, (d7.set k5 (⟨(⟨s6, (IntKind.i64.wrap (s6 + 1)), (laws_markCondS_m ((gt d7 k5).Query.Conds) (IntKind.i64.wrap ((IntKind.i64.wrap (s6 + 1)) + 1))).2, (laws_markIntS_m ((gt d7 k5).Query.Out) ((laws_markCondS_m ((gt d7 k5).Query.Conds) (IntKind.i64.wrap ((IntKind.i64.wrap (s6 + 1)) + 1))).1)).2⟩ : DQuery), (laws_markIntS_m ((gt d7 k5).Query.Out) ((laws_markCondS_m ((gt d7 k5).Query.Conds) (IntKind.i64.wrap ((IntKind.i64.wrap (s6 + 1)) + 1))).1)).1, (laws_markIntS_m ((gt d7 k5).Todo) (IntKind.i64.wrap (((laws_markIntS_m ((gt d7 k5).Query.Out) ((laws_markCondS_m ((gt d7 k5).Query.Conds) (IntKind.i64.wrap ((IntKind.i64.wrap (s6 + 1)) + 1))).1)).1) + 1))).2, (laws_markIntS_m ((gt d7 k5).Todo) (IntKind.i64.wrap (((laws_markIntS_m ((gt d7 k5).Query.Out) ((laws_markCondS_m ((gt d7 k5).Query.Conds) (IntKind.i64.wrap ((IntKind.i64.wrap (s6 + 1)) + 1))).1)).1) + 1))).1, (IntKind.i64.wrap (((laws_markIntS_m ((gt d7 k5).Todo) (IntKind.i64.wrap (((laws_markIntS_m ((gt d7 k5).Query.Out) ((laws_markCondS_m ((gt d7 k5).Query.Conds) (IntKind.i64.wrap ((IntKind.i64.wrap (s6 + 1)) + 1))).1)).1) + 1))).1) + 1)), (IntKind.i64.wrap ((IntKind.i64.wrap (((laws_markIntS_m ((gt d7 k5).Todo) (IntKind.i64.wrap (((laws_markIntS_m ((gt d7 k5).Query.Out) ((laws_markCondS_m ((gt d7 k5).Query.Conds) (IntKind.i64.wrap ((IntKind.i64.wrap (s6 + 1)) + 1))).1)).1) + 1))).1) + 1)) + 1)), (laws_markRowS_m ((gt d7 k5).Rows) (IntKind.i64.wrap ((IntKind.i64.wrap ((IntKind.i64.wrap (((laws_markIntS_m ((gt d7 k5).Todo) (IntKind.i64.wrap (((laws_markIntS_m ((gt d7 k5).Query.Out) ((laws_markCondS_m ((gt d7 k5).Query.Conds) (IntKind.i64.wrap ((IntKind.i64.wrap (s6 + 1)) + 1))).1)).1) + 1))).1) + 1)) + 1)) + 1))).2⟩ : DActive)))) (show k5 < x0.length from by omega) (show laws_markActiveS_b1 k5 s6 d7 = Sum.inr ((laws_markRowS_m ((gt d7 k5).Rows) (IntKind.i64.wrap ((IntKind.i64.wrap ((IntKind.i64.wrap (((laws_markIntS_m ((gt d7 k5).Todo) (IntKind.i64.wrap (((laws_markIntS_m ((gt d7 k5).Query.Out) ((laws_markCondS_m ((gt d7 k5).Query.Conds) (IntKind.i64.wrap ((IntKind.i64.wrap (s6 + 1)) + 1))).1)).1) + 1))).1) + 1)) + 1)) + 1))).1, (d7.set k5 (⟨(⟨s6, (IntKind.i64.wrap (s6 + 1)), (laws_markCondS_m ((gt d7 k5).Query.Conds) (IntKind.i64.wrap ((IntKind.i64.wrap (s6 + 1)) + 1))).2, (laws_markIntS_m ((gt d7 k5).Query.Out) ((laws_markCondS_m ((gt d7 k5).Query.Conds) (IntKind.i64.wrap ((IntKind.i64.wrap (s6 + 1)) + 1))).1)).2⟩ : DQuery), (laws_markIntS_m ((gt d7 k5).Query.Out) ((laws_markCondS_m ((gt d7 k5).Query.Conds) (IntKind.i64.wrap ((IntKind.i64.wrap (s6 + 1)) + 1))).1)).1, (laws_markIntS_m ((gt d7 k5).Todo) (IntKind.i64.wrap (((laws_markIntS_m ((gt d7 k5).Query.Out) ((laws_markCondS_m ((gt d7 k5).Query.Conds) (IntKind.i64.wrap ((IntKind.i64.wrap (s6 + 1)) + 1))).1)).1) + 1))).2, (laws_markIntS_m ((gt d7 k5).Todo) (IntKind.i64.wrap (((laws_markIntS_m ((gt d7 k5).Query.Out) ((laws_markCondS_m ((gt d7 k5).Query.Conds) (IntKind.i64.wrap ((IntKind.i64.wrap (s6 + 1)) + 1))).1)).1) + 1))).1, (IntKind.i64.wrap (((laws_markIntS_m ((gt d7 k5).Todo) (IntKind.i64.wrap (((laws_markIntS_m ((gt d7 k5).Query.Out) ((laws_markCondS_m ((gt d7 k5).Query.Conds) (IntKind.i64.wrap ((IntKind.i64.wrap (s6 + 1)) + 1))).1)).1) + 1))).1) + 1)), (IntKind.i64.wrap ((IntKind.i64.wrap (((laws_markIntS_m ((gt d7 k5).Todo) (IntKind.i64.wrap (((laws_markIntS_m ((gt d7 k5).Query.Out) ((laws_markCondS_m ((gt d7 k5).Query.Conds) (IntKind.i64.wrap ((IntKind.i64.wrap (s6 + 1)) + 1))).1)).1) + 1))).1) + 1)) + 1)), (laws_markRowS_m ((gt d7 k5).Rows) (IntKind.i64.wrap ((IntKind.i64.wrap ((IntKind.i64.wrap (((laws_markIntS_m ((gt d7 k5).Todo) (IntKind.i64.wrap (((laws_markIntS_m ((gt d7 k5).Query.Out) ((laws_markCondS_m ((gt d7 k5).Query.Conds) (IntKind.i64.wrap ((IntKind.i64.wrap (s6 + 1)) + 1))).1)).1) + 1))).1) + 1)) + 1)) + 1))).2⟩ : DActive))) from by unfold laws_markActiveS_b1; exact rfl) hF9
  exact QM_round (k5 + 1, ((laws_markRowS_m ((gt d7 k5).Rows) (IntKind.i64.wrap ((IntKind.i64.wrap ((IntKind.i64.wrap (((laws_markIntS_m ((gt d7 k5).Todo) (IntKind.i64.wrap (((laws_markIntS_m ((gt d7 k5).Query.Out) ((laws_markCondS_m ((gt d7 k5).Query.Conds) (IntKind.i64.wrap ((IntKind.i64.wrap (s6 + 1)) + 1))).1)).1) + 1))).1) + 1)) + 1)) + 1))).1, (d7.set k5 (⟨(⟨s6, (IntKind.i64.wrap (s6 + 1)), (laws_markCondS_m ((gt d7 k5).Query.Conds) (IntKind.i64.wrap ((IntKind.i64.wrap (s6 + 1)) + 1))).2, (laws_markIntS_m ((gt d7 k5).Query.Out) ((laws_markCondS_m ((gt d7 k5).Query.Conds) (IntKind.i64.wrap ((IntKind.i64.wrap (s6 + 1)) + 1))).1)).2⟩ : DQuery), (laws_markIntS_m ((gt d7 k5).Query.Out) ((laws_markCondS_m ((gt d7 k5).Query.Conds) (IntKind.i64.wrap ((IntKind.i64.wrap (s6 + 1)) + 1))).1)).1, (laws_markIntS_m ((gt d7 k5).Todo) (IntKind.i64.wrap (((laws_markIntS_m ((gt d7 k5).Query.Out) ((laws_markCondS_m ((gt d7 k5).Query.Conds) (IntKind.i64.wrap ((IntKind.i64.wrap (s6 + 1)) + 1))).1)).1) + 1))).2, (laws_markIntS_m ((gt d7 k5).Todo) (IntKind.i64.wrap (((laws_markIntS_m ((gt d7 k5).Query.Out) ((laws_markCondS_m ((gt d7 k5).Query.Conds) (IntKind.i64.wrap ((IntKind.i64.wrap (s6 + 1)) + 1))).1)).1) + 1))).1, (IntKind.i64.wrap (((laws_markIntS_m ((gt d7 k5).Todo) (IntKind.i64.wrap (((laws_markIntS_m ((gt d7 k5).Query.Out) ((laws_markCondS_m ((gt d7 k5).Query.Conds) (IntKind.i64.wrap ((IntKind.i64.wrap (s6 + 1)) + 1))).1)).1) + 1))).1) + 1)), (IntKind.i64.wrap ((IntKind.i64.wrap (((laws_markIntS_m ((gt d7 k5).Todo) (IntKind.i64.wrap (((laws_markIntS_m ((gt d7 k5).Query.Out) ((laws_markCondS_m ((gt d7 k5).Query.Conds) (IntKind.i64.wrap ((IntKind.i64.wrap (s6 + 1)) + 1))).1)).1) + 1))).1) + 1)) + 1)), (laws_markRowS_m ((gt d7 k5).Rows) (IntKind.i64.wrap ((IntKind.i64.wrap ((IntKind.i64.wrap (((laws_markIntS_m ((gt d7 k5).Todo) (IntKind.i64.wrap (((laws_markIntS_m ((gt d7 k5).Query.Out) ((laws_markCondS_m ((gt d7 k5).Query.Conds) (IntKind.i64.wrap ((IntKind.i64.wrap (s6 + 1)) + 1))).1)).1) + 1))).1) + 1)) + 1)) + 1))).2⟩ : DActive))), ()) sl3 (fun W hm => hm) ⟨(by omega), hn35⟩ (rl (by omega))
 ·have g12 : (decide (((k5 : Nat) : Int) < ((x0.length : Nat) : Int))) = false := decide_eq_false (by omega)
  refine CM_condF rfl g12 ?_
  refine CM_exit (QM_then_exit (QM_then_exit ?_))
  have hE36 : R2 (x0.length - 0) 0 (x1, x0) = Sum.inr (s6, d7) := rng_end hl11 hF9
  refine QM_block_hit (QM_then (sr (wm (wa (nt' (CM_ret ?_))))))
  refine QM_rW rfl rfl (fun W hm => ⟨?_, ?_⟩)
  ·rw [(show laws_markActiveS_m x0 x1 = (s6, d7) from by unfold laws_markActiveS_m; exact fin_inr hE36 (rfl))]
  ·rw [(show laws_markActiveS_m x0 x1 = (s6, d7) from by unfold laws_markActiveS_m; exact fin_inr hE36 (rfl))]; exact hm

def laws_markFinishedS_b1 (k5 : Nat) (s6 : Int) (d7 : (List DFinished)) : (Int × (List DFinished)) ⊕ (Int × (List DFinished)) :=
 Sum.inr ((laws_markRowS_m ((gt d7 k5).Rows) (IntKind.i64.wrap ((IntKind.i64.wrap (((laws_markIntS_m ((gt d7 k5).Query.Out) ((laws_markCondS_m ((gt d7 k5).Query.Conds) (IntKind.i64.wrap ((IntKind.i64.wrap (s6 + 1)) + 1))).1)).1) + 1)) + 1))).1, (d7.set k5 (⟨(⟨s6, (IntKind.i64.wrap (s6 + 1)), (laws_markCondS_m ((gt d7 k5).Query.Conds) (IntKind.i64.wrap ((IntKind.i64.wrap (s6 + 1)) + 1))).2, (laws_markIntS_m ((gt d7 k5).Query.Out) ((laws_markCondS_m ((gt d7 k5).Query.Conds) (IntKind.i64.wrap ((IntKind.i64.wrap (s6 + 1)) + 1))).1)).2⟩ : DQuery), (laws_markIntS_m ((gt d7 k5).Query.Out) ((laws_markCondS_m ((gt d7 k5).Query.Conds) (IntKind.i64.wrap ((IntKind.i64.wrap (s6 + 1)) + 1))).1)).1, (IntKind.i64.wrap (((laws_markIntS_m ((gt d7 k5).Query.Out) ((laws_markCondS_m ((gt d7 k5).Query.Conds) (IntKind.i64.wrap ((IntKind.i64.wrap (s6 + 1)) + 1))).1)).1) + 1)), (laws_markRowS_m ((gt d7 k5).Rows) (IntKind.i64.wrap ((IntKind.i64.wrap (((laws_markIntS_m ((gt d7 k5).Query.Out) ((laws_markCondS_m ((gt d7 k5).Query.Conds) (IntKind.i64.wrap ((IntKind.i64.wrap (s6 + 1)) + 1))).1)).1) + 1)) + 1))).2⟩ : DFinished)))
def laws_markFinishedS_m (x0 : (List DFinished)) (x1 : Int) : (Int × (List DFinished)) :=
 Sum.elim id (fun (s : Int × (List DFinished)) => (s.1, s.2)) (rng (R := (Int × (List DFinished))) (fun k (s : Int × (List DFinished)) => laws_markFinishedS_b1 k s.1 s.2) (x0.length - 0) 0 (x1, x0))
theorem cb94 : Cb Tryz.prog 94 := ⟨f94, _, func94, rfl, by decide⟩
theorem laws_markFinishedS_c (B : Nat) (w0 : World) (is : List It) (w : World) (z0 : Value) (x0 : (List DFinished)) (x1 : Int) (hm : Mem B w0 (iOwn (tSl tyFinished 37) [z0] x0 :: is) w) :
  Calls Tryz.prog 94 #[z0, .int .i64 x1] w fun e w' => e = .returned (.int .i64 (laws_markFinishedS_m x0 x1).1) ∧ Mem B w0 (iOwn (tSl tyFinished 37) [z0] (laws_markFinishedS_m x0 x1).2 :: is) w' := by
 refine call_enterW (L := [(0, z0), (1, .int .i64 x1)]) (N := 66) func94 rfl rfl (Nat.le_of_ble_eq_true rfl) (argsL_cons rfl (argsL_cons rfl argsL_nil)) hm ?_
 refine CM_form (n := 0) rfl ?_
 rintro A1 c2 rfl m3
 refine sr (wa (nt' (CM_seq (sr (wa (nt' (CM_block ?_)))))))
 let F1 := fun k (s : Int × (List DFinished)) => laws_markFinishedS_b1 k s.1 s.2
 let R2 := rng (R := (Int × (List DFinished))) F1
 refine CM_loop (σ := Nat × (Int × (List DFinished)) × (Unit)) (fun s => [(0, .slice A1 x0.length c2), (1, .int .i64 s.2.1.1), (5, .int .i64 ((s.1 : Nat) : Int))]) (fun s => (iOwn (tSl tyFinished 37) [.slice A1 x0.length c2] s.2.1.2 :: is)) (fun s => s.1 ≤ x0.length ∧ R2 (x0.length - s.1) s.1 s.2.1 = R2 (x0.length - 0) 0 (x1, x0)) (fun s => x0.length - s.1) (0, (x1, x0), ()) sl3 (fun W hm => hm) ⟨(by omega), rfl⟩ ?_
 rintro ⟨k5, ⟨s6, d7⟩, ⟨⟩⟩ H10
 obtain ⟨hk8, hF9⟩ : k5 ≤ x0.length ∧ R2 (x0.length - k5) k5 (s6, d7) = R2 (x0.length - 0) 0 (x1, x0) := H10
 show CM Tryz.prog 66 _ _ _ _ [(0, .slice A1 x0.length c2), (1, .int .i64 s6), (5, .int .i64 ((k5 : Nat) : Int))] (iOwn (tSl tyFinished 37) [.slice A1 x0.length c2] d7 :: is)
 refine CM_seq (sr (wm (wm ?_)))
 refine wv (vlen underlying44) ?_
 refine wv vlss ?_
 refine nt' ?_
 by_cases hl11 : k5 < x0.length
 ·have g12 : (decide (((k5 : Nat) : Int) < ((x0.length : Nat) : Int))) = true := decide_eq_true (by omega)
  refine CM_condT rfl g12 ?_
  refine CM_skip (QM_then (CM_seq (CM_block (sr (wm (wm (wm ?_)))))))
  refine WM_formO (n := 0) rfl (by omega) ?_
  rintro g13 rfl
  refine wv (vix 7 k5 underlying44 type37) ?_
  refine wv (vf underlying37 rfl type34) ?_
  refine wv (fun W hm => rv_fieldA (o := 0) underlying34 rfl type3 (by decide) rfl rfl) ?_
  refine WM_focus (E := tyFinished) (e := 37) (A := (some ⟨g13, 0, none⟩)) (n := x0.length) (c := c2) (xs := d7) (k := k5) (js := (is)) (by omega) (fun W hm => (hm.front (n := 0) rfl)) (fun ck14 => ?_)
  refine tyFinished_sp ?_
  rintro ⟨v15, v16, v17⟩ rfl
  refine WM_form (n := 0) rfl ?_
  rintro A18 c19 rfl m20
  refine WM_form (n := 1) rfl ?_
  rintro A22 c23 rfl m24
  refine WM_form (n := 2) rfl ?_
  rintro A26 c27 rfl m28
  let K3 : List Value := [.int .i64 s6, .int .i64 ((gt d7 k5).Query.Tenant), .slice A18 ((gt d7 k5).Query.Conds).length c19, .slice A22 ((gt d7 k5).Query.Out).length c23, .int .i64 ((gt d7 k5).Time), .int .i64 ((gt d7 k5).Steps), .slice A26 ((gt d7 k5).Rows).length c27]
  let I7 : It := iOwn (tSl tyCond 201) [.slice A18 ((gt d7 k5).Query.Conds).length c19] ((gt d7 k5).Query.Conds)
  let I8 : It := iOwn (tSl tInt 3) [.slice A22 ((gt d7 k5).Query.Out).length c23] ((gt d7 k5).Query.Out)
  let I9 : It := iOwn (tSl tyRow 73) [.slice A26 ((gt d7 k5).Rows).length c27] ((gt d7 k5).Rows)
  refine WM_storeFoc (E := tyFinished) (e := 37) (g := g13) (n := x0.length) (c := c2) (k := k5) (s := 7) (o := 0) (xs := d7) (ck := [.int .i64 ((gt d7 k5).Query.Id), .int .i64 ((gt d7 k5).Query.Tenant), .slice A18 ((gt d7 k5).Query.Conds).length c19, .slice A22 ((gt d7 k5).Query.Out).length c23, .int .i64 ((gt d7 k5).Time), .int .i64 ((gt d7 k5).Steps), .slice A26 ((gt d7 k5).Rows).length c27]) (ck' := K3) (js := (I7 :: I8 :: I9 :: is)) (fun W hm => (hm.front (n := 3) rfl)) rfl rfl type3 rfl (Nat.le_of_ble_eq_true rfl) rfl rfl rfl rfl (Wd_none rfl) ?_
  refine nt' (sr (wm ?_))
  refine wv vadd ?_
  refine wa (nt' (sr (wm (wm (wm ?_)))))
  refine wv (vix 7 k5 underlying44 type37) ?_
  refine wv (vf underlying37 rfl type34) ?_
  refine wv (fun W hm => rv_fieldA (o := 1) underlying34 rfl type3 (by decide) rfl rfl) ?_
  let K4 : List Value := [.int .i64 s6, .int .i64 (IntKind.i64.wrap (s6 + 1)), .slice A18 ((gt d7 k5).Query.Conds).length c19, .slice A22 ((gt d7 k5).Query.Out).length c23, .int .i64 ((gt d7 k5).Time), .int .i64 ((gt d7 k5).Steps), .slice A26 ((gt d7 k5).Rows).length c27]
  refine WM_storeFoc (E := tyFinished) (e := 37) (g := g13) (n := x0.length) (c := c2) (k := k5) (s := 7) (o := 1) (xs := d7) (ck := K3) (ck' := K4) (js := (I7 :: I8 :: I9 :: is)) (fun W hm => (hm.front (n := 0) rfl)) rfl rfl type3 rfl (Nat.le_of_ble_eq_true rfl) rfl rfl rfl rfl (Wd_none rfl) ?_
  refine nt' (sr (wm ?_))
  refine wv vadd ?_
  refine wa (nt' (sr (wm (wm ?_))))
  refine wv (vix 7 k5 underlying44 type37) ?_
  refine wv (vf underlying37 rfl type34) ?_
  refine wv (fun W hm => rv_fieldA (o := 2) underlying34 rfl type32 (by decide) rfl rfl) ?_
  refine wv (fun W hm => rv_load underlying32 rfl rfl (hm.focCells (i := 0) rfl rfl 2 _ rfl)) ?_
  refine wm ?_
  refine WM_callW (χ := Unit) (val := fun _ => .int .i64 (laws_markCondS_m ((gt d7 k5).Query.Conds) (IntKind.i64.wrap ((IntKind.i64.wrap (s6 + 1)) + 1))).1) (js := fun _ => (iOwn (tSl tyCond 201) [.slice A18 ((gt d7 k5).Query.Conds).length c19] (laws_markCondS_m ((gt d7 k5).Query.Conds) (IntKind.i64.wrap ((IntKind.i64.wrap (s6 + 1)) + 1))).2 :: (iFoc tyFinished 37 (some ⟨g13, 0, none⟩) x0.length c2 d7 k5 K4 :: I8 :: I9 :: is))) (cl_fn cb146 rfl) (fun W hm => (laws_markCondS_c B w0 (iFoc tyFinished 37 (some ⟨g13, 0, none⟩) x0.length c2 d7 k5 K4 :: I8 :: I9 :: is) W (.slice A18 ((gt d7 k5).Query.Conds).length c19) ((gt d7 k5).Query.Conds) (IntKind.i64.wrap ((IntKind.i64.wrap (s6 + 1)) + 1)) (hm.front (n := 1) rfl)).mono (fun _ _ h => ⟨(), h.1, h.2⟩)) (Wd_none rfl) (by decide) (fun _ => ?_)
  refine wa (nt' (sr (wm (wm ?_))))
  refine wv (vix 7 k5 underlying44 type37) ?_
  refine wv (vf underlying37 rfl type34) ?_
  refine wv (fun W hm => rv_fieldA (o := 3) underlying34 rfl type25 (by decide) rfl rfl) ?_
  refine wv (fun W hm => rv_load underlying25 rfl rfl (hm.focCells (i := 1) rfl rfl 3 _ rfl)) ?_
  refine wm ?_
  let I10 : It := iOwn (tSl tyCond 201) [.slice A18 ((gt d7 k5).Query.Conds).length c19] ((laws_markCondS_m ((gt d7 k5).Query.Conds) (IntKind.i64.wrap ((IntKind.i64.wrap (s6 + 1)) + 1))).2)
  refine WM_callW (χ := Unit) (val := fun _ => .int .i64 (laws_markIntS_m ((gt d7 k5).Query.Out) ((laws_markCondS_m ((gt d7 k5).Query.Conds) (IntKind.i64.wrap ((IntKind.i64.wrap (s6 + 1)) + 1))).1)).1) (js := fun _ => (iOwn (tSl tInt 3) [.slice A22 ((gt d7 k5).Query.Out).length c23] (laws_markIntS_m ((gt d7 k5).Query.Out) ((laws_markCondS_m ((gt d7 k5).Query.Conds) (IntKind.i64.wrap ((IntKind.i64.wrap (s6 + 1)) + 1))).1)).2 :: (I10 :: iFoc tyFinished 37 (some ⟨g13, 0, none⟩) x0.length c2 d7 k5 K4 :: I9 :: is))) (cl_fn cb50 rfl) (fun W hm => (laws_markIntS_c B w0 (I10 :: iFoc tyFinished 37 (some ⟨g13, 0, none⟩) x0.length c2 d7 k5 K4 :: I9 :: is) W (.slice A22 ((gt d7 k5).Query.Out).length c23) ((gt d7 k5).Query.Out) ((laws_markCondS_m ((gt d7 k5).Query.Conds) (IntKind.i64.wrap ((IntKind.i64.wrap (s6 + 1)) + 1))).1) (hm.front (n := 2) rfl)).mono (fun _ _ h => ⟨(), h.1, h.2⟩)) (Wd_none rfl) (by decide) (fun _ => ?_)
  refine wa (nt' (sr (wm (wm (wm ?_)))))
  refine wv (vix 7 k5 underlying44 type37) ?_
  refine wv (vf underlying37 rfl type3) ?_
  let K5 : List Value := [.int .i64 s6, .int .i64 (IntKind.i64.wrap (s6 + 1)), .slice A18 ((gt d7 k5).Query.Conds).length c19, .slice A22 ((gt d7 k5).Query.Out).length c23, .int .i64 ((laws_markIntS_m ((gt d7 k5).Query.Out) ((laws_markCondS_m ((gt d7 k5).Query.Conds) (IntKind.i64.wrap ((IntKind.i64.wrap (s6 + 1)) + 1))).1)).1), .int .i64 ((gt d7 k5).Steps), .slice A26 ((gt d7 k5).Rows).length c27]
  let I11 : It := iOwn (tSl tInt 3) [.slice A22 ((gt d7 k5).Query.Out).length c23] ((laws_markIntS_m ((gt d7 k5).Query.Out) ((laws_markCondS_m ((gt d7 k5).Query.Conds) (IntKind.i64.wrap ((IntKind.i64.wrap (s6 + 1)) + 1))).1)).2)
  refine WM_storeFoc (E := tyFinished) (e := 37) (g := g13) (n := x0.length) (c := c2) (k := k5) (s := 7) (o := 4) (xs := d7) (ck := K4) (ck' := K5) (js := (I11 :: I10 :: I9 :: is)) (fun W hm => (hm.front (n := 2) rfl)) rfl rfl type3 rfl (Nat.le_of_ble_eq_true rfl) rfl rfl rfl rfl (Wd_none rfl) ?_
  refine nt' (sr (wm ?_))
  refine wv vadd ?_
  refine wa (nt' (sr (wm (wm (wm ?_)))))
  refine wv (vix 7 k5 underlying44 type37) ?_
  refine wv (vf underlying37 rfl type3) ?_
  let K6 : List Value := [.int .i64 s6, .int .i64 (IntKind.i64.wrap (s6 + 1)), .slice A18 ((gt d7 k5).Query.Conds).length c19, .slice A22 ((gt d7 k5).Query.Out).length c23, .int .i64 ((laws_markIntS_m ((gt d7 k5).Query.Out) ((laws_markCondS_m ((gt d7 k5).Query.Conds) (IntKind.i64.wrap ((IntKind.i64.wrap (s6 + 1)) + 1))).1)).1), .int .i64 (IntKind.i64.wrap (((laws_markIntS_m ((gt d7 k5).Query.Out) ((laws_markCondS_m ((gt d7 k5).Query.Conds) (IntKind.i64.wrap ((IntKind.i64.wrap (s6 + 1)) + 1))).1)).1) + 1)), .slice A26 ((gt d7 k5).Rows).length c27]
  refine WM_storeFoc (E := tyFinished) (e := 37) (g := g13) (n := x0.length) (c := c2) (k := k5) (s := 7) (o := 5) (xs := d7) (ck := K5) (ck' := K6) (js := (I11 :: I10 :: I9 :: is)) (fun W hm => (hm.front (n := 0) rfl)) rfl rfl type3 rfl (Nat.le_of_ble_eq_true rfl) rfl rfl rfl rfl (Wd_none rfl) ?_
  refine nt' (sr (wm ?_))
  refine wv vadd ?_
  refine wa (nt' (CM_region (wm (wm ?_))))
  refine wv (vix 7 k5 underlying44 type37) ?_
  refine wv (vf underlying37 rfl type35) ?_
  refine wv (fun W hm => rv_load underlying35 rfl rfl (hm.focCells (i := 0) rfl rfl 6 _ rfl)) ?_
  refine wm ?_
  refine WM_callW (χ := Unit) (val := fun _ => .int .i64 (laws_markRowS_m ((gt d7 k5).Rows) (IntKind.i64.wrap ((IntKind.i64.wrap (((laws_markIntS_m ((gt d7 k5).Query.Out) ((laws_markCondS_m ((gt d7 k5).Query.Conds) (IntKind.i64.wrap ((IntKind.i64.wrap (s6 + 1)) + 1))).1)).1) + 1)) + 1))).1) (js := fun _ => (iOwn (tSl tyRow 73) [.slice A26 ((gt d7 k5).Rows).length c27] (laws_markRowS_m ((gt d7 k5).Rows) (IntKind.i64.wrap ((IntKind.i64.wrap (((laws_markIntS_m ((gt d7 k5).Query.Out) ((laws_markCondS_m ((gt d7 k5).Query.Conds) (IntKind.i64.wrap ((IntKind.i64.wrap (s6 + 1)) + 1))).1)).1) + 1)) + 1))).2 :: (iFoc tyFinished 37 (some ⟨g13, 0, none⟩) x0.length c2 d7 k5 K6 :: I11 :: I10 :: is))) (cl_fn cb96 rfl) (fun W hm => (laws_markRowS_c B w0 (iFoc tyFinished 37 (some ⟨g13, 0, none⟩) x0.length c2 d7 k5 K6 :: I11 :: I10 :: is) W (.slice A26 ((gt d7 k5).Rows).length c27) ((gt d7 k5).Rows) (IntKind.i64.wrap ((IntKind.i64.wrap (((laws_markIntS_m ((gt d7 k5).Query.Out) ((laws_markCondS_m ((gt d7 k5).Query.Conds) (IntKind.i64.wrap ((IntKind.i64.wrap (s6 + 1)) + 1))).1)).1) + 1)) + 1)) (hm.front (n := 3) rfl)).mono (fun _ _ h => ⟨(), h.1, h.2⟩)) (Wd_none rfl) (by decide) (fun _ => ?_)
  refine wa (WM_nil (QM_block_normal (QM_then (CM_region (wm ?_)))))
  refine wv (vadN k5 1 (by omega)) ?_
  refine wa (WM_nil ?_)
  refine QM_items (fun W hm => Mem.unfocus (Mem.join (is := [I10, I11, iOwn (tSl tyRow 73) [.slice A26 ((gt d7 k5).Rows).length c27] ((laws_markRowS_m ((gt d7 k5).Rows) (IntKind.i64.wrap ((IntKind.i64.wrap (((laws_markIntS_m ((gt d7 k5).Query.Out) ((laws_markCondS_m ((gt d7 k5).Query.Conds) (IntKind.i64.wrap ((IntKind.i64.wrap (s6 + 1)) + 1))).1)).1) + 1)) + 1))).2)]) (js := (iFoc tyFinished 37 (some ⟨g13, 0, none⟩) x0.length c2 d7 k5 K6 :: (is))) (fun _ _ hs => tyFinished_join (x := (⟨(⟨s6, (IntKind.i64.wrap (s6 + 1)), (laws_markCondS_m ((gt d7 k5).Query.Conds) (IntKind.i64.wrap ((IntKind.i64.wrap (s6 + 1)) + 1))).2, (laws_markIntS_m ((gt d7 k5).Query.Out) ((laws_markCondS_m ((gt d7 k5).Query.Conds) (IntKind.i64.wrap ((IntKind.i64.wrap (s6 + 1)) + 1))).1)).2⟩ : DQuery), (laws_markIntS_m ((gt d7 k5).Query.Out) ((laws_markCondS_m ((gt d7 k5).Query.Conds) (IntKind.i64.wrap ((IntKind.i64.wrap (s6 + 1)) + 1))).1)).1, (IntKind.i64.wrap (((laws_markIntS_m ((gt d7 k5).Query.Out) ((laws_markCondS_m ((gt d7 k5).Query.Conds) (IntKind.i64.wrap ((IntKind.i64.wrap (s6 + 1)) + 1))).1)).1) + 1)), (laws_markRowS_m ((gt d7 k5).Rows) (IntKind.i64.wrap ((IntKind.i64.wrap (((laws_markIntS_m ((gt d7 k5).Query.Out) ((laws_markCondS_m ((gt d7 k5).Query.Conds) (IntKind.i64.wrap ((IntKind.i64.wrap (s6 + 1)) + 1))).1)).1) + 1)) + 1))).2⟩ : DFinished)) hs) ((((hm.front (n := 1) rfl).front (n := 1) rfl).front (n := 2) rfl).front (n := 3) rfl))) ?_
  have hn30 := rng_next (R := (Int × (List DFinished))) (body := F1) (k := k5) (s := (s6, d7)) (s' := ((laws_markRowS_m ((gt d7 k5).Rows) (IntKind.i64.wrap ((IntKind.i64.wrap (((laws_markIntS_m ((gt d7 k5).Query.Out) ((laws_markCondS_m ((gt d7 k5).Query.Conds) (IntKind.i64.wrap ((IntKind.i64.wrap (s6 + 1)) + 1))).1)).1) + 1)) + 1))).1, (d7.set k5 (⟨(⟨s6, (IntKind.i64.wrap (s6 + 1)), (laws_markCondS_m ((gt d7 k5).Query.Conds) (IntKind.i64.wrap ((IntKind.i64.wrap (s6 + 1)) + 1))).2, (laws_markIntS_m ((gt d7 k5).Query.Out) ((laws_markCondS_m ((gt d7 k5).Query.Conds) (IntKind.i64.wrap ((IntKind.i64.wrap (s6 + 1)) + 1))).1)).2⟩ : DQuery), (laws_markIntS_m ((gt d7 k5).Query.Out) ((laws_markCondS_m ((gt d7 k5).Query.Conds) (IntKind.i64.wrap ((IntKind.i64.wrap (s6 + 1)) + 1))).1)).1, (IntKind.i64.wrap (((laws_markIntS_m ((gt d7 k5).Query.Out) ((laws_markCondS_m ((gt d7 k5).Query.Conds) (IntKind.i64.wrap ((IntKind.i64.wrap (s6 + 1)) + 1))).1)).1) + 1)), (laws_markRowS_m ((gt d7 k5).Rows) (IntKind.i64.wrap ((IntKind.i64.wrap (((laws_markIntS_m ((gt d7 k5).Query.Out) ((laws_markCondS_m ((gt d7 k5).Query.Conds) (IntKind.i64.wrap ((IntKind.i64.wrap (s6 + 1)) + 1))).1)).1) + 1)) + 1))).2⟩ : DFinished)))) (show k5 < x0.length from by omega) (show laws_markFinishedS_b1 k5 s6 d7 = Sum.inr ((laws_markRowS_m ((gt d7 k5).Rows) (IntKind.i64.wrap ((IntKind.i64.wrap (((laws_markIntS_m ((gt d7 k5).Query.Out) ((laws_markCondS_m ((gt d7 k5).Query.Conds) (IntKind.i64.wrap ((IntKind.i64.wrap (s6 + 1)) + 1))).1)).1) + 1)) + 1))).1, (d7.set k5 (⟨(⟨s6, (IntKind.i64.wrap (s6 + 1)), (laws_markCondS_m ((gt d7 k5).Query.Conds) (IntKind.i64.wrap ((IntKind.i64.wrap (s6 + 1)) + 1))).2, (laws_markIntS_m ((gt d7 k5).Query.Out) ((laws_markCondS_m ((gt d7 k5).Query.Conds) (IntKind.i64.wrap ((IntKind.i64.wrap (s6 + 1)) + 1))).1)).2⟩ : DQuery), (laws_markIntS_m ((gt d7 k5).Query.Out) ((laws_markCondS_m ((gt d7 k5).Query.Conds) (IntKind.i64.wrap ((IntKind.i64.wrap (s6 + 1)) + 1))).1)).1, (IntKind.i64.wrap (((laws_markIntS_m ((gt d7 k5).Query.Out) ((laws_markCondS_m ((gt d7 k5).Query.Conds) (IntKind.i64.wrap ((IntKind.i64.wrap (s6 + 1)) + 1))).1)).1) + 1)), (laws_markRowS_m ((gt d7 k5).Rows) (IntKind.i64.wrap ((IntKind.i64.wrap (((laws_markIntS_m ((gt d7 k5).Query.Out) ((laws_markCondS_m ((gt d7 k5).Query.Conds) (IntKind.i64.wrap ((IntKind.i64.wrap (s6 + 1)) + 1))).1)).1) + 1)) + 1))).2⟩ : DFinished))) from by unfold laws_markFinishedS_b1; exact rfl) hF9
  exact QM_round (k5 + 1, ((laws_markRowS_m ((gt d7 k5).Rows) (IntKind.i64.wrap ((IntKind.i64.wrap (((laws_markIntS_m ((gt d7 k5).Query.Out) ((laws_markCondS_m ((gt d7 k5).Query.Conds) (IntKind.i64.wrap ((IntKind.i64.wrap (s6 + 1)) + 1))).1)).1) + 1)) + 1))).1, (d7.set k5 (⟨(⟨s6, (IntKind.i64.wrap (s6 + 1)), (laws_markCondS_m ((gt d7 k5).Query.Conds) (IntKind.i64.wrap ((IntKind.i64.wrap (s6 + 1)) + 1))).2, (laws_markIntS_m ((gt d7 k5).Query.Out) ((laws_markCondS_m ((gt d7 k5).Query.Conds) (IntKind.i64.wrap ((IntKind.i64.wrap (s6 + 1)) + 1))).1)).2⟩ : DQuery), (laws_markIntS_m ((gt d7 k5).Query.Out) ((laws_markCondS_m ((gt d7 k5).Query.Conds) (IntKind.i64.wrap ((IntKind.i64.wrap (s6 + 1)) + 1))).1)).1, (IntKind.i64.wrap (((laws_markIntS_m ((gt d7 k5).Query.Out) ((laws_markCondS_m ((gt d7 k5).Query.Conds) (IntKind.i64.wrap ((IntKind.i64.wrap (s6 + 1)) + 1))).1)).1) + 1)), (laws_markRowS_m ((gt d7 k5).Rows) (IntKind.i64.wrap ((IntKind.i64.wrap (((laws_markIntS_m ((gt d7 k5).Query.Out) ((laws_markCondS_m ((gt d7 k5).Query.Conds) (IntKind.i64.wrap ((IntKind.i64.wrap (s6 + 1)) + 1))).1)).1) + 1)) + 1))).2⟩ : DFinished))), ()) sl3 (fun W hm => hm) ⟨(by omega), hn30⟩ (rl (by omega))
 ·have g12 : (decide (((k5 : Nat) : Int) < ((x0.length : Nat) : Int))) = false := decide_eq_false (by omega)
  refine CM_condF rfl g12 ?_
  refine CM_exit (QM_then_exit (QM_then_exit ?_))
  have hE31 : R2 (x0.length - 0) 0 (x1, x0) = Sum.inr (s6, d7) := rng_end hl11 hF9
  refine QM_block_hit (QM_then (sr (wm (wa (nt' (CM_ret ?_))))))
  refine QM_rW rfl rfl (fun W hm => ⟨?_, ?_⟩)
  ·rw [(show laws_markFinishedS_m x0 x1 = (s6, d7) from by unfold laws_markFinishedS_m; exact fin_inr hE31 (rfl))]
  ·rw [(show laws_markFinishedS_m x0 x1 = (s6, d7) from by unfold laws_markFinishedS_m; exact fin_inr hE31 (rfl))]; exact hm

def laws_markChargeS_b1 (k5 : Nat) (s6 : Int) (d7 : (List DCharge)) : (Int × (List DCharge)) ⊕ (Int × (List DCharge)) :=
 Sum.inr ((laws_markIntS_m ((gt d7 k5).Rows) ((laws_markIntS_m ((gt d7 k5).Tenants) ((laws_markIntS_m ((gt d7 k5).Ids) (IntKind.i64.wrap ((IntKind.i64.wrap (s6 + 1)) + 1))).1)).1)).1, (d7.set k5 (⟨s6, (IntKind.i64.wrap (s6 + 1)), (laws_markIntS_m ((gt d7 k5).Ids) (IntKind.i64.wrap ((IntKind.i64.wrap (s6 + 1)) + 1))).2, (laws_markIntS_m ((gt d7 k5).Tenants) ((laws_markIntS_m ((gt d7 k5).Ids) (IntKind.i64.wrap ((IntKind.i64.wrap (s6 + 1)) + 1))).1)).2, (laws_markIntS_m ((gt d7 k5).Rows) ((laws_markIntS_m ((gt d7 k5).Tenants) ((laws_markIntS_m ((gt d7 k5).Ids) (IntKind.i64.wrap ((IntKind.i64.wrap (s6 + 1)) + 1))).1)).1)).2⟩ : DCharge)))
def laws_markChargeS_m (x0 : (List DCharge)) (x1 : Int) : (Int × (List DCharge)) :=
 Sum.elim id (fun (s : Int × (List DCharge)) => (s.1, s.2)) (rng (R := (Int × (List DCharge))) (fun k (s : Int × (List DCharge)) => laws_markChargeS_b1 k s.1 s.2) (x0.length - 0) 0 (x1, x0))
theorem cb95 : Cb Tryz.prog 95 := ⟨f95, _, func95, rfl, by decide⟩
theorem laws_markChargeS_c (B : Nat) (w0 : World) (is : List It) (w : World) (z0 : Value) (x0 : (List DCharge)) (x1 : Int) (hm : Mem B w0 (iOwn (tSl tyCharge 133) [z0] x0 :: is) w) :
  Calls Tryz.prog 95 #[z0, .int .i64 x1] w fun e w' => e = .returned (.int .i64 (laws_markChargeS_m x0 x1).1) ∧ Mem B w0 (iOwn (tSl tyCharge 133) [z0] (laws_markChargeS_m x0 x1).2 :: is) w' := by
 refine call_enterW (L := [(0, z0), (1, .int .i64 x1)]) (N := 48) func95 rfl rfl (Nat.le_of_ble_eq_true rfl) (argsL_cons rfl (argsL_cons rfl argsL_nil)) hm ?_
 refine CM_form (n := 0) rfl ?_
 rintro A1 c2 rfl m3
 refine sr (wa (nt' (CM_seq (sr (wa (nt' (CM_block ?_)))))))
 let F1 := fun k (s : Int × (List DCharge)) => laws_markChargeS_b1 k s.1 s.2
 let R2 := rng (R := (Int × (List DCharge))) F1
 refine CM_loop (σ := Nat × (Int × (List DCharge)) × (Unit)) (fun s => [(0, .slice A1 x0.length c2), (1, .int .i64 s.2.1.1), (5, .int .i64 ((s.1 : Nat) : Int))]) (fun s => (iOwn (tSl tyCharge 133) [.slice A1 x0.length c2] s.2.1.2 :: is)) (fun s => s.1 ≤ x0.length ∧ R2 (x0.length - s.1) s.1 s.2.1 = R2 (x0.length - 0) 0 (x1, x0)) (fun s => x0.length - s.1) (0, (x1, x0), ()) sl3 (fun W hm => hm) ⟨(by omega), rfl⟩ ?_
 rintro ⟨k5, ⟨s6, d7⟩, ⟨⟩⟩ H10
 obtain ⟨hk8, hF9⟩ : k5 ≤ x0.length ∧ R2 (x0.length - k5) k5 (s6, d7) = R2 (x0.length - 0) 0 (x1, x0) := H10
 show CM Tryz.prog 48 _ _ _ _ [(0, .slice A1 x0.length c2), (1, .int .i64 s6), (5, .int .i64 ((k5 : Nat) : Int))] (iOwn (tSl tyCharge 133) [.slice A1 x0.length c2] d7 :: is)
 refine CM_seq (sr (wm (wm ?_)))
 refine wv (vlen underlying45) ?_
 refine wv vlss ?_
 refine nt' ?_
 by_cases hl11 : k5 < x0.length
 ·have g12 : (decide (((k5 : Nat) : Int) < ((x0.length : Nat) : Int))) = true := decide_eq_true (by omega)
  refine CM_condT rfl g12 ?_
  refine CM_skip (QM_then (CM_seq (CM_block (sr (wm (wm (wm ?_)))))))
  refine WM_formO (n := 0) rfl (by omega) ?_
  rintro g13 rfl
  refine wv (vix 5 k5 underlying45 type133) ?_
  refine wv (vf underlying133 rfl type3) ?_
  refine WM_focus (E := tyCharge) (e := 133) (A := (some ⟨g13, 0, none⟩)) (n := x0.length) (c := c2) (xs := d7) (k := k5) (js := (is)) (by omega) (fun W hm => (hm.front (n := 0) rfl)) (fun ck14 => ?_)
  refine tyCharge_sp ?_
  rintro ⟨v15, v16, v17⟩ rfl
  refine WM_form (n := 0) rfl ?_
  rintro A18 c19 rfl m20
  refine WM_form (n := 1) rfl ?_
  rintro A22 c23 rfl m24
  refine WM_form (n := 2) rfl ?_
  rintro A26 c27 rfl m28
  let K3 : List Value := [.int .i64 s6, .int .i64 ((gt d7 k5).Base), .slice A18 ((gt d7 k5).Ids).length c19, .slice A22 ((gt d7 k5).Tenants).length c23, .slice A26 ((gt d7 k5).Rows).length c27]
  let I5 : It := iOwn (tSl tInt 3) [.slice A18 ((gt d7 k5).Ids).length c19] ((gt d7 k5).Ids)
  let I6 : It := iOwn (tSl tInt 3) [.slice A22 ((gt d7 k5).Tenants).length c23] ((gt d7 k5).Tenants)
  let I7 : It := iOwn (tSl tInt 3) [.slice A26 ((gt d7 k5).Rows).length c27] ((gt d7 k5).Rows)
  refine WM_storeFoc (E := tyCharge) (e := 133) (g := g13) (n := x0.length) (c := c2) (k := k5) (s := 5) (o := 0) (xs := d7) (ck := [.int .i64 ((gt d7 k5).Segment), .int .i64 ((gt d7 k5).Base), .slice A18 ((gt d7 k5).Ids).length c19, .slice A22 ((gt d7 k5).Tenants).length c23, .slice A26 ((gt d7 k5).Rows).length c27]) (ck' := K3) (js := (I5 :: I6 :: I7 :: is)) (fun W hm => (hm.front (n := 3) rfl)) rfl rfl type3 rfl (Nat.le_of_ble_eq_true rfl) rfl rfl rfl rfl (Wd_none rfl) ?_
  refine nt' (sr (wm ?_))
  refine wv vadd ?_
  refine wa (nt' (sr (wm (wm (wm ?_)))))
  refine wv (vix 5 k5 underlying45 type133) ?_
  refine wv (vf underlying133 rfl type3) ?_
  let K4 : List Value := [.int .i64 s6, .int .i64 (IntKind.i64.wrap (s6 + 1)), .slice A18 ((gt d7 k5).Ids).length c19, .slice A22 ((gt d7 k5).Tenants).length c23, .slice A26 ((gt d7 k5).Rows).length c27]
  refine WM_storeFoc (E := tyCharge) (e := 133) (g := g13) (n := x0.length) (c := c2) (k := k5) (s := 5) (o := 1) (xs := d7) (ck := K3) (ck' := K4) (js := (I5 :: I6 :: I7 :: is)) (fun W hm => (hm.front (n := 0) rfl)) rfl rfl type3 rfl (Nat.le_of_ble_eq_true rfl) rfl rfl rfl rfl (Wd_none rfl) ?_
  refine nt' (sr (wm ?_))
  refine wv vadd ?_
  refine wa (nt' (sr (wm (wm ?_))))
  refine wv (vix 5 k5 underlying45 type133) ?_
  refine wv (vf underlying133 rfl type25) ?_
  refine wv (fun W hm => rv_load underlying25 rfl rfl (hm.focCells (i := 0) rfl rfl 2 _ rfl)) ?_
  refine wm ?_
  refine WM_callW (χ := Unit) (val := fun _ => .int .i64 (laws_markIntS_m ((gt d7 k5).Ids) (IntKind.i64.wrap ((IntKind.i64.wrap (s6 + 1)) + 1))).1) (js := fun _ => (iOwn (tSl tInt 3) [.slice A18 ((gt d7 k5).Ids).length c19] (laws_markIntS_m ((gt d7 k5).Ids) (IntKind.i64.wrap ((IntKind.i64.wrap (s6 + 1)) + 1))).2 :: (iFoc tyCharge 133 (some ⟨g13, 0, none⟩) x0.length c2 d7 k5 K4 :: I6 :: I7 :: is))) (cl_fn cb50 rfl) (fun W hm => (laws_markIntS_c B w0 (iFoc tyCharge 133 (some ⟨g13, 0, none⟩) x0.length c2 d7 k5 K4 :: I6 :: I7 :: is) W (.slice A18 ((gt d7 k5).Ids).length c19) ((gt d7 k5).Ids) (IntKind.i64.wrap ((IntKind.i64.wrap (s6 + 1)) + 1)) (hm.front (n := 1) rfl)).mono (fun _ _ h => ⟨(), h.1, h.2⟩)) (Wd_none rfl) (by decide) (fun _ => ?_)
  refine wa (nt' (sr (wm (wm ?_))))
  refine wv (vix 5 k5 underlying45 type133) ?_
  refine wv (vf underlying133 rfl type25) ?_
  refine wv (fun W hm => rv_load underlying25 rfl rfl (hm.focCells (i := 1) rfl rfl 3 _ rfl)) ?_
  refine wm ?_
  let I8 : It := iOwn (tSl tInt 3) [.slice A18 ((gt d7 k5).Ids).length c19] ((laws_markIntS_m ((gt d7 k5).Ids) (IntKind.i64.wrap ((IntKind.i64.wrap (s6 + 1)) + 1))).2)
  refine WM_callW (χ := Unit) (val := fun _ => .int .i64 (laws_markIntS_m ((gt d7 k5).Tenants) ((laws_markIntS_m ((gt d7 k5).Ids) (IntKind.i64.wrap ((IntKind.i64.wrap (s6 + 1)) + 1))).1)).1) (js := fun _ => (iOwn (tSl tInt 3) [.slice A22 ((gt d7 k5).Tenants).length c23] (laws_markIntS_m ((gt d7 k5).Tenants) ((laws_markIntS_m ((gt d7 k5).Ids) (IntKind.i64.wrap ((IntKind.i64.wrap (s6 + 1)) + 1))).1)).2 :: (I8 :: iFoc tyCharge 133 (some ⟨g13, 0, none⟩) x0.length c2 d7 k5 K4 :: I7 :: is))) (cl_fn cb50 rfl) (fun W hm => (laws_markIntS_c B w0 (I8 :: iFoc tyCharge 133 (some ⟨g13, 0, none⟩) x0.length c2 d7 k5 K4 :: I7 :: is) W (.slice A22 ((gt d7 k5).Tenants).length c23) ((gt d7 k5).Tenants) ((laws_markIntS_m ((gt d7 k5).Ids) (IntKind.i64.wrap ((IntKind.i64.wrap (s6 + 1)) + 1))).1) (hm.front (n := 2) rfl)).mono (fun _ _ h => ⟨(), h.1, h.2⟩)) (Wd_none rfl) (by decide) (fun _ => ?_)
  refine wa (nt' (CM_region (wm (wm ?_))))
  refine wv (vix 5 k5 underlying45 type133) ?_
  refine wv (vf underlying133 rfl type25) ?_
  refine wv (fun W hm => rv_load underlying25 rfl rfl (hm.focCells (i := 2) rfl rfl 4 _ rfl)) ?_
  refine wm ?_
  let I9 : It := iOwn (tSl tInt 3) [.slice A22 ((gt d7 k5).Tenants).length c23] ((laws_markIntS_m ((gt d7 k5).Tenants) ((laws_markIntS_m ((gt d7 k5).Ids) (IntKind.i64.wrap ((IntKind.i64.wrap (s6 + 1)) + 1))).1)).2)
  refine WM_callW (χ := Unit) (val := fun _ => .int .i64 (laws_markIntS_m ((gt d7 k5).Rows) ((laws_markIntS_m ((gt d7 k5).Tenants) ((laws_markIntS_m ((gt d7 k5).Ids) (IntKind.i64.wrap ((IntKind.i64.wrap (s6 + 1)) + 1))).1)).1)).1) (js := fun _ => (iOwn (tSl tInt 3) [.slice A26 ((gt d7 k5).Rows).length c27] (laws_markIntS_m ((gt d7 k5).Rows) ((laws_markIntS_m ((gt d7 k5).Tenants) ((laws_markIntS_m ((gt d7 k5).Ids) (IntKind.i64.wrap ((IntKind.i64.wrap (s6 + 1)) + 1))).1)).1)).2 :: (I9 :: I8 :: iFoc tyCharge 133 (some ⟨g13, 0, none⟩) x0.length c2 d7 k5 K4 :: is))) (cl_fn cb50 rfl) (fun W hm => (laws_markIntS_c B w0 (I9 :: I8 :: iFoc tyCharge 133 (some ⟨g13, 0, none⟩) x0.length c2 d7 k5 K4 :: is) W (.slice A26 ((gt d7 k5).Rows).length c27) ((gt d7 k5).Rows) ((laws_markIntS_m ((gt d7 k5).Tenants) ((laws_markIntS_m ((gt d7 k5).Ids) (IntKind.i64.wrap ((IntKind.i64.wrap (s6 + 1)) + 1))).1)).1) (hm.front (n := 3) rfl)).mono (fun _ _ h => ⟨(), h.1, h.2⟩)) (Wd_none rfl) (by decide) (fun _ => ?_)
  refine wa (WM_nil (QM_block_normal (QM_then (CM_region (wm ?_)))))
  refine wv (vadN k5 1 (by omega)) ?_
  refine wa (WM_nil ?_)
  refine QM_items (fun W hm => Mem.unfocus (Mem.join (is := [I8, I9, iOwn (tSl tInt 3) [.slice A26 ((gt d7 k5).Rows).length c27] ((laws_markIntS_m ((gt d7 k5).Rows) ((laws_markIntS_m ((gt d7 k5).Tenants) ((laws_markIntS_m ((gt d7 k5).Ids) (IntKind.i64.wrap ((IntKind.i64.wrap (s6 + 1)) + 1))).1)).1)).2)]) (js := (iFoc tyCharge 133 (some ⟨g13, 0, none⟩) x0.length c2 d7 k5 K4 :: (is))) (fun _ _ hs => tyCharge_join (x := (⟨s6, (IntKind.i64.wrap (s6 + 1)), (laws_markIntS_m ((gt d7 k5).Ids) (IntKind.i64.wrap ((IntKind.i64.wrap (s6 + 1)) + 1))).2, (laws_markIntS_m ((gt d7 k5).Tenants) ((laws_markIntS_m ((gt d7 k5).Ids) (IntKind.i64.wrap ((IntKind.i64.wrap (s6 + 1)) + 1))).1)).2, (laws_markIntS_m ((gt d7 k5).Rows) ((laws_markIntS_m ((gt d7 k5).Tenants) ((laws_markIntS_m ((gt d7 k5).Ids) (IntKind.i64.wrap ((IntKind.i64.wrap (s6 + 1)) + 1))).1)).1)).2⟩ : DCharge)) hs) ((((hm.front (n := 3) rfl).front (n := 1) rfl).front (n := 2) rfl).front (n := 3) rfl))) ?_
  have hn30 := rng_next (R := (Int × (List DCharge))) (body := F1) (k := k5) (s := (s6, d7)) (s' := ((laws_markIntS_m ((gt d7 k5).Rows) ((laws_markIntS_m ((gt d7 k5).Tenants) ((laws_markIntS_m ((gt d7 k5).Ids) (IntKind.i64.wrap ((IntKind.i64.wrap (s6 + 1)) + 1))).1)).1)).1, (d7.set k5 (⟨s6, (IntKind.i64.wrap (s6 + 1)), (laws_markIntS_m ((gt d7 k5).Ids) (IntKind.i64.wrap ((IntKind.i64.wrap (s6 + 1)) + 1))).2, (laws_markIntS_m ((gt d7 k5).Tenants) ((laws_markIntS_m ((gt d7 k5).Ids) (IntKind.i64.wrap ((IntKind.i64.wrap (s6 + 1)) + 1))).1)).2, (laws_markIntS_m ((gt d7 k5).Rows) ((laws_markIntS_m ((gt d7 k5).Tenants) ((laws_markIntS_m ((gt d7 k5).Ids) (IntKind.i64.wrap ((IntKind.i64.wrap (s6 + 1)) + 1))).1)).1)).2⟩ : DCharge)))) (show k5 < x0.length from by omega) (show laws_markChargeS_b1 k5 s6 d7 = Sum.inr ((laws_markIntS_m ((gt d7 k5).Rows) ((laws_markIntS_m ((gt d7 k5).Tenants) ((laws_markIntS_m ((gt d7 k5).Ids) (IntKind.i64.wrap ((IntKind.i64.wrap (s6 + 1)) + 1))).1)).1)).1, (d7.set k5 (⟨s6, (IntKind.i64.wrap (s6 + 1)), (laws_markIntS_m ((gt d7 k5).Ids) (IntKind.i64.wrap ((IntKind.i64.wrap (s6 + 1)) + 1))).2, (laws_markIntS_m ((gt d7 k5).Tenants) ((laws_markIntS_m ((gt d7 k5).Ids) (IntKind.i64.wrap ((IntKind.i64.wrap (s6 + 1)) + 1))).1)).2, (laws_markIntS_m ((gt d7 k5).Rows) ((laws_markIntS_m ((gt d7 k5).Tenants) ((laws_markIntS_m ((gt d7 k5).Ids) (IntKind.i64.wrap ((IntKind.i64.wrap (s6 + 1)) + 1))).1)).1)).2⟩ : DCharge))) from by unfold laws_markChargeS_b1; exact rfl) hF9
  exact QM_round (k5 + 1, ((laws_markIntS_m ((gt d7 k5).Rows) ((laws_markIntS_m ((gt d7 k5).Tenants) ((laws_markIntS_m ((gt d7 k5).Ids) (IntKind.i64.wrap ((IntKind.i64.wrap (s6 + 1)) + 1))).1)).1)).1, (d7.set k5 (⟨s6, (IntKind.i64.wrap (s6 + 1)), (laws_markIntS_m ((gt d7 k5).Ids) (IntKind.i64.wrap ((IntKind.i64.wrap (s6 + 1)) + 1))).2, (laws_markIntS_m ((gt d7 k5).Tenants) ((laws_markIntS_m ((gt d7 k5).Ids) (IntKind.i64.wrap ((IntKind.i64.wrap (s6 + 1)) + 1))).1)).2, (laws_markIntS_m ((gt d7 k5).Rows) ((laws_markIntS_m ((gt d7 k5).Tenants) ((laws_markIntS_m ((gt d7 k5).Ids) (IntKind.i64.wrap ((IntKind.i64.wrap (s6 + 1)) + 1))).1)).1)).2⟩ : DCharge))), ()) sl3 (fun W hm => hm) ⟨(by omega), hn30⟩ (rl (by omega))
 ·have g12 : (decide (((k5 : Nat) : Int) < ((x0.length : Nat) : Int))) = false := decide_eq_false (by omega)
  refine CM_condF rfl g12 ?_
  refine CM_exit (QM_then_exit (QM_then_exit ?_))
  have hE31 : R2 (x0.length - 0) 0 (x1, x0) = Sum.inr (s6, d7) := rng_end hl11 hF9
  refine QM_block_hit (QM_then (sr (wm (wa (nt' (CM_ret ?_))))))
  refine QM_rW rfl rfl (fun W hm => ⟨?_, ?_⟩)
  ·rw [(show laws_markChargeS_m x0 x1 = (s6, d7) from by unfold laws_markChargeS_m; exact fin_inr hE31 (rfl))]
  ·rw [(show laws_markChargeS_m x0 x1 = (s6, d7) from by unfold laws_markChargeS_m; exact fin_inr hE31 (rfl))]; exact hm

def laws_markEngine_m (x0 : DEngine) (x1 : Int) : (Int × DEngine) :=
 ((laws_markChargeS_m x0.Ledger ((laws_markFinishedS_m x0.Done ((laws_markActiveS_m x0.Active ((laws_markIntS_m x0.Order ((laws_markStore_m x0.Store x1).1)).1)).1)).1)).1, (⟨(⟨(laws_markStore_m x0.Store x1).2.Segments, x0.Store.Now⟩ : DStore), x0.Cursor, (laws_markIntS_m x0.Order ((laws_markStore_m x0.Store x1).1)).2, (laws_markActiveS_m x0.Active ((laws_markIntS_m x0.Order ((laws_markStore_m x0.Store x1).1)).1)).2, (laws_markFinishedS_m x0.Done ((laws_markActiveS_m x0.Active ((laws_markIntS_m x0.Order ((laws_markStore_m x0.Store x1).1)).1)).1)).2, (laws_markChargeS_m x0.Ledger ((laws_markFinishedS_m x0.Done ((laws_markActiveS_m x0.Active ((laws_markIntS_m x0.Order ((laws_markStore_m x0.Store x1).1)).1)).1)).1)).2, x0.Steps⟩ : DEngine))
theorem cb20 : Cb Tryz.prog 20 := ⟨f20, _, func20, rfl, by decide⟩
theorem laws_markEngine_c (B : Nat) (w0 : World) (is : List It) (w : World) (z0 : List Value) (x0 : DEngine) (x1 : Int) (hm : Mem B w0 (iOwn tyEngine z0 x0 :: is) w) :
  Calls Tryz.prog 20 #[.agg z0.toArray, .int .i64 x1] w fun e w' => e = .returned (.int .i64 (laws_markEngine_m x0 x1).1) ∧ Mem B w0 (iOwn tyEngine z0 (laws_markEngine_m x0 x1).2 :: is) w' := by
 refine call_enterW (L := [(0, .agg z0.toArray), (1, .int .i64 x1)]) (N := 26) func20 rfl rfl (Nat.le_of_ble_eq_true rfl) (argsL_cons rfl (argsL_cons rfl argsL_nil)) hm ?_
 refine CM_split (γ := Value × Value × Value × Value × Value) (js := fun g => [iOwn (tSl (tSl tyVersion 191) 131) [g.1] x0.Store.Segments, iOwn (tSl tInt 3) [g.2.1] x0.Order, iOwn (tSl tyActive 64) [g.2.2.1] x0.Active, iOwn (tSl tyFinished 37) [g.2.2.2.1] x0.Done, iOwn (tSl tyCharge 133) [g.2.2.2.2] x0.Ledger]) (C := fun g => z0 = [g.1, .int .i64 x0.Store.Now, .int .i64 x0.Cursor, g.2.1, g.2.2.1, g.2.2.2.1, g.2.2.2.2, .int .i64 x0.Steps]) (fun _ _ h => tyEngine_split h) ?_
 rintro ⟨v1, v2, v3, v4, v5⟩ rfl
 refine CM_form (n := 0) rfl ?_
 rintro A6 c7 rfl m8
 refine CM_form (n := 1) rfl ?_
 rintro A10 c11 rfl m12
 refine CM_form (n := 2) rfl ?_
 rintro A14 c15 rfl m16
 refine CM_form (n := 3) rfl ?_
 rintro A18 c19 rfl m20
 refine CM_form (n := 4) rfl ?_
 rintro A22 c23 rfl m24
 refine sr ?_
 refine WM_box rfl (Wd_none rfl) (by decide) (fun p26 => ?_)
 refine wa (nt' (sr ?_))
 refine wv (vf underlying47 rfl type42) ?_
 let K1 : List Value := [.slice A6 x0.Store.Segments.length c7, .int .i64 x0.Store.Now]
 refine wv (fun W hm => rv_loadN (cs := K1) underlying42 type42 rfl rfl (hm.boxPart (n := 0) rfl rfl)) ?_
 refine wm ?_
 let K2 : List Value := [.slice A6 x0.Store.Segments.length c7, .int .i64 x0.Store.Now, .int .i64 x0.Cursor, .slice A10 x0.Order.length c11, .slice A14 x0.Active.length c15, .slice A18 x0.Done.length c19, .slice A22 x0.Ledger.length c23, .int .i64 x0.Steps]
 let I3 : It := iOwn (tSl tInt 3) [.slice A10 x0.Order.length c11] x0.Order
 let I4 : It := iOwn (tSl tyActive 64) [.slice A14 x0.Active.length c15] x0.Active
 let I5 : It := iOwn (tSl tyFinished 37) [.slice A18 x0.Done.length c19] x0.Done
 let I6 : It := iOwn (tSl tyCharge 133) [.slice A22 x0.Ledger.length c23] x0.Ledger
 refine WM_items (js := (iOwn tyStore K1 x0.Store :: (iBox p26 47 K2 :: I3 :: I4 :: I5 :: I6 :: is))) (fun W hm => Mem.join (is := [iOwn (tSl (tSl tyVersion 191) 131) [.slice A6 x0.Store.Segments.length c7] x0.Store.Segments]) (js := (iBox p26 47 K2 :: I3 :: I4 :: I5 :: I6 :: is)) (fun _ _ hs => tyStore_join (x := x0.Store) hs) (hm.front (n := 1) rfl)) ?_
 refine WM_callW (χ := Unit) (val := fun _ => .int .i64 (laws_markStore_m x0.Store x1).1) (js := fun _ => (iOwn tyStore K1 (laws_markStore_m x0.Store x1).2 :: (iBox p26 47 K2 :: I3 :: I4 :: I5 :: I6 :: is))) (cl_fn cb92 rfl) (fun W hm => (laws_markStore_c B w0 (iBox p26 47 K2 :: I3 :: I4 :: I5 :: I6 :: is) W K1 x0.Store x1 hm).mono (fun _ _ h => ⟨(), h.1, h.2⟩)) (Wd_none rfl) (by decide) (fun _ => ?_)
 refine tyStore_sp ?_
 rintro v28 h27
 simp +zetaDelta only [List.cons.injEq] at h27
 obtain ⟨rfl, -, -⟩ := h27
 refine wa (nt' (sr ?_))
 refine wv (vf underlying47 rfl type25) ?_
 refine wv (vl 1 3 underlying25) ?_
 refine wm ?_
 let I7 : It := iOwn (tSl (tSl tyVersion 191) 131) [.slice A6 x0.Store.Segments.length c7] ((laws_markStore_m x0.Store x1).2.Segments)
 refine WM_callW (χ := Unit) (val := fun _ => .int .i64 (laws_markIntS_m x0.Order ((laws_markStore_m x0.Store x1).1)).1) (js := fun _ => (iOwn (tSl tInt 3) [.slice A10 x0.Order.length c11] (laws_markIntS_m x0.Order ((laws_markStore_m x0.Store x1).1)).2 :: (I7 :: iBox p26 47 K2 :: I4 :: I5 :: I6 :: is))) (cl_fn cb50 rfl) (fun W hm => (laws_markIntS_c B w0 (I7 :: iBox p26 47 K2 :: I4 :: I5 :: I6 :: is) W (.slice A10 x0.Order.length c11) x0.Order ((laws_markStore_m x0.Store x1).1) (hm.front (n := 2) rfl)).mono (fun _ _ h => ⟨(), h.1, h.2⟩)) (Wd_none rfl) (by decide) (fun _ => ?_)
 refine wa (nt' (sr ?_))
 refine wv (vf underlying47 rfl type43) ?_
 refine wv (vl 2 4 underlying43) ?_
 refine wm ?_
 let I8 : It := iOwn (tSl tInt 3) [.slice A10 x0.Order.length c11] ((laws_markIntS_m x0.Order ((laws_markStore_m x0.Store x1).1)).2)
 refine WM_callW (χ := Unit) (val := fun _ => .int .i64 (laws_markActiveS_m x0.Active ((laws_markIntS_m x0.Order ((laws_markStore_m x0.Store x1).1)).1)).1) (js := fun _ => (iOwn (tSl tyActive 64) [.slice A14 x0.Active.length c15] (laws_markActiveS_m x0.Active ((laws_markIntS_m x0.Order ((laws_markStore_m x0.Store x1).1)).1)).2 :: (I8 :: I7 :: iBox p26 47 K2 :: I5 :: I6 :: is))) (cl_fn cb93 rfl) (fun W hm => (laws_markActiveS_c B w0 (I8 :: I7 :: iBox p26 47 K2 :: I5 :: I6 :: is) W (.slice A14 x0.Active.length c15) x0.Active ((laws_markIntS_m x0.Order ((laws_markStore_m x0.Store x1).1)).1) (hm.front (n := 3) rfl)).mono (fun _ _ h => ⟨(), h.1, h.2⟩)) (Wd_none rfl) (by decide) (fun _ => ?_)
 refine wa (nt' (sr ?_))
 refine wv (vf underlying47 rfl type44) ?_
 refine wv (vl 3 5 underlying44) ?_
 refine wm ?_
 let I9 : It := iOwn (tSl tyActive 64) [.slice A14 x0.Active.length c15] ((laws_markActiveS_m x0.Active ((laws_markIntS_m x0.Order ((laws_markStore_m x0.Store x1).1)).1)).2)
 refine WM_callW (χ := Unit) (val := fun _ => .int .i64 (laws_markFinishedS_m x0.Done ((laws_markActiveS_m x0.Active ((laws_markIntS_m x0.Order ((laws_markStore_m x0.Store x1).1)).1)).1)).1) (js := fun _ => (iOwn (tSl tyFinished 37) [.slice A18 x0.Done.length c19] (laws_markFinishedS_m x0.Done ((laws_markActiveS_m x0.Active ((laws_markIntS_m x0.Order ((laws_markStore_m x0.Store x1).1)).1)).1)).2 :: (I9 :: I8 :: I7 :: iBox p26 47 K2 :: I6 :: is))) (cl_fn cb94 rfl) (fun W hm => (laws_markFinishedS_c B w0 (I9 :: I8 :: I7 :: iBox p26 47 K2 :: I6 :: is) W (.slice A18 x0.Done.length c19) x0.Done ((laws_markActiveS_m x0.Active ((laws_markIntS_m x0.Order ((laws_markStore_m x0.Store x1).1)).1)).1) (hm.front (n := 4) rfl)).mono (fun _ _ h => ⟨(), h.1, h.2⟩)) (Wd_none rfl) (by decide) (fun _ => ?_)
 refine wa (nt' (sr ?_))
 refine wv (vf underlying47 rfl type45) ?_
 refine wv (vl 4 6 underlying45) ?_
 refine wm ?_
 let I10 : It := iOwn (tSl tyFinished 37) [.slice A18 x0.Done.length c19] ((laws_markFinishedS_m x0.Done ((laws_markActiveS_m x0.Active ((laws_markIntS_m x0.Order ((laws_markStore_m x0.Store x1).1)).1)).1)).2)
 refine WM_callW (χ := Unit) (val := fun _ => .int .i64 (laws_markChargeS_m x0.Ledger ((laws_markFinishedS_m x0.Done ((laws_markActiveS_m x0.Active ((laws_markIntS_m x0.Order ((laws_markStore_m x0.Store x1).1)).1)).1)).1)).1) (js := fun _ => (iOwn (tSl tyCharge 133) [.slice A22 x0.Ledger.length c23] (laws_markChargeS_m x0.Ledger ((laws_markFinishedS_m x0.Done ((laws_markActiveS_m x0.Active ((laws_markIntS_m x0.Order ((laws_markStore_m x0.Store x1).1)).1)).1)).1)).2 :: (I10 :: I9 :: I8 :: I7 :: iBox p26 47 K2 :: is))) (cl_fn cb95 rfl) (fun W hm => (laws_markChargeS_c B w0 (I10 :: I9 :: I8 :: I7 :: iBox p26 47 K2 :: is) W (.slice A22 x0.Ledger.length c23) x0.Ledger ((laws_markFinishedS_m x0.Done ((laws_markActiveS_m x0.Active ((laws_markIntS_m x0.Order ((laws_markStore_m x0.Store x1).1)).1)).1)).1) (hm.front (n := 5) rfl)).mono (fun _ _ h => ⟨(), h.1, h.2⟩)) (Wd_none rfl) (by decide) (fun _ => ?_)
 refine wa (nt' (sr (wm (wa (nt' (CM_ret ?_))))))
 refine QM_rW rfl rfl (fun W hm => ⟨?_, ?_⟩)
 ·rw [(show laws_markEngine_m x0 x1 = ((laws_markChargeS_m x0.Ledger ((laws_markFinishedS_m x0.Done ((laws_markActiveS_m x0.Active ((laws_markIntS_m x0.Order ((laws_markStore_m x0.Store x1).1)).1)).1)).1)).1, (⟨(⟨(laws_markStore_m x0.Store x1).2.Segments, x0.Store.Now⟩ : DStore), x0.Cursor, (laws_markIntS_m x0.Order ((laws_markStore_m x0.Store x1).1)).2, (laws_markActiveS_m x0.Active ((laws_markIntS_m x0.Order ((laws_markStore_m x0.Store x1).1)).1)).2, (laws_markFinishedS_m x0.Done ((laws_markActiveS_m x0.Active ((laws_markIntS_m x0.Order ((laws_markStore_m x0.Store x1).1)).1)).1)).2, (laws_markChargeS_m x0.Ledger ((laws_markFinishedS_m x0.Done ((laws_markActiveS_m x0.Active ((laws_markIntS_m x0.Order ((laws_markStore_m x0.Store x1).1)).1)).1)).1)).2, x0.Steps⟩ : DEngine)) from by unfold laws_markEngine_m; exact rfl)]
 ·rw [(show laws_markEngine_m x0 x1 = ((laws_markChargeS_m x0.Ledger ((laws_markFinishedS_m x0.Done ((laws_markActiveS_m x0.Active ((laws_markIntS_m x0.Order ((laws_markStore_m x0.Store x1).1)).1)).1)).1)).1, (⟨(⟨(laws_markStore_m x0.Store x1).2.Segments, x0.Store.Now⟩ : DStore), x0.Cursor, (laws_markIntS_m x0.Order ((laws_markStore_m x0.Store x1).1)).2, (laws_markActiveS_m x0.Active ((laws_markIntS_m x0.Order ((laws_markStore_m x0.Store x1).1)).1)).2, (laws_markFinishedS_m x0.Done ((laws_markActiveS_m x0.Active ((laws_markIntS_m x0.Order ((laws_markStore_m x0.Store x1).1)).1)).1)).2, (laws_markChargeS_m x0.Ledger ((laws_markFinishedS_m x0.Done ((laws_markActiveS_m x0.Active ((laws_markIntS_m x0.Order ((laws_markStore_m x0.Store x1).1)).1)).1)).1)).2, x0.Steps⟩ : DEngine)) from by unfold laws_markEngine_m; exact rfl)]; exact Mem.join (is := [I7, I8, I9, I10, iOwn (tSl tyCharge 133) [.slice A22 x0.Ledger.length c23] ((laws_markChargeS_m x0.Ledger ((laws_markFinishedS_m x0.Done ((laws_markActiveS_m x0.Active ((laws_markIntS_m x0.Order ((laws_markStore_m x0.Store x1).1)).1)).1)).1)).2)]) (js := is) (fun _ _ hs => tyEngine_join (x := (⟨(⟨(laws_markStore_m x0.Store x1).2.Segments, x0.Store.Now⟩ : DStore), x0.Cursor, (laws_markIntS_m x0.Order ((laws_markStore_m x0.Store x1).1)).2, (laws_markActiveS_m x0.Active ((laws_markIntS_m x0.Order ((laws_markStore_m x0.Store x1).1)).1)).2, (laws_markFinishedS_m x0.Done ((laws_markActiveS_m x0.Active ((laws_markIntS_m x0.Order ((laws_markStore_m x0.Store x1).1)).1)).1)).2, (laws_markChargeS_m x0.Ledger ((laws_markFinishedS_m x0.Done ((laws_markActiveS_m x0.Active ((laws_markIntS_m x0.Order ((laws_markStore_m x0.Store x1).1)).1)).1)).1)).2, x0.Steps⟩ : DEngine)) hs) ((((((hm.front (n := 0) rfl).front (n := 1) rfl).front (n := 2) rfl).front (n := 3) rfl).front (n := 4) rfl).front (n := 5) rfl).tail

def laws_markQuery_m (x0 : DQuery) (x1 : Int) : (Int × DQuery) :=
 ((laws_markIntS_m x0.Out ((laws_markCondS_m x0.Conds x1).1)).1, (⟨x0.Id, x0.Tenant, (laws_markCondS_m x0.Conds x1).2, (laws_markIntS_m x0.Out ((laws_markCondS_m x0.Conds x1).1)).2⟩ : DQuery))
theorem cb55 : Cb Tryz.prog 55 := ⟨f55, _, func55, rfl, by decide⟩
theorem laws_markQuery_c (B : Nat) (w0 : World) (is : List It) (w : World) (z0 : List Value) (x0 : DQuery) (x1 : Int) (hm : Mem B w0 (iOwn tyQuery z0 x0 :: is) w) :
  Calls Tryz.prog 55 #[.agg z0.toArray, .int .i64 x1] w fun e w' => e = .returned (.int .i64 (laws_markQuery_m x0 x1).1) ∧ Mem B w0 (iOwn tyQuery z0 (laws_markQuery_m x0 x1).2 :: is) w' := by
 refine call_enterW (L := [(0, .agg z0.toArray), (1, .int .i64 x1)]) (N := 14) func55 rfl rfl (Nat.le_of_ble_eq_true rfl) (argsL_cons rfl (argsL_cons rfl argsL_nil)) hm ?_
 refine CM_split (γ := Value × Value) (js := fun g => [iOwn (tSl tyCond 201) [g.1] x0.Conds, iOwn (tSl tInt 3) [g.2] x0.Out]) (C := fun g => z0 = [.int .i64 x0.Id, .int .i64 x0.Tenant, g.1, g.2]) (fun _ _ h => tyQuery_split h) ?_
 rintro ⟨v1, v2⟩ rfl
 refine CM_form (n := 0) rfl ?_
 rintro A3 c4 rfl m5
 refine CM_form (n := 1) rfl ?_
 rintro A7 c8 rfl m9
 refine sr ?_
 refine WM_box rfl (Wd_none rfl) (by decide) (fun p11 => ?_)
 refine wa (nt' (sr ?_))
 refine wv (vf underlying34 rfl type32) ?_
 refine wv (vl 0 2 underlying32) ?_
 refine wm ?_
 let K1 : List Value := [.int .i64 x0.Id, .int .i64 x0.Tenant, .slice A3 x0.Conds.length c4, .slice A7 x0.Out.length c8]
 let I2 : It := iOwn (tSl tInt 3) [.slice A7 x0.Out.length c8] x0.Out
 refine WM_callW (χ := Unit) (val := fun _ => .int .i64 (laws_markCondS_m x0.Conds x1).1) (js := fun _ => (iOwn (tSl tyCond 201) [.slice A3 x0.Conds.length c4] (laws_markCondS_m x0.Conds x1).2 :: (iBox p11 34 K1 :: I2 :: is))) (cl_fn cb146 rfl) (fun W hm => (laws_markCondS_c B w0 (iBox p11 34 K1 :: I2 :: is) W (.slice A3 x0.Conds.length c4) x0.Conds x1 (hm.front (n := 1) rfl)).mono (fun _ _ h => ⟨(), h.1, h.2⟩)) (Wd_none rfl) (by decide) (fun _ => ?_)
 refine wa (nt' (sr ?_))
 refine wv (vf underlying34 rfl type25) ?_
 refine wv (vl 1 3 underlying25) ?_
 refine wm ?_
 let I3 : It := iOwn (tSl tyCond 201) [.slice A3 x0.Conds.length c4] ((laws_markCondS_m x0.Conds x1).2)
 refine WM_callW (χ := Unit) (val := fun _ => .int .i64 (laws_markIntS_m x0.Out ((laws_markCondS_m x0.Conds x1).1)).1) (js := fun _ => (iOwn (tSl tInt 3) [.slice A7 x0.Out.length c8] (laws_markIntS_m x0.Out ((laws_markCondS_m x0.Conds x1).1)).2 :: (I3 :: iBox p11 34 K1 :: is))) (cl_fn cb50 rfl) (fun W hm => (laws_markIntS_c B w0 (I3 :: iBox p11 34 K1 :: is) W (.slice A7 x0.Out.length c8) x0.Out ((laws_markCondS_m x0.Conds x1).1) (hm.front (n := 2) rfl)).mono (fun _ _ h => ⟨(), h.1, h.2⟩)) (Wd_none rfl) (by decide) (fun _ => ?_)
 refine wa (nt' (sr (wm (wa (nt' (CM_ret ?_))))))
 refine QM_rW rfl rfl (fun W hm => ⟨?_, ?_⟩)
 ·rw [(show laws_markQuery_m x0 x1 = ((laws_markIntS_m x0.Out ((laws_markCondS_m x0.Conds x1).1)).1, (⟨x0.Id, x0.Tenant, (laws_markCondS_m x0.Conds x1).2, (laws_markIntS_m x0.Out ((laws_markCondS_m x0.Conds x1).1)).2⟩ : DQuery)) from by unfold laws_markQuery_m; exact rfl)]
 ·rw [(show laws_markQuery_m x0 x1 = ((laws_markIntS_m x0.Out ((laws_markCondS_m x0.Conds x1).1)).1, (⟨x0.Id, x0.Tenant, (laws_markCondS_m x0.Conds x1).2, (laws_markIntS_m x0.Out ((laws_markCondS_m x0.Conds x1).1)).2⟩ : DQuery)) from by unfold laws_markQuery_m; exact rfl)]; exact Mem.join (is := [I3, iOwn (tSl tInt 3) [.slice A7 x0.Out.length c8] ((laws_markIntS_m x0.Out ((laws_markCondS_m x0.Conds x1).1)).2)]) (js := is) (fun _ _ hs => tyQuery_join (x := (⟨x0.Id, x0.Tenant, (laws_markCondS_m x0.Conds x1).2, (laws_markIntS_m x0.Out ((laws_markCondS_m x0.Conds x1).1)).2⟩ : DQuery)) hs) (((hm.front (n := 0) rfl).front (n := 1) rfl).front (n := 2) rfl).tail

def laws_markFinished_m (x0 : DFinished) (x1 : Int) : (Int × DFinished) :=
 ((laws_markRowS_m x0.Rows ((laws_markQuery_m x0.Query x1).1)).1, (⟨(⟨x0.Query.Id, x0.Query.Tenant, (laws_markQuery_m x0.Query x1).2.Conds, (laws_markQuery_m x0.Query x1).2.Out⟩ : DQuery), x0.Time, x0.Steps, (laws_markRowS_m x0.Rows ((laws_markQuery_m x0.Query x1).1)).2⟩ : DFinished))
theorem cb21 : Cb Tryz.prog 21 := ⟨f21, _, func21, rfl, by decide⟩
theorem laws_markFinished_c (B : Nat) (w0 : World) (is : List It) (w : World) (z0 : List Value) (x0 : DFinished) (x1 : Int) (hm : Mem B w0 (iOwn tyFinished z0 x0 :: is) w) :
  Calls Tryz.prog 21 #[.agg z0.toArray, .int .i64 x1] w fun e w' => e = .returned (.int .i64 (laws_markFinished_m x0 x1).1) ∧ Mem B w0 (iOwn tyFinished z0 (laws_markFinished_m x0 x1).2 :: is) w' := by
 refine call_enterW (L := [(0, .agg z0.toArray), (1, .int .i64 x1)]) (N := 14) func21 rfl rfl (Nat.le_of_ble_eq_true rfl) (argsL_cons rfl (argsL_cons rfl argsL_nil)) hm ?_
 refine CM_split (γ := Value × Value × Value) (js := fun g => [iOwn (tSl tyCond 201) [g.1] x0.Query.Conds, iOwn (tSl tInt 3) [g.2.1] x0.Query.Out, iOwn (tSl tyRow 73) [g.2.2] x0.Rows]) (C := fun g => z0 = [.int .i64 x0.Query.Id, .int .i64 x0.Query.Tenant, g.1, g.2.1, .int .i64 x0.Time, .int .i64 x0.Steps, g.2.2]) (fun _ _ h => tyFinished_split h) ?_
 rintro ⟨v1, v2, v3⟩ rfl
 refine CM_form (n := 0) rfl ?_
 rintro A4 c5 rfl m6
 refine CM_form (n := 1) rfl ?_
 rintro A8 c9 rfl m10
 refine CM_form (n := 2) rfl ?_
 rintro A12 c13 rfl m14
 refine sr ?_
 refine WM_box rfl (Wd_none rfl) (by decide) (fun p16 => ?_)
 refine wa (nt' (sr ?_))
 refine wv (vf underlying37 rfl type34) ?_
 let K1 : List Value := [.int .i64 x0.Query.Id, .int .i64 x0.Query.Tenant, .slice A4 x0.Query.Conds.length c5, .slice A8 x0.Query.Out.length c9]
 refine wv (fun W hm => rv_loadN (cs := K1) underlying34 type34 rfl rfl (hm.boxPart (n := 0) rfl rfl)) ?_
 refine wm ?_
 let K2 : List Value := [.int .i64 x0.Query.Id, .int .i64 x0.Query.Tenant, .slice A4 x0.Query.Conds.length c5, .slice A8 x0.Query.Out.length c9, .int .i64 x0.Time, .int .i64 x0.Steps, .slice A12 x0.Rows.length c13]
 let I3 : It := iOwn (tSl tyRow 73) [.slice A12 x0.Rows.length c13] x0.Rows
 refine WM_items (js := (iOwn tyQuery K1 x0.Query :: (iBox p16 37 K2 :: I3 :: is))) (fun W hm => Mem.join (is := [iOwn (tSl tyCond 201) [.slice A4 x0.Query.Conds.length c5] x0.Query.Conds, iOwn (tSl tInt 3) [.slice A8 x0.Query.Out.length c9] x0.Query.Out]) (js := (iBox p16 37 K2 :: I3 :: is)) (fun _ _ hs => tyQuery_join (x := x0.Query) hs) ((hm.front (n := 2) rfl).front (n := 2) rfl)) ?_
 refine WM_callW (χ := Unit) (val := fun _ => .int .i64 (laws_markQuery_m x0.Query x1).1) (js := fun _ => (iOwn tyQuery K1 (laws_markQuery_m x0.Query x1).2 :: (iBox p16 37 K2 :: I3 :: is))) (cl_fn cb55 rfl) (fun W hm => (laws_markQuery_c B w0 (iBox p16 37 K2 :: I3 :: is) W K1 x0.Query x1 hm).mono (fun _ _ h => ⟨(), h.1, h.2⟩)) (Wd_none rfl) (by decide) (fun _ => ?_)
 refine tyQuery_sp ?_
 rintro ⟨v18, v19⟩ h17
 simp +zetaDelta only [List.cons.injEq] at h17
 obtain ⟨-, -, rfl, rfl, -⟩ := h17
 refine wa (nt' (sr ?_))
 refine wv (vf underlying37 rfl type35) ?_
 refine wv (vl 2 6 underlying35) ?_
 refine wm ?_
 let I4 : It := iOwn (tSl tyCond 201) [.slice A4 x0.Query.Conds.length c5] ((laws_markQuery_m x0.Query x1).2.Conds)
 let I5 : It := iOwn (tSl tInt 3) [.slice A8 x0.Query.Out.length c9] ((laws_markQuery_m x0.Query x1).2.Out)
 refine WM_callW (χ := Unit) (val := fun _ => .int .i64 (laws_markRowS_m x0.Rows ((laws_markQuery_m x0.Query x1).1)).1) (js := fun _ => (iOwn (tSl tyRow 73) [.slice A12 x0.Rows.length c13] (laws_markRowS_m x0.Rows ((laws_markQuery_m x0.Query x1).1)).2 :: (I4 :: I5 :: iBox p16 37 K2 :: is))) (cl_fn cb96 rfl) (fun W hm => (laws_markRowS_c B w0 (I4 :: I5 :: iBox p16 37 K2 :: is) W (.slice A12 x0.Rows.length c13) x0.Rows ((laws_markQuery_m x0.Query x1).1) (hm.front (n := 3) rfl)).mono (fun _ _ h => ⟨(), h.1, h.2⟩)) (Wd_none rfl) (by decide) (fun _ => ?_)
 refine wa (nt' (sr (wm (wa (nt' (CM_ret ?_))))))
 refine QM_rW rfl rfl (fun W hm => ⟨?_, ?_⟩)
 ·rw [(show laws_markFinished_m x0 x1 = ((laws_markRowS_m x0.Rows ((laws_markQuery_m x0.Query x1).1)).1, (⟨(⟨x0.Query.Id, x0.Query.Tenant, (laws_markQuery_m x0.Query x1).2.Conds, (laws_markQuery_m x0.Query x1).2.Out⟩ : DQuery), x0.Time, x0.Steps, (laws_markRowS_m x0.Rows ((laws_markQuery_m x0.Query x1).1)).2⟩ : DFinished)) from by unfold laws_markFinished_m; exact rfl)]
 ·rw [(show laws_markFinished_m x0 x1 = ((laws_markRowS_m x0.Rows ((laws_markQuery_m x0.Query x1).1)).1, (⟨(⟨x0.Query.Id, x0.Query.Tenant, (laws_markQuery_m x0.Query x1).2.Conds, (laws_markQuery_m x0.Query x1).2.Out⟩ : DQuery), x0.Time, x0.Steps, (laws_markRowS_m x0.Rows ((laws_markQuery_m x0.Query x1).1)).2⟩ : DFinished)) from by unfold laws_markFinished_m; exact rfl)]; exact Mem.join (is := [I4, I5, iOwn (tSl tyRow 73) [.slice A12 x0.Rows.length c13] ((laws_markRowS_m x0.Rows ((laws_markQuery_m x0.Query x1).1)).2)]) (js := is) (fun _ _ hs => tyFinished_join (x := (⟨(⟨x0.Query.Id, x0.Query.Tenant, (laws_markQuery_m x0.Query x1).2.Conds, (laws_markQuery_m x0.Query x1).2.Out⟩ : DQuery), x0.Time, x0.Steps, (laws_markRowS_m x0.Rows ((laws_markQuery_m x0.Query x1).1)).2⟩ : DFinished)) hs) ((((hm.front (n := 0) rfl).front (n := 2) rfl).front (n := 2) rfl).front (n := 3) rfl).tail

def laws_heldCondS_b1 (x0 : (List DCond)) (k6 : Nat) (s7 : Int) : Int ⊕ (Int) :=
 cond (((gt x0 k6).Field) != s7) (Sum.inl (-1)) (cond (((gt x0 k6).Low) != (IntKind.i64.wrap (s7 + 1))) (Sum.inl (-1)) (cond (((gt x0 k6).High) != (IntKind.i64.wrap ((IntKind.i64.wrap (s7 + 1)) + 1))) (Sum.inl (-1)) (Sum.inr (IntKind.i64.wrap ((IntKind.i64.wrap ((IntKind.i64.wrap (s7 + 1)) + 1)) + 1)))))
def laws_heldCondS_m (x0 : (List DCond)) (x1 : Int) : Int :=
 Sum.elim id (fun (s : Int) => s) (rng (R := Int) (fun k (s : Int) => laws_heldCondS_b1 x0 k s) (x0.length - 0) 0 x1)
theorem cb171 : Cb Tryz.prog 171 := ⟨f171, _, func171, rfl, by decide⟩
theorem laws_heldCondS_c (w : World) (z0 : Value) (x0 : (List DCond)) (x1 : Int) (r_0 : rdS tyCond w w.heap.size z0 x0) :
  Calls Tryz.prog 171 #[z0, .int .i64 x1] w fun e w' => e = .returned (.int .i64 (laws_heldCondS_m x0 x1)) ∧ Below w.heap.size w w' := by
 have r5 := r_0
 obtain ⟨m1, A2, c3, rfl, q4⟩ := r_0
 refine ce2 (L := [(0, .slice A2 x0.length c3), (1, .int .i64 x1)]) (N := 40) func171 ?_
 refine sr (wa (nt' (CM_seq (sr (wa (nt' (CM_block ?_)))))))
 let F1 := fun k (s : Int) => laws_heldCondS_b1 x0 k s
 let R2 := rng (R := Int) F1
 refine CM_loop (σ := Nat × (Int) × (Unit)) (fun s => [(0, .slice A2 x0.length c3), (1, .int .i64 s.2.1), (5, .int .i64 ((s.1 : Nat) : Int))]) (fun s => []) (fun s => s.1 ≤ x0.length ∧ R2 (x0.length - s.1) s.1 s.2.1 = R2 (x0.length - 0) 0 x1) (fun s => x0.length - s.1) (0, x1, ()) sl3 (fun W hm => hm) ⟨(by omega), rfl⟩ ?_
 rintro ⟨k6, s7, ⟨⟩⟩ H10
 obtain ⟨hk8, hF9⟩ : k6 ≤ x0.length ∧ R2 (x0.length - k6) k6 s7 = R2 (x0.length - 0) 0 x1 := H10
 show CM Tryz.prog 40 _ _ _ _ [(0, .slice A2 x0.length c3), (1, .int .i64 s7), (5, .int .i64 ((k6 : Nat) : Int))] []
 refine CM_seq (sr (wm (wm ?_)))
 refine wv (vlen underlying32) ?_
 refine wv vlss ?_
 refine nt' ?_
 by_cases hl11 : k6 < x0.length
 ·have g12 : (decide (((k6 : Nat) : Int) < ((x0.length : Nat) : Int))) = true := decide_eq_true (by omega)
  refine CM_condT rfl g12 ?_
  refine CM_skip (QM_then (CM_seq (CM_block (CM_seq (sr (wm (wm ?_)))))))
  obtain ⟨a13, rfl, hb14, he15⟩ := q4 (by omega)
  refine wv (vix 3 k6 underlying32 type201) ?_
  refine wv (vf underlying201 rfl type3) ?_
  obtain ⟨_, e17, hc16⟩ := he15 k6 _ (gt_some (show k6 < x0.length from by omega))
  obtain rfl := tyCond_rd e17
  refine wv (fun W hm => rv_load underlying3 rfl rfl ((hm.cell0 (show ((a13.add (k6 * 3)).add 0).block < w.heap.size from by rw [add_block, add_block]; exact hb14.1)).trans (hc16 0 _ rfl))) ?_
  refine wm ?_
  refine wv vneq ?_
  refine nt' ?_
  by_cases h18 : ((gt x0 k6).Field) = s7
  ·have g19 : (((gt x0 k6).Field) != s7) = false := by rw [h18]; exact bne_self_eq_false _
   refine CM_condF rfl g19 ?_
   refine CM_skip (QM_then (sr (wm ?_)))
   refine wv vadd ?_
   refine wa (nt' (CM_seq (sr (wm (wm ?_)))))
   refine wv (vix 3 k6 underlying32 type201) ?_
   refine wv (vf underlying201 rfl type3) ?_
   refine wv (fun W hm => rv_load underlying3 rfl rfl ((hm.cell0 (show ((a13.add (k6 * 3)).add 1).block < w.heap.size from by rw [add_block, add_block]; exact hb14.1)).trans (hc16 1 _ rfl))) ?_
   refine wm ?_
   refine wv vneq ?_
   refine nt' ?_
   by_cases h20 : ((gt x0 k6).Low) = (IntKind.i64.wrap (s7 + 1))
   ·have g21 : (((gt x0 k6).Low) != (IntKind.i64.wrap (s7 + 1))) = false := by rw [h20]; exact bne_self_eq_false _
    refine CM_condF rfl g21 ?_
    refine CM_skip (QM_then (sr (wm ?_)))
    refine wv vadd ?_
    refine wa (nt' (CM_seq (sr (wm (wm ?_)))))
    refine wv (vix 3 k6 underlying32 type201) ?_
    refine wv (vf underlying201 rfl type3) ?_
    refine wv (fun W hm => rv_load underlying3 rfl rfl ((hm.cell0 (show ((a13.add (k6 * 3)).add 2).block < w.heap.size from by rw [add_block, add_block]; exact hb14.1)).trans (hc16 2 _ rfl))) ?_
    refine wm ?_
    refine wv vneq ?_
    refine nt' ?_
    by_cases h22 : ((gt x0 k6).High) = (IntKind.i64.wrap ((IntKind.i64.wrap (s7 + 1)) + 1))
    ·have g23 : (((gt x0 k6).High) != (IntKind.i64.wrap ((IntKind.i64.wrap (s7 + 1)) + 1))) = false := by rw [h22]; exact bne_self_eq_false _
     refine CM_condF rfl g23 ?_
     refine CM_skip (QM_then (CM_region (wm ?_)))
     refine wv vadd ?_
     refine wa (WM_nil (QM_block_normal (QM_then (CM_region (wm ?_)))))
     refine wv (vadN k6 1 (by omega)) ?_
     refine wa (WM_nil ?_)
     have hn24 := rng_next (R := Int) (body := F1) (k := k6) (s := s7) (s' := (IntKind.i64.wrap ((IntKind.i64.wrap ((IntKind.i64.wrap (s7 + 1)) + 1)) + 1))) (show k6 < x0.length from by omega) (show laws_heldCondS_b1 x0 k6 s7 = Sum.inr (IntKind.i64.wrap ((IntKind.i64.wrap ((IntKind.i64.wrap (s7 + 1)) + 1)) + 1)) from by unfold laws_heldCondS_b1; exact cond_f g19 (cond_f g21 (cond_f g23 (rfl)))) hF9
     exact QM_round (k6 + 1, (IntKind.i64.wrap ((IntKind.i64.wrap ((IntKind.i64.wrap (s7 + 1)) + 1)) + 1)), ()) sl3 (fun W hm => hm) ⟨(by omega), hn24⟩ (rl (by omega))
    ·have g23 : (((gt x0 k6).High) != (IntKind.i64.wrap ((IntKind.i64.wrap (s7 + 1)) + 1))) = true := bne_iff_ne.2 h22
     refine CM_condT rfl g23 ?_
     refine sr (wa (nt' (CM_ret (QM_then_ret (QM_block_ret (QM_then_ret (QM_then_ret (QM_block_ret (QM_then_ret ?_)))))))))
     exact rti (h := by unfold laws_heldCondS_m; exact fin_inl (rng_ret (body := F1) (k := k6) (s := s7) (show k6 < x0.length from by omega) (show laws_heldCondS_b1 x0 k6 s7 = Sum.inl (-1) from by unfold laws_heldCondS_b1; exact cond_f g19 (cond_f g21 (cond_t g23 (rfl)))) hF9) rfl)
   ·have g21 : (((gt x0 k6).Low) != (IntKind.i64.wrap (s7 + 1))) = true := bne_iff_ne.2 h20
    refine CM_condT rfl g21 ?_
    refine sr (wa (nt' (CM_ret (QM_then_ret (QM_block_ret (QM_then_ret (QM_then_ret (QM_block_ret (QM_then_ret ?_)))))))))
    exact rti (h := by unfold laws_heldCondS_m; exact fin_inl (rng_ret (body := F1) (k := k6) (s := s7) (show k6 < x0.length from by omega) (show laws_heldCondS_b1 x0 k6 s7 = Sum.inl (-1) from by unfold laws_heldCondS_b1; exact cond_f g19 (cond_t g21 (rfl))) hF9) rfl)
  ·have g19 : (((gt x0 k6).Field) != s7) = true := bne_iff_ne.2 h18
   refine CM_condT rfl g19 ?_
   refine sr (wa (nt' (CM_ret (QM_then_ret (QM_block_ret (QM_then_ret (QM_then_ret (QM_block_ret (QM_then_ret ?_)))))))))
   exact rti (h := by unfold laws_heldCondS_m; exact fin_inl (rng_ret (body := F1) (k := k6) (s := s7) (show k6 < x0.length from by omega) (show laws_heldCondS_b1 x0 k6 s7 = Sum.inl (-1) from by unfold laws_heldCondS_b1; exact cond_t g19 (rfl)) hF9) rfl)
 ·have g12 : (decide (((k6 : Nat) : Int) < ((x0.length : Nat) : Int))) = false := decide_eq_false (by omega)
  refine CM_condF rfl g12 ?_
  refine CM_exit (QM_then_exit (QM_then_exit ?_))
  have hE25 : R2 (x0.length - 0) 0 x1 = Sum.inr s7 := rng_end hl11 hF9
  refine QM_block_hit (QM_then (sr (wm (wa (nt' (CM_ret ?_))))))
  exact rti (h := by unfold laws_heldCondS_m; exact fin_inr hE25 (rfl))

def laws_heldIntS_b1 (x0 : (List Int)) (k6 : Nat) (s7 : Int) : Int ⊕ (Int) :=
 cond ((gt x0 k6) != s7) (Sum.inl (-1)) (Sum.inr (IntKind.i64.wrap (s7 + 1)))
def laws_heldIntS_m (x0 : (List Int)) (x1 : Int) : Int :=
 Sum.elim id (fun (s : Int) => s) (rng (R := Int) (fun k (s : Int) => laws_heldIntS_b1 x0 k s) (x0.length - 0) 0 x1)
theorem cb139 : Cb Tryz.prog 139 := ⟨f139, _, func139, rfl, by decide⟩
theorem laws_heldIntS_c (w : World) (z0 : Value) (x0 : (List Int)) (x1 : Int) (r_0 : rdS tInt w w.heap.size z0 x0) :
  Calls Tryz.prog 139 #[z0, .int .i64 x1] w fun e w' => e = .returned (.int .i64 (laws_heldIntS_m x0 x1)) ∧ Below w.heap.size w w' := by
 have r5 := r_0
 obtain ⟨m1, A2, c3, rfl, q4⟩ := r_0
 refine ce2 (L := [(0, .slice A2 x0.length c3), (1, .int .i64 x1)]) (N := 21) func139 ?_
 refine sr (wa (nt' (CM_seq (sr (wa (nt' (CM_block ?_)))))))
 let F1 := fun k (s : Int) => laws_heldIntS_b1 x0 k s
 let R2 := rng (R := Int) F1
 refine CM_loop (σ := Nat × (Int) × (Unit)) (fun s => [(0, .slice A2 x0.length c3), (1, .int .i64 s.2.1), (5, .int .i64 ((s.1 : Nat) : Int))]) (fun s => []) (fun s => s.1 ≤ x0.length ∧ R2 (x0.length - s.1) s.1 s.2.1 = R2 (x0.length - 0) 0 x1) (fun s => x0.length - s.1) (0, x1, ()) sl3 (fun W hm => hm) ⟨(by omega), rfl⟩ ?_
 rintro ⟨k6, s7, ⟨⟩⟩ H10
 obtain ⟨hk8, hF9⟩ : k6 ≤ x0.length ∧ R2 (x0.length - k6) k6 s7 = R2 (x0.length - 0) 0 x1 := H10
 show CM Tryz.prog 21 _ _ _ _ [(0, .slice A2 x0.length c3), (1, .int .i64 s7), (5, .int .i64 ((k6 : Nat) : Int))] []
 refine CM_seq (sr (wm (wm ?_)))
 refine wv (vlen underlying25) ?_
 refine wv vlss ?_
 refine nt' ?_
 by_cases hl11 : k6 < x0.length
 ·have g12 : (decide (((k6 : Nat) : Int) < ((x0.length : Nat) : Int))) = true := decide_eq_true (by omega)
  refine CM_condT rfl g12 ?_
  refine CM_skip (QM_then (CM_seq (CM_block (CM_seq (sr (wm (wm ?_)))))))
  obtain ⟨a13, rfl, hb14, he15⟩ := q4 (by omega)
  refine wv (vix 1 k6 underlying25 type3) ?_
  refine wv (fun W hm => rv_load underlying3 rfl rfl ((hm.cell0 (show (a13.add (k6 * 1)).block < w.heap.size from by rw [add_block]; exact hb14.1)).trans (rdS_int he15 k6 (by omega)))) ?_
  refine wm ?_
  refine wv vneq ?_
  refine nt' ?_
  by_cases h16 : (gt x0 k6) = s7
  ·have g17 : ((gt x0 k6) != s7) = false := by rw [h16]; exact bne_self_eq_false _
   refine CM_condF rfl g17 ?_
   refine CM_skip (QM_then (CM_region (wm ?_)))
   refine wv vadd ?_
   refine wa (WM_nil (QM_block_normal (QM_then (CM_region (wm ?_)))))
   refine wv (vadN k6 1 (by omega)) ?_
   refine wa (WM_nil ?_)
   have hn18 := rng_next (R := Int) (body := F1) (k := k6) (s := s7) (s' := (IntKind.i64.wrap (s7 + 1))) (show k6 < x0.length from by omega) (show laws_heldIntS_b1 x0 k6 s7 = Sum.inr (IntKind.i64.wrap (s7 + 1)) from by unfold laws_heldIntS_b1; exact cond_f g17 (rfl)) hF9
   exact QM_round (k6 + 1, (IntKind.i64.wrap (s7 + 1)), ()) sl3 (fun W hm => hm) ⟨(by omega), hn18⟩ (rl (by omega))
  ·have g17 : ((gt x0 k6) != s7) = true := bne_iff_ne.2 h16
   refine CM_condT rfl g17 ?_
   refine sr (wa (nt' (CM_ret (QM_then_ret (QM_block_ret (QM_then_ret (QM_then_ret (QM_block_ret (QM_then_ret ?_)))))))))
   exact rti (h := by unfold laws_heldIntS_m; exact fin_inl (rng_ret (body := F1) (k := k6) (s := s7) (show k6 < x0.length from by omega) (show laws_heldIntS_b1 x0 k6 s7 = Sum.inl (-1) from by unfold laws_heldIntS_b1; exact cond_t g17 (rfl)) hF9) rfl)
 ·have g12 : (decide (((k6 : Nat) : Int) < ((x0.length : Nat) : Int))) = false := decide_eq_false (by omega)
  refine CM_condF rfl g12 ?_
  refine CM_exit (QM_then_exit (QM_then_exit ?_))
  have hE19 : R2 (x0.length - 0) 0 x1 = Sum.inr s7 := rng_end hl11 hF9
  refine QM_block_hit (QM_then (sr (wm (wa (nt' (CM_ret ?_))))))
  exact rti (h := by unfold laws_heldIntS_m; exact fin_inr hE19 (rfl))

def laws_heldQuery_m (x0 : DQuery) (x1 : Int) : Int :=
 cond (decide ((laws_heldCondS_m x0.Conds x1) < 0)) (-1) (cond (decide ((laws_heldIntS_m x0.Out (laws_heldCondS_m x0.Conds x1)) < 0)) (-1) (laws_heldIntS_m x0.Out (laws_heldCondS_m x0.Conds x1)))
theorem cb97 : Cb Tryz.prog 97 := ⟨f97, _, func97, rfl, by decide⟩
theorem laws_heldQuery_c (w : World) (z0 : List Value) (x0 : DQuery) (x1 : Int) (r_0 : tyQuery.rd w w.heap.size z0 x0) :
  Calls Tryz.prog 97 #[.agg z0.toArray, .int .i64 x1] w fun e w' => e = .returned (.int .i64 (laws_heldQuery_m x0 x1)) ∧ Below w.heap.size w w' := by
 obtain ⟨v1, v3, rfl, r2, r4⟩ := tyQuery_rd r_0
 have r9 := r2
 obtain ⟨m5, A6, c7, rfl, q8⟩ := r2
 have r14 := r4
 obtain ⟨m10, A11, c12, rfl, q13⟩ := r4
 refine ce2 (L := [(0, .agg #[.int .i64 x0.Id, .int .i64 x0.Tenant, .slice A6 x0.Conds.length c7, .slice A11 x0.Out.length c12]), (1, .int .i64 x1)]) (N := 18) func97 ?_
 refine sr ?_
 refine WM_box rfl (Wd_none rfl) (by decide) (fun p15 => ?_)
 refine wa (nt' (sr ?_))
 refine wv (vf underlying34 rfl type32) ?_
 refine wv (vl 0 2 underlying32) ?_
 refine wm ?_
 refine wcv (cl_fn cb171 rfl) (fun W hm => laws_heldCondS_c W _ x0.Conds x1 (hm.rdS0 r9)) ?_
 refine wa (nt' (CM_seq (sr (wm ?_))))
 refine wv vlss ?_
 refine nt' ?_
 by_cases h16 : (laws_heldCondS_m x0.Conds x1) < 0
 ·have g17 : (decide ((laws_heldCondS_m x0.Conds x1) < 0)) = true := decide_eq_true h16
  refine CM_condT rfl g17 ?_
  refine sr (wa (nt' (CM_ret (QM_then_ret ?_))))
  exact rti (h := by unfold laws_heldQuery_m; exact cond_t g17 (rfl))
 ·have g17 : (decide ((laws_heldCondS_m x0.Conds x1) < 0)) = false := decide_eq_false h16
  refine CM_condF rfl g17 ?_
  refine CM_skip (QM_then (sr ?_))
  refine wv (vf underlying34 rfl type25) ?_
  refine wv (vl 0 3 underlying25) ?_
  refine wm ?_
  refine wcv (cl_fn cb139 rfl) (fun W hm => laws_heldIntS_c W _ x0.Out (laws_heldCondS_m x0.Conds x1) (hm.rdS0 r14)) ?_
  refine wa (nt' (CM_seq (sr (wm ?_))))
  refine wv vlss ?_
  refine nt' ?_
  by_cases h18 : (laws_heldIntS_m x0.Out (laws_heldCondS_m x0.Conds x1)) < 0
  ·have g19 : (decide ((laws_heldIntS_m x0.Out (laws_heldCondS_m x0.Conds x1)) < 0)) = true := decide_eq_true h18
   refine CM_condT rfl g19 ?_
   refine sr (wa (nt' (CM_ret (QM_then_ret ?_))))
   exact rti (h := by unfold laws_heldQuery_m; exact cond_f g17 (cond_t g19 (rfl)))
  ·have g19 : (decide ((laws_heldIntS_m x0.Out (laws_heldCondS_m x0.Conds x1)) < 0)) = false := decide_eq_false h18
   refine CM_condF rfl g19 ?_
   refine CM_skip (QM_then (sr (wm (wa (nt' (CM_ret ?_))))))
   exact rti (h := by unfold laws_heldQuery_m; exact cond_f g17 (cond_f g19 (rfl)))

def laws_heldRowS_b1 (x0 : (List DRow)) (k6 : Nat) (s7 : Int) : Int ⊕ (Int) :=
 cond (((gt x0 k6).Id) != s7) (Sum.inl (-1)) (cond (decide ((laws_heldIntS_m ((gt x0 k6).Values) (IntKind.i64.wrap (s7 + 1))) < 0)) (Sum.inl (-1)) (Sum.inr (laws_heldIntS_m ((gt x0 k6).Values) (IntKind.i64.wrap (s7 + 1)))))
def laws_heldRowS_m (x0 : (List DRow)) (x1 : Int) : Int :=
 Sum.elim id (fun (s : Int) => s) (rng (R := Int) (fun k (s : Int) => laws_heldRowS_b1 x0 k s) (x0.length - 0) 0 x1)
theorem cb98 : Cb Tryz.prog 98 := ⟨f98, _, func98, rfl, by decide⟩
theorem laws_heldRowS_c (w : World) (z0 : Value) (x0 : (List DRow)) (x1 : Int) (r_0 : rdS tyRow w w.heap.size z0 x0) :
  Calls Tryz.prog 98 #[z0, .int .i64 x1] w fun e w' => e = .returned (.int .i64 (laws_heldRowS_m x0 x1)) ∧ Below w.heap.size w w' := by
 have r5 := r_0
 obtain ⟨m1, A2, c3, rfl, q4⟩ := r_0
 refine ce2 (L := [(0, .slice A2 x0.length c3), (1, .int .i64 x1)]) (N := 31) func98 ?_
 refine sr (wa (nt' (CM_seq (sr (wa (nt' (CM_block ?_)))))))
 let F1 := fun k (s : Int) => laws_heldRowS_b1 x0 k s
 let R2 := rng (R := Int) F1
 refine CM_loop (σ := Nat × (Int) × (Unit)) (fun s => [(0, .slice A2 x0.length c3), (1, .int .i64 s.2.1), (5, .int .i64 ((s.1 : Nat) : Int))]) (fun s => []) (fun s => s.1 ≤ x0.length ∧ R2 (x0.length - s.1) s.1 s.2.1 = R2 (x0.length - 0) 0 x1) (fun s => x0.length - s.1) (0, x1, ()) sl3 (fun W hm => hm) ⟨(by omega), rfl⟩ ?_
 rintro ⟨k6, s7, ⟨⟩⟩ H10
 obtain ⟨hk8, hF9⟩ : k6 ≤ x0.length ∧ R2 (x0.length - k6) k6 s7 = R2 (x0.length - 0) 0 x1 := H10
 show CM Tryz.prog 31 _ _ _ _ [(0, .slice A2 x0.length c3), (1, .int .i64 s7), (5, .int .i64 ((k6 : Nat) : Int))] []
 refine CM_seq (sr (wm (wm ?_)))
 refine wv (vlen underlying35) ?_
 refine wv vlss ?_
 refine nt' ?_
 by_cases hl11 : k6 < x0.length
 ·have g12 : (decide (((k6 : Nat) : Int) < ((x0.length : Nat) : Int))) = true := decide_eq_true (by omega)
  refine CM_condT rfl g12 ?_
  refine CM_skip (QM_then (CM_seq (CM_block (CM_seq (sr (wm (wm ?_)))))))
  obtain ⟨a13, rfl, hb14, he15⟩ := q4 (by omega)
  refine wv (vix 2 k6 underlying35 type73) ?_
  refine wv (vf underlying73 rfl type3) ?_
  obtain ⟨_, e19, hc16⟩ := he15 k6 _ (gt_some (show k6 < x0.length from by omega))
  obtain ⟨v17, rfl, r18⟩ := tyRow_rd e19
  have r24 := r18
  obtain ⟨m20, A21, c22, rfl, q23⟩ := r18
  refine wv (fun W hm => rv_load underlying3 rfl rfl ((hm.cell0 (show ((a13.add (k6 * 2)).add 0).block < w.heap.size from by rw [add_block, add_block]; exact hb14.1)).trans (hc16 0 _ rfl))) ?_
  refine wm ?_
  refine wv vneq ?_
  refine nt' ?_
  by_cases h25 : ((gt x0 k6).Id) = s7
  ·have g26 : (((gt x0 k6).Id) != s7) = false := by rw [h25]; exact bne_self_eq_false _
   refine CM_condF rfl g26 ?_
   refine CM_skip (QM_then (sr (wm ?_)))
   refine wv vadd ?_
   refine wa (nt' (sr (wm (wm ?_))))
   refine wv (vix 2 k6 underlying35 type73) ?_
   refine wv (vf underlying73 rfl type25) ?_
   refine wv (fun W hm => rv_load underlying25 rfl rfl ((hm.cell0 (show ((a13.add (k6 * 2)).add 1).block < w.heap.size from by rw [add_block, add_block]; exact hb14.1)).trans (hc16 1 _ rfl))) ?_
   refine wm ?_
   refine wcv (cl_fn cb139 rfl) (fun W hm => laws_heldIntS_c W _ ((gt x0 k6).Values) (IntKind.i64.wrap (s7 + 1)) (hm.rdS0 r24)) ?_
   refine wa (nt' (sr (wm ?_)))
   refine wv vlss ?_
   refine nt' ?_
   by_cases h27 : (laws_heldIntS_m ((gt x0 k6).Values) (IntKind.i64.wrap (s7 + 1))) < 0
   ·have g28 : (decide ((laws_heldIntS_m ((gt x0 k6).Values) (IntKind.i64.wrap (s7 + 1))) < 0)) = true := decide_eq_true h27
    refine CM_condT rfl g28 ?_
    refine sr (wa (nt' (CM_ret (QM_block_ret (QM_then_ret (QM_then_ret (QM_block_ret (QM_then_ret ?_))))))))
    exact rti (h := by unfold laws_heldRowS_m; exact fin_inl (rng_ret (body := F1) (k := k6) (s := s7) (show k6 < x0.length from by omega) (show laws_heldRowS_b1 x0 k6 s7 = Sum.inl (-1) from by unfold laws_heldRowS_b1; exact cond_f g26 (cond_t g28 (rfl))) hF9) rfl)
   ·have g28 : (decide ((laws_heldIntS_m ((gt x0 k6).Values) (IntKind.i64.wrap (s7 + 1))) < 0)) = false := decide_eq_false h27
    refine CM_condF rfl g28 ?_
    refine CM_skip (QM_block_normal (QM_then (CM_region (wm ?_))))
    refine wv (vadN k6 1 (by omega)) ?_
    refine wa (WM_nil ?_)
    have hn29 := rng_next (R := Int) (body := F1) (k := k6) (s := s7) (s' := (laws_heldIntS_m ((gt x0 k6).Values) (IntKind.i64.wrap (s7 + 1)))) (show k6 < x0.length from by omega) (show laws_heldRowS_b1 x0 k6 s7 = Sum.inr (laws_heldIntS_m ((gt x0 k6).Values) (IntKind.i64.wrap (s7 + 1))) from by unfold laws_heldRowS_b1; exact cond_f g26 (cond_f g28 (rfl))) hF9
    exact QM_round (k6 + 1, (laws_heldIntS_m ((gt x0 k6).Values) (IntKind.i64.wrap (s7 + 1))), ()) sl3 (fun W hm => hm) ⟨(by omega), hn29⟩ (rl (by omega))
  ·have g26 : (((gt x0 k6).Id) != s7) = true := bne_iff_ne.2 h25
   refine CM_condT rfl g26 ?_
   refine sr (wa (nt' (CM_ret (QM_then_ret (QM_block_ret (QM_then_ret (QM_then_ret (QM_block_ret (QM_then_ret ?_)))))))))
   exact rti (h := by unfold laws_heldRowS_m; exact fin_inl (rng_ret (body := F1) (k := k6) (s := s7) (show k6 < x0.length from by omega) (show laws_heldRowS_b1 x0 k6 s7 = Sum.inl (-1) from by unfold laws_heldRowS_b1; exact cond_t g26 (rfl)) hF9) rfl)
 ·have g12 : (decide (((k6 : Nat) : Int) < ((x0.length : Nat) : Int))) = false := decide_eq_false (by omega)
  refine CM_condF rfl g12 ?_
  refine CM_exit (QM_then_exit (QM_then_exit ?_))
  have hE30 : R2 (x0.length - 0) 0 x1 = Sum.inr s7 := rng_end hl11 hF9
  refine QM_block_hit (QM_then (sr (wm (wa (nt' (CM_ret ?_))))))
  exact rti (h := by unfold laws_heldRowS_m; exact fin_inr hE30 (rfl))

def laws_heldFinished_m (x0 : DFinished) (x1 : Int) : Int :=
 cond (decide ((laws_heldQuery_m x0.Query x1) < 0)) (-1) (cond (decide ((laws_heldRowS_m x0.Rows (laws_heldQuery_m x0.Query x1)) < 0)) (-1) (laws_heldRowS_m x0.Rows (laws_heldQuery_m x0.Query x1)))
theorem cb22 : Cb Tryz.prog 22 := ⟨f22, _, func22, rfl, by decide⟩
theorem laws_heldFinished_c (w : World) (z0 : List Value) (x0 : DFinished) (x1 : Int) (r_0 : tyFinished.rd w w.heap.size z0 x0) :
  Calls Tryz.prog 22 #[.agg z0.toArray, .int .i64 x1] w fun e w' => e = .returned (.int .i64 (laws_heldFinished_m x0 x1)) ∧ Below w.heap.size w w' := by
 obtain ⟨v1, v3, v5, rfl, r2, r4, r6⟩ := tyFinished_rd r_0
 have r11 := r2
 obtain ⟨m7, A8, c9, rfl, q10⟩ := r2
 have r16 := r4
 obtain ⟨m12, A13, c14, rfl, q15⟩ := r4
 have r21 := r6
 obtain ⟨m17, A18, c19, rfl, q20⟩ := r6
 refine ce2 (L := [(0, .agg #[.int .i64 x0.Query.Id, .int .i64 x0.Query.Tenant, .slice A8 x0.Query.Conds.length c9, .slice A13 x0.Query.Out.length c14, .int .i64 x0.Time, .int .i64 x0.Steps, .slice A18 x0.Rows.length c19]), (1, .int .i64 x1)]) (N := 18) func22 ?_
 refine sr ?_
 refine WM_box rfl (Wd_none rfl) (by decide) (fun p22 => ?_)
 refine wa (nt' (sr ?_))
 refine wv (vf underlying37 rfl type34) ?_
 refine wv (fun W hm => rv_loadN (cs := [.int .i64 x0.Query.Id, .int .i64 x0.Query.Tenant, .slice A8 x0.Query.Conds.length c9, .slice A13 x0.Query.Out.length c14]) underlying34 type34 rfl rfl (hm.boxPart (n := 0) rfl rfl)) ?_
 refine wm ?_
 refine wcv (cl_fn cb97 rfl) (fun W hm => laws_heldQuery_c W _ x0.Query x1 (tyQuery_mk (x := x0.Query) (hm.rdS0 r11) (hm.rdS0 r16))) ?_
 refine wa (nt' (CM_seq (sr (wm ?_))))
 refine wv vlss ?_
 refine nt' ?_
 by_cases h23 : (laws_heldQuery_m x0.Query x1) < 0
 ·have g24 : (decide ((laws_heldQuery_m x0.Query x1) < 0)) = true := decide_eq_true h23
  refine CM_condT rfl g24 ?_
  refine sr (wa (nt' (CM_ret (QM_then_ret ?_))))
  exact rti (h := by unfold laws_heldFinished_m; exact cond_t g24 (rfl))
 ·have g24 : (decide ((laws_heldQuery_m x0.Query x1) < 0)) = false := decide_eq_false h23
  refine CM_condF rfl g24 ?_
  refine CM_skip (QM_then (sr ?_))
  refine wv (vf underlying37 rfl type35) ?_
  refine wv (vl 0 6 underlying35) ?_
  refine wm ?_
  refine wcv (cl_fn cb98 rfl) (fun W hm => laws_heldRowS_c W _ x0.Rows (laws_heldQuery_m x0.Query x1) (hm.rdS0 r21)) ?_
  refine wa (nt' (CM_seq (sr (wm ?_))))
  refine wv vlss ?_
  refine nt' ?_
  by_cases h25 : (laws_heldRowS_m x0.Rows (laws_heldQuery_m x0.Query x1)) < 0
  ·have g26 : (decide ((laws_heldRowS_m x0.Rows (laws_heldQuery_m x0.Query x1)) < 0)) = true := decide_eq_true h25
   refine CM_condT rfl g26 ?_
   refine sr (wa (nt' (CM_ret (QM_then_ret ?_))))
   exact rti (h := by unfold laws_heldFinished_m; exact cond_f g24 (cond_t g26 (rfl)))
  ·have g26 : (decide ((laws_heldRowS_m x0.Rows (laws_heldQuery_m x0.Query x1)) < 0)) = false := decide_eq_false h25
   refine CM_condF rfl g26 ?_
   refine CM_skip (QM_then (sr (wm (wa (nt' (CM_ret ?_))))))
   exact rti (h := by unfold laws_heldFinished_m; exact cond_f g24 (cond_f g26 (rfl)))

end Go.Proofs.YtmikmbmdibabmaaGreat
