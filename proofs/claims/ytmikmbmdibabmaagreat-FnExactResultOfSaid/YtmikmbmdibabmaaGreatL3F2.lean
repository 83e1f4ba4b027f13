/-
  Contracts of functions, printed by a program of ours.
-/
import Derived.Test.YtmikmbmdibabmaaGreatL3F1
namespace Go.Proofs.YtmikmbmdibabmaaGreat
open Go.RowKit
set_option maxRecDepth 100000
set_option maxHeartbeats 4000000
open _root_.Go.Proofs.Tryz
def spec_l9Active_m (x0 : DEngine) (x1 : DActive) : Bool :=
 cond (spec_IsQuery_m x1.Query) (cond (spec_l1In_m x1.Time 0 x0.Store.Now) (cond (spec_l9Todo_m x1.Todo ((x0.Store.Segments.length : Nat) : Int)) (cond (spec_l1In_m x1.Age 0 100000) (cond (spec_l1In_m x1.Sent 0 1000) (cond (spec_l1In_m x1.Cap 0 32) (spec_l9List_m x1.Rows) false) false) false) false) false) false
theorem cb152 : Cb Tryz.prog 152 := ⟨f152, _, func152, rfl, by decide⟩
theorem spec_l9Active_c (w : World) (z0 : List Value) (x0 : DEngine) (z1 : List Value) (x1 : DActive) (r_0 : tyEngine.rd w w.heap.size z0 x0) (r_1 : tyActive.rd w w.heap.size z1 x1) :
  Calls Tryz.prog 152 #[.agg z0.toArray, .agg z1.toArray] w fun e w' => e = .returned (.bool (spec_l9Active_m x0 x1)) ∧ Below w.heap.size w w' := by
 obtain ⟨v1, v3, v5, v7, v9, rfl, r2, r4, r6, r8, r10⟩ := tyEngine_rd r_0
 have r15 := r2
 obtain ⟨m11, A12, c13, rfl, q14⟩ := r2
 have r20 := r4
 obtain ⟨m16, A17, c18, rfl, q19⟩ := r4
 have r25 := r6
 obtain ⟨m21, A22, c23, rfl, q24⟩ := r6
 have r30 := r8
 obtain ⟨m26, A27, c28, rfl, q29⟩ := r8
 have r35 := r10
 obtain ⟨m31, A32, c33, rfl, q34⟩ := r10
 obtain ⟨v36, v38, v40, v42, rfl, r37, r39, r41, r43⟩ := tyActive_rd r_1
 have r48 := r37
 obtain ⟨m44, A45, c46, rfl, q47⟩ := r37
 have r53 := r39
 obtain ⟨m49, A50, c51, rfl, q52⟩ := r39
 have r58 := r41
 obtain ⟨m54, A55, c56, rfl, q57⟩ := r41
 have r63 := r43
 obtain ⟨m59, A60, c61, rfl, q62⟩ := r43
 refine ce2 (L := [(0, .agg #[.slice A12 x0.Store.Segments.length c13, .int .i64 x0.Store.Now, .int .i64 x0.Cursor, .slice A17 x0.Order.length c18, .slice A22 x0.Active.length c23, .slice A27 x0.Done.length c28, .slice A32 x0.Ledger.length c33, .int .i64 x0.Steps]), (1, .agg #[.int .i64 x1.Query.Id, .int .i64 x1.Query.Tenant, .slice A45 x1.Query.Conds.length c46, .slice A50 x1.Query.Out.length c51, .int .i64 x1.Time, .slice A55 x1.Todo.length c56, .int .i64 x1.Age, .int .i64 x1.Sent, .int .i64 x1.Cap, .slice A60 x1.Rows.length c61])]) (N := 45) func152 ?_
 refine sr ?_
 refine WM_box rfl (Wd_none rfl) (by decide) (fun p64 => ?_)
 refine WM_box rfl (Wd_none rfl) (by decide) (fun p65 => ?_)
 refine wa (nt' (sr ?_))
 refine wv (vf underlying64 rfl type34) ?_
 refine wv (fun W hm => rv_loadN (cs := [.int .i64 x1.Query.Id, .int .i64 x1.Query.Tenant, .slice A45 x1.Query.Conds.length c46, .slice A50 x1.Query.Out.length c51]) underlying34 type34 rfl rfl (hm.boxPart (n := 0) rfl rfl)) ?_
 refine wcv (cl_fn cb127 rfl) (fun W hm => spec_IsQuery_c W _ x1.Query (tyQuery_mk (x := x1.Query) (hm.rdS0 r48) (hm.rdS0 r53))) ?_
 refine wm ?_
 rcases Bool.eq_false_or_eq_true (spec_IsQuery_m x1.Query) with g67 | g67
 ·
  refine wg (vf underlying64 rfl type3) g67 ?_
  refine wg (vl 0 4 underlying3) g67 ?_
  refine wg (vf underlying47 rfl type42) g67 ?_
  refine wg (fun W hm => rv_fieldA (o := 1) underlying42 rfl type3 (by decide) rfl rfl) g67 ?_
  refine wg (vl 1 1 underlying3) g67 ?_
  refine WM_callV (cl_fn cb128 rfl) (fun W hm => spec_l1In_c W x1.Time 0 x0.Store.Now) (Wd_some rfl rfl rfl (bw g67 rfl)) (by decide) ?_
  refine wv (vpT g67) ?_
  refine wm ?_
  rcases Bool.eq_false_or_eq_true (spec_l1In_m x1.Time 0 x0.Store.Now) with g69 | g69
  ·
   have hw := spec_l1In_fact g69
   refine wg (vf underlying64 rfl type25) g69 ?_
   refine wg (vl 0 5 underlying25) g69 ?_
   refine wg (vf underlying47 rfl type42) g69 ?_
   refine wg (fun W hm => rv_fieldA (o := 0) underlying42 rfl type40 (by decide) rfl rfl) g69 ?_
   refine wg (vl 1 0 underlying40) g69 ?_
   refine wg (vlen underlying40) g69 ?_
   refine WM_callV (cl_fn cb208 rfl) (fun W hm => spec_l9Todo_c W _ x1.Todo ((x0.Store.Segments.length : Nat) : Int) (hm.rdS0 r58)) (Wd_some rfl rfl rfl (bw g69 rfl)) (by decide) ?_
   refine wv (vpT g69) ?_
   refine wm ?_
   rcases Bool.eq_false_or_eq_true (spec_l9Todo_m x1.Todo ((x0.Store.Segments.length : Nat) : Int)) with g71 | g71
   ·
    refine wg (vf underlying64 rfl type3) g71 ?_
    refine wg (vl 0 6 underlying3) g71 ?_
    refine WM_callV (cl_fn cb128 rfl) (fun W hm => spec_l1In_c W x1.Age 0 100000) (Wd_some rfl rfl rfl (bw g71 rfl)) (by decide) ?_
    refine wv (vpT g71) ?_
    refine wm ?_
    rcases Bool.eq_false_or_eq_true (spec_l1In_m x1.Age 0 100000) with g73 | g73
    ·
     have hw := spec_l1In_fact g73
     refine wg (vf underlying64 rfl type3) g73 ?_
     refine wg (vl 0 7 underlying3) g73 ?_
     refine WM_callV (cl_fn cb128 rfl) (fun W hm => spec_l1In_c W x1.Sent 0 1000) (Wd_some rfl rfl rfl (bw g73 rfl)) (by decide) ?_
     refine wv (vpT g73) ?_
     refine wm ?_
     rcases Bool.eq_false_or_eq_true (spec_l1In_m x1.Sent 0 1000) with g75 | g75
     ·
      have hw := spec_l1In_fact g75
      refine wg (vf underlying64 rfl type3) g75 ?_
      refine wg (vl 0 8 underlying3) g75 ?_
      refine WM_callV (cl_fn cb128 rfl) (fun W hm => spec_l1In_c W x1.Cap 0 32) (Wd_some rfl rfl rfl (bw g75 rfl)) (by decide) ?_
      refine wv (vpT g75) ?_
      refine wm ?_
      rcases Bool.eq_false_or_eq_true (spec_l1In_m x1.Cap 0 32) with g77 | g77
      ·
       have hw := spec_l1In_fact g77
       refine wg (vf underlying64 rfl type35) g77 ?_
       refine wg (vl 0 9 underlying35) g77 ?_
       refine WM_callV (cl_fn cb153 rfl) (fun W hm => spec_l9List_c W _ x1.Rows (hm.rdS0 r63)) (Wd_some rfl rfl rfl (bw g77 rfl)) (by decide) ?_
       refine wv (vpT g77) ?_
       refine wa (nt' (CM_ret ?_))
       exact rtb (h := by unfold spec_l9Active_m; exact cond_t g67 (cond_t g69 (cond_t g71 (cond_t g73 (cond_t g75 (cond_t g77 (rfl)))))))
      ·
       refine ws g77 ?_
       refine ws g77 ?_
       refine ws g77 ?_
       refine wv (vpF g77) ?_
       refine wa (nt' (CM_ret ?_))
       exact rtb (h := by unfold spec_l9Active_m; exact cond_t g67 (cond_t g69 (cond_t g71 (cond_t g73 (cond_t g75 (cond_f g77 (rfl)))))))
     ·
      refine ws g75 ?_
      refine ws g75 ?_
      refine ws g75 ?_
      refine wv (vpF g75) ?_
      refine wm ?_
      refine wk ?_
      refine wk ?_
      refine wk ?_
      refine wv (vpF rfl) ?_
      refine wa (nt' (CM_ret ?_))
      exact rtb (h := by unfold spec_l9Active_m; exact cond_t g67 (cond_t g69 (cond_t g71 (cond_t g73 (cond_f g75 (rfl))))))
    ·
     refine ws g73 ?_
     refine ws g73 ?_
     refine ws g73 ?_
     refine wv (vpF g73) ?_
     refine wm ?_
     refine wk ?_
     refine wk ?_
     refine wk ?_
     refine wv (vpF rfl) ?_
     refine wm ?_
     refine wk ?_
     refine wk ?_
     refine wk ?_
     refine wv (vpF rfl) ?_
     refine wa (nt' (CM_ret ?_))
     exact rtb (h := by unfold spec_l9Active_m; exact cond_t g67 (cond_t g69 (cond_t g71 (cond_f g73 (rfl)))))
   ·
    refine ws g71 ?_
    refine ws g71 ?_
    refine ws g71 ?_
    refine wv (vpF g71) ?_
    refine wm ?_
    refine wk ?_
    refine wk ?_
    refine wk ?_
    refine wv (vpF rfl) ?_
    refine wm ?_
    refine wk ?_
    refine wk ?_
    refine wk ?_
    refine wv (vpF rfl) ?_
    refine wm ?_
    refine wk ?_
    refine wk ?_
    refine wk ?_
    refine wv (vpF rfl) ?_
    refine wa (nt' (CM_ret ?_))
    exact rtb (h := by unfold spec_l9Active_m; exact cond_t g67 (cond_t g69 (cond_f g71 (rfl))))
  ·
   refine ws g69 ?_
   refine ws g69 ?_
   refine ws g69 ?_
   refine ws g69 ?_
   refine ws g69 ?_
   refine ws g69 ?_
   refine ws g69 ?_
   refine wv (vpF g69) ?_
   refine wm ?_
   refine wk ?_
   refine wk ?_
   refine wk ?_
   refine wv (vpF rfl) ?_
   refine wm ?_
   refine wk ?_
   refine wk ?_
   refine wk ?_
   refine wv (vpF rfl) ?_
   refine wm ?_
   refine wk ?_
   refine wk ?_
   refine wk ?_
   refine wv (vpF rfl) ?_
   refine wm ?_
   refine wk ?_
   refine wk ?_
   refine wk ?_
   refine wv (vpF rfl) ?_
   refine wa (nt' (CM_ret ?_))
   exact rtb (h := by unfold spec_l9Active_m; exact cond_t g67 (cond_f g69 (rfl)))
 ·
  refine ws g67 ?_
  refine ws g67 ?_
  refine ws g67 ?_
  refine ws g67 ?_
  refine ws g67 ?_
  refine ws g67 ?_
  refine wv (vpF g67) ?_
  refine wm ?_
  refine wk ?_
  refine wk ?_
  refine wk ?_
  refine wk ?_
  refine wk ?_
  refine wk ?_
  refine wk ?_
  refine wv (vpF rfl) ?_
  refine wm ?_
  refine wk ?_
  refine wk ?_
  refine wk ?_
  refine wv (vpF rfl) ?_
  refine wm ?_
  refine wk ?_
  refine wk ?_
  refine wk ?_
  refine wv (vpF rfl) ?_
  refine wm ?_
  refine wk ?_
  refine wk ?_
  refine wk ?_
  refine wv (vpF rfl) ?_
  refine wm ?_
  refine wk ?_
  refine wk ?_
  refine wk ?_
  refine wv (vpF rfl) ?_
  refine wa (nt' (CM_ret ?_))
  exact rtb (h := by unfold spec_l9Active_m; exact cond_f g67 (rfl))

def spec_IsSet_b1 (x0 : (List Int)) (k6 : Nat) : Bool ⊕ (Unit) :=
 cond (spec_l1In_m (gt x0 k6) 0 23) (cond (decide (0 < ((k6 : Nat) : Int))) (cond (decide ((gt x0 k6) ≤ (gt x0 (k6 - 1)))) (Sum.inl false) (Sum.inr ())) (Sum.inr ())) (Sum.inl false)
def spec_IsSet_m (x0 : (List Int)) : Bool :=
 Sum.elim id (fun (s : Unit) => true) (rng (R := Bool) (fun k (_ : Unit) => spec_IsSet_b1 x0 k) (x0.length - 0) 0 ())
theorem cb210 : Cb Tryz.prog 210 := ⟨f210, _, func210, rfl, by decide⟩
theorem spec_IsSet_c (w : World) (z0 : Value) (x0 : (List Int)) (r_0 : rdS tInt w w.heap.size z0 x0) :
  Calls Tryz.prog 210 #[z0] w fun e w' => e = .returned (.bool (spec_IsSet_m x0)) ∧ Below w.heap.size w w' := by
 have r5 := r_0
 obtain ⟨m1, A2, c3, rfl, q4⟩ := r_0
 refine ce1 (L := [(0, .slice A2 x0.length c3)]) (N := 32) func210 ?_
 refine sr (wa (nt' (CM_seq (sr (wa (nt' (CM_block ?_)))))))
 let F1 := fun k (_ : Unit) => spec_IsSet_b1 x0 k
 let R2 := rng (R := Bool) F1
 refine CM_loop (σ := Nat × (Unit) × (Unit)) (fun s => [(0, .slice A2 x0.length c3), (3, .int .i64 ((s.1 : Nat) : Int))]) (fun s => []) (fun s => s.1 ≤ x0.length ∧ R2 (x0.length - s.1) s.1 s.2.1 = R2 (x0.length - 0) 0 ()) (fun s => x0.length - s.1) (0, (), ()) sl2 (fun W hm => hm) ⟨(by omega), rfl⟩ ?_
 rintro ⟨k6, ⟨⟩, ⟨⟩⟩ H9
 obtain ⟨hk7, hF8⟩ : k6 ≤ x0.length ∧ R2 (x0.length - k6) k6 () = R2 (x0.length - 0) 0 () := H9
 show CM Tryz.prog 32 _ _ _ _ [(0, .slice A2 x0.length c3), (3, .int .i64 ((k6 : Nat) : Int))] []
 refine CM_seq (sr (wm (wm ?_)))
 refine wv (vlen underlying25) ?_
 refine wv vlss ?_
 refine nt' ?_
 by_cases hl10 : k6 < x0.length
 ·have g11 : (decide (((k6 : Nat) : Int) < ((x0.length : Nat) : Int))) = true := decide_eq_true (by omega)
  refine CM_condT rfl g11 ?_
  refine CM_skip (QM_then (CM_seq (CM_block (CM_seq ?_))))
  refine CM_regionD (by kernel_rfl) (by kernel_rfl) ?_
  refine qm (qm ?_)
  obtain ⟨a12, rfl, hb13, he14⟩ := q4 (by omega)
  refine qv (vix 1 k6 underlying25 type3) ?_
  refine qv (fun W hm => rv_load underlying3 rfl rfl ((hm.cell0 (show (a12.add (k6 * 1)).block < w.heap.size from by rw [add_block]; exact hb13.1)).trans (rdS_int he14 k6 (by omega)))) ?_
  refine QR_callV (cl_fn cb128 rfl) (fun W hm => spec_l1In_c W (gt x0 k6) 0 23) (Wd_none rfl) (by decide) ?_
  refine qv vnot ?_
  refine qm ?_
  rcases Bool.eq_false_or_eq_true (spec_l1In_m (gt x0 k6) 0 23) with g16 | g16
  ·
   have hw := spec_l1In_fact g16
   refine qg vmv (nt g16) ?_
   refine qg (fun W hm => rv_gtr rfl rfl) (nt g16) ?_
   refine qg vmv (nt g16) ?_
   by_cases h17 : 0 < ((k6 : Nat) : Int)
   ·have g18 : (decide (0 < ((k6 : Nat) : Int))) = true := decide_eq_true h17
    refine qg vmv g18 ?_
    refine qg vmv g18 ?_
    refine qg (vix 1 k6 underlying25 type3) g18 ?_
    refine qg (fun W hm => rv_load underlying3 rfl rfl ((hm.cell0 (show (a12.add (k6 * 1)).block < w.heap.size from by rw [add_block]; exact hb13.1)).trans (rdS_int he14 k6 (by omega)))) g18 ?_
    refine qg vmv g18 ?_
    refine qg vmv g18 ?_
    refine qg (fun W hm => rv_subN (p := k6) (q := 1) rfl rfl (by omega) (by omega)) g18 ?_
    refine qg (fun W hm => rv_index (sz := 1) (k := k6 - 1) underlying25 type3 rfl rfl rfl (by omega)) g18 ?_
    refine qg (fun W hm => rv_load underlying3 rfl rfl ((hm.cell0 (show (a12.add ((k6 - 1) * 1)).block < w.heap.size from by rw [add_block]; exact hb13.1)).trans (rdS_int he14 (k6 - 1) (by omega)))) g18 ?_
    refine qg (fun W hm => rv_leq rfl rfl) g18 ?_
    refine qg (vpT g18) (nt g16) ?_
    refine qv (vpF (nt g16)) ?_
    refine nq' ?_
    by_cases h19 : (gt x0 k6) ≤ (gt x0 (k6 - 1))
    ·have g20 : (decide ((gt x0 k6) ≤ (gt x0 (k6 - 1)))) = true := decide_eq_true h19
     refine CM_condT rfl g20 ?_
     refine sr (wa (nt' (CM_ret (QM_block_ret (QM_then_ret (QM_then_ret (QM_block_ret (QM_then_ret ?_))))))))
     exact rtb (h := by unfold spec_IsSet_m; exact fin_inl (rng_ret (body := F1) (k := k6) (s := ()) (show k6 < x0.length from by omega) (show spec_IsSet_b1 x0 k6 = Sum.inl false from by unfold spec_IsSet_b1; exact cond_t g16 (cond_t g18 (cond_t g20 (rfl)))) hF8) rfl)
    ·have g20 : (decide ((gt x0 k6) ≤ (gt x0 (k6 - 1)))) = false := decide_eq_false h19
     refine CM_condF rfl g20 ?_
     refine CM_skip (QM_block_normal (QM_then (CM_region (wm ?_))))
     refine wv (vadN k6 1 (by omega)) ?_
     refine wa (WM_nil ?_)
     have hn21 := rng_next (R := Bool) (body := F1) (k := k6) (s := ()) (s' := ()) (show k6 < x0.length from by omega) (show spec_IsSet_b1 x0 k6 = Sum.inr () from by unfold spec_IsSet_b1; exact cond_t g16 (cond_t g18 (cond_f g20 (rfl)))) hF8
     exact QM_round (k6 + 1, (), ()) sl2 (fun W hm => hm) ⟨(by omega), hn21⟩ (rl (by omega))
   ·have g18 : (decide (0 < ((k6 : Nat) : Int))) = false := decide_eq_false h17
    refine qs g18 ?_
    refine qs g18 ?_
    refine qs g18 ?_
    refine qs g18 ?_
    refine qs g18 ?_
    refine qs g18 ?_
    refine qs g18 ?_
    refine qs g18 ?_
    refine qs g18 ?_
    refine qs g18 ?_
    refine qg (vpF g18) (nt g16) ?_
    refine qv (vpF (nt g16)) ?_
    refine nq' ?_
    refine CM_condF rfl rfl ?_
    refine CM_skip (QM_block_normal (QM_then (CM_region (wm ?_))))
    refine wv (vadN k6 1 (by omega)) ?_
    refine wa (WM_nil ?_)
    have hn22 := rng_next (R := Bool) (body := F1) (k := k6) (s := ()) (s' := ()) (show k6 < x0.length from by omega) (show spec_IsSet_b1 x0 k6 = Sum.inr () from by unfold spec_IsSet_b1; exact cond_t g16 (cond_f g18 (rfl))) hF8
    exact QM_round (k6 + 1, (), ()) sl2 (fun W hm => hm) ⟨(by omega), hn22⟩ (rl (by omega))
  ·
   refine qs (nf g16) ?_
   refine qs (nf g16) ?_
   refine qs (nf g16) ?_
   refine qu ?_
   refine qu ?_
   refine qu ?_
   refine qu ?_
   refine qu ?_
   refine qu ?_
   refine qu ?_
   refine qu ?_
   refine qu ?_
   refine qu ?_
   refine qs (nf g16) ?_
   refine qv (vpT (nf g16)) ?_
   refine nq' ?_
   refine CM_condT rfl rfl ?_
   refine sr (wa (nt' (CM_ret (QM_block_ret (QM_then_ret (QM_then_ret (QM_block_ret (QM_then_ret ?_))))))))
   exact rtb (h := by unfold spec_IsSet_m; exact fin_inl (rng_ret (body := F1) (k := k6) (s := ()) (show k6 < x0.length from by omega) (show spec_IsSet_b1 x0 k6 = Sum.inl false from by unfold spec_IsSet_b1; exact cond_f g16 (rfl)) hF8) rfl)
 ·have g11 : (decide (((k6 : Nat) : Int) < ((x0.length : Nat) : Int))) = false := decide_eq_false (by omega)
  refine CM_condF rfl g11 ?_
  refine CM_exit (QM_then_exit (QM_then_exit ?_))
  have hE23 : R2 (x0.length - 0) 0 () = Sum.inr () := rng_end hl10 hF8
  refine QM_block_hit (QM_then (sr (wa (nt' (CM_ret ?_)))))
  exact rtb (h := by unfold spec_IsSet_m; exact fin_inr hE23 (rfl))

def spec_IsCharge_b1 (x0 : DCharge) (k37 : Nat) : Bool ⊕ (Unit) :=
 cond (spec_l1In_m (gt x0.Tenants k37) 0 3) (cond (spec_l1In_m (gt x0.Rows k37) 0 x0.Base) (Sum.inr ()) (Sum.inl false)) (Sum.inl false)
def spec_IsCharge_m (x0 : DCharge) : Bool :=
 cond (spec_IsSet_m x0.Ids) (cond (((x0.Ids.length : Nat) : Int) == 0) false (cond (decide (8 < ((x0.Ids.length : Nat) : Int))) false (cond (((x0.Tenants.length : Nat) : Int) != ((x0.Ids.length : Nat) : Int)) false (cond (((x0.Rows.length : Nat) : Int) != ((x0.Ids.length : Nat) : Int)) false (cond (spec_l1In_m x0.Segment 0 7) (cond (spec_l1In_m x0.Base 0 4) (Sum.elim id (fun (s : Unit) => true) (rng (R := Bool) (fun k (_ : Unit) => spec_IsCharge_b1 x0 k) (x0.Ids.length - 0) 0 ())) false) false))))) false
theorem cb154 : Cb Tryz.prog 154 := ⟨f154, _, func154, rfl, by decide⟩
theorem spec_IsCharge_c (w : World) (z0 : List Value) (x0 : DCharge) (r_0 : tyCharge.rd w w.heap.size z0 x0) :
  Calls Tryz.prog 154 #[.agg z0.toArray] w fun e w' => e = .returned (.bool (spec_IsCharge_m x0)) ∧ Below w.heap.size w w' := by
 obtain ⟨v1, v3, v5, rfl, r2, r4, r6⟩ := tyCharge_rd r_0
 have r11 := r2
 obtain ⟨m7, A8, c9, rfl, q10⟩ := r2
 have r16 := r4
 obtain ⟨m12, A13, c14, rfl, q15⟩ := r4
 have r21 := r6
 obtain ⟨m17, A18, c19, rfl, q20⟩ := r6
 refine ce1 (L := [(0, .agg #[.int .i64 x0.Segment, .int .i64 x0.Base, .slice A8 x0.Ids.length c9, .slice A13 x0.Tenants.length c14, .slice A18 x0.Rows.length c19])]) (N := 69) func154 ?_
 refine sr ?_
 refine WM_box rfl (Wd_none rfl) (by decide) (fun p22 => ?_)
 refine wa (nt' (sr ?_))
 refine wv (vf underlying133 rfl type25) ?_
 refine wv (vl 0 2 underlying25) ?_
 refine wv (vlen underlying25) ?_
 refine wa (nt' (CM_seq (sr ?_)))
 refine wv (vf underlying133 rfl type25) ?_
 refine wv (vl 0 2 underlying25) ?_
 refine wcv (cl_fn cb210 rfl) (fun W hm => spec_IsSet_c W _ x0.Ids (hm.rdS0 r11)) ?_
 refine wv vnot ?_
 refine wm ?_
 rcases Bool.eq_false_or_eq_true (spec_IsSet_m x0.Ids) with g24 | g24
 ·
  refine wg vmv (nt g24) ?_
  refine wg (fun W hm => rv_eql rfl rfl) (nt g24) ?_
  refine wv (vpF (nt g24)) ?_
  refine wm ?_
  by_cases h25 : ((x0.Ids.length : Nat) : Int) = 0
  ·have g26 : (((x0.Ids.length : Nat) : Int) == 0) = true := beq_iff_eq.2 h25
   refine ws g26 ?_
   refine ws g26 ?_
   refine wv (vpT g26) ?_
   refine wm ?_
   refine wk ?_
   refine wk ?_
   refine wk ?_
   refine wk ?_
   refine wk ?_
   refine wv (vpT rfl) ?_
   refine wm ?_
   refine wk ?_
   refine wk ?_
   refine wk ?_
   refine wk ?_
   refine wk ?_
   refine wv (vpT rfl) ?_
   refine wm ?_
   refine wk ?_
   refine wk ?_
   refine wk ?_
   refine wk ?_
   refine wv (vpT rfl) ?_
   refine wm ?_
   refine wk ?_
   refine wk ?_
   refine wk ?_
   refine wk ?_
   refine wv (vpT rfl) ?_
   refine nt' ?_
   refine CM_condT rfl rfl ?_
   refine sr (wa (nt' (CM_ret (QM_then_ret ?_))))
   exact rtb (h := by unfold spec_IsCharge_m; exact cond_t g24 (cond_t g26 (rfl)))
  ·have g26 : (((x0.Ids.length : Nat) : Int) == 0) = false := beq_eq_false_iff_ne.2 h25
   refine wg vmv g26 ?_
   refine wg (fun W hm => rv_gtr rfl rfl) g26 ?_
   refine wv (vpF g26) ?_
   refine wm ?_
   by_cases h27 : 8 < ((x0.Ids.length : Nat) : Int)
   ·have g28 : (decide (8 < ((x0.Ids.length : Nat) : Int))) = true := decide_eq_true h27
    refine ws g28 ?_
    refine ws g28 ?_
    refine ws g28 ?_
    refine ws g28 ?_
    refine ws g28 ?_
    refine wv (vpT g28) ?_
    refine wm ?_
    refine wk ?_
    refine wk ?_
    refine wk ?_
    refine wk ?_
    refine wk ?_
    refine wv (vpT rfl) ?_
    refine wm ?_
    refine wk ?_
    refine wk ?_
    refine wk ?_
    refine wk ?_
    refine wv (vpT rfl) ?_
    refine wm ?_
    refine wk ?_
    refine wk ?_
    refine wk ?_
    refine wk ?_
    refine wv (vpT rfl) ?_
    refine nt' ?_
    refine CM_condT rfl rfl ?_
    refine sr (wa (nt' (CM_ret (QM_then_ret ?_))))
    exact rtb (h := by unfold spec_IsCharge_m; exact cond_t g24 (cond_f g26 (cond_t g28 (rfl))))
   ·have g28 : (decide (8 < ((x0.Ids.length : Nat) : Int))) = false := decide_eq_false h27
    refine wg (vf underlying133 rfl type25) g28 ?_
    refine wg (vl 0 3 underlying25) g28 ?_
    refine wg (vlen underlying25) g28 ?_
    refine wg vmv g28 ?_
    refine wg vneq g28 ?_
    refine wv (vpF g28) ?_
    refine wm ?_
    by_cases h29 : ((x0.Tenants.length : Nat) : Int) = ((x0.Ids.length : Nat) : Int)
    ·have g30 : (((x0.Tenants.length : Nat) : Int) != ((x0.Ids.length : Nat) : Int)) = false := by rw [h29]; exact bne_self_eq_false _
     refine wg (vf underlying133 rfl type25) g30 ?_
     refine wg (vl 0 4 underlying25) g30 ?_
     refine wg (vlen underlying25) g30 ?_
     refine wg vmv g30 ?_
     refine wg vneq g30 ?_
     refine wv (vpF g30) ?_
     refine wm ?_
     by_cases h31 : ((x0.Rows.length : Nat) : Int) = ((x0.Ids.length : Nat) : Int)
     ·have g32 : (((x0.Rows.length : Nat) : Int) != ((x0.Ids.length : Nat) : Int)) = false := by rw [h31]; exact bne_self_eq_false _
      refine wg (vf underlying133 rfl type3) g32 ?_
      refine wg (vl 0 0 underlying3) g32 ?_
      refine WM_callV (cl_fn cb128 rfl) (fun W hm => spec_l1In_c W x0.Segment 0 7) (Wd_some rfl rfl rfl (bw g32 rfl)) (by decide) ?_
      refine wg vnot g32 ?_
      refine wv (vpF g32) ?_
      refine wm ?_
      rcases Bool.eq_false_or_eq_true (spec_l1In_m x0.Segment 0 7) with g34 | g34
      ·
       have hw := spec_l1In_fact g34
       refine wg (vf underlying133 rfl type3) (nt g34) ?_
       refine wg (vl 0 1 underlying3) (nt g34) ?_
       refine WM_callV (cl_fn cb128 rfl) (fun W hm => spec_l1In_c W x0.Base 0 4) (Wd_some rfl rfl rfl (bw (nt g34) rfl)) (by decide) ?_
       refine wg vnot (nt g34) ?_
       refine wv (vpF (nt g34)) ?_
       refine nt' ?_
       rcases Bool.eq_false_or_eq_true (spec_l1In_m x0.Base 0 4) with g36 | g36
       ·
        have hw := spec_l1In_fact g36
        refine CM_condF rfl (nt g36) ?_
        refine CM_skip (QM_then (CM_seq (sr (wa (nt' (CM_block ?_))))))
        let F1 := fun k (_ : Unit) => spec_IsCharge_b1 x0 k
        let R2 := rng (R := Bool) F1
        let K3 : List Value := [.int .i64 x0.Segment, .int .i64 x0.Base, .slice A8 x0.Ids.length c9, .slice A13 x0.Tenants.length c14, .slice A18 x0.Rows.length c19]
        refine CM_loop (σ := Nat × (Unit) × (Unit)) (fun s => [(1, .pointer (some (⟨p22, 0, none⟩ : Addr))), (3, .int .i64 ((x0.Ids.length : Nat) : Int)), (4, .int .i64 ((s.1 : Nat) : Int))]) (fun s => [iBox p22 133 K3]) (fun s => s.1 ≤ x0.Ids.length ∧ R2 (x0.Ids.length - s.1) s.1 s.2.1 = R2 (x0.Ids.length - 0) 0 ()) (fun s => x0.Ids.length - s.1) (0, (), ()) sl3 (fun W hm => hm) ⟨(by omega), rfl⟩ ?_
        rintro ⟨k37, ⟨⟩, ⟨⟩⟩ H40
        obtain ⟨hk38, hF39⟩ : k37 ≤ x0.Ids.length ∧ R2 (x0.Ids.length - k37) k37 () = R2 (x0.Ids.length - 0) 0 () := H40
        show CM Tryz.prog 69 _ _ _ _ [(1, .pointer (some (⟨p22, 0, none⟩ : Addr))), (3, .int .i64 ((x0.Ids.length : Nat) : Int)), (4, .int .i64 ((k37 : Nat) : Int))] [iBox p22 133 K3]
        refine CM_seq (sr (wm (wm ?_)))
        refine wv vlss ?_
        refine nt' ?_
        by_cases hl41 : k37 < x0.Ids.length
        ·have g42 : (decide (((k37 : Nat) : Int) < ((x0.Ids.length : Nat) : Int))) = true := decide_eq_true (by omega)
         refine CM_condT rfl g42 ?_
         refine CM_skip (QM_then (CM_seq (CM_block (CM_seq ?_))))
         refine CM_regionD (by kernel_rfl) (by kernel_rfl) ?_
         refine qv (vf underlying133 rfl type25) ?_
         refine qv (vl 0 3 underlying25) ?_
         refine qm ?_
         obtain ⟨a43, rfl, hb44, he45⟩ := q15 (by omega)
         refine qv (vix 1 k37 underlying25 type3) ?_
         refine qv (fun W hm => rv_load underlying3 rfl rfl ((hm.cell0 (show (a43.add (k37 * 1)).block < w.heap.size from by rw [add_block]; exact hb44.1)).trans (rdS_int he45 k37 (by omega)))) ?_
         refine QR_callV (cl_fn cb128 rfl) (fun W hm => spec_l1In_c W (gt x0.Tenants k37) 0 3) (Wd_none rfl) (by decide) ?_
         refine qv vnot ?_
         refine qm ?_
         rcases Bool.eq_false_or_eq_true (spec_l1In_m (gt x0.Tenants k37) 0 3) with g47 | g47
         ·
          have hw := spec_l1In_fact g47
          refine qg (vf underlying133 rfl type25) (nt g47) ?_
          refine qg (vl 0 4 underlying25) (nt g47) ?_
          refine qg vmv (nt g47) ?_
          obtain ⟨a48, rfl, hb49, he50⟩ := q20 (by omega)
          refine qg (vix 1 k37 underlying25 type3) (nt g47) ?_
          refine qg (fun W hm => rv_load underlying3 rfl rfl ((hm.cell0 (show (a48.add (k37 * 1)).block < w.heap.size from by rw [add_block]; exact hb49.1)).trans (rdS_int he50 k37 (by omega)))) (nt g47) ?_
          refine qg (vf underlying133 rfl type3) (nt g47) ?_
          refine qg (vl 0 1 underlying3) (nt g47) ?_
          refine QR_callV (cl_fn cb128 rfl) (fun W hm => spec_l1In_c W (gt x0.Rows k37) 0 x0.Base) (Wd_some rfl rfl rfl (bw (nt g47) rfl)) (by decide) ?_
          refine qg vnot (nt g47) ?_
          refine qv (vpF (nt g47)) ?_
          refine nq' ?_
          rcases Bool.eq_false_or_eq_true (spec_l1In_m (gt x0.Rows k37) 0 x0.Base) with g52 | g52
          ·
           have hw := spec_l1In_fact g52
           refine CM_condF rfl (nt g52) ?_
           refine CM_skip (QM_block_normal (QM_then (CM_region (wm ?_))))
           refine wv (vadN k37 1 (by omega)) ?_
           refine wa (WM_nil ?_)
           have hn53 := rng_next (R := Bool) (body := F1) (k := k37) (s := ()) (s' := ()) (show k37 < x0.Ids.length from by omega) (show spec_IsCharge_b1 x0 k37 = Sum.inr () from by unfold spec_IsCharge_b1; exact cond_t g47 (cond_t g52 (rfl))) hF39
           exact QM_round (k37 + 1, (), ()) sl3 (fun W hm => hm) ⟨(by omega), hn53⟩ (rl (by omega))
          ·
           refine CM_condT rfl (nf g52) ?_
           refine sr (wa (nt' (CM_ret (QM_block_ret (QM_then_ret (QM_then_ret (QM_block_ret (QM_then_ret ?_))))))))
           exact rtb (h := by unfold spec_IsCharge_m; exact cond_t g24 (cond_f g26 (cond_f g28 (cond_f g30 (cond_f g32 (cond_t g34 (cond_t g36 (fin_inl (rng_ret (body := F1) (k := k37) (s := ()) (show k37 < x0.Ids.length from by omega) (show spec_IsCharge_b1 x0 k37 = Sum.inl false from by unfold spec_IsCharge_b1; exact cond_t g47 (cond_f g52 (rfl))) hF39) rfl))))))))
         ·
          refine qs (nf g47) ?_
          refine qs (nf g47) ?_
          refine qs (nf g47) ?_
          refine qs (nf g47) ?_
          refine qs (nf g47) ?_
          refine qs (nf g47) ?_
          refine qs (nf g47) ?_
          refine qs (nf g47) ?_
          refine qs (nf g47) ?_
          refine qv (vpT (nf g47)) ?_
          refine nq' ?_
          refine CM_condT rfl rfl ?_
          refine sr (wa (nt' (CM_ret (QM_block_ret (QM_then_ret (QM_then_ret (QM_block_ret (QM_then_ret ?_))))))))
          exact rtb (h := by unfold spec_IsCharge_m; exact cond_t g24 (cond_f g26 (cond_f g28 (cond_f g30 (cond_f g32 (cond_t g34 (cond_t g36 (fin_inl (rng_ret (body := F1) (k := k37) (s := ()) (show k37 < x0.Ids.length from by omega) (show spec_IsCharge_b1 x0 k37 = Sum.inl false from by unfold spec_IsCharge_b1; exact cond_f g47 (rfl)) hF39) rfl))))))))
        ·have g42 : (decide (((k37 : Nat) : Int) < ((x0.Ids.length : Nat) : Int))) = false := decide_eq_false (by omega)
         refine CM_condF rfl g42 ?_
         refine CM_exit (QM_then_exit (QM_then_exit ?_))
         have hE54 : R2 (x0.Ids.length - 0) 0 () = Sum.inr () := rng_end hl41 hF39
         refine QM_block_hit (QM_then (sr (wa (nt' (CM_ret ?_)))))
         exact rtb (h := by unfold spec_IsCharge_m; exact cond_t g24 (cond_f g26 (cond_f g28 (cond_f g30 (cond_f g32 (cond_t g34 (cond_t g36 (fin_inr hE54 (rfl)))))))))
       ·
        refine CM_condT rfl (nf g36) ?_
        refine sr (wa (nt' (CM_ret (QM_then_ret ?_))))
        exact rtb (h := by unfold spec_IsCharge_m; exact cond_t g24 (cond_f g26 (cond_f g28 (cond_f g30 (cond_f g32 (cond_t g34 (cond_f g36 (rfl))))))))
      ·
       refine ws (nf g34) ?_
       refine ws (nf g34) ?_
       refine ws (nf g34) ?_
       refine ws (nf g34) ?_
       refine wv (vpT (nf g34)) ?_
       refine nt' ?_
       refine CM_condT rfl rfl ?_
       refine sr (wa (nt' (CM_ret (QM_then_ret ?_))))
       exact rtb (h := by unfold spec_IsCharge_m; exact cond_t g24 (cond_f g26 (cond_f g28 (cond_f g30 (cond_f g32 (cond_f g34 (rfl)))))))
     ·have g32 : (((x0.Rows.length : Nat) : Int) != ((x0.Ids.length : Nat) : Int)) = true := bne_iff_ne.2 h31
      refine ws g32 ?_
      refine ws g32 ?_
      refine ws g32 ?_
      refine ws g32 ?_
      refine wv (vpT g32) ?_
      refine wm ?_
      refine wk ?_
      refine wk ?_
      refine wk ?_
      refine wk ?_
      refine wv (vpT rfl) ?_
      refine nt' ?_
      refine CM_condT rfl rfl ?_
      refine sr (wa (nt' (CM_ret (QM_then_ret ?_))))
      exact rtb (h := by unfold spec_IsCharge_m; exact cond_t g24 (cond_f g26 (cond_f g28 (cond_f g30 (cond_t g32 (rfl))))))
    ·have g30 : (((x0.Tenants.length : Nat) : Int) != ((x0.Ids.length : Nat) : Int)) = true := bne_iff_ne.2 h29
     refine ws g30 ?_
     refine ws g30 ?_
     refine ws g30 ?_
     refine ws g30 ?_
     refine ws g30 ?_
     refine wv (vpT g30) ?_
     refine wm ?_
     refine wk ?_
     refine wk ?_
     refine wk ?_
     refine wk ?_
     refine wv (vpT rfl) ?_
     refine wm ?_
     refine wk ?_
     refine wk ?_
     refine wk ?_
     refine wk ?_
     refine wv (vpT rfl) ?_
     refine nt' ?_
     refine CM_condT rfl rfl ?_
     refine sr (wa (nt' (CM_ret (QM_then_ret ?_))))
     exact rtb (h := by unfold spec_IsCharge_m; exact cond_t g24 (cond_f g26 (cond_f g28 (cond_t g30 (rfl)))))
 ·
  refine ws (nf g24) ?_
  refine ws (nf g24) ?_
  refine wv (vpT (nf g24)) ?_
  refine wm ?_
  refine wk ?_
  refine wk ?_
  refine wv (vpT rfl) ?_
  refine wm ?_
  refine wk ?_
  refine wk ?_
  refine wk ?_
  refine wk ?_
  refine wk ?_
  refine wv (vpT rfl) ?_
  refine wm ?_
  refine wk ?_
  refine wk ?_
  refine wk ?_
  refine wk ?_
  refine wk ?_
  refine wv (vpT rfl) ?_
  refine wm ?_
  refine wk ?_
  refine wk ?_
  refine wk ?_
  refine wk ?_
  refine wv (vpT rfl) ?_
  refine wm ?_
  refine wk ?_
  refine wk ?_
  refine wk ?_
  refine wk ?_
  refine wv (vpT rfl) ?_
  refine nt' ?_
  refine CM_condT rfl rfl ?_
  refine sr (wa (nt' (CM_ret (QM_then_ret ?_))))
  exact rtb (h := by unfold spec_IsCharge_m; exact cond_f g24 (rfl))

theorem spec_IsCharge_fact {x : DCharge} (h : spec_IsCharge_m x = true) : 1 ≤ x.Ids.length ∧ x.Tenants.length = x.Ids.length ∧ x.Rows.length = x.Ids.length := by
  unfold spec_IsCharge_m at h
  cases h1 : spec_IsSet_m x.Ids <;> rw [h1] at h
  · cases h
  by_cases h2 : ((x.Ids.length : Nat) : Int) = 0
  · rw [beq_iff_eq.2 h2] at h
    cases h
  · by_cases h3 : ((x.Tenants.length : Nat) : Int) = ((x.Ids.length : Nat) : Int)
    · by_cases h4 : ((x.Rows.length : Nat) : Int) = ((x.Ids.length : Nat) : Int)
      · omega
      · rw [bne_iff_ne.2 h4] at h
        revert h
        cases (((x.Ids.length : Nat) : Int) == 0) <;> cases decide (8 < ((x.Ids.length : Nat) : Int)) <;> cases (((x.Tenants.length : Nat) : Int) != ((x.Ids.length : Nat) : Int)) <;> intro h <;> cases h
    · rw [bne_iff_ne.2 h3] at h
      revert h
      cases (((x.Ids.length : Nat) : Int) == 0) <;> cases decide (8 < ((x.Ids.length : Nat) : Int)) <;> intro h <;> cases h

def spec_IsEngine_b3 (x0 : DEngine) (k188 : Nat) : Bool ⊕ (Unit) :=
 cond (spec_IsCharge_m (gt x0.Ledger k188)) (Sum.inr ()) (Sum.inl false)
def spec_IsEngine_b2 (x0 : DEngine) (k142 : Nat) : Bool ⊕ (Unit) :=
 cond (spec_IsQuery_m ((gt x0.Done k142).Query)) (cond (spec_l1In_m ((gt x0.Done k142).Time) 0 x0.Store.Now) (cond (spec_l1In_m ((gt x0.Done k142).Steps) 0 100000) (cond (spec_l9List_m ((gt x0.Done k142).Rows)) (Sum.inr ()) (Sum.inl false)) (Sum.inl false)) (Sum.inl false)) (Sum.inl false)
def spec_IsEngine_b1 (x0 : DEngine) (k56 : Nat) : Bool ⊕ (Unit) :=
 cond (spec_l9Active_m x0 (gt x0.Active k56)) (cond (decide (0 < ((k56 : Nat) : Int))) (cond (decide (((gt x0.Active k56).Query.Id) ≤ ((gt x0.Active (k56 - 1)).Query.Id))) (Sum.inl false) (Sum.inr ())) (Sum.inr ())) (Sum.inl false)
def spec_IsEngine_m (x0 : DEngine) : Bool :=
 cond (spec_IsStore_m x0.Store) (cond (spec_l1In_m x0.Cursor 0 (IntKind.i64.wrap (((x0.Store.Segments.length : Nat) : Int) - 1))) (cond (spec_l6Order_m x0.Order) (cond (decide (8 < ((x0.Active.length : Nat) : Int))) false (cond (spec_l1In_m x0.Steps 0 100000) (cond (decide (1000 < ((x0.Done.length : Nat) : Int))) false (cond (decide (1000 < ((x0.Ledger.length : Nat) : Int))) false (Sum.elim id (fun (s1_ : Unit) => Sum.elim id (fun (s2_ : Unit) => Sum.elim id (fun (s : Unit) => true) (rng (R := Bool) (fun k (_ : Unit) => spec_IsEngine_b3 x0 k) (x0.Ledger.length - 0) 0 ())) (rng (R := Bool) (fun k (_ : Unit) => spec_IsEngine_b2 x0 k) (x0.Done.length - 0) 0 ())) (rng (R := Bool) (fun k (_ : Unit) => spec_IsEngine_b1 x0 k) (x0.Active.length - 0) 0 ())))) false)) false) false) false
theorem cb65 : Cb Tryz.prog 65 := ⟨f65, _, func65, rfl, by decide⟩
theorem spec_IsEngine_c (w : World) (z0 : List Value) (x0 : DEngine) (r_0 : tyEngine.rd w w.heap.size z0 x0) (s_0 : smEngine 68719476736 x0) :
  Calls Tryz.prog 65 #[.agg z0.toArray] w fun e w' => e = .returned (.bool (spec_IsEngine_m x0)) ∧ Below w.heap.size w w' := by
 obtain ⟨v1, v3, v5, v7, v9, rfl, r2, r4, r6, r8, r10⟩ := tyEngine_rd r_0
 have r15 := r2
 obtain ⟨m11, A12, c13, rfl, q14⟩ := r2
 have r20 := r4
 obtain ⟨m16, A17, c18, rfl, q19⟩ := r4
 have r25 := r6
 obtain ⟨m21, A22, c23, rfl, q24⟩ := r6
 have r30 := r8
 obtain ⟨m26, A27, c28, rfl, q29⟩ := r8
 have r35 := r10
 obtain ⟨m31, A32, c33, rfl, q34⟩ := r10
 have l36 : x0.Store.Segments.length ≤ 68719476736 := s_0.1.1
 have l37 : x0.Order.length ≤ 68719476736 := s_0.2.1
 have l38 : x0.Active.length ≤ 68719476736 := s_0.2.2.1.1
 have l39 : x0.Done.length ≤ 68719476736 := s_0.2.2.2.1.1
 have l40 : x0.Ledger.length ≤ 68719476736 := s_0.2.2.2.2.1
 refine ce1 (L := [(0, .agg #[.slice A12 x0.Store.Segments.length c13, .int .i64 x0.Store.Now, .int .i64 x0.Cursor, .slice A17 x0.Order.length c18, .slice A22 x0.Active.length c23, .slice A27 x0.Done.length c28, .slice A32 x0.Ledger.length c33, .int .i64 x0.Steps])]) (N := 140) func65 ?_
 refine sr ?_
 refine WM_box rfl (Wd_none rfl) (by decide) (fun p41 => ?_)
 refine wa (nt' (CM_seq (sr ?_)))
 refine wv (vf underlying47 rfl type42) ?_
 refine wv (fun W hm => rv_loadN (cs := [.slice A12 x0.Store.Segments.length c13, .int .i64 x0.Store.Now]) underlying42 type42 rfl rfl (hm.boxPart (n := 0) rfl rfl)) ?_
 refine wcv (cl_fn cb151 rfl) (fun W hm => spec_IsStore_c W _ x0.Store (tyStore_mk (x := x0.Store) (hm.rdS0 r15)) s_0.1) ?_
 refine wv vnot ?_
 refine wm ?_
 rcases Bool.eq_false_or_eq_true (spec_IsStore_m x0.Store) with g43 | g43
 ·
  refine wg (vf underlying47 rfl type3) (nt g43) ?_
  refine wg (vl 0 2 underlying3) (nt g43) ?_
  refine wg (vf underlying47 rfl type42) (nt g43) ?_
  refine wg (fun W hm => rv_fieldA (o := 0) underlying42 rfl type40 (by decide) rfl rfl) (nt g43) ?_
  refine wg (vl 0 0 underlying40) (nt g43) ?_
  refine wg (vlen underlying40) (nt g43) ?_
  refine wg (fun W hm => rv_sub rfl rfl) (nt g43) ?_
  refine WM_callV (cl_fn cb128 rfl) (fun W hm => spec_l1In_c W x0.Cursor 0 (IntKind.i64.wrap (((x0.Store.Segments.length : Nat) : Int) - 1))) (Wd_some rfl rfl rfl (bw (nt g43) rfl)) (by decide) ?_
  refine wg vnot (nt g43) ?_
  refine wv (vpF (nt g43)) ?_
  refine wm ?_
  rcases Bool.eq_false_or_eq_true (spec_l1In_m x0.Cursor 0 (IntKind.i64.wrap (((x0.Store.Segments.length : Nat) : Int) - 1))) with g45 | g45
  ·
   have hw := spec_l1In_fact g45
   rw [wrap_pred (by omega)] at hw
   refine wg (vf underlying47 rfl type25) (nt g45) ?_
   refine wg (vl 0 3 underlying25) (nt g45) ?_
   refine WM_callV (cl_fn cb137 rfl) (fun W hm => spec_l6Order_c W _ x0.Order (hm.rdS0 r20)) (Wd_some rfl rfl rfl (bw (nt g45) rfl)) (by decide) ?_
   refine wg vnot (nt g45) ?_
   refine wv (vpF (nt g45)) ?_
   refine wm ?_
   rcases Bool.eq_false_or_eq_true (spec_l6Order_m x0.Order) with g47 | g47
   ·
    refine wg (vf underlying47 rfl type43) (nt g47) ?_
    refine wg (vl 0 4 underlying43) (nt g47) ?_
    refine wg (vlen underlying43) (nt g47) ?_
    refine wg (fun W hm => rv_gtr rfl rfl) (nt g47) ?_
    refine wv (vpF (nt g47)) ?_
    refine wm ?_
    by_cases h48 : 8 < ((x0.Active.length : Nat) : Int)
    ·have g49 : (decide (8 < ((x0.Active.length : Nat) : Int))) = true := decide_eq_true h48
     refine ws g49 ?_
     refine ws g49 ?_
     refine ws g49 ?_
     refine ws g49 ?_
     refine wv (vpT g49) ?_
     refine wm ?_
     refine wk ?_
     refine wk ?_
     refine wk ?_
     refine wk ?_
     refine wv (vpT rfl) ?_
     refine wm ?_
     refine wk ?_
     refine wk ?_
     refine wk ?_
     refine wk ?_
     refine wv (vpT rfl) ?_
     refine nt' ?_
     refine CM_condT rfl rfl ?_
     refine sr (wa (nt' (CM_ret (QM_then_ret ?_))))
     exact rtb (h := by unfold spec_IsEngine_m; exact cond_t g43 (cond_t g45 (cond_t g47 (cond_t g49 (rfl)))))
    ·have g49 : (decide (8 < ((x0.Active.length : Nat) : Int))) = false := decide_eq_false h48
     refine wg (vf underlying47 rfl type3) g49 ?_
     refine wg (vl 0 7 underlying3) g49 ?_
     refine WM_callV (cl_fn cb128 rfl) (fun W hm => spec_l1In_c W x0.Steps 0 100000) (Wd_some rfl rfl rfl (bw g49 rfl)) (by decide) ?_
     refine wg vnot g49 ?_
     refine wv (vpF g49) ?_
     refine wm ?_
     rcases Bool.eq_false_or_eq_true (spec_l1In_m x0.Steps 0 100000) with g51 | g51
     ·
      have hw := spec_l1In_fact g51
      refine wg (vf underlying47 rfl type44) (nt g51) ?_
      refine wg (vl 0 5 underlying44) (nt g51) ?_
      refine wg (vlen underlying44) (nt g51) ?_
      refine wg (fun W hm => rv_gtr rfl rfl) (nt g51) ?_
      refine wv (vpF (nt g51)) ?_
      refine wm ?_
      by_cases h52 : 1000 < ((x0.Done.length : Nat) : Int)
      ·have g53 : (decide (1000 < ((x0.Done.length : Nat) : Int))) = true := decide_eq_true h52
       refine ws g53 ?_
       refine ws g53 ?_
       refine ws g53 ?_
       refine ws g53 ?_
       refine wv (vpT g53) ?_
       refine nt' ?_
       refine CM_condT rfl rfl ?_
       refine sr (wa (nt' (CM_ret (QM_then_ret ?_))))
       exact rtb (h := by unfold spec_IsEngine_m; exact cond_t g43 (cond_t g45 (cond_t g47 (cond_f g49 (cond_t g51 (cond_t g53 (rfl)))))))
      ·have g53 : (decide (1000 < ((x0.Done.length : Nat) : Int))) = false := decide_eq_false h52
       refine wg (vf underlying47 rfl type45) g53 ?_
       refine wg (vl 0 6 underlying45) g53 ?_
       refine wg (vlen underlying45) g53 ?_
       refine wg (fun W hm => rv_gtr rfl rfl) g53 ?_
       refine wv (vpF g53) ?_
       refine nt' ?_
       by_cases h54 : 1000 < ((x0.Ledger.length : Nat) : Int)
       ·have g55 : (decide (1000 < ((x0.Ledger.length : Nat) : Int))) = true := decide_eq_true h54
        refine CM_condT rfl g55 ?_
        refine sr (wa (nt' (CM_ret (QM_then_ret ?_))))
        exact rtb (h := by unfold spec_IsEngine_m; exact cond_t g43 (cond_t g45 (cond_t g47 (cond_f g49 (cond_t g51 (cond_f g53 (cond_t g55 (rfl))))))))
       ·have g55 : (decide (1000 < ((x0.Ledger.length : Nat) : Int))) = false := decide_eq_false h54
        refine CM_condF rfl g55 ?_
        refine CM_skip (QM_then (CM_seq (sr (wa (nt' (CM_block ?_))))))
        let F1 := fun k (_ : Unit) => spec_IsEngine_b1 x0 k
        let R4 := rng (R := Bool) F1
        let K7 : List Value := [.slice A12 x0.Store.Segments.length c13, .int .i64 x0.Store.Now, .int .i64 x0.Cursor, .slice A17 x0.Order.length c18, .slice A22 x0.Active.length c23, .slice A27 x0.Done.length c28, .slice A32 x0.Ledger.length c33, .int .i64 x0.Steps]
        refine CM_loop (σ := Nat × (Unit) × (Unit)) (fun s => [(1, .pointer (some (⟨p41, 0, none⟩ : Addr))), (3, .int .i64 ((s.1 : Nat) : Int))]) (fun s => [iBox p41 47 K7]) (fun s => s.1 ≤ x0.Active.length ∧ R4 (x0.Active.length - s.1) s.1 s.2.1 = R4 (x0.Active.length - 0) 0 ()) (fun s => x0.Active.length - s.1) (0, (), ()) sl2 (fun W hm => hm) ⟨(by omega), rfl⟩ ?_
        rintro ⟨k56, ⟨⟩, ⟨⟩⟩ H59
        obtain ⟨hk57, hF58⟩ : k56 ≤ x0.Active.length ∧ R4 (x0.Active.length - k56) k56 () = R4 (x0.Active.length - 0) 0 () := H59
        show CM Tryz.prog 140 _ _ _ _ [(1, .pointer (some (⟨p41, 0, none⟩ : Addr))), (3, .int .i64 ((k56 : Nat) : Int))] [iBox p41 47 K7]
        refine CM_seq (sr (wm ?_))
        refine wv (vf underlying47 rfl type43) ?_
        refine wv (vl 0 4 underlying43) ?_
        refine wv (vlen underlying43) ?_
        refine wv vlss ?_
        refine nt' ?_
        by_cases hl60 : k56 < x0.Active.length
        ·have g61 : (decide (((k56 : Nat) : Int) < ((x0.Active.length : Nat) : Int))) = true := decide_eq_true (by omega)
         refine CM_condT rfl g61 ?_
         refine CM_skip (QM_then (CM_seq (CM_block (CM_seq ?_))))
         refine CM_regionD (by kernel_rfl) (by kernel_rfl) ?_
         refine qv (fun W hm => rv_loadN (cs := K7) underlying47 type47 rfl rfl (hm.boxCells (n := 0) rfl)) ?_
         refine qv (vf underlying47 rfl type43) ?_
         refine qv (vl 0 4 underlying43) ?_
         refine qm ?_
         obtain ⟨a62, rfl, hb63, he64⟩ := q24 (by omega)
         refine qv (vix 10 k56 underlying43 type64) ?_
         obtain ⟨_, e74, hc65⟩ := he64 k56 _ (gt_some (show k56 < x0.Active.length from by omega))
         obtain ⟨v66, v68, v70, v72, rfl, r67, r69, r71, r73⟩ := tyActive_rd e74
         have l75 : ((gt x0.Active k56).Query.Conds).length ≤ 68719476736 := (s_0.2.2.1.2 _ (gt_mem (show k56 < x0.Active.length from by omega))).1.1
         have l76 : ((gt x0.Active k56).Query.Out).length ≤ 68719476736 := (s_0.2.2.1.2 _ (gt_mem (show k56 < x0.Active.length from by omega))).1.2
         have l77 : ((gt x0.Active k56).Todo).length ≤ 68719476736 := (s_0.2.2.1.2 _ (gt_mem (show k56 < x0.Active.length from by omega))).2.1
         have l78 : ((gt x0.Active k56).Rows).length ≤ 68719476736 := (s_0.2.2.1.2 _ (gt_mem (show k56 < x0.Active.length from by omega))).2.2.1
         have r83 := r67
         obtain ⟨m79, A80, c81, rfl, q82⟩ := r67
         have r88 := r69
         obtain ⟨m84, A85, c86, rfl, q87⟩ := r69
         have r93 := r71
         obtain ⟨m89, A90, c91, rfl, q92⟩ := r71
         have r98 := r73
         obtain ⟨m94, A95, c96, rfl, q97⟩ := r73
         refine qv (fun W hm => rv_loadN (cs := [.int .i64 ((gt x0.Active k56).Query.Id), .int .i64 ((gt x0.Active k56).Query.Tenant), .slice A80 ((gt x0.Active k56).Query.Conds).length c81, .slice A85 ((gt x0.Active k56).Query.Out).length c86, .int .i64 ((gt x0.Active k56).Time), .slice A90 ((gt x0.Active k56).Todo).length c91, .int .i64 ((gt x0.Active k56).Age), .int .i64 ((gt x0.Active k56).Sent), .int .i64 ((gt x0.Active k56).Cap), .slice A95 ((gt x0.Active k56).Rows).length c96]) underlying64 type64 rfl rfl (hm.elCells (show (a62.add (k56 * 10)).block < w.heap.size from by rw [add_block]; exact hb63.1) hc65)) ?_
         refine QR_callV (cl_fn cb152 rfl) (fun W hm => spec_l9Active_c W _ x0 _ (gt x0.Active k56) (tyEngine_mk (x := x0) (hm.rdS0 r15) (hm.rdS0 r20) (hm.rdS0 r25) (hm.rdS0 r30) (hm.rdS0 r35)) (tyActive_mk (x := (gt x0.Active k56)) (hm.rdS0 r83) (hm.rdS0 r88) (hm.rdS0 r93) (hm.rdS0 r98))) (Wd_none rfl) (by decide) ?_
         refine qv vnot ?_
         refine qm ?_
         rcases Bool.eq_false_or_eq_true (spec_l9Active_m x0 (gt x0.Active k56)) with g100 | g100
         ·
          refine qg vmv (nt g100) ?_
          refine qg (fun W hm => rv_gtr rfl rfl) (nt g100) ?_
          refine qg vmv (nt g100) ?_
          by_cases h101 : 0 < ((k56 : Nat) : Int)
          ·have g102 : (decide (0 < ((k56 : Nat) : Int))) = true := decide_eq_true h101
           refine qg (vf underlying47 rfl type43) g102 ?_
           refine qg (vl 0 4 underlying43) g102 ?_
           refine qg vmv g102 ?_
           refine qg (vix 10 k56 underlying43 type64) g102 ?_
           refine qg (vf underlying64 rfl type34) g102 ?_
           refine qg (fun W hm => rv_fieldA (o := 0) underlying34 rfl type3 (by decide) rfl rfl) g102 ?_
           refine qg (fun W hm => rv_load underlying3 rfl rfl ((hm.cell0 (show ((a62.add (k56 * 10)).add 0).block < w.heap.size from by rw [add_block, add_block]; exact hb63.1)).trans (hc65 0 _ rfl))) g102 ?_
           refine qg (vf underlying47 rfl type43) g102 ?_
           refine qg (vl 0 4 underlying43) g102 ?_
           refine qg vmv g102 ?_
           refine qg (fun W hm => rv_subN (p := k56) (q := 1) rfl rfl (by omega) (by omega)) g102 ?_
           refine qg (fun W hm => rv_index (sz := 10) (k := k56 - 1) underlying43 type64 rfl rfl rfl (by omega)) g102 ?_
           refine qg (vf underlying64 rfl type34) g102 ?_
           refine qg (fun W hm => rv_fieldA (o := 0) underlying34 rfl type3 (by decide) rfl rfl) g102 ?_
           obtain ⟨_, e112, hc103⟩ := he64 (k56 - 1) _ (gt_some (show (k56 - 1) < x0.Active.length from by omega))
           obtain ⟨v104, v106, v108, v110, rfl, r105, r107, r109, r111⟩ := tyActive_rd e112
           have l113 : ((gt x0.Active (k56 - 1)).Query.Conds).length ≤ 68719476736 := (s_0.2.2.1.2 _ (gt_mem (show (k56 - 1) < x0.Active.length from by omega))).1.1
           have l114 : ((gt x0.Active (k56 - 1)).Query.Out).length ≤ 68719476736 := (s_0.2.2.1.2 _ (gt_mem (show (k56 - 1) < x0.Active.length from by omega))).1.2
           have l115 : ((gt x0.Active (k56 - 1)).Todo).length ≤ 68719476736 := (s_0.2.2.1.2 _ (gt_mem (show (k56 - 1) < x0.Active.length from by omega))).2.1
           have l116 : ((gt x0.Active (k56 - 1)).Rows).length ≤ 68719476736 := (s_0.2.2.1.2 _ (gt_mem (show (k56 - 1) < x0.Active.length from by omega))).2.2.1
           have r121 := r105
           obtain ⟨m117, A118, c119, rfl, q120⟩ := r105
           have r126 := r107
           obtain ⟨m122, A123, c124, rfl, q125⟩ := r107
           have r131 := r109
           obtain ⟨m127, A128, c129, rfl, q130⟩ := r109
           have r136 := r111
           obtain ⟨m132, A133, c134, rfl, q135⟩ := r111
           refine qg (fun W hm => rv_load underlying3 rfl rfl ((hm.cell0 (show ((a62.add ((k56 - 1) * 10)).add 0).block < w.heap.size from by rw [add_block, add_block]; exact hb63.1)).trans (hc103 0 _ rfl))) g102 ?_
           refine qg (fun W hm => rv_leq rfl rfl) g102 ?_
           refine qg (vpT g102) (nt g100) ?_
           refine qv (vpF (nt g100)) ?_
           refine nq' ?_
           by_cases h137 : ((gt x0.Active k56).Query.Id) ≤ ((gt x0.Active (k56 - 1)).Query.Id)
           ·have g138 : (decide (((gt x0.Active k56).Query.Id) ≤ ((gt x0.Active (k56 - 1)).Query.Id))) = true := decide_eq_true h137
            refine CM_condT rfl g138 ?_
            refine sr (wa (nt' (CM_ret (QM_block_ret (QM_then_ret (QM_then_ret (QM_block_ret (QM_then_ret ?_))))))))
            exact rtb (h := by unfold spec_IsEngine_m; exact cond_t g43 (cond_t g45 (cond_t g47 (cond_f g49 (cond_t g51 (cond_f g53 (cond_f g55 (fin_inl (rng_ret (body := F1) (k := k56) (s := ()) (show k56 < x0.Active.length from by omega) (show spec_IsEngine_b1 x0 k56 = Sum.inl false from by unfold spec_IsEngine_b1; exact cond_t g100 (cond_t g102 (cond_t g138 (rfl)))) hF58) rfl))))))))
           ·have g138 : (decide (((gt x0.Active k56).Query.Id) ≤ ((gt x0.Active (k56 - 1)).Query.Id))) = false := decide_eq_false h137
            refine CM_condF rfl g138 ?_
            refine CM_skip (QM_block_normal (QM_then (CM_region (wm ?_))))
            refine wv (vadN k56 1 (by omega)) ?_
            refine wa (WM_nil ?_)
            have hn139 := rng_next (R := Bool) (body := F1) (k := k56) (s := ()) (s' := ()) (show k56 < x0.Active.length from by omega) (show spec_IsEngine_b1 x0 k56 = Sum.inr () from by unfold spec_IsEngine_b1; exact cond_t g100 (cond_t g102 (cond_f g138 (rfl)))) hF58
            exact QM_round (k56 + 1, (), ()) sl2 (fun W hm => hm) ⟨(by omega), hn139⟩ (rl (by omega))
          ·have g102 : (decide (0 < ((k56 : Nat) : Int))) = false := decide_eq_false h101
           refine qs g102 ?_
           refine qs g102 ?_
           refine qs g102 ?_
           refine qs g102 ?_
           refine qs g102 ?_
           refine qs g102 ?_
           refine qs g102 ?_
           refine qs g102 ?_
           refine qs g102 ?_
           refine qs g102 ?_
           refine qs g102 ?_
           refine qs g102 ?_
           refine qs g102 ?_
           refine qs g102 ?_
           refine qs g102 ?_
           refine qs g102 ?_
           refine qg (vpF g102) (nt g100) ?_
           refine qv (vpF (nt g100)) ?_
           refine nq' ?_
           refine CM_condF rfl rfl ?_
           refine CM_skip (QM_block_normal (QM_then (CM_region (wm ?_))))
           refine wv (vadN k56 1 (by omega)) ?_
           refine wa (WM_nil ?_)
           have hn140 := rng_next (R := Bool) (body := F1) (k := k56) (s := ()) (s' := ()) (show k56 < x0.Active.length from by omega) (show spec_IsEngine_b1 x0 k56 = Sum.inr () from by unfold spec_IsEngine_b1; exact cond_t g100 (cond_f g102 (rfl))) hF58
           exact QM_round (k56 + 1, (), ()) sl2 (fun W hm => hm) ⟨(by omega), hn140⟩ (rl (by omega))
         ·
          refine qs (nf g100) ?_
          refine qs (nf g100) ?_
          refine qs (nf g100) ?_
          refine qu ?_
          refine qu ?_
          refine qu ?_
          refine qu ?_
          refine qu ?_
          refine qu ?_
          refine qu ?_
          refine qu ?_
          refine qu ?_
          refine qu ?_
          refine qu ?_
          refine qu ?_
          refine qu ?_
          refine qu ?_
          refine qu ?_
          refine qu ?_
          refine qs (nf g100) ?_
          refine qv (vpT (nf g100)) ?_
          refine nq' ?_
          refine CM_condT rfl rfl ?_
          refine sr (wa (nt' (CM_ret (QM_block_ret (QM_then_ret (QM_then_ret (QM_block_ret (QM_then_ret ?_))))))))
          exact rtb (h := by unfold spec_IsEngine_m; exact cond_t g43 (cond_t g45 (cond_t g47 (cond_f g49 (cond_t g51 (cond_f g53 (cond_f g55 (fin_inl (rng_ret (body := F1) (k := k56) (s := ()) (show k56 < x0.Active.length from by omega) (show spec_IsEngine_b1 x0 k56 = Sum.inl false from by unfold spec_IsEngine_b1; exact cond_f g100 (rfl)) hF58) rfl))))))))
        ·have g61 : (decide (((k56 : Nat) : Int) < ((x0.Active.length : Nat) : Int))) = false := decide_eq_false (by omega)
         refine CM_condF rfl g61 ?_
         refine CM_exit (QM_then_exit (QM_then_exit ?_))
         have hE141 : R4 (x0.Active.length - 0) 0 () = Sum.inr () := rng_end hl60 hF58
         refine QM_block_hit (QM_then (CM_seq (sr (wa (nt' (CM_block ?_))))))
         let F2 := fun k (_ : Unit) => spec_IsEngine_b2 x0 k
         let R5 := rng (R := Bool) F2
         refine CM_loop (σ := Nat × (Unit) × (Unit)) (fun s => [(1, .pointer (some (⟨p41, 0, none⟩ : Addr))), (4, .int .i64 ((s.1 : Nat) : Int))]) (fun s => [iBox p41 47 K7]) (fun s => s.1 ≤ x0.Done.length ∧ R5 (x0.Done.length - s.1) s.1 s.2.1 = R5 (x0.Done.length - 0) 0 ()) (fun s => x0.Done.length - s.1) (0, (), ()) sl2 (fun W hm => hm) ⟨(by omega), rfl⟩ ?_
         rintro ⟨k142, ⟨⟩, ⟨⟩⟩ H145
         obtain ⟨hk143, hF144⟩ : k142 ≤ x0.Done.length ∧ R5 (x0.Done.length - k142) k142 () = R5 (x0.Done.length - 0) 0 () := H145
         show CM Tryz.prog 140 _ _ _ _ [(1, .pointer (some (⟨p41, 0, none⟩ : Addr))), (4, .int .i64 ((k142 : Nat) : Int))] [iBox p41 47 K7]
         refine CM_seq (sr (wm ?_))
         refine wv (vf underlying47 rfl type44) ?_
         refine wv (vl 0 5 underlying44) ?_
         refine wv (vlen underlying44) ?_
         refine wv vlss ?_
         refine nt' ?_
         by_cases hl146 : k142 < x0.Done.length
         ·have g147 : (decide (((k142 : Nat) : Int) < ((x0.Done.length : Nat) : Int))) = true := decide_eq_true (by omega)
          refine CM_condT rfl g147 ?_
          refine CM_skip (QM_then (CM_seq (CM_block (sr ?_))))
          refine wv (vf underlying47 rfl type44) ?_
          refine wv (vl 0 5 underlying44) ?_
          refine wm ?_
          obtain ⟨a148, rfl, hb149, he150⟩ := q29 (by omega)
          refine wv (vix 7 k142 underlying44 type37) ?_
          obtain ⟨_, e158, hc151⟩ := he150 k142 _ (gt_some (show k142 < x0.Done.length from by omega))
          obtain ⟨v152, v154, v156, rfl, r153, r155, r157⟩ := tyFinished_rd e158
          have l159 : ((gt x0.Done k142).Query.Conds).length ≤ 68719476736 := (s_0.2.2.2.1.2 _ (gt_mem (show k142 < x0.Done.length from by omega))).1.1
          have l160 : ((gt x0.Done k142).Query.Out).length ≤ 68719476736 := (s_0.2.2.2.1.2 _ (gt_mem (show k142 < x0.Done.length from by omega))).1.2
          have l161 : ((gt x0.Done k142).Rows).length ≤ 68719476736 := (s_0.2.2.2.1.2 _ (gt_mem (show k142 < x0.Done.length from by omega))).2.1
          have r166 := r153
          obtain ⟨m162, A163, c164, rfl, q165⟩ := r153
          have r171 := r155
          obtain ⟨m167, A168, c169, rfl, q170⟩ := r155
          have r176 := r157
          obtain ⟨m172, A173, c174, rfl, q175⟩ := r157
          let K8 : List Value := [.int .i64 ((gt x0.Done k142).Query.Id), .int .i64 ((gt x0.Done k142).Query.Tenant), .slice A163 ((gt x0.Done k142).Query.Conds).length c164, .slice A168 ((gt x0.Done k142).Query.Out).length c169, .int .i64 ((gt x0.Done k142).Time), .int .i64 ((gt x0.Done k142).Steps), .slice A173 ((gt x0.Done k142).Rows).length c174]
          refine wv (fun W hm => rv_loadN (cs := K8) underlying37 type37 rfl rfl (hm.elCells (show (a148.add (k142 * 7)).block < w.heap.size from by rw [add_block]; exact hb149.1) hc151)) ?_
          refine WM_alloc type37 rfl (Wd_none rfl) (by decide) (fun p177 => ?_)
          refine sb 0 K8 [iBox p41 47 [.slice A12 x0.Store.Segments.length c13, .int .i64 x0.Store.Now, .int .i64 x0.Cursor, .slice A17 x0.Order.length c18, .slice A22 x0.Active.length c23, .slice (some a148) x0.Done.length c28, .slice A32 x0.Ledger.length c33, .int .i64 x0.Steps]] (fun W hm => hm) type37 ?_
          refine nt' (sr ?_)
          refine wv (vf underlying37 rfl type34) ?_
          refine wv (fun W hm => rv_loadN (cs := [.int .i64 ((gt x0.Done k142).Query.Id), .int .i64 ((gt x0.Done k142).Query.Tenant), .slice A163 ((gt x0.Done k142).Query.Conds).length c164, .slice A168 ((gt x0.Done k142).Query.Out).length c169]) underlying34 type34 rfl rfl (hm.boxPart (n := 0) rfl rfl)) ?_
          refine wcv (cl_fn cb127 rfl) (fun W hm => spec_IsQuery_c W _ ((gt x0.Done k142).Query) (tyQuery_mk (x := ((gt x0.Done k142).Query)) (hm.rdS0 r166) (hm.rdS0 r171))) ?_
          refine wv vnot ?_
          refine wm ?_
          rcases Bool.eq_false_or_eq_true (spec_IsQuery_m ((gt x0.Done k142).Query)) with g179 | g179
          ·
           refine wg (vf underlying37 rfl type3) (nt g179) ?_
           refine wg (vl 0 4 underlying3) (nt g179) ?_
           refine wg (vf underlying47 rfl type42) (nt g179) ?_
           refine wg (fun W hm => rv_fieldA (o := 1) underlying42 rfl type3 (by decide) rfl rfl) (nt g179) ?_
           refine wg (vl 1 1 underlying3) (nt g179) ?_
           refine WM_callV (cl_fn cb128 rfl) (fun W hm => spec_l1In_c W ((gt x0.Done k142).Time) 0 x0.Store.Now) (Wd_some rfl rfl rfl (bw (nt g179) rfl)) (by decide) ?_
           refine wg vnot (nt g179) ?_
           refine wv (vpF (nt g179)) ?_
           refine wm ?_
           rcases Bool.eq_false_or_eq_true (spec_l1In_m ((gt x0.Done k142).Time) 0 x0.Store.Now) with g181 | g181
           ·
            have hw := spec_l1In_fact g181
            refine wg (vf underlying37 rfl type3) (nt g181) ?_
            refine wg (vl 0 5 underlying3) (nt g181) ?_
            refine WM_callV (cl_fn cb128 rfl) (fun W hm => spec_l1In_c W ((gt x0.Done k142).Steps) 0 100000) (Wd_some rfl rfl rfl (bw (nt g181) rfl)) (by decide) ?_
            refine wg vnot (nt g181) ?_
            refine wv (vpF (nt g181)) ?_
            refine wm ?_
            rcases Bool.eq_false_or_eq_true (spec_l1In_m ((gt x0.Done k142).Steps) 0 100000) with g183 | g183
            ·
             have hw := spec_l1In_fact g183
             refine wg (vf underlying37 rfl type35) (nt g183) ?_
             refine wg (vl 0 6 underlying35) (nt g183) ?_
             refine WM_callV (cl_fn cb153 rfl) (fun W hm => spec_l9List_c W _ ((gt x0.Done k142).Rows) (hm.rdS0 r176)) (Wd_some rfl rfl rfl (bw (nt g183) rfl)) (by decide) ?_
             refine wg vnot (nt g183) ?_
             refine wv (vpF (nt g183)) ?_
             refine nt' ?_
             rcases Bool.eq_false_or_eq_true (spec_l9List_m ((gt x0.Done k142).Rows)) with g185 | g185
             ·
              refine CM_condF rfl (nt g185) ?_
              refine CM_skip (QM_block_normal (QM_then (CM_region (wm ?_))))
              refine wv (vadN k142 1 (by omega)) ?_
              refine wa (WM_nil ?_)
              have hn186 := rng_next (R := Bool) (body := F2) (k := k142) (s := ()) (s' := ()) (show k142 < x0.Done.length from by omega) (show spec_IsEngine_b2 x0 k142 = Sum.inr () from by unfold spec_IsEngine_b2; exact cond_t g179 (cond_t g181 (cond_t g183 (cond_t g185 (rfl))))) hF144
              exact QM_round (k142 + 1, (), ()) sl2 (pk [1]) ⟨(by omega), hn186⟩ (rl (by omega))
             ·
              refine CM_condT rfl (nf g185) ?_
              refine sr (wa (nt' (CM_ret (QM_block_ret (QM_then_ret (QM_then_ret (QM_block_ret (QM_then_ret ?_))))))))
              exact rtb (h := by unfold spec_IsEngine_m; exact cond_t g43 (cond_t g45 (cond_t g47 (cond_f g49 (cond_t g51 (cond_f g53 (cond_f g55 (fin_inr hE141 (fin_inl (rng_ret (body := F2) (k := k142) (s := ()) (show k142 < x0.Done.length from by omega) (show spec_IsEngine_b2 x0 k142 = Sum.inl false from by unfold spec_IsEngine_b2; exact cond_t g179 (cond_t g181 (cond_t g183 (cond_f g185 (rfl))))) hF144) rfl)))))))))
            ·
             refine ws (nf g183) ?_
             refine ws (nf g183) ?_
             refine ws (nf g183) ?_
             refine ws (nf g183) ?_
             refine wv (vpT (nf g183)) ?_
             refine nt' ?_
             refine CM_condT rfl rfl ?_
             refine sr (wa (nt' (CM_ret (QM_block_ret (QM_then_ret (QM_then_ret (QM_block_ret (QM_then_ret ?_))))))))
             exact rtb (h := by unfold spec_IsEngine_m; exact cond_t g43 (cond_t g45 (cond_t g47 (cond_f g49 (cond_t g51 (cond_f g53 (cond_f g55 (fin_inr hE141 (fin_inl (rng_ret (body := F2) (k := k142) (s := ()) (show k142 < x0.Done.length from by omega) (show spec_IsEngine_b2 x0 k142 = Sum.inl false from by unfold spec_IsEngine_b2; exact cond_t g179 (cond_t g181 (cond_f g183 (rfl)))) hF144) rfl)))))))))
           ·
            refine ws (nf g181) ?_
            refine ws (nf g181) ?_
            refine ws (nf g181) ?_
            refine ws (nf g181) ?_
            refine wv (vpT (nf g181)) ?_
            refine wm ?_
            refine wk ?_
            refine wk ?_
            refine wk ?_
            refine wk ?_
            refine wv (vpT rfl) ?_
            refine nt' ?_
            refine CM_condT rfl rfl ?_
            refine sr (wa (nt' (CM_ret (QM_block_ret (QM_then_ret (QM_then_ret (QM_block_ret (QM_then_ret ?_))))))))
            exact rtb (h := by unfold spec_IsEngine_m; exact cond_t g43 (cond_t g45 (cond_t g47 (cond_f g49 (cond_t g51 (cond_f g53 (cond_f g55 (fin_inr hE141 (fin_inl (rng_ret (body := F2) (k := k142) (s := ()) (show k142 < x0.Done.length from by omega) (show spec_IsEngine_b2 x0 k142 = Sum.inl false from by unfold spec_IsEngine_b2; exact cond_t g179 (cond_f g181 (rfl))) hF144) rfl)))))))))
          ·
           refine ws (nf g179) ?_
           refine ws (nf g179) ?_
           refine ws (nf g179) ?_
           refine ws (nf g179) ?_
           refine ws (nf g179) ?_
           refine ws (nf g179) ?_
           refine ws (nf g179) ?_
           refine wv (vpT (nf g179)) ?_
           refine wm ?_
           refine wk ?_
           refine wk ?_
           refine wk ?_
           refine wk ?_
           refine wv (vpT rfl) ?_
           refine wm ?_
           refine wk ?_
           refine wk ?_
           refine wk ?_
           refine wk ?_
           refine wv (vpT rfl) ?_
           refine nt' ?_
           refine CM_condT rfl rfl ?_
           refine sr (wa (nt' (CM_ret (QM_block_ret (QM_then_ret (QM_then_ret (QM_block_ret (QM_then_ret ?_))))))))
           exact rtb (h := by unfold spec_IsEngine_m; exact cond_t g43 (cond_t g45 (cond_t g47 (cond_f g49 (cond_t g51 (cond_f g53 (cond_f g55 (fin_inr hE141 (fin_inl (rng_ret (body := F2) (k := k142) (s := ()) (show k142 < x0.Done.length from by omega) (show spec_IsEngine_b2 x0 k142 = Sum.inl false from by unfold spec_IsEngine_b2; exact cond_f g179 (rfl)) hF144) rfl)))))))))
         ·have g147 : (decide (((k142 : Nat) : Int) < ((x0.Done.length : Nat) : Int))) = false := decide_eq_false (by omega)
          refine CM_condF rfl g147 ?_
          refine CM_exit (QM_then_exit (QM_then_exit ?_))
          have hE187 : R5 (x0.Done.length - 0) 0 () = Sum.inr () := rng_end hl146 hF144
          refine QM_block_hit (QM_then (CM_seq (sr (wa (nt' (CM_block ?_))))))
          let F3 := fun k (_ : Unit) => spec_IsEngine_b3 x0 k
          let R6 := rng (R := Bool) F3
          refine CM_loop (σ := Nat × (Unit) × (Unit)) (fun s => [(1, .pointer (some (⟨p41, 0, none⟩ : Addr))), (6, .int .i64 ((s.1 : Nat) : Int))]) (fun s => [iBox p41 47 K7]) (fun s => s.1 ≤ x0.Ledger.length ∧ R6 (x0.Ledger.length - s.1) s.1 s.2.1 = R6 (x0.Ledger.length - 0) 0 ()) (fun s => x0.Ledger.length - s.1) (0, (), ()) sl2 (fun W hm => hm) ⟨(by omega), rfl⟩ ?_
          rintro ⟨k188, ⟨⟩, ⟨⟩⟩ H191
          obtain ⟨hk189, hF190⟩ : k188 ≤ x0.Ledger.length ∧ R6 (x0.Ledger.length - k188) k188 () = R6 (x0.Ledger.length - 0) 0 () := H191
          show CM Tryz.prog 140 _ _ _ _ [(1, .pointer (some (⟨p41, 0, none⟩ : Addr))), (6, .int .i64 ((k188 : Nat) : Int))] [iBox p41 47 K7]
          refine CM_seq (sr (wm ?_))
          refine wv (vf underlying47 rfl type45) ?_
          refine wv (vl 0 6 underlying45) ?_
          refine wv (vlen underlying45) ?_
          refine wv vlss ?_
          refine nt' ?_
          by_cases hl192 : k188 < x0.Ledger.length
          ·have g193 : (decide (((k188 : Nat) : Int) < ((x0.Ledger.length : Nat) : Int))) = true := decide_eq_true (by omega)
           refine CM_condT rfl g193 ?_
           refine CM_skip (QM_then (CM_seq (CM_block (sr ?_))))
           refine wv (vf underlying47 rfl type45) ?_
           refine wv (vl 0 6 underlying45) ?_
           refine wm ?_
           obtain ⟨a194, rfl, hb195, he196⟩ := q34 (by omega)
           refine wv (vix 5 k188 underlying45 type133) ?_
           obtain ⟨_, e204, hc197⟩ := he196 k188 _ (gt_some (show k188 < x0.Ledger.length from by omega))
           obtain ⟨v198, v200, v202, rfl, r199, r201, r203⟩ := tyCharge_rd e204
           have l205 : ((gt x0.Ledger k188).Ids).length ≤ 68719476736 := (s_0.2.2.2.2.2 _ (gt_mem (show k188 < x0.Ledger.length from by omega))).1
           have l206 : ((gt x0.Ledger k188).Tenants).length ≤ 68719476736 := (s_0.2.2.2.2.2 _ (gt_mem (show k188 < x0.Ledger.length from by omega))).2.1
           have l207 : ((gt x0.Ledger k188).Rows).length ≤ 68719476736 := (s_0.2.2.2.2.2 _ (gt_mem (show k188 < x0.Ledger.length from by omega))).2.2
           have r212 := r199
           obtain ⟨m208, A209, c210, rfl, q211⟩ := r199
           have r217 := r201
           obtain ⟨m213, A214, c215, rfl, q216⟩ := r201
           have r222 := r203
           obtain ⟨m218, A219, c220, rfl, q221⟩ := r203
           refine wv (fun W hm => rv_loadN (cs := [.int .i64 ((gt x0.Ledger k188).Segment), .int .i64 ((gt x0.Ledger k188).Base), .slice A209 ((gt x0.Ledger k188).Ids).length c210, .slice A214 ((gt x0.Ledger k188).Tenants).length c215, .slice A219 ((gt x0.Ledger k188).Rows).length c220]) underlying133 type133 rfl rfl (hm.elCells (show (a194.add (k188 * 5)).block < w.heap.size from by rw [add_block]; exact hb195.1) hc197)) ?_
           refine wcv (cl_fn cb154 rfl) (fun W hm => spec_IsCharge_c W _ (gt x0.Ledger k188) (tyCharge_mk (x := (gt x0.Ledger k188)) (hm.rdS0 r212) (hm.rdS0 r217) (hm.rdS0 r222))) ?_
           refine wv vnot ?_
           refine nt' ?_
           rcases Bool.eq_false_or_eq_true (spec_IsCharge_m (gt x0.Ledger k188)) with g224 | g224
           ·
            refine CM_condF rfl (nt g224) ?_
            refine CM_skip (QM_block_normal (QM_then (CM_region (wm ?_))))
            refine wv (vadN k188 1 (by omega)) ?_
            refine wa (WM_nil ?_)
            have hn225 := rng_next (R := Bool) (body := F3) (k := k188) (s := ()) (s' := ()) (show k188 < x0.Ledger.length from by omega) (show spec_IsEngine_b3 x0 k188 = Sum.inr () from by unfold spec_IsEngine_b3; exact cond_t g224 (rfl)) hF190
            exact QM_round (k188 + 1, (), ()) sl2 (fun W hm => hm) ⟨(by omega), hn225⟩ (rl (by omega))
           ·
            refine CM_condT rfl (nf g224) ?_
            refine sr (wa (nt' (CM_ret (QM_block_ret (QM_then_ret (QM_then_ret (QM_block_ret (QM_then_ret ?_))))))))
            exact rtb (h := by unfold spec_IsEngine_m; exact cond_t g43 (cond_t g45 (cond_t g47 (cond_f g49 (cond_t g51 (cond_f g53 (cond_f g55 (fin_inr hE141 (fin_inr hE187 (fin_inl (rng_ret (body := F3) (k := k188) (s := ()) (show k188 < x0.Ledger.length from by omega) (show spec_IsEngine_b3 x0 k188 = Sum.inl false from by unfold spec_IsEngine_b3; exact cond_f g224 (rfl)) hF190) rfl))))))))))
          ·have g193 : (decide (((k188 : Nat) : Int) < ((x0.Ledger.length : Nat) : Int))) = false := decide_eq_false (by omega)
           refine CM_condF rfl g193 ?_
           refine CM_exit (QM_then_exit (QM_then_exit ?_))
           have hE226 : R6 (x0.Ledger.length - 0) 0 () = Sum.inr () := rng_end hl192 hF190
           refine QM_block_hit (QM_then (sr (wa (nt' (CM_ret ?_)))))
           exact rtb (h := by unfold spec_IsEngine_m; exact cond_t g43 (cond_t g45 (cond_t g47 (cond_f g49 (cond_t g51 (cond_f g53 (cond_f g55 (fin_inr hE141 (fin_inr hE187 (fin_inr hE226 (rfl)))))))))))
     ·
      refine ws (nf g51) ?_
      refine ws (nf g51) ?_
      refine ws (nf g51) ?_
      refine ws (nf g51) ?_
      refine wv (vpT (nf g51)) ?_
      refine wm ?_
      refine wk ?_
      refine wk ?_
      refine wk ?_
      refine wk ?_
      refine wv (vpT rfl) ?_
      refine nt' ?_
      refine CM_condT rfl rfl ?_
      refine sr (wa (nt' (CM_ret (QM_then_ret ?_))))
      exact rtb (h := by unfold spec_IsEngine_m; exact cond_t g43 (cond_t g45 (cond_t g47 (cond_f g49 (cond_f g51 (rfl))))))
   ·
    refine ws (nf g47) ?_
    refine ws (nf g47) ?_
    refine ws (nf g47) ?_
    refine ws (nf g47) ?_
    refine wv (vpT (nf g47)) ?_
    refine wm ?_
    refine wk ?_
    refine wk ?_
    refine wk ?_
    refine wk ?_
    refine wv (vpT rfl) ?_
    refine wm ?_
    refine wk ?_
    refine wk ?_
    refine wk ?_
    refine wk ?_
    refine wv (vpT rfl) ?_
    refine wm ?_
    refine wk ?_
    refine wk ?_
    refine wk ?_
    refine wk ?_
    refine wv (vpT rfl) ?_
    refine nt' ?_
    refine CM_condT rfl rfl ?_
    refine sr (wa (nt' (CM_ret (QM_then_ret ?_))))
    exact rtb (h := by unfold spec_IsEngine_m; exact cond_t g43 (cond_t g45 (cond_f g47 (rfl))))
  ·
   refine ws (nf g45) ?_
   refine ws (nf g45) ?_
   refine ws (nf g45) ?_
   refine ws (nf g45) ?_
   refine wv (vpT (nf g45)) ?_
   refine wm ?_
   refine wk ?_
   refine wk ?_
   refine wk ?_
   refine wk ?_
   refine wv (vpT rfl) ?_
   refine wm ?_
   refine wk ?_
   refine wk ?_
   refine wk ?_
   refine wk ?_
   refine wv (vpT rfl) ?_
   refine wm ?_
   refine wk ?_
   refine wk ?_
   refine wk ?_
   refine wk ?_
   refine wv (vpT rfl) ?_
   refine wm ?_
   refine wk ?_
   refine wk ?_
   refine wk ?_
   refine wk ?_
   refine wv (vpT rfl) ?_
   refine nt' ?_
   refine CM_condT rfl rfl ?_
   refine sr (wa (nt' (CM_ret (QM_then_ret ?_))))
   exact rtb (h := by unfold spec_IsEngine_m; exact cond_t g43 (cond_f g45 (rfl)))
 ·
  refine ws (nf g43) ?_
  refine ws (nf g43) ?_
  refine ws (nf g43) ?_
  refine ws (nf g43) ?_
  refine ws (nf g43) ?_
  refine ws (nf g43) ?_
  refine ws (nf g43) ?_
  refine ws (nf g43) ?_
  refine ws (nf g43) ?_
  refine wv (vpT (nf g43)) ?_
  refine wm ?_
  refine wk ?_
  refine wk ?_
  refine wk ?_
  refine wk ?_
  refine wv (vpT rfl) ?_
  refine wm ?_
  refine wk ?_
  refine wk ?_
  refine wk ?_
  refine wk ?_
  refine wv (vpT rfl) ?_
  refine wm ?_
  refine wk ?_
  refine wk ?_
  refine wk ?_
  refine wk ?_
  refine wv (vpT rfl) ?_
  refine wm ?_
  refine wk ?_
  refine wk ?_
  refine wk ?_
  refine wk ?_
  refine wv (vpT rfl) ?_
  refine wm ?_
  refine wk ?_
  refine wk ?_
  refine wk ?_
  refine wk ?_
  refine wv (vpT rfl) ?_
  refine nt' ?_
  refine CM_condT rfl rfl ?_
  refine sr (wa (nt' (CM_ret (QM_then_ret ?_))))
  exact rtb (h := by unfold spec_IsEngine_m; exact cond_f g43 (rfl))

def spec_l7One_m (x0 : Int) (x1 : (List Int)) (x2 : Int) (x3 : Int) : DVersion :=
 (⟨x0, x1, x2, x3⟩ : DVersion)
theorem cb231 : Cb Tryz.prog 231 := ⟨f231, _, func231, rfl, by decide⟩
theorem spec_l7One_c (w : World) (x0 : Int) (z1 : Value) (x1 : (List Int)) (x2 : Int) (x3 : Int) (r_1 : rdS tInt w w.heap.size z1 x1) (s_1 : x1.length ≤ 68719476736) :
  Calls Tryz.prog 231 #[.int .i64 x0, z1, .int .i64 x2, .int .i64 x3] w fun e w' => ∃ v : List Value, e = .returned (.agg v.toArray) ∧ Mem w.heap.size w [iOwn tyVersion v (spec_l7One_m x0 x1 x2 x3)] w' := by
 have r5 := r_1
 obtain ⟨m1, A2, c3, rfl, q4⟩ := r_1
 have l6 : x1.length ≤ 68719476736 := s_1
 refine ce4 (L := [(0, .int .i64 x0), (1, .slice A2 x1.length c3), (2, .int .i64 x2), (3, .int .i64 x3)]) (N := 16) func231 ?_
 refine sr ?_
 refine WM_alloc type191 rfl (Wd_none rfl) (by decide) (fun p7 => ?_)
 refine nt' (sr (wm ?_))
 refine WM_build0 (E := tInt) underlying25 type3 (Wd_none rfl) (by decide) (fun p8 => ?_)
 refine wm ?_
 refine apR tInt tInt 3 (.slice (some ⟨p8, 0, none⟩) 0 0) [] x1 [iBox p7 191 [.int .i64 0, .slice none 0 0, .int .i64 0, .int .i64 0]] (fun W hm => hm) (fun W hm => src_flat flat_int (hm.rdS0 r5)) underlying25 type3 (show (0 + x1.length) * 8 ≤ 140737488355328 from by omega) (fun v10 => ?_)
 refine WM_form (n := 0) rfl ?_
 rintro A11 c12 rfl m13
 refine wm (wm ?_)
 let K1 : List Value := [.int .i64 x0, .slice A11 x1.length c12, .int .i64 x2, .int .i64 x3]
 refine wv (fun W hm => rv_build (cs := K1) rfl (by kernel_rfl)) ?_
 let I2 : It := iOwn (tSl tInt 3) [.slice A11 x1.length c12] x1
 refine sb 0 K1 [I2] (pk [1, 0]) type191 ?_
 refine nt' (CM_ret ?_)
 refine QM_r1 rfl (RR_cell (n := 0) rfl rfl underlying191 type191 rfl) (fun W hm => ⟨K1, ?_, ?_⟩)
 ·first | rw [(show spec_l7One_m x0 x1 x2 x3 = (⟨x0, x1, x2, x3⟩ : DVersion) from by unfold spec_l7One_m; exact rfl)] | rfl
 ·rw [(show spec_l7One_m x0 x1 x2 x3 = (⟨x0, x1, x2, x3⟩ : DVersion) from by unfold spec_l7One_m; exact rfl)]; exact Mem.join (is := [I2]) (js := []) (fun _ _ hs => tyVersion_join (x := (⟨x0, x1, x2, x3⟩ : DVersion)) hs) (hm.pick [1] (by decide))

def spec_l7Part_b1 (x0 : (List DVersion)) (k9 : Nat) (d10 : (List DVersion)) : (List DVersion) ⊕ ((List DVersion)) :=
 Sum.inr (d10 ++ [(spec_l7One_m ((gt x0 k9).Id) ((gt x0 k9).Values) ((gt x0 k9).Born) ((gt x0 k9).Died))])
def spec_l7Part_m (x0 : (List DVersion)) : (List DVersion) :=
 Sum.elim id (fun (s : (List DVersion)) => s) (rng (R := (List DVersion)) (fun k (s : (List DVersion)) => spec_l7Part_b1 x0 k s) (x0.length - 0) 0 [])
theorem cb213 : Cb Tryz.prog 213 := ⟨f213, _, func213, rfl, by decide⟩
theorem spec_l7Part_c (w : World) (z0 : Value) (x0 : (List DVersion)) (r_0 : rdS tyVersion w w.heap.size z0 x0) (s_0 : (x0.length ≤ 68719476736 ∧ ∀ y ∈ x0, smVersion 68719476736 y)) :
  Calls Tryz.prog 213 #[z0] w fun e w' => ∃ v : Value, e = .returned (v) ∧ Mem w.heap.size w [iOwn (tSl tyVersion 191) [v] (spec_l7Part_m x0)] w' := by
 have r5 := r_0
 obtain ⟨m1, A2, c3, rfl, q4⟩ := r_0
 have l6 : x0.length ≤ 68719476736 := s_0.1
 refine ce1 (L := [(0, .slice A2 x0.length c3)]) (N := 37) func213 ?_
 refine sr (wa (nt' (sr ?_)))
 refine WM_build0 (E := tyVersion) underlying131 type191 (Wd_none rfl) (by decide) (fun p7 => ?_)
 refine wa (nt' (CM_seq (sr (wa (nt' (CM_block ?_))))))
 let F1 := fun k (s : (List DVersion)) => spec_l7Part_b1 x0 k s
 let R2 := rng (R := (List DVersion)) F1
 refine CM_loop (σ := Nat × ((List DVersion)) × (Option Addr × Nat)) (fun s => [(0, .slice A2 x0.length c3), (3, .slice s.2.2.1 s.2.1.length s.2.2.2), (4, .int .i64 ((s.1 : Nat) : Int))]) (fun s => [iOwn (tSl tyVersion 191) [.slice s.2.2.1 s.2.1.length s.2.2.2] s.2.1]) (fun s => s.1 ≤ x0.length ∧ R2 (x0.length - s.1) s.1 s.2.1 = R2 (x0.length - 0) 0 [] ∧ s.2.1.length ≤ 0 + s.1) (fun s => x0.length - s.1) (0, [], ((some ⟨p7, 0, none⟩), 0)) sl3 (fun W hm => hm) ⟨(by omega), rfl, Nat.le_refl _⟩ ?_
 rintro ⟨k9, d10, ⟨A11, c12⟩⟩ H15
 obtain ⟨hk13, hF14, hi16⟩ : k9 ≤ x0.length ∧ R2 (x0.length - k9) k9 d10 = R2 (x0.length - 0) 0 [] ∧ d10.length ≤ 0 + k9 := H15
 show CM Tryz.prog 37 _ _ _ _ [(0, .slice A2 x0.length c3), (3, .slice A11 d10.length c12), (4, .int .i64 ((k9 : Nat) : Int))] [iOwn (tSl tyVersion 191) [.slice A11 d10.length c12] d10]
 refine CM_seq (sr (wm (wm ?_)))
 refine wv (vlen underlying131) ?_
 refine wv vlss ?_
 refine nt' ?_
 by_cases hl17 : k9 < x0.length
 ·have g18 : (decide (((k9 : Nat) : Int) < ((x0.length : Nat) : Int))) = true := decide_eq_true (by omega)
  refine CM_condT rfl g18 ?_
  refine CM_skip (QM_then (CM_seq (CM_block ?_)))
  refine rb 25 (s := []) (pk []) ?_
  refine qt 25 0 1 rfl vmv ?_
  refine qt 25 1 3 rfl vmv ?_
  refine qt 25 2 7 rfl vmv ?_
  obtain ⟨a19, rfl, hb20, he21⟩ := q4 (by omega)
  refine qt 25 3 15 rfl (vix 4 k9 underlying131 type191) ?_
  refine qt 25 4 31 rfl (vf underlying191 rfl type3) ?_
  obtain ⟨_, e25, hc22⟩ := he21 k9 _ (gt_some (show k9 < x0.length from by omega))
  obtain ⟨v23, rfl, r24⟩ := tyVersion_rd e25
  have l26 : ((gt x0 k9).Values).length ≤ 68719476736 := (s_0.2 _ (gt_mem (show k9 < x0.length from by omega)))
  have r31 := r24
  obtain ⟨m27, A28, c29, rfl, q30⟩ := r24
  refine qt 25 5 63 rfl (fun W hm => rv_load underlying3 rfl rfl ((hm.cell0 (show ((a19.add (k9 * 4)).add 0).block < w.heap.size from by rw [add_block, add_block]; exact hb20.1)).trans (hc22 0 _ rfl))) ?_
  refine qt 25 6 127 rfl vmv ?_
  refine qt 25 7 255 rfl vmv ?_
  refine qt 25 8 511 rfl (vix 4 k9 underlying131 type191) ?_
  refine qt 25 9 1023 rfl (vf underlying191 rfl type25) ?_
  refine qt 25 10 2047 rfl (fun W hm => rv_load underlying25 rfl rfl ((hm.cell0 (show ((a19.add (k9 * 4)).add 1).block < w.heap.size from by rw [add_block, add_block]; exact hb20.1)).trans (hc22 1 _ rfl))) ?_
  refine qt 25 11 4095 rfl vmv ?_
  refine qt 25 12 8191 rfl vmv ?_
  refine qt 25 13 16383 rfl (vix 4 k9 underlying131 type191) ?_
  refine qt 25 14 32767 rfl (vf underlying191 rfl type3) ?_
  refine qt 25 15 65535 rfl (fun W hm => rv_load underlying3 rfl rfl ((hm.cell0 (show ((a19.add (k9 * 4)).add 2).block < w.heap.size from by rw [add_block, add_block]; exact hb20.1)).trans (hc22 2 _ rfl))) ?_
  refine qt 25 16 131071 rfl vmv ?_
  refine qt 25 17 262143 rfl vmv ?_
  refine qt 25 18 524287 rfl (vix 4 k9 underlying131 type191) ?_
  refine qt 25 19 1048575 rfl (vf underlying191 rfl type3) ?_
  refine qt 25 20 2097151 rfl (fun W hm => rv_load underlying3 rfl rfl ((hm.cell0 (show ((a19.add (k9 * 4)).add 3).block < w.heap.size from by rw [add_block, add_block]; exact hb20.1)).trans (hc22 3 _ rfl))) ?_
  refine qo 25 21 4194303 rfl ?_
  refine wcs tyVersion (spec_l7One_m ((gt x0 k9).Id) ((gt x0 k9).Values) ((gt x0 k9).Born) ((gt x0 k9).Died)) (cl_fn cb231 rfl) (fun W hm => spec_l7One_c W ((gt x0 k9).Id) _ ((gt x0 k9).Values) ((gt x0 k9).Born) ((gt x0 k9).Died) (hm.rdS0 r31) (s_0.2 _ (gt_mem (show k9 < x0.length from by omega)))) (fun z32 => ?_)
  refine tyVersion_sp ?_
  rintro v33 rfl
  refine WM_form (n := 0) rfl ?_
  rintro A34 c35 rfl m36
  refine qn (pk []) ?_
  refine qo 25 22 8388607 rfl ?_
  let K3 : List Value := [.int .i64 ((spec_l7One_m ((gt x0 k9).Id) ((gt x0 k9).Values) ((gt x0 k9).Born) ((gt x0 k9).Died)).Id), .slice A34 ((spec_l7One_m ((gt x0 k9).Id) ((gt x0 k9).Values) ((gt x0 k9).Born) ((gt x0 k9).Died)).Values).length c35, .int .i64 ((spec_l7One_m ((gt x0 k9).Id) ((gt x0 k9).Values) ((gt x0 k9).Born) ((gt x0 k9).Died)).Born), .int .i64 ((spec_l7One_m ((gt x0 k9).Id) ((gt x0 k9).Values) ((gt x0 k9).Born) ((gt x0 k9).Died)).Died)]
  refine WM_build (cs := K3) underlying131 type191 rfl (by decide) (by decide) rfl (by kernel_rfl) (Wd_none rfl) (by decide) (fun p38 => ?_)
  refine qn (pk []) ?_
  refine qo 25 23 16777215 rfl ?_
  refine ap1 tyVersion 191 (.slice A11 d10.length c12) d10 (spec_l7One_m ((gt x0 k9).Id) ((gt x0 k9).Values) ((gt x0 k9).Born) ((gt x0 k9).Died)) [iOwn (tSl tInt 3) [.slice A34 ((spec_l7One_m ((gt x0 k9).Id) ((gt x0 k9).Values) ((gt x0 k9).Born) ((gt x0 k9).Died)).Values).length c35] ((spec_l7One_m ((gt x0 k9).Id) ((gt x0 k9).Values) ((gt x0 k9).Born) ((gt x0 k9).Died)).Values)] [] K3 (pk [0, 2, 1]) (fun _ _ hs => Els.single (tyVersion_join (x := (spec_l7One_m ((gt x0 k9).Id) ((gt x0 k9).Values) ((gt x0 k9).Born) ((gt x0 k9).Died))) hs)) underlying131 type191 (show (d10.length + 1) * 48 ≤ 140737488355328 from by omega) (fun v39 => ?_)
  refine WM_form (n := 0) rfl ?_
  rintro A40 c41 rfl m42
  refine qn (pk []) ?_
  refine qt 25 24 33554431 rfl (fun W hm => rv_assign rfl) ?_
  refine QB_done (by kernel_rfl) ?_
  refine QM_block_normal (QM_then (CM_region (wm ?_)))
  refine wv (vadN k9 1 (by omega)) ?_
  refine wa (WM_nil ?_)
  have hn44 := rng_next (R := (List DVersion)) (body := F1) (k := k9) (s := d10) (s' := (d10 ++ [(spec_l7One_m ((gt x0 k9).Id) ((gt x0 k9).Values) ((gt x0 k9).Born) ((gt x0 k9).Died))])) (show k9 < x0.length from by omega) (show spec_l7Part_b1 x0 k9 d10 = Sum.inr (d10 ++ [(spec_l7One_m ((gt x0 k9).Id) ((gt x0 k9).Values) ((gt x0 k9).Born) ((gt x0 k9).Died))]) from by unfold spec_l7Part_b1; exact rfl) hF14
  exact QM_round (k9 + 1, (d10 ++ [(spec_l7One_m ((gt x0 k9).Id) ((gt x0 k9).Values) ((gt x0 k9).Born) ((gt x0 k9).Died))]), (A40, c41)) sl3 (fun W hm => hm) ⟨(by omega), hn44, (show (d10 ++ [(spec_l7One_m ((gt x0 k9).Id) ((gt x0 k9).Values) ((gt x0 k9).Born) ((gt x0 k9).Died))]).length ≤ 0 + (k9 + 1) from by first | omega | (simp only [List.length_append, List.length_cons, List.length_nil] at *; omega))⟩ (rl (by omega))
 ·have g18 : (decide (((k9 : Nat) : Int) < ((x0.length : Nat) : Int))) = false := decide_eq_false (by omega)
  refine CM_condF rfl g18 ?_
  refine CM_exit (QM_then_exit (QM_then_exit ?_))
  have hE45 : R2 (x0.length - 0) 0 [] = Sum.inr d10 := rng_end hl17 hF14
  refine QM_block_hit (QM_then (sr (wm (wa (nt' (CM_ret ?_))))))
  refine QM_r1 rfl (RR_tmp rfl) (fun W hm => ⟨.slice A11 d10.length c12, ?_, ?_⟩)
  ·first | rw [(show spec_l7Part_m x0 = d10 from by unfold spec_l7Part_m; exact fin_inr hE45 (rfl))] | rfl
  ·rw [(show spec_l7Part_m x0 = d10 from by unfold spec_l7Part_m; exact fin_inr hE45 (rfl))]; exact hm
theorem spec_l7Part_eq (x0 : (List DVersion)) : spec_l7Part_m x0 = x0 := by
 unfold spec_l7Part_m; rw [rng_app (xs := x0) (b := fun k s => spec_l7Part_b1 x0 k s) (fun _ _ => rfl)]; rfl
theorem spec_l7Part_c2 (w : World) (z0 : Value) (x0 : (List DVersion)) (r_0 : rdS tyVersion w w.heap.size z0 x0) (s_0 : (x0.length ≤ 68719476736 ∧ ∀ y ∈ x0, smVersion 68719476736 y)) :
  Calls Tryz.prog 213 #[z0] w fun e w' => ∃ v : Value, e = .returned (v) ∧ Mem w.heap.size w [iOwn (tSl tyVersion 191) [v] x0] w' := by
 have h := spec_l7Part_c w z0 x0 r_0 s_0
 rw [spec_l7Part_eq] at h
 exact h

def spec_l7Copy_b1 (x0 : DStore) (k12 : Nat) (d15 : (List (List DVersion))) : DStore ⊕ ((List (List DVersion))) :=
 Sum.inr (d15 ++ [(gt x0.Segments k12)])
def spec_l7Copy_m (x0 : DStore) : DStore :=
 Sum.elim id (fun (s : (List (List DVersion))) => (⟨s, x0.Now⟩ : DStore)) (rng (R := DStore) (fun k (s : (List (List DVersion))) => spec_l7Copy_b1 x0 k s) (x0.Segments.length - 0) 0 [])
theorem cb159 : Cb Tryz.prog 159 := ⟨f159, _, func159, rfl, by decide⟩
theorem spec_l7Copy_c (w : World) (z0 : List Value) (x0 : DStore) (r_0 : tyStore.rd w w.heap.size z0 x0) (s_0 : smStore 68719476736 x0) :
  Calls Tryz.prog 159 #[.agg z0.toArray] w fun e w' => ∃ v : List Value, e = .returned (.agg v.toArray) ∧ Mem w.heap.size w [iOwn tyStore v (spec_l7Copy_m x0)] w' := by
 obtain ⟨v1, rfl, r2⟩ := tyStore_rd r_0
 have r7 := r2
 obtain ⟨m3, A4, c5, rfl, q6⟩ := r2
 have l8 : x0.Segments.length ≤ 68719476736 := s_0.1
 refine ce1 (L := [(0, .agg #[.slice A4 x0.Segments.length c5, .int .i64 x0.Now])]) (N := 27) func159 ?_
 refine sr ?_
 refine WM_box rfl (Wd_none rfl) (by decide) (fun p9 => ?_)
 refine WM_alloc type42 rfl (Wd_none rfl) (by decide) (fun p10 => ?_)
 refine nt' (sr ?_)
 refine wv (vf underlying42 rfl type3) ?_
 refine wv (vl 1 1 underlying3) ?_
 refine wv (fun W hm => rv_build (cs := [.slice none 0 0, .int .i64 x0.Now]) rfl (by kernel_rfl)) ?_
 refine WM_alloc type42 rfl (Wd_none rfl) (by decide) (fun p11 => ?_)
 let I3 : It := iBox p9 42 [.slice A4 x0.Segments.length c5, .int .i64 x0.Now]
 refine sb 0 [.slice none 0 0, .int .i64 x0.Now] [iBox p10 42 [.slice none 0 0, .int .i64 0], I3] (fun W hm => hm) type42 ?_
 refine nt' (CM_seq (sr (wa (nt' (CM_block ?_)))))
 refine CM_items (fun W hm => (hm.addNil (E := (tSl tyVersion 191)) (e := 131)).last) ?_
 let F1 := fun k (s : (List (List DVersion))) => spec_l7Copy_b1 x0 k s
 let R2 := rng (R := DStore) F1
 refine CM_loop (σ := Nat × ((List (List DVersion))) × (Option Addr × Nat)) (fun s => [(1, .pointer (some (⟨p9, 0, none⟩ : Addr))), (2, .pointer (some (⟨p10, 0, none⟩ : Addr))), (3, .pointer (some (⟨p11, 0, none⟩ : Addr))), (4, .int .i64 ((s.1 : Nat) : Int))]) (fun s => [iBox p11 42 [.slice s.2.2.1 s.2.1.length s.2.2.2, .int .i64 x0.Now], iBox p10 42 [.slice none 0 0, .int .i64 0], I3, iOwn (tSl (tSl tyVersion 191) 131) [.slice s.2.2.1 s.2.1.length s.2.2.2] s.2.1]) (fun s => s.1 ≤ x0.Segments.length ∧ R2 (x0.Segments.length - s.1) s.1 s.2.1 = R2 (x0.Segments.length - 0) 0 [] ∧ s.2.1.length ≤ 0 + s.1) (fun s => x0.Segments.length - s.1) (0, [], (none, 0)) sl4 (fun W hm => hm) ⟨(by omega), rfl, Nat.le_refl _⟩ ?_
 rintro ⟨k12, d15, ⟨A16, c17⟩⟩ H20
 obtain ⟨hk18, hF19, hi21⟩ : k12 ≤ x0.Segments.length ∧ R2 (x0.Segments.length - k12) k12 d15 = R2 (x0.Segments.length - 0) 0 [] ∧ d15.length ≤ 0 + k12 := H20
 let I4 : It := iBox p11 42 [.slice A16 d15.length c17, .int .i64 x0.Now]
 let I5 : It := iOwn (tSl (tSl tyVersion 191) 131) [.slice A16 d15.length c17] d15
 show CM Tryz.prog 27 _ _ _ _ [(1, .pointer (some (⟨p9, 0, none⟩ : Addr))), (2, .pointer (some (⟨p10, 0, none⟩ : Addr))), (3, .pointer (some (⟨p11, 0, none⟩ : Addr))), (4, .int .i64 ((k12 : Nat) : Int))] [I4, iBox p10 42 [.slice none 0 0, .int .i64 0], I3, I5]
 refine CM_seq (sr (wm ?_))
 refine wv (vf underlying42 rfl type40) ?_
 refine wv (vl 2 0 underlying40) ?_
 refine wv (vlen underlying40) ?_
 refine wv vlss ?_
 refine nt' ?_
 by_cases hl22 : k12 < x0.Segments.length
 ·have g23 : (decide (((k12 : Nat) : Int) < ((x0.Segments.length : Nat) : Int))) = true := decide_eq_true (by omega)
  refine CM_condT rfl g23 ?_
  refine CM_skip (QM_then (CM_seq (CM_block ?_)))
  obtain ⟨a24, rfl, hb25, he26⟩ := q6 (by omega)
  obtain ⟨_, e28, hc27⟩ := he26 k12 _ (gt_some (show k12 < x0.Segments.length from by omega))
  have l29 : (gt x0.Segments k12).length ≤ 68719476736 := (s_0.2 _ (gt_mem (show k12 < x0.Segments.length from by omega))).1
  obtain ⟨v30, rfl, r31⟩ := e28
  have r36 := r31
  obtain ⟨m32, A33, c34, rfl, q35⟩ := r31
  let I6 : It := iBox p9 42 [.slice (some a24) x0.Segments.length c5, .int .i64 x0.Now]
  refine CM_cut (σ := Option Addr × Nat) (fun s => [(1, .pointer (some (⟨p9, 0, none⟩ : Addr))), (2, .pointer (some (⟨p10, 0, none⟩ : Addr))), (3, .pointer (some (⟨p11, 0, none⟩ : Addr))), (4, .int .i64 ((k12 : Nat) : Int))]) (fun s => [iBox p11 42 [.slice s.1 (d15 ++ [(gt x0.Segments k12)]).length s.2, .int .i64 x0.Now], iOwn (tSl (tSl tyVersion 191) 131) [.slice s.1 (d15 ++ [(gt x0.Segments k12)]).length s.2] (d15 ++ [(gt x0.Segments k12)]), iBox p10 42 [.slice none 0 0, .int .i64 0], I6]) (fun _ => True) ?_ ?_
  ·
   refine rb 12 (s := [iBox p10 42 [.slice none 0 0, .int .i64 0]]) (pk [1]) ?_
   refine qt 12 0 1 rfl (vf underlying42 rfl type40) ?_
   refine qt 12 2 5 rfl (vf underlying42 rfl type40) ?_
   refine qt 12 4 21 rfl vmv ?_
   refine qa [1, 3] ?_
   refine qc 12 23 rfl ?_ ?_
   ·
    refine wv (vl 0 0 underlying40) ?_
    refine qn (pk [1]) ?_
    refine qo 12 3 31 rfl ?_
    refine wv (vl 2 0 underlying40) ?_
    refine qn (pk [1]) ?_
    refine qt 12 5 63 rfl (vix 1 k12 underlying40 type131) ?_
    refine qt 12 6 127 rfl (fun W hm => rv_load underlying131 rfl rfl ((hm.cell0 (show (a24.add (k12 * 1)).block < w.heap.size from by rw [add_block]; exact hb25.1)).trans (hc27 0 _ rfl))) ?_
    refine qo 12 7 255 rfl ?_
    refine wcl (tSl tyVersion 191) (gt x0.Segments k12) (cl_fn cb213 rfl) (fun W hm => spec_l7Part_c2 W _ (gt x0.Segments k12) (hm.rdS0 r36) (s_0.2 _ (gt_mem (show k12 < x0.Segments.length from by omega)))) (fun z48 => ?_)
    refine WM_form (n := 0) rfl ?_
    rintro A49 c50 rfl m51
    refine qn (pk [2]) ?_
    refine qo 12 8 511 rfl ?_
    refine WM_build (cs := [.slice A49 (gt x0.Segments k12).length c50]) underlying40 type131 rfl (by decide) (by decide) rfl (by kernel_rfl) (Wd_none rfl) (by decide) (fun p53 => ?_)
    refine qn (pk [3]) ?_
    refine qo 12 9 1023 rfl ?_
    refine ap1 (tSl tyVersion 191) 131 (.slice A16 d15.length c17) d15 (gt x0.Segments k12) [iOwn (tSl tyVersion 191) [.slice A49 (gt x0.Segments k12).length c50] (gt x0.Segments k12)] [I4, iBox p10 42 [.slice none 0 0, .int .i64 0], I6] [.slice A49 (gt x0.Segments k12).length c50] (pk [0, 5, 1, 2, 3, 4]) (fun _ _ hs => Els.single (Sep.one hs)) underlying40 type131 (show (d15.length + 1) * 24 ≤ 140737488355328 from by omega) (fun v54 => ?_)
    refine WM_form (n := 0) rfl ?_
    rintro A55 c56 rfl m57
    refine qn (pk [2]) ?_
    refine qt 12 10 2047 rfl (vf underlying42 rfl type40) ?_
    refine qo 12 11 4095 rfl ?_
    refine sb 0 [.slice A55 (d15 ++ [(gt x0.Segments k12)]).length c56, .int .i64 x0.Now] [iOwn (tSl (tSl tyVersion 191) 131) [.slice A55 (d15 ++ [(gt x0.Segments k12)]).length c56] (d15 ++ [(gt x0.Segments k12)]), iBox p10 42 [.slice none 0 0, .int .i64 0], I6] (pk [1, 0, 2, 3]) type40 ?_
    refine qn (pk [2]) ?_
    refine QB_done (by kernel_rfl) ?_
    exact QM_cut_normal (A55, c56) sl4 (fun W hm => hm) trivial
   refine qc 12 29 rfl ?_ ?_
   ·
    refine wv (vl 2 0 underlying40) ?_
    refine qn (pk [1]) ?_
    refine qt 12 5 61 rfl (vix 1 k12 underlying40 type131) ?_
    refine qt 12 6 125 rfl (fun W hm => rv_load underlying131 rfl rfl ((hm.cell0 (show (a24.add (k12 * 1)).block < w.heap.size from by rw [add_block]; exact hb25.1)).trans (hc27 0 _ rfl))) ?_
    refine qa [1, 7] ?_
    refine qc 12 127 rfl ?_ ?_
    ·
     refine wv (vl 0 0 underlying40) ?_
     refine qn (pk [1]) ?_
     refine qo 12 7 255 rfl ?_
     refine wcl (tSl tyVersion 191) (gt x0.Segments k12) (cl_fn cb213 rfl) (fun W hm => spec_l7Part_c2 W _ (gt x0.Segments k12) (hm.rdS0 r36) (s_0.2 _ (gt_mem (show k12 < x0.Segments.length from by omega)))) (fun z59 => ?_)
     refine WM_form (n := 0) rfl ?_
     rintro A60 c61 rfl m62
     refine qn (pk [2]) ?_
     refine qo 12 8 511 rfl ?_
     refine WM_build (cs := [.slice A60 (gt x0.Segments k12).length c61]) underlying40 type131 rfl (by decide) (by decide) rfl (by kernel_rfl) (Wd_none rfl) (by decide) (fun p64 => ?_)
     refine qn (pk [3]) ?_
     refine qo 12 9 1023 rfl ?_
     refine ap1 (tSl tyVersion 191) 131 (.slice A16 d15.length c17) d15 (gt x0.Segments k12) [iOwn (tSl tyVersion 191) [.slice A60 (gt x0.Segments k12).length c61] (gt x0.Segments k12)] [I4, iBox p10 42 [.slice none 0 0, .int .i64 0], I6] [.slice A60 (gt x0.Segments k12).length c61] (pk [0, 5, 1, 2, 3, 4]) (fun _ _ hs => Els.single (Sep.one hs)) underlying40 type131 (show (d15.length + 1) * 24 ≤ 140737488355328 from by omega) (fun v65 => ?_)
     refine WM_form (n := 0) rfl ?_
     rintro A66 c67 rfl m68
     refine qn (pk [2]) ?_
     refine qt 12 10 2047 rfl (vf underlying42 rfl type40) ?_
     refine qo 12 11 4095 rfl ?_
     refine sb 0 [.slice A66 (d15 ++ [(gt x0.Segments k12)]).length c67, .int .i64 x0.Now] [iOwn (tSl (tSl tyVersion 191) 131) [.slice A66 (d15 ++ [(gt x0.Segments k12)]).length c67] (d15 ++ [(gt x0.Segments k12)]), iBox p10 42 [.slice none 0 0, .int .i64 0], I6] (pk [1, 0, 2, 3]) type40 ?_
     refine qn (pk [2]) ?_
     refine QB_done (by kernel_rfl) ?_
     exact QM_cut_normal (A66, c67) sl4 (fun W hm => hm) trivial
    refine qc 12 253 rfl ?_ ?_
    ·
     refine wcl (tSl tyVersion 191) (gt x0.Segments k12) (cl_fn cb213 rfl) (fun W hm => spec_l7Part_c2 W _ (gt x0.Segments k12) (hm.rdS0 r36) (s_0.2 _ (gt_mem (show k12 < x0.Segments.length from by omega)))) (fun z70 => ?_)
     refine WM_form (n := 0) rfl ?_
     rintro A71 c72 rfl m73
     refine qn (pk [2]) ?_
     refine qa [1, 8] ?_
     refine qc 12 255 rfl ?_ ?_
     ·
      refine wv (vl 1 0 underlying40) ?_
      refine qn (pk [2]) ?_
      refine qo 12 8 511 rfl ?_
      refine WM_build (cs := [.slice A71 (gt x0.Segments k12).length c72]) underlying40 type131 rfl (by decide) (by decide) rfl (by kernel_rfl) (Wd_none rfl) (by decide) (fun p75 => ?_)
      refine qn (pk [3]) ?_
      refine qo 12 9 1023 rfl ?_
      refine ap1 (tSl tyVersion 191) 131 (.slice A16 d15.length c17) d15 (gt x0.Segments k12) [iOwn (tSl tyVersion 191) [.slice A71 (gt x0.Segments k12).length c72] (gt x0.Segments k12)] [I4, iBox p10 42 [.slice none 0 0, .int .i64 0], I6] [.slice A71 (gt x0.Segments k12).length c72] (pk [0, 5, 1, 2, 3, 4]) (fun _ _ hs => Els.single (Sep.one hs)) underlying40 type131 (show (d15.length + 1) * 24 ≤ 140737488355328 from by omega) (fun v76 => ?_)
      refine WM_form (n := 0) rfl ?_
      rintro A77 c78 rfl m79
      refine qn (pk [2]) ?_
      refine qt 12 10 2047 rfl (vf underlying42 rfl type40) ?_
      refine qo 12 11 4095 rfl ?_
      refine sb 0 [.slice A77 (d15 ++ [(gt x0.Segments k12)]).length c78, .int .i64 x0.Now] [iOwn (tSl (tSl tyVersion 191) 131) [.slice A77 (d15 ++ [(gt x0.Segments k12)]).length c78] (d15 ++ [(gt x0.Segments k12)]), iBox p10 42 [.slice none 0 0, .int .i64 0], I6] (pk [1, 0, 2, 3]) type40 ?_
      refine qn (pk [2]) ?_
      refine QB_done (by kernel_rfl) ?_
      exact QM_cut_normal (A77, c78) sl4 (fun W hm => hm) trivial
     refine qc 12 509 rfl ?_ ?_
     ·
      refine WM_build (cs := [.slice A71 (gt x0.Segments k12).length c72]) underlying40 type131 rfl (by decide) (by decide) rfl (by kernel_rfl) (Wd_none rfl) (by decide) (fun p81 => ?_)
      refine qn (pk [3]) ?_
      refine qo 12 1 511 rfl ?_
      refine wv (vl 2 0 underlying40) ?_
      refine qn (pk [3]) ?_
      refine qo 12 9 1023 rfl ?_
      refine ap1 (tSl tyVersion 191) 131 (.slice A16 d15.length c17) d15 (gt x0.Segments k12) [iOwn (tSl tyVersion 191) [.slice A71 (gt x0.Segments k12).length c72] (gt x0.Segments k12)] [I4, iBox p10 42 [.slice none 0 0, .int .i64 0], I6] [.slice A71 (gt x0.Segments k12).length c72] (pk [0, 5, 1, 2, 3, 4]) (fun _ _ hs => Els.single (Sep.one hs)) underlying40 type131 (show (d15.length + 1) * 24 ≤ 140737488355328 from by omega) (fun v82 => ?_)
      refine WM_form (n := 0) rfl ?_
      rintro A83 c84 rfl m85
      refine qn (pk [2]) ?_
      refine qt 12 10 2047 rfl (vf underlying42 rfl type40) ?_
      refine qo 12 11 4095 rfl ?_
      refine sb 0 [.slice A83 (d15 ++ [(gt x0.Segments k12)]).length c84, .int .i64 x0.Now] [iOwn (tSl (tSl tyVersion 191) 131) [.slice A83 (d15 ++ [(gt x0.Segments k12)]).length c84] (d15 ++ [(gt x0.Segments k12)]), iBox p10 42 [.slice none 0 0, .int .i64 0], I6] (pk [1, 0, 2, 3]) type40 ?_
      refine qn (pk [2]) ?_
      refine QB_done (by kernel_rfl) ?_
      exact QM_cut_normal (A83, c84) sl4 (fun W hm => hm) trivial
     exact QBs_nil
    exact QBs_nil
   exact QBs_nil
  ·
   rintro ⟨A44, c45⟩ -
   show QM 27 _ _ _ .normal [(1, .pointer (some (⟨p9, 0, none⟩ : Addr))), (2, .pointer (some (⟨p10, 0, none⟩ : Addr))), (3, .pointer (some (⟨p11, 0, none⟩ : Addr))), (4, .int .i64 ((k12 : Nat) : Int))] [iBox p11 42 [.slice A44 (d15 ++ [(gt x0.Segments k12)]).length c45, .int .i64 x0.Now], iOwn (tSl (tSl tyVersion 191) 131) [.slice A44 (d15 ++ [(gt x0.Segments k12)]).length c45] (d15 ++ [(gt x0.Segments k12)]), iBox p10 42 [.slice none 0 0, .int .i64 0], I6]
   refine QM_len (n := 1) rfl ?_
   intro m87 m88
   refine QM_block_normal (QM_then (CM_region (wm ?_)))
   refine wv (vadN k12 1 (by omega)) ?_
   refine wa (WM_nil ?_)
   have hn89 := rng_next (R := DStore) (body := F1) (k := k12) (s := d15) (s' := (d15 ++ [(gt x0.Segments k12)])) (show k12 < x0.Segments.length from by omega) (show spec_l7Copy_b1 x0 k12 d15 = Sum.inr (d15 ++ [(gt x0.Segments k12)]) from by unfold spec_l7Copy_b1; exact rfl) hF19
   exact QM_round (k12 + 1, (d15 ++ [(gt x0.Segments k12)]), (A44, c45)) sl4 (pk [0, 2, 3, 1]) ⟨(by omega), hn89, (show (d15 ++ [(gt x0.Segments k12)]).length ≤ 0 + (k12 + 1) from by first | omega | (simp only [List.length_append, List.length_cons, List.length_nil] at *; omega))⟩ (rl (by omega))
 ·have g23 : (decide (((k12 : Nat) : Int) < ((x0.Segments.length : Nat) : Int))) = false := decide_eq_false (by omega)
  refine CM_condF rfl g23 ?_
  refine CM_exit (QM_then_exit (QM_then_exit ?_))
  have hE90 : R2 (x0.Segments.length - 0) 0 [] = Sum.inr d15 := rng_end hl22 hF19
  refine QM_block_hit (QM_then (sr ?_))
  refine wv (fun W hm => rv_loadN (cs := [.slice A16 d15.length c17, .int .i64 x0.Now]) underlying42 type42 rfl rfl (hm.boxCells (n := 0) rfl)) ?_
  refine sb 0 [.slice A16 d15.length c17, .int .i64 x0.Now] [I4, I3, I5] (pk [1, 0, 2, 3]) type42 ?_
  refine nt' (CM_ret ?_)
  refine QM_r1 rfl (RR_cell (n := 0) rfl rfl underlying42 type42 rfl) (fun W hm => ⟨[.slice A16 d15.length c17, .int .i64 x0.Now], ?_, ?_⟩)
  ·first | rw [(show spec_l7Copy_m x0 = (⟨d15, x0.Now⟩ : DStore) from by unfold spec_l7Copy_m; exact fin_inr hE90 (rfl))] | rfl
  ·rw [(show spec_l7Copy_m x0 = (⟨d15, x0.Now⟩ : DStore) from by unfold spec_l7Copy_m; exact fin_inr hE90 (rfl))]; exact Mem.join (is := [I5]) (js := []) (fun _ _ hs => tyStore_join (x := (⟨d15, x0.Now⟩ : DStore)) hs) (hm.pick [3] (by decide))
theorem spec_l7Copy_eq (x0 : DStore) : spec_l7Copy_m x0 = x0 := by
 unfold spec_l7Copy_m; rw [rng_app (xs := x0.Segments) (b := fun k s => spec_l7Copy_b1 x0 k s) (fun _ _ => rfl)]; rfl
theorem spec_l7Copy_c2 (w : World) (z0 : List Value) (x0 : DStore) (r_0 : tyStore.rd w w.heap.size z0 x0) (s_0 : smStore 68719476736 x0) :
  Calls Tryz.prog 159 #[.agg z0.toArray] w fun e w' => ∃ v : List Value, e = .returned (.agg v.toArray) ∧ Mem w.heap.size w [iOwn tyStore v x0] w' := by
 have h := spec_l7Copy_c w z0 x0 r_0 s_0
 rw [spec_l7Copy_eq] at h
 exact h

def spec_l6Query_m (x0 : DQuery) : DQuery :=
 x0
theorem cb129 : Cb Tryz.prog 129 := ⟨f129, _, func129, rfl, by decide⟩
theorem spec_l6Query_c (w : World) (z0 : List Value) (x0 : DQuery) (r_0 : tyQuery.rd w w.heap.size z0 x0) (s_0 : smQuery 68719476736 x0) :
  Calls Tryz.prog 129 #[.agg z0.toArray] w fun e w' => ∃ v : List Value, e = .returned (.agg v.toArray) ∧ Mem w.heap.size w [iOwn tyQuery v (spec_l6Query_m x0)] w' := by
 obtain ⟨v1, v3, rfl, r2, r4⟩ := tyQuery_rd r_0
 have r9 := r2
 obtain ⟨m5, A6, c7, rfl, q8⟩ := r2
 have r14 := r4
 obtain ⟨m10, A11, c12, rfl, q13⟩ := r4
 have l15 : x0.Conds.length ≤ 68719476736 := s_0.1
 have l16 : x0.Out.length ≤ 68719476736 := s_0.2
 refine ce1 (L := [(0, .agg #[.int .i64 x0.Id, .int .i64 x0.Tenant, .slice A6 x0.Conds.length c7, .slice A11 x0.Out.length c12])]) (N := 16) func129 ?_
 refine sr ?_
 refine WM_box rfl (Wd_none rfl) (by decide) (fun p17 => ?_)
 refine WM_alloc type34 rfl (Wd_none rfl) (by decide) (fun p18 => ?_)
 refine nt' (CM_seq ?_)
 let K1 : List Value := [.int .i64 x0.Id, .int .i64 x0.Tenant, .slice A6 x0.Conds.length c7, .slice A11 x0.Out.length c12]
 refine CM_cut (σ := Option Addr × Nat × Option Addr × Nat) (fun s => [(2, .pointer (some (⟨p18, 0, none⟩ : Addr)))]) (fun s => [iBox p18 34 [.int .i64 x0.Id, .int .i64 x0.Tenant, .slice s.1 x0.Conds.length s.2.1, .slice s.2.2.1 x0.Out.length s.2.2.2], iOwn (tSl tInt 3) [.slice s.2.2.1 x0.Out.length s.2.2.2] x0.Out, iOwn (tSl tyCond 201) [.slice s.1 x0.Conds.length s.2.1] x0.Conds, iBox p17 34 K1]) (fun _ => True) ?_ ?_
 ·
  refine rb 14 (s := [iBox p17 34 K1]) (pk [1]) ?_
  refine qt 14 0 1 rfl (vf underlying34 rfl type3) ?_
  refine qt 14 1 3 rfl (vl 0 0 underlying3) ?_
  refine qt 14 2 7 rfl (vf underlying34 rfl type3) ?_
  refine qt 14 3 15 rfl (vl 0 1 underlying3) ?_
  refine qt 14 5 47 rfl (vf underlying34 rfl type32) ?_
  refine qt 14 6 111 rfl (vl 0 2 underlying32) ?_
  refine qt 14 9 623 rfl (vf underlying34 rfl type25) ?_
  refine qt 14 10 1647 rfl (vl 0 3 underlying25) ?_
  refine qa [4, 8] ?_
  refine qc 14 1663 rfl ?_ ?_
  ·
   refine WM_build0 (E := tyCond) underlying32 type201 (Wd_none rfl) (by decide) (fun p33 => ?_)
   refine qn (pk [2]) ?_
   refine qa [7, 8] ?_
   refine qc 14 1791 rfl ?_ ?_
   ·
    let K2 : List Value := [.int .i64 0, .int .i64 0, .slice none 0 0, .slice none 0 0]
    refine apR tyCond tyCond 201 (.slice (some ⟨p33, 0, none⟩) 0 0) [] x0.Conds [iBox p18 34 K2, iBox p17 34 K1] (fun W hm => hm) (fun W hm => src_flat (flat_map (flat_pair flat_int (flat_pair flat_int flat_int))) (hm.rdS0 r9)) underlying32 type201 (show (0 + x0.Conds.length) * 24 ≤ 140737488355328 from by omega) (fun v35 => ?_)
    refine WM_form (n := 0) rfl ?_
    rintro A36 c37 rfl m38
    refine qn (pk [2]) ?_
    refine qo 14 8 2047 rfl ?_
    refine WM_build0 (E := tInt) underlying25 type3 (Wd_none rfl) (by decide) (fun p40 => ?_)
    refine qn (pk [3]) ?_
    refine qo 14 11 4095 rfl ?_
    let I9 : It := iOwn (tSl tyCond 201) [.slice A36 x0.Conds.length c37] x0.Conds
    refine apR tInt tInt 3 (.slice (some ⟨p40, 0, none⟩) 0 0) [] x0.Out [I9, iBox p18 34 K2, iBox p17 34 K1] (fun W hm => hm) (fun W hm => src_flat flat_int (hm.rdS0 r14)) underlying25 type3 (show (0 + x0.Out.length) * 8 ≤ 140737488355328 from by omega) (fun v42 => ?_)
    refine WM_form (n := 0) rfl ?_
    rintro A43 c44 rfl m45
    refine qn (pk [3]) ?_
    let K3 : List Value := [.int .i64 x0.Id, .int .i64 x0.Tenant, .slice A36 x0.Conds.length c37, .slice A43 x0.Out.length c44]
    refine qt 14 12 8191 rfl (fun W hm => rv_build (cs := K3) rfl (by kernel_rfl)) ?_
    refine qo 14 13 16383 rfl ?_
    refine sb 0 K3 [iOwn (tSl tInt 3) [.slice A43 x0.Out.length c44] x0.Out, I9, iBox p17 34 K1] (pk [2, 0, 1, 3]) type34 ?_
    refine qn (pk [3]) ?_
    refine QB_done (by kernel_rfl) ?_
    exact QM_cut_normal (A36, c37, A43, c44) (subL_cons rfl subL_nil) (fun W hm => hm) trivial
   refine qc 14 1919 rfl ?_ ?_
   ·
    refine WM_build0 (E := tInt) underlying25 type3 (Wd_none rfl) (by decide) (fun p47 => ?_)
    refine qn (pk [3]) ?_
    refine qo 14 7 2047 rfl ?_
    let K4 : List Value := [.int .i64 0, .int .i64 0, .slice none 0 0, .slice none 0 0]
    refine apR tyCond tyCond 201 (.slice (some ⟨p33, 0, none⟩) 0 0) [] x0.Conds [iOwn (tSl tInt 3) [.slice (some ⟨p47, 0, none⟩) 0 0] [], iBox p18 34 K4, iBox p17 34 K1] (pk [1, 0, 2, 3]) (fun W hm => src_flat (flat_map (flat_pair flat_int (flat_pair flat_int flat_int))) (hm.rdS0 r9)) underlying32 type201 (show (0 + x0.Conds.length) * 24 ≤ 140737488355328 from by omega) (fun v49 => ?_)
    refine WM_form (n := 0) rfl ?_
    rintro A50 c51 rfl m52
    refine qn (pk [3]) ?_
    refine qo 14 11 4095 rfl ?_
    let I10 : It := iOwn (tSl tyCond 201) [.slice A50 x0.Conds.length c51] x0.Conds
    refine apR tInt tInt 3 (.slice (some ⟨p47, 0, none⟩) 0 0) [] x0.Out [I10, iBox p18 34 K4, iBox p17 34 K1] (pk [1, 0, 2, 3]) (fun W hm => src_flat flat_int (hm.rdS0 r14)) underlying25 type3 (show (0 + x0.Out.length) * 8 ≤ 140737488355328 from by omega) (fun v54 => ?_)
    refine WM_form (n := 0) rfl ?_
    rintro A55 c56 rfl m57
    refine qn (pk [3]) ?_
    let K5 : List Value := [.int .i64 x0.Id, .int .i64 x0.Tenant, .slice A50 x0.Conds.length c51, .slice A55 x0.Out.length c56]
    refine qt 14 12 8191 rfl (fun W hm => rv_build (cs := K5) rfl (by kernel_rfl)) ?_
    refine qo 14 13 16383 rfl ?_
    refine sb 0 K5 [iOwn (tSl tInt 3) [.slice A55 x0.Out.length c56] x0.Out, I10, iBox p17 34 K1] (pk [2, 0, 1, 3]) type34 ?_
    refine qn (pk [3]) ?_
    refine QB_done (by kernel_rfl) ?_
    exact QM_cut_normal (A50, c51, A55, c56) (subL_cons rfl subL_nil) (fun W hm => hm) trivial
   exact QBs_nil
  refine qc 14 1903 rfl ?_ ?_
  ·
   refine WM_build0 (E := tInt) underlying25 type3 (Wd_none rfl) (by decide) (fun p59 => ?_)
   refine qn (pk [2]) ?_
   refine qo 14 4 1919 rfl ?_
   refine WM_build0 (E := tyCond) underlying32 type201 (Wd_none rfl) (by decide) (fun p61 => ?_)
   refine qn (pk [3]) ?_
   refine qo 14 7 2047 rfl ?_
   let K6 : List Value := [.int .i64 0, .int .i64 0, .slice none 0 0, .slice none 0 0]
   refine apR tyCond tyCond 201 (.slice (some ⟨p61, 0, none⟩) 0 0) [] x0.Conds [iOwn (tSl tInt 3) [.slice (some ⟨p59, 0, none⟩) 0 0] [], iBox p18 34 K6, iBox p17 34 K1] (fun W hm => hm) (fun W hm => src_flat (flat_map (flat_pair flat_int (flat_pair flat_int flat_int))) (hm.rdS0 r9)) underlying32 type201 (show (0 + x0.Conds.length) * 24 ≤ 140737488355328 from by omega) (fun v63 => ?_)
   refine WM_form (n := 0) rfl ?_
   rintro A64 c65 rfl m66
   refine qn (pk [3]) ?_
   refine qo 14 11 4095 rfl ?_
   let I11 : It := iOwn (tSl tyCond 201) [.slice A64 x0.Conds.length c65] x0.Conds
   refine apR tInt tInt 3 (.slice (some ⟨p59, 0, none⟩) 0 0) [] x0.Out [I11, iBox p18 34 K6, iBox p17 34 K1] (pk [1, 0, 2, 3]) (fun W hm => src_flat flat_int (hm.rdS0 r14)) underlying25 type3 (show (0 + x0.Out.length) * 8 ≤ 140737488355328 from by omega) (fun v68 => ?_)
   refine WM_form (n := 0) rfl ?_
   rintro A69 c70 rfl m71
   refine qn (pk [3]) ?_
   let K7 : List Value := [.int .i64 x0.Id, .int .i64 x0.Tenant, .slice A64 x0.Conds.length c65, .slice A69 x0.Out.length c70]
   refine qt 14 12 8191 rfl (fun W hm => rv_build (cs := K7) rfl (by kernel_rfl)) ?_
   refine qo 14 13 16383 rfl ?_
   refine sb 0 K7 [iOwn (tSl tInt 3) [.slice A69 x0.Out.length c70] x0.Out, I11, iBox p17 34 K1] (pk [2, 0, 1, 3]) type34 ?_
   refine qn (pk [3]) ?_
   refine QB_done (by kernel_rfl) ?_
   exact QM_cut_normal (A64, c65, A69, c70) (subL_cons rfl subL_nil) (fun W hm => hm) trivial
  exact QBs_nil
 ·
  rintro ⟨A22, c23, A29, c30⟩ -
  let K8 : List Value := [.int .i64 x0.Id, .int .i64 x0.Tenant, .slice A22 x0.Conds.length c23, .slice A29 x0.Out.length c30]
  let I12 : It := iOwn (tSl tInt 3) [.slice A29 x0.Out.length c30] x0.Out
  let I13 : It := iOwn (tSl tyCond 201) [.slice A22 x0.Conds.length c23] x0.Conds
  show QM 16 _ _ _ .normal [(2, .pointer (some (⟨p18, 0, none⟩ : Addr)))] [iBox p18 34 K8, I12, I13, iBox p17 34 K1]
  refine QM_len (n := 1) rfl ?_
  intro m73 m74
  refine QM_len (n := 2) rfl ?_
  intro m75 m76
  refine QM_then (CM_ret ?_)
  refine QM_r1 rfl (RR_cell (n := 0) rfl rfl underlying34 type34 rfl) (fun W hm => ⟨K8, ?_, ?_⟩)
  ·first | rw [(show spec_l6Query_m x0 = x0 from by unfold spec_l6Query_m; exact rfl)] | rfl
  ·rw [(show spec_l6Query_m x0 = x0 from by unfold spec_l6Query_m; exact rfl)]; exact Mem.join (is := [I13, I12]) (js := []) (fun _ _ hs => tyQuery_join (x := x0) hs) (hm.pick [2, 1] (by decide))
theorem spec_l6Query_eq (x0 : DQuery) : spec_l6Query_m x0 = x0 := by
 rfl
theorem spec_l6Query_c2 (w : World) (z0 : List Value) (x0 : DQuery) (r_0 : tyQuery.rd w w.heap.size z0 x0) (s_0 : smQuery 68719476736 x0) :
  Calls Tryz.prog 129 #[.agg z0.toArray] w fun e w' => ∃ v : List Value, e = .returned (.agg v.toArray) ∧ Mem w.heap.size w [iOwn tyQuery v x0] w' := by
 have h := spec_l6Query_c w z0 x0 r_0 s_0
 rw [spec_l6Query_eq] at h
 exact h

def spec_l3Copy_m (x0 : DRow) : DRow :=
 x0
theorem cb214 : Cb Tryz.prog 214 := ⟨f214, _, func214, rfl, by decide⟩
theorem spec_l3Copy_c (w : World) (z0 : List Value) (x0 : DRow) (r_0 : tyRow.rd w w.heap.size z0 x0) (s_0 : smRow 68719476736 x0) :
  Calls Tryz.prog 214 #[.agg z0.toArray] w fun e w' => ∃ v : List Value, e = .returned (.agg v.toArray) ∧ Mem w.heap.size w [iOwn tyRow v (spec_l3Copy_m x0)] w' := by
 obtain ⟨v1, rfl, r2⟩ := tyRow_rd r_0
 have r7 := r2
 obtain ⟨m3, A4, c5, rfl, q6⟩ := r2
 have l8 : x0.Values.length ≤ 68719476736 := s_0
 refine ce1 (L := [(0, .agg #[.int .i64 x0.Id, .slice A4 x0.Values.length c5])]) (N := 10) func214 ?_
 refine sr ?_
 refine WM_box rfl (Wd_none rfl) (by decide) (fun p9 => ?_)
 refine WM_alloc type73 rfl (Wd_none rfl) (by decide) (fun p10 => ?_)
 refine nt' (CM_seq ?_)
 let I1 : It := iBox p9 73 [.int .i64 x0.Id, .slice A4 x0.Values.length c5]
 refine rb 8 (s := [I1]) (pk [1]) ?_
 refine qt 8 0 1 rfl (vf underlying73 rfl type3) ?_
 refine qt 8 1 3 rfl (vl 0 0 underlying3) ?_
 refine qt 8 3 11 rfl (vf underlying73 rfl type25) ?_
 refine qt 8 4 27 rfl (vl 0 1 underlying25) ?_
 refine qo 8 2 31 rfl ?_
 refine WM_build0 (E := tInt) underlying25 type3 (Wd_none rfl) (by decide) (fun p11 => ?_)
 refine qn (pk [2]) ?_
 refine qo 8 5 63 rfl ?_
 refine apR tInt tInt 3 (.slice (some ⟨p11, 0, none⟩) 0 0) [] x0.Values [iBox p10 73 [.int .i64 0, .slice none 0 0], I1] (fun W hm => hm) (fun W hm => src_flat flat_int (hm.rdS0 r7)) underlying25 type3 (show (0 + x0.Values.length) * 8 ≤ 140737488355328 from by omega) (fun v13 => ?_)
 refine WM_form (n := 0) rfl ?_
 rintro A14 c15 rfl m16
 refine qn (pk [2]) ?_
 refine qt 8 6 127 rfl (fun W hm => rv_build (cs := [.int .i64 x0.Id, .slice A14 x0.Values.length c15]) rfl (by kernel_rfl)) ?_
 refine qo 8 7 255 rfl ?_
 let I2 : It := iOwn (tSl tInt 3) [.slice A14 x0.Values.length c15] x0.Values
 refine sb 0 [.int .i64 x0.Id, .slice A14 x0.Values.length c15] [I2, I1] (pk [1, 0, 2]) type73 ?_
 refine qn (pk [2]) ?_
 refine QB_done (by kernel_rfl) ?_
 refine QM_then (CM_ret ?_)
 refine QM_r1 rfl (RR_cell (n := 0) rfl rfl underlying73 type73 rfl) (fun W hm => ⟨[.int .i64 x0.Id, .slice A14 x0.Values.length c15], ?_, ?_⟩)
 ·first | rw [(show spec_l3Copy_m x0 = x0 from by unfold spec_l3Copy_m; exact rfl)] | rfl
 ·rw [(show spec_l3Copy_m x0 = x0 from by unfold spec_l3Copy_m; exact rfl)]; exact Mem.join (is := [I2]) (js := []) (fun _ _ hs => tyRow_join (x := x0) hs) (hm.pick [1] (by decide))
theorem spec_l3Copy_eq (x0 : DRow) : spec_l3Copy_m x0 = x0 := by
 rfl
theorem spec_l3Copy_c2 (w : World) (z0 : List Value) (x0 : DRow) (r_0 : tyRow.rd w w.heap.size z0 x0) (s_0 : smRow 68719476736 x0) :
  Calls Tryz.prog 214 #[.agg z0.toArray] w fun e w' => ∃ v : List Value, e = .returned (.agg v.toArray) ∧ Mem w.heap.size w [iOwn tyRow v x0] w' := by
 have h := spec_l3Copy_c w z0 x0 r_0 s_0
 rw [spec_l3Copy_eq] at h
 exact h

def spec_l9Rows_b1 (x0 : (List DRow)) (k9 : Nat) (d10 : (List DRow)) : (List DRow) ⊕ ((List DRow)) :=
 Sum.inr (d10 ++ [(gt x0 k9)])
def spec_l9Rows_m (x0 : (List DRow)) : (List DRow) :=
 Sum.elim id (fun (s : (List DRow)) => s) (rng (R := (List DRow)) (fun k (s : (List DRow)) => spec_l9Rows_b1 x0 k s) (x0.length - 0) 0 [])
theorem cb160 : Cb Tryz.prog 160 := ⟨f160, _, func160, rfl, by decide⟩
theorem spec_l9Rows_c (w : World) (z0 : Value) (x0 : (List DRow)) (r_0 : rdS tyRow w w.heap.size z0 x0) (s_0 : (x0.length ≤ 68719476736 ∧ ∀ y ∈ x0, smRow 68719476736 y)) :
  Calls Tryz.prog 160 #[z0] w fun e w' => ∃ v : Value, e = .returned (v) ∧ Mem w.heap.size w [iOwn (tSl tyRow 73) [v] (spec_l9Rows_m x0)] w' := by
 have r5 := r_0
 obtain ⟨m1, A2, c3, rfl, q4⟩ := r_0
 have l6 : x0.length ≤ 68719476736 := s_0.1
 refine ce1 (L := [(0, .slice A2 x0.length c3)]) (N := 21) func160 ?_
 refine sr (wa (nt' (sr ?_)))
 refine WM_build0 (E := tyRow) underlying35 type73 (Wd_none rfl) (by decide) (fun p7 => ?_)
 refine wa (nt' (CM_seq (sr (wa (nt' (CM_block ?_))))))
 let F1 := fun k (s : (List DRow)) => spec_l9Rows_b1 x0 k s
 let R2 := rng (R := (List DRow)) F1
 refine CM_loop (σ := Nat × ((List DRow)) × (Option Addr × Nat)) (fun s => [(0, .slice A2 x0.length c3), (3, .slice s.2.2.1 s.2.1.length s.2.2.2), (4, .int .i64 ((s.1 : Nat) : Int))]) (fun s => [iOwn (tSl tyRow 73) [.slice s.2.2.1 s.2.1.length s.2.2.2] s.2.1]) (fun s => s.1 ≤ x0.length ∧ R2 (x0.length - s.1) s.1 s.2.1 = R2 (x0.length - 0) 0 [] ∧ s.2.1.length ≤ 0 + s.1) (fun s => x0.length - s.1) (0, [], ((some ⟨p7, 0, none⟩), 0)) sl3 (fun W hm => hm) ⟨(by omega), rfl, Nat.le_refl _⟩ ?_
 rintro ⟨k9, d10, ⟨A11, c12⟩⟩ H15
 obtain ⟨hk13, hF14, hi16⟩ : k9 ≤ x0.length ∧ R2 (x0.length - k9) k9 d10 = R2 (x0.length - 0) 0 [] ∧ d10.length ≤ 0 + k9 := H15
 show CM Tryz.prog 21 _ _ _ _ [(0, .slice A2 x0.length c3), (3, .slice A11 d10.length c12), (4, .int .i64 ((k9 : Nat) : Int))] [iOwn (tSl tyRow 73) [.slice A11 d10.length c12] d10]
 refine CM_seq (sr (wm (wm ?_)))
 refine wv (vlen underlying35) ?_
 refine wv vlss ?_
 refine nt' ?_
 by_cases hl17 : k9 < x0.length
 ·have g18 : (decide (((k9 : Nat) : Int) < ((x0.length : Nat) : Int))) = true := decide_eq_true (by omega)
  refine CM_condT rfl g18 ?_
  refine CM_skip (QM_then (CM_seq (CM_block (CM_region (wm (wm (wm ?_)))))))
  obtain ⟨a19, rfl, hb20, he21⟩ := q4 (by omega)
  refine wv (vix 2 k9 underlying35 type73) ?_
  obtain ⟨_, e25, hc22⟩ := he21 k9 _ (gt_some (show k9 < x0.length from by omega))
  obtain ⟨v23, rfl, r24⟩ := tyRow_rd e25
  have l26 : ((gt x0 k9).Values).length ≤ 68719476736 := (s_0.2 _ (gt_mem (show k9 < x0.length from by omega)))
  have r31 := r24
  obtain ⟨m27, A28, c29, rfl, q30⟩ := r24
  refine wv (fun W hm => rv_loadN (cs := [.int .i64 ((gt x0 k9).Id), .slice A28 ((gt x0 k9).Values).length c29]) underlying73 type73 rfl rfl (hm.elCells (show (a19.add (k9 * 2)).block < w.heap.size from by rw [add_block]; exact hb20.1) hc22)) ?_
  refine wcs tyRow (gt x0 k9) (cl_fn cb214 rfl) (fun W hm => spec_l3Copy_c2 W _ (gt x0 k9) (tyRow_mk (x := (gt x0 k9)) (hm.rdS0 r31)) (s_0.2 _ (gt_mem (show k9 < x0.length from by omega)))) (fun z32 => ?_)
  refine tyRow_sp ?_
  rintro v33 rfl
  refine WM_form (n := 0) rfl ?_
  rintro A34 c35 rfl m36
  let K3 : List Value := [.int .i64 ((gt x0 k9).Id), .slice A34 ((gt x0 k9).Values).length c35]
  refine WM_build (cs := K3) underlying35 type73 rfl (by decide) (by decide) rfl (by kernel_rfl) (Wd_none rfl) (by decide) (fun p38 => ?_)
  refine ap1 tyRow 73 (.slice A11 d10.length c12) d10 (gt x0 k9) [iOwn (tSl tInt 3) [.slice A34 ((gt x0 k9).Values).length c35] ((gt x0 k9).Values)] [] K3 (pk [0, 2, 1]) (fun _ _ hs => Els.single (tyRow_join (x := (gt x0 k9)) hs)) underlying35 type73 (show (d10.length + 1) * 32 ≤ 140737488355328 from by omega) (fun v39 => ?_)
  refine WM_form (n := 0) rfl ?_
  rintro A40 c41 rfl m42
  refine wa (WM_nil (QM_block_normal (QM_then (CM_region (wm ?_)))))
  refine wv (vadN k9 1 (by omega)) ?_
  refine wa (WM_nil ?_)
  have hn44 := rng_next (R := (List DRow)) (body := F1) (k := k9) (s := d10) (s' := (d10 ++ [(gt x0 k9)])) (show k9 < x0.length from by omega) (show spec_l9Rows_b1 x0 k9 d10 = Sum.inr (d10 ++ [(gt x0 k9)]) from by unfold spec_l9Rows_b1; exact rfl) hF14
  exact QM_round (k9 + 1, (d10 ++ [(gt x0 k9)]), (A40, c41)) sl3 (fun W hm => hm) ⟨(by omega), hn44, (show (d10 ++ [(gt x0 k9)]).length ≤ 0 + (k9 + 1) from by first | omega | (simp only [List.length_append, List.length_cons, List.length_nil] at *; omega))⟩ (rl (by omega))
 ·have g18 : (decide (((k9 : Nat) : Int) < ((x0.length : Nat) : Int))) = false := decide_eq_false (by omega)
  refine CM_condF rfl g18 ?_
  refine CM_exit (QM_then_exit (QM_then_exit ?_))
  have hE45 : R2 (x0.length - 0) 0 [] = Sum.inr d10 := rng_end hl17 hF14
  refine QM_block_hit (QM_then (sr (wm (wa (nt' (CM_ret ?_))))))
  refine QM_r1 rfl (RR_tmp rfl) (fun W hm => ⟨.slice A11 d10.length c12, ?_, ?_⟩)
  ·first | rw [(show spec_l9Rows_m x0 = d10 from by unfold spec_l9Rows_m; exact fin_inr hE45 (rfl))] | rfl
  ·rw [(show spec_l9Rows_m x0 = d10 from by unfold spec_l9Rows_m; exact fin_inr hE45 (rfl))]; exact hm
theorem spec_l9Rows_eq (x0 : (List DRow)) : spec_l9Rows_m x0 = x0 := by
 unfold spec_l9Rows_m; rw [rng_app (xs := x0) (b := fun k s => spec_l9Rows_b1 x0 k s) (fun _ _ => rfl)]; rfl
theorem spec_l9Rows_c2 (w : World) (z0 : Value) (x0 : (List DRow)) (r_0 : rdS tyRow w w.heap.size z0 x0) (s_0 : (x0.length ≤ 68719476736 ∧ ∀ y ∈ x0, smRow 68719476736 y)) :
  Calls Tryz.prog 160 #[z0] w fun e w' => ∃ v : Value, e = .returned (v) ∧ Mem w.heap.size w [iOwn (tSl tyRow 73) [v] x0] w' := by
 have h := spec_l9Rows_c w z0 x0 r_0 s_0
 rw [spec_l9Rows_eq] at h
 exact h

def spec_l10Copy_m (x0 : DCharge) : DCharge :=
 x0
theorem cb161 : Cb Tryz.prog 161 := ⟨f161, _, func161, rfl, by decide⟩
theorem spec_l10Copy_c (w : World) (z0 : List Value) (x0 : DCharge) (r_0 : tyCharge.rd w w.heap.size z0 x0) (s_0 : smCharge 68719476736 x0) :
  Calls Tryz.prog 161 #[.agg z0.toArray] w fun e w' => ∃ v : List Value, e = .returned (.agg v.toArray) ∧ Mem w.heap.size w [iOwn tyCharge v (spec_l10Copy_m x0)] w' := by
 obtain ⟨v1, v3, v5, rfl, r2, r4, r6⟩ := tyCharge_rd r_0
 have r11 := r2
 obtain ⟨m7, A8, c9, rfl, q10⟩ := r2
 have r16 := r4
 obtain ⟨m12, A13, c14, rfl, q15⟩ := r4
 have r21 := r6
 obtain ⟨m17, A18, c19, rfl, q20⟩ := r6
 have l22 : x0.Ids.length ≤ 68719476736 := s_0.1
 have l23 : x0.Tenants.length ≤ 68719476736 := s_0.2.1
 have l24 : x0.Rows.length ≤ 68719476736 := s_0.2.2
 refine ce1 (L := [(0, .agg #[.int .i64 x0.Segment, .int .i64 x0.Base, .slice A8 x0.Ids.length c9, .slice A13 x0.Tenants.length c14, .slice A18 x0.Rows.length c19])]) (N := 20) func161 ?_
 refine sr ?_
 refine WM_box rfl (Wd_none rfl) (by decide) (fun p25 => ?_)
 refine WM_alloc type133 rfl (Wd_none rfl) (by decide) (fun p26 => ?_)
 refine nt' (CM_seq ?_)
 let K1 : List Value := [.int .i64 x0.Segment, .int .i64 x0.Base, .slice A8 x0.Ids.length c9, .slice A13 x0.Tenants.length c14, .slice A18 x0.Rows.length c19]
 refine CM_cut (σ := Option Addr × Nat × Option Addr × Nat × Option Addr × Nat) (fun s => [(2, .pointer (some (⟨p26, 0, none⟩ : Addr)))]) (fun s => [iBox p26 133 [.int .i64 x0.Segment, .int .i64 x0.Base, .slice s.1 x0.Ids.length s.2.1, .slice s.2.2.1 x0.Tenants.length s.2.2.2.1, .slice s.2.2.2.2.1 x0.Rows.length s.2.2.2.2.2], iOwn (tSl tInt 3) [.slice s.2.2.2.2.1 x0.Rows.length s.2.2.2.2.2] x0.Rows, iOwn (tSl tInt 3) [.slice s.2.2.1 x0.Tenants.length s.2.2.2.1] x0.Tenants, iOwn (tSl tInt 3) [.slice s.1 x0.Ids.length s.2.1] x0.Ids, iBox p25 133 K1]) (fun _ => True) ?_ ?_
 ·
  refine rb 18 (s := [iBox p25 133 K1]) (pk [1]) ?_
  refine qt 18 0 1 rfl (vf underlying133 rfl type3) ?_
  refine qt 18 1 3 rfl (vl 0 0 underlying3) ?_
  refine qt 18 2 7 rfl (vf underlying133 rfl type3) ?_
  refine qt 18 3 15 rfl (vl 0 1 underlying3) ?_
  refine qt 18 5 47 rfl (vf underlying133 rfl type25) ?_
  refine qt 18 6 111 rfl (vl 0 2 underlying25) ?_
  refine qt 18 9 623 rfl (vf underlying133 rfl type25) ?_
  refine qt 18 10 1647 rfl (vl 0 3 underlying25) ?_
  refine qt 18 13 9839 rfl (vf underlying133 rfl type25) ?_
  refine qt 18 14 26223 rfl (vl 0 4 underlying25) ?_
  refine qa [4, 8, 12] ?_
  refine qc 18 26239 rfl ?_ ?_
  ·
   refine WM_build0 (E := tInt) underlying25 type3 (Wd_none rfl) (by decide) (fun p48 => ?_)
   refine qn (pk [2]) ?_
   refine qa [7, 8, 12] ?_
   refine qc 18 26367 rfl ?_ ?_
   ·
    let K2 : List Value := [.int .i64 0, .int .i64 0, .slice none 0 0, .slice none 0 0, .slice none 0 0]
    refine apR tInt tInt 3 (.slice (some ⟨p48, 0, none⟩) 0 0) [] x0.Ids [iBox p26 133 K2, iBox p25 133 K1] (fun W hm => hm) (fun W hm => src_flat flat_int (hm.rdS0 r11)) underlying25 type3 (show (0 + x0.Ids.length) * 8 ≤ 140737488355328 from by omega) (fun v50 => ?_)
    refine WM_form (n := 0) rfl ?_
    rintro A51 c52 rfl m53
    refine qn (pk [2]) ?_
    refine qa [8, 12] ?_
    refine qc 18 26623 rfl ?_ ?_
    ·
     refine WM_build0 (E := tInt) underlying25 type3 (Wd_none rfl) (by decide) (fun p55 => ?_)
     refine qn (pk [3]) ?_
     refine qa [11, 12] ?_
     refine qc 18 28671 rfl ?_ ?_
     ·
      let I29 : It := iOwn (tSl tInt 3) [.slice A51 x0.Ids.length c52] x0.Ids
      refine apR tInt tInt 3 (.slice (some ⟨p55, 0, none⟩) 0 0) [] x0.Tenants [I29, iBox p26 133 K2, iBox p25 133 K1] (fun W hm => hm) (fun W hm => src_flat flat_int (hm.rdS0 r16)) underlying25 type3 (show (0 + x0.Tenants.length) * 8 ≤ 140737488355328 from by omega) (fun v57 => ?_)
      refine WM_form (n := 0) rfl ?_
      rintro A58 c59 rfl m60
      refine qn (pk [3]) ?_
      refine qo 18 12 32767 rfl ?_
      refine WM_build0 (E := tInt) underlying25 type3 (Wd_none rfl) (by decide) (fun p62 => ?_)
      refine qn (pk [4]) ?_
      refine qo 18 15 65535 rfl ?_
      let I30 : It := iOwn (tSl tInt 3) [.slice A58 x0.Tenants.length c59] x0.Tenants
      refine apR tInt tInt 3 (.slice (some ⟨p62, 0, none⟩) 0 0) [] x0.Rows [I30, I29, iBox p26 133 K2, iBox p25 133 K1] (fun W hm => hm) (fun W hm => src_flat flat_int (hm.rdS0 r21)) underlying25 type3 (show (0 + x0.Rows.length) * 8 ≤ 140737488355328 from by omega) (fun v64 => ?_)
      refine WM_form (n := 0) rfl ?_
      rintro A65 c66 rfl m67
      refine qn (pk [4]) ?_
      let K3 : List Value := [.int .i64 x0.Segment, .int .i64 x0.Base, .slice A51 x0.Ids.length c52, .slice A58 x0.Tenants.length c59, .slice A65 x0.Rows.length c66]
      refine qt 18 16 131071 rfl (fun W hm => rv_build (cs := K3) rfl (by kernel_rfl)) ?_
      refine qo 18 17 262143 rfl ?_
      refine sb 0 K3 [iOwn (tSl tInt 3) [.slice A65 x0.Rows.length c66] x0.Rows, I30, I29, iBox p25 133 K1] (pk [3, 0, 1, 2, 4]) type133 ?_
      refine qn (pk [4]) ?_
      refine QB_done (by kernel_rfl) ?_
      exact QM_cut_normal (A51, c52, A58, c59, A65, c66) (subL_cons rfl subL_nil) (fun W hm => hm) trivial
     refine qc 18 30719 rfl ?_ ?_
     ·
      refine WM_build0 (E := tInt) underlying25 type3 (Wd_none rfl) (by decide) (fun p69 => ?_)
      refine qn (pk [4]) ?_
      refine qo 18 11 32767 rfl ?_
      let I31 : It := iOwn (tSl tInt 3) [.slice A51 x0.Ids.length c52] x0.Ids
      refine apR tInt tInt 3 (.slice (some ⟨p55, 0, none⟩) 0 0) [] x0.Tenants [iOwn (tSl tInt 3) [.slice (some ⟨p69, 0, none⟩) 0 0] [], I31, iBox p26 133 K2, iBox p25 133 K1] (pk [1, 0, 2, 3, 4]) (fun W hm => src_flat flat_int (hm.rdS0 r16)) underlying25 type3 (show (0 + x0.Tenants.length) * 8 ≤ 140737488355328 from by omega) (fun v71 => ?_)
      refine WM_form (n := 0) rfl ?_
      rintro A72 c73 rfl m74
      refine qn (pk [4]) ?_
      refine qo 18 15 65535 rfl ?_
      let I32 : It := iOwn (tSl tInt 3) [.slice A72 x0.Tenants.length c73] x0.Tenants
      refine apR tInt tInt 3 (.slice (some ⟨p69, 0, none⟩) 0 0) [] x0.Rows [I32, I31, iBox p26 133 K2, iBox p25 133 K1] (pk [1, 0, 2, 3, 4]) (fun W hm => src_flat flat_int (hm.rdS0 r21)) underlying25 type3 (show (0 + x0.Rows.length) * 8 ≤ 140737488355328 from by omega) (fun v76 => ?_)
      refine WM_form (n := 0) rfl ?_
      rintro A77 c78 rfl m79
      refine qn (pk [4]) ?_
      let K4 : List Value := [.int .i64 x0.Segment, .int .i64 x0.Base, .slice A51 x0.Ids.length c52, .slice A72 x0.Tenants.length c73, .slice A77 x0.Rows.length c78]
      refine qt 18 16 131071 rfl (fun W hm => rv_build (cs := K4) rfl (by kernel_rfl)) ?_
      refine qo 18 17 262143 rfl ?_
      refine sb 0 K4 [iOwn (tSl tInt 3) [.slice A77 x0.Rows.length c78] x0.Rows, I32, I31, iBox p25 133 K1] (pk [3, 0, 1, 2, 4]) type133 ?_
      refine qn (pk [4]) ?_
      refine QB_done (by kernel_rfl) ?_
      exact QM_cut_normal (A51, c52, A72, c73, A77, c78) (subL_cons rfl subL_nil) (fun W hm => hm) trivial
     exact QBs_nil
    refine qc 18 30463 rfl ?_ ?_
    ·
     refine WM_build0 (E := tInt) underlying25 type3 (Wd_none rfl) (by decide) (fun p81 => ?_)
     refine qn (pk [3]) ?_
     refine qo 18 8 30719 rfl ?_
     refine WM_build0 (E := tInt) underlying25 type3 (Wd_none rfl) (by decide) (fun p83 => ?_)
     refine qn (pk [4]) ?_
     refine qo 18 11 32767 rfl ?_
     let I33 : It := iOwn (tSl tInt 3) [.slice A51 x0.Ids.length c52] x0.Ids
     refine apR tInt tInt 3 (.slice (some ⟨p83, 0, none⟩) 0 0) [] x0.Tenants [iOwn (tSl tInt 3) [.slice (some ⟨p81, 0, none⟩) 0 0] [], I33, iBox p26 133 K2, iBox p25 133 K1] (fun W hm => hm) (fun W hm => src_flat flat_int (hm.rdS0 r16)) underlying25 type3 (show (0 + x0.Tenants.length) * 8 ≤ 140737488355328 from by omega) (fun v85 => ?_)
     refine WM_form (n := 0) rfl ?_
     rintro A86 c87 rfl m88
     refine qn (pk [4]) ?_
     refine qo 18 15 65535 rfl ?_
     let I34 : It := iOwn (tSl tInt 3) [.slice A86 x0.Tenants.length c87] x0.Tenants
     refine apR tInt tInt 3 (.slice (some ⟨p81, 0, none⟩) 0 0) [] x0.Rows [I34, I33, iBox p26 133 K2, iBox p25 133 K1] (pk [1, 0, 2, 3, 4]) (fun W hm => src_flat flat_int (hm.rdS0 r21)) underlying25 type3 (show (0 + x0.Rows.length) * 8 ≤ 140737488355328 from by omega) (fun v90 => ?_)
     refine WM_form (n := 0) rfl ?_
     rintro A91 c92 rfl m93
     refine qn (pk [4]) ?_
     let K5 : List Value := [.int .i64 x0.Segment, .int .i64 x0.Base, .slice A51 x0.Ids.length c52, .slice A86 x0.Tenants.length c87, .slice A91 x0.Rows.length c92]
     refine qt 18 16 131071 rfl (fun W hm => rv_build (cs := K5) rfl (by kernel_rfl)) ?_
     refine qo 18 17 262143 rfl ?_
     refine sb 0 K5 [iOwn (tSl tInt 3) [.slice A91 x0.Rows.length c92] x0.Rows, I34, I33, iBox p25 133 K1] (pk [3, 0, 1, 2, 4]) type133 ?_
     refine qn (pk [4]) ?_
     refine QB_done (by kernel_rfl) ?_
     exact QM_cut_normal (A51, c52, A86, c87, A91, c92) (subL_cons rfl subL_nil) (fun W hm => hm) trivial
    exact QBs_nil
   refine qc 18 26495 rfl ?_ ?_
   ·
    refine WM_build0 (E := tInt) underlying25 type3 (Wd_none rfl) (by decide) (fun p95 => ?_)
    refine qn (pk [3]) ?_
    refine qa [7, 12] ?_
    refine qc 18 26623 rfl ?_ ?_
    ·
     let K6 : List Value := [.int .i64 0, .int .i64 0, .slice none 0 0, .slice none 0 0, .slice none 0 0]
     refine apR tInt tInt 3 (.slice (some ⟨p48, 0, none⟩) 0 0) [] x0.Ids [iOwn (tSl tInt 3) [.slice (some ⟨p95, 0, none⟩) 0 0] [], iBox p26 133 K6, iBox p25 133 K1] (pk [1, 0, 2, 3]) (fun W hm => src_flat flat_int (hm.rdS0 r11)) underlying25 type3 (show (0 + x0.Ids.length) * 8 ≤ 140737488355328 from by omega) (fun v97 => ?_)
     refine WM_form (n := 0) rfl ?_
     rintro A98 c99 rfl m100
     refine qn (pk [3]) ?_
     refine qa [11, 12] ?_
     refine qc 18 28671 rfl ?_ ?_
     ·
      let I35 : It := iOwn (tSl tInt 3) [.slice A98 x0.Ids.length c99] x0.Ids
      refine apR tInt tInt 3 (.slice (some ⟨p95, 0, none⟩) 0 0) [] x0.Tenants [I35, iBox p26 133 K6, iBox p25 133 K1] (pk [1, 0, 2, 3]) (fun W hm => src_flat flat_int (hm.rdS0 r16)) underlying25 type3 (show (0 + x0.Tenants.length) * 8 ≤ 140737488355328 from by omega) (fun v102 => ?_)
      refine WM_form (n := 0) rfl ?_
      rintro A103 c104 rfl m105
      refine qn (pk [3]) ?_
      refine qo 18 12 32767 rfl ?_
      refine WM_build0 (E := tInt) underlying25 type3 (Wd_none rfl) (by decide) (fun p107 => ?_)
      refine qn (pk [4]) ?_
      refine qo 18 15 65535 rfl ?_
      let I36 : It := iOwn (tSl tInt 3) [.slice A103 x0.Tenants.length c104] x0.Tenants
      refine apR tInt tInt 3 (.slice (some ⟨p107, 0, none⟩) 0 0) [] x0.Rows [I36, I35, iBox p26 133 K6, iBox p25 133 K1] (fun W hm => hm) (fun W hm => src_flat flat_int (hm.rdS0 r21)) underlying25 type3 (show (0 + x0.Rows.length) * 8 ≤ 140737488355328 from by omega) (fun v109 => ?_)
      refine WM_form (n := 0) rfl ?_
      rintro A110 c111 rfl m112
      refine qn (pk [4]) ?_
      let K7 : List Value := [.int .i64 x0.Segment, .int .i64 x0.Base, .slice A98 x0.Ids.length c99, .slice A103 x0.Tenants.length c104, .slice A110 x0.Rows.length c111]
      refine qt 18 16 131071 rfl (fun W hm => rv_build (cs := K7) rfl (by kernel_rfl)) ?_
      refine qo 18 17 262143 rfl ?_
      refine sb 0 K7 [iOwn (tSl tInt 3) [.slice A110 x0.Rows.length c111] x0.Rows, I36, I35, iBox p25 133 K1] (pk [3, 0, 1, 2, 4]) type133 ?_
      refine qn (pk [4]) ?_
      refine QB_done (by kernel_rfl) ?_
      exact QM_cut_normal (A98, c99, A103, c104, A110, c111) (subL_cons rfl subL_nil) (fun W hm => hm) trivial
     refine qc 18 30719 rfl ?_ ?_
     ·
      refine WM_build0 (E := tInt) underlying25 type3 (Wd_none rfl) (by decide) (fun p114 => ?_)
      refine qn (pk [4]) ?_
      refine qo 18 11 32767 rfl ?_
      let I37 : It := iOwn (tSl tInt 3) [.slice A98 x0.Ids.length c99] x0.Ids
      refine apR tInt tInt 3 (.slice (some ⟨p95, 0, none⟩) 0 0) [] x0.Tenants [iOwn (tSl tInt 3) [.slice (some ⟨p114, 0, none⟩) 0 0] [], I37, iBox p26 133 K6, iBox p25 133 K1] (pk [2, 0, 1, 3, 4]) (fun W hm => src_flat flat_int (hm.rdS0 r16)) underlying25 type3 (show (0 + x0.Tenants.length) * 8 ≤ 140737488355328 from by omega) (fun v116 => ?_)
      refine WM_form (n := 0) rfl ?_
      rintro A117 c118 rfl m119
      refine qn (pk [4]) ?_
      refine qo 18 15 65535 rfl ?_
      let I38 : It := iOwn (tSl tInt 3) [.slice A117 x0.Tenants.length c118] x0.Tenants
      refine apR tInt tInt 3 (.slice (some ⟨p114, 0, none⟩) 0 0) [] x0.Rows [I38, I37, iBox p26 133 K6, iBox p25 133 K1] (pk [1, 0, 2, 3, 4]) (fun W hm => src_flat flat_int (hm.rdS0 r21)) underlying25 type3 (show (0 + x0.Rows.length) * 8 ≤ 140737488355328 from by omega) (fun v121 => ?_)
      refine WM_form (n := 0) rfl ?_
      rintro A122 c123 rfl m124
      refine qn (pk [4]) ?_
      let K8 : List Value := [.int .i64 x0.Segment, .int .i64 x0.Base, .slice A98 x0.Ids.length c99, .slice A117 x0.Tenants.length c118, .slice A122 x0.Rows.length c123]
      refine qt 18 16 131071 rfl (fun W hm => rv_build (cs := K8) rfl (by kernel_rfl)) ?_
      refine qo 18 17 262143 rfl ?_
      refine sb 0 K8 [iOwn (tSl tInt 3) [.slice A122 x0.Rows.length c123] x0.Rows, I38, I37, iBox p25 133 K1] (pk [3, 0, 1, 2, 4]) type133 ?_
      refine qn (pk [4]) ?_
      refine QB_done (by kernel_rfl) ?_
      exact QM_cut_normal (A98, c99, A117, c118, A122, c123) (subL_cons rfl subL_nil) (fun W hm => hm) trivial
     exact QBs_nil
    refine qc 18 30591 rfl ?_ ?_
    ·
     refine WM_build0 (E := tInt) underlying25 type3 (Wd_none rfl) (by decide) (fun p126 => ?_)
     refine qn (pk [4]) ?_
     refine qo 18 7 30719 rfl ?_
     let K9 : List Value := [.int .i64 0, .int .i64 0, .slice none 0 0, .slice none 0 0, .slice none 0 0]
     let I39 : It := iOwn (tSl tInt 3) [.slice (some ⟨p126, 0, none⟩) 0 0] []
     refine apR tInt tInt 3 (.slice (some ⟨p48, 0, none⟩) 0 0) [] x0.Ids [I39, iOwn (tSl tInt 3) [.slice (some ⟨p95, 0, none⟩) 0 0] [], iBox p26 133 K9, iBox p25 133 K1] (pk [2, 0, 1, 3, 4]) (fun W hm => src_flat flat_int (hm.rdS0 r11)) underlying25 type3 (show (0 + x0.Ids.length) * 8 ≤ 140737488355328 from by omega) (fun v128 => ?_)
     refine WM_form (n := 0) rfl ?_
     rintro A129 c130 rfl m131
     refine qn (pk [4]) ?_
     refine qo 18 11 32767 rfl ?_
     let I40 : It := iOwn (tSl tInt 3) [.slice A129 x0.Ids.length c130] x0.Ids
     refine apR tInt tInt 3 (.slice (some ⟨p95, 0, none⟩) 0 0) [] x0.Tenants [I40, I39, iBox p26 133 K9, iBox p25 133 K1] (pk [2, 0, 1, 3, 4]) (fun W hm => src_flat flat_int (hm.rdS0 r16)) underlying25 type3 (show (0 + x0.Tenants.length) * 8 ≤ 140737488355328 from by omega) (fun v133 => ?_)
     refine WM_form (n := 0) rfl ?_
     rintro A134 c135 rfl m136
     refine qn (pk [4]) ?_
     refine qo 18 15 65535 rfl ?_
     let I41 : It := iOwn (tSl tInt 3) [.slice A134 x0.Tenants.length c135] x0.Tenants
     refine apR tInt tInt 3 (.slice (some ⟨p126, 0, none⟩) 0 0) [] x0.Rows [I41, I40, iBox p26 133 K9, iBox p25 133 K1] (pk [2, 0, 1, 3, 4]) (fun W hm => src_flat flat_int (hm.rdS0 r21)) underlying25 type3 (show (0 + x0.Rows.length) * 8 ≤ 140737488355328 from by omega) (fun v138 => ?_)
     refine WM_form (n := 0) rfl ?_
     rintro A139 c140 rfl m141
     refine qn (pk [4]) ?_
     let K10 : List Value := [.int .i64 x0.Segment, .int .i64 x0.Base, .slice A129 x0.Ids.length c130, .slice A134 x0.Tenants.length c135, .slice A139 x0.Rows.length c140]
     refine qt 18 16 131071 rfl (fun W hm => rv_build (cs := K10) rfl (by kernel_rfl)) ?_
     refine qo 18 17 262143 rfl ?_
     refine sb 0 K10 [iOwn (tSl tInt 3) [.slice A139 x0.Rows.length c140] x0.Rows, I41, I40, iBox p25 133 K1] (pk [3, 0, 1, 2, 4]) type133 ?_
     refine qn (pk [4]) ?_
     refine QB_done (by kernel_rfl) ?_
     exact QM_cut_normal (A129, c130, A134, c135, A139, c140) (subL_cons rfl subL_nil) (fun W hm => hm) trivial
    exact QBs_nil
   refine qc 18 30335 rfl ?_ ?_
   ·
    refine WM_build0 (E := tInt) underlying25 type3 (Wd_none rfl) (by decide) (fun p143 => ?_)
    refine qn (pk [3]) ?_
    refine qa [7, 8] ?_
    refine qc 18 30463 rfl ?_ ?_
    ·
     let K11 : List Value := [.int .i64 0, .int .i64 0, .slice none 0 0, .slice none 0 0, .slice none 0 0]
     let I42 : It := iOwn (tSl tInt 3) [.slice (some ⟨p143, 0, none⟩) 0 0] []
     refine apR tInt tInt 3 (.slice (some ⟨p48, 0, none⟩) 0 0) [] x0.Ids [I42, iBox p26 133 K11, iBox p25 133 K1] (pk [1, 0, 2, 3]) (fun W hm => src_flat flat_int (hm.rdS0 r11)) underlying25 type3 (show (0 + x0.Ids.length) * 8 ≤ 140737488355328 from by omega) (fun v145 => ?_)
     refine WM_form (n := 0) rfl ?_
     rintro A146 c147 rfl m148
     refine qn (pk [3]) ?_
     refine qo 18 8 30719 rfl ?_
     refine WM_build0 (E := tInt) underlying25 type3 (Wd_none rfl) (by decide) (fun p150 => ?_)
     refine qn (pk [4]) ?_
     refine qo 18 11 32767 rfl ?_
     let I43 : It := iOwn (tSl tInt 3) [.slice A146 x0.Ids.length c147] x0.Ids
     refine apR tInt tInt 3 (.slice (some ⟨p150, 0, none⟩) 0 0) [] x0.Tenants [I43, I42, iBox p26 133 K11, iBox p25 133 K1] (fun W hm => hm) (fun W hm => src_flat flat_int (hm.rdS0 r16)) underlying25 type3 (show (0 + x0.Tenants.length) * 8 ≤ 140737488355328 from by omega) (fun v152 => ?_)
     refine WM_form (n := 0) rfl ?_
     rintro A153 c154 rfl m155
     refine qn (pk [4]) ?_
     refine qo 18 15 65535 rfl ?_
     let I44 : It := iOwn (tSl tInt 3) [.slice A153 x0.Tenants.length c154] x0.Tenants
     refine apR tInt tInt 3 (.slice (some ⟨p143, 0, none⟩) 0 0) [] x0.Rows [I44, I43, iBox p26 133 K11, iBox p25 133 K1] (pk [2, 0, 1, 3, 4]) (fun W hm => src_flat flat_int (hm.rdS0 r21)) underlying25 type3 (show (0 + x0.Rows.length) * 8 ≤ 140737488355328 from by omega) (fun v157 => ?_)
     refine WM_form (n := 0) rfl ?_
     rintro A158 c159 rfl m160
     refine qn (pk [4]) ?_
     let K12 : List Value := [.int .i64 x0.Segment, .int .i64 x0.Base, .slice A146 x0.Ids.length c147, .slice A153 x0.Tenants.length c154, .slice A158 x0.Rows.length c159]
     refine qt 18 16 131071 rfl (fun W hm => rv_build (cs := K12) rfl (by kernel_rfl)) ?_
     refine qo 18 17 262143 rfl ?_
     refine sb 0 K12 [iOwn (tSl tInt 3) [.slice A158 x0.Rows.length c159] x0.Rows, I44, I43, iBox p25 133 K1] (pk [3, 0, 1, 2, 4]) type133 ?_
     refine qn (pk [4]) ?_
     refine QB_done (by kernel_rfl) ?_
     exact QM_cut_normal (A146, c147, A153, c154, A158, c159) (subL_cons rfl subL_nil) (fun W hm => hm) trivial
    refine qc 18 30591 rfl ?_ ?_
    ·
     refine WM_build0 (E := tInt) underlying25 type3 (Wd_none rfl) (by decide) (fun p162 => ?_)
     refine qn (pk [4]) ?_
     refine qo 18 7 30719 rfl ?_
     let K13 : List Value := [.int .i64 0, .int .i64 0, .slice none 0 0, .slice none 0 0, .slice none 0 0]
     let I45 : It := iOwn (tSl tInt 3) [.slice (some ⟨p143, 0, none⟩) 0 0] []
     refine apR tInt tInt 3 (.slice (some ⟨p48, 0, none⟩) 0 0) [] x0.Ids [iOwn (tSl tInt 3) [.slice (some ⟨p162, 0, none⟩) 0 0] [], I45, iBox p26 133 K13, iBox p25 133 K1] (pk [2, 0, 1, 3, 4]) (fun W hm => src_flat flat_int (hm.rdS0 r11)) underlying25 type3 (show (0 + x0.Ids.length) * 8 ≤ 140737488355328 from by omega) (fun v164 => ?_)
     refine WM_form (n := 0) rfl ?_
     rintro A165 c166 rfl m167
     refine qn (pk [4]) ?_
     refine qo 18 11 32767 rfl ?_
     let I46 : It := iOwn (tSl tInt 3) [.slice A165 x0.Ids.length c166] x0.Ids
     refine apR tInt tInt 3 (.slice (some ⟨p162, 0, none⟩) 0 0) [] x0.Tenants [I46, I45, iBox p26 133 K13, iBox p25 133 K1] (pk [1, 0, 2, 3, 4]) (fun W hm => src_flat flat_int (hm.rdS0 r16)) underlying25 type3 (show (0 + x0.Tenants.length) * 8 ≤ 140737488355328 from by omega) (fun v169 => ?_)
     refine WM_form (n := 0) rfl ?_
     rintro A170 c171 rfl m172
     refine qn (pk [4]) ?_
     refine qo 18 15 65535 rfl ?_
     let I47 : It := iOwn (tSl tInt 3) [.slice A170 x0.Tenants.length c171] x0.Tenants
     refine apR tInt tInt 3 (.slice (some ⟨p143, 0, none⟩) 0 0) [] x0.Rows [I47, I46, iBox p26 133 K13, iBox p25 133 K1] (pk [2, 0, 1, 3, 4]) (fun W hm => src_flat flat_int (hm.rdS0 r21)) underlying25 type3 (show (0 + x0.Rows.length) * 8 ≤ 140737488355328 from by omega) (fun v174 => ?_)
     refine WM_form (n := 0) rfl ?_
     rintro A175 c176 rfl m177
     refine qn (pk [4]) ?_
     let K14 : List Value := [.int .i64 x0.Segment, .int .i64 x0.Base, .slice A165 x0.Ids.length c166, .slice A170 x0.Tenants.length c171, .slice A175 x0.Rows.length c176]
     refine qt 18 16 131071 rfl (fun W hm => rv_build (cs := K14) rfl (by kernel_rfl)) ?_
     refine qo 18 17 262143 rfl ?_
     refine sb 0 K14 [iOwn (tSl tInt 3) [.slice A175 x0.Rows.length c176] x0.Rows, I47, I46, iBox p25 133 K1] (pk [3, 0, 1, 2, 4]) type133 ?_
     refine qn (pk [4]) ?_
     refine QB_done (by kernel_rfl) ?_
     exact QM_cut_normal (A165, c166, A170, c171, A175, c176) (subL_cons rfl subL_nil) (fun W hm => hm) trivial
    exact QBs_nil
   exact QBs_nil
  refine qc 18 26479 rfl ?_ ?_
  ·
   refine WM_build0 (E := tInt) underlying25 type3 (Wd_none rfl) (by decide) (fun p179 => ?_)
   refine qn (pk [2]) ?_
   refine qa [4, 12] ?_
   refine qc 18 26495 rfl ?_ ?_
   ·
    refine WM_build0 (E := tInt) underlying25 type3 (Wd_none rfl) (by decide) (fun p181 => ?_)
    refine qn (pk [3]) ?_
    refine qa [7, 12] ?_
    refine qc 18 26623 rfl ?_ ?_
    ·
     let K15 : List Value := [.int .i64 0, .int .i64 0, .slice none 0 0, .slice none 0 0, .slice none 0 0]
     refine apR tInt tInt 3 (.slice (some ⟨p181, 0, none⟩) 0 0) [] x0.Ids [iOwn (tSl tInt 3) [.slice (some ⟨p179, 0, none⟩) 0 0] [], iBox p26 133 K15, iBox p25 133 K1] (fun W hm => hm) (fun W hm => src_flat flat_int (hm.rdS0 r11)) underlying25 type3 (show (0 + x0.Ids.length) * 8 ≤ 140737488355328 from by omega) (fun v183 => ?_)
     refine WM_form (n := 0) rfl ?_
     rintro A184 c185 rfl m186
     refine qn (pk [3]) ?_
     refine qa [11, 12] ?_
     refine qc 18 28671 rfl ?_ ?_
     ·
      let I48 : It := iOwn (tSl tInt 3) [.slice A184 x0.Ids.length c185] x0.Ids
      refine apR tInt tInt 3 (.slice (some ⟨p179, 0, none⟩) 0 0) [] x0.Tenants [I48, iBox p26 133 K15, iBox p25 133 K1] (pk [1, 0, 2, 3]) (fun W hm => src_flat flat_int (hm.rdS0 r16)) underlying25 type3 (show (0 + x0.Tenants.length) * 8 ≤ 140737488355328 from by omega) (fun v188 => ?_)
      refine WM_form (n := 0) rfl ?_
      rintro A189 c190 rfl m191
      refine qn (pk [3]) ?_
      refine qo 18 12 32767 rfl ?_
      refine WM_build0 (E := tInt) underlying25 type3 (Wd_none rfl) (by decide) (fun p193 => ?_)
      refine qn (pk [4]) ?_
      refine qo 18 15 65535 rfl ?_
      let I49 : It := iOwn (tSl tInt 3) [.slice A189 x0.Tenants.length c190] x0.Tenants
      refine apR tInt tInt 3 (.slice (some ⟨p193, 0, none⟩) 0 0) [] x0.Rows [I49, I48, iBox p26 133 K15, iBox p25 133 K1] (fun W hm => hm) (fun W hm => src_flat flat_int (hm.rdS0 r21)) underlying25 type3 (show (0 + x0.Rows.length) * 8 ≤ 140737488355328 from by omega) (fun v195 => ?_)
      refine WM_form (n := 0) rfl ?_
      rintro A196 c197 rfl m198
      refine qn (pk [4]) ?_
      let K16 : List Value := [.int .i64 x0.Segment, .int .i64 x0.Base, .slice A184 x0.Ids.length c185, .slice A189 x0.Tenants.length c190, .slice A196 x0.Rows.length c197]
      refine qt 18 16 131071 rfl (fun W hm => rv_build (cs := K16) rfl (by kernel_rfl)) ?_
      refine qo 18 17 262143 rfl ?_
      refine sb 0 K16 [iOwn (tSl tInt 3) [.slice A196 x0.Rows.length c197] x0.Rows, I49, I48, iBox p25 133 K1] (pk [3, 0, 1, 2, 4]) type133 ?_
      refine qn (pk [4]) ?_
      refine QB_done (by kernel_rfl) ?_
      exact QM_cut_normal (A184, c185, A189, c190, A196, c197) (subL_cons rfl subL_nil) (fun W hm => hm) trivial
     refine qc 18 30719 rfl ?_ ?_
     ·
      refine WM_build0 (E := tInt) underlying25 type3 (Wd_none rfl) (by decide) (fun p200 => ?_)
      refine qn (pk [4]) ?_
      refine qo 18 11 32767 rfl ?_
      let I50 : It := iOwn (tSl tInt 3) [.slice A184 x0.Ids.length c185] x0.Ids
      refine apR tInt tInt 3 (.slice (some ⟨p179, 0, none⟩) 0 0) [] x0.Tenants [iOwn (tSl tInt 3) [.slice (some ⟨p200, 0, none⟩) 0 0] [], I50, iBox p26 133 K15, iBox p25 133 K1] (pk [2, 0, 1, 3, 4]) (fun W hm => src_flat flat_int (hm.rdS0 r16)) underlying25 type3 (show (0 + x0.Tenants.length) * 8 ≤ 140737488355328 from by omega) (fun v202 => ?_)
      refine WM_form (n := 0) rfl ?_
      rintro A203 c204 rfl m205
      refine qn (pk [4]) ?_
      refine qo 18 15 65535 rfl ?_
      let I51 : It := iOwn (tSl tInt 3) [.slice A203 x0.Tenants.length c204] x0.Tenants
      refine apR tInt tInt 3 (.slice (some ⟨p200, 0, none⟩) 0 0) [] x0.Rows [I51, I50, iBox p26 133 K15, iBox p25 133 K1] (pk [1, 0, 2, 3, 4]) (fun W hm => src_flat flat_int (hm.rdS0 r21)) underlying25 type3 (show (0 + x0.Rows.length) * 8 ≤ 140737488355328 from by omega) (fun v207 => ?_)
      refine WM_form (n := 0) rfl ?_
      rintro A208 c209 rfl m210
      refine qn (pk [4]) ?_
      let K17 : List Value := [.int .i64 x0.Segment, .int .i64 x0.Base, .slice A184 x0.Ids.length c185, .slice A203 x0.Tenants.length c204, .slice A208 x0.Rows.length c209]
      refine qt 18 16 131071 rfl (fun W hm => rv_build (cs := K17) rfl (by kernel_rfl)) ?_
      refine qo 18 17 262143 rfl ?_
      refine sb 0 K17 [iOwn (tSl tInt 3) [.slice A208 x0.Rows.length c209] x0.Rows, I51, I50, iBox p25 133 K1] (pk [3, 0, 1, 2, 4]) type133 ?_
      refine qn (pk [4]) ?_
      refine QB_done (by kernel_rfl) ?_
      exact QM_cut_normal (A184, c185, A203, c204, A208, c209) (subL_cons rfl subL_nil) (fun W hm => hm) trivial
     exact QBs_nil
    refine qc 18 30591 rfl ?_ ?_
    ·
     refine WM_build0 (E := tInt) underlying25 type3 (Wd_none rfl) (by decide) (fun p212 => ?_)
     refine qn (pk [4]) ?_
     refine qo 18 7 30719 rfl ?_
     let K18 : List Value := [.int .i64 0, .int .i64 0, .slice none 0 0, .slice none 0 0, .slice none 0 0]
     let I52 : It := iOwn (tSl tInt 3) [.slice (some ⟨p212, 0, none⟩) 0 0] []
     refine apR tInt tInt 3 (.slice (some ⟨p181, 0, none⟩) 0 0) [] x0.Ids [I52, iOwn (tSl tInt 3) [.slice (some ⟨p179, 0, none⟩) 0 0] [], iBox p26 133 K18, iBox p25 133 K1] (pk [1, 0, 2, 3, 4]) (fun W hm => src_flat flat_int (hm.rdS0 r11)) underlying25 type3 (show (0 + x0.Ids.length) * 8 ≤ 140737488355328 from by omega) (fun v214 => ?_)
     refine WM_form (n := 0) rfl ?_
     rintro A215 c216 rfl m217
     refine qn (pk [4]) ?_
     refine qo 18 11 32767 rfl ?_
     let I53 : It := iOwn (tSl tInt 3) [.slice A215 x0.Ids.length c216] x0.Ids
     refine apR tInt tInt 3 (.slice (some ⟨p179, 0, none⟩) 0 0) [] x0.Tenants [I53, I52, iBox p26 133 K18, iBox p25 133 K1] (pk [2, 0, 1, 3, 4]) (fun W hm => src_flat flat_int (hm.rdS0 r16)) underlying25 type3 (show (0 + x0.Tenants.length) * 8 ≤ 140737488355328 from by omega) (fun v219 => ?_)
     refine WM_form (n := 0) rfl ?_
     rintro A220 c221 rfl m222
     refine qn (pk [4]) ?_
     refine qo 18 15 65535 rfl ?_
     let I54 : It := iOwn (tSl tInt 3) [.slice A220 x0.Tenants.length c221] x0.Tenants
     refine apR tInt tInt 3 (.slice (some ⟨p212, 0, none⟩) 0 0) [] x0.Rows [I54, I53, iBox p26 133 K18, iBox p25 133 K1] (pk [2, 0, 1, 3, 4]) (fun W hm => src_flat flat_int (hm.rdS0 r21)) underlying25 type3 (show (0 + x0.Rows.length) * 8 ≤ 140737488355328 from by omega) (fun v224 => ?_)
     refine WM_form (n := 0) rfl ?_
     rintro A225 c226 rfl m227
     refine qn (pk [4]) ?_
     let K19 : List Value := [.int .i64 x0.Segment, .int .i64 x0.Base, .slice A215 x0.Ids.length c216, .slice A220 x0.Tenants.length c221, .slice A225 x0.Rows.length c226]
     refine qt 18 16 131071 rfl (fun W hm => rv_build (cs := K19) rfl (by kernel_rfl)) ?_
     refine qo 18 17 262143 rfl ?_
     refine sb 0 K19 [iOwn (tSl tInt 3) [.slice A225 x0.Rows.length c226] x0.Rows, I54, I53, iBox p25 133 K1] (pk [3, 0, 1, 2, 4]) type133 ?_
     refine qn (pk [4]) ?_
     refine QB_done (by kernel_rfl) ?_
     exact QM_cut_normal (A215, c216, A220, c221, A225, c226) (subL_cons rfl subL_nil) (fun W hm => hm) trivial
    exact QBs_nil
   refine qc 18 30575 rfl ?_ ?_
   ·
    refine WM_build0 (E := tInt) underlying25 type3 (Wd_none rfl) (by decide) (fun p229 => ?_)
    refine qn (pk [3]) ?_
    refine qo 18 4 30591 rfl ?_
    refine WM_build0 (E := tInt) underlying25 type3 (Wd_none rfl) (by decide) (fun p231 => ?_)
    refine qn (pk [4]) ?_
    refine qo 18 7 30719 rfl ?_
    let K20 : List Value := [.int .i64 0, .int .i64 0, .slice none 0 0, .slice none 0 0, .slice none 0 0]
    let I55 : It := iOwn (tSl tInt 3) [.slice (some ⟨p229, 0, none⟩) 0 0] []
    refine apR tInt tInt 3 (.slice (some ⟨p231, 0, none⟩) 0 0) [] x0.Ids [I55, iOwn (tSl tInt 3) [.slice (some ⟨p179, 0, none⟩) 0 0] [], iBox p26 133 K20, iBox p25 133 K1] (fun W hm => hm) (fun W hm => src_flat flat_int (hm.rdS0 r11)) underlying25 type3 (show (0 + x0.Ids.length) * 8 ≤ 140737488355328 from by omega) (fun v233 => ?_)
    refine WM_form (n := 0) rfl ?_
    rintro A234 c235 rfl m236
    refine qn (pk [4]) ?_
    refine qo 18 11 32767 rfl ?_
    let I56 : It := iOwn (tSl tInt 3) [.slice A234 x0.Ids.length c235] x0.Ids
    refine apR tInt tInt 3 (.slice (some ⟨p179, 0, none⟩) 0 0) [] x0.Tenants [I56, I55, iBox p26 133 K20, iBox p25 133 K1] (pk [2, 0, 1, 3, 4]) (fun W hm => src_flat flat_int (hm.rdS0 r16)) underlying25 type3 (show (0 + x0.Tenants.length) * 8 ≤ 140737488355328 from by omega) (fun v238 => ?_)
    refine WM_form (n := 0) rfl ?_
    rintro A239 c240 rfl m241
    refine qn (pk [4]) ?_
    refine qo 18 15 65535 rfl ?_
    let I57 : It := iOwn (tSl tInt 3) [.slice A239 x0.Tenants.length c240] x0.Tenants
    refine apR tInt tInt 3 (.slice (some ⟨p229, 0, none⟩) 0 0) [] x0.Rows [I57, I56, iBox p26 133 K20, iBox p25 133 K1] (pk [2, 0, 1, 3, 4]) (fun W hm => src_flat flat_int (hm.rdS0 r21)) underlying25 type3 (show (0 + x0.Rows.length) * 8 ≤ 140737488355328 from by omega) (fun v243 => ?_)
    refine WM_form (n := 0) rfl ?_
    rintro A244 c245 rfl m246
    refine qn (pk [4]) ?_
    let K21 : List Value := [.int .i64 x0.Segment, .int .i64 x0.Base, .slice A234 x0.Ids.length c235, .slice A239 x0.Tenants.length c240, .slice A244 x0.Rows.length c245]
    refine qt 18 16 131071 rfl (fun W hm => rv_build (cs := K21) rfl (by kernel_rfl)) ?_
    refine qo 18 17 262143 rfl ?_
    refine sb 0 K21 [iOwn (tSl tInt 3) [.slice A244 x0.Rows.length c245] x0.Rows, I57, I56, iBox p25 133 K1] (pk [3, 0, 1, 2, 4]) type133 ?_
    refine qn (pk [4]) ?_
    refine QB_done (by kernel_rfl) ?_
    exact QM_cut_normal (A234, c235, A239, c240, A244, c245) (subL_cons rfl subL_nil) (fun W hm => hm) trivial
   exact QBs_nil
  refine qc 18 30319 rfl ?_ ?_
  ·
   refine WM_build0 (E := tInt) underlying25 type3 (Wd_none rfl) (by decide) (fun p248 => ?_)
   refine qn (pk [2]) ?_
   refine qa [4, 8] ?_
   refine qc 18 30335 rfl ?_ ?_
   ·
    refine WM_build0 (E := tInt) underlying25 type3 (Wd_none rfl) (by decide) (fun p250 => ?_)
    refine qn (pk [3]) ?_
    refine qa [7, 8] ?_
    refine qc 18 30463 rfl ?_ ?_
    ·
     let K22 : List Value := [.int .i64 0, .int .i64 0, .slice none 0 0, .slice none 0 0, .slice none 0 0]
     let I58 : It := iOwn (tSl tInt 3) [.slice (some ⟨p248, 0, none⟩) 0 0] []
     refine apR tInt tInt 3 (.slice (some ⟨p250, 0, none⟩) 0 0) [] x0.Ids [I58, iBox p26 133 K22, iBox p25 133 K1] (fun W hm => hm) (fun W hm => src_flat flat_int (hm.rdS0 r11)) underlying25 type3 (show (0 + x0.Ids.length) * 8 ≤ 140737488355328 from by omega) (fun v252 => ?_)
     refine WM_form (n := 0) rfl ?_
     rintro A253 c254 rfl m255
     refine qn (pk [3]) ?_
     refine qo 18 8 30719 rfl ?_
     refine WM_build0 (E := tInt) underlying25 type3 (Wd_none rfl) (by decide) (fun p257 => ?_)
     refine qn (pk [4]) ?_
     refine qo 18 11 32767 rfl ?_
     let I59 : It := iOwn (tSl tInt 3) [.slice A253 x0.Ids.length c254] x0.Ids
     refine apR tInt tInt 3 (.slice (some ⟨p257, 0, none⟩) 0 0) [] x0.Tenants [I59, I58, iBox p26 133 K22, iBox p25 133 K1] (fun W hm => hm) (fun W hm => src_flat flat_int (hm.rdS0 r16)) underlying25 type3 (show (0 + x0.Tenants.length) * 8 ≤ 140737488355328 from by omega) (fun v259 => ?_)
     refine WM_form (n := 0) rfl ?_
     rintro A260 c261 rfl m262
     refine qn (pk [4]) ?_
     refine qo 18 15 65535 rfl ?_
     let I60 : It := iOwn (tSl tInt 3) [.slice A260 x0.Tenants.length c261] x0.Tenants
     refine apR tInt tInt 3 (.slice (some ⟨p248, 0, none⟩) 0 0) [] x0.Rows [I60, I59, iBox p26 133 K22, iBox p25 133 K1] (pk [2, 0, 1, 3, 4]) (fun W hm => src_flat flat_int (hm.rdS0 r21)) underlying25 type3 (show (0 + x0.Rows.length) * 8 ≤ 140737488355328 from by omega) (fun v264 => ?_)
     refine WM_form (n := 0) rfl ?_
     rintro A265 c266 rfl m267
     refine qn (pk [4]) ?_
     let K23 : List Value := [.int .i64 x0.Segment, .int .i64 x0.Base, .slice A253 x0.Ids.length c254, .slice A260 x0.Tenants.length c261, .slice A265 x0.Rows.length c266]
     refine qt 18 16 131071 rfl (fun W hm => rv_build (cs := K23) rfl (by kernel_rfl)) ?_
     refine qo 18 17 262143 rfl ?_
     refine sb 0 K23 [iOwn (tSl tInt 3) [.slice A265 x0.Rows.length c266] x0.Rows, I60, I59, iBox p25 133 K1] (pk [3, 0, 1, 2, 4]) type133 ?_
     refine qn (pk [4]) ?_
     refine QB_done (by kernel_rfl) ?_
     exact QM_cut_normal (A253, c254, A260, c261, A265, c266) (subL_cons rfl subL_nil) (fun W hm => hm) trivial
    refine qc 18 30591 rfl ?_ ?_
    ·
     refine WM_build0 (E := tInt) underlying25 type3 (Wd_none rfl) (by decide) (fun p269 => ?_)
     refine qn (pk [4]) ?_
     refine qo 18 7 30719 rfl ?_
     let K24 : List Value := [.int .i64 0, .int .i64 0, .slice none 0 0, .slice none 0 0, .slice none 0 0]
     let I61 : It := iOwn (tSl tInt 3) [.slice (some ⟨p248, 0, none⟩) 0 0] []
     refine apR tInt tInt 3 (.slice (some ⟨p250, 0, none⟩) 0 0) [] x0.Ids [iOwn (tSl tInt 3) [.slice (some ⟨p269, 0, none⟩) 0 0] [], I61, iBox p26 133 K24, iBox p25 133 K1] (pk [1, 0, 2, 3, 4]) (fun W hm => src_flat flat_int (hm.rdS0 r11)) underlying25 type3 (show (0 + x0.Ids.length) * 8 ≤ 140737488355328 from by omega) (fun v271 => ?_)
     refine WM_form (n := 0) rfl ?_
     rintro A272 c273 rfl m274
     refine qn (pk [4]) ?_
     refine qo 18 11 32767 rfl ?_
     let I62 : It := iOwn (tSl tInt 3) [.slice A272 x0.Ids.length c273] x0.Ids
     refine apR tInt tInt 3 (.slice (some ⟨p269, 0, none⟩) 0 0) [] x0.Tenants [I62, I61, iBox p26 133 K24, iBox p25 133 K1] (pk [1, 0, 2, 3, 4]) (fun W hm => src_flat flat_int (hm.rdS0 r16)) underlying25 type3 (show (0 + x0.Tenants.length) * 8 ≤ 140737488355328 from by omega) (fun v276 => ?_)
     refine WM_form (n := 0) rfl ?_
     rintro A277 c278 rfl m279
     refine qn (pk [4]) ?_
     refine qo 18 15 65535 rfl ?_
     let I63 : It := iOwn (tSl tInt 3) [.slice A277 x0.Tenants.length c278] x0.Tenants
     refine apR tInt tInt 3 (.slice (some ⟨p248, 0, none⟩) 0 0) [] x0.Rows [I63, I62, iBox p26 133 K24, iBox p25 133 K1] (pk [2, 0, 1, 3, 4]) (fun W hm => src_flat flat_int (hm.rdS0 r21)) underlying25 type3 (show (0 + x0.Rows.length) * 8 ≤ 140737488355328 from by omega) (fun v281 => ?_)
     refine WM_form (n := 0) rfl ?_
     rintro A282 c283 rfl m284
     refine qn (pk [4]) ?_
     let K25 : List Value := [.int .i64 x0.Segment, .int .i64 x0.Base, .slice A272 x0.Ids.length c273, .slice A277 x0.Tenants.length c278, .slice A282 x0.Rows.length c283]
     refine qt 18 16 131071 rfl (fun W hm => rv_build (cs := K25) rfl (by kernel_rfl)) ?_
     refine qo 18 17 262143 rfl ?_
     refine sb 0 K25 [iOwn (tSl tInt 3) [.slice A282 x0.Rows.length c283] x0.Rows, I63, I62, iBox p25 133 K1] (pk [3, 0, 1, 2, 4]) type133 ?_
     refine qn (pk [4]) ?_
     refine QB_done (by kernel_rfl) ?_
     exact QM_cut_normal (A272, c273, A277, c278, A282, c283) (subL_cons rfl subL_nil) (fun W hm => hm) trivial
    exact QBs_nil
   refine qc 18 30575 rfl ?_ ?_
   ·
    refine WM_build0 (E := tInt) underlying25 type3 (Wd_none rfl) (by decide) (fun p286 => ?_)
    refine qn (pk [3]) ?_
    refine qo 18 4 30591 rfl ?_
    refine WM_build0 (E := tInt) underlying25 type3 (Wd_none rfl) (by decide) (fun p288 => ?_)
    refine qn (pk [4]) ?_
    refine qo 18 7 30719 rfl ?_
    let K26 : List Value := [.int .i64 0, .int .i64 0, .slice none 0 0, .slice none 0 0, .slice none 0 0]
    let I64 : It := iOwn (tSl tInt 3) [.slice (some ⟨p248, 0, none⟩) 0 0] []
    refine apR tInt tInt 3 (.slice (some ⟨p288, 0, none⟩) 0 0) [] x0.Ids [iOwn (tSl tInt 3) [.slice (some ⟨p286, 0, none⟩) 0 0] [], I64, iBox p26 133 K26, iBox p25 133 K1] (fun W hm => hm) (fun W hm => src_flat flat_int (hm.rdS0 r11)) underlying25 type3 (show (0 + x0.Ids.length) * 8 ≤ 140737488355328 from by omega) (fun v290 => ?_)
    refine WM_form (n := 0) rfl ?_
    rintro A291 c292 rfl m293
    refine qn (pk [4]) ?_
    refine qo 18 11 32767 rfl ?_
    let I65 : It := iOwn (tSl tInt 3) [.slice A291 x0.Ids.length c292] x0.Ids
    refine apR tInt tInt 3 (.slice (some ⟨p286, 0, none⟩) 0 0) [] x0.Tenants [I65, I64, iBox p26 133 K26, iBox p25 133 K1] (pk [1, 0, 2, 3, 4]) (fun W hm => src_flat flat_int (hm.rdS0 r16)) underlying25 type3 (show (0 + x0.Tenants.length) * 8 ≤ 140737488355328 from by omega) (fun v295 => ?_)
    refine WM_form (n := 0) rfl ?_
    rintro A296 c297 rfl m298
    refine qn (pk [4]) ?_
    refine qo 18 15 65535 rfl ?_
    let I66 : It := iOwn (tSl tInt 3) [.slice A296 x0.Tenants.length c297] x0.Tenants
    refine apR tInt tInt 3 (.slice (some ⟨p248, 0, none⟩) 0 0) [] x0.Rows [I66, I65, iBox p26 133 K26, iBox p25 133 K1] (pk [2, 0, 1, 3, 4]) (fun W hm => src_flat flat_int (hm.rdS0 r21)) underlying25 type3 (show (0 + x0.Rows.length) * 8 ≤ 140737488355328 from by omega) (fun v300 => ?_)
    refine WM_form (n := 0) rfl ?_
    rintro A301 c302 rfl m303
    refine qn (pk [4]) ?_
    let K27 : List Value := [.int .i64 x0.Segment, .int .i64 x0.Base, .slice A291 x0.Ids.length c292, .slice A296 x0.Tenants.length c297, .slice A301 x0.Rows.length c302]
    refine qt 18 16 131071 rfl (fun W hm => rv_build (cs := K27) rfl (by kernel_rfl)) ?_
    refine qo 18 17 262143 rfl ?_
    refine sb 0 K27 [iOwn (tSl tInt 3) [.slice A301 x0.Rows.length c302] x0.Rows, I66, I65, iBox p25 133 K1] (pk [3, 0, 1, 2, 4]) type133 ?_
    refine qn (pk [4]) ?_
    refine QB_done (by kernel_rfl) ?_
    exact QM_cut_normal (A291, c292, A296, c297, A301, c302) (subL_cons rfl subL_nil) (fun W hm => hm) trivial
   exact QBs_nil
  exact QBs_nil
 ·
  rintro ⟨A30, c31, A37, c38, A44, c45⟩ -
  let K28 : List Value := [.int .i64 x0.Segment, .int .i64 x0.Base, .slice A30 x0.Ids.length c31, .slice A37 x0.Tenants.length c38, .slice A44 x0.Rows.length c45]
  let I67 : It := iOwn (tSl tInt 3) [.slice A44 x0.Rows.length c45] x0.Rows
  let I68 : It := iOwn (tSl tInt 3) [.slice A37 x0.Tenants.length c38] x0.Tenants
  let I69 : It := iOwn (tSl tInt 3) [.slice A30 x0.Ids.length c31] x0.Ids
  show QM 20 _ _ _ .normal [(2, .pointer (some (⟨p26, 0, none⟩ : Addr)))] [iBox p26 133 K28, I67, I68, I69, iBox p25 133 K1]
  refine QM_len (n := 1) rfl ?_
  intro m305 m306
  refine QM_len (n := 2) rfl ?_
  intro m307 m308
  refine QM_len (n := 3) rfl ?_
  intro m309 m310
  refine QM_then (CM_ret ?_)
  refine QM_r1 rfl (RR_cell (n := 0) rfl rfl underlying133 type133 rfl) (fun W hm => ⟨K28, ?_, ?_⟩)
  ·first | rw [(show spec_l10Copy_m x0 = x0 from by unfold spec_l10Copy_m; exact rfl)] | rfl
  ·rw [(show spec_l10Copy_m x0 = x0 from by unfold spec_l10Copy_m; exact rfl)]; exact Mem.join (is := [I69, I68, I67]) (js := []) (fun _ _ hs => tyCharge_join (x := x0) hs) (hm.pick [3, 2, 1] (by decide))
theorem spec_l10Copy_eq (x0 : DCharge) : spec_l10Copy_m x0 = x0 := by
 rfl
theorem spec_l10Copy_c2 (w : World) (z0 : List Value) (x0 : DCharge) (r_0 : tyCharge.rd w w.heap.size z0 x0) (s_0 : smCharge 68719476736 x0) :
  Calls Tryz.prog 161 #[.agg z0.toArray] w fun e w' => ∃ v : List Value, e = .returned (.agg v.toArray) ∧ Mem w.heap.size w [iOwn tyCharge v x0] w' := by
 have h := spec_l10Copy_c w z0 x0 r_0 s_0
 rw [spec_l10Copy_eq] at h
 exact h

abbrev spec_l9Copy_v1 (x0 : DEngine) (k148 : Nat) (d151 : (List DActive)) : (List DActive) :=
 (d151 ++ [(⟨((gt x0.Active k148).Query), (gt x0.Active k148).Time, (gt x0.Active k148).Todo, (gt x0.Active k148).Age, (gt x0.Active k148).Sent, (gt x0.Active k148).Cap, ((gt x0.Active k148).Rows)⟩ : DActive)])
def spec_l9Copy_b3 (x0 : DEngine) (k295 : Nat) (d298 : (List DCharge)) : DEngine ⊕ ((List DCharge)) :=
 Sum.inr (d298 ++ [(gt x0.Ledger k295)])
def spec_l9Copy_b2 (x0 : DEngine) (k229 : Nat) (d232 : (List DFinished)) : DEngine ⊕ ((List DFinished)) :=
 Sum.inr (d232 ++ [(⟨((gt x0.Done k229).Query), (gt x0.Done k229).Time, (gt x0.Done k229).Steps, ((gt x0.Done k229).Rows)⟩ : DFinished)])
def spec_l9Copy_b1 (x0 : DEngine) (k148 : Nat) (d151 : (List DActive)) : DEngine ⊕ ((List DActive)) :=
 Sum.inr (spec_l9Copy_v1 x0 k148 d151)
def spec_l9Copy_m (x0 : DEngine) : DEngine :=
 Sum.elim id (fun (s1_ : (List DActive)) => Sum.elim id (fun (s2_ : (List DFinished)) => Sum.elim id (fun (s : (List DCharge)) => (⟨x0.Store, x0.Cursor, x0.Order, s1_, s2_, s, x0.Steps⟩ : DEngine)) (rng (R := DEngine) (fun k (s : (List DCharge)) => spec_l9Copy_b3 x0 k s) (x0.Ledger.length - 0) 0 [])) (rng (R := DEngine) (fun k (s : (List DFinished)) => spec_l9Copy_b2 x0 k s) (x0.Done.length - 0) 0 [])) (rng (R := DEngine) (fun k (s : (List DActive)) => spec_l9Copy_b1 x0 k s) (x0.Active.length - 0) 0 [])
theorem cb81 : Cb Tryz.prog 81 := ⟨f81, _, func81, rfl, by decide⟩
theorem spec_l9Copy_c (w : World) (z0 : List Value) (x0 : DEngine) (r_0 : tyEngine.rd w w.heap.size z0 x0) (s_0 : smEngine 68719476736 x0) :
  Calls Tryz.prog 81 #[.agg z0.toArray] w fun e w' => ∃ v : List Value, e = .returned (.agg v.toArray) ∧ Mem w.heap.size w [iOwn tyEngine v (spec_l9Copy_m x0)] w' := by
 obtain ⟨v1, v3, v5, v7, v9, rfl, r2, r4, r6, r8, r10⟩ := tyEngine_rd r_0
 have r15 := r2
 obtain ⟨m11, A12, c13, rfl, q14⟩ := r2
 have r20 := r4
 obtain ⟨m16, A17, c18, rfl, q19⟩ := r4
 have r25 := r6
 obtain ⟨m21, A22, c23, rfl, q24⟩ := r6
 have r30 := r8
 obtain ⟨m26, A27, c28, rfl, q29⟩ := r8
 have r35 := r10
 obtain ⟨m31, A32, c33, rfl, q34⟩ := r10
 have l36 : x0.Store.Segments.length ≤ 68719476736 := s_0.1.1
 have l37 : x0.Order.length ≤ 68719476736 := s_0.2.1
 have l38 : x0.Active.length ≤ 68719476736 := s_0.2.2.1.1
 have l39 : x0.Done.length ≤ 68719476736 := s_0.2.2.2.1.1
 have l40 : x0.Ledger.length ≤ 68719476736 := s_0.2.2.2.2.1
 refine ce1 (L := [(0, .agg #[.slice A12 x0.Store.Segments.length c13, .int .i64 x0.Store.Now, .int .i64 x0.Cursor, .slice A17 x0.Order.length c18, .slice A22 x0.Active.length c23, .slice A27 x0.Done.length c28, .slice A32 x0.Ledger.length c33, .int .i64 x0.Steps])]) (N := 97) func81 ?_
 refine sr ?_
 refine WM_box rfl (Wd_none rfl) (by decide) (fun p41 => ?_)
 refine WM_alloc type47 rfl (Wd_none rfl) (by decide) (fun p42 => ?_)
 refine nt' (CM_seq ?_)
 let K7 : List Value := [.slice none 0 0, .int .i64 0, .int .i64 0, .slice none 0 0, .slice none 0 0, .slice none 0 0, .slice none 0 0, .int .i64 0]
 let K8 : List Value := [.slice A12 x0.Store.Segments.length c13, .int .i64 x0.Store.Now, .int .i64 x0.Cursor, .slice A17 x0.Order.length c18, .slice A22 x0.Active.length c23, .slice A27 x0.Done.length c28, .slice A32 x0.Ledger.length c33, .int .i64 x0.Steps]
 refine CM_cut (σ := Nat × Option Addr × Nat × Option Addr × Nat) (fun s => [(1, .pointer (some (⟨p41, 0, none⟩ : Addr))), (2, .pointer (some (⟨p42, 0, none⟩ : Addr))), (3, .pointer (some (⟨s.1, 0, none⟩ : Addr)))]) (fun s => [iBox s.1 47 [.slice s.2.1 x0.Store.Segments.length s.2.2.1, .int .i64 x0.Store.Now, .int .i64 x0.Cursor, .slice s.2.2.2.1 x0.Order.length s.2.2.2.2, .slice none 0 0, .slice none 0 0, .slice none 0 0, .int .i64 x0.Steps], iOwn (tSl tInt 3) [.slice s.2.2.2.1 x0.Order.length s.2.2.2.2] x0.Order, iOwn (tSl (tSl tyVersion 191) 131) [.slice s.2.1 x0.Store.Segments.length s.2.2.1] x0.Store.Segments, iBox p42 47 K7, iBox p41 47 K8]) (fun _ => True) ?_ ?_
 ·
  refine rb 14 (s := [iBox p42 47 K7, iBox p41 47 K8]) (fun W hm => hm) ?_
  refine qt 14 0 1 rfl (vf underlying47 rfl type42) ?_
  refine qt 14 1 3 rfl (fun W hm => rv_loadN (cs := [.slice A12 x0.Store.Segments.length c13, .int .i64 x0.Store.Now]) underlying42 type42 rfl rfl (hm.boxPart (n := 1) rfl rfl)) ?_
  refine qt 14 3 11 rfl (vf underlying47 rfl type3) ?_
  refine qt 14 4 27 rfl (vl 1 2 underlying3) ?_
  refine qt 14 6 91 rfl (vf underlying47 rfl type25) ?_
  refine qt 14 7 219 rfl (vl 1 3 underlying25) ?_
  refine qt 14 9 731 rfl (vf underlying47 rfl type3) ?_
  refine qt 14 10 1755 rfl (vl 1 7 underlying3) ?_
  refine qa [2, 5, 12] ?_
  refine qc 14 1759 rfl ?_ ?_
  ·
   refine wcs tyStore x0.Store (cl_fn cb159 rfl) (fun W hm => spec_l7Copy_c2 W _ x0.Store (tyStore_mk (x := x0.Store) (hm.rdS0 r15)) s_0.1) (fun z57 => ?_)
   refine tyStore_sp ?_
   rintro v58 rfl
   refine WM_form (n := 0) rfl ?_
   rintro A59 c60 rfl m61
   refine qn (pk [1, 2]) ?_
   refine qa [5, 12] ?_
   refine qc 14 1791 rfl ?_ ?_
   ·
    refine WM_build0 (E := tInt) underlying25 type3 (Wd_none rfl) (by decide) (fun p63 => ?_)
    refine qn (pk [2, 3]) ?_
    refine qa [8, 12] ?_
    refine qc 14 2047 rfl ?_ ?_
    ·
     let I33 : It := iOwn (tSl (tSl tyVersion 191) 131) [.slice A59 x0.Store.Segments.length c60] x0.Store.Segments
     refine apR tInt tInt 3 (.slice (some ⟨p63, 0, none⟩) 0 0) [] x0.Order [I33, iBox p42 47 K7, iBox p41 47 K8] (fun W hm => hm) (fun W hm => src_flat flat_int (hm.rdS0 r20)) underlying25 type3 (show (0 + x0.Order.length) * 8 ≤ 140737488355328 from by omega) (fun v65 => ?_)
     refine WM_form (n := 0) rfl ?_
     rintro A66 c67 rfl m68
     refine qn (pk [2, 3]) ?_
     let K9 : List Value := [.slice A59 x0.Store.Segments.length c60, .int .i64 x0.Store.Now, .int .i64 x0.Cursor, .slice A66 x0.Order.length c67, .slice none 0 0, .slice none 0 0, .slice none 0 0, .int .i64 x0.Steps]
     refine qt 14 11 4095 rfl (fun W hm => rv_build (cs := K9) rfl (by kernel_rfl)) ?_
     refine qo 14 12 8191 rfl ?_
     refine WM_alloc type47 rfl (Wd_none rfl) (by decide) (fun p70 => ?_)
     refine qn (pk [3, 4]) ?_
     refine qo 14 13 16383 rfl ?_
     refine sb 0 K9 [iOwn (tSl tInt 3) [.slice A66 x0.Order.length c67] x0.Order, I33, iBox p42 47 K7, iBox p41 47 K8] (fun W hm => hm) type47 ?_
     refine qn (pk [3, 4]) ?_
     refine QB_done (by kernel_rfl) ?_
     exact QM_cut_normal (p70, A59, c60, A66, c67) sl3 (fun W hm => hm) trivial
    refine qc 14 5887 rfl ?_ ?_
    ·
     refine WM_alloc type47 rfl (Wd_none rfl) (by decide) (fun p71 => ?_)
     refine qn (pk [3, 4]) ?_
     refine qo 14 8 6143 rfl ?_
     let I34 : It := iOwn (tSl (tSl tyVersion 191) 131) [.slice A59 x0.Store.Segments.length c60] x0.Store.Segments
     refine apR tInt tInt 3 (.slice (some ⟨p63, 0, none⟩) 0 0) [] x0.Order [iBox p71 47 K7, I34, iBox p42 47 K7, iBox p41 47 K8] (pk [1, 0, 2, 3, 4]) (fun W hm => src_flat flat_int (hm.rdS0 r20)) underlying25 type3 (show (0 + x0.Order.length) * 8 ≤ 140737488355328 from by omega) (fun v72 => ?_)
     refine WM_form (n := 0) rfl ?_
     rintro A73 c74 rfl m75
     refine qn (pk [3, 4]) ?_
     let K10 : List Value := [.slice A59 x0.Store.Segments.length c60, .int .i64 x0.Store.Now, .int .i64 x0.Cursor, .slice A73 x0.Order.length c74, .slice none 0 0, .slice none 0 0, .slice none 0 0, .int .i64 x0.Steps]
     refine qt 14 11 8191 rfl (fun W hm => rv_build (cs := K10) rfl (by kernel_rfl)) ?_
     refine qo 14 13 16383 rfl ?_
     refine sb 0 K10 [iOwn (tSl tInt 3) [.slice A73 x0.Order.length c74] x0.Order, I34, iBox p42 47 K7, iBox p41 47 K8] (pk [1, 0, 2, 3, 4]) type47 ?_
     refine qn (pk [3, 4]) ?_
     refine QB_done (by kernel_rfl) ?_
     exact QM_cut_normal (p71, A59, c60, A73, c74) sl3 (fun W hm => hm) trivial
    exact QBs_nil
   refine qc 14 5855 rfl ?_ ?_
   ·
    refine WM_alloc type47 rfl (Wd_none rfl) (by decide) (fun p77 => ?_)
    refine qn (pk [2, 3]) ?_
    refine qo 14 5 5887 rfl ?_
    refine WM_build0 (E := tInt) underlying25 type3 (Wd_none rfl) (by decide) (fun p78 => ?_)
    refine qn (pk [3, 4]) ?_
    refine qo 14 8 6143 rfl ?_
    let I35 : It := iOwn (tSl (tSl tyVersion 191) 131) [.slice A59 x0.Store.Segments.length c60] x0.Store.Segments
    refine apR tInt tInt 3 (.slice (some ⟨p78, 0, none⟩) 0 0) [] x0.Order [iBox p77 47 K7, I35, iBox p42 47 K7, iBox p41 47 K8] (fun W hm => hm) (fun W hm => src_flat flat_int (hm.rdS0 r20)) underlying25 type3 (show (0 + x0.Order.length) * 8 ≤ 140737488355328 from by omega) (fun v80 => ?_)
    refine WM_form (n := 0) rfl ?_
    rintro A81 c82 rfl m83
    refine qn (pk [3, 4]) ?_
    let K11 : List Value := [.slice A59 x0.Store.Segments.length c60, .int .i64 x0.Store.Now, .int .i64 x0.Cursor, .slice A81 x0.Order.length c82, .slice none 0 0, .slice none 0 0, .slice none 0 0, .int .i64 x0.Steps]
    refine qt 14 11 8191 rfl (fun W hm => rv_build (cs := K11) rfl (by kernel_rfl)) ?_
    refine qo 14 13 16383 rfl ?_
    refine sb 0 K11 [iOwn (tSl tInt 3) [.slice A81 x0.Order.length c82] x0.Order, I35, iBox p42 47 K7, iBox p41 47 K8] (pk [1, 0, 2, 3, 4]) type47 ?_
    refine qn (pk [3, 4]) ?_
    refine QB_done (by kernel_rfl) ?_
    exact QM_cut_normal (p77, A59, c60, A81, c82) sl3 (fun W hm => hm) trivial
   exact QBs_nil
  refine qc 14 1787 rfl ?_ ?_
  ·
   refine WM_build0 (E := tInt) underlying25 type3 (Wd_none rfl) (by decide) (fun p85 => ?_)
   refine qn (pk [1, 2]) ?_
   refine qa [2, 12] ?_
   refine qc 14 1791 rfl ?_ ?_
   ·
    refine wcs tyStore x0.Store (cl_fn cb159 rfl) (fun W hm => spec_l7Copy_c2 W _ x0.Store (tyStore_mk (x := x0.Store) (hm.rdS0 r15)) s_0.1) (fun z87 => ?_)
    refine tyStore_sp ?_
    rintro v88 rfl
    refine WM_form (n := 0) rfl ?_
    rintro A89 c90 rfl m91
    refine qn (pk [2, 3]) ?_
    refine qa [8, 12] ?_
    refine qc 14 2047 rfl ?_ ?_
    ·
     let I36 : It := iOwn (tSl (tSl tyVersion 191) 131) [.slice A89 x0.Store.Segments.length c90] x0.Store.Segments
     refine apR tInt tInt 3 (.slice (some ⟨p85, 0, none⟩) 0 0) [] x0.Order [I36, iBox p42 47 K7, iBox p41 47 K8] (pk [1, 0, 2, 3]) (fun W hm => src_flat flat_int (hm.rdS0 r20)) underlying25 type3 (show (0 + x0.Order.length) * 8 ≤ 140737488355328 from by omega) (fun v93 => ?_)
     refine WM_form (n := 0) rfl ?_
     rintro A94 c95 rfl m96
     refine qn (pk [2, 3]) ?_
     let K12 : List Value := [.slice A89 x0.Store.Segments.length c90, .int .i64 x0.Store.Now, .int .i64 x0.Cursor, .slice A94 x0.Order.length c95, .slice none 0 0, .slice none 0 0, .slice none 0 0, .int .i64 x0.Steps]
     refine qt 14 11 4095 rfl (fun W hm => rv_build (cs := K12) rfl (by kernel_rfl)) ?_
     refine qo 14 12 8191 rfl ?_
     refine WM_alloc type47 rfl (Wd_none rfl) (by decide) (fun p98 => ?_)
     refine qn (pk [3, 4]) ?_
     refine qo 14 13 16383 rfl ?_
     refine sb 0 K12 [iOwn (tSl tInt 3) [.slice A94 x0.Order.length c95] x0.Order, I36, iBox p42 47 K7, iBox p41 47 K8] (fun W hm => hm) type47 ?_
     refine qn (pk [3, 4]) ?_
     refine QB_done (by kernel_rfl) ?_
     exact QM_cut_normal (p98, A89, c90, A94, c95) sl3 (fun W hm => hm) trivial
    refine qc 14 5887 rfl ?_ ?_
    ·
     refine WM_alloc type47 rfl (Wd_none rfl) (by decide) (fun p99 => ?_)
     refine qn (pk [3, 4]) ?_
     refine qo 14 8 6143 rfl ?_
     let I37 : It := iOwn (tSl (tSl tyVersion 191) 131) [.slice A89 x0.Store.Segments.length c90] x0.Store.Segments
     refine apR tInt tInt 3 (.slice (some ⟨p85, 0, none⟩) 0 0) [] x0.Order [iBox p99 47 K7, I37, iBox p42 47 K7, iBox p41 47 K8] (pk [2, 0, 1, 3, 4]) (fun W hm => src_flat flat_int (hm.rdS0 r20)) underlying25 type3 (show (0 + x0.Order.length) * 8 ≤ 140737488355328 from by omega) (fun v100 => ?_)
     refine WM_form (n := 0) rfl ?_
     rintro A101 c102 rfl m103
     refine qn (pk [3, 4]) ?_
     let K13 : List Value := [.slice A89 x0.Store.Segments.length c90, .int .i64 x0.Store.Now, .int .i64 x0.Cursor, .slice A101 x0.Order.length c102, .slice none 0 0, .slice none 0 0, .slice none 0 0, .int .i64 x0.Steps]
     refine qt 14 11 8191 rfl (fun W hm => rv_build (cs := K13) rfl (by kernel_rfl)) ?_
     refine qo 14 13 16383 rfl ?_
     refine sb 0 K13 [iOwn (tSl tInt 3) [.slice A101 x0.Order.length c102] x0.Order, I37, iBox p42 47 K7, iBox p41 47 K8] (pk [1, 0, 2, 3, 4]) type47 ?_
     refine qn (pk [3, 4]) ?_
     refine QB_done (by kernel_rfl) ?_
     exact QM_cut_normal (p99, A89, c90, A101, c102) sl3 (fun W hm => hm) trivial
    exact QBs_nil
   refine qc 14 5883 rfl ?_ ?_
   ·
    refine WM_alloc type47 rfl (Wd_none rfl) (by decide) (fun p105 => ?_)
    refine qn (pk [2, 3]) ?_
    refine qo 14 2 5887 rfl ?_
    refine wcs tyStore x0.Store (cl_fn cb159 rfl) (fun W hm => spec_l7Copy_c2 W _ x0.Store (tyStore_mk (x := x0.Store) (hm.rdS0 r15)) s_0.1) (fun z106 => ?_)
    refine tyStore_sp ?_
    rintro v107 rfl
    refine WM_form (n := 0) rfl ?_
    rintro A108 c109 rfl m110
    refine qn (pk [3, 4]) ?_
    refine qo 14 8 6143 rfl ?_
    let I38 : It := iOwn (tSl (tSl tyVersion 191) 131) [.slice A108 x0.Store.Segments.length c109] x0.Store.Segments
    refine apR tInt tInt 3 (.slice (some ⟨p85, 0, none⟩) 0 0) [] x0.Order [I38, iBox p105 47 K7, iBox p42 47 K7, iBox p41 47 K8] (pk [2, 0, 1, 3, 4]) (fun W hm => src_flat flat_int (hm.rdS0 r20)) underlying25 type3 (show (0 + x0.Order.length) * 8 ≤ 140737488355328 from by omega) (fun v112 => ?_)
    refine WM_form (n := 0) rfl ?_
    rintro A113 c114 rfl m115
    refine qn (pk [3, 4]) ?_
    let K14 : List Value := [.slice A108 x0.Store.Segments.length c109, .int .i64 x0.Store.Now, .int .i64 x0.Cursor, .slice A113 x0.Order.length c114, .slice none 0 0, .slice none 0 0, .slice none 0 0, .int .i64 x0.Steps]
    refine qt 14 11 8191 rfl (fun W hm => rv_build (cs := K14) rfl (by kernel_rfl)) ?_
    refine qo 14 13 16383 rfl ?_
    refine sb 0 K14 [iOwn (tSl tInt 3) [.slice A113 x0.Order.length c114] x0.Order, I38, iBox p42 47 K7, iBox p41 47 K8] (pk [2, 0, 1, 3, 4]) type47 ?_
    refine qn (pk [3, 4]) ?_
    refine QB_done (by kernel_rfl) ?_
    exact QM_cut_normal (p105, A108, c109, A113, c114) sl3 (fun W hm => hm) trivial
   exact QBs_nil
  refine qc 14 5851 rfl ?_ ?_
  ·
   refine WM_alloc type47 rfl (Wd_none rfl) (by decide) (fun p117 => ?_)
   refine qn (pk [1, 2]) ?_
   refine qa [2, 5] ?_
   refine qc 14 5855 rfl ?_ ?_
   ·
    refine wcs tyStore x0.Store (cl_fn cb159 rfl) (fun W hm => spec_l7Copy_c2 W _ x0.Store (tyStore_mk (x := x0.Store) (hm.rdS0 r15)) s_0.1) (fun z118 => ?_)
    refine tyStore_sp ?_
    rintro v119 rfl
    refine WM_form (n := 0) rfl ?_
    rintro A120 c121 rfl m122
    refine qn (pk [2, 3]) ?_
    refine qo 14 5 5887 rfl ?_
    refine WM_build0 (E := tInt) underlying25 type3 (Wd_none rfl) (by decide) (fun p124 => ?_)
    refine qn (pk [3, 4]) ?_
    refine qo 14 8 6143 rfl ?_
    let I39 : It := iOwn (tSl (tSl tyVersion 191) 131) [.slice A120 x0.Store.Segments.length c121] x0.Store.Segments
    refine apR tInt tInt 3 (.slice (some ⟨p124, 0, none⟩) 0 0) [] x0.Order [I39, iBox p117 47 K7, iBox p42 47 K7, iBox p41 47 K8] (fun W hm => hm) (fun W hm => src_flat flat_int (hm.rdS0 r20)) underlying25 type3 (show (0 + x0.Order.length) * 8 ≤ 140737488355328 from by omega) (fun v126 => ?_)
    refine WM_form (n := 0) rfl ?_
    rintro A127 c128 rfl m129
    refine qn (pk [3, 4]) ?_
    let K15 : List Value := [.slice A120 x0.Store.Segments.length c121, .int .i64 x0.Store.Now, .int .i64 x0.Cursor, .slice A127 x0.Order.length c128, .slice none 0 0, .slice none 0 0, .slice none 0 0, .int .i64 x0.Steps]
    refine qt 14 11 8191 rfl (fun W hm => rv_build (cs := K15) rfl (by kernel_rfl)) ?_
    refine qo 14 13 16383 rfl ?_
    refine sb 0 K15 [iOwn (tSl tInt 3) [.slice A127 x0.Order.length c128] x0.Order, I39, iBox p42 47 K7, iBox p41 47 K8] (pk [2, 0, 1, 3, 4]) type47 ?_
    refine qn (pk [3, 4]) ?_
    refine QB_done (by kernel_rfl) ?_
    exact QM_cut_normal (p117, A120, c121, A127, c128) sl3 (fun W hm => hm) trivial
   refine qc 14 5883 rfl ?_ ?_
   ·
    refine WM_build0 (E := tInt) underlying25 type3 (Wd_none rfl) (by decide) (fun p131 => ?_)
    refine qn (pk [2, 3]) ?_
    refine qo 14 2 5887 rfl ?_
    refine wcs tyStore x0.Store (cl_fn cb159 rfl) (fun W hm => spec_l7Copy_c2 W _ x0.Store (tyStore_mk (x := x0.Store) (hm.rdS0 r15)) s_0.1) (fun z133 => ?_)
    refine tyStore_sp ?_
    rintro v134 rfl
    refine WM_form (n := 0) rfl ?_
    rintro A135 c136 rfl m137
    refine qn (pk [3, 4]) ?_
    refine qo 14 8 6143 rfl ?_
    let I40 : It := iOwn (tSl (tSl tyVersion 191) 131) [.slice A135 x0.Store.Segments.length c136] x0.Store.Segments
    refine apR tInt tInt 3 (.slice (some ⟨p131, 0, none⟩) 0 0) [] x0.Order [I40, iBox p117 47 K7, iBox p42 47 K7, iBox p41 47 K8] (pk [1, 0, 2, 3, 4]) (fun W hm => src_flat flat_int (hm.rdS0 r20)) underlying25 type3 (show (0 + x0.Order.length) * 8 ≤ 140737488355328 from by omega) (fun v139 => ?_)
    refine WM_form (n := 0) rfl ?_
    rintro A140 c141 rfl m142
    refine qn (pk [3, 4]) ?_
    let K16 : List Value := [.slice A135 x0.Store.Segments.length c136, .int .i64 x0.Store.Now, .int .i64 x0.Cursor, .slice A140 x0.Order.length c141, .slice none 0 0, .slice none 0 0, .slice none 0 0, .int .i64 x0.Steps]
    refine qt 14 11 8191 rfl (fun W hm => rv_build (cs := K16) rfl (by kernel_rfl)) ?_
    refine qo 14 13 16383 rfl ?_
    refine sb 0 K16 [iOwn (tSl tInt 3) [.slice A140 x0.Order.length c141] x0.Order, I40, iBox p42 47 K7, iBox p41 47 K8] (pk [2, 0, 1, 3, 4]) type47 ?_
    refine qn (pk [3, 4]) ?_
    refine QB_done (by kernel_rfl) ?_
    exact QM_cut_normal (p117, A135, c136, A140, c141) sl3 (fun W hm => hm) trivial
   exact QBs_nil
  exact QBs_nil
 ·
  rintro ⟨p56, A45, c46, A52, c53⟩ -
  let I41 : It := iOwn (tSl tInt 3) [.slice A52 x0.Order.length c53] x0.Order
  let I42 : It := iOwn (tSl (tSl tyVersion 191) 131) [.slice A45 x0.Store.Segments.length c46] x0.Store.Segments
  show QM 97 _ _ _ .normal [(1, .pointer (some (⟨p41, 0, none⟩ : Addr))), (2, .pointer (some (⟨p42, 0, none⟩ : Addr))), (3, .pointer (some (⟨p56, 0, none⟩ : Addr)))] [iBox p56 47 [.slice A45 x0.Store.Segments.length c46, .int .i64 x0.Store.Now, .int .i64 x0.Cursor, .slice A52 x0.Order.length c53, .slice none 0 0, .slice none 0 0, .slice none 0 0, .int .i64 x0.Steps], I41, I42, iBox p42 47 K7, iBox p41 47 K8]
  refine QM_len (n := 1) rfl ?_
  intro m144 m145
  refine QM_len (n := 2) rfl ?_
  intro m146 m147
  refine QM_then (CM_seq (sr (wa (nt' (CM_block ?_)))))
  refine CM_items (fun W hm => (hm.addNil (E := tyActive) (e := 64)).last) ?_
  let F1 := fun k (s : (List DActive)) => spec_l9Copy_b1 x0 k s
  let R4 := rng (R := DEngine) F1
  refine CM_loop (σ := Nat × ((List DActive)) × (Option Addr × Nat)) (fun s => [(1, .pointer (some (⟨p41, 0, none⟩ : Addr))), (2, .pointer (some (⟨p42, 0, none⟩ : Addr))), (3, .pointer (some (⟨p56, 0, none⟩ : Addr))), (4, .int .i64 ((s.1 : Nat) : Int))]) (fun s => [iBox p56 47 [.slice A45 x0.Store.Segments.length c46, .int .i64 x0.Store.Now, .int .i64 x0.Cursor, .slice A52 x0.Order.length c53, .slice s.2.2.1 s.2.1.length s.2.2.2, .slice none 0 0, .slice none 0 0, .int .i64 x0.Steps], I41, I42, iBox p42 47 K7, iBox p41 47 K8, iOwn (tSl tyActive 64) [.slice s.2.2.1 s.2.1.length s.2.2.2] s.2.1]) (fun s => s.1 ≤ x0.Active.length ∧ R4 (x0.Active.length - s.1) s.1 s.2.1 = R4 (x0.Active.length - 0) 0 [] ∧ s.2.1.length ≤ 0 + s.1) (fun s => x0.Active.length - s.1) (0, [], (none, 0)) sl4 (fun W hm => hm) ⟨(by omega), rfl, Nat.le_refl _⟩ ?_
  rintro ⟨k148, d151, ⟨A152, c153⟩⟩ H156
  obtain ⟨hk154, hF155, hi157⟩ : k148 ≤ x0.Active.length ∧ R4 (x0.Active.length - k148) k148 d151 = R4 (x0.Active.length - 0) 0 [] ∧ d151.length ≤ 0 + k148 := H156
  let K17 : List Value := [.slice A45 x0.Store.Segments.length c46, .int .i64 x0.Store.Now, .int .i64 x0.Cursor, .slice A52 x0.Order.length c53, .slice A152 d151.length c153, .slice none 0 0, .slice none 0 0, .int .i64 x0.Steps]
  let I43 : It := iOwn (tSl tyActive 64) [.slice A152 d151.length c153] d151
  show CM Tryz.prog 97 _ _ _ _ [(1, .pointer (some (⟨p41, 0, none⟩ : Addr))), (2, .pointer (some (⟨p42, 0, none⟩ : Addr))), (3, .pointer (some (⟨p56, 0, none⟩ : Addr))), (4, .int .i64 ((k148 : Nat) : Int))] [iBox p56 47 K17, I41, I42, iBox p42 47 K7, iBox p41 47 K8, I43]
  refine CM_seq (sr (wm ?_))
  refine wv (vf underlying47 rfl type43) ?_
  refine wv (vl 4 4 underlying43) ?_
  refine wv (vlen underlying43) ?_
  refine wv vlss ?_
  refine nt' ?_
  by_cases hl158 : k148 < x0.Active.length
  ·have g159 : (decide (((k148 : Nat) : Int) < ((x0.Active.length : Nat) : Int))) = true := decide_eq_true (by omega)
   refine CM_condT rfl g159 ?_
   refine CM_skip (QM_then (CM_seq (CM_block (sr ?_))))
   refine wv (vf underlying47 rfl type43) ?_
   refine wv (vl 4 4 underlying43) ?_
   refine wm ?_
   obtain ⟨a160, rfl, hb161, he162⟩ := q24 (by omega)
   refine wv (vix 10 k148 underlying43 type64) ?_
   obtain ⟨_, e172, hc163⟩ := he162 k148 _ (gt_some (show k148 < x0.Active.length from by omega))
   obtain ⟨v164, v166, v168, v170, rfl, r165, r167, r169, r171⟩ := tyActive_rd e172
   have l173 : ((gt x0.Active k148).Query.Conds).length ≤ 68719476736 := (s_0.2.2.1.2 _ (gt_mem (show k148 < x0.Active.length from by omega))).1.1
   have l174 : ((gt x0.Active k148).Query.Out).length ≤ 68719476736 := (s_0.2.2.1.2 _ (gt_mem (show k148 < x0.Active.length from by omega))).1.2
   have l175 : ((gt x0.Active k148).Todo).length ≤ 68719476736 := (s_0.2.2.1.2 _ (gt_mem (show k148 < x0.Active.length from by omega))).2.1
   have l176 : ((gt x0.Active k148).Rows).length ≤ 68719476736 := (s_0.2.2.1.2 _ (gt_mem (show k148 < x0.Active.length from by omega))).2.2.1
   have r181 := r165
   obtain ⟨m177, A178, c179, rfl, q180⟩ := r165
   have r186 := r167
   obtain ⟨m182, A183, c184, rfl, q185⟩ := r167
   have r191 := r169
   obtain ⟨m187, A188, c189, rfl, q190⟩ := r169
   have r196 := r171
   obtain ⟨m192, A193, c194, rfl, q195⟩ := r171
   let K18 : List Value := [.int .i64 ((gt x0.Active k148).Query.Id), .int .i64 ((gt x0.Active k148).Query.Tenant), .slice A178 ((gt x0.Active k148).Query.Conds).length c179, .slice A183 ((gt x0.Active k148).Query.Out).length c184, .int .i64 ((gt x0.Active k148).Time), .slice A188 ((gt x0.Active k148).Todo).length c189, .int .i64 ((gt x0.Active k148).Age), .int .i64 ((gt x0.Active k148).Sent), .int .i64 ((gt x0.Active k148).Cap), .slice A193 ((gt x0.Active k148).Rows).length c194]
   refine wv (fun W hm => rv_loadN (cs := K18) underlying64 type64 rfl rfl (hm.elCells (show (a160.add (k148 * 10)).block < w.heap.size from by rw [add_block]; exact hb161.1) hc163)) ?_
   refine WM_alloc type64 rfl (Wd_none rfl) (by decide) (fun p197 => ?_)
   let K19 : List Value := [.slice A12 x0.Store.Segments.length c13, .int .i64 x0.Store.Now, .int .i64 x0.Cursor, .slice A17 x0.Order.length c18, .slice (some a160) x0.Active.length c23, .slice A27 x0.Done.length c28, .slice A32 x0.Ledger.length c33, .int .i64 x0.Steps]
   refine sb 0 K18 [iBox p56 47 K17, I41, I42, iBox p42 47 K7, iBox p41 47 K19, I43] (fun W hm => hm) type64 ?_
   refine nt' (sr ?_)
   refine wv (vf underlying64 rfl type34) ?_
   refine wv (fun W hm => rv_loadN (cs := [.int .i64 ((gt x0.Active k148).Query.Id), .int .i64 ((gt x0.Active k148).Query.Tenant), .slice A178 ((gt x0.Active k148).Query.Conds).length c179, .slice A183 ((gt x0.Active k148).Query.Out).length c184]) underlying34 type34 rfl rfl (hm.boxPart (n := 0) rfl rfl)) ?_
   refine wcs tyQuery ((gt x0.Active k148).Query) (cl_fn cb129 rfl) (fun W hm => spec_l6Query_c2 W _ ((gt x0.Active k148).Query) (tyQuery_mk (x := ((gt x0.Active k148).Query)) (hm.rdS0 r181) (hm.rdS0 r186)) (s_0.2.2.1.2 _ (gt_mem (show k148 < x0.Active.length from by omega))).1) (fun z198 => ?_)
   refine tyQuery_sp ?_
   rintro ⟨v199, v200⟩ rfl
   refine WM_form (n := 0) rfl ?_
   rintro A201 c202 rfl m203
   refine WM_form (n := 1) rfl ?_
   rintro A205 c206 rfl m207
   refine wv (vf underlying64 rfl type34) ?_
   let K20 : List Value := [.int .i64 (((gt x0.Active k148).Query).Id), .int .i64 (((gt x0.Active k148).Query).Tenant), .slice A201 (((gt x0.Active k148).Query).Conds).length c202, .slice A205 (((gt x0.Active k148).Query).Out).length c206, .int .i64 ((gt x0.Active k148).Time), .slice A188 ((gt x0.Active k148).Todo).length c189, .int .i64 ((gt x0.Active k148).Age), .int .i64 ((gt x0.Active k148).Sent), .int .i64 ((gt x0.Active k148).Cap), .slice A193 ((gt x0.Active k148).Rows).length c194]
   let K21 : List Value := [.slice A201 (((gt x0.Active k148).Query).Conds).length c202]
   let I44 : It := iOwn (tSl tyCond 201) K21 (((gt x0.Active k148).Query).Conds)
   let I45 : It := iOwn (tSl tInt 3) [.slice A205 (((gt x0.Active k148).Query).Out).length c206] (((gt x0.Active k148).Query).Out)
   refine sb 0 K20 [I44, I45, iBox p56 47 K17, I41, I42, iBox p42 47 K7, iBox p41 47 K19, I43] (pk [2, 0, 1, 3, 4, 5, 6, 7, 8]) type34 ?_
   refine nt' (sr ?_)
   refine WM_build0 (E := tInt) underlying25 type3 (Wd_none rfl) (by decide) (fun p209 => ?_)
   refine wv (vf underlying64 rfl type25) ?_
   refine wv (vl 1 5 underlying25) ?_
   refine apR tInt tInt 3 (.slice (some ⟨p209, 0, none⟩) 0 0) [] ((gt x0.Active k148).Todo) [iBox p197 64 K20, I44, I45, iBox p56 47 K17, I41, I42, iBox p42 47 K7, iBox p41 47 K19, I43] (fun W hm => hm) (fun W hm => src_flat flat_int (hm.rdS0 r191)) underlying25 type3 (show (0 + ((gt x0.Active k148).Todo).length) * 8 ≤ 140737488355328 from by omega) (fun v211 => ?_)
   refine WM_form (n := 0) rfl ?_
   rintro A212 c213 rfl m214
   refine wv (vf underlying64 rfl type25) ?_
   let I46 : It := iOwn (tSl tInt 3) [.slice A212 ((gt x0.Active k148).Todo).length c213] ((gt x0.Active k148).Todo)
   refine sb 5 [.int .i64 (((gt x0.Active k148).Query).Id), .int .i64 (((gt x0.Active k148).Query).Tenant), .slice A201 (((gt x0.Active k148).Query).Conds).length c202, .slice A205 (((gt x0.Active k148).Query).Out).length c206, .int .i64 ((gt x0.Active k148).Time), .slice A212 ((gt x0.Active k148).Todo).length c213, .int .i64 ((gt x0.Active k148).Age), .int .i64 ((gt x0.Active k148).Sent), .int .i64 ((gt x0.Active k148).Cap), .slice A193 ((gt x0.Active k148).Rows).length c194] [I46, I44, I45, iBox p56 47 K17, I41, I42, iBox p42 47 K7, iBox p41 47 K19, I43] (pk [1, 0, 2, 3, 4, 5, 6, 7, 8, 9]) type25 ?_
   refine nt' (sr ?_)
   refine wv (vf underlying64 rfl type35) ?_
   refine wv (vl 0 9 underlying35) ?_
   refine wcl (tSl tyRow 73) ((gt x0.Active k148).Rows) (cl_fn cb160 rfl) (fun W hm => spec_l9Rows_c2 W _ ((gt x0.Active k148).Rows) (hm.rdS0 r196) (s_0.2.2.1.2 _ (gt_mem (show k148 < x0.Active.length from by omega))).2.2) (fun z216 => ?_)
   refine WM_form (n := 0) rfl ?_
   rintro A217 c218 rfl m219
   refine wv (vf underlying64 rfl type35) ?_
   let K22 : List Value := [.int .i64 (((gt x0.Active k148).Query).Id), .int .i64 (((gt x0.Active k148).Query).Tenant), .slice A201 (((gt x0.Active k148).Query).Conds).length c202, .slice A205 (((gt x0.Active k148).Query).Out).length c206, .int .i64 ((gt x0.Active k148).Time), .slice A212 ((gt x0.Active k148).Todo).length c213, .int .i64 ((gt x0.Active k148).Age), .int .i64 ((gt x0.Active k148).Sent), .int .i64 ((gt x0.Active k148).Cap), .slice A217 ((gt x0.Active k148).Rows).length c218]
   let I47 : It := iOwn (tSl tyRow 73) [.slice A217 ((gt x0.Active k148).Rows).length c218] ((gt x0.Active k148).Rows)
   refine sb 9 K22 [I47, I46, I44, I45, iBox p56 47 K17, I41, I42, iBox p42 47 K7, iBox p41 47 K19, I43] (pk [1, 0, 2, 3, 4, 5, 6, 7, 8, 9, 10]) type35 ?_
   refine nt' (CM_region ?_)
   refine wv (vf underlying47 rfl type43) ?_
   refine wv (vl 5 4 underlying43) ?_
   refine wv (fun W hm => rv_loadN (cs := K22) underlying64 type64 rfl rfl (hm.boxCells (n := 0) rfl)) ?_
   refine WM_build (cs := K22) underlying43 type64 rfl (by decide) (by decide) rfl (by kernel_rfl) (Wd_none rfl) (by decide) (fun p221 => ?_)
   refine ap1 tyActive 64 (.slice A152 d151.length c153) d151 (⟨((gt x0.Active k148).Query), (gt x0.Active k148).Time, (gt x0.Active k148).Todo, (gt x0.Active k148).Age, (gt x0.Active k148).Sent, (gt x0.Active k148).Cap, ((gt x0.Active k148).Rows)⟩ : DActive) [I44, I45, I46, I47] [iBox p197 64 K22, iBox p56 47 K17, I41, I42, iBox p42 47 K7, iBox p41 47 K19] K22 (pk [0, 11, 4, 5, 3, 2, 1, 6, 7, 8, 9, 10]) (fun _ _ hs => Els.single (tyActive_join (x := (⟨((gt x0.Active k148).Query), (gt x0.Active k148).Time, (gt x0.Active k148).Todo, (gt x0.Active k148).Age, (gt x0.Active k148).Sent, (gt x0.Active k148).Cap, ((gt x0.Active k148).Rows)⟩ : DActive)) hs)) underlying43 type64 (show (d151.length + 1) * 144 ≤ 140737488355328 from by omega) (fun v222 => ?_)
   refine WM_form (n := 0) rfl ?_
   rintro A223 c224 rfl m225
   refine wv (vf underlying47 rfl type43) ?_
   refine sb 4 [.slice A45 x0.Store.Segments.length c46, .int .i64 x0.Store.Now, .int .i64 x0.Cursor, .slice A52 x0.Order.length c53, .slice A223 (spec_l9Copy_v1 x0 k148 d151).length c224, .slice none 0 0, .slice none 0 0, .int .i64 x0.Steps] [iOwn (tSl tyActive 64) [.slice A223 (spec_l9Copy_v1 x0 k148 d151).length c224] (spec_l9Copy_v1 x0 k148 d151), iBox p197 64 K22, I41, I42, iBox p42 47 K7, iBox p41 47 K19] (pk [2, 0, 1, 3, 4, 5, 6]) type43 ?_
   refine WM_nil (QM_block_normal (QM_then (CM_region (wm ?_))))
   refine wv (vadN k148 1 (by omega)) ?_
   refine wa (WM_nil ?_)
   have hn227 := rng_next (R := DEngine) (body := F1) (k := k148) (s := d151) (s' := (spec_l9Copy_v1 x0 k148 d151)) (show k148 < x0.Active.length from by omega) (show spec_l9Copy_b1 x0 k148 d151 = Sum.inr (spec_l9Copy_v1 x0 k148 d151) from by unfold spec_l9Copy_b1; exact rfl) hF155
   exact QM_round (k148 + 1, (spec_l9Copy_v1 x0 k148 d151), (A223, c224)) sl4 (pk [0, 3, 4, 5, 6, 1]) ⟨(by omega), hn227, (show (spec_l9Copy_v1 x0 k148 d151).length ≤ 0 + (k148 + 1) from by first | omega | (simp only [List.length_append, List.length_cons, List.length_nil] at *; omega))⟩ (rl (by omega))
  ·have g159 : (decide (((k148 : Nat) : Int) < ((x0.Active.length : Nat) : Int))) = false := decide_eq_false (by omega)
   refine CM_condF rfl g159 ?_
   refine CM_exit (QM_then_exit (QM_then_exit ?_))
   have hE228 : R4 (x0.Active.length - 0) 0 [] = Sum.inr d151 := rng_end hl158 hF155
   refine QM_block_hit (QM_then (CM_seq (sr (wa (nt' (CM_block ?_))))))
   refine CM_items (fun W hm => (hm.addNil (E := tyFinished) (e := 37)).last) ?_
   let F2 := fun k (s : (List DFinished)) => spec_l9Copy_b2 x0 k s
   let R5 := rng (R := DEngine) F2
   refine CM_loop (σ := Nat × ((List DFinished)) × (Option Addr × Nat)) (fun s => [(1, .pointer (some (⟨p41, 0, none⟩ : Addr))), (2, .pointer (some (⟨p42, 0, none⟩ : Addr))), (3, .pointer (some (⟨p56, 0, none⟩ : Addr))), (6, .int .i64 ((s.1 : Nat) : Int))]) (fun s => [iBox p56 47 [.slice A45 x0.Store.Segments.length c46, .int .i64 x0.Store.Now, .int .i64 x0.Cursor, .slice A52 x0.Order.length c53, .slice A152 d151.length c153, .slice s.2.2.1 s.2.1.length s.2.2.2, .slice none 0 0, .int .i64 x0.Steps], I41, I42, iBox p42 47 K7, iBox p41 47 K8, I43, iOwn (tSl tyFinished 37) [.slice s.2.2.1 s.2.1.length s.2.2.2] s.2.1]) (fun s => s.1 ≤ x0.Done.length ∧ R5 (x0.Done.length - s.1) s.1 s.2.1 = R5 (x0.Done.length - 0) 0 [] ∧ s.2.1.length ≤ 0 + s.1) (fun s => x0.Done.length - s.1) (0, [], (none, 0)) sl4 (fun W hm => hm) ⟨(by omega), rfl, Nat.le_refl _⟩ ?_
   rintro ⟨k229, d232, ⟨A233, c234⟩⟩ H237
   obtain ⟨hk235, hF236, hi238⟩ : k229 ≤ x0.Done.length ∧ R5 (x0.Done.length - k229) k229 d232 = R5 (x0.Done.length - 0) 0 [] ∧ d232.length ≤ 0 + k229 := H237
   let K23 : List Value := [.slice A45 x0.Store.Segments.length c46, .int .i64 x0.Store.Now, .int .i64 x0.Cursor, .slice A52 x0.Order.length c53, .slice A152 d151.length c153, .slice A233 d232.length c234, .slice none 0 0, .int .i64 x0.Steps]
   let I48 : It := iOwn (tSl tyFinished 37) [.slice A233 d232.length c234] d232
   show CM Tryz.prog 97 _ _ _ _ [(1, .pointer (some (⟨p41, 0, none⟩ : Addr))), (2, .pointer (some (⟨p42, 0, none⟩ : Addr))), (3, .pointer (some (⟨p56, 0, none⟩ : Addr))), (6, .int .i64 ((k229 : Nat) : Int))] [iBox p56 47 K23, I41, I42, iBox p42 47 K7, iBox p41 47 K8, I43, I48]
   refine CM_seq (sr (wm ?_))
   refine wv (vf underlying47 rfl type44) ?_
   refine wv (vl 4 5 underlying44) ?_
   refine wv (vlen underlying44) ?_
   refine wv vlss ?_
   refine nt' ?_
   by_cases hl239 : k229 < x0.Done.length
   ·have g240 : (decide (((k229 : Nat) : Int) < ((x0.Done.length : Nat) : Int))) = true := decide_eq_true (by omega)
    refine CM_condT rfl g240 ?_
    refine CM_skip (QM_then (CM_seq (CM_block (sr ?_))))
    refine wv (vf underlying47 rfl type44) ?_
    refine wv (vl 4 5 underlying44) ?_
    refine wm ?_
    obtain ⟨a241, rfl, hb242, he243⟩ := q29 (by omega)
    refine wv (vix 7 k229 underlying44 type37) ?_
    obtain ⟨_, e251, hc244⟩ := he243 k229 _ (gt_some (show k229 < x0.Done.length from by omega))
    obtain ⟨v245, v247, v249, rfl, r246, r248, r250⟩ := tyFinished_rd e251
    have l252 : ((gt x0.Done k229).Query.Conds).length ≤ 68719476736 := (s_0.2.2.2.1.2 _ (gt_mem (show k229 < x0.Done.length from by omega))).1.1
    have l253 : ((gt x0.Done k229).Query.Out).length ≤ 68719476736 := (s_0.2.2.2.1.2 _ (gt_mem (show k229 < x0.Done.length from by omega))).1.2
    have l254 : ((gt x0.Done k229).Rows).length ≤ 68719476736 := (s_0.2.2.2.1.2 _ (gt_mem (show k229 < x0.Done.length from by omega))).2.1
    have r259 := r246
    obtain ⟨m255, A256, c257, rfl, q258⟩ := r246
    have r264 := r248
    obtain ⟨m260, A261, c262, rfl, q263⟩ := r248
    have r269 := r250
    obtain ⟨m265, A266, c267, rfl, q268⟩ := r250
    let K24 : List Value := [.int .i64 ((gt x0.Done k229).Query.Id), .int .i64 ((gt x0.Done k229).Query.Tenant), .slice A256 ((gt x0.Done k229).Query.Conds).length c257, .slice A261 ((gt x0.Done k229).Query.Out).length c262, .int .i64 ((gt x0.Done k229).Time), .int .i64 ((gt x0.Done k229).Steps), .slice A266 ((gt x0.Done k229).Rows).length c267]
    refine wv (fun W hm => rv_loadN (cs := K24) underlying37 type37 rfl rfl (hm.elCells (show (a241.add (k229 * 7)).block < w.heap.size from by rw [add_block]; exact hb242.1) hc244)) ?_
    refine WM_alloc type37 rfl (Wd_none rfl) (by decide) (fun p270 => ?_)
    let K25 : List Value := [.slice A12 x0.Store.Segments.length c13, .int .i64 x0.Store.Now, .int .i64 x0.Cursor, .slice A17 x0.Order.length c18, .slice A22 x0.Active.length c23, .slice (some a241) x0.Done.length c28, .slice A32 x0.Ledger.length c33, .int .i64 x0.Steps]
    refine sb 0 K24 [iBox p56 47 K23, I41, I42, iBox p42 47 K7, iBox p41 47 K25, I43, I48] (fun W hm => hm) type37 ?_
    refine nt' (sr ?_)
    refine wv (vf underlying37 rfl type34) ?_
    refine wv (fun W hm => rv_loadN (cs := [.int .i64 ((gt x0.Done k229).Query.Id), .int .i64 ((gt x0.Done k229).Query.Tenant), .slice A256 ((gt x0.Done k229).Query.Conds).length c257, .slice A261 ((gt x0.Done k229).Query.Out).length c262]) underlying34 type34 rfl rfl (hm.boxPart (n := 0) rfl rfl)) ?_
    refine wcs tyQuery ((gt x0.Done k229).Query) (cl_fn cb129 rfl) (fun W hm => spec_l6Query_c2 W _ ((gt x0.Done k229).Query) (tyQuery_mk (x := ((gt x0.Done k229).Query)) (hm.rdS0 r259) (hm.rdS0 r264)) (s_0.2.2.2.1.2 _ (gt_mem (show k229 < x0.Done.length from by omega))).1) (fun z271 => ?_)
    refine tyQuery_sp ?_
    rintro ⟨v272, v273⟩ rfl
    refine WM_form (n := 0) rfl ?_
    rintro A274 c275 rfl m276
    refine WM_form (n := 1) rfl ?_
    rintro A278 c279 rfl m280
    refine wv (vf underlying37 rfl type34) ?_
    let I49 : It := iOwn (tSl tyCond 201) [.slice A274 (((gt x0.Done k229).Query).Conds).length c275] (((gt x0.Done k229).Query).Conds)
    let I50 : It := iOwn (tSl tInt 3) [.slice A278 (((gt x0.Done k229).Query).Out).length c279] (((gt x0.Done k229).Query).Out)
    refine sb 0 [.int .i64 (((gt x0.Done k229).Query).Id), .int .i64 (((gt x0.Done k229).Query).Tenant), .slice A274 (((gt x0.Done k229).Query).Conds).length c275, .slice A278 (((gt x0.Done k229).Query).Out).length c279, .int .i64 ((gt x0.Done k229).Time), .int .i64 ((gt x0.Done k229).Steps), .slice A266 ((gt x0.Done k229).Rows).length c267] [I49, I50, iBox p56 47 K23, I41, I42, iBox p42 47 K7, iBox p41 47 K25, I43, I48] (pk [2, 0, 1, 3, 4, 5, 6, 7, 8, 9]) type34 ?_
    refine nt' (sr ?_)
    refine wv (vf underlying37 rfl type35) ?_
    refine wv (vl 0 6 underlying35) ?_
    refine wcl (tSl tyRow 73) ((gt x0.Done k229).Rows) (cl_fn cb160 rfl) (fun W hm => spec_l9Rows_c2 W _ ((gt x0.Done k229).Rows) (hm.rdS0 r269) (s_0.2.2.2.1.2 _ (gt_mem (show k229 < x0.Done.length from by omega))).2) (fun z282 => ?_)
    refine WM_form (n := 0) rfl ?_
    rintro A283 c284 rfl m285
    refine wv (vf underlying37 rfl type35) ?_
    let K26 : List Value := [.int .i64 (((gt x0.Done k229).Query).Id), .int .i64 (((gt x0.Done k229).Query).Tenant), .slice A274 (((gt x0.Done k229).Query).Conds).length c275, .slice A278 (((gt x0.Done k229).Query).Out).length c279, .int .i64 ((gt x0.Done k229).Time), .int .i64 ((gt x0.Done k229).Steps), .slice A283 ((gt x0.Done k229).Rows).length c284]
    let I51 : It := iOwn (tSl tyRow 73) [.slice A283 ((gt x0.Done k229).Rows).length c284] ((gt x0.Done k229).Rows)
    refine sb 6 K26 [I51, I49, I50, iBox p56 47 K23, I41, I42, iBox p42 47 K7, iBox p41 47 K25, I43, I48] (pk [1, 0, 2, 3, 4, 5, 6, 7, 8, 9, 10]) type35 ?_
    refine nt' (CM_region ?_)
    refine wv (vf underlying47 rfl type44) ?_
    refine wv (vl 4 5 underlying44) ?_
    refine wv (fun W hm => rv_loadN (cs := K26) underlying37 type37 rfl rfl (hm.boxCells (n := 0) rfl)) ?_
    refine WM_build (cs := K26) underlying44 type37 rfl (by decide) (by decide) rfl (by kernel_rfl) (Wd_none rfl) (by decide) (fun p287 => ?_)
    refine ap1 tyFinished 37 (.slice A233 d232.length c234) d232 (⟨((gt x0.Done k229).Query), (gt x0.Done k229).Time, (gt x0.Done k229).Steps, ((gt x0.Done k229).Rows)⟩ : DFinished) [I49, I50, I51] [iBox p270 37 K26, iBox p56 47 K23, I41, I42, iBox p42 47 K7, iBox p41 47 K25, I43] K26 (pk [0, 11, 3, 4, 2, 1, 5, 6, 7, 8, 9, 10]) (fun _ _ hs => Els.single (tyFinished_join (x := (⟨((gt x0.Done k229).Query), (gt x0.Done k229).Time, (gt x0.Done k229).Steps, ((gt x0.Done k229).Rows)⟩ : DFinished)) hs)) underlying44 type37 (show (d232.length + 1) * 104 ≤ 140737488355328 from by omega) (fun v288 => ?_)
    refine WM_form (n := 0) rfl ?_
    rintro A289 c290 rfl m291
    refine wv (vf underlying47 rfl type44) ?_
    refine sb 5 [.slice A45 x0.Store.Segments.length c46, .int .i64 x0.Store.Now, .int .i64 x0.Cursor, .slice A52 x0.Order.length c53, .slice A152 d151.length c153, .slice A289 (d232 ++ [(⟨((gt x0.Done k229).Query), (gt x0.Done k229).Time, (gt x0.Done k229).Steps, ((gt x0.Done k229).Rows)⟩ : DFinished)]).length c290, .slice none 0 0, .int .i64 x0.Steps] [iOwn (tSl tyFinished 37) [.slice A289 (d232 ++ [(⟨((gt x0.Done k229).Query), (gt x0.Done k229).Time, (gt x0.Done k229).Steps, ((gt x0.Done k229).Rows)⟩ : DFinished)]).length c290] (d232 ++ [(⟨((gt x0.Done k229).Query), (gt x0.Done k229).Time, (gt x0.Done k229).Steps, ((gt x0.Done k229).Rows)⟩ : DFinished)]), iBox p270 37 K26, I41, I42, iBox p42 47 K7, iBox p41 47 K25, I43] (pk [2, 0, 1, 3, 4, 5, 6, 7]) type44 ?_
    refine WM_nil (QM_block_normal (QM_then (CM_region (wm ?_))))
    refine wv (vadN k229 1 (by omega)) ?_
    refine wa (WM_nil ?_)
    have hn293 := rng_next (R := DEngine) (body := F2) (k := k229) (s := d232) (s' := (d232 ++ [(⟨((gt x0.Done k229).Query), (gt x0.Done k229).Time, (gt x0.Done k229).Steps, ((gt x0.Done k229).Rows)⟩ : DFinished)])) (show k229 < x0.Done.length from by omega) (show spec_l9Copy_b2 x0 k229 d232 = Sum.inr (d232 ++ [(⟨((gt x0.Done k229).Query), (gt x0.Done k229).Time, (gt x0.Done k229).Steps, ((gt x0.Done k229).Rows)⟩ : DFinished)]) from by unfold spec_l9Copy_b2; exact rfl) hF236
    exact QM_round (k229 + 1, (d232 ++ [(⟨((gt x0.Done k229).Query), (gt x0.Done k229).Time, (gt x0.Done k229).Steps, ((gt x0.Done k229).Rows)⟩ : DFinished)]), (A289, c290)) sl4 (pk [0, 3, 4, 5, 6, 7, 1]) ⟨(by omega), hn293, (show (d232 ++ [(⟨((gt x0.Done k229).Query), (gt x0.Done k229).Time, (gt x0.Done k229).Steps, ((gt x0.Done k229).Rows)⟩ : DFinished)]).length ≤ 0 + (k229 + 1) from by first | omega | (simp only [List.length_append, List.length_cons, List.length_nil] at *; omega))⟩ (rl (by omega))
   ·have g240 : (decide (((k229 : Nat) : Int) < ((x0.Done.length : Nat) : Int))) = false := decide_eq_false (by omega)
    refine CM_condF rfl g240 ?_
    refine CM_exit (QM_then_exit (QM_then_exit ?_))
    have hE294 : R5 (x0.Done.length - 0) 0 [] = Sum.inr d232 := rng_end hl239 hF236
    refine QM_block_hit (QM_then (CM_seq (sr (wa (nt' (CM_block ?_))))))
    refine CM_items (fun W hm => (hm.addNil (E := tyCharge) (e := 133)).last) ?_
    let F3 := fun k (s : (List DCharge)) => spec_l9Copy_b3 x0 k s
    let R6 := rng (R := DEngine) F3
    refine CM_loop (σ := Nat × ((List DCharge)) × (Option Addr × Nat)) (fun s => [(1, .pointer (some (⟨p41, 0, none⟩ : Addr))), (2, .pointer (some (⟨p42, 0, none⟩ : Addr))), (3, .pointer (some (⟨p56, 0, none⟩ : Addr))), (8, .int .i64 ((s.1 : Nat) : Int))]) (fun s => [iBox p56 47 [.slice A45 x0.Store.Segments.length c46, .int .i64 x0.Store.Now, .int .i64 x0.Cursor, .slice A52 x0.Order.length c53, .slice A152 d151.length c153, .slice A233 d232.length c234, .slice s.2.2.1 s.2.1.length s.2.2.2, .int .i64 x0.Steps], I41, I42, iBox p42 47 K7, iBox p41 47 K8, I43, I48, iOwn (tSl tyCharge 133) [.slice s.2.2.1 s.2.1.length s.2.2.2] s.2.1]) (fun s => s.1 ≤ x0.Ledger.length ∧ R6 (x0.Ledger.length - s.1) s.1 s.2.1 = R6 (x0.Ledger.length - 0) 0 [] ∧ s.2.1.length ≤ 0 + s.1) (fun s => x0.Ledger.length - s.1) (0, [], (none, 0)) sl4 (fun W hm => hm) ⟨(by omega), rfl, Nat.le_refl _⟩ ?_
    rintro ⟨k295, d298, ⟨A299, c300⟩⟩ H303
    obtain ⟨hk301, hF302, hi304⟩ : k295 ≤ x0.Ledger.length ∧ R6 (x0.Ledger.length - k295) k295 d298 = R6 (x0.Ledger.length - 0) 0 [] ∧ d298.length ≤ 0 + k295 := H303
    let K27 : List Value := [.slice A45 x0.Store.Segments.length c46, .int .i64 x0.Store.Now, .int .i64 x0.Cursor, .slice A52 x0.Order.length c53, .slice A152 d151.length c153, .slice A233 d232.length c234, .slice A299 d298.length c300, .int .i64 x0.Steps]
    let I52 : It := iOwn (tSl tyCharge 133) [.slice A299 d298.length c300] d298
    show CM Tryz.prog 97 _ _ _ _ [(1, .pointer (some (⟨p41, 0, none⟩ : Addr))), (2, .pointer (some (⟨p42, 0, none⟩ : Addr))), (3, .pointer (some (⟨p56, 0, none⟩ : Addr))), (8, .int .i64 ((k295 : Nat) : Int))] [iBox p56 47 K27, I41, I42, iBox p42 47 K7, iBox p41 47 K8, I43, I48, I52]
    refine CM_seq (sr (wm ?_))
    refine wv (vf underlying47 rfl type45) ?_
    refine wv (vl 4 6 underlying45) ?_
    refine wv (vlen underlying45) ?_
    refine wv vlss ?_
    refine nt' ?_
    by_cases hl305 : k295 < x0.Ledger.length
    ·have g306 : (decide (((k295 : Nat) : Int) < ((x0.Ledger.length : Nat) : Int))) = true := decide_eq_true (by omega)
     refine CM_condT rfl g306 ?_
     refine CM_skip (QM_then (CM_seq (CM_block ?_)))
     obtain ⟨a307, rfl, hb308, he309⟩ := q34 (by omega)
     obtain ⟨_, e317, hc310⟩ := he309 k295 _ (gt_some (show k295 < x0.Ledger.length from by omega))
     obtain ⟨v311, v313, v315, rfl, r312, r314, r316⟩ := tyCharge_rd e317
     have l318 : ((gt x0.Ledger k295).Ids).length ≤ 68719476736 := (s_0.2.2.2.2.2 _ (gt_mem (show k295 < x0.Ledger.length from by omega))).1
     have l319 : ((gt x0.Ledger k295).Tenants).length ≤ 68719476736 := (s_0.2.2.2.2.2 _ (gt_mem (show k295 < x0.Ledger.length from by omega))).2.1
     have l320 : ((gt x0.Ledger k295).Rows).length ≤ 68719476736 := (s_0.2.2.2.2.2 _ (gt_mem (show k295 < x0.Ledger.length from by omega))).2.2
     have r325 := r312
     obtain ⟨m321, A322, c323, rfl, q324⟩ := r312
     have r330 := r314
     obtain ⟨m326, A327, c328, rfl, q329⟩ := r314
     have r335 := r316
     obtain ⟨m331, A332, c333, rfl, q334⟩ := r316
     let K28 : List Value := [.slice A12 x0.Store.Segments.length c13, .int .i64 x0.Store.Now, .int .i64 x0.Cursor, .slice A17 x0.Order.length c18, .slice A22 x0.Active.length c23, .slice A27 x0.Done.length c28, .slice (some a307) x0.Ledger.length c33, .int .i64 x0.Steps]
     refine CM_cut (σ := Option Addr × Nat) (fun s => [(1, .pointer (some (⟨p41, 0, none⟩ : Addr))), (2, .pointer (some (⟨p42, 0, none⟩ : Addr))), (3, .pointer (some (⟨p56, 0, none⟩ : Addr))), (8, .int .i64 ((k295 : Nat) : Int))]) (fun s => [iBox p56 47 [.slice A45 x0.Store.Segments.length c46, .int .i64 x0.Store.Now, .int .i64 x0.Cursor, .slice A52 x0.Order.length c53, .slice A152 d151.length c153, .slice A233 d232.length c234, .slice s.1 (d298 ++ [(gt x0.Ledger k295)]).length s.2, .int .i64 x0.Steps], iOwn (tSl tyCharge 133) [.slice s.1 (d298 ++ [(gt x0.Ledger k295)]).length s.2] (d298 ++ [(gt x0.Ledger k295)]), I41, I42, iBox p42 47 K7, iBox p41 47 K28, I43, I48]) (fun _ => True) ?_ ?_
     ·
      refine rb 12 (s := [I41, I42, iBox p42 47 K7, I43, I48]) (pk [1, 2, 3, 5, 6]) ?_
      refine qt 12 0 1 rfl (vf underlying47 rfl type45) ?_
      refine qt 12 2 5 rfl (vf underlying47 rfl type45) ?_
      refine qt 12 4 21 rfl vmv ?_
      refine qa [1, 3] ?_
      refine qc 12 23 rfl ?_ ?_
      ·
       refine wv (vl 0 6 underlying45) ?_
       refine qn (pk [1, 2, 3, 5, 6]) ?_
       refine qo 12 3 31 rfl ?_
       refine wv (vl 4 6 underlying45) ?_
       refine qn (pk [1, 2, 3, 5, 6]) ?_
       refine qt 12 5 63 rfl (vix 5 k295 underlying45 type133) ?_
       refine qt 12 6 127 rfl (fun W hm => rv_loadN (cs := [.int .i64 ((gt x0.Ledger k295).Segment), .int .i64 ((gt x0.Ledger k295).Base), .slice A322 ((gt x0.Ledger k295).Ids).length c323, .slice A327 ((gt x0.Ledger k295).Tenants).length c328, .slice A332 ((gt x0.Ledger k295).Rows).length c333]) underlying133 type133 rfl rfl (hm.elCells (show (a307.add (k295 * 5)).block < w.heap.size from by rw [add_block]; exact hb308.1) hc310)) ?_
       refine qo 12 7 255 rfl ?_
       refine wcs tyCharge (gt x0.Ledger k295) (cl_fn cb161 rfl) (fun W hm => spec_l10Copy_c2 W _ (gt x0.Ledger k295) (tyCharge_mk (x := (gt x0.Ledger k295)) (hm.rdS0 r325) (hm.rdS0 r330) (hm.rdS0 r335)) (s_0.2.2.2.2.2 _ (gt_mem (show k295 < x0.Ledger.length from by omega)))) (fun z358 => ?_)
       refine tyCharge_sp ?_
       rintro ⟨v359, v360, v361⟩ rfl
       refine WM_form (n := 0) rfl ?_
       rintro A362 c363 rfl m364
       refine WM_form (n := 1) rfl ?_
       rintro A366 c367 rfl m368
       refine WM_form (n := 2) rfl ?_
       rintro A370 c371 rfl m372
       refine qn (pk [4, 5, 6, 8, 9]) ?_
       refine qo 12 8 511 rfl ?_
       let K29 : List Value := [.int .i64 ((gt x0.Ledger k295).Segment), .int .i64 ((gt x0.Ledger k295).Base), .slice A362 ((gt x0.Ledger k295).Ids).length c363, .slice A366 ((gt x0.Ledger k295).Tenants).length c367, .slice A370 ((gt x0.Ledger k295).Rows).length c371]
       refine WM_build (cs := K29) underlying45 type133 rfl (by decide) (by decide) rfl (by kernel_rfl) (Wd_none rfl) (by decide) (fun p374 => ?_)
       refine qn (pk [5, 6, 7, 9, 10]) ?_
       refine qo 12 9 1023 rfl ?_
       refine ap1 tyCharge 133 (.slice A299 d298.length c300) d298 (gt x0.Ledger k295) [iOwn (tSl tInt 3) [.slice A362 ((gt x0.Ledger k295).Ids).length c363] ((gt x0.Ledger k295).Ids), iOwn (tSl tInt 3) [.slice A366 ((gt x0.Ledger k295).Tenants).length c367] ((gt x0.Ledger k295).Tenants), iOwn (tSl tInt 3) [.slice A370 ((gt x0.Ledger k295).Rows).length c371] ((gt x0.Ledger k295).Rows)] [iBox p56 47 K27, I41, I42, iBox p42 47 K7, iBox p41 47 K28, I43, I48] K29 (pk [0, 11, 1, 2, 3, 4, 5, 6, 7, 8, 9, 10]) (fun _ _ hs => Els.single (tyCharge_join (x := (gt x0.Ledger k295)) hs)) underlying45 type133 (show (d298.length + 1) * 88 ≤ 140737488355328 from by omega) (fun v375 => ?_)
       refine WM_form (n := 0) rfl ?_
       rintro A376 c377 rfl m378
       refine qn (pk [2, 3, 4, 6, 7]) ?_
       refine qt 12 10 2047 rfl (vf underlying47 rfl type45) ?_
       refine qo 12 11 4095 rfl ?_
       refine sb 6 [.slice A45 x0.Store.Segments.length c46, .int .i64 x0.Store.Now, .int .i64 x0.Cursor, .slice A52 x0.Order.length c53, .slice A152 d151.length c153, .slice A233 d232.length c234, .slice A376 (d298 ++ [(gt x0.Ledger k295)]).length c377, .int .i64 x0.Steps] [iOwn (tSl tyCharge 133) [.slice A376 (d298 ++ [(gt x0.Ledger k295)]).length c377] (d298 ++ [(gt x0.Ledger k295)]), I41, I42, iBox p42 47 K7, iBox p41 47 K28, I43, I48] (pk [1, 0, 2, 3, 4, 5, 6, 7]) type45 ?_
       refine qn (pk [2, 3, 4, 6, 7]) ?_
       refine QB_done (by kernel_rfl) ?_
       exact QM_cut_normal (A376, c377) sl4 (fun W hm => hm) trivial
      refine qc 12 29 rfl ?_ ?_
      ·
       refine wv (vl 4 6 underlying45) ?_
       refine qn (pk [1, 2, 3, 5, 6]) ?_
       refine qt 12 5 61 rfl (vix 5 k295 underlying45 type133) ?_
       refine qt 12 6 125 rfl (fun W hm => rv_loadN (cs := [.int .i64 ((gt x0.Ledger k295).Segment), .int .i64 ((gt x0.Ledger k295).Base), .slice A322 ((gt x0.Ledger k295).Ids).length c323, .slice A327 ((gt x0.Ledger k295).Tenants).length c328, .slice A332 ((gt x0.Ledger k295).Rows).length c333]) underlying133 type133 rfl rfl (hm.elCells (show (a307.add (k295 * 5)).block < w.heap.size from by rw [add_block]; exact hb308.1) hc310)) ?_
       refine qa [1, 7] ?_
       refine qc 12 127 rfl ?_ ?_
       ·
        refine wv (vl 0 6 underlying45) ?_
        refine qn (pk [1, 2, 3, 5, 6]) ?_
        refine qo 12 7 255 rfl ?_
        refine wcs tyCharge (gt x0.Ledger k295) (cl_fn cb161 rfl) (fun W hm => spec_l10Copy_c2 W _ (gt x0.Ledger k295) (tyCharge_mk (x := (gt x0.Ledger k295)) (hm.rdS0 r325) (hm.rdS0 r330) (hm.rdS0 r335)) (s_0.2.2.2.2.2 _ (gt_mem (show k295 < x0.Ledger.length from by omega)))) (fun z380 => ?_)
        refine tyCharge_sp ?_
        rintro ⟨v381, v382, v383⟩ rfl
        refine WM_form (n := 0) rfl ?_
        rintro A384 c385 rfl m386
        refine WM_form (n := 1) rfl ?_
        rintro A388 c389 rfl m390
        refine WM_form (n := 2) rfl ?_
        rintro A392 c393 rfl m394
        refine qn (pk [4, 5, 6, 8, 9]) ?_
        refine qo 12 8 511 rfl ?_
        let K30 : List Value := [.int .i64 ((gt x0.Ledger k295).Segment), .int .i64 ((gt x0.Ledger k295).Base), .slice A384 ((gt x0.Ledger k295).Ids).length c385, .slice A388 ((gt x0.Ledger k295).Tenants).length c389, .slice A392 ((gt x0.Ledger k295).Rows).length c393]
        refine WM_build (cs := K30) underlying45 type133 rfl (by decide) (by decide) rfl (by kernel_rfl) (Wd_none rfl) (by decide) (fun p396 => ?_)
        refine qn (pk [5, 6, 7, 9, 10]) ?_
        refine qo 12 9 1023 rfl ?_
        refine ap1 tyCharge 133 (.slice A299 d298.length c300) d298 (gt x0.Ledger k295) [iOwn (tSl tInt 3) [.slice A384 ((gt x0.Ledger k295).Ids).length c385] ((gt x0.Ledger k295).Ids), iOwn (tSl tInt 3) [.slice A388 ((gt x0.Ledger k295).Tenants).length c389] ((gt x0.Ledger k295).Tenants), iOwn (tSl tInt 3) [.slice A392 ((gt x0.Ledger k295).Rows).length c393] ((gt x0.Ledger k295).Rows)] [iBox p56 47 K27, I41, I42, iBox p42 47 K7, iBox p41 47 K28, I43, I48] K30 (pk [0, 11, 1, 2, 3, 4, 5, 6, 7, 8, 9, 10]) (fun _ _ hs => Els.single (tyCharge_join (x := (gt x0.Ledger k295)) hs)) underlying45 type133 (show (d298.length + 1) * 88 ≤ 140737488355328 from by omega) (fun v397 => ?_)
        refine WM_form (n := 0) rfl ?_
        rintro A398 c399 rfl m400
        refine qn (pk [2, 3, 4, 6, 7]) ?_
        refine qt 12 10 2047 rfl (vf underlying47 rfl type45) ?_
        refine qo 12 11 4095 rfl ?_
        refine sb 6 [.slice A45 x0.Store.Segments.length c46, .int .i64 x0.Store.Now, .int .i64 x0.Cursor, .slice A52 x0.Order.length c53, .slice A152 d151.length c153, .slice A233 d232.length c234, .slice A398 (d298 ++ [(gt x0.Ledger k295)]).length c399, .int .i64 x0.Steps] [iOwn (tSl tyCharge 133) [.slice A398 (d298 ++ [(gt x0.Ledger k295)]).length c399] (d298 ++ [(gt x0.Ledger k295)]), I41, I42, iBox p42 47 K7, iBox p41 47 K28, I43, I48] (pk [1, 0, 2, 3, 4, 5, 6, 7]) type45 ?_
        refine qn (pk [2, 3, 4, 6, 7]) ?_
        refine QB_done (by kernel_rfl) ?_
        exact QM_cut_normal (A398, c399) sl4 (fun W hm => hm) trivial
       refine qc 12 253 rfl ?_ ?_
       ·
        refine wcs tyCharge (gt x0.Ledger k295) (cl_fn cb161 rfl) (fun W hm => spec_l10Copy_c2 W _ (gt x0.Ledger k295) (tyCharge_mk (x := (gt x0.Ledger k295)) (hm.rdS0 r325) (hm.rdS0 r330) (hm.rdS0 r335)) (s_0.2.2.2.2.2 _ (gt_mem (show k295 < x0.Ledger.length from by omega)))) (fun z402 => ?_)
        refine tyCharge_sp ?_
        rintro ⟨v403, v404, v405⟩ rfl
        refine WM_form (n := 0) rfl ?_
        rintro A406 c407 rfl m408
        refine WM_form (n := 1) rfl ?_
        rintro A410 c411 rfl m412
        refine WM_form (n := 2) rfl ?_
        rintro A414 c415 rfl m416
        refine qn (pk [4, 5, 6, 8, 9]) ?_
        refine qa [1, 8] ?_
        refine qc 12 255 rfl ?_ ?_
        ·
         refine wv (vl 3 6 underlying45) ?_
         refine qn (pk [4, 5, 6, 8, 9]) ?_
         refine qo 12 8 511 rfl ?_
         let K31 : List Value := [.int .i64 ((gt x0.Ledger k295).Segment), .int .i64 ((gt x0.Ledger k295).Base), .slice A406 ((gt x0.Ledger k295).Ids).length c407, .slice A410 ((gt x0.Ledger k295).Tenants).length c411, .slice A414 ((gt x0.Ledger k295).Rows).length c415]
         refine WM_build (cs := K31) underlying45 type133 rfl (by decide) (by decide) rfl (by kernel_rfl) (Wd_none rfl) (by decide) (fun p418 => ?_)
         refine qn (pk [5, 6, 7, 9, 10]) ?_
         refine qo 12 9 1023 rfl ?_
         refine ap1 tyCharge 133 (.slice A299 d298.length c300) d298 (gt x0.Ledger k295) [iOwn (tSl tInt 3) [.slice A406 ((gt x0.Ledger k295).Ids).length c407] ((gt x0.Ledger k295).Ids), iOwn (tSl tInt 3) [.slice A410 ((gt x0.Ledger k295).Tenants).length c411] ((gt x0.Ledger k295).Tenants), iOwn (tSl tInt 3) [.slice A414 ((gt x0.Ledger k295).Rows).length c415] ((gt x0.Ledger k295).Rows)] [iBox p56 47 K27, I41, I42, iBox p42 47 K7, iBox p41 47 K28, I43, I48] K31 (pk [0, 11, 1, 2, 3, 4, 5, 6, 7, 8, 9, 10]) (fun _ _ hs => Els.single (tyCharge_join (x := (gt x0.Ledger k295)) hs)) underlying45 type133 (show (d298.length + 1) * 88 ≤ 140737488355328 from by omega) (fun v419 => ?_)
         refine WM_form (n := 0) rfl ?_
         rintro A420 c421 rfl m422
         refine qn (pk [2, 3, 4, 6, 7]) ?_
         refine qt 12 10 2047 rfl (vf underlying47 rfl type45) ?_
         refine qo 12 11 4095 rfl ?_
         refine sb 6 [.slice A45 x0.Store.Segments.length c46, .int .i64 x0.Store.Now, .int .i64 x0.Cursor, .slice A52 x0.Order.length c53, .slice A152 d151.length c153, .slice A233 d232.length c234, .slice A420 (d298 ++ [(gt x0.Ledger k295)]).length c421, .int .i64 x0.Steps] [iOwn (tSl tyCharge 133) [.slice A420 (d298 ++ [(gt x0.Ledger k295)]).length c421] (d298 ++ [(gt x0.Ledger k295)]), I41, I42, iBox p42 47 K7, iBox p41 47 K28, I43, I48] (pk [1, 0, 2, 3, 4, 5, 6, 7]) type45 ?_
         refine qn (pk [2, 3, 4, 6, 7]) ?_
         refine QB_done (by kernel_rfl) ?_
         exact QM_cut_normal (A420, c421) sl4 (fun W hm => hm) trivial
        refine qc 12 509 rfl ?_ ?_
        ·
         let K32 : List Value := [.int .i64 ((gt x0.Ledger k295).Segment), .int .i64 ((gt x0.Ledger k295).Base), .slice A406 ((gt x0.Ledger k295).Ids).length c407, .slice A410 ((gt x0.Ledger k295).Tenants).length c411, .slice A414 ((gt x0.Ledger k295).Rows).length c415]
         refine WM_build (cs := K32) underlying45 type133 rfl (by decide) (by decide) rfl (by kernel_rfl) (Wd_none rfl) (by decide) (fun p424 => ?_)
         refine qn (pk [5, 6, 7, 9, 10]) ?_
         refine qo 12 1 511 rfl ?_
         refine wv (vl 4 6 underlying45) ?_
         refine qn (pk [5, 6, 7, 9, 10]) ?_
         refine qo 12 9 1023 rfl ?_
         refine ap1 tyCharge 133 (.slice A299 d298.length c300) d298 (gt x0.Ledger k295) [iOwn (tSl tInt 3) [.slice A406 ((gt x0.Ledger k295).Ids).length c407] ((gt x0.Ledger k295).Ids), iOwn (tSl tInt 3) [.slice A410 ((gt x0.Ledger k295).Tenants).length c411] ((gt x0.Ledger k295).Tenants), iOwn (tSl tInt 3) [.slice A414 ((gt x0.Ledger k295).Rows).length c415] ((gt x0.Ledger k295).Rows)] [iBox p56 47 K27, I41, I42, iBox p42 47 K7, iBox p41 47 K28, I43, I48] K32 (pk [0, 11, 1, 2, 3, 4, 5, 6, 7, 8, 9, 10]) (fun _ _ hs => Els.single (tyCharge_join (x := (gt x0.Ledger k295)) hs)) underlying45 type133 (show (d298.length + 1) * 88 ≤ 140737488355328 from by omega) (fun v425 => ?_)
         refine WM_form (n := 0) rfl ?_
         rintro A426 c427 rfl m428
         refine qn (pk [2, 3, 4, 6, 7]) ?_
         refine qt 12 10 2047 rfl (vf underlying47 rfl type45) ?_
         refine qo 12 11 4095 rfl ?_
         refine sb 6 [.slice A45 x0.Store.Segments.length c46, .int .i64 x0.Store.Now, .int .i64 x0.Cursor, .slice A52 x0.Order.length c53, .slice A152 d151.length c153, .slice A233 d232.length c234, .slice A426 (d298 ++ [(gt x0.Ledger k295)]).length c427, .int .i64 x0.Steps] [iOwn (tSl tyCharge 133) [.slice A426 (d298 ++ [(gt x0.Ledger k295)]).length c427] (d298 ++ [(gt x0.Ledger k295)]), I41, I42, iBox p42 47 K7, iBox p41 47 K28, I43, I48] (pk [1, 0, 2, 3, 4, 5, 6, 7]) type45 ?_
         refine qn (pk [2, 3, 4, 6, 7]) ?_
         refine QB_done (by kernel_rfl) ?_
         exact QM_cut_normal (A426, c427) sl4 (fun W hm => hm) trivial
        exact QBs_nil
       exact QBs_nil
      exact QBs_nil
     ·
      rintro ⟨A354, c355⟩ -
      show QM 97 _ _ _ .normal [(1, .pointer (some (⟨p41, 0, none⟩ : Addr))), (2, .pointer (some (⟨p42, 0, none⟩ : Addr))), (3, .pointer (some (⟨p56, 0, none⟩ : Addr))), (8, .int .i64 ((k295 : Nat) : Int))] [iBox p56 47 [.slice A45 x0.Store.Segments.length c46, .int .i64 x0.Store.Now, .int .i64 x0.Cursor, .slice A52 x0.Order.length c53, .slice A152 d151.length c153, .slice A233 d232.length c234, .slice A354 (d298 ++ [(gt x0.Ledger k295)]).length c355, .int .i64 x0.Steps], iOwn (tSl tyCharge 133) [.slice A354 (d298 ++ [(gt x0.Ledger k295)]).length c355] (d298 ++ [(gt x0.Ledger k295)]), I41, I42, iBox p42 47 K7, iBox p41 47 K28, I43, I48]
      refine QM_len (n := 1) rfl ?_
      intro m430 m431
      refine QM_block_normal (QM_then (CM_region (wm ?_)))
      refine wv (vadN k295 1 (by omega)) ?_
      refine wa (WM_nil ?_)
      have hn432 := rng_next (R := DEngine) (body := F3) (k := k295) (s := d298) (s' := (d298 ++ [(gt x0.Ledger k295)])) (show k295 < x0.Ledger.length from by omega) (show spec_l9Copy_b3 x0 k295 d298 = Sum.inr (d298 ++ [(gt x0.Ledger k295)]) from by unfold spec_l9Copy_b3; exact rfl) hF302
      exact QM_round (k295 + 1, (d298 ++ [(gt x0.Ledger k295)]), (A354, c355)) sl4 (pk [0, 2, 3, 4, 5, 6, 7, 1]) ⟨(by omega), hn432, (show (d298 ++ [(gt x0.Ledger k295)]).length ≤ 0 + (k295 + 1) from by first | omega | (simp only [List.length_append, List.length_cons, List.length_nil] at *; omega))⟩ (rl (by omega))
    ·have g306 : (decide (((k295 : Nat) : Int) < ((x0.Ledger.length : Nat) : Int))) = false := decide_eq_false (by omega)
     refine CM_condF rfl g306 ?_
     refine CM_exit (QM_then_exit (QM_then_exit ?_))
     have hE433 : R6 (x0.Ledger.length - 0) 0 [] = Sum.inr d298 := rng_end hl305 hF302
     refine QM_block_hit (QM_then (sr ?_))
     refine wv (fun W hm => rv_loadN (cs := K27) underlying47 type47 rfl rfl (hm.boxCells (n := 0) rfl)) ?_
     refine sb 0 K27 [iBox p56 47 K27, I41, I42, iBox p41 47 K8, I43, I48, I52] (pk [3, 0, 1, 2, 4, 5, 6, 7]) type47 ?_
     refine nt' (CM_ret ?_)
     refine QM_r1 rfl (RR_cell (n := 0) rfl rfl underlying47 type47 rfl) (fun W hm => ⟨K27, ?_, ?_⟩)
     ·first | rw [(show spec_l9Copy_m x0 = (⟨x0.Store, x0.Cursor, x0.Order, d151, d232, d298, x0.Steps⟩ : DEngine) from by unfold spec_l9Copy_m; exact fin_inr hE228 (fin_inr hE294 (fin_inr hE433 (rfl))))] | rfl
     ·rw [(show spec_l9Copy_m x0 = (⟨x0.Store, x0.Cursor, x0.Order, d151, d232, d298, x0.Steps⟩ : DEngine) from by unfold spec_l9Copy_m; exact fin_inr hE228 (fin_inr hE294 (fin_inr hE433 (rfl))))]; exact Mem.join (is := [I42, I41, I43, I48, I52]) (js := []) (fun _ _ hs => tyEngine_join (x := (⟨x0.Store, x0.Cursor, x0.Order, d151, d232, d298, x0.Steps⟩ : DEngine)) hs) (hm.pick [3, 2, 5, 6, 7] (by decide))
theorem spec_l9Copy_eq (x0 : DEngine) : spec_l9Copy_m x0 = x0 := by
 unfold spec_l9Copy_m; rw [rng_app (xs := x0.Active) (b := fun k s => spec_l9Copy_b1 x0 k s) (fun _ _ => rfl), rng_app (xs := x0.Done) (b := fun k s => spec_l9Copy_b2 x0 k s) (fun _ _ => rfl), rng_app (xs := x0.Ledger) (b := fun k s => spec_l9Copy_b3 x0 k s) (fun _ _ => rfl)]; rfl
theorem spec_l9Copy_c2 (w : World) (z0 : List Value) (x0 : DEngine) (r_0 : tyEngine.rd w w.heap.size z0 x0) (s_0 : smEngine 68719476736 x0) :
  Calls Tryz.prog 81 #[.agg z0.toArray] w fun e w' => ∃ v : List Value, e = .returned (.agg v.toArray) ∧ Mem w.heap.size w [iOwn tyEngine v x0] w' := by
 have h := spec_l9Copy_c w z0 x0 r_0 s_0
 rw [spec_l9Copy_eq] at h
 exact h

def spec_ResultOf_b1 (x0 : DEngine) (x1 : Int) (k43 : Nat) (s44 : Int) : (DFinished × Bool) ⊕ ((Int) ⊕ (Int)) :=
 cond (decide (0 ≤ s44)) (cond (spec_IsEngine_m x0) (cond (((gt x0.Done (s44.toNat)).Query.Id) == x1) (Sum.inl ((gt x0.Done (s44.toNat)), true)) (Sum.inr (Sum.inr (IntKind.i64.wrap (s44 - 1))))) (Sum.inr (Sum.inl s44))) (Sum.inr (Sum.inl s44))
def spec_ResultOf_m (x0 : DEngine) (x1 : Int) : (DFinished × Bool) :=
 Sum.elim id (fun (s : Int) => ((⟨(⟨0, 0, [], []⟩ : DQuery), 0, 0, []⟩ : DFinished), false)) (rngb (R := (DFinished × Bool)) (fun k (s : Int) => spec_ResultOf_b1 x0 x1 k s) (x0.Done.length + 1 - 0) 0 (IntKind.i64.wrap (((x0.Done.length : Nat) : Int) - 1)))
theorem cb15 : Cb Tryz.prog 15 := ⟨f15, _, func15, rfl, by decide⟩
theorem spec_ResultOf_c (w : World) (z0 : List Value) (x0 : DEngine) (x1 : Int) (r_0 : tyEngine.rd w w.heap.size z0 x0) (s_0 : smEngine 68719476736 x0) :
  Calls Tryz.prog 15 #[.agg z0.toArray, .int .i64 x1] w fun e w' => ∃ v : List Value, e = .returned (.tuple #[.agg v.toArray, .bool ((spec_ResultOf_m x0 x1).2)]) ∧ Mem w.heap.size w [iOwn tyFinished v (spec_ResultOf_m x0 x1).1] w' := by
 obtain ⟨v1, v3, v5, v7, v9, rfl, r2, r4, r6, r8, r10⟩ := tyEngine_rd r_0
 have r15 := r2
 obtain ⟨m11, A12, c13, rfl, q14⟩ := r2
 have r20 := r4
 obtain ⟨m16, A17, c18, rfl, q19⟩ := r4
 have r25 := r6
 obtain ⟨m21, A22, c23, rfl, q24⟩ := r6
 have r30 := r8
 obtain ⟨m26, A27, c28, rfl, q29⟩ := r8
 have r35 := r10
 obtain ⟨m31, A32, c33, rfl, q34⟩ := r10
 have l36 : x0.Store.Segments.length ≤ 68719476736 := s_0.1.1
 have l37 : x0.Order.length ≤ 68719476736 := s_0.2.1
 have l38 : x0.Active.length ≤ 68719476736 := s_0.2.2.1.1
 have l39 : x0.Done.length ≤ 68719476736 := s_0.2.2.2.1.1
 have l40 : x0.Ledger.length ≤ 68719476736 := s_0.2.2.2.2.1
 refine ce2 (L := [(0, .agg #[.slice A12 x0.Store.Segments.length c13, .int .i64 x0.Store.Now, .int .i64 x0.Cursor, .slice A17 x0.Order.length c18, .slice A22 x0.Active.length c23, .slice A27 x0.Done.length c28, .slice A32 x0.Ledger.length c33, .int .i64 x0.Steps]), (1, .int .i64 x1)]) (N := 35) func15 ?_
 refine sr ?_
 refine WM_box rfl (Wd_none rfl) (by decide) (fun p41 => ?_)
 refine WM_alloc type37 rfl (Wd_none rfl) (by decide) (fun p42 => ?_)
 refine wa (nt' (CM_seq (sr ?_)))
 refine wv (vf underlying47 rfl type44) ?_
 refine wv (vl 1 5 underlying44) ?_
 refine wv (vlen underlying44) ?_
 refine wv (fun W hm => rv_sub rfl rfl) ?_
 refine wa (nt' ?_)
 have hw0 := wrap_id (n := ((x0.Done.length : Nat) : Int) - 1) (by omega) (by omega)
 let F1 := fun k (s : Int) => spec_ResultOf_b1 x0 x1 k s
 let R2 := rngb (R := (DFinished × Bool)) F1
 let K3 : List Value := [.int .i64 0, .int .i64 0, .slice none 0 0, .slice none 0 0, .int .i64 0, .int .i64 0, .slice none 0 0]
 let K4 : List Value := [.slice A12 x0.Store.Segments.length c13, .int .i64 x0.Store.Now, .int .i64 x0.Cursor, .slice A17 x0.Order.length c18, .slice A22 x0.Active.length c23, .slice A27 x0.Done.length c28, .slice A32 x0.Ledger.length c33, .int .i64 x0.Steps]
 refine CM_cut (σ := (Int) × (Unit)) (fun s => [(4, .pointer (some (⟨p42, 0, none⟩ : Addr)))]) (fun s => [iBox p42 37 K3, iBox p41 47 K4]) (fun s => R2 (x0.Done.length + 1 - 0) 0 (IntKind.i64.wrap (((x0.Done.length : Nat) : Int) - 1)) = Sum.inr s.1) ?_ ?_
 ·
  refine CM_block ?_
  refine CM_loop (σ := Nat × (Int) × (Unit)) (fun s => [(1, .int .i64 x1), (2, .pointer (some (⟨p41, 0, none⟩ : Addr))), (4, .pointer (some (⟨p42, 0, none⟩ : Addr))), (6, .int .i64 s.2.1)]) (fun s => [iBox p42 37 K3, iBox p41 47 K4]) (fun s => s.1 + (0) + 1 ≤ x0.Done.length + 1 ∧ R2 (x0.Done.length + 1 - s.1) s.1 s.2.1 = R2 (x0.Done.length + 1 - 0) 0 (IntKind.i64.wrap (((x0.Done.length : Nat) : Int) - 1)) ∧ ((s.1 : Nat) : Int) + s.2.1 + 1 = ((x0.Done.length : Nat) : Int) ∧ -1 ≤ s.2.1) (fun s => x0.Done.length + 1 - s.1) (0, (IntKind.i64.wrap (((x0.Done.length : Nat) : Int) - 1)), ()) sl4 (fun W hm => hm) ⟨(show 0 + (0) + 1 ≤ x0.Done.length + 1 from by omega), rfl, (show ((0 : Nat) : Int) + (IntKind.i64.wrap (((x0.Done.length : Nat) : Int) - 1)) + 1 = ((x0.Done.length : Nat) : Int) from by omega), (show -1 ≤ (IntKind.i64.wrap (((x0.Done.length : Nat) : Int) - 1)) from by omega)⟩ ?_
  rintro ⟨k43, s44, ⟨⟩⟩ H47
  obtain ⟨hk45, hF46, hi48, hi49⟩ : k43 + (0) + 1 ≤ x0.Done.length + 1 ∧ R2 (x0.Done.length + 1 - k43) k43 s44 = R2 (x0.Done.length + 1 - 0) 0 (IntKind.i64.wrap (((x0.Done.length : Nat) : Int) - 1)) ∧ ((k43 : Nat) : Int) + s44 + 1 = ((x0.Done.length : Nat) : Int) ∧ -1 ≤ s44 := H47
  show CM Tryz.prog 35 _ _ _ _ [(1, .int .i64 x1), (2, .pointer (some (⟨p41, 0, none⟩ : Addr))), (4, .pointer (some (⟨p42, 0, none⟩ : Addr))), (6, .int .i64 s44)] [iBox p42 37 K3, iBox p41 47 K4]
  have hw1 := wrap_id (n := s44 - 1) (by omega) (by omega)
  refine CM_seq (sr (wm ?_))
  refine wv (fun W hm => rv_geq rfl rfl) ?_
  refine wm ?_
  by_cases h50 : 0 ≤ s44
  ·have g51 : (decide (0 ≤ s44)) = true := decide_eq_true h50
   have ht := Int.toNat_of_nonneg (of_decide_eq_true g51)
   refine wg (fun W hm => rv_loadN (cs := K4) underlying47 type47 rfl rfl (hm.boxCells (n := 1) rfl)) g51 ?_
   refine WM_callV (cl_fn cb65 rfl) (fun W hm => spec_IsEngine_c W _ x0 (tyEngine_mk (x := x0) (hm.rdS0 r15) (hm.rdS0 r20) (hm.rdS0 r25) (hm.rdS0 r30) (hm.rdS0 r35)) s_0) (Wd_some rfl rfl rfl (bw g51 rfl)) (by decide) ?_
   refine wv (vpT g51) ?_
   refine nt' ?_
   rcases Bool.eq_false_or_eq_true (spec_IsEngine_m x0) with g53 | g53
   ·
    refine CM_condT rfl g53 ?_
    refine CM_skip (QM_then (CM_seq (CM_block (sr ?_))))
    refine wv (vf underlying47 rfl type44) ?_
    refine wv (vl 1 5 underlying44) ?_
    refine wm ?_
    obtain ⟨a54, rfl, hb55, he56⟩ := q29 (by omega)
    refine wv (fun W hm => rv_indexI (sz := 7) (k := s44) underlying44 type37 rfl rfl rfl (by omega) (by omega)) ?_
    refine wv (vf underlying37 rfl type34) ?_
    refine wv (fun W hm => rv_fieldA (o := 0) underlying34 rfl type3 (by decide) rfl rfl) ?_
    obtain ⟨_, e64, hc57⟩ := he56 (s44.toNat) _ (gt_some (show (s44.toNat) < x0.Done.length from by omega))
    obtain ⟨v58, v60, v62, rfl, r59, r61, r63⟩ := tyFinished_rd e64
    have l65 : ((gt x0.Done (s44.toNat)).Query.Conds).length ≤ 68719476736 := (s_0.2.2.2.1.2 _ (gt_mem (show (s44.toNat) < x0.Done.length from by omega))).1.1
    have l66 : ((gt x0.Done (s44.toNat)).Query.Out).length ≤ 68719476736 := (s_0.2.2.2.1.2 _ (gt_mem (show (s44.toNat) < x0.Done.length from by omega))).1.2
    have l67 : ((gt x0.Done (s44.toNat)).Rows).length ≤ 68719476736 := (s_0.2.2.2.1.2 _ (gt_mem (show (s44.toNat) < x0.Done.length from by omega))).2.1
    have r72 := r59
    obtain ⟨m68, A69, c70, rfl, q71⟩ := r59
    have r77 := r61
    obtain ⟨m73, A74, c75, rfl, q76⟩ := r61
    have r82 := r63
    obtain ⟨m78, A79, c80, rfl, q81⟩ := r63
    refine wv (fun W hm => rv_load underlying3 rfl rfl ((hm.cell0 (show ((a54.add ((s44.toNat) * 7)).add 0).block < w.heap.size from by rw [add_block, add_block]; exact hb55.1)).trans (hc57 0 _ rfl))) ?_
    refine wm ?_
    refine wv (fun W hm => rv_eql rfl rfl) ?_
    refine nt' ?_
    by_cases h83 : ((gt x0.Done (s44.toNat)).Query.Id) = x1
    ·have g84 : (((gt x0.Done (s44.toNat)).Query.Id) == x1) = true := beq_iff_eq.2 h83
     refine CM_condT rfl g84 ?_
     refine sr ?_
     let K5 : List Value := [.slice A12 x0.Store.Segments.length c13, .int .i64 x0.Store.Now, .int .i64 x0.Cursor, .slice A17 x0.Order.length c18, .slice A22 x0.Active.length c23, .slice (some a54) x0.Done.length c28, .slice A32 x0.Ledger.length c33, .int .i64 x0.Steps]
     refine wv (fun W hm => rv_loadN (cs := K5) underlying47 type47 rfl rfl (hm.boxCells (n := 1) rfl)) ?_
     refine wcs tyEngine x0 (cl_fn cb81 rfl) (fun W hm => spec_l9Copy_c2 W _ x0 (tyEngine_mk (x := x0) (hm.rdS0 r15) (hm.rdS0 r20) (hm.rdS0 r25) (hm.rdS0 r30) (hm.rdS0 r35)) s_0) (fun z85 => ?_)
     refine tyEngine_sp ?_
     rintro ⟨v86, v87, v88, v89, v90⟩ rfl
     refine WM_form (n := 0) rfl ?_
     rintro A91 c92 rfl m93
     refine WM_form (n := 1) rfl ?_
     rintro A95 c96 rfl m97
     refine WM_form (n := 2) rfl ?_
     rintro A99 c100 rfl m101
     refine WM_form (n := 3) rfl ?_
     rintro A103 c104 rfl m105
     refine WM_form (n := 4) rfl ?_
     rintro A107 c108 rfl m109
     refine wv (fun W hm => rv_fld1 underlying47 rfl underlying44 rfl rfl rfl) ?_
     refine wm ?_
     refine WM_formO (n := 3) rfl (by omega) ?_
     rintro g111 rfl
     refine wv (fun W hm => rv_indexI (sz := 7) (k := s44) underlying44 type37 rfl rfl rfl (by omega) (by omega)) ?_
     let I9 : It := iOwn (tSl (tSl tyVersion 191) 131) [.slice A91 x0.Store.Segments.length c92] x0.Store.Segments
     let I10 : It := iOwn (tSl tInt 3) [.slice A95 x0.Order.length c96] x0.Order
     let I11 : It := iOwn (tSl tyActive 64) [.slice A99 x0.Active.length c100] x0.Active
     let I12 : It := iOwn (tSl tyCharge 133) [.slice A107 x0.Ledger.length c108] x0.Ledger
     refine WM_focus (E := tyFinished) (e := 37) (A := (some ⟨g111, 0, none⟩)) (n := x0.Done.length) (c := c104) (xs := x0.Done) (k := (s44.toNat)) (js := [I9, I10, I11, I12, iBox p42 37 K3, iBox p41 47 K5]) (by omega) (pk [3, 0, 1, 2, 4, 5, 6]) (fun ck112 => ?_)
     refine tyFinished_sp ?_
     rintro ⟨v113, v114, v115⟩ rfl
     refine WM_form (n := 0) rfl ?_
     rintro A116 c117 rfl m118
     refine WM_form (n := 1) rfl ?_
     rintro A120 c121 rfl m122
     refine WM_form (n := 2) rfl ?_
     rintro A124 c125 rfl m126
     let K6 : List Value := [.int .i64 ((gt x0.Done (s44.toNat)).Query.Id), .int .i64 ((gt x0.Done (s44.toNat)).Query.Tenant), .slice A116 ((gt x0.Done (s44.toNat)).Query.Conds).length c117, .slice A120 ((gt x0.Done (s44.toNat)).Query.Out).length c121, .int .i64 ((gt x0.Done (s44.toNat)).Time), .int .i64 ((gt x0.Done (s44.toNat)).Steps), .slice A124 ((gt x0.Done (s44.toNat)).Rows).length c125]
     refine wv (fun W hm => rv_loadN (cs := K6) underlying37 type37 rfl rfl (hm.focCells (i := 3) rfl rfl)) ?_
     let K7 : List Value := [.slice A116 ((gt x0.Done (s44.toNat)).Query.Conds).length c117]
     let K8 : List Value := [.slice A120 ((gt x0.Done (s44.toNat)).Query.Out).length c121]
     let I13 : It := iOwn (tSl tyCond 201) K7 ((gt x0.Done (s44.toNat)).Query.Conds)
     let I14 : It := iOwn (tSl tInt 3) K8 ((gt x0.Done (s44.toNat)).Query.Out)
     let I15 : It := iOwn (tSl tyRow 73) [.slice A124 ((gt x0.Done (s44.toNat)).Rows).length c125] ((gt x0.Done (s44.toNat)).Rows)
     refine sb 0 K6 [I13, I14, I15, iFoc tyFinished 37 (some ⟨g111, 0, none⟩) x0.Done.length c104 x0.Done (s44.toNat) K6, I9, I10, I11, I12, iBox p41 47 K5] (pk [8, 0, 1, 2, 3, 4, 5, 6, 7, 9]) type37 ?_
     refine wa (nt' (CM_ret (QM_block_ret (QM_then_ret (QM_then_ret (QM_block_ret (QM_cut_ret (QM_then_ret ?_))))))))
     refine QM_r2 rfl (RR_cell (n := 0) rfl rfl underlying37 type37 rfl) (RR_tmp rfl) (fun W hm => ⟨K6, ?_, ?_⟩)
     ·first | rw [(show spec_ResultOf_m x0 x1 = ((gt x0.Done (s44.toNat)), true) from by unfold spec_ResultOf_m; exact fin_inl (rngb_ret (body := F1) (k := k43) (s := s44) (show k43 < x0.Done.length + 1 from by omega) (show spec_ResultOf_b1 x0 x1 k43 s44 = Sum.inl ((gt x0.Done (s44.toNat)), true) from by unfold spec_ResultOf_b1; exact cond_t g51 (cond_t g53 (cond_t g84 (rfl)))) hF46) rfl)] | rfl
      try rfl
     ·rw [(show spec_ResultOf_m x0 x1 = ((gt x0.Done (s44.toNat)), true) from by unfold spec_ResultOf_m; exact fin_inl (rngb_ret (body := F1) (k := k43) (s := s44) (show k43 < x0.Done.length + 1 from by omega) (show spec_ResultOf_b1 x0 x1 k43 s44 = Sum.inl ((gt x0.Done (s44.toNat)), true) from by unfold spec_ResultOf_b1; exact cond_t g51 (cond_t g53 (cond_t g84 (rfl)))) hF46) rfl)]; exact Mem.join (is := [I13, I14, I15]) (js := []) (fun _ _ hs => tyFinished_join (x := (gt x0.Done (s44.toNat))) hs) (hm.pick [1, 2, 3] (by decide))
    ·have g84 : (((gt x0.Done (s44.toNat)).Query.Id) == x1) = false := beq_eq_false_iff_ne.2 h83
     refine CM_condF rfl g84 ?_
     refine CM_skip (QM_block_normal (QM_then (CM_region (wm ?_))))
     refine wv (fun W hm => rv_sub rfl rfl) ?_
     refine wa (WM_nil ?_)
     have hn128 := rngb_next (R := (DFinished × Bool)) (body := F1) (k := k43) (s := s44) (s' := (IntKind.i64.wrap (s44 - 1))) (show k43 < x0.Done.length + 1 from by omega) (show spec_ResultOf_b1 x0 x1 k43 s44 = Sum.inr (Sum.inr (IntKind.i64.wrap (s44 - 1))) from by unfold spec_ResultOf_b1; exact cond_t g51 (cond_t g53 (cond_f g84 (rfl)))) hF46
     exact QM_round (k43 + 1, (IntKind.i64.wrap (s44 - 1)), ()) sl4 (fun W hm => hm) ⟨(show (k43 + 1) + (0) + 1 ≤ x0.Done.length + 1 from by omega), hn128, (show (((k43 + 1) : Nat) : Int) + (IntKind.i64.wrap (s44 - 1)) + 1 = ((x0.Done.length : Nat) : Int) from by first | omega | (simp only [List.length_append, List.length_cons, List.length_nil] at *; omega)), (show -1 ≤ (IntKind.i64.wrap (s44 - 1)) from by first | omega | (simp only [List.length_append, List.length_cons, List.length_nil] at *; omega))⟩ (show x0.Done.length + 1 - (k43 + 1) < x0.Done.length + 1 - k43 from by omega)
   ·
    refine CM_condF rfl g53 ?_
    refine CM_exit (QM_then_exit (QM_then_exit (QM_block_hit ?_)))
    have hE129 := rngb_brk (R := (DFinished × Bool)) (body := F1) (k := k43) (s := s44) (s' := s44) (show k43 < x0.Done.length + 1 from by omega) (show spec_ResultOf_b1 x0 x1 k43 s44 = Sum.inr (Sum.inl s44) from by unfold spec_ResultOf_b1; exact cond_t g51 (cond_f g53 (rfl))) hF46
    exact QM_cut_normal (s44, ()) (subL_cons rfl subL_nil) (fun W hm => hm) hE129
  ·have g51 : (decide (0 ≤ s44)) = false := decide_eq_false h50
   refine ws g51 ?_
   refine ws g51 ?_
   refine wv (vpF g51) ?_
   refine nt' ?_
   refine CM_condF rfl rfl ?_
   refine CM_exit (QM_then_exit (QM_then_exit (QM_block_hit ?_)))
   have hE130 := rngb_brk (R := (DFinished × Bool)) (body := F1) (k := k43) (s := s44) (s' := s44) (show k43 < x0.Done.length + 1 from by omega) (show spec_ResultOf_b1 x0 x1 k43 s44 = Sum.inr (Sum.inl s44) from by unfold spec_ResultOf_b1; exact cond_f g51 (rfl)) hF46
   exact QM_cut_normal (s44, ()) (subL_cons rfl subL_nil) (fun W hm => hm) hE130
 ·
  rintro ⟨s44, ⟨⟩⟩ H132
  have hE131 : R2 (x0.Done.length + 1 - 0) 0 (IntKind.i64.wrap (((x0.Done.length : Nat) : Int) - 1)) = Sum.inr s44 := H132
  show QM 35 _ _ _ .normal [(4, .pointer (some (⟨p42, 0, none⟩ : Addr)))] [iBox p42 37 K3, iBox p41 47 K4]
  refine QM_then (sr ?_)
  refine wv (fun W hm => rv_build (cs := K3) rfl (by kernel_rfl)) ?_
  refine sb 0 K3 [iBox p41 47 K4] (fun W hm => hm) type37 ?_
  refine wa (nt' (CM_ret ?_))
  refine QM_items (fun W hm => hm.addNil (E := tyCond) (e := 201)) ?_
  refine QM_items (fun W hm => hm.addNil (E := tInt) (e := 3)) ?_
  refine QM_items (fun W hm => hm.addNil (E := tyRow) (e := 73)) ?_
  refine QM_r2 rfl (RR_cell (n := 3) rfl rfl underlying37 type37 rfl) (RR_tmp rfl) (fun W hm => ⟨K3, ?_, ?_⟩)
  ·first | rw [(show spec_ResultOf_m x0 x1 = ((⟨(⟨0, 0, [], []⟩ : DQuery), 0, 0, []⟩ : DFinished), false) from by unfold spec_ResultOf_m; exact fin_inr hE131 (rfl))] | rfl
   try rfl
  ·rw [(show spec_ResultOf_m x0 x1 = ((⟨(⟨0, 0, [], []⟩ : DQuery), 0, 0, []⟩ : DFinished), false) from by unfold spec_ResultOf_m; exact fin_inr hE131 (rfl))]; exact Mem.join (is := [iOwn (tSl tyCond 201) [.slice none 0 0] [], iOwn (tSl tInt 3) [.slice none 0 0] [], iOwn (tSl tyRow 73) [.slice none 0 0] []]) (js := []) (fun _ _ hs => tyFinished_join (x := (⟨(⟨0, 0, [], []⟩ : DQuery), 0, 0, []⟩ : DFinished)) hs) (hm.pick [2, 1, 0] (by decide))

def impl_within_m (x0 : Int) (x1 : Int) (x2 : Int) : Bool :=
 cond (decide (x1 ≤ x0)) (decide (x0 ≤ x2)) false
theorem cb118 : Cb Tryz.prog 118 := ⟨f118, _, func118, rfl, by decide⟩
theorem impl_within_c (w : World) (x0 : Int) (x1 : Int) (x2 : Int) :
  Calls Tryz.prog 118 #[.int .i64 x0, .int .i64 x1, .int .i64 x2] w fun e w' => e = .returned (.bool (impl_within_m x0 x1 x2)) ∧ Below w.heap.size w w' := by
 refine ce3 (L := [(0, .int .i64 x0), (1, .int .i64 x1), (2, .int .i64 x2)]) (N := 15) func118 ?_
 refine sr (wa (nt' (sr (wm (wm ?_)))))
 refine wv (fun W hm => rv_geq rfl rfl) ?_
 refine wm ?_
 by_cases h1 : x1 ≤ x0
 ·have g2 : (decide (x1 ≤ x0)) = true := decide_eq_true h1
  refine wg vmv g2 ?_
  refine wg vmv g2 ?_
  refine wg (fun W hm => rv_leq rfl rfl) g2 ?_
  refine wv (vpT g2) ?_
  refine wa (nt' (CM_ret ?_))
  exact rtb (h := by unfold impl_within_m; exact cond_t g2 (rfl))
 ·have g2 : (decide (x1 ≤ x0)) = false := decide_eq_false h1
  refine ws g2 ?_
  refine ws g2 ?_
  refine ws g2 ?_
  refine wv (vpF g2) ?_
  refine wa (nt' (CM_ret ?_))
  exact rtb (h := by unfold impl_within_m; exact cond_f g2 (rfl))

theorem impl_within_fact {x a b : Int} (h : impl_within_m x a b = true) : a ≤ x ∧ x ≤ b := by
  unfold impl_within_m at h
  by_cases h1 : a ≤ x
  · rw [decide_eq_true h1] at h
    exact ⟨h1, of_decide_eq_true h⟩
  · rw [decide_eq_false h1] at h
    cases h
theorem impl_within_iff (x a b : Int) : impl_within_m x a b = decide (a ≤ x ∧ x ≤ b) := by
  unfold impl_within_m
  by_cases h1 : a ≤ x
  · by_cases h2 : x ≤ b
    · simp [h1, h2]
    · simp [h1, h2]
  · simp [h1]

def impl_copyInts_m (x0 : (List Int)) : (List Int) :=
 x0
theorem cb136 : Cb Tryz.prog 136 := ⟨f136, _, func136, rfl, by decide⟩
theorem impl_copyInts_c (w : World) (z0 : Value) (x0 : (List Int)) (r_0 : rdS tInt w w.heap.size z0 x0) (s_0 : x0.length ≤ 68719476736) :
  Calls Tryz.prog 136 #[z0] w fun e w' => ∃ v : Value, e = .returned (v) ∧ Mem w.heap.size w [iOwn (tSl tInt 3) [v] (impl_copyInts_m x0)] w' := by
 have r5 := r_0
 obtain ⟨m1, A2, c3, rfl, q4⟩ := r_0
 have l6 : x0.length ≤ 68719476736 := s_0
 refine ce1 (L := [(0, .slice A2 x0.length c3)]) (N := 6) func136 ?_
 refine sr (wa (nt' (sr ?_)))
 refine WM_build0 (E := tInt) underlying25 type3 (Wd_none rfl) (by decide) (fun p7 => ?_)
 refine wm ?_
 refine apR tInt tInt 3 (.slice (some ⟨p7, 0, none⟩) 0 0) [] x0 [] (fun W hm => hm) (fun W hm => src_flat flat_int (hm.rdS0 r5)) underlying25 type3 (show (0 + x0.length) * 8 ≤ 140737488355328 from by omega) (fun v9 => ?_)
 refine WM_form (n := 0) rfl ?_
 rintro A10 c11 rfl m12
 refine wa (nt' (CM_ret ?_))
 refine QM_r1 rfl (RR_tmp rfl) (fun W hm => ⟨.slice A10 x0.length c11, ?_, ?_⟩)
 ·first | rw [(show impl_copyInts_m x0 = x0 from by unfold impl_copyInts_m; exact rfl)] | rfl
 ·rw [(show impl_copyInts_m x0 = x0 from by unfold impl_copyInts_m; exact rfl)]; exact hm
theorem impl_copyInts_eq (x0 : (List Int)) : impl_copyInts_m x0 = x0 := by
 rfl
theorem impl_copyInts_c2 (w : World) (z0 : Value) (x0 : (List Int)) (r_0 : rdS tInt w w.heap.size z0 x0) (s_0 : x0.length ≤ 68719476736) :
  Calls Tryz.prog 136 #[z0] w fun e w' => ∃ v : Value, e = .returned (v) ∧ Mem w.heap.size w [iOwn (tSl tInt 3) [v] x0] w' := by
 have h := impl_copyInts_c w z0 x0 r_0 s_0
 rw [impl_copyInts_eq] at h
 exact h

def impl_rowOf_m (x0 : DVersion) : DRow :=
 (⟨x0.Id, x0.Values⟩ : DRow)
theorem cb177 : Cb Tryz.prog 177 := ⟨f177, _, func177, rfl, by decide⟩
theorem impl_rowOf_c (w : World) (z0 : List Value) (x0 : DVersion) (r_0 : tyVersion.rd w w.heap.size z0 x0) (s_0 : smVersion 68719476736 x0) :
  Calls Tryz.prog 177 #[.agg z0.toArray] w fun e w' => ∃ v : List Value, e = .returned (.agg v.toArray) ∧ Mem w.heap.size w [iOwn tyRow v (impl_rowOf_m x0)] w' := by
 obtain ⟨v1, rfl, r2⟩ := tyVersion_rd r_0
 have r7 := r2
 obtain ⟨m3, A4, c5, rfl, q6⟩ := r2
 have l8 : x0.Values.length ≤ 68719476736 := s_0
 refine ce1 (L := [(0, .agg #[.int .i64 x0.Id, .slice A4 x0.Values.length c5, .int .i64 x0.Born, .int .i64 x0.Died])]) (N := 9) func177 ?_
 refine sr ?_
 refine WM_box rfl (Wd_none rfl) (by decide) (fun p9 => ?_)
 refine WM_alloc type73 rfl (Wd_none rfl) (by decide) (fun p10 => ?_)
 refine nt' (CM_seq ?_)
 let K1 : List Value := [.int .i64 x0.Id, .slice A4 x0.Values.length c5, .int .i64 x0.Born, .int .i64 x0.Died]
 refine rb 7 (s := [iBox p9 191 K1]) (pk [1]) ?_
 refine qt 7 0 1 rfl (vf underlying191 rfl type3) ?_
 refine qt 7 1 3 rfl (vl 0 0 underlying3) ?_
 refine qt 7 2 7 rfl (vf underlying191 rfl type25) ?_
 refine qt 7 3 15 rfl (vl 0 1 underlying25) ?_
 refine qo 7 4 31 rfl ?_
 refine wcl (tSl tInt 3) x0.Values (cl_fn cb136 rfl) (fun W hm => impl_copyInts_c2 W _ x0.Values (hm.rdS0 r7) s_0) (fun z11 => ?_)
 refine WM_form (n := 0) rfl ?_
 rintro A12 c13 rfl m14
 refine qn (pk [2]) ?_
 refine qt 7 5 63 rfl (fun W hm => rv_build (cs := [.int .i64 x0.Id, .slice A12 x0.Values.length c13]) rfl (by kernel_rfl)) ?_
 refine qo 7 6 127 rfl ?_
 let I2 : It := iOwn (tSl tInt 3) [.slice A12 x0.Values.length c13] x0.Values
 refine sb 0 [.int .i64 x0.Id, .slice A12 x0.Values.length c13] [I2, iBox p9 191 K1] (pk [1, 0, 2]) type73 ?_
 refine qn (pk [2]) ?_
 refine QB_done (by kernel_rfl) ?_
 refine QM_then (CM_ret ?_)
 refine QM_r1 rfl (RR_cell (n := 0) rfl rfl underlying73 type73 rfl) (fun W hm => ⟨[.int .i64 x0.Id, .slice A12 x0.Values.length c13], ?_, ?_⟩)
 ·first | rw [(show impl_rowOf_m x0 = (⟨x0.Id, x0.Values⟩ : DRow) from by unfold impl_rowOf_m; exact rfl)] | rfl
 ·rw [(show impl_rowOf_m x0 = (⟨x0.Id, x0.Values⟩ : DRow) from by unfold impl_rowOf_m; exact rfl)]; exact Mem.join (is := [I2]) (js := []) (fun _ _ hs => tyRow_join (x := (⟨x0.Id, x0.Values⟩ : DRow)) hs) (hm.pick [1] (by decide))

end Go.Proofs.YtmikmbmdibabmaaGreat
