/-
  Contracts of functions, printed by a program of ours.
-/
import Derived.Test.YtmikmbmdibabmaaGreatL7F3
namespace Go.Proofs.YtmikmbmdibabmaaGreat
open Go.RowKit
set_option maxRecDepth 100000
set_option maxHeartbeats 4000000
open _root_.Go.Proofs.Tryz
def impl_activeOk_b1 (x0 : DStore) (x1 : DActive) (k38 : Nat) : Bool ⊕ (Unit) :=
 cond (impl_within_m (gt x1.Todo k38) 0 (IntKind.i64.wrap (((x0.Segments.length : Nat) : Int) - 1))) (cond (decide (0 < ((k38 : Nat) : Int))) (cond (decide ((gt x1.Todo k38) ≤ (gt x1.Todo (k38 - 1)))) (Sum.inl false) (Sum.inr ())) (Sum.inr ())) (Sum.inl false)
def impl_activeOk_m (x0 : DStore) (x1 : DActive) : Bool :=
 Sum.elim id (fun (s : Unit) => cond (decide (0 < ((x1.Todo.length : Nat) : Int))) (cond (impl_IsQuery_m x1.Query) (cond (impl_within_m x1.Time 0 x0.Now) (cond (impl_within_m x1.Age 0 100000) (cond (impl_within_m x1.Sent 0 1000) (cond (impl_within_m x1.Cap 0 32) (impl_resultOk_m x1.Rows) false) false) false) false) false) false) (rng (R := Bool) (fun k (_ : Unit) => impl_activeOk_b1 x0 x1 k) (x1.Todo.length - 0) 0 ())
theorem cb120 : Cb Tryz.prog 120 := ⟨f120, _, func120, rfl, by decide⟩
theorem impl_activeOk_c (w : World) (z0 : List Value) (x0 : DStore) (z1 : List Value) (x1 : DActive) (r_0 : tyStore.rd w w.heap.size z0 x0) (r_1 : tyActive.rd w w.heap.size z1 x1) :
  Calls Tryz.prog 120 #[.agg z0.toArray, .agg z1.toArray] w fun e w' => e = .returned (.bool (impl_activeOk_m x0 x1)) ∧ Below w.heap.size w w' := by
 obtain ⟨v1, rfl, r2⟩ := tyStore_rd r_0
 obtain ⟨m3, A4, c5, rfl, q6, r7⟩ := rdS_op r2
 obtain ⟨v8, v10, v12, v14, rfl, r9, r11, r13, r15⟩ := tyActive_rd r_1
 obtain ⟨m16, A17, c18, rfl, q19, r20⟩ := rdS_op r9
 obtain ⟨m21, A22, c23, rfl, q24, r25⟩ := rdS_op r11
 obtain ⟨m26, A27, c28, rfl, q29, r30⟩ := rdS_op r13
 obtain ⟨m31, A32, c33, rfl, q34, r35⟩ := rdS_op r15
 refine ce2 (L := [(0, .agg #[.slice A4 x0.Segments.length c5, .int .i64 x0.Now]), (1, .agg #[.int .i64 x1.Query.Id, .int .i64 x1.Query.Tenant, .slice A17 x1.Query.Conds.length c18, .slice A22 x1.Query.Out.length c23, .int .i64 x1.Time, .slice A27 x1.Todo.length c28, .int .i64 x1.Age, .int .i64 x1.Sent, .int .i64 x1.Cap, .slice A32 x1.Rows.length c33])]) (N := 73) func120 ?_
 refine sr ?_
 refine WM_box rfl (Wd_none rfl) (by decide) (fun p36 => ?_)
 refine WM_box rfl (Wd_none rfl) (by decide) (fun p37 => ?_)
 refine wa (nt' (CM_seq (sr ?_)))
 refine wv (vf underlying64 rfl type25) ?_
 refine wv (vl 0 5 underlying25) ?_
 refine wv (vlen underlying25) ?_
 refine wm (nt' (CM_block ?_))
 let F1 := fun k (_ : Unit) => impl_activeOk_b1 x0 x1 k
 let R2 := rng (R := Bool) F1
 let K3 : List Value := [.int .i64 x1.Query.Id, .int .i64 x1.Query.Tenant, .slice A17 x1.Query.Conds.length c18, .slice A22 x1.Query.Out.length c23, .int .i64 x1.Time, .slice A27 x1.Todo.length c28, .int .i64 x1.Age, .int .i64 x1.Sent, .int .i64 x1.Cap, .slice A32 x1.Rows.length c33]
 let I4 : It := iBox p36 42 [.slice A4 x0.Segments.length c5, .int .i64 x0.Now]
 refine CM_loop (σ := Nat × (Unit) × (Unit)) (fun s => [(2, .pointer (some (⟨p36, 0, none⟩ : Addr))), (3, .pointer (some (⟨p37, 0, none⟩ : Addr))), (8, .slice A27 x1.Todo.length c28), (9, .int .i64 ((x1.Todo.length : Nat) : Int)), (10, .int .i64 ((s.1 : Nat) : Int))]) (fun s => [iBox p37 64 K3, I4]) (fun s => s.1 ≤ x1.Todo.length ∧ R2 (x1.Todo.length - s.1) s.1 s.2.1 = R2 (x1.Todo.length - 0) 0 ()) (fun s => x1.Todo.length - s.1) (0, (), ()) sl5 (fun W hm => hm) ⟨(by omega), rfl⟩ ?_
 rintro ⟨k38, ⟨⟩, ⟨⟩⟩ H41
 obtain ⟨hk39, hF40⟩ : k38 ≤ x1.Todo.length ∧ R2 (x1.Todo.length - k38) k38 () = R2 (x1.Todo.length - 0) 0 () := H41
 show CM Tryz.prog 73 _ _ _ _ [(2, .pointer (some (⟨p36, 0, none⟩ : Addr))), (3, .pointer (some (⟨p37, 0, none⟩ : Addr))), (8, .slice A27 x1.Todo.length c28), (9, .int .i64 ((x1.Todo.length : Nat) : Int)), (10, .int .i64 ((k38 : Nat) : Int))] [iBox p37 64 K3, I4]
 refine sr ?_
 refine wv vlss ?_
 refine nt' (CM_seq ?_)
 by_cases hl42 : k38 < x1.Todo.length
 ·have g43 := dlT hl42
  refine CM_condT rfl g43 ?_
  refine CM_skip (QM_then (CM_seq (CM_block (sr (wm ?_)))))
  obtain ⟨a44, rfl, hb45, he46⟩ := q29 (by omega)
  refine wv (vix 1 k38 underlying25 type3) ?_
  refine wv (fun W hm => rv_load underlying3 rfl rfl ((hm.cell0 (show (a44.add (k38 * 1)).block < w.heap.size from by rw [add_block]; exact hb45.1)).trans (rdS_int he46 k38 (by omega)))) ?_
  refine wa (wa (nt' (sr (wm ?_))))
  refine wv (vf underlying42 rfl type40) ?_
  refine wv (vl 1 0 underlying40) ?_
  refine wv (vlen underlying40) ?_
  refine wv (fun W hm => rv_sub rfl rfl) ?_
  refine wcv (cl_fn cb118 rfl) (fun W hm => impl_within_c W (gt x1.Todo k38) 0 (IntKind.i64.wrap (((x0.Segments.length : Nat) : Int) - 1))) ?_
  refine wv vnot ?_
  refine wm ?_
  rcases Bool.eq_false_or_eq_true (impl_within_m (gt x1.Todo k38) 0 (IntKind.i64.wrap (((x0.Segments.length : Nat) : Int) - 1))) with g48 | g48
  ·
   have hw := impl_within_fact g48
   rw [wrap_pred (by omega)] at hw
   refine wg vmv (nt g48) ?_
   refine wg (fun W hm => rv_gtr rfl rfl) (nt g48) ?_
   refine wg vmv (nt g48) ?_
   by_cases h49 : 0 < ((k38 : Nat) : Int)
   ·have g50 := decide_eq_true h49
    refine wg (vf underlying64 rfl type25) g50 ?_
    refine wg (vl 0 5 underlying25) g50 ?_
    refine wg vmv g50 ?_
    refine wg (fun W hm => rv_subN (p := k38) (q := 1) rfl rfl (by omega) (by omega)) g50 ?_
    refine wg (fun W hm => rv_index (sz := 1) (k := k38 - 1) underlying25 type3 rfl rfl rfl (by omega)) g50 ?_
    refine wg (fun W hm => rv_load underlying3 rfl rfl ((hm.cell0 (show (a44.add ((k38 - 1) * 1)).block < w.heap.size from by rw [add_block]; exact hb45.1)).trans (rdS_int he46 (k38 - 1) (by omega)))) g50 ?_
    refine wg vmv g50 ?_
    refine wg (fun W hm => rv_geq rfl rfl) g50 ?_
    refine wg (vpT g50) (nt g48) ?_
    refine wv (vpF (nt g48)) ?_
    refine nt' ?_
    by_cases h51 : (gt x1.Todo k38) ≤ (gt x1.Todo (k38 - 1))
    ·have g52 := decide_eq_true h51
     refine CM_condT rfl g52 ?_
     refine sr (wa (nt' (CM_ret (QM_block_ret (QM_then_ret (QM_then_ret (QM_block_ret (QM_then_ret ?_))))))))
     exact rtb (h := fin_inl (rng_ret (body := F1) (k := k38) (s := ()) (show k38 < x1.Todo.length from by omega) (cond_t g48 (cond_t g50 (cond_t g52 (rfl)))) hF40) rfl)
    ·have g52 := decide_eq_false h51
     refine CM_condF rfl g52 ?_
     refine CM_skip (QM_block_normal (QM_then (CM_region ?_)))
     refine wv (vadN k38 1 (by omega)) ?_
     refine wm (WM_nil ?_)
     have hn53 := rng_next (R := Bool) (body := F1) (k := k38) (s := ()) (s' := ()) (show k38 < x1.Todo.length from by omega) (cond_t g48 (cond_t g50 (cond_f g52 (rfl)))) hF40
     exact QM_round (k38 + 1, (), ()) sl5 (fun W hm => hm) ⟨(by omega), hn53⟩ (rl (by omega))
   ·have g50 := decide_eq_false h49
    refine ws g50 ?_
    refine ws g50 ?_
    refine ws g50 ?_
    refine ws g50 ?_
    refine ws g50 ?_
    refine ws g50 ?_
    refine ws g50 ?_
    refine ws g50 ?_
    refine wg (vpF g50) (nt g48) ?_
    refine wv (vpF (nt g48)) ?_
    refine nt' ?_
    refine CM_condF rfl rfl ?_
    refine CM_skip (QM_block_normal (QM_then (CM_region ?_)))
    refine wv (vadN k38 1 (by omega)) ?_
    refine wm (WM_nil ?_)
    have hn54 := rng_next (R := Bool) (body := F1) (k := k38) (s := ()) (s' := ()) (show k38 < x1.Todo.length from by omega) (cond_t g48 (cond_f g50 (rfl))) hF40
    exact QM_round (k38 + 1, (), ()) sl5 (fun W hm => hm) ⟨(by omega), hn54⟩ (rl (by omega))
  ·
   refine ws (nf g48) ?_
   refine ws (nf g48) ?_
   refine ws (nf g48) ?_
   refine wu ?_
   refine wu ?_
   refine wu ?_
   refine wu ?_
   refine wu ?_
   refine wu ?_
   refine wu ?_
   refine wu ?_
   refine ws (nf g48) ?_
   refine wv (vpT (nf g48)) ?_
   refine nt' ?_
   refine CM_condT rfl rfl ?_
   refine sr (wa (nt' (CM_ret (QM_block_ret (QM_then_ret (QM_then_ret (QM_block_ret (QM_then_ret ?_))))))))
   exact rtb (h := fin_inl (rng_ret (body := F1) (k := k38) (s := ()) (show k38 < x1.Todo.length from by omega) (cond_f g48 (rfl)) hF40) rfl)
 ·have g43 := dlF hl42
  refine CM_condF rfl g43 ?_
  refine CM_exit (QM_then_exit (QM_then_exit ?_))
  have hE55 : R2 (x1.Todo.length - 0) 0 () = Sum.inr () := rng_end hl42 hF40
  refine QM_block_hit (QM_then (sr ?_))
  refine wv (vf underlying64 rfl type25) ?_
  refine wv (vl 0 5 underlying25) ?_
  refine wv (vlen underlying25) ?_
  refine wv (fun W hm => rv_gtr rfl rfl) ?_
  refine wm ?_
  by_cases h56 : 0 < ((x1.Todo.length : Nat) : Int)
  ·have g57 := decide_eq_true h56
   refine wg (vf underlying64 rfl type34) g57 ?_
   refine wg (fun W hm => rv_loadN (cs := [.int .i64 x1.Query.Id, .int .i64 x1.Query.Tenant, .slice A17 x1.Query.Conds.length c18, .slice A22 x1.Query.Out.length c23]) underlying34 type34 rfl rfl (hm.boxPart (n := 0) rfl rfl)) g57 ?_
   refine WM_callV (cl_fn cb121 rfl) (fun W hm => impl_IsQuery_c W _ x1.Query (tyQuery_mk (x := x1.Query) (hm.rdS0 r20) (hm.rdS0 r25))) (Wd_some rfl rfl rfl (bw g57 rfl)) (by decide) ?_
   refine wv (vpT g57) ?_
   refine wm ?_
   rcases Bool.eq_false_or_eq_true (impl_IsQuery_m x1.Query) with g59 | g59
   ·
    refine wg (vf underlying64 rfl type3) g59 ?_
    refine wg (vl 0 4 underlying3) g59 ?_
    refine wg (vf underlying42 rfl type3) g59 ?_
    refine wg (vl 1 1 underlying3) g59 ?_
    refine WM_callV (cl_fn cb118 rfl) (fun W hm => impl_within_c W x1.Time 0 x0.Now) (Wd_some rfl rfl rfl (bw g59 rfl)) (by decide) ?_
    refine wv (vpT g59) ?_
    refine wm ?_
    rcases Bool.eq_false_or_eq_true (impl_within_m x1.Time 0 x0.Now) with g61 | g61
    ·
     have hw := impl_within_fact g61
     refine wg (vf underlying64 rfl type3) g61 ?_
     refine wg (vl 0 6 underlying3) g61 ?_
     refine WM_callV (cl_fn cb118 rfl) (fun W hm => impl_within_c W x1.Age 0 100000) (Wd_some rfl rfl rfl (bw g61 rfl)) (by decide) ?_
     refine wv (vpT g61) ?_
     refine wm ?_
     rcases Bool.eq_false_or_eq_true (impl_within_m x1.Age 0 100000) with g63 | g63
     ·
      have hw := impl_within_fact g63
      refine wg (vf underlying64 rfl type3) g63 ?_
      refine wg (vl 0 7 underlying3) g63 ?_
      refine WM_callV (cl_fn cb118 rfl) (fun W hm => impl_within_c W x1.Sent 0 1000) (Wd_some rfl rfl rfl (bw g63 rfl)) (by decide) ?_
      refine wv (vpT g63) ?_
      refine wm ?_
      rcases Bool.eq_false_or_eq_true (impl_within_m x1.Sent 0 1000) with g65 | g65
      ·
       have hw := impl_within_fact g65
       refine wg (vf underlying64 rfl type3) g65 ?_
       refine wg (vl 0 8 underlying3) g65 ?_
       refine WM_callV (cl_fn cb118 rfl) (fun W hm => impl_within_c W x1.Cap 0 32) (Wd_some rfl rfl rfl (bw g65 rfl)) (by decide) ?_
       refine wv (vpT g65) ?_
       refine wm ?_
       rcases Bool.eq_false_or_eq_true (impl_within_m x1.Cap 0 32) with g67 | g67
       ·
        have hw := impl_within_fact g67
        refine wg (vf underlying64 rfl type35) g67 ?_
        refine wg (vl 0 9 underlying35) g67 ?_
        refine WM_callV (cl_fn cb122 rfl) (fun W hm => impl_resultOk_c W _ x1.Rows (hm.rdS0 r35)) (Wd_some rfl rfl rfl (bw g67 rfl)) (by decide) ?_
        refine wv (vpT g67) ?_
        refine wa (nt' (CM_ret ?_))
        exact rtb (h := fin_inr hE55 (cond_t g57 (cond_t g59 (cond_t g61 (cond_t g63 (cond_t g65 (cond_t g67 (rfl))))))))
       ·
        refine ws g67 ?_
        refine ws g67 ?_
        refine ws g67 ?_
        refine wv (vpF g67) ?_
        refine wa (nt' (CM_ret ?_))
        exact rtb (h := fin_inr hE55 (cond_t g57 (cond_t g59 (cond_t g61 (cond_t g63 (cond_t g65 (cond_f g67 (rfl))))))))
      ·
       refine ws g65 ?_
       refine ws g65 ?_
       refine ws g65 ?_
       refine wv (vpF g65) ?_
       refine wm ?_
       refine wk ?_
       refine wk ?_
       refine wk ?_
       refine wv (vpF rfl) ?_
       refine wa (nt' (CM_ret ?_))
       exact rtb (h := fin_inr hE55 (cond_t g57 (cond_t g59 (cond_t g61 (cond_t g63 (cond_f g65 (rfl)))))))
     ·
      refine ws g63 ?_
      refine ws g63 ?_
      refine ws g63 ?_
      refine wv (vpF g63) ?_
      refine wm ?_
      refine wk ?_
      refine wk ?_
      refine wk ?_
      refine wv (vpF rfl) ?_
      refine wm ?_
      refine wk ?_
      refine wk ?_
      refine wk ?_
      refine wv (vpF rfl) ?_
      refine wa (nt' (CM_ret ?_))
      exact rtb (h := fin_inr hE55 (cond_t g57 (cond_t g59 (cond_t g61 (cond_f g63 (rfl))))))
    ·
     refine ws g61 ?_
     refine ws g61 ?_
     refine ws g61 ?_
     refine wv (vpF g61) ?_
     refine wm ?_
     refine wk ?_
     refine wk ?_
     refine wk ?_
     refine wv (vpF rfl) ?_
     refine wm ?_
     refine wk ?_
     refine wk ?_
     refine wk ?_
     refine wv (vpF rfl) ?_
     refine wm ?_
     refine wk ?_
     refine wk ?_
     refine wk ?_
     refine wv (vpF rfl) ?_
     refine wa (nt' (CM_ret ?_))
     exact rtb (h := fin_inr hE55 (cond_t g57 (cond_t g59 (cond_f g61 (rfl)))))
   ·
    refine ws g59 ?_
    refine ws g59 ?_
    refine ws g59 ?_
    refine ws g59 ?_
    refine ws g59 ?_
    refine wv (vpF g59) ?_
    refine wm ?_
    refine wk ?_
    refine wk ?_
    refine wk ?_
    refine wv (vpF rfl) ?_
    refine wm ?_
    refine wk ?_
    refine wk ?_
    refine wk ?_
    refine wv (vpF rfl) ?_
    refine wm ?_
    refine wk ?_
    refine wk ?_
    refine wk ?_
    refine wv (vpF rfl) ?_
    refine wm ?_
    refine wk ?_
    refine wk ?_
    refine wk ?_
    refine wv (vpF rfl) ?_
    refine wa (nt' (CM_ret ?_))
    exact rtb (h := fin_inr hE55 (cond_t g57 (cond_f g59 (rfl))))
  ·have g57 := decide_eq_false h56
   refine ws g57 ?_
   refine ws g57 ?_
   refine ws g57 ?_
   refine wv (vpF g57) ?_
   refine wm ?_
   refine wk ?_
   refine wk ?_
   refine wk ?_
   refine wk ?_
   refine wk ?_
   refine wv (vpF rfl) ?_
   refine wm ?_
   refine wk ?_
   refine wk ?_
   refine wk ?_
   refine wv (vpF rfl) ?_
   refine wm ?_
   refine wk ?_
   refine wk ?_
   refine wk ?_
   refine wv (vpF rfl) ?_
   refine wm ?_
   refine wk ?_
   refine wk ?_
   refine wk ?_
   refine wv (vpF rfl) ?_
   refine wm ?_
   refine wk ?_
   refine wk ?_
   refine wk ?_
   refine wv (vpF rfl) ?_
   refine wa (nt' (CM_ret ?_))
   exact rtb (h := fin_inr hE55 (cond_f g57 (rfl)))

def impl_IsSet_b1 (x0 : (List Int)) (k6 : Nat) : Bool ⊕ (Unit) :=
 cond (decide ((gt x0 k6) < 0)) (Sum.inl false) (cond (decide (24 ≤ (gt x0 k6))) (Sum.inl false) (cond (decide (0 < ((k6 : Nat) : Int))) (cond (decide ((gt x0 k6) ≤ (gt x0 (k6 - 1)))) (Sum.inl false) (Sum.inr ())) (Sum.inr ())))
def impl_IsSet_m (x0 : (List Int)) : Bool :=
 Sum.elim id (fun (s : Unit) => true) (rng (R := Bool) (fun k (_ : Unit) => impl_IsSet_b1 x0 k) (x0.length - 0) 0 ())
theorem cb188 : Cb Tryz.prog 188 := ⟨f188, _, func188, rfl, by decide⟩
theorem impl_IsSet_c (w : World) (z0 : Value) (x0 : (List Int)) (r_0 : rdS tInt w w.heap.size z0 x0) :
  Calls Tryz.prog 188 #[z0] w fun e w' => e = .returned (.bool (impl_IsSet_m x0)) ∧ Below w.heap.size w w' := by
 obtain ⟨m1, A2, c3, rfl, q4, r5⟩ := rdS_op r_0
 refine ce1 (L := [(0, .slice A2 x0.length c3)]) (N := 32) func188 ?_
 refine sr (wa (nt' (CM_seq (sr (wm ?_)))))
 refine wv (vlen underlying25) ?_
 refine wm (nt' (CM_block ?_))
 let F1 := fun k (_ : Unit) => impl_IsSet_b1 x0 k
 let R2 := rng (R := Bool) F1
 refine CM_loop (σ := Nat × (Unit) × (Unit)) (fun s => [(0, .slice A2 x0.length c3), (5, .slice A2 x0.length c3), (6, .int .i64 ((x0.length : Nat) : Int)), (7, .int .i64 ((s.1 : Nat) : Int))]) (fun s => []) (fun s => s.1 ≤ x0.length ∧ R2 (x0.length - s.1) s.1 s.2.1 = R2 (x0.length - 0) 0 ()) (fun s => x0.length - s.1) (0, (), ()) sl4 (fun W hm => hm) ⟨(by omega), rfl⟩ ?_
 rintro ⟨k6, ⟨⟩, ⟨⟩⟩ H9
 obtain ⟨hk7, hF8⟩ : k6 ≤ x0.length ∧ R2 (x0.length - k6) k6 () = R2 (x0.length - 0) 0 () := H9
 show CM Tryz.prog 32 _ _ _ _ [(0, .slice A2 x0.length c3), (5, .slice A2 x0.length c3), (6, .int .i64 ((x0.length : Nat) : Int)), (7, .int .i64 ((k6 : Nat) : Int))] []
 refine sr ?_
 refine wv vlss ?_
 refine nt' (CM_seq ?_)
 by_cases hl10 : k6 < x0.length
 ·have g11 := dlT hl10
  refine CM_condT rfl g11 ?_
  refine CM_skip (QM_then (CM_seq (CM_block (sr (wm ?_)))))
  obtain ⟨a12, rfl, hb13, he14⟩ := q4 (by omega)
  refine wv (vix 1 k6 underlying25 type3) ?_
  refine wv (fun W hm => rv_load underlying3 rfl rfl ((hm.cell0 (show (a12.add (k6 * 1)).block < w.heap.size from by rw [add_block]; exact hb13.1)).trans (rdS_int he14 k6 (by omega)))) ?_
  refine wa (wa (nt' (sr (wm ?_))))
  refine wv vlss ?_
  refine wm ?_
  by_cases h15 : (gt x0 k6) < 0
  ·have g16 := decide_eq_true h15
   refine ws g16 ?_
   refine ws g16 ?_
   refine wv (vpT g16) ?_
   refine wm ?_
   refine wk ?_
   refine wk ?_
   refine wk ?_
   refine wu ?_
   refine wu ?_
   refine wu ?_
   refine wu ?_
   refine wu ?_
   refine wu ?_
   refine wu ?_
   refine wk ?_
   refine wv (vpT rfl) ?_
   refine nt' ?_
   refine CM_condT rfl rfl ?_
   refine sr (wa (nt' (CM_ret (QM_block_ret (QM_then_ret (QM_then_ret (QM_block_ret (QM_then_ret ?_))))))))
   exact rtb (h := fin_inl (rng_ret (body := F1) (k := k6) (s := ()) (show k6 < x0.length from by omega) (cond_t g16 (rfl)) hF8) rfl)
  ·have g16 := decide_eq_false h15
   refine wg vmv g16 ?_
   refine wg (fun W hm => rv_geq rfl rfl) g16 ?_
   refine wv (vpF g16) ?_
   refine wm ?_
   by_cases h17 : 24 ≤ (gt x0 k6)
   ·have g18 := decide_eq_true h17
    refine ws g18 ?_
    refine ws g18 ?_
    refine ws g18 ?_
    refine wu ?_
    refine wu ?_
    refine wu ?_
    refine wu ?_
    refine wu ?_
    refine wu ?_
    refine wu ?_
    refine ws g18 ?_
    refine wv (vpT g18) ?_
    refine nt' ?_
    refine CM_condT rfl rfl ?_
    refine sr (wa (nt' (CM_ret (QM_block_ret (QM_then_ret (QM_then_ret (QM_block_ret (QM_then_ret ?_))))))))
    exact rtb (h := fin_inl (rng_ret (body := F1) (k := k6) (s := ()) (show k6 < x0.length from by omega) (cond_f g16 (cond_t g18 (rfl))) hF8) rfl)
   ·have g18 := decide_eq_false h17
    refine wg vmv g18 ?_
    refine wg (fun W hm => rv_gtr rfl rfl) g18 ?_
    refine wg vmv g18 ?_
    by_cases h19 : 0 < ((k6 : Nat) : Int)
    ·have g20 := decide_eq_true h19
     refine wg vmv g20 ?_
     refine wg vmv g20 ?_
     refine wg (fun W hm => rv_subN (p := k6) (q := 1) rfl rfl (by omega) (by omega)) g20 ?_
     refine wg (fun W hm => rv_index (sz := 1) (k := k6 - 1) underlying25 type3 rfl rfl rfl (by omega)) g20 ?_
     refine wg (fun W hm => rv_load underlying3 rfl rfl ((hm.cell0 (show (a12.add ((k6 - 1) * 1)).block < w.heap.size from by rw [add_block]; exact hb13.1)).trans (rdS_int he14 (k6 - 1) (by omega)))) g20 ?_
     refine wg vmv g20 ?_
     refine wg (fun W hm => rv_geq rfl rfl) g20 ?_
     refine wg (vpT g20) g18 ?_
     refine wv (vpF g18) ?_
     refine nt' ?_
     by_cases h21 : (gt x0 k6) ≤ (gt x0 (k6 - 1))
     ·have g22 := decide_eq_true h21
      refine CM_condT rfl g22 ?_
      refine sr (wa (nt' (CM_ret (QM_block_ret (QM_then_ret (QM_then_ret (QM_block_ret (QM_then_ret ?_))))))))
      exact rtb (h := fin_inl (rng_ret (body := F1) (k := k6) (s := ()) (show k6 < x0.length from by omega) (cond_f g16 (cond_f g18 (cond_t g20 (cond_t g22 (rfl))))) hF8) rfl)
     ·have g22 := decide_eq_false h21
      refine CM_condF rfl g22 ?_
      refine CM_skip (QM_block_normal (QM_then (CM_region ?_)))
      refine wv (vadN k6 1 (by omega)) ?_
      refine wm (WM_nil ?_)
      have hn23 := rng_next (R := Bool) (body := F1) (k := k6) (s := ()) (s' := ()) (show k6 < x0.length from by omega) (cond_f g16 (cond_f g18 (cond_t g20 (cond_f g22 (rfl))))) hF8
      exact QM_round (k6 + 1, (), ()) sl4 (fun W hm => hm) ⟨(by omega), hn23⟩ (rl (by omega))
    ·have g20 := decide_eq_false h19
     refine ws g20 ?_
     refine ws g20 ?_
     refine ws g20 ?_
     refine ws g20 ?_
     refine ws g20 ?_
     refine ws g20 ?_
     refine ws g20 ?_
     refine wg (vpF g20) g18 ?_
     refine wv (vpF g18) ?_
     refine nt' ?_
     refine CM_condF rfl rfl ?_
     refine CM_skip (QM_block_normal (QM_then (CM_region ?_)))
     refine wv (vadN k6 1 (by omega)) ?_
     refine wm (WM_nil ?_)
     have hn24 := rng_next (R := Bool) (body := F1) (k := k6) (s := ()) (s' := ()) (show k6 < x0.length from by omega) (cond_f g16 (cond_f g18 (cond_f g20 (rfl)))) hF8
     exact QM_round (k6 + 1, (), ()) sl4 (fun W hm => hm) ⟨(by omega), hn24⟩ (rl (by omega))
 ·have g11 := dlF hl10
  refine CM_condF rfl g11 ?_
  refine CM_exit (QM_then_exit (QM_then_exit ?_))
  have hE25 : R2 (x0.length - 0) 0 () = Sum.inr () := rng_end hl10 hF8
  refine QM_block_hit (QM_then (sr (wa (nt' (CM_ret ?_)))))
  exact rtb (h := fin_inr hE25 (rfl))

def impl_IsCharge_b1 (x0 : DCharge) (k31 : Nat) : Bool ⊕ (Unit) :=
 cond (impl_within_m (gt x0.Tenants k31) 0 3) (cond (impl_within_m (gt x0.Rows k31) 0 x0.Base) (Sum.inr ()) (Sum.inl false)) (Sum.inl false)
def impl_IsCharge_m (x0 : DCharge) : Bool :=
 cond (impl_IsSet_m x0.Ids) (cond (impl_within_m ((x0.Ids.length : Nat) : Int) 1 8) (cond (((x0.Tenants.length : Nat) : Int) != ((x0.Ids.length : Nat) : Int)) false (cond (((x0.Rows.length : Nat) : Int) != ((x0.Ids.length : Nat) : Int)) false (Sum.elim id (fun (s : Unit) => cond (impl_within_m x0.Segment 0 7) (impl_within_m x0.Base 0 4) false) (rng (R := Bool) (fun k (_ : Unit) => impl_IsCharge_b1 x0 k) (x0.Ids.length - 0) 0 ())))) false) false
theorem cb123 : Cb Tryz.prog 123 := ⟨f123, _, func123, rfl, by decide⟩
theorem impl_IsCharge_c (w : World) (z0 : List Value) (x0 : DCharge) (r_0 : tyCharge.rd w w.heap.size z0 x0) :
  Calls Tryz.prog 123 #[.agg z0.toArray] w fun e w' => e = .returned (.bool (impl_IsCharge_m x0)) ∧ Below w.heap.size w w' := by
 obtain ⟨v1, v3, v5, rfl, r2, r4, r6⟩ := tyCharge_rd r_0
 obtain ⟨m7, A8, c9, rfl, q10, r11⟩ := rdS_op r2
 obtain ⟨m12, A13, c14, rfl, q15, r16⟩ := rdS_op r4
 obtain ⟨m17, A18, c19, rfl, q20, r21⟩ := rdS_op r6
 refine ce1 (L := [(0, .agg #[.int .i64 x0.Segment, .int .i64 x0.Base, .slice A8 x0.Ids.length c9, .slice A13 x0.Tenants.length c14, .slice A18 x0.Rows.length c19])]) (N := 64) func123 ?_
 refine sr ?_
 refine WM_box rfl (Wd_none rfl) (by decide) (fun p22 => ?_)
 refine wa (nt' (sr ?_))
 refine wv (vf underlying133 rfl type25) ?_
 refine wv (vl 0 2 underlying25) ?_
 refine wv (vlen underlying25) ?_
 refine wa (nt' (CM_seq (sr ?_)))
 refine wv (vf underlying133 rfl type25) ?_
 refine wv (vl 0 2 underlying25) ?_
 refine wcv (cl_fn cb188 rfl) (fun W hm => impl_IsSet_c W _ x0.Ids (hm.rdS0 r11)) ?_
 refine wv vnot ?_
 refine wm ?_
 rcases Bool.eq_false_or_eq_true (impl_IsSet_m x0.Ids) with g24 | g24
 ·
  refine wg vmv (nt g24) ?_
  refine WM_callV (cl_fn cb118 rfl) (fun W hm => impl_within_c W ((x0.Ids.length : Nat) : Int) 1 8) (Wd_some rfl rfl rfl (bw (nt g24) rfl)) (by decide) ?_
  refine wg vnot (nt g24) ?_
  refine wv (vpF (nt g24)) ?_
  refine wm ?_
  rcases Bool.eq_false_or_eq_true (impl_within_m ((x0.Ids.length : Nat) : Int) 1 8) with g26 | g26
  ·
   have hw := impl_within_fact g26
   refine wg (vf underlying133 rfl type25) (nt g26) ?_
   refine wg (vl 0 3 underlying25) (nt g26) ?_
   refine wg (vlen underlying25) (nt g26) ?_
   refine wg vmv (nt g26) ?_
   refine wg vneq (nt g26) ?_
   refine wv (vpF (nt g26)) ?_
   refine wm ?_
   by_cases h27 : ((x0.Tenants.length : Nat) : Int) = ((x0.Ids.length : Nat) : Int)
   ·have g28 : (((x0.Tenants.length : Nat) : Int) != ((x0.Ids.length : Nat) : Int)) = false := by rw [h27]; exact bne_self_eq_false _
    refine wg (vf underlying133 rfl type25) g28 ?_
    refine wg (vl 0 4 underlying25) g28 ?_
    refine wg (vlen underlying25) g28 ?_
    refine wg vmv g28 ?_
    refine wg vneq g28 ?_
    refine wv (vpF g28) ?_
    refine nt' ?_
    by_cases h29 : ((x0.Rows.length : Nat) : Int) = ((x0.Ids.length : Nat) : Int)
    ·have g30 : (((x0.Rows.length : Nat) : Int) != ((x0.Ids.length : Nat) : Int)) = false := by rw [h29]; exact bne_self_eq_false _
     refine CM_condF rfl g30 ?_
     refine CM_skip (QM_then (CM_seq (sr ?_)))
     refine wv (vf underlying133 rfl type25) ?_
     refine wv (vl 0 2 underlying25) ?_
     refine wv (vlen underlying25) ?_
     refine wm (nt' (CM_block ?_))
     let F1 := fun k (_ : Unit) => impl_IsCharge_b1 x0 k
     let R2 := rng (R := Bool) F1
     let K3 : List Value := [.int .i64 x0.Segment, .int .i64 x0.Base, .slice A8 x0.Ids.length c9, .slice A13 x0.Tenants.length c14, .slice A18 x0.Rows.length c19]
     refine CM_loop (σ := Nat × (Unit) × (Unit)) (fun s => [(1, .pointer (some (⟨p22, 0, none⟩ : Addr))), (33, .int .i64 ((x0.Ids.length : Nat) : Int)), (34, .int .i64 ((s.1 : Nat) : Int))]) (fun s => [iBox p22 133 K3]) (fun s => s.1 ≤ x0.Ids.length ∧ R2 (x0.Ids.length - s.1) s.1 s.2.1 = R2 (x0.Ids.length - 0) 0 ()) (fun s => x0.Ids.length - s.1) (0, (), ()) sl3 (fun W hm => hm) ⟨(by omega), rfl⟩ ?_
     rintro ⟨k31, ⟨⟩, ⟨⟩⟩ H34
     obtain ⟨hk32, hF33⟩ : k31 ≤ x0.Ids.length ∧ R2 (x0.Ids.length - k31) k31 () = R2 (x0.Ids.length - 0) 0 () := H34
     show CM Tryz.prog 64 _ _ _ _ [(1, .pointer (some (⟨p22, 0, none⟩ : Addr))), (33, .int .i64 ((x0.Ids.length : Nat) : Int)), (34, .int .i64 ((k31 : Nat) : Int))] [iBox p22 133 K3]
     refine sr ?_
     refine wv vlss ?_
     refine nt' (CM_seq ?_)
     by_cases hl35 : k31 < x0.Ids.length
     ·have g36 := dlT hl35
      refine CM_condT rfl g36 ?_
      refine CM_skip (QM_then (CM_seq (CM_block (sr (wm (wa (nt' (CM_seq ?_))))))))
      refine CM_regionD (by kernel_rfl) (by kernel_rfl) ?_
      refine qv (vf underlying133 rfl type25) ?_
      refine qv (vl 0 3 underlying25) ?_
      refine qm ?_
      obtain ⟨a37, rfl, hb38, he39⟩ := q15 (by omega)
      refine qv (vix 1 k31 underlying25 type3) ?_
      refine qv (fun W hm => rv_load underlying3 rfl rfl ((hm.cell0 (show (a37.add (k31 * 1)).block < w.heap.size from by rw [add_block]; exact hb38.1)).trans (rdS_int he39 k31 (by omega)))) ?_
      refine QR_callV (cl_fn cb118 rfl) (fun W hm => impl_within_c W (gt x0.Tenants k31) 0 3) (Wd_none rfl) (by decide) ?_
      refine qv vnot ?_
      refine qm ?_
      rcases Bool.eq_false_or_eq_true (impl_within_m (gt x0.Tenants k31) 0 3) with g41 | g41
      ·
       have hw := impl_within_fact g41
       refine qg (vf underlying133 rfl type25) (nt g41) ?_
       refine qg (vl 0 4 underlying25) (nt g41) ?_
       refine qg vmv (nt g41) ?_
       obtain ⟨a42, rfl, hb43, he44⟩ := q20 (by omega)
       refine qg (vix 1 k31 underlying25 type3) (nt g41) ?_
       refine qg (fun W hm => rv_load underlying3 rfl rfl ((hm.cell0 (show (a42.add (k31 * 1)).block < w.heap.size from by rw [add_block]; exact hb43.1)).trans (rdS_int he44 k31 (by omega)))) (nt g41) ?_
       refine qg (vf underlying133 rfl type3) (nt g41) ?_
       refine qg (vl 0 1 underlying3) (nt g41) ?_
       refine QR_callV (cl_fn cb118 rfl) (fun W hm => impl_within_c W (gt x0.Rows k31) 0 x0.Base) (Wd_some rfl rfl rfl (bw (nt g41) rfl)) (by decide) ?_
       refine qg vnot (nt g41) ?_
       refine qv (vpF (nt g41)) ?_
       refine nq' ?_
       rcases Bool.eq_false_or_eq_true (impl_within_m (gt x0.Rows k31) 0 x0.Base) with g46 | g46
       ·
        have hw := impl_within_fact g46
        refine CM_condF rfl (nt g46) ?_
        refine CM_skip (QM_block_normal (QM_then (CM_region ?_)))
        refine wv (vadN k31 1 (by omega)) ?_
        refine wm (WM_nil ?_)
        have hn47 := rng_next (R := Bool) (body := F1) (k := k31) (s := ()) (s' := ()) (show k31 < x0.Ids.length from by omega) (cond_t g41 (cond_t g46 (rfl))) hF33
        exact QM_round (k31 + 1, (), ()) sl3 (fun W hm => hm) ⟨(by omega), hn47⟩ (rl (by omega))
       ·
        refine CM_condT rfl (nf g46) ?_
        refine sr (wa (nt' (CM_ret (QM_block_ret (QM_then_ret (QM_then_ret (QM_block_ret (QM_then_ret ?_))))))))
        exact rtb (h := cond_t g24 (cond_t g26 (cond_f g28 (cond_f g30 (fin_inl (rng_ret (body := F1) (k := k31) (s := ()) (show k31 < x0.Ids.length from by omega) (cond_t g41 (cond_f g46 (rfl))) hF33) rfl)))))
      ·
       refine qs (nf g41) ?_
       refine qs (nf g41) ?_
       refine qs (nf g41) ?_
       refine qs (nf g41) ?_
       refine qs (nf g41) ?_
       refine qs (nf g41) ?_
       refine qs (nf g41) ?_
       refine qs (nf g41) ?_
       refine qs (nf g41) ?_
       refine qv (vpT (nf g41)) ?_
       refine nq' ?_
       refine CM_condT rfl rfl ?_
       refine sr (wa (nt' (CM_ret (QM_block_ret (QM_then_ret (QM_then_ret (QM_block_ret (QM_then_ret ?_))))))))
       exact rtb (h := cond_t g24 (cond_t g26 (cond_f g28 (cond_f g30 (fin_inl (rng_ret (body := F1) (k := k31) (s := ()) (show k31 < x0.Ids.length from by omega) (cond_f g41 (rfl)) hF33) rfl)))))
     ·have g36 := dlF hl35
      refine CM_condF rfl g36 ?_
      refine CM_exit (QM_then_exit (QM_then_exit ?_))
      have hE48 : R2 (x0.Ids.length - 0) 0 () = Sum.inr () := rng_end hl35 hF33
      refine QM_block_hit (QM_then (sr ?_))
      refine wv (vf underlying133 rfl type3) ?_
      refine wv (vl 0 0 underlying3) ?_
      refine wcv (cl_fn cb118 rfl) (fun W hm => impl_within_c W x0.Segment 0 7) ?_
      refine wm ?_
      rcases Bool.eq_false_or_eq_true (impl_within_m x0.Segment 0 7) with g50 | g50
      ·
       have hw := impl_within_fact g50
       refine wg (vf underlying133 rfl type3) g50 ?_
       refine wg (vl 0 1 underlying3) g50 ?_
       refine WM_callV (cl_fn cb118 rfl) (fun W hm => impl_within_c W x0.Base 0 4) (Wd_some rfl rfl rfl (bw g50 rfl)) (by decide) ?_
       refine wv (vpT g50) ?_
       refine wa (nt' (CM_ret ?_))
       exact rtb (h := cond_t g24 (cond_t g26 (cond_f g28 (cond_f g30 (fin_inr hE48 (cond_t g50 (rfl)))))))
      ·
       refine ws g50 ?_
       refine ws g50 ?_
       refine ws g50 ?_
       refine wv (vpF g50) ?_
       refine wa (nt' (CM_ret ?_))
       exact rtb (h := cond_t g24 (cond_t g26 (cond_f g28 (cond_f g30 (fin_inr hE48 (cond_f g50 (rfl)))))))
    ·have g30 : (((x0.Rows.length : Nat) : Int) != ((x0.Ids.length : Nat) : Int)) = true := bne_iff_ne.2 h29
     refine CM_condT rfl g30 ?_
     refine sr (wa (nt' (CM_ret (QM_then_ret ?_))))
     exact rtb (h := cond_t g24 (cond_t g26 (cond_f g28 (cond_t g30 (rfl)))))
   ·have g28 : (((x0.Tenants.length : Nat) : Int) != ((x0.Ids.length : Nat) : Int)) = true := bne_iff_ne.2 h27
    refine ws g28 ?_
    refine ws g28 ?_
    refine ws g28 ?_
    refine ws g28 ?_
    refine ws g28 ?_
    refine wv (vpT g28) ?_
    refine nt' ?_
    refine CM_condT rfl rfl ?_
    refine sr (wa (nt' (CM_ret (QM_then_ret ?_))))
    exact rtb (h := cond_t g24 (cond_t g26 (cond_t g28 (rfl))))
  ·
   refine ws (nf g26) ?_
   refine ws (nf g26) ?_
   refine ws (nf g26) ?_
   refine ws (nf g26) ?_
   refine ws (nf g26) ?_
   refine wv (vpT (nf g26)) ?_
   refine wm ?_
   refine wk ?_
   refine wk ?_
   refine wk ?_
   refine wk ?_
   refine wk ?_
   refine wv (vpT rfl) ?_
   refine nt' ?_
   refine CM_condT rfl rfl ?_
   refine sr (wa (nt' (CM_ret (QM_then_ret ?_))))
   exact rtb (h := cond_t g24 (cond_f g26 (rfl)))
 ·
  refine ws (nf g24) ?_
  refine ws (nf g24) ?_
  refine ws (nf g24) ?_
  refine wv (vpT (nf g24)) ?_
  refine wm ?_
  refine wk ?_
  refine wk ?_
  refine wk ?_
  refine wk ?_
  refine wk ?_
  refine wv (vpT rfl) ?_
  refine wm ?_
  refine wk ?_
  refine wk ?_
  refine wk ?_
  refine wk ?_
  refine wk ?_
  refine wv (vpT rfl) ?_
  refine nt' ?_
  refine CM_condT rfl rfl ?_
  refine sr (wa (nt' (CM_ret (QM_then_ret ?_))))
  exact rtb (h := cond_f g24 (rfl))

theorem impl_IsCharge_fact {x : DCharge} (h : impl_IsCharge_m x = true) : 1 ≤ x.Ids.length ∧ x.Tenants.length = x.Ids.length ∧ x.Rows.length = x.Ids.length := by
  unfold impl_IsCharge_m impl_within_m at h
  cases h1 : impl_IsSet_m x.Ids <;> rw [h1] at h
  · cases h
  by_cases h2 : 1 ≤ ((x.Ids.length : Nat) : Int)
  · by_cases h3 : ((x.Tenants.length : Nat) : Int) = ((x.Ids.length : Nat) : Int)
    · by_cases h4 : ((x.Rows.length : Nat) : Int) = ((x.Ids.length : Nat) : Int)
      · omega
      · rw [bne_iff_ne.2 h4] at h
        revert h
        cases decide (1 ≤ ((x.Ids.length : Nat) : Int)) <;> cases decide (((x.Ids.length : Nat) : Int) ≤ 8) <;> cases (((x.Tenants.length : Nat) : Int) != ((x.Ids.length : Nat) : Int)) <;> intro h <;> cases h
    · rw [bne_iff_ne.2 h3] at h
      revert h
      cases decide (1 ≤ ((x.Ids.length : Nat) : Int)) <;> cases decide (((x.Ids.length : Nat) : Int) ≤ 8) <;> intro h <;> cases h
  · rw [decide_eq_false h2] at h
    cases h

def impl_IsEngine_b3 (x0 : DEngine) (k189 : Nat) : Bool ⊕ (Unit) :=
 cond (impl_IsCharge_m (gt x0.Ledger k189)) (Sum.inr ()) (Sum.inl false)
def impl_IsEngine_b2 (x0 : DEngine) (k143 : Nat) : Bool ⊕ (Unit) :=
 cond (impl_IsQuery_m ((gt x0.Done k143).Query)) (cond (impl_within_m ((gt x0.Done k143).Time) 0 x0.Store.Now) (cond (impl_within_m ((gt x0.Done k143).Steps) 0 100000) (cond (impl_resultOk_m ((gt x0.Done k143).Rows)) (Sum.inr ()) (Sum.inl false)) (Sum.inl false)) (Sum.inl false)) (Sum.inl false)
def impl_IsEngine_b1 (x0 : DEngine) (k56 : Nat) : Bool ⊕ (Unit) :=
 cond (impl_activeOk_m x0.Store (gt x0.Active k56)) (cond (decide (0 < ((k56 : Nat) : Int))) (cond (decide (((gt x0.Active k56).Query.Id) ≤ ((gt x0.Active (k56 - 1)).Query.Id))) (Sum.inl false) (Sum.inr ())) (Sum.inr ())) (Sum.inl false)
def impl_IsEngine_m (x0 : DEngine) : Bool :=
 cond (impl_IsStore_m x0.Store) (cond (impl_within_m x0.Cursor 0 (IntKind.i64.wrap (((x0.Store.Segments.length : Nat) : Int) - 1))) (cond (impl_isOrder_m x0.Order) (cond (impl_within_m x0.Steps 0 100000) (cond (decide (8 < ((x0.Active.length : Nat) : Int))) false (cond (decide (1000 < ((x0.Done.length : Nat) : Int))) false (cond (decide (1000 < ((x0.Ledger.length : Nat) : Int))) false (Sum.elim id (fun (s1_ : Unit) => Sum.elim id (fun (s2_ : Unit) => Sum.elim id (fun (s : Unit) => true) (rng (R := Bool) (fun k (_ : Unit) => impl_IsEngine_b3 x0 k) (x0.Ledger.length - 0) 0 ())) (rng (R := Bool) (fun k (_ : Unit) => impl_IsEngine_b2 x0 k) (x0.Done.length - 0) 0 ())) (rng (R := Bool) (fun k (_ : Unit) => impl_IsEngine_b1 x0 k) (x0.Active.length - 0) 0 ()))))) false) false) false) false
theorem cb32 : Cb Tryz.prog 32 := ⟨f32, _, func32, rfl, by decide⟩
theorem impl_IsEngine_c (w : World) (z0 : List Value) (x0 : DEngine) (r_0 : tyEngine.rd w w.heap.size z0 x0) (s_0 : smEngine 68719476736 x0) :
  Calls Tryz.prog 32 #[.agg z0.toArray] w fun e w' => e = .returned (.bool (impl_IsEngine_m x0)) ∧ Below w.heap.size w w' := by
 obtain ⟨v1, v3, v5, v7, v9, rfl, r2, r4, r6, r8, r10⟩ := tyEngine_rd r_0
 obtain ⟨m11, A12, c13, rfl, q14, r15⟩ := rdS_op r2
 obtain ⟨m16, A17, c18, rfl, q19, r20⟩ := rdS_op r4
 obtain ⟨m21, A22, c23, rfl, q24, r25⟩ := rdS_op r6
 obtain ⟨m26, A27, c28, rfl, q29, r30⟩ := rdS_op r8
 obtain ⟨m31, A32, c33, rfl, q34, r35⟩ := rdS_op r10
 have l36 : x0.Store.Segments.length ≤ 68719476736 := s_0.1.1
 have l37 : x0.Order.length ≤ 68719476736 := s_0.2.1
 have l38 : x0.Active.length ≤ 68719476736 := s_0.2.2.1.1
 have l39 : x0.Done.length ≤ 68719476736 := s_0.2.2.2.1.1
 have l40 : x0.Ledger.length ≤ 68719476736 := s_0.2.2.2.2.1
 refine ce1 (L := [(0, .agg #[.slice A12 x0.Store.Segments.length c13, .int .i64 x0.Store.Now, .int .i64 x0.Cursor, .slice A17 x0.Order.length c18, .slice A22 x0.Active.length c23, .slice A27 x0.Done.length c28, .slice A32 x0.Ledger.length c33, .int .i64 x0.Steps])]) (N := 128) func32 ?_
 refine sr ?_
 refine WM_box rfl (Wd_none rfl) (by decide) (fun p41 => ?_)
 refine wa (nt' (CM_seq (sr ?_)))
 refine wv (vf underlying47 rfl type42) ?_
 let K7 : List Value := [.slice A12 x0.Store.Segments.length c13, .int .i64 x0.Store.Now]
 refine wv (fun W hm => rv_loadN (cs := K7) underlying42 type42 rfl rfl (hm.boxPart (n := 0) rfl rfl)) ?_
 refine wcv (cl_fn cb117 rfl) (fun W hm => impl_IsStore_c W _ x0.Store (tyStore_mk (x := x0.Store) (hm.rdS0 r15)) s_0.1) ?_
 refine wv vnot ?_
 refine wm ?_
 rcases Bool.eq_false_or_eq_true (impl_IsStore_m x0.Store) with g43 | g43
 ·
  refine wg (vf underlying47 rfl type3) (nt g43) ?_
  refine wg (vl 0 2 underlying3) (nt g43) ?_
  refine wg (vf underlying47 rfl type42) (nt g43) ?_
  refine wg (fun W hm => rv_fieldA (o := 0) underlying42 rfl type40 (by decide) rfl rfl) (nt g43) ?_
  refine wg (vl 0 0 underlying40) (nt g43) ?_
  refine wg (vlen underlying40) (nt g43) ?_
  refine wg (fun W hm => rv_sub rfl rfl) (nt g43) ?_
  refine WM_callV (cl_fn cb118 rfl) (fun W hm => impl_within_c W x0.Cursor 0 (IntKind.i64.wrap (((x0.Store.Segments.length : Nat) : Int) - 1))) (Wd_some rfl rfl rfl (bw (nt g43) rfl)) (by decide) ?_
  refine wg vnot (nt g43) ?_
  refine wv (vpF (nt g43)) ?_
  refine wm ?_
  rcases Bool.eq_false_or_eq_true (impl_within_m x0.Cursor 0 (IntKind.i64.wrap (((x0.Store.Segments.length : Nat) : Int) - 1))) with g45 | g45
  ·
   have hw := impl_within_fact g45
   rw [wrap_pred (by omega)] at hw
   refine wg (vf underlying47 rfl type25) (nt g45) ?_
   refine wg (vl 0 3 underlying25) (nt g45) ?_
   refine WM_callV (cl_fn cb119 rfl) (fun W hm => impl_isOrder_c W _ x0.Order (hm.rdS0 r20)) (Wd_some rfl rfl rfl (bw (nt g45) rfl)) (by decide) ?_
   refine wg vnot (nt g45) ?_
   refine wv (vpF (nt g45)) ?_
   refine wm ?_
   rcases Bool.eq_false_or_eq_true (impl_isOrder_m x0.Order) with g47 | g47
   ·
    refine wg (vf underlying47 rfl type3) (nt g47) ?_
    refine wg (vl 0 7 underlying3) (nt g47) ?_
    refine WM_callV (cl_fn cb118 rfl) (fun W hm => impl_within_c W x0.Steps 0 100000) (Wd_some rfl rfl rfl (bw (nt g47) rfl)) (by decide) ?_
    refine wg vnot (nt g47) ?_
    refine wv (vpF (nt g47)) ?_
    refine nt' ?_
    rcases Bool.eq_false_or_eq_true (impl_within_m x0.Steps 0 100000) with g49 | g49
    ·
     have hw := impl_within_fact g49
     refine CM_condF rfl (nt g49) ?_
     refine CM_skip (QM_then (CM_seq (sr ?_)))
     refine wv (vf underlying47 rfl type43) ?_
     refine wv (vl 0 4 underlying43) ?_
     refine wv (vlen underlying43) ?_
     refine wv (fun W hm => rv_gtr rfl rfl) ?_
     refine wm ?_
     by_cases h50 : 8 < ((x0.Active.length : Nat) : Int)
     ·have g51 := decide_eq_true h50
      refine ws g51 ?_
      refine ws g51 ?_
      refine ws g51 ?_
      refine ws g51 ?_
      refine wv (vpT g51) ?_
      refine wm ?_
      refine wk ?_
      refine wk ?_
      refine wk ?_
      refine wk ?_
      refine wv (vpT rfl) ?_
      refine nt' ?_
      refine CM_condT rfl rfl ?_
      refine sr (wa (nt' (CM_ret (QM_then_ret ?_))))
      exact rtb (h := cond_t g43 (cond_t g45 (cond_t g47 (cond_t g49 (cond_t g51 (rfl))))))
     ·have g51 := decide_eq_false h50
      refine wg (vf underlying47 rfl type44) g51 ?_
      refine wg (vl 0 5 underlying44) g51 ?_
      refine wg (vlen underlying44) g51 ?_
      refine wg (fun W hm => rv_gtr rfl rfl) g51 ?_
      refine wv (vpF g51) ?_
      refine wm ?_
      by_cases h52 : 1000 < ((x0.Done.length : Nat) : Int)
      ·have g53 := decide_eq_true h52
       refine ws g53 ?_
       refine ws g53 ?_
       refine ws g53 ?_
       refine ws g53 ?_
       refine wv (vpT g53) ?_
       refine nt' ?_
       refine CM_condT rfl rfl ?_
       refine sr (wa (nt' (CM_ret (QM_then_ret ?_))))
       exact rtb (h := cond_t g43 (cond_t g45 (cond_t g47 (cond_t g49 (cond_f g51 (cond_t g53 (rfl)))))))
      ·have g53 := decide_eq_false h52
       refine wg (vf underlying47 rfl type45) g53 ?_
       refine wg (vl 0 6 underlying45) g53 ?_
       refine wg (vlen underlying45) g53 ?_
       refine wg (fun W hm => rv_gtr rfl rfl) g53 ?_
       refine wv (vpF g53) ?_
       refine nt' ?_
       by_cases h54 : 1000 < ((x0.Ledger.length : Nat) : Int)
       ·have g55 := decide_eq_true h54
        refine CM_condT rfl g55 ?_
        refine sr (wa (nt' (CM_ret (QM_then_ret ?_))))
        exact rtb (h := cond_t g43 (cond_t g45 (cond_t g47 (cond_t g49 (cond_f g51 (cond_f g53 (cond_t g55 (rfl))))))))
       ·have g55 := decide_eq_false h54
        refine CM_condF rfl g55 ?_
        refine CM_skip (QM_then (CM_seq (sr ?_)))
        refine wv (vf underlying47 rfl type43) ?_
        refine wv (vl 0 4 underlying43) ?_
        refine wv (vlen underlying43) ?_
        refine wm (nt' (CM_block ?_))
        let F1 := fun k (_ : Unit) => impl_IsEngine_b1 x0 k
        let R4 := rng (R := Bool) F1
        let K8 : List Value := [.slice A12 x0.Store.Segments.length c13, .int .i64 x0.Store.Now, .int .i64 x0.Cursor, .slice A17 x0.Order.length c18, .slice A22 x0.Active.length c23, .slice A27 x0.Done.length c28, .slice A32 x0.Ledger.length c33, .int .i64 x0.Steps]
        refine CM_loop (σ := Nat × (Unit) × (Unit)) (fun s => [(1, .pointer (some (⟨p41, 0, none⟩ : Addr))), (53, .slice A22 x0.Active.length c23), (54, .int .i64 ((x0.Active.length : Nat) : Int)), (55, .int .i64 ((s.1 : Nat) : Int))]) (fun s => [iBox p41 47 K8]) (fun s => s.1 ≤ x0.Active.length ∧ R4 (x0.Active.length - s.1) s.1 s.2.1 = R4 (x0.Active.length - 0) 0 ()) (fun s => x0.Active.length - s.1) (0, (), ()) sl4 (fun W hm => hm) ⟨(by omega), rfl⟩ ?_
        rintro ⟨k56, ⟨⟩, ⟨⟩⟩ H59
        obtain ⟨hk57, hF58⟩ : k56 ≤ x0.Active.length ∧ R4 (x0.Active.length - k56) k56 () = R4 (x0.Active.length - 0) 0 () := H59
        show CM Tryz.prog 128 _ _ _ _ [(1, .pointer (some (⟨p41, 0, none⟩ : Addr))), (53, .slice A22 x0.Active.length c23), (54, .int .i64 ((x0.Active.length : Nat) : Int)), (55, .int .i64 ((k56 : Nat) : Int))] [iBox p41 47 K8]
        refine sr ?_
        refine wv vlss ?_
        refine nt' (CM_seq ?_)
        by_cases hl60 : k56 < x0.Active.length
        ·have g61 := dlT hl60
         refine CM_condT rfl g61 ?_
         refine CM_skip (QM_then (CM_seq (CM_block (sr (wm ?_)))))
         obtain ⟨a62, rfl, hb63, he64⟩ := q24 (by omega)
         refine wv (vix 10 k56 underlying43 type64) ?_
         obtain ⟨_, e74, hc65⟩ := he64 k56 _ (gt_some (show k56 < x0.Active.length from by omega))
         obtain ⟨v66, v68, v70, v72, rfl, r67, r69, r71, r73⟩ := tyActive_rd e74
         have l75 : ((gt x0.Active k56).Query.Conds).length ≤ 68719476736 := (s_0.2.2.1.2 _ (gt_mem (show k56 < x0.Active.length from by omega))).1.1
         have l76 : ((gt x0.Active k56).Query.Out).length ≤ 68719476736 := (s_0.2.2.1.2 _ (gt_mem (show k56 < x0.Active.length from by omega))).1.2
         have l77 : ((gt x0.Active k56).Todo).length ≤ 68719476736 := (s_0.2.2.1.2 _ (gt_mem (show k56 < x0.Active.length from by omega))).2.1
         have l78 : ((gt x0.Active k56).Rows).length ≤ 68719476736 := (s_0.2.2.1.2 _ (gt_mem (show k56 < x0.Active.length from by omega))).2.2.1
         obtain ⟨m79, A80, c81, rfl, q82, r83⟩ := rdS_op r67
         obtain ⟨m84, A85, c86, rfl, q87, r88⟩ := rdS_op r69
         obtain ⟨m89, A90, c91, rfl, q92, r93⟩ := rdS_op r71
         obtain ⟨m94, A95, c96, rfl, q97, r98⟩ := rdS_op r73
         let K9 : List Value := [.int .i64 ((gt x0.Active k56).Query.Id), .int .i64 ((gt x0.Active k56).Query.Tenant), .slice A80 ((gt x0.Active k56).Query.Conds).length c81, .slice A85 ((gt x0.Active k56).Query.Out).length c86, .int .i64 ((gt x0.Active k56).Time), .slice A90 ((gt x0.Active k56).Todo).length c91, .int .i64 ((gt x0.Active k56).Age), .int .i64 ((gt x0.Active k56).Sent), .int .i64 ((gt x0.Active k56).Cap), .slice A95 ((gt x0.Active k56).Rows).length c96]
         refine wv (fun W hm => rv_loadN (cs := K9) underlying64 type64 rfl rfl (hm.elCells (show (a62.add (k56 * 10)).block < w.heap.size from by rw [add_block]; exact hb63.1) hc65)) ?_
         refine WM_alloc type64 rfl (Wd_none rfl) (by decide) (fun p99 => ?_)
         refine wa ?_
         refine sb 0 K9 [iBox p41 47 [.slice A12 x0.Store.Segments.length c13, .int .i64 x0.Store.Now, .int .i64 x0.Cursor, .slice A17 x0.Order.length c18, .slice (some a62) x0.Active.length c23, .slice A27 x0.Done.length c28, .slice A32 x0.Ledger.length c33, .int .i64 x0.Steps]] (fun W hm => hm) type64 ?_
         refine nt' (CM_seq ?_)
         refine CM_regionD (by kernel_rfl) (by kernel_rfl) ?_
         refine qv (vf underlying47 rfl type42) ?_
         refine qv (fun W hm => rv_loadN (cs := K7) underlying42 type42 rfl rfl (hm.boxPart (n := 1) rfl rfl)) ?_
         refine qv (fun W hm => rv_loadN (cs := K9) underlying64 type64 rfl rfl (hm.boxCells (n := 0) rfl)) ?_
         refine QR_callV (cl_fn cb120 rfl) (fun W hm => impl_activeOk_c W _ x0.Store _ (gt x0.Active k56) (tyStore_mk (x := x0.Store) (hm.rdS0 r15)) (tyActive_mk (x := (gt x0.Active k56)) (hm.rdS0 r83) (hm.rdS0 r88) (hm.rdS0 r93) (hm.rdS0 r98))) (Wd_none rfl) (by decide) ?_
         refine qv vnot ?_
         refine qm ?_
         rcases Bool.eq_false_or_eq_true (impl_activeOk_m x0.Store (gt x0.Active k56)) with g101 | g101
         ·
          refine qg vmv (nt g101) ?_
          refine qg (fun W hm => rv_gtr rfl rfl) (nt g101) ?_
          refine qg vmv (nt g101) ?_
          by_cases h102 : 0 < ((k56 : Nat) : Int)
          ·have g103 := decide_eq_true h102
           refine qg (vf underlying47 rfl type43) g103 ?_
           refine qg (vl 1 4 underlying43) g103 ?_
           refine qg vmv g103 ?_
           refine qg (fun W hm => rv_subN (p := k56) (q := 1) rfl rfl (by omega) (by omega)) g103 ?_
           refine qg (fun W hm => rv_index (sz := 10) (k := k56 - 1) underlying43 type64 rfl rfl rfl (by omega)) g103 ?_
           refine qg (vf underlying64 rfl type34) g103 ?_
           refine qg (fun W hm => rv_fieldA (o := 0) underlying34 rfl type3 (by decide) rfl rfl) g103 ?_
           obtain ⟨_, e113, hc104⟩ := he64 (k56 - 1) _ (gt_some (show (k56 - 1) < x0.Active.length from by omega))
           obtain ⟨v105, v107, v109, v111, rfl, r106, r108, r110, r112⟩ := tyActive_rd e113
           have l114 : ((gt x0.Active (k56 - 1)).Query.Conds).length ≤ 68719476736 := (s_0.2.2.1.2 _ (gt_mem (show (k56 - 1) < x0.Active.length from by omega))).1.1
           have l115 : ((gt x0.Active (k56 - 1)).Query.Out).length ≤ 68719476736 := (s_0.2.2.1.2 _ (gt_mem (show (k56 - 1) < x0.Active.length from by omega))).1.2
           have l116 : ((gt x0.Active (k56 - 1)).Todo).length ≤ 68719476736 := (s_0.2.2.1.2 _ (gt_mem (show (k56 - 1) < x0.Active.length from by omega))).2.1
           have l117 : ((gt x0.Active (k56 - 1)).Rows).length ≤ 68719476736 := (s_0.2.2.1.2 _ (gt_mem (show (k56 - 1) < x0.Active.length from by omega))).2.2.1
           obtain ⟨m118, A119, c120, rfl, q121, r122⟩ := rdS_op r106
           obtain ⟨m123, A124, c125, rfl, q126, r127⟩ := rdS_op r108
           obtain ⟨m128, A129, c130, rfl, q131, r132⟩ := rdS_op r110
           obtain ⟨m133, A134, c135, rfl, q136, r137⟩ := rdS_op r112
           refine qg (fun W hm => rv_load underlying3 rfl rfl ((hm.cell0 (show ((a62.add ((k56 - 1) * 10)).add 0).block < w.heap.size from by rw [add_block, add_block]; exact hb63.1)).trans (hc104 0 _ rfl))) g103 ?_
           refine qg (vf underlying64 rfl type34) g103 ?_
           refine qg (fun W hm => rv_fieldA (o := 0) underlying34 rfl type3 (by decide) rfl rfl) g103 ?_
           refine qg (vl 0 0 underlying3) g103 ?_
           refine qg (fun W hm => rv_geq rfl rfl) g103 ?_
           refine qg (vpT g103) (nt g101) ?_
           refine qv (vpF (nt g101)) ?_
           refine nq' ?_
           by_cases h138 : ((gt x0.Active k56).Query.Id) ≤ ((gt x0.Active (k56 - 1)).Query.Id)
           ·have g139 := decide_eq_true h138
            refine CM_condT rfl g139 ?_
            refine sr (wa (nt' (CM_ret (QM_block_ret (QM_then_ret (QM_then_ret (QM_block_ret (QM_then_ret ?_))))))))
            exact rtb (h := cond_t g43 (cond_t g45 (cond_t g47 (cond_t g49 (cond_f g51 (cond_f g53 (cond_f g55 (fin_inl (rng_ret (body := F1) (k := k56) (s := ()) (show k56 < x0.Active.length from by omega) (cond_t g101 (cond_t g103 (cond_t g139 (rfl)))) hF58) rfl))))))))
           ·have g139 := decide_eq_false h138
            refine CM_condF rfl g139 ?_
            refine CM_skip (QM_block_normal (QM_then (CM_region ?_)))
            refine wv (vadN k56 1 (by omega)) ?_
            refine wm (WM_nil ?_)
            have hn140 := rng_next (R := Bool) (body := F1) (k := k56) (s := ()) (s' := ()) (show k56 < x0.Active.length from by omega) (cond_t g101 (cond_t g103 (cond_f g139 (rfl)))) hF58
            exact QM_round (k56 + 1, (), ()) sl4 (pk [1]) ⟨(by omega), hn140⟩ (rl (by omega))
          ·have g103 := decide_eq_false h102
           refine qs g103 ?_
           refine qs g103 ?_
           refine qs g103 ?_
           refine qs g103 ?_
           refine qs g103 ?_
           refine qs g103 ?_
           refine qs g103 ?_
           refine qs g103 ?_
           refine qs g103 ?_
           refine qs g103 ?_
           refine qs g103 ?_
           refine qs g103 ?_
           refine qg (vpF g103) (nt g101) ?_
           refine qv (vpF (nt g101)) ?_
           refine nq' ?_
           refine CM_condF rfl rfl ?_
           refine CM_skip (QM_block_normal (QM_then (CM_region ?_)))
           refine wv (vadN k56 1 (by omega)) ?_
           refine wm (WM_nil ?_)
           have hn141 := rng_next (R := Bool) (body := F1) (k := k56) (s := ()) (s' := ()) (show k56 < x0.Active.length from by omega) (cond_t g101 (cond_f g103 (rfl))) hF58
           exact QM_round (k56 + 1, (), ()) sl4 (pk [1]) ⟨(by omega), hn141⟩ (rl (by omega))
         ·
          refine qs (nf g101) ?_
          refine qs (nf g101) ?_
          refine qs (nf g101) ?_
          refine qu ?_
          refine qu ?_
          refine qu ?_
          refine qu ?_
          refine qu ?_
          refine qu ?_
          refine qu ?_
          refine qu ?_
          refine qu ?_
          refine qu ?_
          refine qu ?_
          refine qu ?_
          refine qs (nf g101) ?_
          refine qv (vpT (nf g101)) ?_
          refine nq' ?_
          refine CM_condT rfl rfl ?_
          refine sr (wa (nt' (CM_ret (QM_block_ret (QM_then_ret (QM_then_ret (QM_block_ret (QM_then_ret ?_))))))))
          exact rtb (h := cond_t g43 (cond_t g45 (cond_t g47 (cond_t g49 (cond_f g51 (cond_f g53 (cond_f g55 (fin_inl (rng_ret (body := F1) (k := k56) (s := ()) (show k56 < x0.Active.length from by omega) (cond_f g101 (rfl)) hF58) rfl))))))))
        ·have g61 := dlF hl60
         refine CM_condF rfl g61 ?_
         refine CM_exit (QM_then_exit (QM_then_exit ?_))
         have hE142 : R4 (x0.Active.length - 0) 0 () = Sum.inr () := rng_end hl60 hF58
         refine QM_block_hit (QM_then (CM_seq (sr ?_)))
         refine wv (vf underlying47 rfl type44) ?_
         refine wv (vl 0 5 underlying44) ?_
         refine wv (vlen underlying44) ?_
         refine wm (nt' (CM_block ?_))
         let F2 := fun k (_ : Unit) => impl_IsEngine_b2 x0 k
         let R5 := rng (R := Bool) F2
         refine CM_loop (σ := Nat × (Unit) × (Unit)) (fun s => [(1, .pointer (some (⟨p41, 0, none⟩ : Addr))), (85, .slice A27 x0.Done.length c28), (86, .int .i64 ((x0.Done.length : Nat) : Int)), (87, .int .i64 ((s.1 : Nat) : Int))]) (fun s => [iBox p41 47 K8]) (fun s => s.1 ≤ x0.Done.length ∧ R5 (x0.Done.length - s.1) s.1 s.2.1 = R5 (x0.Done.length - 0) 0 ()) (fun s => x0.Done.length - s.1) (0, (), ()) sl4 (fun W hm => hm) ⟨(by omega), rfl⟩ ?_
         rintro ⟨k143, ⟨⟩, ⟨⟩⟩ H146
         obtain ⟨hk144, hF145⟩ : k143 ≤ x0.Done.length ∧ R5 (x0.Done.length - k143) k143 () = R5 (x0.Done.length - 0) 0 () := H146
         show CM Tryz.prog 128 _ _ _ _ [(1, .pointer (some (⟨p41, 0, none⟩ : Addr))), (85, .slice A27 x0.Done.length c28), (86, .int .i64 ((x0.Done.length : Nat) : Int)), (87, .int .i64 ((k143 : Nat) : Int))] [iBox p41 47 K8]
         refine sr ?_
         refine wv vlss ?_
         refine nt' (CM_seq ?_)
         by_cases hl147 : k143 < x0.Done.length
         ·have g148 := dlT hl147
          refine CM_condT rfl g148 ?_
          refine CM_skip (QM_then (CM_seq (CM_block (sr ?_))))
          obtain ⟨a149, rfl, hb150, he151⟩ := q29 (by omega)
          refine wv (vix 7 k143 underlying44 type37) ?_
          obtain ⟨_, e159, hc152⟩ := he151 k143 _ (gt_some (show k143 < x0.Done.length from by omega))
          obtain ⟨v153, v155, v157, rfl, r154, r156, r158⟩ := tyFinished_rd e159
          have l160 : ((gt x0.Done k143).Query.Conds).length ≤ 68719476736 := (s_0.2.2.2.1.2 _ (gt_mem (show k143 < x0.Done.length from by omega))).1.1
          have l161 : ((gt x0.Done k143).Query.Out).length ≤ 68719476736 := (s_0.2.2.2.1.2 _ (gt_mem (show k143 < x0.Done.length from by omega))).1.2
          have l162 : ((gt x0.Done k143).Rows).length ≤ 68719476736 := (s_0.2.2.2.1.2 _ (gt_mem (show k143 < x0.Done.length from by omega))).2.1
          obtain ⟨m163, A164, c165, rfl, q166, r167⟩ := rdS_op r154
          obtain ⟨m168, A169, c170, rfl, q171, r172⟩ := rdS_op r156
          obtain ⟨m173, A174, c175, rfl, q176, r177⟩ := rdS_op r158
          let K10 : List Value := [.int .i64 ((gt x0.Done k143).Query.Id), .int .i64 ((gt x0.Done k143).Query.Tenant), .slice A164 ((gt x0.Done k143).Query.Conds).length c165, .slice A169 ((gt x0.Done k143).Query.Out).length c170, .int .i64 ((gt x0.Done k143).Time), .int .i64 ((gt x0.Done k143).Steps), .slice A174 ((gt x0.Done k143).Rows).length c175]
          refine wv (fun W hm => rv_loadN (cs := K10) underlying37 type37 rfl rfl (hm.elCells (show (a149.add (k143 * 7)).block < w.heap.size from by rw [add_block]; exact hb150.1) hc152)) ?_
          refine WM_alloc type37 rfl (Wd_none rfl) (by decide) (fun p178 => ?_)
          refine sb 0 K10 [iBox p41 47 [.slice A12 x0.Store.Segments.length c13, .int .i64 x0.Store.Now, .int .i64 x0.Cursor, .slice A17 x0.Order.length c18, .slice A22 x0.Active.length c23, .slice (some a149) x0.Done.length c28, .slice A32 x0.Ledger.length c33, .int .i64 x0.Steps]] (fun W hm => hm) type37 ?_
          refine nt' (sr ?_)
          refine wv (vf underlying37 rfl type34) ?_
          refine wv (fun W hm => rv_loadN (cs := [.int .i64 ((gt x0.Done k143).Query.Id), .int .i64 ((gt x0.Done k143).Query.Tenant), .slice A164 ((gt x0.Done k143).Query.Conds).length c165, .slice A169 ((gt x0.Done k143).Query.Out).length c170]) underlying34 type34 rfl rfl (hm.boxPart (n := 0) rfl rfl)) ?_
          refine wcv (cl_fn cb121 rfl) (fun W hm => impl_IsQuery_c W _ ((gt x0.Done k143).Query) (tyQuery_mk (x := ((gt x0.Done k143).Query)) (hm.rdS0 r167) (hm.rdS0 r172))) ?_
          refine wv vnot ?_
          refine wm ?_
          rcases Bool.eq_false_or_eq_true (impl_IsQuery_m ((gt x0.Done k143).Query)) with g180 | g180
          ·
           refine wg (vf underlying37 rfl type3) (nt g180) ?_
           refine wg (vl 0 4 underlying3) (nt g180) ?_
           refine wg (vf underlying47 rfl type42) (nt g180) ?_
           refine wg (fun W hm => rv_fieldA (o := 1) underlying42 rfl type3 (by decide) rfl rfl) (nt g180) ?_
           refine wg (vl 1 1 underlying3) (nt g180) ?_
           refine WM_callV (cl_fn cb118 rfl) (fun W hm => impl_within_c W ((gt x0.Done k143).Time) 0 x0.Store.Now) (Wd_some rfl rfl rfl (bw (nt g180) rfl)) (by decide) ?_
           refine wg vnot (nt g180) ?_
           refine wv (vpF (nt g180)) ?_
           refine wm ?_
           rcases Bool.eq_false_or_eq_true (impl_within_m ((gt x0.Done k143).Time) 0 x0.Store.Now) with g182 | g182
           ·
            have hw := impl_within_fact g182
            refine wg (vf underlying37 rfl type3) (nt g182) ?_
            refine wg (vl 0 5 underlying3) (nt g182) ?_
            refine WM_callV (cl_fn cb118 rfl) (fun W hm => impl_within_c W ((gt x0.Done k143).Steps) 0 100000) (Wd_some rfl rfl rfl (bw (nt g182) rfl)) (by decide) ?_
            refine wg vnot (nt g182) ?_
            refine wv (vpF (nt g182)) ?_
            refine wm ?_
            rcases Bool.eq_false_or_eq_true (impl_within_m ((gt x0.Done k143).Steps) 0 100000) with g184 | g184
            ·
             have hw := impl_within_fact g184
             refine wg (vf underlying37 rfl type35) (nt g184) ?_
             refine wg (vl 0 6 underlying35) (nt g184) ?_
             refine WM_callV (cl_fn cb122 rfl) (fun W hm => impl_resultOk_c W _ ((gt x0.Done k143).Rows) (hm.rdS0 r177)) (Wd_some rfl rfl rfl (bw (nt g184) rfl)) (by decide) ?_
             refine wg vnot (nt g184) ?_
             refine wv (vpF (nt g184)) ?_
             refine nt' ?_
             rcases Bool.eq_false_or_eq_true (impl_resultOk_m ((gt x0.Done k143).Rows)) with g186 | g186
             ·
              refine CM_condF rfl (nt g186) ?_
              refine CM_skip (QM_block_normal (QM_then (CM_region ?_)))
              refine wv (vadN k143 1 (by omega)) ?_
              refine wm (WM_nil ?_)
              have hn187 := rng_next (R := Bool) (body := F2) (k := k143) (s := ()) (s' := ()) (show k143 < x0.Done.length from by omega) (cond_t g180 (cond_t g182 (cond_t g184 (cond_t g186 (rfl))))) hF145
              exact QM_round (k143 + 1, (), ()) sl4 (pk [1]) ⟨(by omega), hn187⟩ (rl (by omega))
             ·
              refine CM_condT rfl (nf g186) ?_
              refine sr (wa (nt' (CM_ret (QM_block_ret (QM_then_ret (QM_then_ret (QM_block_ret (QM_then_ret ?_))))))))
              exact rtb (h := cond_t g43 (cond_t g45 (cond_t g47 (cond_t g49 (cond_f g51 (cond_f g53 (cond_f g55 (fin_inr hE142 (fin_inl (rng_ret (body := F2) (k := k143) (s := ()) (show k143 < x0.Done.length from by omega) (cond_t g180 (cond_t g182 (cond_t g184 (cond_f g186 (rfl))))) hF145) rfl)))))))))
            ·
             refine ws (nf g184) ?_
             refine ws (nf g184) ?_
             refine ws (nf g184) ?_
             refine ws (nf g184) ?_
             refine wv (vpT (nf g184)) ?_
             refine nt' ?_
             refine CM_condT rfl rfl ?_
             refine sr (wa (nt' (CM_ret (QM_block_ret (QM_then_ret (QM_then_ret (QM_block_ret (QM_then_ret ?_))))))))
             exact rtb (h := cond_t g43 (cond_t g45 (cond_t g47 (cond_t g49 (cond_f g51 (cond_f g53 (cond_f g55 (fin_inr hE142 (fin_inl (rng_ret (body := F2) (k := k143) (s := ()) (show k143 < x0.Done.length from by omega) (cond_t g180 (cond_t g182 (cond_f g184 (rfl)))) hF145) rfl)))))))))
           ·
            refine ws (nf g182) ?_
            refine ws (nf g182) ?_
            refine ws (nf g182) ?_
            refine ws (nf g182) ?_
            refine wv (vpT (nf g182)) ?_
            refine wm ?_
            refine wk ?_
            refine wk ?_
            refine wk ?_
            refine wk ?_
            refine wv (vpT rfl) ?_
            refine nt' ?_
            refine CM_condT rfl rfl ?_
            refine sr (wa (nt' (CM_ret (QM_block_ret (QM_then_ret (QM_then_ret (QM_block_ret (QM_then_ret ?_))))))))
            exact rtb (h := cond_t g43 (cond_t g45 (cond_t g47 (cond_t g49 (cond_f g51 (cond_f g53 (cond_f g55 (fin_inr hE142 (fin_inl (rng_ret (body := F2) (k := k143) (s := ()) (show k143 < x0.Done.length from by omega) (cond_t g180 (cond_f g182 (rfl))) hF145) rfl)))))))))
          ·
           refine ws (nf g180) ?_
           refine ws (nf g180) ?_
           refine ws (nf g180) ?_
           refine ws (nf g180) ?_
           refine ws (nf g180) ?_
           refine ws (nf g180) ?_
           refine ws (nf g180) ?_
           refine wv (vpT (nf g180)) ?_
           refine wm ?_
           refine wk ?_
           refine wk ?_
           refine wk ?_
           refine wk ?_
           refine wv (vpT rfl) ?_
           refine wm ?_
           refine wk ?_
           refine wk ?_
           refine wk ?_
           refine wk ?_
           refine wv (vpT rfl) ?_
           refine nt' ?_
           refine CM_condT rfl rfl ?_
           refine sr (wa (nt' (CM_ret (QM_block_ret (QM_then_ret (QM_then_ret (QM_block_ret (QM_then_ret ?_))))))))
           exact rtb (h := cond_t g43 (cond_t g45 (cond_t g47 (cond_t g49 (cond_f g51 (cond_f g53 (cond_f g55 (fin_inr hE142 (fin_inl (rng_ret (body := F2) (k := k143) (s := ()) (show k143 < x0.Done.length from by omega) (cond_f g180 (rfl)) hF145) rfl)))))))))
         ·have g148 := dlF hl147
          refine CM_condF rfl g148 ?_
          refine CM_exit (QM_then_exit (QM_then_exit ?_))
          have hE188 : R5 (x0.Done.length - 0) 0 () = Sum.inr () := rng_end hl147 hF145
          refine QM_block_hit (QM_then (CM_seq (sr ?_)))
          refine wv (vf underlying47 rfl type45) ?_
          refine wv (vl 0 6 underlying45) ?_
          refine wv (vlen underlying45) ?_
          refine wm (nt' (CM_block ?_))
          let F3 := fun k (_ : Unit) => impl_IsEngine_b3 x0 k
          let R6 := rng (R := Bool) F3
          refine CM_loop (σ := Nat × (Unit) × (Unit)) (fun s => [(118, .slice A32 x0.Ledger.length c33), (119, .int .i64 ((x0.Ledger.length : Nat) : Int)), (120, .int .i64 ((s.1 : Nat) : Int))]) (fun s => [iBox p41 47 K8]) (fun s => s.1 ≤ x0.Ledger.length ∧ R6 (x0.Ledger.length - s.1) s.1 s.2.1 = R6 (x0.Ledger.length - 0) 0 ()) (fun s => x0.Ledger.length - s.1) (0, (), ()) sl3 (fun W hm => hm) ⟨(by omega), rfl⟩ ?_
          rintro ⟨k189, ⟨⟩, ⟨⟩⟩ H192
          obtain ⟨hk190, hF191⟩ : k189 ≤ x0.Ledger.length ∧ R6 (x0.Ledger.length - k189) k189 () = R6 (x0.Ledger.length - 0) 0 () := H192
          show CM Tryz.prog 128 _ _ _ _ [(118, .slice A32 x0.Ledger.length c33), (119, .int .i64 ((x0.Ledger.length : Nat) : Int)), (120, .int .i64 ((k189 : Nat) : Int))] [iBox p41 47 K8]
          refine sr ?_
          refine wv vlss ?_
          refine nt' (CM_seq ?_)
          by_cases hl193 : k189 < x0.Ledger.length
          ·have g194 := dlT hl193
           refine CM_condT rfl g194 ?_
           refine CM_skip (QM_then (CM_seq (CM_block (sr ?_))))
           obtain ⟨a195, rfl, hb196, he197⟩ := q34 (by omega)
           refine wv (vix 5 k189 underlying45 type133) ?_
           obtain ⟨_, e205, hc198⟩ := he197 k189 _ (gt_some (show k189 < x0.Ledger.length from by omega))
           obtain ⟨v199, v201, v203, rfl, r200, r202, r204⟩ := tyCharge_rd e205
           have l206 : ((gt x0.Ledger k189).Ids).length ≤ 68719476736 := (s_0.2.2.2.2.2 _ (gt_mem (show k189 < x0.Ledger.length from by omega))).1
           have l207 : ((gt x0.Ledger k189).Tenants).length ≤ 68719476736 := (s_0.2.2.2.2.2 _ (gt_mem (show k189 < x0.Ledger.length from by omega))).2.1
           have l208 : ((gt x0.Ledger k189).Rows).length ≤ 68719476736 := (s_0.2.2.2.2.2 _ (gt_mem (show k189 < x0.Ledger.length from by omega))).2.2
           obtain ⟨m209, A210, c211, rfl, q212, r213⟩ := rdS_op r200
           obtain ⟨m214, A215, c216, rfl, q217, r218⟩ := rdS_op r202
           obtain ⟨m219, A220, c221, rfl, q222, r223⟩ := rdS_op r204
           let K11 : List Value := [.int .i64 ((gt x0.Ledger k189).Segment), .int .i64 ((gt x0.Ledger k189).Base), .slice A210 ((gt x0.Ledger k189).Ids).length c211, .slice A215 ((gt x0.Ledger k189).Tenants).length c216, .slice A220 ((gt x0.Ledger k189).Rows).length c221]
           refine wv (fun W hm => rv_loadN (cs := K11) underlying133 type133 rfl rfl (hm.elCells (show (a195.add (k189 * 5)).block < w.heap.size from by rw [add_block]; exact hb196.1) hc198)) ?_
           refine WM_alloc type133 rfl (Wd_none rfl) (by decide) (fun p224 => ?_)
           refine sb 0 K11 [iBox p41 47 [.slice A12 x0.Store.Segments.length c13, .int .i64 x0.Store.Now, .int .i64 x0.Cursor, .slice A17 x0.Order.length c18, .slice A22 x0.Active.length c23, .slice A27 x0.Done.length c28, .slice (some a195) x0.Ledger.length c33, .int .i64 x0.Steps]] (fun W hm => hm) type133 ?_
           refine nt' (sr ?_)
           refine wv (fun W hm => rv_loadN (cs := K11) underlying133 type133 rfl rfl (hm.boxCells (n := 0) rfl)) ?_
           refine wcv (cl_fn cb123 rfl) (fun W hm => impl_IsCharge_c W _ (gt x0.Ledger k189) (tyCharge_mk (x := (gt x0.Ledger k189)) (hm.rdS0 r213) (hm.rdS0 r218) (hm.rdS0 r223))) ?_
           refine wv vnot ?_
           refine nt' ?_
           rcases Bool.eq_false_or_eq_true (impl_IsCharge_m (gt x0.Ledger k189)) with g226 | g226
           ·
            refine CM_condF rfl (nt g226) ?_
            refine CM_skip (QM_block_normal (QM_then (CM_region ?_)))
            refine wv (vadN k189 1 (by omega)) ?_
            refine wm (WM_nil ?_)
            have hn227 := rng_next (R := Bool) (body := F3) (k := k189) (s := ()) (s' := ()) (show k189 < x0.Ledger.length from by omega) (cond_t g226 (rfl)) hF191
            exact QM_round (k189 + 1, (), ()) sl3 (pk [1]) ⟨(by omega), hn227⟩ (rl (by omega))
           ·
            refine CM_condT rfl (nf g226) ?_
            refine sr (wa (nt' (CM_ret (QM_block_ret (QM_then_ret (QM_then_ret (QM_block_ret (QM_then_ret ?_))))))))
            exact rtb (h := cond_t g43 (cond_t g45 (cond_t g47 (cond_t g49 (cond_f g51 (cond_f g53 (cond_f g55 (fin_inr hE142 (fin_inr hE188 (fin_inl (rng_ret (body := F3) (k := k189) (s := ()) (show k189 < x0.Ledger.length from by omega) (cond_f g226 (rfl)) hF191) rfl))))))))))
          ·have g194 := dlF hl193
           refine CM_condF rfl g194 ?_
           refine CM_exit (QM_then_exit (QM_then_exit ?_))
           have hE228 : R6 (x0.Ledger.length - 0) 0 () = Sum.inr () := rng_end hl193 hF191
           refine QM_block_hit (QM_then (sr (wa (nt' (CM_ret ?_)))))
           exact rtb (h := cond_t g43 (cond_t g45 (cond_t g47 (cond_t g49 (cond_f g51 (cond_f g53 (cond_f g55 (fin_inr hE142 (fin_inr hE188 (fin_inr hE228 (rfl)))))))))))
    ·
     refine CM_condT rfl (nf g49) ?_
     refine sr (wa (nt' (CM_ret (QM_then_ret ?_))))
     exact rtb (h := cond_t g43 (cond_t g45 (cond_t g47 (cond_f g49 (rfl)))))
   ·
    refine ws (nf g47) ?_
    refine ws (nf g47) ?_
    refine ws (nf g47) ?_
    refine ws (nf g47) ?_
    refine wv (vpT (nf g47)) ?_
    refine nt' ?_
    refine CM_condT rfl rfl ?_
    refine sr (wa (nt' (CM_ret (QM_then_ret ?_))))
    exact rtb (h := cond_t g43 (cond_t g45 (cond_f g47 (rfl))))
  ·
   refine ws (nf g45) ?_
   refine ws (nf g45) ?_
   refine ws (nf g45) ?_
   refine ws (nf g45) ?_
   refine wv (vpT (nf g45)) ?_
   refine wm ?_
   refine wk ?_
   refine wk ?_
   refine wk ?_
   refine wk ?_
   refine wv (vpT rfl) ?_
   refine nt' ?_
   refine CM_condT rfl rfl ?_
   refine sr (wa (nt' (CM_ret (QM_then_ret ?_))))
   exact rtb (h := cond_t g43 (cond_f g45 (rfl)))
 ·
  refine ws (nf g43) ?_
  refine ws (nf g43) ?_
  refine ws (nf g43) ?_
  refine ws (nf g43) ?_
  refine ws (nf g43) ?_
  refine ws (nf g43) ?_
  refine ws (nf g43) ?_
  refine ws (nf g43) ?_
  refine ws (nf g43) ?_
  refine wv (vpT (nf g43)) ?_
  refine wm ?_
  refine wk ?_
  refine wk ?_
  refine wk ?_
  refine wk ?_
  refine wv (vpT rfl) ?_
  refine wm ?_
  refine wk ?_
  refine wk ?_
  refine wk ?_
  refine wk ?_
  refine wv (vpT rfl) ?_
  refine nt' ?_
  refine CM_condT rfl rfl ?_
  refine sr (wa (nt' (CM_ret (QM_then_ret ?_))))
  exact rtb (h := cond_f g43 (rfl))

def impl_FindActive_b1 (x0 : DEngine) (x1 : Int) (k37 : Nat) : Int ⊕ (Unit) :=
 cond (((gt x0.Active k37).Query.Id) == x1) (Sum.inl ((k37 : Nat) : Int)) (Sum.inr ())
def impl_FindActive_m (x0 : DEngine) (x1 : Int) : Int :=
 Sum.elim id (fun (s : Unit) => (-1)) (rng (R := Int) (fun k (_ : Unit) => impl_FindActive_b1 x0 x1 k) (x0.Active.length - 0) 0 ())
theorem cb38 : Cb Tryz.prog 38 := ⟨f38, _, func38, rfl, by decide⟩
theorem impl_FindActive_c (w : World) (z0 : List Value) (x0 : DEngine) (x1 : Int) (r_0 : tyEngine.rd w w.heap.size z0 x0) :
  Calls Tryz.prog 38 #[.agg z0.toArray, .int .i64 x1] w fun e w' => e = .returned (.int .i64 (impl_FindActive_m x0 x1)) ∧ Below w.heap.size w w' := by
 obtain ⟨v1, v3, v5, v7, v9, rfl, r2, r4, r6, r8, r10⟩ := tyEngine_rd r_0
 obtain ⟨m11, A12, c13, rfl, q14, r15⟩ := rdS_op r2
 obtain ⟨m16, A17, c18, rfl, q19, r20⟩ := rdS_op r4
 obtain ⟨m21, A22, c23, rfl, q24, r25⟩ := rdS_op r6
 obtain ⟨m26, A27, c28, rfl, q29, r30⟩ := rdS_op r8
 obtain ⟨m31, A32, c33, rfl, q34, r35⟩ := rdS_op r10
 refine ce2 (L := [(0, .agg #[.slice A12 x0.Store.Segments.length c13, .int .i64 x0.Store.Now, .int .i64 x0.Cursor, .slice A17 x0.Order.length c18, .slice A22 x0.Active.length c23, .slice A27 x0.Done.length c28, .slice A32 x0.Ledger.length c33, .int .i64 x0.Steps]), (1, .int .i64 x1)]) (N := 22) func38 ?_
 refine sr ?_
 refine WM_box rfl (Wd_none rfl) (by decide) (fun p36 => ?_)
 refine wa (nt' (CM_seq (sr ?_)))
 refine wv (vf underlying47 rfl type43) ?_
 refine wv (vl 0 4 underlying43) ?_
 refine wv (vlen underlying43) ?_
 refine wm (nt' (CM_block ?_))
 let F1 := fun k (_ : Unit) => impl_FindActive_b1 x0 x1 k
 let R2 := rng (R := Int) F1
 let K3 : List Value := [.slice A12 x0.Store.Segments.length c13, .int .i64 x0.Store.Now, .int .i64 x0.Cursor, .slice A17 x0.Order.length c18, .slice A22 x0.Active.length c23, .slice A27 x0.Done.length c28, .slice A32 x0.Ledger.length c33, .int .i64 x0.Steps]
 refine CM_loop (σ := Nat × (Unit) × (Unit)) (fun s => [(1, .int .i64 x1), (8, .slice A22 x0.Active.length c23), (9, .int .i64 ((x0.Active.length : Nat) : Int)), (10, .int .i64 ((s.1 : Nat) : Int))]) (fun s => [iBox p36 47 K3]) (fun s => s.1 ≤ x0.Active.length ∧ R2 (x0.Active.length - s.1) s.1 s.2.1 = R2 (x0.Active.length - 0) 0 ()) (fun s => x0.Active.length - s.1) (0, (), ()) sl4 (fun W hm => hm) ⟨(by omega), rfl⟩ ?_
 rintro ⟨k37, ⟨⟩, ⟨⟩⟩ H40
 obtain ⟨hk38, hF39⟩ : k37 ≤ x0.Active.length ∧ R2 (x0.Active.length - k37) k37 () = R2 (x0.Active.length - 0) 0 () := H40
 show CM Tryz.prog 22 _ _ _ _ [(1, .int .i64 x1), (8, .slice A22 x0.Active.length c23), (9, .int .i64 ((x0.Active.length : Nat) : Int)), (10, .int .i64 ((k37 : Nat) : Int))] [iBox p36 47 K3]
 refine sr ?_
 refine wv vlss ?_
 refine nt' (CM_seq ?_)
 by_cases hl41 : k37 < x0.Active.length
 ·have g42 := dlT hl41
  refine CM_condT rfl g42 ?_
  refine CM_skip (QM_then (CM_seq (CM_block (sr (wm ?_)))))
  obtain ⟨a43, rfl, hb44, he45⟩ := q24 (by omega)
  refine wv (vix 10 k37 underlying43 type64) ?_
  obtain ⟨_, e55, hc46⟩ := he45 k37 _ (gt_some (show k37 < x0.Active.length from by omega))
  obtain ⟨v47, v49, v51, v53, rfl, r48, r50, r52, r54⟩ := tyActive_rd e55
  obtain ⟨m56, A57, c58, rfl, q59, r60⟩ := rdS_op r48
  obtain ⟨m61, A62, c63, rfl, q64, r65⟩ := rdS_op r50
  obtain ⟨m66, A67, c68, rfl, q69, r70⟩ := rdS_op r52
  obtain ⟨m71, A72, c73, rfl, q74, r75⟩ := rdS_op r54
  let K4 : List Value := [.int .i64 ((gt x0.Active k37).Query.Id), .int .i64 ((gt x0.Active k37).Query.Tenant), .slice A57 ((gt x0.Active k37).Query.Conds).length c58, .slice A62 ((gt x0.Active k37).Query.Out).length c63, .int .i64 ((gt x0.Active k37).Time), .slice A67 ((gt x0.Active k37).Todo).length c68, .int .i64 ((gt x0.Active k37).Age), .int .i64 ((gt x0.Active k37).Sent), .int .i64 ((gt x0.Active k37).Cap), .slice A72 ((gt x0.Active k37).Rows).length c73]
  refine wv (fun W hm => rv_loadN (cs := K4) underlying64 type64 rfl rfl (hm.elCells (show (a43.add (k37 * 10)).block < w.heap.size from by rw [add_block]; exact hb44.1) hc46)) ?_
  refine WM_alloc type64 rfl (Wd_none rfl) (by decide) (fun p76 => ?_)
  refine wa ?_
  refine sb 0 K4 [iBox p36 47 [.slice A12 x0.Store.Segments.length c13, .int .i64 x0.Store.Now, .int .i64 x0.Cursor, .slice A17 x0.Order.length c18, .slice (some a43) x0.Active.length c23, .slice A27 x0.Done.length c28, .slice A32 x0.Ledger.length c33, .int .i64 x0.Steps]] (fun W hm => hm) type64 ?_
  refine nt' (sr ?_)
  refine wv (vf underlying64 rfl type34) ?_
  refine wv (fun W hm => rv_fieldA (o := 0) underlying34 rfl type3 (by decide) rfl rfl) ?_
  refine wv (vl 0 0 underlying3) ?_
  refine wm ?_
  refine wv (fun W hm => rv_eql rfl rfl) ?_
  refine nt' ?_
  by_cases h77 : ((gt x0.Active k37).Query.Id) = x1
  ·have g78 := beq_iff_eq.2 h77
   refine CM_condT rfl g78 ?_
   refine sr (wm (wa (nt' (CM_ret (QM_block_ret (QM_then_ret (QM_then_ret (QM_block_ret (QM_then_ret ?_)))))))))
   exact rti (h := fin_inl (rng_ret (body := F1) (k := k37) (s := ()) (show k37 < x0.Active.length from by omega) (cond_t g78 (rfl)) hF39) rfl)
  ·have g78 := beq_eq_false_iff_ne.2 h77
   refine CM_condF rfl g78 ?_
   refine CM_skip (QM_block_normal (QM_then (CM_region ?_)))
   refine wv (vadN k37 1 (by omega)) ?_
   refine wm (WM_nil ?_)
   have hn79 := rng_next (R := Int) (body := F1) (k := k37) (s := ()) (s' := ()) (show k37 < x0.Active.length from by omega) (cond_f g78 (rfl)) hF39
   exact QM_round (k37 + 1, (), ()) sl4 (pk [1]) ⟨(by omega), hn79⟩ (rl (by omega))
 ·have g42 := dlF hl41
  refine CM_condF rfl g42 ?_
  refine CM_exit (QM_then_exit (QM_then_exit ?_))
  have hE80 : R2 (x0.Active.length - 0) 0 () = Sum.inr () := rng_end hl41 hF39
  refine QM_block_hit (QM_then (sr (wa (nt' (CM_ret ?_)))))
  exact rti (h := fin_inr hE80 (rfl))

theorem rng_bool {n : Nat} {b : Nat → Unit → Bool ⊕ Unit} (h : ∀ j, b j () = .inr () ∨ b j () = .inl false) : ∀ m k, rng b m k () = .inr () ∨ rng b m k () = .inl false
  | 0, _ => .inl rfl
  | m + 1, k => by
    rcases h k with h1 | h1
    · rw [rng, h1]; exact rng_bool (n := n) h m (k + 1)
    · right; rw [rng, h1]; rfl
theorem cond_tf {b x : Bool} (h : cond b x false = true) : b = true ∧ x = true := by
  cases b
  · cases h
  · exact ⟨rfl, h⟩
theorem cond_ft {b x : Bool} (h : cond b false x = true) : b = false ∧ x = true := by
  cases b
  · exact ⟨rfl, h⟩
  · cases h
theorem rise_all {n : Nat} {f : Nat → Int} (h : ∀ j, 0 < j → j < n → f (j - 1) < f j) : ∀ i j, i < j → j < n → f i < f j := by
  intro i j
  induction j with
  | zero => intro h1; omega
  | succ j ih =>
    intro h1 h2
    have h3 := h (j + 1) (by omega) h2
    have e : j + 1 - 1 = j := by omega
    rw [e] at h3
    by_cases h4 : i = j
    · subst h4; exact h3
    · have := ih (by omega) (by omega)
      omega
theorem impl_Engine_sorted {x : DEngine} (h : impl_IsEngine_m x = true) : ∀ i j, i < j → j < x.Active.length → (gt x.Active i).Query.Id < (gt x.Active j).Query.Id := by
  unfold impl_IsEngine_m at h
  have h7 := (cond_ft (cond_ft (cond_ft (cond_tf (cond_tf (cond_tf (cond_tf h).2).2).2).2).2).2).2
  have hr : rng (R := Bool) (fun k (_ : Unit) => impl_IsEngine_b1 x k) (x.Active.length - 0) 0 () = .inr () := by
    rcases rng_bool (n := x.Active.length) (b := fun k (_ : Unit) => impl_IsEngine_b1 x k) (fun j => by
      show impl_IsEngine_b1 x j = _ ∨ impl_IsEngine_b1 x j = _
      unfold impl_IsEngine_b1
      cases impl_activeOk_m x.Store (gt x.Active j) <;> cases decide (0 < ((j : Nat) : Int)) <;> cases decide ((gt x.Active j).Query.Id ≤ (gt x.Active (j - 1)).Query.Id) <;> first | exact .inl rfl | exact .inr rfl) (x.Active.length - 0) 0 with e | e
    · exact e
    · rw [e] at h7; cases h7
  refine rise_all (f := fun j => (gt x.Active j).Query.Id) (fun j hp hj => ?_)
  have hb := rng_noneU _ _ hr j (Nat.zero_le _) (by omega)
  have hb2 : impl_IsEngine_b1 x j = .inr () := hb
  unfold impl_IsEngine_b1 at hb2
  cases ha : impl_activeOk_m x.Store (gt x.Active j) <;> rw [ha] at hb2
  · cases hb2
  · rw [decide_eq_true (show 0 < ((j : Nat) : Int) by omega)] at hb2
    by_cases hc : (gt x.Active j).Query.Id ≤ (gt x.Active (j - 1)).Query.Id
    · rw [decide_eq_true hc] at hb2; cases hb2
    · show (gt x.Active (j - 1)).Query.Id < (gt x.Active j).Query.Id
      omega
def impl_AdmitQuery_b2 (x0 : DEngine) (x1 : DQuery) (k140 : Nat) (s143 : Nat) : (DEngine × Bool) ⊕ (Nat) :=
 cond (decide (((gt x0.Active k140).Query.Id) < x1.Id)) (Sum.inr (s143 + 1)) (Sum.inr s143)
def impl_AdmitQuery_b1 (k115 : Nat) (d118 : (List Int)) : (DEngine × Bool) ⊕ ((List Int)) :=
 Sum.inr (d118 ++ [((k115 : Nat) : Int)])
def impl_AdmitQuery_m (x0 : DEngine) (x1 : DQuery) (x2 : Int) : (DEngine × Bool) :=
 cond (impl_IsEngine_m x0) (cond (impl_IsQuery_m x1) (cond (impl_within_m x2 0 32) (cond (decide (0 ≤ (impl_FindActive_m x0 x1.Id))) (x0, false) (cond (((x0.Active.length : Nat) : Int) == 8) (x0, false) (Sum.elim id (fun (s1_ : (List Int)) => Sum.elim id (fun (s : Nat) => ((⟨x0.Store, x0.Cursor, x0.Order, ((List.take s x0.Active ++ [(⟨x1, x0.Store.Now, s1_, 0, 0, x2, []⟩ : DActive)]) ++ List.drop s x0.Active), x0.Done, x0.Ledger, x0.Steps⟩ : DEngine), true)) (rng (R := (DEngine × Bool)) (fun k (s : Nat) => impl_AdmitQuery_b2 x0 x1 k s) (x0.Active.length - 0) 0 0)) (rng (R := (DEngine × Bool)) (fun k (s : (List Int)) => impl_AdmitQuery_b1 k s) (x0.Store.Segments.length - 0) 0 [])))) (x0, false)) (x0, false)) (x0, false)
theorem cb36 : Cb Tryz.prog 36 := ⟨f36, _, func36, rfl, by decide⟩
theorem impl_AdmitQuery_c (w : World) (z0 : List Value) (x0 : DEngine) (z1 : List Value) (x1 : DQuery) (x2 : Int) (r_0 : tyEngine.rd w w.heap.size z0 x0) (r_1 : tyQuery.rd w w.heap.size z1 x1) (s_0 : smEngine 68719476736 x0) (s_1 : smQuery 68719476736 x1) :
  Calls Tryz.prog 36 #[.agg z0.toArray, .agg z1.toArray, .int .i64 x2] w fun e w' => ∃ v : List Value, e = .returned (.tuple #[.agg v.toArray, .bool ((impl_AdmitQuery_m x0 x1 x2).2)]) ∧ Mem w.heap.size w [iOwn tyEngine v (impl_AdmitQuery_m x0 x1 x2).1] w' := by
 obtain ⟨v1, v3, v5, v7, v9, rfl, r2, r4, r6, r8, r10⟩ := tyEngine_rd r_0
 obtain ⟨m11, A12, c13, rfl, q14, r15⟩ := rdS_op r2
 obtain ⟨m16, A17, c18, rfl, q19, r20⟩ := rdS_op r4
 obtain ⟨m21, A22, c23, rfl, q24, r25⟩ := rdS_op r6
 obtain ⟨m26, A27, c28, rfl, q29, r30⟩ := rdS_op r8
 obtain ⟨m31, A32, c33, rfl, q34, r35⟩ := rdS_op r10
 obtain ⟨v36, v38, rfl, r37, r39⟩ := tyQuery_rd r_1
 obtain ⟨m40, A41, c42, rfl, q43, r44⟩ := rdS_op r37
 obtain ⟨m45, A46, c47, rfl, q48, r49⟩ := rdS_op r39
 have l50 : x0.Store.Segments.length ≤ 68719476736 := s_0.1.1
 have l51 : x0.Order.length ≤ 68719476736 := s_0.2.1
 have l52 : x0.Active.length ≤ 68719476736 := s_0.2.2.1.1
 have l53 : x0.Done.length ≤ 68719476736 := s_0.2.2.2.1.1
 have l54 : x0.Ledger.length ≤ 68719476736 := s_0.2.2.2.2.1
 have l55 : x1.Conds.length ≤ 68719476736 := s_1.1
 have l56 : x1.Out.length ≤ 68719476736 := s_1.2
 refine ce3 (L := [(0, .agg #[.slice A12 x0.Store.Segments.length c13, .int .i64 x0.Store.Now, .int .i64 x0.Cursor, .slice A17 x0.Order.length c18, .slice A22 x0.Active.length c23, .slice A27 x0.Done.length c28, .slice A32 x0.Ledger.length c33, .int .i64 x0.Steps]), (1, .agg #[.int .i64 x1.Id, .int .i64 x1.Tenant, .slice A41 x1.Conds.length c42, .slice A46 x1.Out.length c47]), (2, .int .i64 x2)]) (N := 98) func36 ?_
 refine sr ?_
 refine WM_box rfl (Wd_none rfl) (by decide) (fun p57 => ?_)
 refine WM_box rfl (Wd_none rfl) (by decide) (fun p58 => ?_)
 refine WM_alloc type47 rfl (Wd_none rfl) (by decide) (fun p59 => ?_)
 refine wa (nt' (sr ?_))
 let K5 : List Value := [.slice A12 x0.Store.Segments.length c13, .int .i64 x0.Store.Now, .int .i64 x0.Cursor, .slice A17 x0.Order.length c18, .slice A22 x0.Active.length c23, .slice A27 x0.Done.length c28, .slice A32 x0.Ledger.length c33, .int .i64 x0.Steps]
 refine wv (fun W hm => rv_loadN (cs := K5) underlying47 type47 rfl rfl (hm.boxCells (n := 2) rfl)) ?_
 refine wcs tyEngine x0 (cl_fn cb101 rfl) (fun W hm => impl_copyEngine_c2 W _ x0 (tyEngine_mk (x := x0) (hm.rdS0 r15) (hm.rdS0 r20) (hm.rdS0 r25) (hm.rdS0 r30) (hm.rdS0 r35)) s_0) (fun z60 => ?_)
 refine tyEngine_sp ?_
 rintro ⟨v61, v62, v63, v64, v65⟩ rfl
 refine WM_form (n := 0) rfl ?_
 rintro A66 c67 rfl m68
 refine WM_form (n := 1) rfl ?_
 rintro A70 c71 rfl m72
 refine WM_form (n := 2) rfl ?_
 rintro A74 c75 rfl m76
 refine WM_form (n := 3) rfl ?_
 rintro A78 c79 rfl m80
 refine WM_form (n := 4) rfl ?_
 rintro A82 c83 rfl m84
 refine WM_alloc type47 rfl (Wd_none rfl) (by decide) (fun p86 => ?_)
 let K6 : List Value := [.slice A66 x0.Store.Segments.length c67, .int .i64 x0.Store.Now, .int .i64 x0.Cursor, .slice A70 x0.Order.length c71, .slice A74 x0.Active.length c75, .slice A78 x0.Done.length c79, .slice A82 x0.Ledger.length c83, .int .i64 x0.Steps]
 let K7 : List Value := [.slice none 0 0, .int .i64 0, .int .i64 0, .slice none 0 0, .slice none 0 0, .slice none 0 0, .slice none 0 0, .int .i64 0]
 let K8 : List Value := [.int .i64 x1.Id, .int .i64 x1.Tenant, .slice A41 x1.Conds.length c42, .slice A46 x1.Out.length c47]
 let I13 : It := iOwn (tSl (tSl tyVersion 191) 131) [.slice A66 x0.Store.Segments.length c67] x0.Store.Segments
 let I14 : It := iOwn (tSl tInt 3) [.slice A70 x0.Order.length c71] x0.Order
 let I15 : It := iOwn (tSl tyActive 64) [.slice A74 x0.Active.length c75] x0.Active
 let I16 : It := iOwn (tSl tyFinished 37) [.slice A78 x0.Done.length c79] x0.Done
 let I17 : It := iOwn (tSl tyCharge 133) [.slice A82 x0.Ledger.length c83] x0.Ledger
 refine sb 0 K6 [I13, I14, I15, I16, I17, iBox p59 47 K7, iBox p58 34 K8, iBox p57 47 K5] (fun W hm => hm) type47 ?_
 refine nt' (CM_seq (sr ?_))
 refine wv (fun W hm => rv_loadN (cs := K5) underlying47 type47 rfl rfl (hm.boxCells (n := 8) rfl)) ?_
 refine wcv (cl_fn cb32 rfl) (fun W hm => impl_IsEngine_c W _ x0 (tyEngine_mk (x := x0) (hm.rdS0 r15) (hm.rdS0 r20) (hm.rdS0 r25) (hm.rdS0 r30) (hm.rdS0 r35)) s_0) ?_
 refine wv vnot ?_
 refine wm ?_
 rcases Bool.eq_false_or_eq_true (impl_IsEngine_m x0) with g88 | g88
 ·
  have hsort := impl_Engine_sorted g88
  refine wg (fun W hm => rv_loadN (cs := K8) underlying34 type34 rfl rfl (hm.boxCells (n := 7) rfl)) (nt g88) ?_
  refine WM_callV (cl_fn cb121 rfl) (fun W hm => impl_IsQuery_c W _ x1 (tyQuery_mk (x := x1) (hm.rdS0 r44) (hm.rdS0 r49))) (Wd_some rfl rfl rfl (bw (nt g88) rfl)) (by decide) ?_
  refine wg vnot (nt g88) ?_
  refine wv (vpF (nt g88)) ?_
  refine wm ?_
  rcases Bool.eq_false_or_eq_true (impl_IsQuery_m x1) with g90 | g90
  ·
   refine wg vmv (nt g90) ?_
   refine WM_callV (cl_fn cb118 rfl) (fun W hm => impl_within_c W x2 0 32) (Wd_some rfl rfl rfl (bw (nt g90) rfl)) (by decide) ?_
   refine wg vnot (nt g90) ?_
   refine wv (vpF (nt g90)) ?_
   refine wm ?_
   rcases Bool.eq_false_or_eq_true (impl_within_m x2 0 32) with g92 | g92
   ·
    have hw := impl_within_fact g92
    refine wg (fun W hm => rv_loadN (cs := K5) underlying47 type47 rfl rfl (hm.boxCells (n := 8) rfl)) (nt g92) ?_
    refine wg (vf underlying34 rfl type3) (nt g92) ?_
    refine wg (vl 7 0 underlying3) (nt g92) ?_
    refine WM_callV (cl_fn cb38 rfl) (fun W hm => impl_FindActive_c W _ x0 x1.Id (tyEngine_mk (x := x0) (hm.rdS0 r15) (hm.rdS0 r20) (hm.rdS0 r25) (hm.rdS0 r30) (hm.rdS0 r35))) (Wd_some rfl rfl rfl (bw (nt g92) rfl)) (by decide) ?_
    refine wg (fun W hm => rv_geq rfl rfl) (nt g92) ?_
    refine wv (vpF (nt g92)) ?_
    refine wm ?_
    by_cases h93 : 0 ≤ (impl_FindActive_m x0 x1.Id)
    ·have g94 := decide_eq_true h93
     refine ws g94 ?_
     refine ws g94 ?_
     refine ws g94 ?_
     refine ws g94 ?_
     refine wv (vpT g94) ?_
     refine nt' ?_
     refine CM_condT rfl rfl ?_
     refine sr ?_
     refine wv (fun W hm => rv_loadN (cs := K6) underlying47 type47 rfl rfl (hm.boxCells (n := 0) rfl)) ?_
     refine sb 0 K6 [iBox p86 47 K6, I13, I14, I15, I16, I17, iBox p58 34 K8, iBox p57 47 K5] (pk [6, 0, 1, 2, 3, 4, 5, 7, 8]) type47 ?_
     refine wa (nt' (CM_ret (QM_then_ret ?_)))
     have he95 := (show impl_AdmitQuery_m x0 x1 x2 = (x0, false) from cond_t g88 (cond_t g90 (cond_t g92 (cond_t g94 (rfl)))))
     refine QM_r2 rfl (RR_cell (n := 0) rfl rfl underlying47 type47 rfl) (RR_tmp rfl) (fun W hm => ⟨K6, ?_, ?_⟩)
     ·first | rw [he95] | rfl
      try rfl
     ·rw [he95]; exact Mem.join (is := [I13, I14, I15, I16, I17]) (js := []) (fun _ _ hs => tyEngine_join (x := x0) hs) (hm.pick [2, 3, 4, 5, 6] (by decide))
    ·have g94 := decide_eq_false h93
     refine wg (vf underlying47 rfl type43) g94 ?_
     refine wg (vl 8 4 underlying43) g94 ?_
     refine wg (vlen underlying43) g94 ?_
     refine wg (fun W hm => rv_eql rfl rfl) g94 ?_
     refine wv (vpF g94) ?_
     refine nt' ?_
     by_cases h96 : ((x0.Active.length : Nat) : Int) = 8
     ·have g97 := beq_iff_eq.2 h96
      refine CM_condT rfl g97 ?_
      refine sr ?_
      refine wv (fun W hm => rv_loadN (cs := K6) underlying47 type47 rfl rfl (hm.boxCells (n := 0) rfl)) ?_
      refine sb 0 K6 [iBox p86 47 K6, I13, I14, I15, I16, I17, iBox p58 34 K8, iBox p57 47 K5] (pk [6, 0, 1, 2, 3, 4, 5, 7, 8]) type47 ?_
      refine wa (nt' (CM_ret (QM_then_ret ?_)))
      have he98 := (show impl_AdmitQuery_m x0 x1 x2 = (x0, false) from cond_t g88 (cond_t g90 (cond_t g92 (cond_f g94 (cond_t g97 (rfl))))))
      refine QM_r2 rfl (RR_cell (n := 0) rfl rfl underlying47 type47 rfl) (RR_tmp rfl) (fun W hm => ⟨K6, ?_, ?_⟩)
      ·first | rw [he98] | rfl
       try rfl
      ·rw [he98]; exact Mem.join (is := [I13, I14, I15, I16, I17]) (js := []) (fun _ _ hs => tyEngine_join (x := x0) hs) (hm.pick [2, 3, 4, 5, 6] (by decide))
     ·have g97 := beq_eq_false_iff_ne.2 h96
      refine CM_condF rfl g97 ?_
      refine CM_skip (QM_then (CM_seq ?_))
      refine rd2 9 [8] (s := [iBox p86 47 K6, I13, I14, I15, I16, I17, iBox p59 47 K7, iBox p58 34 K8, iBox p57 47 K5]) (s2 := [iBox p86 47 K6, I13, I14, I15, I16, I17, iBox p59 47 K7, iBox p58 34 K8, iBox p57 47 K5]) (fun W hm => hm) (fun W hm => hm) ?_
      let K9 : List Value := [.int .i64 0, .int .i64 0, .slice none 0 0, .slice none 0 0, .int .i64 0, .slice none 0 0, .int .i64 0, .int .i64 0, .int .i64 0, .slice none 0 0]
      refine QD_mid (σ := Option Addr × Nat × Option Addr × Nat × Nat) (fun s => [iBox p86 47 K6, I13, I14, I15, I16, I17, iBox p59 47 K7, iBox p58 34 K8, iBox p57 47 K5]) 9 255 1 (fun s => [(3, .pointer (some (⟨p57, 0, none⟩ : Addr))), (4, .pointer (some (⟨p58, 0, none⟩ : Addr))), (6, .pointer (some (⟨p59, 0, none⟩ : Addr))), (8, .pointer (some (⟨p86, 0, none⟩ : Addr))), (50, .agg #[.int .i64 x1.Id, .int .i64 x1.Tenant, .slice s.1 x1.Conds.length s.2.1, .slice s.2.2.1 x1.Out.length s.2.2.2.1, .int .i64 x0.Store.Now, .slice none 0 0, .int .i64 0, .int .i64 0, .int .i64 x2, .slice none 0 0]), (9, .pointer (some (⟨s.2.2.2.2, 0, none⟩ : Addr)))]) (fun s => [iBox s.2.2.2.2 64 K9, iOwn (tSl tyCond 201) [.slice s.1 x1.Conds.length s.2.1] x1.Conds, iOwn (tSl tInt 3) [.slice s.2.2.1 x1.Out.length s.2.2.2.1] x1.Out, iBox p86 47 K6, I13, I14, I15, I16, I17, iBox p59 47 K7, iBox p58 34 K8, iBox p57 47 K5]) ?_ (fun H => ?_)
      ·
       rintro ⟨A102, c103, A106, c107, p110⟩
       let I18 : It := iOwn (tSl tyCond 201) [.slice A102 x1.Conds.length c103] x1.Conds
       let I19 : It := iOwn (tSl tInt 3) [.slice A106 x1.Out.length c107] x1.Out
       show QD _ _ _ _ _ _ _ _ [(3, .pointer (some (⟨p57, 0, none⟩ : Addr))), (4, .pointer (some (⟨p58, 0, none⟩ : Addr))), (6, .pointer (some (⟨p59, 0, none⟩ : Addr))), (8, .pointer (some (⟨p86, 0, none⟩ : Addr))), (50, .agg #[.int .i64 x1.Id, .int .i64 x1.Tenant, .slice A102 x1.Conds.length c103, .slice A106 x1.Out.length c107, .int .i64 x0.Store.Now, .slice none 0 0, .int .i64 0, .int .i64 0, .int .i64 x2, .slice none 0 0]), (9, .pointer (some (⟨p110, 0, none⟩ : Addr)))] _ [iBox p86 47 K6, I13, I14, I15, I16, I17, iBox p59 47 K7, iBox p58 34 K8, iBox p57 47 K5] _ [iBox p110 64 K9, I18, I19, iBox p86 47 K6, I13, I14, I15, I16, I17, iBox p59 47 K7, iBox p58 34 K8, iBox p57 47 K5]
       refine QD_len (n := 1) rfl ?_
       intro m111 m112
       refine QD_len (n := 2) rfl ?_
       intro m113 m114
       refine qoD 9 8 511 rfl ?_
       refine sb 0 [.int .i64 x1.Id, .int .i64 x1.Tenant, .slice A102 x1.Conds.length c103, .slice A106 x1.Out.length c107, .int .i64 x0.Store.Now, .slice none 0 0, .int .i64 0, .int .i64 0, .int .i64 x2, .slice none 0 0] [I18, I19, iBox p86 47 K6, I13, I14, I15, I16, I17, iBox p59 47 K7, iBox p58 34 K8, iBox p57 47 K5] (fun W hm => hm) type64 ?_
       refine qxD (pk [3, 4, 5, 6, 7, 8, 9, 10, 11]) ?_
       refine QB_done (by kernel_rfl) ?_
       refine QM_then (CM_seq (sr ?_))
       refine wv (vf underlying47 rfl type42) ?_
       refine wv (fun W hm => rv_fieldA (o := 0) underlying42 rfl type40 (by decide) rfl rfl) ?_
       refine wv (vl 11 0 underlying40) ?_
       refine wv (vlen underlying40) ?_
       refine wm (nt' (CM_block ?_))
       refine CM_items (fun W hm => (hm.addNil (E := tInt) (e := 3)).last) ?_
       let F1 := fun k (s : (List Int)) => impl_AdmitQuery_b1 k s
       let R3 := rng (R := (DEngine × Bool)) F1
       refine CM_loop (σ := Nat × ((List Int)) × (Option Addr × Nat)) (fun s => [(4, .pointer (some (⟨p58, 0, none⟩ : Addr))), (6, .pointer (some (⟨p59, 0, none⟩ : Addr))), (8, .pointer (some (⟨p86, 0, none⟩ : Addr))), (9, .pointer (some (⟨p110, 0, none⟩ : Addr))), (54, .int .i64 ((x0.Store.Segments.length : Nat) : Int)), (55, .int .i64 ((s.1 : Nat) : Int))]) (fun s => [iBox p110 64 [.int .i64 x1.Id, .int .i64 x1.Tenant, .slice A102 x1.Conds.length c103, .slice A106 x1.Out.length c107, .int .i64 x0.Store.Now, .slice s.2.2.1 s.2.1.length s.2.2.2, .int .i64 0, .int .i64 0, .int .i64 x2, .slice none 0 0], I18, I19, iBox p86 47 K6, I13, I14, I15, I16, I17, iBox p59 47 K7, iBox p58 34 K8, iBox p57 47 K5, iOwn (tSl tInt 3) [.slice s.2.2.1 s.2.1.length s.2.2.2] s.2.1]) (fun s => s.1 ≤ x0.Store.Segments.length ∧ R3 (x0.Store.Segments.length - s.1) s.1 s.2.1 = R3 (x0.Store.Segments.length - 0) 0 [] ∧ s.2.1.length ≤ 0 + s.1) (fun s => x0.Store.Segments.length - s.1) (0, [], (none, 0)) sl6 (fun W hm => hm) ⟨(by omega), rfl, Nat.le_refl _⟩ ?_
       rintro ⟨k115, d118, ⟨A119, c120⟩⟩ H123
       obtain ⟨hk121, hF122, hi124⟩ : k115 ≤ x0.Store.Segments.length ∧ R3 (x0.Store.Segments.length - k115) k115 d118 = R3 (x0.Store.Segments.length - 0) 0 [] ∧ d118.length ≤ 0 + k115 := H123
       let K10 : List Value := [.int .i64 x1.Id, .int .i64 x1.Tenant, .slice A102 x1.Conds.length c103, .slice A106 x1.Out.length c107, .int .i64 x0.Store.Now, .slice A119 d118.length c120, .int .i64 0, .int .i64 0, .int .i64 x2, .slice none 0 0]
       let I20 : It := iOwn (tSl tInt 3) [.slice A119 d118.length c120] d118
       show CM Tryz.prog 98 _ _ _ _ [(4, .pointer (some (⟨p58, 0, none⟩ : Addr))), (6, .pointer (some (⟨p59, 0, none⟩ : Addr))), (8, .pointer (some (⟨p86, 0, none⟩ : Addr))), (9, .pointer (some (⟨p110, 0, none⟩ : Addr))), (54, .int .i64 ((x0.Store.Segments.length : Nat) : Int)), (55, .int .i64 ((k115 : Nat) : Int))] [iBox p110 64 K10, I18, I19, iBox p86 47 K6, I13, I14, I15, I16, I17, iBox p59 47 K7, iBox p58 34 K8, iBox p57 47 K5, I20]
       refine sr ?_
       refine wv vlss ?_
       refine nt' (CM_seq ?_)
       by_cases hl125 : k115 < x0.Store.Segments.length
       ·have g126 := dlT hl125
        refine CM_condT rfl g126 ?_
        refine CM_skip (QM_then (CM_seq (CM_block (sr (wm (wa (nt' (CM_region ?_))))))))
        refine wv (vf underlying64 rfl type25) ?_
        refine wv (vl 0 5 underlying25) ?_
        refine wm ?_
        refine WM_build (cs := [.int .i64 ((k115 : Nat) : Int)]) underlying25 type3 rfl (by decide) (by decide) rfl (by kernel_rfl) (Wd_none rfl) (by decide) (fun p127 => ?_)
        refine ap1 tInt 3 (.slice A119 d118.length c120) d118 ((k115 : Nat) : Int) [] [iBox p110 64 K10, I18, I19, iBox p86 47 K6, I13, I14, I15, I16, I17, iBox p59 47 K7, iBox p58 34 K8, iBox p57 47 K5] [.int .i64 ((k115 : Nat) : Int)] (pk [0, 13, 1, 2, 3, 4, 5, 6, 7, 8, 9, 10, 11, 12]) (fun _ _ hs => by cases (Sep.nil hs); exact (els_cons tInt_own els_nil)) underlying25 type3 (show (d118.length + 1) * 8 ≤ 140737488355328 from by first | omega | (simp only [List.length_append, List.length_cons, List.length_nil, List.length_take] at *; omega)) (fun v128 => ?_)
        refine WM_form (n := 0) rfl ?_
        rintro A129 c130 rfl m131
        refine wv (vf underlying64 rfl type25) ?_
        refine sb 5 [.int .i64 x1.Id, .int .i64 x1.Tenant, .slice A102 x1.Conds.length c103, .slice A106 x1.Out.length c107, .int .i64 x0.Store.Now, .slice A129 (d118 ++ [((k115 : Nat) : Int)]).length c130, .int .i64 0, .int .i64 0, .int .i64 x2, .slice none 0 0] [iOwn (tSl tInt 3) [.slice A129 (d118 ++ [((k115 : Nat) : Int)]).length c130] (d118 ++ [((k115 : Nat) : Int)]), I18, I19, iBox p86 47 K6, I13, I14, I15, I16, I17, iBox p59 47 K7, iBox p58 34 K8, iBox p57 47 K5] (pk [1, 0, 2, 3, 4, 5, 6, 7, 8, 9, 10, 11, 12]) type25 ?_
        refine WM_nil (QM_block_normal (QM_then (CM_region ?_)))
        refine wv (vadN k115 1 (by omega)) ?_
        refine wm (WM_nil ?_)
        have hn133 := rng_next (R := (DEngine × Bool)) (body := F1) (k := k115) (s := d118) (s' := (d118 ++ [((k115 : Nat) : Int)])) (show k115 < x0.Store.Segments.length from by omega) (rfl) hF122
        exact QM_round (k115 + 1, (d118 ++ [((k115 : Nat) : Int)]), (A129, c130)) sl6 (pk [0, 2, 3, 4, 5, 6, 7, 8, 9, 10, 11, 12, 1]) ⟨(by omega), hn133, (show (d118 ++ [((k115 : Nat) : Int)]).length ≤ 0 + (k115 + 1) from by first | omega | (simp only [List.length_append, List.length_cons, List.length_nil] at *; omega))⟩ (rl (by omega))
       ·have g126 := dlF hl125
        refine CM_condF rfl g126 ?_
        refine CM_exit (QM_then_exit (QM_then_exit ?_))
        have hE134 : R3 (x0.Store.Segments.length - 0) 0 [] = Sum.inr d118 := rng_end hl125 hF122
        refine QM_block_hit (QM_then (sr ?_))
        refine WM_build0 (E := tyActive) underlying43 type64 (Wd_none rfl) (by decide) (fun p135 => ?_)
        refine wa (nt' (CM_seq (sr ?_)))
        refine wv (vf underlying47 rfl type43) ?_
        refine wv (vl 4 4 underlying43) ?_
        refine wv (vlen underlying43) ?_
        refine wm (nt' (CM_block ?_))
        refine CM_toCk (E := tyActive) (e := 64) (v := .slice A74 x0.Active.length c75) (xs := x0.Active) (js := [iOwn (tSl tyActive 64) [.slice (some ⟨p135, 0, none⟩) 0 0] [], iBox p110 64 K10, I18, I19, iBox p86 47 K6, I13, I14, I16, I17, iBox p59 47 K7, iBox p58 34 K8, iBox p57 47 K5, I20]) (pk [7, 0, 1, 2, 3, 4, 5, 6, 8, 9, 10, 11, 12, 13]) (fun ps137 hps138 => ?_)
        have hl139 : ps137.length = x0.Active.length := by rw [← hps138, List.length_map]
        refine CM_items (fun W hm => Mem.emptyAs (E := tyActive) (F := (tCk (ckA tyActive))) rfl (hm.pick [2, 0, 1, 3, 4, 5, 6, 7, 8, 9, 10, 11, 12, 13, 14] (by decide))) ?_
        let F2 := fun k (s : Nat) => impl_AdmitQuery_b2 x0 x1 k s
        let R4 := rng (R := (DEngine × Bool)) F2
        refine CM_loop (σ := Nat × (Nat) × (Option Addr × Nat)) (fun s => [(4, .pointer (some (⟨p58, 0, none⟩ : Addr))), (6, .pointer (some (⟨p59, 0, none⟩ : Addr))), (8, .pointer (some (⟨p86, 0, none⟩ : Addr))), (9, .pointer (some (⟨p110, 0, none⟩ : Addr))), (11, .slice s.2.2.1 (List.take s.2.1 ps137).length s.2.2.2), (67, .slice A74 x0.Active.length c75), (68, .int .i64 ((x0.Active.length : Nat) : Int)), (69, .int .i64 ((s.1 : Nat) : Int))]) (fun s => [iOwn (tSl (tCk (ckA tyActive)) 64) [.slice s.2.2.1 (List.take s.2.1 ps137).length s.2.2.2] (List.take s.2.1 ps137), iOwn (tSl (tCk (ckA tyActive)) 64) [.slice A74 x0.Active.length c75] ps137, iCk tyActive ps137, iBox p110 64 K10, I18, I19, iBox p86 47 K6, I13, I14, I16, I17, iBox p59 47 K7, iBox p58 34 K8, iBox p57 47 K5, I20]) (fun s => s.1 ≤ x0.Active.length ∧ R4 (x0.Active.length - s.1) s.1 s.2.1 = R4 (x0.Active.length - 0) 0 0 ∧ s.2.1 ≤ s.1 ∧ (s.2.1 = s.1 ∨ x1.Id ≤ (gt x0.Active s.2.1).Query.Id)) (fun s => x0.Active.length - s.1) (0, 0, ((some ⟨p135, 0, none⟩), 0)) sl8 (fun W hm => hm) ⟨(by omega), rfl, Nat.le_refl _, (.inl rfl)⟩ ?_
        rintro ⟨k140, s143, ⟨A141, c142⟩⟩ H146
        obtain ⟨hk144, hF145, hi147, hi148⟩ : k140 ≤ x0.Active.length ∧ R4 (x0.Active.length - k140) k140 s143 = R4 (x0.Active.length - 0) 0 0 ∧ s143 ≤ k140 ∧ (s143 = k140 ∨ x1.Id ≤ (gt x0.Active s143).Query.Id) := H146
        show CM Tryz.prog 98 _ _ _ _ [(4, .pointer (some (⟨p58, 0, none⟩ : Addr))), (6, .pointer (some (⟨p59, 0, none⟩ : Addr))), (8, .pointer (some (⟨p86, 0, none⟩ : Addr))), (9, .pointer (some (⟨p110, 0, none⟩ : Addr))), (11, .slice A141 (List.take s143 ps137).length c142), (67, .slice A74 x0.Active.length c75), (68, .int .i64 ((x0.Active.length : Nat) : Int)), (69, .int .i64 ((k140 : Nat) : Int))] [iOwn (tSl (tCk (ckA tyActive)) 64) [.slice A141 (List.take s143 ps137).length c142] (List.take s143 ps137), iOwn (tSl (tCk (ckA tyActive)) 64) [.slice A74 x0.Active.length c75] ps137, iCk tyActive ps137, iBox p110 64 K10, I18, I19, iBox p86 47 K6, I13, I14, I16, I17, iBox p59 47 K7, iBox p58 34 K8, iBox p57 47 K5, I20]
        refine sr ?_
        refine wv vlss ?_
        refine nt' (CM_seq ?_)
        by_cases hl149 : k140 < x0.Active.length
        ·have g150 := dlT hl149
         refine CM_formO (n := 1) rfl (by omega) ?_
         rintro g151 rfl
         refine CM_ckRd (E := tyActive) (k := k140) hps138 (show k140 < x0.Active.length from by omega) (pk [2, 0, 1, 3, 4, 5, 6, 7, 8, 9, 10, 11, 12, 13, 14]) (fun _ _ r152 => ?_)
         obtain ⟨v156, v160, v164, v168, hcs153, r157, r161, r165, r169⟩ := tyActive_rd r152
         obtain ⟨_, A154, c155, rfl, _⟩ := r157
         obtain ⟨_, A158, c159, rfl, _⟩ := r161
         obtain ⟨_, A162, c163, rfl, _⟩ := r165
         obtain ⟨_, A166, c167, rfl, _⟩ := r169
         refine CM_ckOpen (E := tyActive) (e := 64) hcs153 (show k140 < x0.Active.length from by omega) (pk [1, 0, 2, 3, 4, 5, 6, 7, 8, 9, 10, 11, 12, 13, 14]) ?_
         have hal170 : (List.take s143 ps137).length ≤ s143 := List.length_take_le _ _
         refine CM_condT rfl g150 ?_
         refine CM_skip (QM_then (CM_seq (CM_block (sr ?_))))
         refine wv (vix 10 k140 underlying43 type64) ?_
         let K11 : List Value := [.int .i64 ((gt x0.Active k140).Query.Id), .int .i64 ((gt x0.Active k140).Query.Tenant), .slice A154 (gt x0.Active k140).Query.Conds.length c155, .slice A158 (gt x0.Active k140).Query.Out.length c159, .int .i64 ((gt x0.Active k140).Time), .slice A162 (gt x0.Active k140).Todo.length c163, .int .i64 ((gt x0.Active k140).Age), .int .i64 ((gt x0.Active k140).Sent), .int .i64 ((gt x0.Active k140).Cap), .slice A166 (gt x0.Active k140).Rows.length c167]
         refine wv (fun W hm => rv_loadN (cs := K11) underlying64 type64 rfl rfl (hm.focCells (i := 0) rfl rfl)) ?_
         refine WM_alloc type64 rfl (Wd_none rfl) (by decide) (fun p171 => ?_)
         let K12 : List Value := [.slice A66 x0.Store.Segments.length c67, .int .i64 x0.Store.Now, .int .i64 x0.Cursor, .slice A70 x0.Order.length c71, .slice (some ⟨g151, 0, none⟩) x0.Active.length c75, .slice A78 x0.Done.length c79, .slice A82 x0.Ledger.length c83, .int .i64 x0.Steps]
         refine sb 0 K11 [iFoc (tCk (ckA tyActive)) 64 (some ⟨g151, 0, none⟩) x0.Active.length c75 ps137 k140 K11, iOwn (tSl (tCk (ckA tyActive)) 64) [.slice A141 (List.take s143 ps137).length c142] (List.take s143 ps137), iCk tyActive ps137, iBox p110 64 K10, I18, I19, iBox p86 47 K12, I13, I14, I16, I17, iBox p59 47 K7, iBox p58 34 K8, iBox p57 47 K5, I20] (fun W hm => hm) type64 ?_
         refine nt' (sr ?_)
         refine wv (vf underlying64 rfl type34) ?_
         refine wv (fun W hm => rv_fieldA (o := 0) underlying34 rfl type3 (by decide) rfl rfl) ?_
         refine wv (vl 0 0 underlying3) ?_
         refine wv (vf underlying34 rfl type3) ?_
         refine wv (vl 13 0 underlying3) ?_
         refine wv vlss ?_
         refine nt' ?_
         by_cases h172 : ((gt x0.Active k140).Query.Id) < x1.Id
         ·have g173 := decide_eq_true h172
          refine CM_condT rfl g173 ?_
          refine CM_region (wm ?_)
          refine wv (fun W hm => rv_loadN (cs := K11) underlying64 type64 rfl rfl (hm.boxCells (n := 0) rfl)) ?_
          refine WM_build (cs := K11) underlying43 type64 rfl (by decide) (by decide) rfl (by kernel_rfl) (Wd_none rfl) (by decide) (fun p174 => ?_)
          refine ap1 (tCk (ckA tyActive)) 64 (.slice A141 (List.take s143 ps137).length c142) (List.take s143 ps137) ((K11, (gt x0.Active k140)) : List Value × DActive) [] [iBox p171 64 K11, iFoc (tCk (ckA tyActive)) 64 (some ⟨g151, 0, none⟩) x0.Active.length c75 ps137 k140 K11, iCk tyActive ps137, iBox p110 64 K10, I18, I19, iBox p86 47 K12, I13, I14, I16, I17, iBox p59 47 K7, iBox p58 34 K8, iBox p57 47 K5, I20] K11 (pk [0, 3, 1, 2, 4, 5, 6, 7, 8, 9, 10, 11, 12, 13, 14, 15, 16]) (fun _ _ hs => by cases (Sep.nil hs); exact (els_ck1 rfl rfl)) underlying43 type64 (show ((List.take s143 ps137).length + 1) * 144 ≤ 140737488355328 from by first | omega | (simp only [List.length_append, List.length_cons, List.length_nil, List.length_take] at *; omega)) (fun v175 => ?_)
          refine WM_form (n := 0) rfl ?_
          rintro A176 c177 rfl m178
          refine wa (WM_nil (QM_block_normal (QM_then (CM_region ?_))))
          refine wv (vadN k140 1 (by omega)) ?_
          refine wm (WM_nil ?_)
          refine QM_items (fun W hm => Mem.ckClose hcs153 rfl rfl (hm.pick [2, 0, 1, 3, 4, 5, 6, 7, 8, 9, 10, 11, 12, 13, 14, 15] (by decide))) ?_
          have hmk180 : s143 = k140 := by rcases hi148 with h | h; exact h; exact Classical.byContradiction fun hh => (by have := hsort s143 k140 (by omega) (by omega); omega)
          rw [ckTake hmk180 hps138 (show k140 < x0.Active.length from by omega) hcs153]
          have hn181 := rng_next (R := (DEngine × Bool)) (body := F2) (k := k140) (s := s143) (s' := (s143 + 1)) (show k140 < x0.Active.length from by omega) (cond_t g173 (rfl)) hF145
          exact QM_round (k140 + 1, (s143 + 1), (A176, c177)) sl8 (pk [1, 0, 3, 4, 5, 6, 7, 8, 9, 10, 11, 12, 13, 14, 15]) ⟨(by omega), hn181, (show (s143 + 1) ≤ (k140 + 1) from by omega), (show ((s143 + 1) = (k140 + 1) ∨ x1.Id ≤ (gt x0.Active (s143 + 1)).Query.Id) from by first | (left; omega) | (rcases hi148 with h | h; (right; rw [h]; omega); exact .inr h))⟩ (rl (by omega))
         ·have g173 := decide_eq_false h172
          refine CM_condF rfl g173 ?_
          refine CM_skip (QM_block_normal (QM_then (CM_region ?_)))
          refine wv (vadN k140 1 (by omega)) ?_
          refine wm (WM_nil ?_)
          refine QM_items (fun W hm => Mem.ckClose hcs153 rfl rfl (hm.pick [1, 0, 2, 3, 4, 5, 6, 7, 8, 9, 10, 11, 12, 13, 14, 15] (by decide))) ?_
          have hn182 := rng_next (R := (DEngine × Bool)) (body := F2) (k := k140) (s := s143) (s' := s143) (show k140 < x0.Active.length from by omega) (cond_f g173 (rfl)) hF145
          exact QM_round (k140 + 1, s143, (A141, c142)) sl8 (pk [2, 0, 3, 4, 5, 6, 7, 8, 9, 10, 11, 12, 13, 14, 15]) ⟨(by omega), hn182, (show s143 ≤ (k140 + 1) from by omega), (show (s143 = (k140 + 1) ∨ x1.Id ≤ (gt x0.Active s143).Query.Id) from by first | (left; omega) | (rcases hi148 with h | h; (right; rw [h]; omega); exact .inr h))⟩ (rl (by omega))
        ·have g150 := dlF hl149
         refine CM_condF rfl g150 ?_
         refine CM_exit (QM_then_exit (QM_then_exit ?_))
         have hE183 : R4 (x0.Active.length - 0) 0 0 = Sum.inr s143 := rng_end hl149 hF145
         have hl184 : (List.take s143 ps137).length = s143 := by rw [List.length_take]; omega
         rw [hl184]
         refine QM_block_hit (QM_then (sr (wm ?_)))
         refine wv (vlen underlying43) ?_
         refine wa (nt' (sr (wm ?_)))
         refine wv (fun W hm => rv_loadN (cs := K10) underlying64 type64 rfl rfl (hm.boxCells (n := 3) rfl)) ?_
         refine WM_build (cs := K10) underlying43 type64 rfl (by decide) (by decide) rfl (by kernel_rfl) (Wd_none rfl) (by decide) (fun p185 => ?_)
         refine ap1 (tCk (ckA tyActive)) 64 (.slice A141 s143 c142) (List.take s143 ps137) ((K10, (⟨x1, x0.Store.Now, d118, 0, 0, x2, []⟩ : DActive)) : List Value × DActive) [] [iOwn (tSl (tCk (ckA tyActive)) 64) [.slice A74 x0.Active.length c75] ps137, iCk tyActive ps137, iBox p110 64 K10, I18, I19, iBox p86 47 K6, I13, I14, I16, I17, iBox p59 47 K7, iBox p58 34 K8, iBox p57 47 K5, I20] K10 (fun W hm => hm) (fun _ _ hs => by cases (Sep.nil hs); exact (els_ck1 rfl rfl)) underlying43 type64 (show ((List.take s143 ps137).length + 1) * 144 ≤ 140737488355328 from by first | omega | (simp only [List.length_append, List.length_cons, List.length_nil, List.length_take] at *; omega)) (fun v186 => ?_)
         refine WM_form (n := 0) rfl ?_
         rintro A187 c188 rfl m189
         refine wa (nt' (CM_seq ?_))
         refine CM_items (pk [0, 1, 2, 4, 5, 6, 7, 8, 9, 10, 11, 14]) ?_
         refine CM_region (wm ?_)
         refine wv (vf underlying47 rfl type43) ?_
         refine wv (vl 5 4 underlying43) ?_
         refine wm ?_
         refine wv (fun W hm => rv_sliceLo (k := s143) (s := 10) underlying43 type64 rfl rfl rfl (by omega)) ?_
         refine apR (tCk (ckA tyActive)) (tCk (ckA tyActive)) 64 (.slice A187 ((List.take s143 ps137) ++ [((K10, (⟨x1, x0.Store.Now, d118, 0, 0, x2, []⟩ : DActive)) : List Value × DActive)]).length c188) ((List.take s143 ps137) ++ [((K10, (⟨x1, x0.Store.Now, d118, 0, 0, x2, []⟩ : DActive)) : List Value × DActive)]) (List.drop s143 ps137) [iOwn (tSl (tCk (ckA tyActive)) 64) [.slice A74 x0.Active.length c75] ps137, iCk tyActive ps137, I18, I19, iBox p86 47 K6, I13, I14, I16, I17, iBox p59 47 K7, I20] (fun W hm => hm) (fun W hm => src_flat flat_ck (rdS_drop (k := s143) (by omega) (hm.rdSI (n := 1) rfl))) underlying43 type64 (show (((List.take s143 ps137) ++ [((K10, (⟨x1, x0.Store.Now, d118, 0, 0, x2, []⟩ : DActive)) : List Value × DActive)]).length + (List.drop s143 ps137).length) * 144 ≤ 140737488355328 from by first | omega | (simp only [List.length_append, List.length_cons, List.length_nil, List.length_take, List.length_drop] at *; omega)) (fun v191 => ?_)
         refine WM_form (n := 0) rfl ?_
         rintro A192 c193 rfl m194
         refine wv (vf underlying47 rfl type43) ?_
         refine sb 4 [.slice A66 x0.Store.Segments.length c67, .int .i64 x0.Store.Now, .int .i64 x0.Cursor, .slice A70 x0.Order.length c71, .slice A192 (((List.take s143 ps137) ++ [((K10, (⟨x1, x0.Store.Now, d118, 0, 0, x2, []⟩ : DActive)) : List Value × DActive)]) ++ (List.drop s143 ps137)).length c193, .slice A78 x0.Done.length c79, .slice A82 x0.Ledger.length c83, .int .i64 x0.Steps] [iOwn (tSl (tCk (ckA tyActive)) 64) [.slice A192 (((List.take s143 ps137) ++ [((K10, (⟨x1, x0.Store.Now, d118, 0, 0, x2, []⟩ : DActive)) : List Value × DActive)]) ++ (List.drop s143 ps137)).length c193] (((List.take s143 ps137) ++ [((K10, (⟨x1, x0.Store.Now, d118, 0, 0, x2, []⟩ : DActive)) : List Value × DActive)]) ++ (List.drop s143 ps137)), iOwn (tSl (tCk (ckA tyActive)) 64) [.slice A74 x0.Active.length c75] ps137, iCk tyActive ps137, I18, I19, I13, I14, I16, I17, iBox p59 47 K7, I20] (pk [5, 0, 1, 2, 3, 4, 6, 7, 8, 9, 10, 11]) type43 ?_
         refine nt' (sr ?_)
         refine wv (fun W hm => rv_loadN (cs := [.slice A66 x0.Store.Segments.length c67, .int .i64 x0.Store.Now, .int .i64 x0.Cursor, .slice A70 x0.Order.length c71, .slice A192 (((List.take s143 ps137) ++ [((K10, (⟨x1, x0.Store.Now, d118, 0, 0, x2, []⟩ : DActive)) : List Value × DActive)]) ++ (List.drop s143 ps137)).length c193, .slice A78 x0.Done.length c79, .slice A82 x0.Ledger.length c83, .int .i64 x0.Steps]) underlying47 type47 rfl rfl (hm.boxCells (n := 0) rfl)) ?_
         refine sb 0 [.slice A66 x0.Store.Segments.length c67, .int .i64 x0.Store.Now, .int .i64 x0.Cursor, .slice A70 x0.Order.length c71, .slice A192 (((List.take s143 ps137) ++ [((K10, (⟨x1, x0.Store.Now, d118, 0, 0, x2, []⟩ : DActive)) : List Value × DActive)]) ++ (List.drop s143 ps137)).length c193, .slice A78 x0.Done.length c79, .slice A82 x0.Ledger.length c83, .int .i64 x0.Steps] [iBox p86 47 [.slice A66 x0.Store.Segments.length c67, .int .i64 x0.Store.Now, .int .i64 x0.Cursor, .slice A70 x0.Order.length c71, .slice A192 (((List.take s143 ps137) ++ [((K10, (⟨x1, x0.Store.Now, d118, 0, 0, x2, []⟩ : DActive)) : List Value × DActive)]) ++ (List.drop s143 ps137)).length c193, .slice A78 x0.Done.length c79, .slice A82 x0.Ledger.length c83, .int .i64 x0.Steps], iOwn (tSl (tCk (ckA tyActive)) 64) [.slice A192 (((List.take s143 ps137) ++ [((K10, (⟨x1, x0.Store.Now, d118, 0, 0, x2, []⟩ : DActive)) : List Value × DActive)]) ++ (List.drop s143 ps137)).length c193] (((List.take s143 ps137) ++ [((K10, (⟨x1, x0.Store.Now, d118, 0, 0, x2, []⟩ : DActive)) : List Value × DActive)]) ++ (List.drop s143 ps137)), iOwn (tSl (tCk (ckA tyActive)) 64) [.slice A74 x0.Active.length c75] ps137, iCk tyActive ps137, I18, I19, I13, I14, I16, I17, I20] (pk [10, 0, 1, 2, 3, 4, 5, 6, 7, 8, 9, 11]) type47 ?_
         refine wa (nt' (CM_ret ?_))
         refine QM_items (fun W hm => hm.addNil (E := tyRow) (e := 73)) ?_
         refine QM_items (fun W hm => Mem.ckInsert hps138 (Mem.join (is := [I18, I19, I20, iOwn (tSl tyRow 73) [.slice none 0 0] []]) (js := (iOwn (tSl (tCk (ckA tyActive)) 64) [.slice A192 (((List.take s143 ps137) ++ [((K10, (⟨x1, x0.Store.Now, d118, 0, 0, x2, []⟩ : DActive)) : List Value × DActive)]) ++ (List.drop s143 ps137)).length c193] (((List.take s143 ps137) ++ [((K10, (⟨x1, x0.Store.Now, d118, 0, 0, x2, []⟩ : DActive)) : List Value × DActive)]) ++ (List.drop s143 ps137)) :: iCk tyActive ps137 :: [iBox p59 47 [.slice A66 x0.Store.Segments.length c67, .int .i64 x0.Store.Now, .int .i64 x0.Cursor, .slice A70 x0.Order.length c71, .slice A192 (((List.take s143 ps137) ++ [((K10, (⟨x1, x0.Store.Now, d118, 0, 0, x2, []⟩ : DActive)) : List Value × DActive)]) ++ (List.drop s143 ps137)).length c193, .slice A78 x0.Done.length c79, .slice A82 x0.Ledger.length c83, .int .i64 x0.Steps], iBox p86 47 [.slice A66 x0.Store.Segments.length c67, .int .i64 x0.Store.Now, .int .i64 x0.Cursor, .slice A70 x0.Order.length c71, .slice A192 (((List.take s143 ps137) ++ [((K10, (⟨x1, x0.Store.Now, d118, 0, 0, x2, []⟩ : DActive)) : List Value × DActive)]) ++ (List.drop s143 ps137)).length c193, .slice A78 x0.Done.length c79, .slice A82 x0.Ledger.length c83, .int .i64 x0.Steps], iOwn (tSl (tCk (ckA tyActive)) 64) [.slice A74 x0.Active.length c75] ps137, I13, I14, I16, I17])) (fun _ _ hs => tyActive_join (x := (⟨x1, x0.Store.Now, d118, 0, 0, x2, []⟩ : DActive)) hs) (hm.pick [6, 7, 12, 0, 3, 5, 1, 2, 4, 8, 9, 10, 11] (by decide)))) ?_
         have hl197 : (((List.take s143 ps137) ++ [((K10, (⟨x1, x0.Store.Now, d118, 0, 0, x2, []⟩ : DActive)) : List Value × DActive)]) ++ (List.drop s143 ps137)).length = ((List.take s143 x0.Active ++ [(⟨x1, x0.Store.Now, d118, 0, 0, x2, []⟩ : DActive)]) ++ List.drop s143 x0.Active).length := by rw [← hps138]; simp only [List.length_append, List.length_take, List.length_drop, List.length_map, List.length_cons, List.length_nil]
         rw [hl197]
         have he198 := (show impl_AdmitQuery_m x0 x1 x2 = ((⟨x0.Store, x0.Cursor, x0.Order, ((List.take s143 x0.Active ++ [(⟨x1, x0.Store.Now, d118, 0, 0, x2, []⟩ : DActive)]) ++ List.drop s143 x0.Active), x0.Done, x0.Ledger, x0.Steps⟩ : DEngine), true) from cond_t g88 (cond_t g90 (cond_t g92 (cond_f g94 (cond_f g97 (fin_inr hE134 (fin_inr hE183 (rfl))))))))
         refine QM_r2 rfl (RR_cell (n := 1) rfl rfl underlying47 type47 rfl) (RR_tmp rfl) (fun W hm => ⟨[.slice A66 x0.Store.Segments.length c67, .int .i64 x0.Store.Now, .int .i64 x0.Cursor, .slice A70 x0.Order.length c71, .slice A192 ((List.take s143 x0.Active ++ [(⟨x1, x0.Store.Now, d118, 0, 0, x2, []⟩ : DActive)]) ++ List.drop s143 x0.Active).length c193, .slice A78 x0.Done.length c79, .slice A82 x0.Ledger.length c83, .int .i64 x0.Steps], ?_, ?_⟩)
         ·first | rw [he198] | rfl
          try rfl
         ·rw [he198]; exact Mem.join (is := [I13, I14, iOwn (tSl tyActive 64) [.slice A192 ((List.take s143 x0.Active ++ [(⟨x1, x0.Store.Now, d118, 0, 0, x2, []⟩ : DActive)]) ++ List.drop s143 x0.Active).length c193] ((List.take s143 x0.Active ++ [(⟨x1, x0.Store.Now, d118, 0, 0, x2, []⟩ : DActive)]) ++ List.drop s143 x0.Active), I16, I17]) (js := []) (fun _ _ hs => tyEngine_join (x := (⟨x0.Store, x0.Cursor, x0.Order, ((List.take s143 x0.Active ++ [(⟨x1, x0.Store.Now, d118, 0, 0, x2, []⟩ : DActive)]) ++ List.drop s143 x0.Active), x0.Done, x0.Ledger, x0.Steps⟩ : DEngine)) hs) (hm.pick [4, 5, 0, 6, 7] (by decide))
      ·
       refine qtD 9 0 1 rfl (fun W hm => rv_loadN (cs := K8) underlying34 type34 rfl rfl (hm.boxCells (n := 7) rfl)) ?_
       refine qtD 9 2 5 rfl (vf underlying47 rfl type42) ?_
       refine qtD 9 3 13 rfl (fun W hm => rv_fieldA (o := 1) underlying42 rfl type3 (by decide) rfl rfl) ?_
       refine qtD 9 4 29 rfl (vl 8 1 underlying3) ?_
       refine qtD 9 5 61 rfl vmv ?_
       refine qaD [1, 7] ?_
       refine qcD 9 63 rfl ?_ ?_
       ·
        refine wcs tyQuery x1 (cl_fn cb126 rfl) (fun W hm => impl_copyQuery_c2 W _ x1 (tyQuery_mk (x := x1) (hm.rdS0 r44) (hm.rdS0 r49)) s_1) (fun z199 => ?_)
        refine tyQuery_sp ?_
        rintro ⟨v200, v201⟩ rfl
        refine WM_form (n := 0) rfl ?_
        rintro A202 c203 rfl m204
        refine WM_form (n := 1) rfl ?_
        rintro A206 c207 rfl m208
        refine qnD (pk [2, 3, 4, 5, 6, 7, 8, 9, 10]) (pk [2, 3, 4, 5, 6, 7, 8, 9, 10]) ?_
        refine qtD 9 6 127 rfl (fun W hm => rv_build (cs := [.int .i64 x1.Id, .int .i64 x1.Tenant, .slice A202 x1.Conds.length c203, .slice A206 x1.Out.length c207, .int .i64 x0.Store.Now, .slice none 0 0, .int .i64 0, .int .i64 0, .int .i64 x2, .slice none 0 0]) rfl (by kernel_rfl)) ?_
        refine qoD 9 7 255 rfl ?_
        refine WM_alloc type64 rfl (Wd_none rfl) (by decide) (fun p210 => ?_)
        refine qnD (pk [3, 4, 5, 6, 7, 8, 9, 10, 11]) (pk [3, 4, 5, 6, 7, 8, 9, 10, 11]) ?_
        exact QD_sub sl6 (fun W hm => hm) (H (A202, c203, A206, c207, p210))
       refine qcD 9 189 rfl ?_ ?_
       ·
        refine WM_alloc type64 rfl (Wd_none rfl) (by decide) (fun p211 => ?_)
        refine qnD (pk [1, 2, 3, 4, 5, 6, 7, 8, 9]) (pk [1, 2, 3, 4, 5, 6, 7, 8, 9]) ?_
        refine qoD 9 1 191 rfl ?_
        refine wcs tyQuery x1 (cl_fn cb126 rfl) (fun W hm => impl_copyQuery_c2 W _ x1 (tyQuery_mk (x := x1) (hm.rdS0 r44) (hm.rdS0 r49)) s_1) (fun z212 => ?_)
        refine tyQuery_sp ?_
        rintro ⟨v213, v214⟩ rfl
        refine WM_form (n := 0) rfl ?_
        rintro A215 c216 rfl m217
        refine WM_form (n := 1) rfl ?_
        rintro A219 c220 rfl m221
        refine qnD (pk [3, 4, 5, 6, 7, 8, 9, 10, 11]) (pk [3, 4, 5, 6, 7, 8, 9, 10, 11]) ?_
        refine qtD 9 6 255 rfl (fun W hm => rv_build (cs := [.int .i64 x1.Id, .int .i64 x1.Tenant, .slice A215 x1.Conds.length c216, .slice A219 x1.Out.length c220, .int .i64 x0.Store.Now, .slice none 0 0, .int .i64 0, .int .i64 0, .int .i64 x2, .slice none 0 0]) rfl (by kernel_rfl)) ?_
        exact QD_sub sl6 (pk [2, 0, 1, 3, 4, 5, 6, 7, 8, 9, 10, 11]) (H (A215, c216, A219, c220, p211))
       exact QDs_nil
   ·
    refine ws (nf g92) ?_
    refine ws (nf g92) ?_
    refine ws (nf g92) ?_
    refine ws (nf g92) ?_
    refine ws (nf g92) ?_
    refine wv (vpT (nf g92)) ?_
    refine wm ?_
    refine wk ?_
    refine wk ?_
    refine wk ?_
    refine wk ?_
    refine wv (vpT rfl) ?_
    refine nt' ?_
    refine CM_condT rfl rfl ?_
    refine sr ?_
    refine wv (fun W hm => rv_loadN (cs := K6) underlying47 type47 rfl rfl (hm.boxCells (n := 0) rfl)) ?_
    refine sb 0 K6 [iBox p86 47 K6, I13, I14, I15, I16, I17, iBox p58 34 K8, iBox p57 47 K5] (pk [6, 0, 1, 2, 3, 4, 5, 7, 8]) type47 ?_
    refine wa (nt' (CM_ret (QM_then_ret ?_)))
    have he223 := (show impl_AdmitQuery_m x0 x1 x2 = (x0, false) from cond_t g88 (cond_t g90 (cond_f g92 (rfl))))
    refine QM_r2 rfl (RR_cell (n := 0) rfl rfl underlying47 type47 rfl) (RR_tmp rfl) (fun W hm => ⟨K6, ?_, ?_⟩)
    ·first | rw [he223] | rfl
     try rfl
    ·rw [he223]; exact Mem.join (is := [I13, I14, I15, I16, I17]) (js := []) (fun _ _ hs => tyEngine_join (x := x0) hs) (hm.pick [2, 3, 4, 5, 6] (by decide))
  ·
   refine ws (nf g90) ?_
   refine ws (nf g90) ?_
   refine ws (nf g90) ?_
   refine wv (vpT (nf g90)) ?_
   refine wm ?_
   refine wk ?_
   refine wk ?_
   refine wk ?_
   refine wk ?_
   refine wk ?_
   refine wv (vpT rfl) ?_
   refine wm ?_
   refine wk ?_
   refine wk ?_
   refine wk ?_
   refine wk ?_
   refine wv (vpT rfl) ?_
   refine nt' ?_
   refine CM_condT rfl rfl ?_
   refine sr ?_
   refine wv (fun W hm => rv_loadN (cs := K6) underlying47 type47 rfl rfl (hm.boxCells (n := 0) rfl)) ?_
   refine sb 0 K6 [iBox p86 47 K6, I13, I14, I15, I16, I17, iBox p58 34 K8, iBox p57 47 K5] (pk [6, 0, 1, 2, 3, 4, 5, 7, 8]) type47 ?_
   refine wa (nt' (CM_ret (QM_then_ret ?_)))
   have he224 := (show impl_AdmitQuery_m x0 x1 x2 = (x0, false) from cond_t g88 (cond_f g90 (rfl)))
   refine QM_r2 rfl (RR_cell (n := 0) rfl rfl underlying47 type47 rfl) (RR_tmp rfl) (fun W hm => ⟨K6, ?_, ?_⟩)
   ·first | rw [he224] | rfl
    try rfl
   ·rw [he224]; exact Mem.join (is := [I13, I14, I15, I16, I17]) (js := []) (fun _ _ hs => tyEngine_join (x := x0) hs) (hm.pick [2, 3, 4, 5, 6] (by decide))
 ·
  refine ws (nf g88) ?_
  refine ws (nf g88) ?_
  refine ws (nf g88) ?_
  refine wv (vpT (nf g88)) ?_
  refine wm ?_
  refine wk ?_
  refine wk ?_
  refine wk ?_
  refine wv (vpT rfl) ?_
  refine wm ?_
  refine wk ?_
  refine wk ?_
  refine wk ?_
  refine wk ?_
  refine wk ?_
  refine wv (vpT rfl) ?_
  refine wm ?_
  refine wk ?_
  refine wk ?_
  refine wk ?_
  refine wk ?_
  refine wv (vpT rfl) ?_
  refine nt' ?_
  refine CM_condT rfl rfl ?_
  refine sr ?_
  refine wv (fun W hm => rv_loadN (cs := K6) underlying47 type47 rfl rfl (hm.boxCells (n := 0) rfl)) ?_
  refine sb 0 K6 [iBox p86 47 K6, I13, I14, I15, I16, I17, iBox p58 34 K8, iBox p57 47 K5] (pk [6, 0, 1, 2, 3, 4, 5, 7, 8]) type47 ?_
  refine wa (nt' (CM_ret (QM_then_ret ?_)))
  have he225 := (show impl_AdmitQuery_m x0 x1 x2 = (x0, false) from cond_f g88 (rfl))
  refine QM_r2 rfl (RR_cell (n := 0) rfl rfl underlying47 type47 rfl) (RR_tmp rfl) (fun W hm => ⟨K6, ?_, ?_⟩)
  ·first | rw [he225] | rfl
   try rfl
  ·rw [he225]; exact Mem.join (is := [I13, I14, I15, I16, I17]) (js := []) (fun _ _ hs => tyEngine_join (x := x0) hs) (hm.pick [2, 3, 4, 5, 6] (by decide))

def laws_eqIntS_b1 (x0 : (List Int)) (x1 : (List Int)) (k13 : Nat) : Bool ⊕ (Unit) :=
 cond ((gt x0 k13) != (gt x1 k13)) (Sum.inl false) (Sum.inr ())
def laws_eqIntS_m (x0 : (List Int)) (x1 : (List Int)) : Bool :=
 cond (((x0.length : Nat) : Int) != ((x1.length : Nat) : Int)) false (Sum.elim id (fun (s : Unit) => true) (rng (R := Bool) (fun k (_ : Unit) => laws_eqIntS_b1 x0 x1 k) (x0.length - 0) 0 ()))
theorem cb49 : Cb Tryz.prog 49 := ⟨f49, _, func49, rfl, by decide⟩
theorem laws_eqIntS_c (w : World) (z0 : Value) (x0 : (List Int)) (z1 : Value) (x1 : (List Int)) (r_0 : rdS tInt w w.heap.size z0 x0) (r_1 : rdS tInt w w.heap.size z1 x1) :
  Calls Tryz.prog 49 #[z0, z1] w fun e w' => e = .returned (.bool (laws_eqIntS_m x0 x1)) ∧ Below w.heap.size w w' := by
 obtain ⟨m1, A2, c3, rfl, q4, r5⟩ := rdS_op r_0
 obtain ⟨m6, A7, c8, rfl, q9, r10⟩ := rdS_op r_1
 refine ce2 (L := [(0, .slice A2 x0.length c3), (1, .slice A7 x1.length c8)]) (N := 26) func49 ?_
 refine sr (wa (nt' (CM_seq (sr (wm ?_)))))
 refine wv (vlen underlying25) ?_
 refine wm ?_
 refine wv (vlen underlying25) ?_
 refine wv vneq ?_
 refine nt' ?_
 by_cases h11 : ((x0.length : Nat) : Int) = ((x1.length : Nat) : Int)
 ·have g12 : (((x0.length : Nat) : Int) != ((x1.length : Nat) : Int)) = false := by rw [h11]; exact bne_self_eq_false _
  refine CM_condF rfl g12 ?_
  refine CM_skip (QM_then (CM_seq (sr (wa (nt' (CM_block ?_))))))
  let F1 := fun k (_ : Unit) => laws_eqIntS_b1 x0 x1 k
  let R2 := rng (R := Bool) F1
  refine CM_loop (σ := Nat × (Unit) × (Unit)) (fun s => [(0, .slice A2 x0.length c3), (1, .slice A7 x1.length c8), (5, .int .i64 ((s.1 : Nat) : Int))]) (fun s => []) (fun s => s.1 ≤ x0.length ∧ R2 (x0.length - s.1) s.1 s.2.1 = R2 (x0.length - 0) 0 ()) (fun s => x0.length - s.1) (0, (), ()) sl3 (fun W hm => hm) ⟨(by omega), rfl⟩ ?_
  rintro ⟨k13, ⟨⟩, ⟨⟩⟩ H16
  obtain ⟨hk14, hF15⟩ : k13 ≤ x0.length ∧ R2 (x0.length - k13) k13 () = R2 (x0.length - 0) 0 () := H16
  show CM Tryz.prog 26 _ _ _ _ [(0, .slice A2 x0.length c3), (1, .slice A7 x1.length c8), (5, .int .i64 ((k13 : Nat) : Int))] []
  refine CM_seq (sr (wm (wm ?_)))
  refine wv (vlen underlying25) ?_
  refine wv vlss ?_
  refine nt' ?_
  by_cases hl17 : k13 < x0.length
  ·have g18 := dlT hl17
   refine CM_condT rfl g18 ?_
   refine CM_skip (QM_then (CM_seq (CM_block (CM_seq ?_))))
   refine CM_regionD (by kernel_rfl) (by kernel_rfl) ?_
   refine qm (qm ?_)
   obtain ⟨a19, rfl, hb20, he21⟩ := q4 (by omega)
   refine qv (vix 1 k13 underlying25 type3) ?_
   refine qv (fun W hm => rv_load underlying3 rfl rfl ((hm.cell0 (show (a19.add (k13 * 1)).block < w.heap.size from by rw [add_block]; exact hb20.1)).trans (rdS_int he21 k13 (by omega)))) ?_
   refine qm (qm ?_)
   obtain ⟨a22, rfl, hb23, he24⟩ := q9 (by omega)
   refine qv (vix 1 k13 underlying25 type3) ?_
   refine qv (fun W hm => rv_load underlying3 rfl rfl ((hm.cell0 (show (a22.add (k13 * 1)).block < w.heap.size from by rw [add_block]; exact hb23.1)).trans (rdS_int he24 k13 (by omega)))) ?_
   refine qv vneq ?_
   refine nq' ?_
   by_cases h25 : (gt x0 k13) = (gt x1 k13)
   ·have g26 : ((gt x0 k13) != (gt x1 k13)) = false := by rw [h25]; exact bne_self_eq_false _
    refine CM_condF rfl g26 ?_
    refine CM_skip (QM_block_normal (QM_then (CM_region (wm ?_))))
    refine wv (vadN k13 1 (by omega)) ?_
    refine wa (WM_nil ?_)
    have hn27 := rng_next (R := Bool) (body := F1) (k := k13) (s := ()) (s' := ()) (show k13 < x0.length from by omega) (cond_f g26 (rfl)) hF15
    exact QM_round (k13 + 1, (), ()) sl3 (fun W hm => hm) ⟨(by omega), hn27⟩ (rl (by omega))
   ·have g26 : ((gt x0 k13) != (gt x1 k13)) = true := bne_iff_ne.2 h25
    refine CM_condT rfl g26 ?_
    refine sr (wa (nt' (CM_ret (QM_block_ret (QM_then_ret (QM_then_ret (QM_block_ret (QM_then_ret ?_))))))))
    exact rtb (h := cond_f g12 (fin_inl (rng_ret (body := F1) (k := k13) (s := ()) (show k13 < x0.length from by omega) (cond_t g26 (rfl)) hF15) rfl))
  ·have g18 := dlF hl17
   refine CM_condF rfl g18 ?_
   refine CM_exit (QM_then_exit (QM_then_exit ?_))
   have hE28 : R2 (x0.length - 0) 0 () = Sum.inr () := rng_end hl17 hF15
   refine QM_block_hit (QM_then (sr (wa (nt' (CM_ret ?_)))))
   exact rtb (h := cond_f g12 (fin_inr hE28 (rfl)))
 ·have g12 : (((x0.length : Nat) : Int) != ((x1.length : Nat) : Int)) = true := bne_iff_ne.2 h11
  refine CM_condT rfl g12 ?_
  refine sr (wa (nt' (CM_ret (QM_then_ret ?_))))
  exact rtb (h := cond_t g12 (rfl))

def laws_eqVersion_m (x0 : DVersion) (x1 : DVersion) : Bool :=
 cond (x0.Id != x1.Id) false (cond (laws_eqIntS_m x0.Values x1.Values) (cond (x0.Born != x1.Born) false (cond (x0.Died != x1.Died) false true)) false)
theorem cb233 : Cb Tryz.prog 233 := ⟨f233, _, func233, rfl, by decide⟩
theorem laws_eqVersion_c (w : World) (z0 : List Value) (x0 : DVersion) (z1 : List Value) (x1 : DVersion) (r_0 : tyVersion.rd w w.heap.size z0 x0) (r_1 : tyVersion.rd w w.heap.size z1 x1) :
  Calls Tryz.prog 233 #[.agg z0.toArray, .agg z1.toArray] w fun e w' => e = .returned (.bool (laws_eqVersion_m x0 x1)) ∧ Below w.heap.size w w' := by
 obtain ⟨v1, rfl, r2⟩ := tyVersion_rd r_0
 obtain ⟨m3, A4, c5, rfl, q6, r7⟩ := rdS_op r2
 obtain ⟨v8, rfl, r9⟩ := tyVersion_rd r_1
 obtain ⟨m10, A11, c12, rfl, q13, r14⟩ := rdS_op r9
 refine ce2 (L := [(0, .agg #[.int .i64 x0.Id, .slice A4 x0.Values.length c5, .int .i64 x0.Born, .int .i64 x0.Died]), (1, .agg #[.int .i64 x1.Id, .slice A11 x1.Values.length c12, .int .i64 x1.Born, .int .i64 x1.Died])]) (N := 26) func233 ?_
 refine sr ?_
 refine WM_box rfl (Wd_none rfl) (by decide) (fun p15 => ?_)
 refine WM_box rfl (Wd_none rfl) (by decide) (fun p16 => ?_)
 refine wa (nt' (CM_seq (sr ?_)))
 refine wv (vf underlying191 rfl type3) ?_
 refine wv (vl 1 0 underlying3) ?_
 refine wv (vf underlying191 rfl type3) ?_
 refine wv (vl 0 0 underlying3) ?_
 refine wv vneq ?_
 refine nt' ?_
 by_cases h17 : x0.Id = x1.Id
 ·have g18 : (x0.Id != x1.Id) = false := by rw [h17]; exact bne_self_eq_false _
  refine CM_condF rfl g18 ?_
  refine CM_skip (QM_then (CM_seq (sr ?_)))
  refine wv (vf underlying191 rfl type25) ?_
  refine wv (vl 1 1 underlying25) ?_
  refine wv (vf underlying191 rfl type25) ?_
  refine wv (vl 0 1 underlying25) ?_
  refine wcv (cl_fn cb49 rfl) (fun W hm => laws_eqIntS_c W _ x0.Values _ x1.Values (hm.rdS0 r7) (hm.rdS0 r14)) ?_
  refine wv vnot ?_
  refine nt' ?_
  rcases Bool.eq_false_or_eq_true (laws_eqIntS_m x0.Values x1.Values) with g20 | g20
  ·
   refine CM_condF rfl (nt g20) ?_
   refine CM_skip (QM_then (CM_seq (sr ?_)))
   refine wv (vf underlying191 rfl type3) ?_
   refine wv (vl 1 2 underlying3) ?_
   refine wv (vf underlying191 rfl type3) ?_
   refine wv (vl 0 2 underlying3) ?_
   refine wv vneq ?_
   refine nt' ?_
   by_cases h21 : x0.Born = x1.Born
   ·have g22 : (x0.Born != x1.Born) = false := by rw [h21]; exact bne_self_eq_false _
    refine CM_condF rfl g22 ?_
    refine CM_skip (QM_then (CM_seq (sr ?_)))
    refine wv (vf underlying191 rfl type3) ?_
    refine wv (vl 1 3 underlying3) ?_
    refine wv (vf underlying191 rfl type3) ?_
    refine wv (vl 0 3 underlying3) ?_
    refine wv vneq ?_
    refine nt' ?_
    by_cases h23 : x0.Died = x1.Died
    ·have g24 : (x0.Died != x1.Died) = false := by rw [h23]; exact bne_self_eq_false _
     refine CM_condF rfl g24 ?_
     refine CM_skip (QM_then (sr (wa (nt' (CM_ret ?_)))))
     exact rtb (h := cond_f g18 (cond_t g20 (cond_f g22 (cond_f g24 (rfl)))))
    ·have g24 : (x0.Died != x1.Died) = true := bne_iff_ne.2 h23
     refine CM_condT rfl g24 ?_
     refine sr (wa (nt' (CM_ret (QM_then_ret ?_))))
     exact rtb (h := cond_f g18 (cond_t g20 (cond_f g22 (cond_t g24 (rfl)))))
   ·have g22 : (x0.Born != x1.Born) = true := bne_iff_ne.2 h21
    refine CM_condT rfl g22 ?_
    refine sr (wa (nt' (CM_ret (QM_then_ret ?_))))
    exact rtb (h := cond_f g18 (cond_t g20 (cond_t g22 (rfl))))
  ·
   refine CM_condT rfl (nf g20) ?_
   refine sr (wa (nt' (CM_ret (QM_then_ret ?_))))
   exact rtb (h := cond_f g18 (cond_f g20 (rfl)))
 ·have g18 : (x0.Id != x1.Id) = true := bne_iff_ne.2 h17
  refine CM_condT rfl g18 ?_
  refine sr (wa (nt' (CM_ret (QM_then_ret ?_))))
  exact rtb (h := cond_t g18 (rfl))

def laws_eqVersionS_b1 (x0 : (List DVersion)) (x1 : (List DVersion)) (k13 : Nat) : Bool ⊕ (Unit) :=
 cond (laws_eqVersion_m (gt x0 k13) (gt x1 k13)) (Sum.inr ()) (Sum.inl false)
def laws_eqVersionS_m (x0 : (List DVersion)) (x1 : (List DVersion)) : Bool :=
 cond (((x0.length : Nat) : Int) != ((x1.length : Nat) : Int)) false (Sum.elim id (fun (s : Unit) => true) (rng (R := Bool) (fun k (_ : Unit) => laws_eqVersionS_b1 x0 x1 k) (x0.length - 0) 0 ()))
theorem cb218 : Cb Tryz.prog 218 := ⟨f218, _, func218, rfl, by decide⟩
theorem laws_eqVersionS_c (w : World) (z0 : Value) (x0 : (List DVersion)) (z1 : Value) (x1 : (List DVersion)) (r_0 : rdS tyVersion w w.heap.size z0 x0) (r_1 : rdS tyVersion w w.heap.size z1 x1) :
  Calls Tryz.prog 218 #[z0, z1] w fun e w' => e = .returned (.bool (laws_eqVersionS_m x0 x1)) ∧ Below w.heap.size w w' := by
 obtain ⟨m1, A2, c3, rfl, q4, r5⟩ := rdS_op r_0
 obtain ⟨m6, A7, c8, rfl, q9, r10⟩ := rdS_op r_1
 refine ce2 (L := [(0, .slice A2 x0.length c3), (1, .slice A7 x1.length c8)]) (N := 27) func218 ?_
 refine sr (wa (nt' (CM_seq (sr (wm ?_)))))
 refine wv (vlen underlying131) ?_
 refine wm ?_
 refine wv (vlen underlying131) ?_
 refine wv vneq ?_
 refine nt' ?_
 by_cases h11 : ((x0.length : Nat) : Int) = ((x1.length : Nat) : Int)
 ·have g12 : (((x0.length : Nat) : Int) != ((x1.length : Nat) : Int)) = false := by rw [h11]; exact bne_self_eq_false _
  refine CM_condF rfl g12 ?_
  refine CM_skip (QM_then (CM_seq (sr (wa (nt' (CM_block ?_))))))
  let F1 := fun k (_ : Unit) => laws_eqVersionS_b1 x0 x1 k
  let R2 := rng (R := Bool) F1
  refine CM_loop (σ := Nat × (Unit) × (Unit)) (fun s => [(0, .slice A2 x0.length c3), (1, .slice A7 x1.length c8), (5, .int .i64 ((s.1 : Nat) : Int))]) (fun s => []) (fun s => s.1 ≤ x0.length ∧ R2 (x0.length - s.1) s.1 s.2.1 = R2 (x0.length - 0) 0 ()) (fun s => x0.length - s.1) (0, (), ()) sl3 (fun W hm => hm) ⟨(by omega), rfl⟩ ?_
  rintro ⟨k13, ⟨⟩, ⟨⟩⟩ H16
  obtain ⟨hk14, hF15⟩ : k13 ≤ x0.length ∧ R2 (x0.length - k13) k13 () = R2 (x0.length - 0) 0 () := H16
  show CM Tryz.prog 27 _ _ _ _ [(0, .slice A2 x0.length c3), (1, .slice A7 x1.length c8), (5, .int .i64 ((k13 : Nat) : Int))] []
  refine CM_seq (sr (wm (wm ?_)))
  refine wv (vlen underlying131) ?_
  refine wv vlss ?_
  refine nt' ?_
  by_cases hl17 : k13 < x0.length
  ·have g18 := dlT hl17
   refine CM_condT rfl g18 ?_
   refine CM_skip (QM_then (CM_seq (CM_block (CM_seq ?_))))
   refine CM_regionD (by kernel_rfl) (by kernel_rfl) ?_
   refine qm (qm ?_)
   obtain ⟨a19, rfl, hb20, he21⟩ := q4 (by omega)
   refine qv (vix 4 k13 underlying131 type191) ?_
   obtain ⟨_, e25, hc22⟩ := he21 k13 _ (gt_some (show k13 < x0.length from by omega))
   obtain ⟨v23, rfl, r24⟩ := tyVersion_rd e25
   obtain ⟨m26, A27, c28, rfl, q29, r30⟩ := rdS_op r24
   refine qv (fun W hm => rv_loadN (cs := [.int .i64 ((gt x0 k13).Id), .slice A27 ((gt x0 k13).Values).length c28, .int .i64 ((gt x0 k13).Born), .int .i64 ((gt x0 k13).Died)]) underlying191 type191 rfl rfl (hm.elCells (show (a19.add (k13 * 4)).block < w.heap.size from by rw [add_block]; exact hb20.1) hc22)) ?_
   refine qm (qm ?_)
   obtain ⟨a31, rfl, hb32, he33⟩ := q9 (by omega)
   refine qv (vix 4 k13 underlying131 type191) ?_
   obtain ⟨_, e37, hc34⟩ := he33 k13 _ (gt_some (show k13 < x1.length from by omega))
   obtain ⟨v35, rfl, r36⟩ := tyVersion_rd e37
   obtain ⟨m38, A39, c40, rfl, q41, r42⟩ := rdS_op r36
   refine qv (fun W hm => rv_loadN (cs := [.int .i64 ((gt x1 k13).Id), .slice A39 ((gt x1 k13).Values).length c40, .int .i64 ((gt x1 k13).Born), .int .i64 ((gt x1 k13).Died)]) underlying191 type191 rfl rfl (hm.elCells (show (a31.add (k13 * 4)).block < w.heap.size from by rw [add_block]; exact hb32.1) hc34)) ?_
   refine QR_callV (cl_fn cb233 rfl) (fun W hm => laws_eqVersion_c W _ (gt x0 k13) _ (gt x1 k13) (tyVersion_mk (x := (gt x0 k13)) (hm.rdS0 r30)) (tyVersion_mk (x := (gt x1 k13)) (hm.rdS0 r42))) (Wd_none rfl) (by decide) ?_
   refine qv vnot ?_
   refine nq' ?_
   rcases Bool.eq_false_or_eq_true (laws_eqVersion_m (gt x0 k13) (gt x1 k13)) with g44 | g44
   ·
    refine CM_condF rfl (nt g44) ?_
    refine CM_skip (QM_block_normal (QM_then (CM_region (wm ?_))))
    refine wv (vadN k13 1 (by omega)) ?_
    refine wa (WM_nil ?_)
    have hn45 := rng_next (R := Bool) (body := F1) (k := k13) (s := ()) (s' := ()) (show k13 < x0.length from by omega) (cond_t g44 (rfl)) hF15
    exact QM_round (k13 + 1, (), ()) sl3 (fun W hm => hm) ⟨(by omega), hn45⟩ (rl (by omega))
   ·
    refine CM_condT rfl (nf g44) ?_
    refine sr (wa (nt' (CM_ret (QM_block_ret (QM_then_ret (QM_then_ret (QM_block_ret (QM_then_ret ?_))))))))
    exact rtb (h := cond_f g12 (fin_inl (rng_ret (body := F1) (k := k13) (s := ()) (show k13 < x0.length from by omega) (cond_f g44 (rfl)) hF15) rfl))
  ·have g18 := dlF hl17
   refine CM_condF rfl g18 ?_
   refine CM_exit (QM_then_exit (QM_then_exit ?_))
   have hE46 : R2 (x0.length - 0) 0 () = Sum.inr () := rng_end hl17 hF15
   refine QM_block_hit (QM_then (sr (wa (nt' (CM_ret ?_)))))
   exact rtb (h := cond_f g12 (fin_inr hE46 (rfl)))
 ·have g12 : (((x0.length : Nat) : Int) != ((x1.length : Nat) : Int)) = true := bne_iff_ne.2 h11
  refine CM_condT rfl g12 ?_
  refine sr (wa (nt' (CM_ret (QM_then_ret ?_))))
  exact rtb (h := cond_t g12 (rfl))

def laws_eqVersionSS_b1 (x0 : (List (List DVersion))) (x1 : (List (List DVersion))) (k13 : Nat) : Bool ⊕ (Unit) :=
 cond (laws_eqVersionS_m (gt x0 k13) (gt x1 k13)) (Sum.inr ()) (Sum.inl false)
def laws_eqVersionSS_m (x0 : (List (List DVersion))) (x1 : (List (List DVersion))) : Bool :=
 cond (((x0.length : Nat) : Int) != ((x1.length : Nat) : Int)) false (Sum.elim id (fun (s : Unit) => true) (rng (R := Bool) (fun k (_ : Unit) => laws_eqVersionSS_b1 x0 x1 k) (x0.length - 0) 0 ()))
theorem cb167 : Cb Tryz.prog 167 := ⟨f167, _, func167, rfl, by decide⟩
theorem laws_eqVersionSS_c (w : World) (z0 : Value) (x0 : (List (List DVersion))) (z1 : Value) (x1 : (List (List DVersion))) (r_0 : rdS (tSl tyVersion 191) w w.heap.size z0 x0) (r_1 : rdS (tSl tyVersion 191) w w.heap.size z1 x1) :
  Calls Tryz.prog 167 #[z0, z1] w fun e w' => e = .returned (.bool (laws_eqVersionSS_m x0 x1)) ∧ Below w.heap.size w w' := by
 obtain ⟨m1, A2, c3, rfl, q4, r5⟩ := rdS_op r_0
 obtain ⟨m6, A7, c8, rfl, q9, r10⟩ := rdS_op r_1
 refine ce2 (L := [(0, .slice A2 x0.length c3), (1, .slice A7 x1.length c8)]) (N := 27) func167 ?_
 refine sr (wa (nt' (CM_seq (sr (wm ?_)))))
 refine wv (vlen underlying40) ?_
 refine wm ?_
 refine wv (vlen underlying40) ?_
 refine wv vneq ?_
 refine nt' ?_
 by_cases h11 : ((x0.length : Nat) : Int) = ((x1.length : Nat) : Int)
 ·have g12 : (((x0.length : Nat) : Int) != ((x1.length : Nat) : Int)) = false := by rw [h11]; exact bne_self_eq_false _
  refine CM_condF rfl g12 ?_
  refine CM_skip (QM_then (CM_seq (sr (wa (nt' (CM_block ?_))))))
  let F1 := fun k (_ : Unit) => laws_eqVersionSS_b1 x0 x1 k
  let R2 := rng (R := Bool) F1
  refine CM_loop (σ := Nat × (Unit) × (Unit)) (fun s => [(0, .slice A2 x0.length c3), (1, .slice A7 x1.length c8), (5, .int .i64 ((s.1 : Nat) : Int))]) (fun s => []) (fun s => s.1 ≤ x0.length ∧ R2 (x0.length - s.1) s.1 s.2.1 = R2 (x0.length - 0) 0 ()) (fun s => x0.length - s.1) (0, (), ()) sl3 (fun W hm => hm) ⟨(by omega), rfl⟩ ?_
  rintro ⟨k13, ⟨⟩, ⟨⟩⟩ H16
  obtain ⟨hk14, hF15⟩ : k13 ≤ x0.length ∧ R2 (x0.length - k13) k13 () = R2 (x0.length - 0) 0 () := H16
  show CM Tryz.prog 27 _ _ _ _ [(0, .slice A2 x0.length c3), (1, .slice A7 x1.length c8), (5, .int .i64 ((k13 : Nat) : Int))] []
  refine CM_seq (sr (wm (wm ?_)))
  refine wv (vlen underlying40) ?_
  refine wv vlss ?_
  refine nt' ?_
  by_cases hl17 : k13 < x0.length
  ·have g18 := dlT hl17
   refine CM_condT rfl g18 ?_
   refine CM_skip (QM_then (CM_seq (CM_block (CM_seq ?_))))
   refine CM_regionD (by kernel_rfl) (by kernel_rfl) ?_
   refine qm (qm ?_)
   obtain ⟨a19, rfl, hb20, he21⟩ := q4 (by omega)
   refine qv (vix 1 k13 underlying40 type131) ?_
   obtain ⟨_, e23, hc22⟩ := he21 k13 _ (gt_some (show k13 < x0.length from by omega))
   obtain ⟨v24, rfl, r25⟩ := e23
   obtain ⟨m26, A27, c28, rfl, q29, r30⟩ := rdS_op r25
   refine qv (fun W hm => rv_load underlying131 rfl rfl ((hm.cell0 (show (a19.add (k13 * 1)).block < w.heap.size from by rw [add_block]; exact hb20.1)).trans (hc22 0 _ rfl))) ?_
   refine qm (qm ?_)
   obtain ⟨a31, rfl, hb32, he33⟩ := q9 (by omega)
   refine qv (vix 1 k13 underlying40 type131) ?_
   obtain ⟨_, e35, hc34⟩ := he33 k13 _ (gt_some (show k13 < x1.length from by omega))
   obtain ⟨v36, rfl, r37⟩ := e35
   obtain ⟨m38, A39, c40, rfl, q41, r42⟩ := rdS_op r37
   refine qv (fun W hm => rv_load underlying131 rfl rfl ((hm.cell0 (show (a31.add (k13 * 1)).block < w.heap.size from by rw [add_block]; exact hb32.1)).trans (hc34 0 _ rfl))) ?_
   refine QR_callV (cl_fn cb218 rfl) (fun W hm => laws_eqVersionS_c W _ (gt x0 k13) _ (gt x1 k13) (hm.rdS0 r30) (hm.rdS0 r42)) (Wd_none rfl) (by decide) ?_
   refine qv vnot ?_
   refine nq' ?_
   rcases Bool.eq_false_or_eq_true (laws_eqVersionS_m (gt x0 k13) (gt x1 k13)) with g44 | g44
   ·
    refine CM_condF rfl (nt g44) ?_
    refine CM_skip (QM_block_normal (QM_then (CM_region (wm ?_))))
    refine wv (vadN k13 1 (by omega)) ?_
    refine wa (WM_nil ?_)
    have hn45 := rng_next (R := Bool) (body := F1) (k := k13) (s := ()) (s' := ()) (show k13 < x0.length from by omega) (cond_t g44 (rfl)) hF15
    exact QM_round (k13 + 1, (), ()) sl3 (fun W hm => hm) ⟨(by omega), hn45⟩ (rl (by omega))
   ·
    refine CM_condT rfl (nf g44) ?_
    refine sr (wa (nt' (CM_ret (QM_block_ret (QM_then_ret (QM_then_ret (QM_block_ret (QM_then_ret ?_))))))))
    exact rtb (h := cond_f g12 (fin_inl (rng_ret (body := F1) (k := k13) (s := ()) (show k13 < x0.length from by omega) (cond_f g44 (rfl)) hF15) rfl))
  ·have g18 := dlF hl17
   refine CM_condF rfl g18 ?_
   refine CM_exit (QM_then_exit (QM_then_exit ?_))
   have hE46 : R2 (x0.length - 0) 0 () = Sum.inr () := rng_end hl17 hF15
   refine QM_block_hit (QM_then (sr (wa (nt' (CM_ret ?_)))))
   exact rtb (h := cond_f g12 (fin_inr hE46 (rfl)))
 ·have g12 : (((x0.length : Nat) : Int) != ((x1.length : Nat) : Int)) = true := bne_iff_ne.2 h11
  refine CM_condT rfl g12 ?_
  refine sr (wa (nt' (CM_ret (QM_then_ret ?_))))
  exact rtb (h := cond_t g12 (rfl))

def laws_eqStore_m (x0 : DStore) (x1 : DStore) : Bool :=
 cond (laws_eqVersionSS_m x0.Segments x1.Segments) (cond (x0.Now != x1.Now) false true) false
theorem cb88 : Cb Tryz.prog 88 := ⟨f88, _, func88, rfl, by decide⟩
theorem laws_eqStore_c (w : World) (z0 : List Value) (x0 : DStore) (z1 : List Value) (x1 : DStore) (r_0 : tyStore.rd w w.heap.size z0 x0) (r_1 : tyStore.rd w w.heap.size z1 x1) :
  Calls Tryz.prog 88 #[.agg z0.toArray, .agg z1.toArray] w fun e w' => e = .returned (.bool (laws_eqStore_m x0 x1)) ∧ Below w.heap.size w w' := by
 obtain ⟨v1, rfl, r2⟩ := tyStore_rd r_0
 obtain ⟨m3, A4, c5, rfl, q6, r7⟩ := rdS_op r2
 obtain ⟨v8, rfl, r9⟩ := tyStore_rd r_1
 obtain ⟨m10, A11, c12, rfl, q13, r14⟩ := rdS_op r9
 refine ce2 (L := [(0, .agg #[.slice A4 x0.Segments.length c5, .int .i64 x0.Now]), (1, .agg #[.slice A11 x1.Segments.length c12, .int .i64 x1.Now])]) (N := 16) func88 ?_
 refine sr ?_
 refine WM_box rfl (Wd_none rfl) (by decide) (fun p15 => ?_)
 refine WM_box rfl (Wd_none rfl) (by decide) (fun p16 => ?_)
 refine wa (nt' (CM_seq (sr ?_)))
 refine wv (vf underlying42 rfl type40) ?_
 refine wv (vl 1 0 underlying40) ?_
 refine wv (vf underlying42 rfl type40) ?_
 refine wv (vl 0 0 underlying40) ?_
 refine wcv (cl_fn cb167 rfl) (fun W hm => laws_eqVersionSS_c W _ x0.Segments _ x1.Segments (hm.rdS0 r7) (hm.rdS0 r14)) ?_
 refine wv vnot ?_
 refine nt' ?_
 rcases Bool.eq_false_or_eq_true (laws_eqVersionSS_m x0.Segments x1.Segments) with g18 | g18
 ·
  refine CM_condF rfl (nt g18) ?_
  refine CM_skip (QM_then (CM_seq (sr ?_)))
  refine wv (vf underlying42 rfl type3) ?_
  refine wv (vl 1 1 underlying3) ?_
  refine wv (vf underlying42 rfl type3) ?_
  refine wv (vl 0 1 underlying3) ?_
  refine wv vneq ?_
  refine nt' ?_
  by_cases h19 : x0.Now = x1.Now
  ·have g20 : (x0.Now != x1.Now) = false := by rw [h19]; exact bne_self_eq_false _
   refine CM_condF rfl g20 ?_
   refine CM_skip (QM_then (sr (wa (nt' (CM_ret ?_)))))
   exact rtb (h := cond_t g18 (cond_f g20 (rfl)))
  ·have g20 : (x0.Now != x1.Now) = true := bne_iff_ne.2 h19
   refine CM_condT rfl g20 ?_
   refine sr (wa (nt' (CM_ret (QM_then_ret ?_))))
   exact rtb (h := cond_t g18 (cond_t g20 (rfl)))
 ·
  refine CM_condT rfl (nf g18) ?_
  refine sr (wa (nt' (CM_ret (QM_then_ret ?_))))
  exact rtb (h := cond_f g18 (rfl))

def laws_eqCond_m (x0 : DCond) (x1 : DCond) : Bool :=
 cond (x0.Field != x1.Field) false (cond (x0.Low != x1.Low) false (cond (x0.High != x1.High) false true))
theorem cb204 : Cb Tryz.prog 204 := ⟨f204, _, func204, rfl, by decide⟩
theorem laws_eqCond_c (w : World) (z0 : List Value) (x0 : DCond) (z1 : List Value) (x1 : DCond) (r_0 : tyCond.rd w w.heap.size z0 x0) (r_1 : tyCond.rd w w.heap.size z1 x1) :
  Calls Tryz.prog 204 #[.agg z0.toArray, .agg z1.toArray] w fun e w' => e = .returned (.bool (laws_eqCond_m x0 x1)) ∧ Below w.heap.size w w' := by
 obtain rfl := tyCond_rd r_0
 obtain rfl := tyCond_rd r_1
 refine ce2 (L := [(0, .agg #[.int .i64 x0.Field, .int .i64 x0.Low, .int .i64 x0.High]), (1, .agg #[.int .i64 x1.Field, .int .i64 x1.Low, .int .i64 x1.High])]) (N := 20) func204 ?_
 refine sr ?_
 refine WM_box rfl (Wd_none rfl) (by decide) (fun p1 => ?_)
 refine WM_box rfl (Wd_none rfl) (by decide) (fun p2 => ?_)
 refine wa (nt' (CM_seq (sr ?_)))
 refine wv (vf underlying201 rfl type3) ?_
 refine wv (vl 1 0 underlying3) ?_
 refine wv (vf underlying201 rfl type3) ?_
 refine wv (vl 0 0 underlying3) ?_
 refine wv vneq ?_
 refine nt' ?_
 by_cases h3 : x0.Field = x1.Field
 ·have g4 : (x0.Field != x1.Field) = false := by rw [h3]; exact bne_self_eq_false _
  refine CM_condF rfl g4 ?_
  refine CM_skip (QM_then (CM_seq (sr ?_)))
  refine wv (vf underlying201 rfl type3) ?_
  refine wv (vl 1 1 underlying3) ?_
  refine wv (vf underlying201 rfl type3) ?_
  refine wv (vl 0 1 underlying3) ?_
  refine wv vneq ?_
  refine nt' ?_
  by_cases h5 : x0.Low = x1.Low
  ·have g6 : (x0.Low != x1.Low) = false := by rw [h5]; exact bne_self_eq_false _
   refine CM_condF rfl g6 ?_
   refine CM_skip (QM_then (CM_seq (sr ?_)))
   refine wv (vf underlying201 rfl type3) ?_
   refine wv (vl 1 2 underlying3) ?_
   refine wv (vf underlying201 rfl type3) ?_
   refine wv (vl 0 2 underlying3) ?_
   refine wv vneq ?_
   refine nt' ?_
   by_cases h7 : x0.High = x1.High
   ·have g8 : (x0.High != x1.High) = false := by rw [h7]; exact bne_self_eq_false _
    refine CM_condF rfl g8 ?_
    refine CM_skip (QM_then (sr (wa (nt' (CM_ret ?_)))))
    exact rtb (h := cond_f g4 (cond_f g6 (cond_f g8 (rfl))))
   ·have g8 : (x0.High != x1.High) = true := bne_iff_ne.2 h7
    refine CM_condT rfl g8 ?_
    refine sr (wa (nt' (CM_ret (QM_then_ret ?_))))
    exact rtb (h := cond_f g4 (cond_f g6 (cond_t g8 (rfl))))
  ·have g6 : (x0.Low != x1.Low) = true := bne_iff_ne.2 h5
   refine CM_condT rfl g6 ?_
   refine sr (wa (nt' (CM_ret (QM_then_ret ?_))))
   exact rtb (h := cond_f g4 (cond_t g6 (rfl)))
 ·have g4 : (x0.Field != x1.Field) = true := bne_iff_ne.2 h3
  refine CM_condT rfl g4 ?_
  refine sr (wa (nt' (CM_ret (QM_then_ret ?_))))
  exact rtb (h := cond_t g4 (rfl))

def laws_eqCondS_b1 (x0 : (List DCond)) (x1 : (List DCond)) (k13 : Nat) : Bool ⊕ (Unit) :=
 cond (laws_eqCond_m (gt x0 k13) (gt x1 k13)) (Sum.inr ()) (Sum.inl false)
def laws_eqCondS_m (x0 : (List DCond)) (x1 : (List DCond)) : Bool :=
 cond (((x0.length : Nat) : Int) != ((x1.length : Nat) : Int)) false (Sum.elim id (fun (s : Unit) => true) (rng (R := Bool) (fun k (_ : Unit) => laws_eqCondS_b1 x0 x1 k) (x0.length - 0) 0 ()))
theorem cb145 : Cb Tryz.prog 145 := ⟨f145, _, func145, rfl, by decide⟩
theorem laws_eqCondS_c (w : World) (z0 : Value) (x0 : (List DCond)) (z1 : Value) (x1 : (List DCond)) (r_0 : rdS tyCond w w.heap.size z0 x0) (r_1 : rdS tyCond w w.heap.size z1 x1) :
  Calls Tryz.prog 145 #[z0, z1] w fun e w' => e = .returned (.bool (laws_eqCondS_m x0 x1)) ∧ Below w.heap.size w w' := by
 obtain ⟨m1, A2, c3, rfl, q4, r5⟩ := rdS_op r_0
 obtain ⟨m6, A7, c8, rfl, q9, r10⟩ := rdS_op r_1
 refine ce2 (L := [(0, .slice A2 x0.length c3), (1, .slice A7 x1.length c8)]) (N := 27) func145 ?_
 refine sr (wa (nt' (CM_seq (sr (wm ?_)))))
 refine wv (vlen underlying32) ?_
 refine wm ?_
 refine wv (vlen underlying32) ?_
 refine wv vneq ?_
 refine nt' ?_
 by_cases h11 : ((x0.length : Nat) : Int) = ((x1.length : Nat) : Int)
 ·have g12 : (((x0.length : Nat) : Int) != ((x1.length : Nat) : Int)) = false := by rw [h11]; exact bne_self_eq_false _
  refine CM_condF rfl g12 ?_
  refine CM_skip (QM_then (CM_seq (sr (wa (nt' (CM_block ?_))))))
  let F1 := fun k (_ : Unit) => laws_eqCondS_b1 x0 x1 k
  let R2 := rng (R := Bool) F1
  refine CM_loop (σ := Nat × (Unit) × (Unit)) (fun s => [(0, .slice A2 x0.length c3), (1, .slice A7 x1.length c8), (5, .int .i64 ((s.1 : Nat) : Int))]) (fun s => []) (fun s => s.1 ≤ x0.length ∧ R2 (x0.length - s.1) s.1 s.2.1 = R2 (x0.length - 0) 0 ()) (fun s => x0.length - s.1) (0, (), ()) sl3 (fun W hm => hm) ⟨(by omega), rfl⟩ ?_
  rintro ⟨k13, ⟨⟩, ⟨⟩⟩ H16
  obtain ⟨hk14, hF15⟩ : k13 ≤ x0.length ∧ R2 (x0.length - k13) k13 () = R2 (x0.length - 0) 0 () := H16
  show CM Tryz.prog 27 _ _ _ _ [(0, .slice A2 x0.length c3), (1, .slice A7 x1.length c8), (5, .int .i64 ((k13 : Nat) : Int))] []
  refine CM_seq (sr (wm (wm ?_)))
  refine wv (vlen underlying32) ?_
  refine wv vlss ?_
  refine nt' ?_
  by_cases hl17 : k13 < x0.length
  ·have g18 := dlT hl17
   refine CM_condT rfl g18 ?_
   refine CM_skip (QM_then (CM_seq (CM_block (CM_seq ?_))))
   refine CM_regionD (by kernel_rfl) (by kernel_rfl) ?_
   refine qm (qm ?_)
   obtain ⟨a19, rfl, hb20, he21⟩ := q4 (by omega)
   refine qv (vix 3 k13 underlying32 type201) ?_
   obtain ⟨_, e23, hc22⟩ := he21 k13 _ (gt_some (show k13 < x0.length from by omega))
   obtain rfl := tyCond_rd e23
   refine qv (fun W hm => rv_loadN (cs := [.int .i64 ((gt x0 k13).Field), .int .i64 ((gt x0 k13).Low), .int .i64 ((gt x0 k13).High)]) underlying201 type201 rfl rfl (hm.elCells (show (a19.add (k13 * 3)).block < w.heap.size from by rw [add_block]; exact hb20.1) hc22)) ?_
   refine qm (qm ?_)
   obtain ⟨a24, rfl, hb25, he26⟩ := q9 (by omega)
   refine qv (vix 3 k13 underlying32 type201) ?_
   obtain ⟨_, e28, hc27⟩ := he26 k13 _ (gt_some (show k13 < x1.length from by omega))
   obtain rfl := tyCond_rd e28
   refine qv (fun W hm => rv_loadN (cs := [.int .i64 ((gt x1 k13).Field), .int .i64 ((gt x1 k13).Low), .int .i64 ((gt x1 k13).High)]) underlying201 type201 rfl rfl (hm.elCells (show (a24.add (k13 * 3)).block < w.heap.size from by rw [add_block]; exact hb25.1) hc27)) ?_
   refine QR_callV (cl_fn cb204 rfl) (fun W hm => laws_eqCond_c W _ (gt x0 k13) _ (gt x1 k13) (tyCond_mk (x := (gt x0 k13))) (tyCond_mk (x := (gt x1 k13)))) (Wd_none rfl) (by decide) ?_
   refine qv vnot ?_
   refine nq' ?_
   rcases Bool.eq_false_or_eq_true (laws_eqCond_m (gt x0 k13) (gt x1 k13)) with g30 | g30
   ·
    refine CM_condF rfl (nt g30) ?_
    refine CM_skip (QM_block_normal (QM_then (CM_region (wm ?_))))
    refine wv (vadN k13 1 (by omega)) ?_
    refine wa (WM_nil ?_)
    have hn31 := rng_next (R := Bool) (body := F1) (k := k13) (s := ()) (s' := ()) (show k13 < x0.length from by omega) (cond_t g30 (rfl)) hF15
    exact QM_round (k13 + 1, (), ()) sl3 (fun W hm => hm) ⟨(by omega), hn31⟩ (rl (by omega))
   ·
    refine CM_condT rfl (nf g30) ?_
    refine sr (wa (nt' (CM_ret (QM_block_ret (QM_then_ret (QM_then_ret (QM_block_ret (QM_then_ret ?_))))))))
    exact rtb (h := cond_f g12 (fin_inl (rng_ret (body := F1) (k := k13) (s := ()) (show k13 < x0.length from by omega) (cond_f g30 (rfl)) hF15) rfl))
  ·have g18 := dlF hl17
   refine CM_condF rfl g18 ?_
   refine CM_exit (QM_then_exit (QM_then_exit ?_))
   have hE32 : R2 (x0.length - 0) 0 () = Sum.inr () := rng_end hl17 hF15
   refine QM_block_hit (QM_then (sr (wa (nt' (CM_ret ?_)))))
   exact rtb (h := cond_f g12 (fin_inr hE32 (rfl)))
 ·have g12 : (((x0.length : Nat) : Int) != ((x1.length : Nat) : Int)) = true := bne_iff_ne.2 h11
  refine CM_condT rfl g12 ?_
  refine sr (wa (nt' (CM_ret (QM_then_ret ?_))))
  exact rtb (h := cond_t g12 (rfl))

def laws_eqQuery_m (x0 : DQuery) (x1 : DQuery) : Bool :=
 cond (x0.Id != x1.Id) false (cond (x0.Tenant != x1.Tenant) false (cond (laws_eqCondS_m x0.Conds x1.Conds) (cond (laws_eqIntS_m x0.Out x1.Out) true false) false))
theorem cb54 : Cb Tryz.prog 54 := ⟨f54, _, func54, rfl, by decide⟩
theorem laws_eqQuery_c (w : World) (z0 : List Value) (x0 : DQuery) (z1 : List Value) (x1 : DQuery) (r_0 : tyQuery.rd w w.heap.size z0 x0) (r_1 : tyQuery.rd w w.heap.size z1 x1) :
  Calls Tryz.prog 54 #[.agg z0.toArray, .agg z1.toArray] w fun e w' => e = .returned (.bool (laws_eqQuery_m x0 x1)) ∧ Below w.heap.size w w' := by
 obtain ⟨v1, v3, rfl, r2, r4⟩ := tyQuery_rd r_0
 obtain ⟨m5, A6, c7, rfl, q8, r9⟩ := rdS_op r2
 obtain ⟨m10, A11, c12, rfl, q13, r14⟩ := rdS_op r4
 obtain ⟨v15, v17, rfl, r16, r18⟩ := tyQuery_rd r_1
 obtain ⟨m19, A20, c21, rfl, q22, r23⟩ := rdS_op r16
 obtain ⟨m24, A25, c26, rfl, q27, r28⟩ := rdS_op r18
 refine ce2 (L := [(0, .agg #[.int .i64 x0.Id, .int .i64 x0.Tenant, .slice A6 x0.Conds.length c7, .slice A11 x0.Out.length c12]), (1, .agg #[.int .i64 x1.Id, .int .i64 x1.Tenant, .slice A20 x1.Conds.length c21, .slice A25 x1.Out.length c26])]) (N := 27) func54 ?_
 refine sr ?_
 refine WM_box rfl (Wd_none rfl) (by decide) (fun p29 => ?_)
 refine WM_box rfl (Wd_none rfl) (by decide) (fun p30 => ?_)
 refine wa (nt' (CM_seq (sr ?_)))
 refine wv (vf underlying34 rfl type3) ?_
 refine wv (vl 1 0 underlying3) ?_
 refine wv (vf underlying34 rfl type3) ?_
 refine wv (vl 0 0 underlying3) ?_
 refine wv vneq ?_
 refine nt' ?_
 by_cases h31 : x0.Id = x1.Id
 ·have g32 : (x0.Id != x1.Id) = false := by rw [h31]; exact bne_self_eq_false _
  refine CM_condF rfl g32 ?_
  refine CM_skip (QM_then (CM_seq (sr ?_)))
  refine wv (vf underlying34 rfl type3) ?_
  refine wv (vl 1 1 underlying3) ?_
  refine wv (vf underlying34 rfl type3) ?_
  refine wv (vl 0 1 underlying3) ?_
  refine wv vneq ?_
  refine nt' ?_
  by_cases h33 : x0.Tenant = x1.Tenant
  ·have g34 : (x0.Tenant != x1.Tenant) = false := by rw [h33]; exact bne_self_eq_false _
   refine CM_condF rfl g34 ?_
   refine CM_skip (QM_then (CM_seq (sr ?_)))
   refine wv (vf underlying34 rfl type32) ?_
   refine wv (vl 1 2 underlying32) ?_
   refine wv (vf underlying34 rfl type32) ?_
   refine wv (vl 0 2 underlying32) ?_
   refine wcv (cl_fn cb145 rfl) (fun W hm => laws_eqCondS_c W _ x0.Conds _ x1.Conds (hm.rdS0 r9) (hm.rdS0 r23)) ?_
   refine wv vnot ?_
   refine nt' ?_
   rcases Bool.eq_false_or_eq_true (laws_eqCondS_m x0.Conds x1.Conds) with g36 | g36
   ·
    refine CM_condF rfl (nt g36) ?_
    refine CM_skip (QM_then (CM_seq (sr ?_)))
    refine wv (vf underlying34 rfl type25) ?_
    refine wv (vl 1 3 underlying25) ?_
    refine wv (vf underlying34 rfl type25) ?_
    refine wv (vl 0 3 underlying25) ?_
    refine wcv (cl_fn cb49 rfl) (fun W hm => laws_eqIntS_c W _ x0.Out _ x1.Out (hm.rdS0 r14) (hm.rdS0 r28)) ?_
    refine wv vnot ?_
    refine nt' ?_
    rcases Bool.eq_false_or_eq_true (laws_eqIntS_m x0.Out x1.Out) with g38 | g38
    ·
     refine CM_condF rfl (nt g38) ?_
     refine CM_skip (QM_then (sr (wa (nt' (CM_ret ?_)))))
     exact rtb (h := cond_f g32 (cond_f g34 (cond_t g36 (cond_t g38 (rfl)))))
    ·
     refine CM_condT rfl (nf g38) ?_
     refine sr (wa (nt' (CM_ret (QM_then_ret ?_))))
     exact rtb (h := cond_f g32 (cond_f g34 (cond_t g36 (cond_f g38 (rfl)))))
   ·
    refine CM_condT rfl (nf g36) ?_
    refine sr (wa (nt' (CM_ret (QM_then_ret ?_))))
    exact rtb (h := cond_f g32 (cond_f g34 (cond_f g36 (rfl))))
  ·have g34 : (x0.Tenant != x1.Tenant) = true := bne_iff_ne.2 h33
   refine CM_condT rfl g34 ?_
   refine sr (wa (nt' (CM_ret (QM_then_ret ?_))))
   exact rtb (h := cond_f g32 (cond_t g34 (rfl)))
 ·have g32 : (x0.Id != x1.Id) = true := bne_iff_ne.2 h31
  refine CM_condT rfl g32 ?_
  refine sr (wa (nt' (CM_ret (QM_then_ret ?_))))
  exact rtb (h := cond_t g32 (rfl))

def laws_eqRow_m (x0 : DRow) (x1 : DRow) : Bool :=
 cond (x0.Id != x1.Id) false (cond (laws_eqIntS_m x0.Values x1.Values) true false)
theorem cb149 : Cb Tryz.prog 149 := ⟨f149, _, func149, rfl, by decide⟩
theorem laws_eqRow_c (w : World) (z0 : List Value) (x0 : DRow) (z1 : List Value) (x1 : DRow) (r_0 : tyRow.rd w w.heap.size z0 x0) (r_1 : tyRow.rd w w.heap.size z1 x1) :
  Calls Tryz.prog 149 #[.agg z0.toArray, .agg z1.toArray] w fun e w' => e = .returned (.bool (laws_eqRow_m x0 x1)) ∧ Below w.heap.size w w' := by
 obtain ⟨v1, rfl, r2⟩ := tyRow_rd r_0
 obtain ⟨m3, A4, c5, rfl, q6, r7⟩ := rdS_op r2
 obtain ⟨v8, rfl, r9⟩ := tyRow_rd r_1
 obtain ⟨m10, A11, c12, rfl, q13, r14⟩ := rdS_op r9
 refine ce2 (L := [(0, .agg #[.int .i64 x0.Id, .slice A4 x0.Values.length c5]), (1, .agg #[.int .i64 x1.Id, .slice A11 x1.Values.length c12])]) (N := 16) func149 ?_
 refine sr ?_
 refine WM_box rfl (Wd_none rfl) (by decide) (fun p15 => ?_)
 refine WM_box rfl (Wd_none rfl) (by decide) (fun p16 => ?_)
 refine wa (nt' (CM_seq (sr ?_)))
 refine wv (vf underlying73 rfl type3) ?_
 refine wv (vl 1 0 underlying3) ?_
 refine wv (vf underlying73 rfl type3) ?_
 refine wv (vl 0 0 underlying3) ?_
 refine wv vneq ?_
 refine nt' ?_
 by_cases h17 : x0.Id = x1.Id
 ·have g18 : (x0.Id != x1.Id) = false := by rw [h17]; exact bne_self_eq_false _
  refine CM_condF rfl g18 ?_
  refine CM_skip (QM_then (CM_seq (sr ?_)))
  refine wv (vf underlying73 rfl type25) ?_
  refine wv (vl 1 1 underlying25) ?_
  refine wv (vf underlying73 rfl type25) ?_
  refine wv (vl 0 1 underlying25) ?_
  refine wcv (cl_fn cb49 rfl) (fun W hm => laws_eqIntS_c W _ x0.Values _ x1.Values (hm.rdS0 r7) (hm.rdS0 r14)) ?_
  refine wv vnot ?_
  refine nt' ?_
  rcases Bool.eq_false_or_eq_true (laws_eqIntS_m x0.Values x1.Values) with g20 | g20
  ·
   refine CM_condF rfl (nt g20) ?_
   refine CM_skip (QM_then (sr (wa (nt' (CM_ret ?_)))))
   exact rtb (h := cond_f g18 (cond_t g20 (rfl)))
  ·
   refine CM_condT rfl (nf g20) ?_
   refine sr (wa (nt' (CM_ret (QM_then_ret ?_))))
   exact rtb (h := cond_f g18 (cond_f g20 (rfl)))
 ·have g18 : (x0.Id != x1.Id) = true := bne_iff_ne.2 h17
  refine CM_condT rfl g18 ?_
  refine sr (wa (nt' (CM_ret (QM_then_ret ?_))))
  exact rtb (h := cond_t g18 (rfl))

def laws_eqRowS_b1 (x0 : (List DRow)) (x1 : (List DRow)) (k13 : Nat) : Bool ⊕ (Unit) :=
 cond (laws_eqRow_m (gt x0 k13) (gt x1 k13)) (Sum.inr ()) (Sum.inl false)
def laws_eqRowS_m (x0 : (List DRow)) (x1 : (List DRow)) : Bool :=
 cond (((x0.length : Nat) : Int) != ((x1.length : Nat) : Int)) false (Sum.elim id (fun (s : Unit) => true) (rng (R := Bool) (fun k (_ : Unit) => laws_eqRowS_b1 x0 x1 k) (x0.length - 0) 0 ()))
theorem cb87 : Cb Tryz.prog 87 := ⟨f87, _, func87, rfl, by decide⟩
theorem laws_eqRowS_c (w : World) (z0 : Value) (x0 : (List DRow)) (z1 : Value) (x1 : (List DRow)) (r_0 : rdS tyRow w w.heap.size z0 x0) (r_1 : rdS tyRow w w.heap.size z1 x1) :
  Calls Tryz.prog 87 #[z0, z1] w fun e w' => e = .returned (.bool (laws_eqRowS_m x0 x1)) ∧ Below w.heap.size w w' := by
 obtain ⟨m1, A2, c3, rfl, q4, r5⟩ := rdS_op r_0
 obtain ⟨m6, A7, c8, rfl, q9, r10⟩ := rdS_op r_1
 refine ce2 (L := [(0, .slice A2 x0.length c3), (1, .slice A7 x1.length c8)]) (N := 27) func87 ?_
 refine sr (wa (nt' (CM_seq (sr (wm ?_)))))
 refine wv (vlen underlying35) ?_
 refine wm ?_
 refine wv (vlen underlying35) ?_
 refine wv vneq ?_
 refine nt' ?_
 by_cases h11 : ((x0.length : Nat) : Int) = ((x1.length : Nat) : Int)
 ·have g12 : (((x0.length : Nat) : Int) != ((x1.length : Nat) : Int)) = false := by rw [h11]; exact bne_self_eq_false _
  refine CM_condF rfl g12 ?_
  refine CM_skip (QM_then (CM_seq (sr (wa (nt' (CM_block ?_))))))
  let F1 := fun k (_ : Unit) => laws_eqRowS_b1 x0 x1 k
  let R2 := rng (R := Bool) F1
  refine CM_loop (σ := Nat × (Unit) × (Unit)) (fun s => [(0, .slice A2 x0.length c3), (1, .slice A7 x1.length c8), (5, .int .i64 ((s.1 : Nat) : Int))]) (fun s => []) (fun s => s.1 ≤ x0.length ∧ R2 (x0.length - s.1) s.1 s.2.1 = R2 (x0.length - 0) 0 ()) (fun s => x0.length - s.1) (0, (), ()) sl3 (fun W hm => hm) ⟨(by omega), rfl⟩ ?_
  rintro ⟨k13, ⟨⟩, ⟨⟩⟩ H16
  obtain ⟨hk14, hF15⟩ : k13 ≤ x0.length ∧ R2 (x0.length - k13) k13 () = R2 (x0.length - 0) 0 () := H16
  show CM Tryz.prog 27 _ _ _ _ [(0, .slice A2 x0.length c3), (1, .slice A7 x1.length c8), (5, .int .i64 ((k13 : Nat) : Int))] []
  refine CM_seq (sr (wm (wm ?_)))
  refine wv (vlen underlying35) ?_
  refine wv vlss ?_
  refine nt' ?_
  by_cases hl17 : k13 < x0.length
  ·have g18 := dlT hl17
   refine CM_condT rfl g18 ?_
   refine CM_skip (QM_then (CM_seq (CM_block (CM_seq ?_))))
   refine CM_regionD (by kernel_rfl) (by kernel_rfl) ?_
   refine qm (qm ?_)
   obtain ⟨a19, rfl, hb20, he21⟩ := q4 (by omega)
   refine qv (vix 2 k13 underlying35 type73) ?_
   obtain ⟨_, e25, hc22⟩ := he21 k13 _ (gt_some (show k13 < x0.length from by omega))
   obtain ⟨v23, rfl, r24⟩ := tyRow_rd e25
   obtain ⟨m26, A27, c28, rfl, q29, r30⟩ := rdS_op r24
   refine qv (fun W hm => rv_loadN (cs := [.int .i64 ((gt x0 k13).Id), .slice A27 ((gt x0 k13).Values).length c28]) underlying73 type73 rfl rfl (hm.elCells (show (a19.add (k13 * 2)).block < w.heap.size from by rw [add_block]; exact hb20.1) hc22)) ?_
   refine qm (qm ?_)
   obtain ⟨a31, rfl, hb32, he33⟩ := q9 (by omega)
   refine qv (vix 2 k13 underlying35 type73) ?_
   obtain ⟨_, e37, hc34⟩ := he33 k13 _ (gt_some (show k13 < x1.length from by omega))
   obtain ⟨v35, rfl, r36⟩ := tyRow_rd e37
   obtain ⟨m38, A39, c40, rfl, q41, r42⟩ := rdS_op r36
   refine qv (fun W hm => rv_loadN (cs := [.int .i64 ((gt x1 k13).Id), .slice A39 ((gt x1 k13).Values).length c40]) underlying73 type73 rfl rfl (hm.elCells (show (a31.add (k13 * 2)).block < w.heap.size from by rw [add_block]; exact hb32.1) hc34)) ?_
   refine QR_callV (cl_fn cb149 rfl) (fun W hm => laws_eqRow_c W _ (gt x0 k13) _ (gt x1 k13) (tyRow_mk (x := (gt x0 k13)) (hm.rdS0 r30)) (tyRow_mk (x := (gt x1 k13)) (hm.rdS0 r42))) (Wd_none rfl) (by decide) ?_
   refine qv vnot ?_
   refine nq' ?_
   rcases Bool.eq_false_or_eq_true (laws_eqRow_m (gt x0 k13) (gt x1 k13)) with g44 | g44
   ·
    refine CM_condF rfl (nt g44) ?_
    refine CM_skip (QM_block_normal (QM_then (CM_region (wm ?_))))
    refine wv (vadN k13 1 (by omega)) ?_
    refine wa (WM_nil ?_)
    have hn45 := rng_next (R := Bool) (body := F1) (k := k13) (s := ()) (s' := ()) (show k13 < x0.length from by omega) (cond_t g44 (rfl)) hF15
    exact QM_round (k13 + 1, (), ()) sl3 (fun W hm => hm) ⟨(by omega), hn45⟩ (rl (by omega))
   ·
    refine CM_condT rfl (nf g44) ?_
    refine sr (wa (nt' (CM_ret (QM_block_ret (QM_then_ret (QM_then_ret (QM_block_ret (QM_then_ret ?_))))))))
    exact rtb (h := cond_f g12 (fin_inl (rng_ret (body := F1) (k := k13) (s := ()) (show k13 < x0.length from by omega) (cond_f g44 (rfl)) hF15) rfl))
  ·have g18 := dlF hl17
   refine CM_condF rfl g18 ?_
   refine CM_exit (QM_then_exit (QM_then_exit ?_))
   have hE46 : R2 (x0.length - 0) 0 () = Sum.inr () := rng_end hl17 hF15
   refine QM_block_hit (QM_then (sr (wa (nt' (CM_ret ?_)))))
   exact rtb (h := cond_f g12 (fin_inr hE46 (rfl)))
 ·have g12 : (((x0.length : Nat) : Int) != ((x1.length : Nat) : Int)) = true := bne_iff_ne.2 h11
  refine CM_condT rfl g12 ?_
  refine sr (wa (nt' (CM_ret (QM_then_ret ?_))))
  exact rtb (h := cond_t g12 (rfl))

def laws_eqActive_m (x0 : DActive) (x1 : DActive) : Bool :=
 cond (laws_eqQuery_m x0.Query x1.Query) (cond (x0.Time != x1.Time) false (cond (laws_eqIntS_m x0.Todo x1.Todo) (cond (x0.Age != x1.Age) false (cond (x0.Sent != x1.Sent) false (cond (x0.Cap != x1.Cap) false (cond (laws_eqRowS_m x0.Rows x1.Rows) true false)))) false)) false
theorem cb168 : Cb Tryz.prog 168 := ⟨f168, _, func168, rfl, by decide⟩
theorem laws_eqActive_c (w : World) (z0 : List Value) (x0 : DActive) (z1 : List Value) (x1 : DActive) (r_0 : tyActive.rd w w.heap.size z0 x0) (r_1 : tyActive.rd w w.heap.size z1 x1) :
  Calls Tryz.prog 168 #[.agg z0.toArray, .agg z1.toArray] w fun e w' => e = .returned (.bool (laws_eqActive_m x0 x1)) ∧ Below w.heap.size w w' := by
 obtain ⟨v1, v3, v5, v7, rfl, r2, r4, r6, r8⟩ := tyActive_rd r_0
 obtain ⟨m9, A10, c11, rfl, q12, r13⟩ := rdS_op r2
 obtain ⟨m14, A15, c16, rfl, q17, r18⟩ := rdS_op r4
 obtain ⟨m19, A20, c21, rfl, q22, r23⟩ := rdS_op r6
 obtain ⟨m24, A25, c26, rfl, q27, r28⟩ := rdS_op r8
 obtain ⟨v29, v31, v33, v35, rfl, r30, r32, r34, r36⟩ := tyActive_rd r_1
 obtain ⟨m37, A38, c39, rfl, q40, r41⟩ := rdS_op r30
 obtain ⟨m42, A43, c44, rfl, q45, r46⟩ := rdS_op r32
 obtain ⟨m47, A48, c49, rfl, q50, r51⟩ := rdS_op r34
 obtain ⟨m52, A53, c54, rfl, q55, r56⟩ := rdS_op r36
 refine ce2 (L := [(0, .agg #[.int .i64 x0.Query.Id, .int .i64 x0.Query.Tenant, .slice A10 x0.Query.Conds.length c11, .slice A15 x0.Query.Out.length c16, .int .i64 x0.Time, .slice A20 x0.Todo.length c21, .int .i64 x0.Age, .int .i64 x0.Sent, .int .i64 x0.Cap, .slice A25 x0.Rows.length c26]), (1, .agg #[.int .i64 x1.Query.Id, .int .i64 x1.Query.Tenant, .slice A38 x1.Query.Conds.length c39, .slice A43 x1.Query.Out.length c44, .int .i64 x1.Time, .slice A48 x1.Todo.length c49, .int .i64 x1.Age, .int .i64 x1.Sent, .int .i64 x1.Cap, .slice A53 x1.Rows.length c54])]) (N := 43) func168 ?_
 refine sr ?_
 refine WM_box rfl (Wd_none rfl) (by decide) (fun p57 => ?_)
 refine WM_box rfl (Wd_none rfl) (by decide) (fun p58 => ?_)
 refine wa (nt' (CM_seq (sr ?_)))
 refine wv (vf underlying64 rfl type34) ?_
 refine wv (fun W hm => rv_loadN (cs := [.int .i64 x0.Query.Id, .int .i64 x0.Query.Tenant, .slice A10 x0.Query.Conds.length c11, .slice A15 x0.Query.Out.length c16]) underlying34 type34 rfl rfl (hm.boxPart (n := 1) rfl rfl)) ?_
 refine wv (vf underlying64 rfl type34) ?_
 refine wv (fun W hm => rv_loadN (cs := [.int .i64 x1.Query.Id, .int .i64 x1.Query.Tenant, .slice A38 x1.Query.Conds.length c39, .slice A43 x1.Query.Out.length c44]) underlying34 type34 rfl rfl (hm.boxPart (n := 0) rfl rfl)) ?_
 refine wcv (cl_fn cb54 rfl) (fun W hm => laws_eqQuery_c W _ x0.Query _ x1.Query (tyQuery_mk (x := x0.Query) (hm.rdS0 r13) (hm.rdS0 r18)) (tyQuery_mk (x := x1.Query) (hm.rdS0 r41) (hm.rdS0 r46))) ?_
 refine wv vnot ?_
 refine nt' ?_
 rcases Bool.eq_false_or_eq_true (laws_eqQuery_m x0.Query x1.Query) with g60 | g60
 ·
  refine CM_condF rfl (nt g60) ?_
  refine CM_skip (QM_then (CM_seq (sr ?_)))
  refine wv (vf underlying64 rfl type3) ?_
  refine wv (vl 1 4 underlying3) ?_
  refine wv (vf underlying64 rfl type3) ?_
  refine wv (vl 0 4 underlying3) ?_
  refine wv vneq ?_
  refine nt' ?_
  by_cases h61 : x0.Time = x1.Time
  ·have g62 : (x0.Time != x1.Time) = false := by rw [h61]; exact bne_self_eq_false _
   refine CM_condF rfl g62 ?_
   refine CM_skip (QM_then (CM_seq (sr ?_)))
   refine wv (vf underlying64 rfl type25) ?_
   refine wv (vl 1 5 underlying25) ?_
   refine wv (vf underlying64 rfl type25) ?_
   refine wv (vl 0 5 underlying25) ?_
   refine wcv (cl_fn cb49 rfl) (fun W hm => laws_eqIntS_c W _ x0.Todo _ x1.Todo (hm.rdS0 r23) (hm.rdS0 r51)) ?_
   refine wv vnot ?_
   refine nt' ?_
   rcases Bool.eq_false_or_eq_true (laws_eqIntS_m x0.Todo x1.Todo) with g64 | g64
   ·
    refine CM_condF rfl (nt g64) ?_
    refine CM_skip (QM_then (CM_seq (sr ?_)))
    refine wv (vf underlying64 rfl type3) ?_
    refine wv (vl 1 6 underlying3) ?_
    refine wv (vf underlying64 rfl type3) ?_
    refine wv (vl 0 6 underlying3) ?_
    refine wv vneq ?_
    refine nt' ?_
    by_cases h65 : x0.Age = x1.Age
    ·have g66 : (x0.Age != x1.Age) = false := by rw [h65]; exact bne_self_eq_false _
     refine CM_condF rfl g66 ?_
     refine CM_skip (QM_then (CM_seq (sr ?_)))
     refine wv (vf underlying64 rfl type3) ?_
     refine wv (vl 1 7 underlying3) ?_
     refine wv (vf underlying64 rfl type3) ?_
     refine wv (vl 0 7 underlying3) ?_
     refine wv vneq ?_
     refine nt' ?_
     by_cases h67 : x0.Sent = x1.Sent
     ·have g68 : (x0.Sent != x1.Sent) = false := by rw [h67]; exact bne_self_eq_false _
      refine CM_condF rfl g68 ?_
      refine CM_skip (QM_then (CM_seq (sr ?_)))
      refine wv (vf underlying64 rfl type3) ?_
      refine wv (vl 1 8 underlying3) ?_
      refine wv (vf underlying64 rfl type3) ?_
      refine wv (vl 0 8 underlying3) ?_
      refine wv vneq ?_
      refine nt' ?_
      by_cases h69 : x0.Cap = x1.Cap
      ·have g70 : (x0.Cap != x1.Cap) = false := by rw [h69]; exact bne_self_eq_false _
       refine CM_condF rfl g70 ?_
       refine CM_skip (QM_then (CM_seq (sr ?_)))
       refine wv (vf underlying64 rfl type35) ?_
       refine wv (vl 1 9 underlying35) ?_
       refine wv (vf underlying64 rfl type35) ?_
       refine wv (vl 0 9 underlying35) ?_
       refine wcv (cl_fn cb87 rfl) (fun W hm => laws_eqRowS_c W _ x0.Rows _ x1.Rows (hm.rdS0 r28) (hm.rdS0 r56)) ?_
       refine wv vnot ?_
       refine nt' ?_
       rcases Bool.eq_false_or_eq_true (laws_eqRowS_m x0.Rows x1.Rows) with g72 | g72
       ·
        refine CM_condF rfl (nt g72) ?_
        refine CM_skip (QM_then (sr (wa (nt' (CM_ret ?_)))))
        exact rtb (h := cond_t g60 (cond_f g62 (cond_t g64 (cond_f g66 (cond_f g68 (cond_f g70 (cond_t g72 (rfl))))))))
       ·
        refine CM_condT rfl (nf g72) ?_
        refine sr (wa (nt' (CM_ret (QM_then_ret ?_))))
        exact rtb (h := cond_t g60 (cond_f g62 (cond_t g64 (cond_f g66 (cond_f g68 (cond_f g70 (cond_f g72 (rfl))))))))
      ·have g70 : (x0.Cap != x1.Cap) = true := bne_iff_ne.2 h69
       refine CM_condT rfl g70 ?_
       refine sr (wa (nt' (CM_ret (QM_then_ret ?_))))
       exact rtb (h := cond_t g60 (cond_f g62 (cond_t g64 (cond_f g66 (cond_f g68 (cond_t g70 (rfl)))))))
     ·have g68 : (x0.Sent != x1.Sent) = true := bne_iff_ne.2 h67
      refine CM_condT rfl g68 ?_
      refine sr (wa (nt' (CM_ret (QM_then_ret ?_))))
      exact rtb (h := cond_t g60 (cond_f g62 (cond_t g64 (cond_f g66 (cond_t g68 (rfl))))))
    ·have g66 : (x0.Age != x1.Age) = true := bne_iff_ne.2 h65
     refine CM_condT rfl g66 ?_
     refine sr (wa (nt' (CM_ret (QM_then_ret ?_))))
     exact rtb (h := cond_t g60 (cond_f g62 (cond_t g64 (cond_t g66 (rfl)))))
   ·
    refine CM_condT rfl (nf g64) ?_
    refine sr (wa (nt' (CM_ret (QM_then_ret ?_))))
    exact rtb (h := cond_t g60 (cond_f g62 (cond_f g64 (rfl))))
  ·have g62 : (x0.Time != x1.Time) = true := bne_iff_ne.2 h61
   refine CM_condT rfl g62 ?_
   refine sr (wa (nt' (CM_ret (QM_then_ret ?_))))
   exact rtb (h := cond_t g60 (cond_t g62 (rfl)))
 ·
  refine CM_condT rfl (nf g60) ?_
  refine sr (wa (nt' (CM_ret (QM_then_ret ?_))))
  exact rtb (h := cond_f g60 (rfl))

def laws_eqActiveS_b1 (x0 : (List DActive)) (x1 : (List DActive)) (k13 : Nat) : Bool ⊕ (Unit) :=
 cond (laws_eqActive_m (gt x0 k13) (gt x1 k13)) (Sum.inr ()) (Sum.inl false)
def laws_eqActiveS_m (x0 : (List DActive)) (x1 : (List DActive)) : Bool :=
 cond (((x0.length : Nat) : Int) != ((x1.length : Nat) : Int)) false (Sum.elim id (fun (s : Unit) => true) (rng (R := Bool) (fun k (_ : Unit) => laws_eqActiveS_b1 x0 x1 k) (x0.length - 0) 0 ()))
theorem cb89 : Cb Tryz.prog 89 := ⟨f89, _, func89, rfl, by decide⟩
theorem laws_eqActiveS_c (w : World) (z0 : Value) (x0 : (List DActive)) (z1 : Value) (x1 : (List DActive)) (r_0 : rdS tyActive w w.heap.size z0 x0) (r_1 : rdS tyActive w w.heap.size z1 x1) :
  Calls Tryz.prog 89 #[z0, z1] w fun e w' => e = .returned (.bool (laws_eqActiveS_m x0 x1)) ∧ Below w.heap.size w w' := by
 obtain ⟨m1, A2, c3, rfl, q4, r5⟩ := rdS_op r_0
 obtain ⟨m6, A7, c8, rfl, q9, r10⟩ := rdS_op r_1
 refine ce2 (L := [(0, .slice A2 x0.length c3), (1, .slice A7 x1.length c8)]) (N := 27) func89 ?_
 refine sr (wa (nt' (CM_seq (sr (wm ?_)))))
 refine wv (vlen underlying43) ?_
 refine wm ?_
 refine wv (vlen underlying43) ?_
 refine wv vneq ?_
 refine nt' ?_
 by_cases h11 : ((x0.length : Nat) : Int) = ((x1.length : Nat) : Int)
 ·have g12 : (((x0.length : Nat) : Int) != ((x1.length : Nat) : Int)) = false := by rw [h11]; exact bne_self_eq_false _
  refine CM_condF rfl g12 ?_
  refine CM_skip (QM_then (CM_seq (sr (wa (nt' (CM_block ?_))))))
  let F1 := fun k (_ : Unit) => laws_eqActiveS_b1 x0 x1 k
  let R2 := rng (R := Bool) F1
  refine CM_loop (σ := Nat × (Unit) × (Unit)) (fun s => [(0, .slice A2 x0.length c3), (1, .slice A7 x1.length c8), (5, .int .i64 ((s.1 : Nat) : Int))]) (fun s => []) (fun s => s.1 ≤ x0.length ∧ R2 (x0.length - s.1) s.1 s.2.1 = R2 (x0.length - 0) 0 ()) (fun s => x0.length - s.1) (0, (), ()) sl3 (fun W hm => hm) ⟨(by omega), rfl⟩ ?_
  rintro ⟨k13, ⟨⟩, ⟨⟩⟩ H16
  obtain ⟨hk14, hF15⟩ : k13 ≤ x0.length ∧ R2 (x0.length - k13) k13 () = R2 (x0.length - 0) 0 () := H16
  show CM Tryz.prog 27 _ _ _ _ [(0, .slice A2 x0.length c3), (1, .slice A7 x1.length c8), (5, .int .i64 ((k13 : Nat) : Int))] []
  refine CM_seq (sr (wm (wm ?_)))
  refine wv (vlen underlying43) ?_
  refine wv vlss ?_
  refine nt' ?_
  by_cases hl17 : k13 < x0.length
  ·have g18 := dlT hl17
   refine CM_condT rfl g18 ?_
   refine CM_skip (QM_then (CM_seq (CM_block (CM_seq ?_))))
   refine CM_regionD (by kernel_rfl) (by kernel_rfl) ?_
   refine qm (qm ?_)
   obtain ⟨a19, rfl, hb20, he21⟩ := q4 (by omega)
   refine qv (vix 10 k13 underlying43 type64) ?_
   obtain ⟨_, e31, hc22⟩ := he21 k13 _ (gt_some (show k13 < x0.length from by omega))
   obtain ⟨v23, v25, v27, v29, rfl, r24, r26, r28, r30⟩ := tyActive_rd e31
   obtain ⟨m32, A33, c34, rfl, q35, r36⟩ := rdS_op r24
   obtain ⟨m37, A38, c39, rfl, q40, r41⟩ := rdS_op r26
   obtain ⟨m42, A43, c44, rfl, q45, r46⟩ := rdS_op r28
   obtain ⟨m47, A48, c49, rfl, q50, r51⟩ := rdS_op r30
   refine qv (fun W hm => rv_loadN (cs := [.int .i64 ((gt x0 k13).Query.Id), .int .i64 ((gt x0 k13).Query.Tenant), .slice A33 ((gt x0 k13).Query.Conds).length c34, .slice A38 ((gt x0 k13).Query.Out).length c39, .int .i64 ((gt x0 k13).Time), .slice A43 ((gt x0 k13).Todo).length c44, .int .i64 ((gt x0 k13).Age), .int .i64 ((gt x0 k13).Sent), .int .i64 ((gt x0 k13).Cap), .slice A48 ((gt x0 k13).Rows).length c49]) underlying64 type64 rfl rfl (hm.elCells (show (a19.add (k13 * 10)).block < w.heap.size from by rw [add_block]; exact hb20.1) hc22)) ?_
   refine qm (qm ?_)
   obtain ⟨a52, rfl, hb53, he54⟩ := q9 (by omega)
   refine qv (vix 10 k13 underlying43 type64) ?_
   obtain ⟨_, e64, hc55⟩ := he54 k13 _ (gt_some (show k13 < x1.length from by omega))
   obtain ⟨v56, v58, v60, v62, rfl, r57, r59, r61, r63⟩ := tyActive_rd e64
   obtain ⟨m65, A66, c67, rfl, q68, r69⟩ := rdS_op r57
   obtain ⟨m70, A71, c72, rfl, q73, r74⟩ := rdS_op r59
   obtain ⟨m75, A76, c77, rfl, q78, r79⟩ := rdS_op r61
   obtain ⟨m80, A81, c82, rfl, q83, r84⟩ := rdS_op r63
   refine qv (fun W hm => rv_loadN (cs := [.int .i64 ((gt x1 k13).Query.Id), .int .i64 ((gt x1 k13).Query.Tenant), .slice A66 ((gt x1 k13).Query.Conds).length c67, .slice A71 ((gt x1 k13).Query.Out).length c72, .int .i64 ((gt x1 k13).Time), .slice A76 ((gt x1 k13).Todo).length c77, .int .i64 ((gt x1 k13).Age), .int .i64 ((gt x1 k13).Sent), .int .i64 ((gt x1 k13).Cap), .slice A81 ((gt x1 k13).Rows).length c82]) underlying64 type64 rfl rfl (hm.elCells (show (a52.add (k13 * 10)).block < w.heap.size from by rw [add_block]; exact hb53.1) hc55)) ?_
   refine QR_callV (cl_fn cb168 rfl) (fun W hm => laws_eqActive_c W _ (gt x0 k13) _ (gt x1 k13) (tyActive_mk (x := (gt x0 k13)) (hm.rdS0 r36) (hm.rdS0 r41) (hm.rdS0 r46) (hm.rdS0 r51)) (tyActive_mk (x := (gt x1 k13)) (hm.rdS0 r69) (hm.rdS0 r74) (hm.rdS0 r79) (hm.rdS0 r84))) (Wd_none rfl) (by decide) ?_
   refine qv vnot ?_
   refine nq' ?_
   rcases Bool.eq_false_or_eq_true (laws_eqActive_m (gt x0 k13) (gt x1 k13)) with g86 | g86
   ·
    refine CM_condF rfl (nt g86) ?_
    refine CM_skip (QM_block_normal (QM_then (CM_region (wm ?_))))
    refine wv (vadN k13 1 (by omega)) ?_
    refine wa (WM_nil ?_)
    have hn87 := rng_next (R := Bool) (body := F1) (k := k13) (s := ()) (s' := ()) (show k13 < x0.length from by omega) (cond_t g86 (rfl)) hF15
    exact QM_round (k13 + 1, (), ()) sl3 (fun W hm => hm) ⟨(by omega), hn87⟩ (rl (by omega))
   ·
    refine CM_condT rfl (nf g86) ?_
    refine sr (wa (nt' (CM_ret (QM_block_ret (QM_then_ret (QM_then_ret (QM_block_ret (QM_then_ret ?_))))))))
    exact rtb (h := cond_f g12 (fin_inl (rng_ret (body := F1) (k := k13) (s := ()) (show k13 < x0.length from by omega) (cond_f g86 (rfl)) hF15) rfl))
  ·have g18 := dlF hl17
   refine CM_condF rfl g18 ?_
   refine CM_exit (QM_then_exit (QM_then_exit ?_))
   have hE88 : R2 (x0.length - 0) 0 () = Sum.inr () := rng_end hl17 hF15
   refine QM_block_hit (QM_then (sr (wa (nt' (CM_ret ?_)))))
   exact rtb (h := cond_f g12 (fin_inr hE88 (rfl)))
 ·have g12 : (((x0.length : Nat) : Int) != ((x1.length : Nat) : Int)) = true := bne_iff_ne.2 h11
  refine CM_condT rfl g12 ?_
  refine sr (wa (nt' (CM_ret (QM_then_ret ?_))))
  exact rtb (h := cond_t g12 (rfl))

def laws_eqFinished_m (x0 : DFinished) (x1 : DFinished) : Bool :=
 cond (laws_eqQuery_m x0.Query x1.Query) (cond (x0.Time != x1.Time) false (cond (x0.Steps != x1.Steps) false (cond (laws_eqRowS_m x0.Rows x1.Rows) true false))) false
theorem cb18 : Cb Tryz.prog 18 := ⟨f18, _, func18, rfl, by decide⟩
theorem laws_eqFinished_c (w : World) (z0 : List Value) (x0 : DFinished) (z1 : List Value) (x1 : DFinished) (r_0 : tyFinished.rd w w.heap.size z0 x0) (r_1 : tyFinished.rd w w.heap.size z1 x1) :
  Calls Tryz.prog 18 #[.agg z0.toArray, .agg z1.toArray] w fun e w' => e = .returned (.bool (laws_eqFinished_m x0 x1)) ∧ Below w.heap.size w w' := by
 obtain ⟨v1, v3, v5, rfl, r2, r4, r6⟩ := tyFinished_rd r_0
 obtain ⟨m7, A8, c9, rfl, q10, r11⟩ := rdS_op r2
 obtain ⟨m12, A13, c14, rfl, q15, r16⟩ := rdS_op r4
 obtain ⟨m17, A18, c19, rfl, q20, r21⟩ := rdS_op r6
 obtain ⟨v22, v24, v26, rfl, r23, r25, r27⟩ := tyFinished_rd r_1
 obtain ⟨m28, A29, c30, rfl, q31, r32⟩ := rdS_op r23
 obtain ⟨m33, A34, c35, rfl, q36, r37⟩ := rdS_op r25
 obtain ⟨m38, A39, c40, rfl, q41, r42⟩ := rdS_op r27
 refine ce2 (L := [(0, .agg #[.int .i64 x0.Query.Id, .int .i64 x0.Query.Tenant, .slice A8 x0.Query.Conds.length c9, .slice A13 x0.Query.Out.length c14, .int .i64 x0.Time, .int .i64 x0.Steps, .slice A18 x0.Rows.length c19]), (1, .agg #[.int .i64 x1.Query.Id, .int .i64 x1.Query.Tenant, .slice A29 x1.Query.Conds.length c30, .slice A34 x1.Query.Out.length c35, .int .i64 x1.Time, .int .i64 x1.Steps, .slice A39 x1.Rows.length c40])]) (N := 27) func18 ?_
 refine sr ?_
 refine WM_box rfl (Wd_none rfl) (by decide) (fun p43 => ?_)
 refine WM_box rfl (Wd_none rfl) (by decide) (fun p44 => ?_)
 refine wa (nt' (CM_seq (sr ?_)))
 refine wv (vf underlying37 rfl type34) ?_
 refine wv (fun W hm => rv_loadN (cs := [.int .i64 x0.Query.Id, .int .i64 x0.Query.Tenant, .slice A8 x0.Query.Conds.length c9, .slice A13 x0.Query.Out.length c14]) underlying34 type34 rfl rfl (hm.boxPart (n := 1) rfl rfl)) ?_
 refine wv (vf underlying37 rfl type34) ?_
 refine wv (fun W hm => rv_loadN (cs := [.int .i64 x1.Query.Id, .int .i64 x1.Query.Tenant, .slice A29 x1.Query.Conds.length c30, .slice A34 x1.Query.Out.length c35]) underlying34 type34 rfl rfl (hm.boxPart (n := 0) rfl rfl)) ?_
 refine wcv (cl_fn cb54 rfl) (fun W hm => laws_eqQuery_c W _ x0.Query _ x1.Query (tyQuery_mk (x := x0.Query) (hm.rdS0 r11) (hm.rdS0 r16)) (tyQuery_mk (x := x1.Query) (hm.rdS0 r32) (hm.rdS0 r37))) ?_
 refine wv vnot ?_
 refine nt' ?_
 rcases Bool.eq_false_or_eq_true (laws_eqQuery_m x0.Query x1.Query) with g46 | g46
 ·
  refine CM_condF rfl (nt g46) ?_
  refine CM_skip (QM_then (CM_seq (sr ?_)))
  refine wv (vf underlying37 rfl type3) ?_
  refine wv (vl 1 4 underlying3) ?_
  refine wv (vf underlying37 rfl type3) ?_
  refine wv (vl 0 4 underlying3) ?_
  refine wv vneq ?_
  refine nt' ?_
  by_cases h47 : x0.Time = x1.Time
  ·have g48 : (x0.Time != x1.Time) = false := by rw [h47]; exact bne_self_eq_false _
   refine CM_condF rfl g48 ?_
   refine CM_skip (QM_then (CM_seq (sr ?_)))
   refine wv (vf underlying37 rfl type3) ?_
   refine wv (vl 1 5 underlying3) ?_
   refine wv (vf underlying37 rfl type3) ?_
   refine wv (vl 0 5 underlying3) ?_
   refine wv vneq ?_
   refine nt' ?_
   by_cases h49 : x0.Steps = x1.Steps
   ·have g50 : (x0.Steps != x1.Steps) = false := by rw [h49]; exact bne_self_eq_false _
    refine CM_condF rfl g50 ?_
    refine CM_skip (QM_then (CM_seq (sr ?_)))
    refine wv (vf underlying37 rfl type35) ?_
    refine wv (vl 1 6 underlying35) ?_
    refine wv (vf underlying37 rfl type35) ?_
    refine wv (vl 0 6 underlying35) ?_
    refine wcv (cl_fn cb87 rfl) (fun W hm => laws_eqRowS_c W _ x0.Rows _ x1.Rows (hm.rdS0 r21) (hm.rdS0 r42)) ?_
    refine wv vnot ?_
    refine nt' ?_
    rcases Bool.eq_false_or_eq_true (laws_eqRowS_m x0.Rows x1.Rows) with g52 | g52
    ·
     refine CM_condF rfl (nt g52) ?_
     refine CM_skip (QM_then (sr (wa (nt' (CM_ret ?_)))))
     exact rtb (h := cond_t g46 (cond_f g48 (cond_f g50 (cond_t g52 (rfl)))))
    ·
     refine CM_condT rfl (nf g52) ?_
     refine sr (wa (nt' (CM_ret (QM_then_ret ?_))))
     exact rtb (h := cond_t g46 (cond_f g48 (cond_f g50 (cond_f g52 (rfl)))))
   ·have g50 : (x0.Steps != x1.Steps) = true := bne_iff_ne.2 h49
    refine CM_condT rfl g50 ?_
    refine sr (wa (nt' (CM_ret (QM_then_ret ?_))))
    exact rtb (h := cond_t g46 (cond_f g48 (cond_t g50 (rfl))))
  ·have g48 : (x0.Time != x1.Time) = true := bne_iff_ne.2 h47
   refine CM_condT rfl g48 ?_
   refine sr (wa (nt' (CM_ret (QM_then_ret ?_))))
   exact rtb (h := cond_t g46 (cond_t g48 (rfl)))
 ·
  refine CM_condT rfl (nf g46) ?_
  refine sr (wa (nt' (CM_ret (QM_then_ret ?_))))
  exact rtb (h := cond_f g46 (rfl))

def laws_eqFinishedS_b1 (x0 : (List DFinished)) (x1 : (List DFinished)) (k13 : Nat) : Bool ⊕ (Unit) :=
 cond (laws_eqFinished_m (gt x0 k13) (gt x1 k13)) (Sum.inr ()) (Sum.inl false)
def laws_eqFinishedS_m (x0 : (List DFinished)) (x1 : (List DFinished)) : Bool :=
 cond (((x0.length : Nat) : Int) != ((x1.length : Nat) : Int)) false (Sum.elim id (fun (s : Unit) => true) (rng (R := Bool) (fun k (_ : Unit) => laws_eqFinishedS_b1 x0 x1 k) (x0.length - 0) 0 ()))
theorem cb90 : Cb Tryz.prog 90 := ⟨f90, _, func90, rfl, by decide⟩
theorem laws_eqFinishedS_c (w : World) (z0 : Value) (x0 : (List DFinished)) (z1 : Value) (x1 : (List DFinished)) (r_0 : rdS tyFinished w w.heap.size z0 x0) (r_1 : rdS tyFinished w w.heap.size z1 x1) :
  Calls Tryz.prog 90 #[z0, z1] w fun e w' => e = .returned (.bool (laws_eqFinishedS_m x0 x1)) ∧ Below w.heap.size w w' := by
 obtain ⟨m1, A2, c3, rfl, q4, r5⟩ := rdS_op r_0
 obtain ⟨m6, A7, c8, rfl, q9, r10⟩ := rdS_op r_1
 refine ce2 (L := [(0, .slice A2 x0.length c3), (1, .slice A7 x1.length c8)]) (N := 27) func90 ?_
 refine sr (wa (nt' (CM_seq (sr (wm ?_)))))
 refine wv (vlen underlying44) ?_
 refine wm ?_
 refine wv (vlen underlying44) ?_
 refine wv vneq ?_
 refine nt' ?_
 by_cases h11 : ((x0.length : Nat) : Int) = ((x1.length : Nat) : Int)
 ·have g12 : (((x0.length : Nat) : Int) != ((x1.length : Nat) : Int)) = false := by rw [h11]; exact bne_self_eq_false _
  refine CM_condF rfl g12 ?_
  refine CM_skip (QM_then (CM_seq (sr (wa (nt' (CM_block ?_))))))
  let F1 := fun k (_ : Unit) => laws_eqFinishedS_b1 x0 x1 k
  let R2 := rng (R := Bool) F1
  refine CM_loop (σ := Nat × (Unit) × (Unit)) (fun s => [(0, .slice A2 x0.length c3), (1, .slice A7 x1.length c8), (5, .int .i64 ((s.1 : Nat) : Int))]) (fun s => []) (fun s => s.1 ≤ x0.length ∧ R2 (x0.length - s.1) s.1 s.2.1 = R2 (x0.length - 0) 0 ()) (fun s => x0.length - s.1) (0, (), ()) sl3 (fun W hm => hm) ⟨(by omega), rfl⟩ ?_
  rintro ⟨k13, ⟨⟩, ⟨⟩⟩ H16
  obtain ⟨hk14, hF15⟩ : k13 ≤ x0.length ∧ R2 (x0.length - k13) k13 () = R2 (x0.length - 0) 0 () := H16
  show CM Tryz.prog 27 _ _ _ _ [(0, .slice A2 x0.length c3), (1, .slice A7 x1.length c8), (5, .int .i64 ((k13 : Nat) : Int))] []
  refine CM_seq (sr (wm (wm ?_)))
  refine wv (vlen underlying44) ?_
  refine wv vlss ?_
  refine nt' ?_
  by_cases hl17 : k13 < x0.length
  ·have g18 := dlT hl17
   refine CM_condT rfl g18 ?_
   refine CM_skip (QM_then (CM_seq (CM_block (CM_seq ?_))))
   refine CM_regionD (by kernel_rfl) (by kernel_rfl) ?_
   refine qm (qm ?_)
   obtain ⟨a19, rfl, hb20, he21⟩ := q4 (by omega)
   refine qv (vix 7 k13 underlying44 type37) ?_
   obtain ⟨_, e29, hc22⟩ := he21 k13 _ (gt_some (show k13 < x0.length from by omega))
   obtain ⟨v23, v25, v27, rfl, r24, r26, r28⟩ := tyFinished_rd e29
   obtain ⟨m30, A31, c32, rfl, q33, r34⟩ := rdS_op r24
   obtain ⟨m35, A36, c37, rfl, q38, r39⟩ := rdS_op r26
   obtain ⟨m40, A41, c42, rfl, q43, r44⟩ := rdS_op r28
   refine qv (fun W hm => rv_loadN (cs := [.int .i64 ((gt x0 k13).Query.Id), .int .i64 ((gt x0 k13).Query.Tenant), .slice A31 ((gt x0 k13).Query.Conds).length c32, .slice A36 ((gt x0 k13).Query.Out).length c37, .int .i64 ((gt x0 k13).Time), .int .i64 ((gt x0 k13).Steps), .slice A41 ((gt x0 k13).Rows).length c42]) underlying37 type37 rfl rfl (hm.elCells (show (a19.add (k13 * 7)).block < w.heap.size from by rw [add_block]; exact hb20.1) hc22)) ?_
   refine qm (qm ?_)
   obtain ⟨a45, rfl, hb46, he47⟩ := q9 (by omega)
   refine qv (vix 7 k13 underlying44 type37) ?_
   obtain ⟨_, e55, hc48⟩ := he47 k13 _ (gt_some (show k13 < x1.length from by omega))
   obtain ⟨v49, v51, v53, rfl, r50, r52, r54⟩ := tyFinished_rd e55
   obtain ⟨m56, A57, c58, rfl, q59, r60⟩ := rdS_op r50
   obtain ⟨m61, A62, c63, rfl, q64, r65⟩ := rdS_op r52
   obtain ⟨m66, A67, c68, rfl, q69, r70⟩ := rdS_op r54
   refine qv (fun W hm => rv_loadN (cs := [.int .i64 ((gt x1 k13).Query.Id), .int .i64 ((gt x1 k13).Query.Tenant), .slice A57 ((gt x1 k13).Query.Conds).length c58, .slice A62 ((gt x1 k13).Query.Out).length c63, .int .i64 ((gt x1 k13).Time), .int .i64 ((gt x1 k13).Steps), .slice A67 ((gt x1 k13).Rows).length c68]) underlying37 type37 rfl rfl (hm.elCells (show (a45.add (k13 * 7)).block < w.heap.size from by rw [add_block]; exact hb46.1) hc48)) ?_
   refine QR_callV (cl_fn cb18 rfl) (fun W hm => laws_eqFinished_c W _ (gt x0 k13) _ (gt x1 k13) (tyFinished_mk (x := (gt x0 k13)) (hm.rdS0 r34) (hm.rdS0 r39) (hm.rdS0 r44)) (tyFinished_mk (x := (gt x1 k13)) (hm.rdS0 r60) (hm.rdS0 r65) (hm.rdS0 r70))) (Wd_none rfl) (by decide) ?_
   refine qv vnot ?_
   refine nq' ?_
   rcases Bool.eq_false_or_eq_true (laws_eqFinished_m (gt x0 k13) (gt x1 k13)) with g72 | g72
   ·
    refine CM_condF rfl (nt g72) ?_
    refine CM_skip (QM_block_normal (QM_then (CM_region (wm ?_))))
    refine wv (vadN k13 1 (by omega)) ?_
    refine wa (WM_nil ?_)
    have hn73 := rng_next (R := Bool) (body := F1) (k := k13) (s := ()) (s' := ()) (show k13 < x0.length from by omega) (cond_t g72 (rfl)) hF15
    exact QM_round (k13 + 1, (), ()) sl3 (fun W hm => hm) ⟨(by omega), hn73⟩ (rl (by omega))
   ·
    refine CM_condT rfl (nf g72) ?_
    refine sr (wa (nt' (CM_ret (QM_block_ret (QM_then_ret (QM_then_ret (QM_block_ret (QM_then_ret ?_))))))))
    exact rtb (h := cond_f g12 (fin_inl (rng_ret (body := F1) (k := k13) (s := ()) (show k13 < x0.length from by omega) (cond_f g72 (rfl)) hF15) rfl))
  ·have g18 := dlF hl17
   refine CM_condF rfl g18 ?_
   refine CM_exit (QM_then_exit (QM_then_exit ?_))
   have hE74 : R2 (x0.length - 0) 0 () = Sum.inr () := rng_end hl17 hF15
   refine QM_block_hit (QM_then (sr (wa (nt' (CM_ret ?_)))))
   exact rtb (h := cond_f g12 (fin_inr hE74 (rfl)))
 ·have g12 : (((x0.length : Nat) : Int) != ((x1.length : Nat) : Int)) = true := bne_iff_ne.2 h11
  refine CM_condT rfl g12 ?_
  refine sr (wa (nt' (CM_ret (QM_then_ret ?_))))
  exact rtb (h := cond_t g12 (rfl))

def laws_eqCharge_m (x0 : DCharge) (x1 : DCharge) : Bool :=
 cond (x0.Segment != x1.Segment) false (cond (x0.Base != x1.Base) false (cond (laws_eqIntS_m x0.Ids x1.Ids) (cond (laws_eqIntS_m x0.Tenants x1.Tenants) (cond (laws_eqIntS_m x0.Rows x1.Rows) true false) false) false))
theorem cb169 : Cb Tryz.prog 169 := ⟨f169, _, func169, rfl, by decide⟩
theorem laws_eqCharge_c (w : World) (z0 : List Value) (x0 : DCharge) (z1 : List Value) (x1 : DCharge) (r_0 : tyCharge.rd w w.heap.size z0 x0) (r_1 : tyCharge.rd w w.heap.size z1 x1) :
  Calls Tryz.prog 169 #[.agg z0.toArray, .agg z1.toArray] w fun e w' => e = .returned (.bool (laws_eqCharge_m x0 x1)) ∧ Below w.heap.size w w' := by
 obtain ⟨v1, v3, v5, rfl, r2, r4, r6⟩ := tyCharge_rd r_0
 obtain ⟨m7, A8, c9, rfl, q10, r11⟩ := rdS_op r2
 obtain ⟨m12, A13, c14, rfl, q15, r16⟩ := rdS_op r4
 obtain ⟨m17, A18, c19, rfl, q20, r21⟩ := rdS_op r6
 obtain ⟨v22, v24, v26, rfl, r23, r25, r27⟩ := tyCharge_rd r_1
 obtain ⟨m28, A29, c30, rfl, q31, r32⟩ := rdS_op r23
 obtain ⟨m33, A34, c35, rfl, q36, r37⟩ := rdS_op r25
 obtain ⟨m38, A39, c40, rfl, q41, r42⟩ := rdS_op r27
 refine ce2 (L := [(0, .agg #[.int .i64 x0.Segment, .int .i64 x0.Base, .slice A8 x0.Ids.length c9, .slice A13 x0.Tenants.length c14, .slice A18 x0.Rows.length c19]), (1, .agg #[.int .i64 x1.Segment, .int .i64 x1.Base, .slice A29 x1.Ids.length c30, .slice A34 x1.Tenants.length c35, .slice A39 x1.Rows.length c40])]) (N := 33) func169 ?_
 refine sr ?_
 refine WM_box rfl (Wd_none rfl) (by decide) (fun p43 => ?_)
 refine WM_box rfl (Wd_none rfl) (by decide) (fun p44 => ?_)
 refine wa (nt' (CM_seq (sr ?_)))
 refine wv (vf underlying133 rfl type3) ?_
 refine wv (vl 1 0 underlying3) ?_
 refine wv (vf underlying133 rfl type3) ?_
 refine wv (vl 0 0 underlying3) ?_
 refine wv vneq ?_
 refine nt' ?_
 by_cases h45 : x0.Segment = x1.Segment
 ·have g46 : (x0.Segment != x1.Segment) = false := by rw [h45]; exact bne_self_eq_false _
  refine CM_condF rfl g46 ?_
  refine CM_skip (QM_then (CM_seq (sr ?_)))
  refine wv (vf underlying133 rfl type3) ?_
  refine wv (vl 1 1 underlying3) ?_
  refine wv (vf underlying133 rfl type3) ?_
  refine wv (vl 0 1 underlying3) ?_
  refine wv vneq ?_
  refine nt' ?_
  by_cases h47 : x0.Base = x1.Base
  ·have g48 : (x0.Base != x1.Base) = false := by rw [h47]; exact bne_self_eq_false _
   refine CM_condF rfl g48 ?_
   refine CM_skip (QM_then (CM_seq (sr ?_)))
   refine wv (vf underlying133 rfl type25) ?_
   refine wv (vl 1 2 underlying25) ?_
   refine wv (vf underlying133 rfl type25) ?_
   refine wv (vl 0 2 underlying25) ?_
   refine wcv (cl_fn cb49 rfl) (fun W hm => laws_eqIntS_c W _ x0.Ids _ x1.Ids (hm.rdS0 r11) (hm.rdS0 r32)) ?_
   refine wv vnot ?_
   refine nt' ?_
   rcases Bool.eq_false_or_eq_true (laws_eqIntS_m x0.Ids x1.Ids) with g50 | g50
   ·
    refine CM_condF rfl (nt g50) ?_
    refine CM_skip (QM_then (CM_seq (sr ?_)))
    refine wv (vf underlying133 rfl type25) ?_
    refine wv (vl 1 3 underlying25) ?_
    refine wv (vf underlying133 rfl type25) ?_
    refine wv (vl 0 3 underlying25) ?_
    refine wcv (cl_fn cb49 rfl) (fun W hm => laws_eqIntS_c W _ x0.Tenants _ x1.Tenants (hm.rdS0 r16) (hm.rdS0 r37)) ?_
    refine wv vnot ?_
    refine nt' ?_
    rcases Bool.eq_false_or_eq_true (laws_eqIntS_m x0.Tenants x1.Tenants) with g52 | g52
    ·
     refine CM_condF rfl (nt g52) ?_
     refine CM_skip (QM_then (CM_seq (sr ?_)))
     refine wv (vf underlying133 rfl type25) ?_
     refine wv (vl 1 4 underlying25) ?_
     refine wv (vf underlying133 rfl type25) ?_
     refine wv (vl 0 4 underlying25) ?_
     refine wcv (cl_fn cb49 rfl) (fun W hm => laws_eqIntS_c W _ x0.Rows _ x1.Rows (hm.rdS0 r21) (hm.rdS0 r42)) ?_
     refine wv vnot ?_
     refine nt' ?_
     rcases Bool.eq_false_or_eq_true (laws_eqIntS_m x0.Rows x1.Rows) with g54 | g54
     ·
      refine CM_condF rfl (nt g54) ?_
      refine CM_skip (QM_then (sr (wa (nt' (CM_ret ?_)))))
      exact rtb (h := cond_f g46 (cond_f g48 (cond_t g50 (cond_t g52 (cond_t g54 (rfl))))))
     ·
      refine CM_condT rfl (nf g54) ?_
      refine sr (wa (nt' (CM_ret (QM_then_ret ?_))))
      exact rtb (h := cond_f g46 (cond_f g48 (cond_t g50 (cond_t g52 (cond_f g54 (rfl))))))
    ·
     refine CM_condT rfl (nf g52) ?_
     refine sr (wa (nt' (CM_ret (QM_then_ret ?_))))
     exact rtb (h := cond_f g46 (cond_f g48 (cond_t g50 (cond_f g52 (rfl)))))
   ·
    refine CM_condT rfl (nf g50) ?_
    refine sr (wa (nt' (CM_ret (QM_then_ret ?_))))
    exact rtb (h := cond_f g46 (cond_f g48 (cond_f g50 (rfl))))
  ·have g48 : (x0.Base != x1.Base) = true := bne_iff_ne.2 h47
   refine CM_condT rfl g48 ?_
   refine sr (wa (nt' (CM_ret (QM_then_ret ?_))))
   exact rtb (h := cond_f g46 (cond_t g48 (rfl)))
 ·have g46 : (x0.Segment != x1.Segment) = true := bne_iff_ne.2 h45
  refine CM_condT rfl g46 ?_
  refine sr (wa (nt' (CM_ret (QM_then_ret ?_))))
  exact rtb (h := cond_t g46 (rfl))

def laws_eqChargeS_b1 (x0 : (List DCharge)) (x1 : (List DCharge)) (k13 : Nat) : Bool ⊕ (Unit) :=
 cond (laws_eqCharge_m (gt x0 k13) (gt x1 k13)) (Sum.inr ()) (Sum.inl false)
def laws_eqChargeS_m (x0 : (List DCharge)) (x1 : (List DCharge)) : Bool :=
 cond (((x0.length : Nat) : Int) != ((x1.length : Nat) : Int)) false (Sum.elim id (fun (s : Unit) => true) (rng (R := Bool) (fun k (_ : Unit) => laws_eqChargeS_b1 x0 x1 k) (x0.length - 0) 0 ()))
theorem cb91 : Cb Tryz.prog 91 := ⟨f91, _, func91, rfl, by decide⟩
theorem laws_eqChargeS_c (w : World) (z0 : Value) (x0 : (List DCharge)) (z1 : Value) (x1 : (List DCharge)) (r_0 : rdS tyCharge w w.heap.size z0 x0) (r_1 : rdS tyCharge w w.heap.size z1 x1) :
  Calls Tryz.prog 91 #[z0, z1] w fun e w' => e = .returned (.bool (laws_eqChargeS_m x0 x1)) ∧ Below w.heap.size w w' := by
 obtain ⟨m1, A2, c3, rfl, q4, r5⟩ := rdS_op r_0
 obtain ⟨m6, A7, c8, rfl, q9, r10⟩ := rdS_op r_1
 refine ce2 (L := [(0, .slice A2 x0.length c3), (1, .slice A7 x1.length c8)]) (N := 27) func91 ?_
 refine sr (wa (nt' (CM_seq (sr (wm ?_)))))
 refine wv (vlen underlying45) ?_
 refine wm ?_
 refine wv (vlen underlying45) ?_
 refine wv vneq ?_
 refine nt' ?_
 by_cases h11 : ((x0.length : Nat) : Int) = ((x1.length : Nat) : Int)
 ·have g12 : (((x0.length : Nat) : Int) != ((x1.length : Nat) : Int)) = false := by rw [h11]; exact bne_self_eq_false _
  refine CM_condF rfl g12 ?_
  refine CM_skip (QM_then (CM_seq (sr (wa (nt' (CM_block ?_))))))
  let F1 := fun k (_ : Unit) => laws_eqChargeS_b1 x0 x1 k
  let R2 := rng (R := Bool) F1
  refine CM_loop (σ := Nat × (Unit) × (Unit)) (fun s => [(0, .slice A2 x0.length c3), (1, .slice A7 x1.length c8), (5, .int .i64 ((s.1 : Nat) : Int))]) (fun s => []) (fun s => s.1 ≤ x0.length ∧ R2 (x0.length - s.1) s.1 s.2.1 = R2 (x0.length - 0) 0 ()) (fun s => x0.length - s.1) (0, (), ()) sl3 (fun W hm => hm) ⟨(by omega), rfl⟩ ?_
  rintro ⟨k13, ⟨⟩, ⟨⟩⟩ H16
  obtain ⟨hk14, hF15⟩ : k13 ≤ x0.length ∧ R2 (x0.length - k13) k13 () = R2 (x0.length - 0) 0 () := H16
  show CM Tryz.prog 27 _ _ _ _ [(0, .slice A2 x0.length c3), (1, .slice A7 x1.length c8), (5, .int .i64 ((k13 : Nat) : Int))] []
  refine CM_seq (sr (wm (wm ?_)))
  refine wv (vlen underlying45) ?_
  refine wv vlss ?_
  refine nt' ?_
  by_cases hl17 : k13 < x0.length
  ·have g18 := dlT hl17
   refine CM_condT rfl g18 ?_
   refine CM_skip (QM_then (CM_seq (CM_block (CM_seq ?_))))
   refine CM_regionD (by kernel_rfl) (by kernel_rfl) ?_
   refine qm (qm ?_)
   obtain ⟨a19, rfl, hb20, he21⟩ := q4 (by omega)
   refine qv (vix 5 k13 underlying45 type133) ?_
   obtain ⟨_, e29, hc22⟩ := he21 k13 _ (gt_some (show k13 < x0.length from by omega))
   obtain ⟨v23, v25, v27, rfl, r24, r26, r28⟩ := tyCharge_rd e29
   obtain ⟨m30, A31, c32, rfl, q33, r34⟩ := rdS_op r24
   obtain ⟨m35, A36, c37, rfl, q38, r39⟩ := rdS_op r26
   obtain ⟨m40, A41, c42, rfl, q43, r44⟩ := rdS_op r28
   refine qv (fun W hm => rv_loadN (cs := [.int .i64 ((gt x0 k13).Segment), .int .i64 ((gt x0 k13).Base), .slice A31 ((gt x0 k13).Ids).length c32, .slice A36 ((gt x0 k13).Tenants).length c37, .slice A41 ((gt x0 k13).Rows).length c42]) underlying133 type133 rfl rfl (hm.elCells (show (a19.add (k13 * 5)).block < w.heap.size from by rw [add_block]; exact hb20.1) hc22)) ?_
   refine qm (qm ?_)
   obtain ⟨a45, rfl, hb46, he47⟩ := q9 (by omega)
   refine qv (vix 5 k13 underlying45 type133) ?_
   obtain ⟨_, e55, hc48⟩ := he47 k13 _ (gt_some (show k13 < x1.length from by omega))
   obtain ⟨v49, v51, v53, rfl, r50, r52, r54⟩ := tyCharge_rd e55
   obtain ⟨m56, A57, c58, rfl, q59, r60⟩ := rdS_op r50
   obtain ⟨m61, A62, c63, rfl, q64, r65⟩ := rdS_op r52
   obtain ⟨m66, A67, c68, rfl, q69, r70⟩ := rdS_op r54
   refine qv (fun W hm => rv_loadN (cs := [.int .i64 ((gt x1 k13).Segment), .int .i64 ((gt x1 k13).Base), .slice A57 ((gt x1 k13).Ids).length c58, .slice A62 ((gt x1 k13).Tenants).length c63, .slice A67 ((gt x1 k13).Rows).length c68]) underlying133 type133 rfl rfl (hm.elCells (show (a45.add (k13 * 5)).block < w.heap.size from by rw [add_block]; exact hb46.1) hc48)) ?_
   refine QR_callV (cl_fn cb169 rfl) (fun W hm => laws_eqCharge_c W _ (gt x0 k13) _ (gt x1 k13) (tyCharge_mk (x := (gt x0 k13)) (hm.rdS0 r34) (hm.rdS0 r39) (hm.rdS0 r44)) (tyCharge_mk (x := (gt x1 k13)) (hm.rdS0 r60) (hm.rdS0 r65) (hm.rdS0 r70))) (Wd_none rfl) (by decide) ?_
   refine qv vnot ?_
   refine nq' ?_
   rcases Bool.eq_false_or_eq_true (laws_eqCharge_m (gt x0 k13) (gt x1 k13)) with g72 | g72
   ·
    refine CM_condF rfl (nt g72) ?_
    refine CM_skip (QM_block_normal (QM_then (CM_region (wm ?_))))
    refine wv (vadN k13 1 (by omega)) ?_
    refine wa (WM_nil ?_)
    have hn73 := rng_next (R := Bool) (body := F1) (k := k13) (s := ()) (s' := ()) (show k13 < x0.length from by omega) (cond_t g72 (rfl)) hF15
    exact QM_round (k13 + 1, (), ()) sl3 (fun W hm => hm) ⟨(by omega), hn73⟩ (rl (by omega))
   ·
    refine CM_condT rfl (nf g72) ?_
    refine sr (wa (nt' (CM_ret (QM_block_ret (QM_then_ret (QM_then_ret (QM_block_ret (QM_then_ret ?_))))))))
    exact rtb (h := cond_f g12 (fin_inl (rng_ret (body := F1) (k := k13) (s := ()) (show k13 < x0.length from by omega) (cond_f g72 (rfl)) hF15) rfl))
  ·have g18 := dlF hl17
   refine CM_condF rfl g18 ?_
   refine CM_exit (QM_then_exit (QM_then_exit ?_))
   have hE74 : R2 (x0.length - 0) 0 () = Sum.inr () := rng_end hl17 hF15
   refine QM_block_hit (QM_then (sr (wa (nt' (CM_ret ?_)))))
   exact rtb (h := cond_f g12 (fin_inr hE74 (rfl)))
 ·have g12 : (((x0.length : Nat) : Int) != ((x1.length : Nat) : Int)) = true := bne_iff_ne.2 h11
  refine CM_condT rfl g12 ?_
  refine sr (wa (nt' (CM_ret (QM_then_ret ?_))))
  exact rtb (h := cond_t g12 (rfl))

def laws_eqEngine_m (x0 : DEngine) (x1 : DEngine) : Bool :=
 cond (laws_eqStore_m x0.Store x1.Store) (cond (x0.Cursor != x1.Cursor) false (cond (laws_eqIntS_m x0.Order x1.Order) (cond (laws_eqActiveS_m x0.Active x1.Active) (cond (laws_eqFinishedS_m x0.Done x1.Done) (cond (laws_eqChargeS_m x0.Ledger x1.Ledger) (cond (x0.Steps != x1.Steps) false true) false) false) false) false)) false
theorem cb19 : Cb Tryz.prog 19 := ⟨f19, _, func19, rfl, by decide⟩
theorem laws_eqEngine_c (w : World) (z0 : List Value) (x0 : DEngine) (z1 : List Value) (x1 : DEngine) (r_0 : tyEngine.rd w w.heap.size z0 x0) (r_1 : tyEngine.rd w w.heap.size z1 x1) :
  Calls Tryz.prog 19 #[.agg z0.toArray, .agg z1.toArray] w fun e w' => e = .returned (.bool (laws_eqEngine_m x0 x1)) ∧ Below w.heap.size w w' := by
 obtain ⟨v1, v3, v5, v7, v9, rfl, r2, r4, r6, r8, r10⟩ := tyEngine_rd r_0
 obtain ⟨m11, A12, c13, rfl, q14, r15⟩ := rdS_op r2
 obtain ⟨m16, A17, c18, rfl, q19, r20⟩ := rdS_op r4
 obtain ⟨m21, A22, c23, rfl, q24, r25⟩ := rdS_op r6
 obtain ⟨m26, A27, c28, rfl, q29, r30⟩ := rdS_op r8
 obtain ⟨m31, A32, c33, rfl, q34, r35⟩ := rdS_op r10
 obtain ⟨v36, v38, v40, v42, v44, rfl, r37, r39, r41, r43, r45⟩ := tyEngine_rd r_1
 obtain ⟨m46, A47, c48, rfl, q49, r50⟩ := rdS_op r37
 obtain ⟨m51, A52, c53, rfl, q54, r55⟩ := rdS_op r39
 obtain ⟨m56, A57, c58, rfl, q59, r60⟩ := rdS_op r41
 obtain ⟨m61, A62, c63, rfl, q64, r65⟩ := rdS_op r43
 obtain ⟨m66, A67, c68, rfl, q69, r70⟩ := rdS_op r45
 refine ce2 (L := [(0, .agg #[.slice A12 x0.Store.Segments.length c13, .int .i64 x0.Store.Now, .int .i64 x0.Cursor, .slice A17 x0.Order.length c18, .slice A22 x0.Active.length c23, .slice A27 x0.Done.length c28, .slice A32 x0.Ledger.length c33, .int .i64 x0.Steps]), (1, .agg #[.slice A47 x1.Store.Segments.length c48, .int .i64 x1.Store.Now, .int .i64 x1.Cursor, .slice A52 x1.Order.length c53, .slice A57 x1.Active.length c58, .slice A62 x1.Done.length c63, .slice A67 x1.Ledger.length c68, .int .i64 x1.Steps])]) (N := 45) func19 ?_
 refine sr ?_
 refine WM_box rfl (Wd_none rfl) (by decide) (fun p71 => ?_)
 refine WM_box rfl (Wd_none rfl) (by decide) (fun p72 => ?_)
 refine wa (nt' (CM_seq (sr ?_)))
 refine wv (vf underlying47 rfl type42) ?_
 refine wv (fun W hm => rv_loadN (cs := [.slice A12 x0.Store.Segments.length c13, .int .i64 x0.Store.Now]) underlying42 type42 rfl rfl (hm.boxPart (n := 1) rfl rfl)) ?_
 refine wv (vf underlying47 rfl type42) ?_
 refine wv (fun W hm => rv_loadN (cs := [.slice A47 x1.Store.Segments.length c48, .int .i64 x1.Store.Now]) underlying42 type42 rfl rfl (hm.boxPart (n := 0) rfl rfl)) ?_
 refine wcv (cl_fn cb88 rfl) (fun W hm => laws_eqStore_c W _ x0.Store _ x1.Store (tyStore_mk (x := x0.Store) (hm.rdS0 r15)) (tyStore_mk (x := x1.Store) (hm.rdS0 r50))) ?_
 refine wv vnot ?_
 refine nt' ?_
 rcases Bool.eq_false_or_eq_true (laws_eqStore_m x0.Store x1.Store) with g74 | g74
 ·
  refine CM_condF rfl (nt g74) ?_
  refine CM_skip (QM_then (CM_seq (sr ?_)))
  refine wv (vf underlying47 rfl type3) ?_
  refine wv (vl 1 2 underlying3) ?_
  refine wv (vf underlying47 rfl type3) ?_
  refine wv (vl 0 2 underlying3) ?_
  refine wv vneq ?_
  refine nt' ?_
  by_cases h75 : x0.Cursor = x1.Cursor
  ·have g76 : (x0.Cursor != x1.Cursor) = false := by rw [h75]; exact bne_self_eq_false _
   refine CM_condF rfl g76 ?_
   refine CM_skip (QM_then (CM_seq (sr ?_)))
   refine wv (vf underlying47 rfl type25) ?_
   refine wv (vl 1 3 underlying25) ?_
   refine wv (vf underlying47 rfl type25) ?_
   refine wv (vl 0 3 underlying25) ?_
   refine wcv (cl_fn cb49 rfl) (fun W hm => laws_eqIntS_c W _ x0.Order _ x1.Order (hm.rdS0 r20) (hm.rdS0 r55)) ?_
   refine wv vnot ?_
   refine nt' ?_
   rcases Bool.eq_false_or_eq_true (laws_eqIntS_m x0.Order x1.Order) with g78 | g78
   ·
    refine CM_condF rfl (nt g78) ?_
    refine CM_skip (QM_then (CM_seq (sr ?_)))
    refine wv (vf underlying47 rfl type43) ?_
    refine wv (vl 1 4 underlying43) ?_
    refine wv (vf underlying47 rfl type43) ?_
    refine wv (vl 0 4 underlying43) ?_
    refine wcv (cl_fn cb89 rfl) (fun W hm => laws_eqActiveS_c W _ x0.Active _ x1.Active (hm.rdS0 r25) (hm.rdS0 r60)) ?_
    refine wv vnot ?_
    refine nt' ?_
    rcases Bool.eq_false_or_eq_true (laws_eqActiveS_m x0.Active x1.Active) with g80 | g80
    ·
     refine CM_condF rfl (nt g80) ?_
     refine CM_skip (QM_then (CM_seq (sr ?_)))
     refine wv (vf underlying47 rfl type44) ?_
     refine wv (vl 1 5 underlying44) ?_
     refine wv (vf underlying47 rfl type44) ?_
     refine wv (vl 0 5 underlying44) ?_
     refine wcv (cl_fn cb90 rfl) (fun W hm => laws_eqFinishedS_c W _ x0.Done _ x1.Done (hm.rdS0 r30) (hm.rdS0 r65)) ?_
     refine wv vnot ?_
     refine nt' ?_
     rcases Bool.eq_false_or_eq_true (laws_eqFinishedS_m x0.Done x1.Done) with g82 | g82
     ·
      refine CM_condF rfl (nt g82) ?_
      refine CM_skip (QM_then (CM_seq (sr ?_)))
      refine wv (vf underlying47 rfl type45) ?_
      refine wv (vl 1 6 underlying45) ?_
      refine wv (vf underlying47 rfl type45) ?_
      refine wv (vl 0 6 underlying45) ?_
      refine wcv (cl_fn cb91 rfl) (fun W hm => laws_eqChargeS_c W _ x0.Ledger _ x1.Ledger (hm.rdS0 r35) (hm.rdS0 r70)) ?_
      refine wv vnot ?_
      refine nt' ?_
      rcases Bool.eq_false_or_eq_true (laws_eqChargeS_m x0.Ledger x1.Ledger) with g84 | g84
      ·
       refine CM_condF rfl (nt g84) ?_
       refine CM_skip (QM_then (CM_seq (sr ?_)))
       refine wv (vf underlying47 rfl type3) ?_
       refine wv (vl 1 7 underlying3) ?_
       refine wv (vf underlying47 rfl type3) ?_
       refine wv (vl 0 7 underlying3) ?_
       refine wv vneq ?_
       refine nt' ?_
       by_cases h85 : x0.Steps = x1.Steps
       ·have g86 : (x0.Steps != x1.Steps) = false := by rw [h85]; exact bne_self_eq_false _
        refine CM_condF rfl g86 ?_
        refine CM_skip (QM_then (sr (wa (nt' (CM_ret ?_)))))
        exact rtb (h := cond_t g74 (cond_f g76 (cond_t g78 (cond_t g80 (cond_t g82 (cond_t g84 (cond_f g86 (rfl))))))))
       ·have g86 : (x0.Steps != x1.Steps) = true := bne_iff_ne.2 h85
        refine CM_condT rfl g86 ?_
        refine sr (wa (nt' (CM_ret (QM_then_ret ?_))))
        exact rtb (h := cond_t g74 (cond_f g76 (cond_t g78 (cond_t g80 (cond_t g82 (cond_t g84 (cond_t g86 (rfl))))))))
      ·
       refine CM_condT rfl (nf g84) ?_
       refine sr (wa (nt' (CM_ret (QM_then_ret ?_))))
       exact rtb (h := cond_t g74 (cond_f g76 (cond_t g78 (cond_t g80 (cond_t g82 (cond_f g84 (rfl)))))))
     ·
      refine CM_condT rfl (nf g82) ?_
      refine sr (wa (nt' (CM_ret (QM_then_ret ?_))))
      exact rtb (h := cond_t g74 (cond_f g76 (cond_t g78 (cond_t g80 (cond_f g82 (rfl))))))
    ·
     refine CM_condT rfl (nf g80) ?_
     refine sr (wa (nt' (CM_ret (QM_then_ret ?_))))
     exact rtb (h := cond_t g74 (cond_f g76 (cond_t g78 (cond_f g80 (rfl)))))
   ·
    refine CM_condT rfl (nf g78) ?_
    refine sr (wa (nt' (CM_ret (QM_then_ret ?_))))
    exact rtb (h := cond_t g74 (cond_f g76 (cond_f g78 (rfl))))
  ·have g76 : (x0.Cursor != x1.Cursor) = true := bne_iff_ne.2 h75
   refine CM_condT rfl g76 ?_
   refine sr (wa (nt' (CM_ret (QM_then_ret ?_))))
   exact rtb (h := cond_t g74 (cond_t g76 (rfl)))
 ·
  refine CM_condT rfl (nf g74) ?_
  refine sr (wa (nt' (CM_ret (QM_then_ret ?_))))
  exact rtb (h := cond_f g74 (rfl))

def laws_markIntS_b1 (k5 : Nat) (s6 : Int) (d7 : (List Int)) : (Int × (List Int)) ⊕ (Int × (List Int)) :=
 Sum.inr ((IntKind.i64.wrap (s6 + 1)), (d7.set k5 s6))
def laws_markIntS_m (x0 : (List Int)) (x1 : Int) : (Int × (List Int)) :=
 Sum.elim id (fun (s : Int × (List Int)) => (s.1, s.2)) (rng (R := (Int × (List Int))) (fun k (s : Int × (List Int)) => laws_markIntS_b1 k s.1 s.2) (x0.length - 0) 0 (x1, x0))
theorem cb50 : Cb Tryz.prog 50 := ⟨f50, _, func50, rfl, by decide⟩
theorem laws_markIntS_c (B : Nat) (w0 : World) (is : List It) (w : World) (z0 : Value) (x0 : (List Int)) (x1 : Int) (hm : Mem B w0 (iOwn (tSl tInt 3) [z0] x0 :: is) w) :
  Calls Tryz.prog 50 #[z0, .int .i64 x1] w fun e w' => e = .returned (.int .i64 (laws_markIntS_m x0 x1).1) ∧ Mem B w0 (iOwn (tSl tInt 3) [z0] (laws_markIntS_m x0 x1).2 :: is) w' := by
 refine call_enterW (L := [(0, z0), (1, .int .i64 x1)]) (N := 19) func50 rfl rfl (Nat.le_of_ble_eq_true rfl) (argsL_cons rfl (argsL_cons rfl argsL_nil)) hm ?_
 refine CM_form (n := 0) rfl ?_
 rintro A1 c2 rfl m3
 refine sr (wa (nt' (CM_seq (sr (wa (nt' (CM_block ?_)))))))
 let F1 := fun k (s : Int × (List Int)) => laws_markIntS_b1 k s.1 s.2
 let R2 := rng (R := (Int × (List Int))) F1
 refine CM_loop (σ := Nat × (Int × (List Int)) × (Unit)) (fun s => [(0, .slice A1 x0.length c2), (1, .int .i64 s.2.1.1), (5, .int .i64 ((s.1 : Nat) : Int))]) (fun s => (iOwn (tSl tInt 3) [.slice A1 x0.length c2] s.2.1.2 :: is)) (fun s => s.1 ≤ x0.length ∧ R2 (x0.length - s.1) s.1 s.2.1 = R2 (x0.length - 0) 0 (x1, x0)) (fun s => x0.length - s.1) (0, (x1, x0), ()) sl3 (fun W hm => hm) ⟨(by omega), rfl⟩ ?_
 rintro ⟨k5, ⟨s6, d7⟩, ⟨⟩⟩ H10
 obtain ⟨hk8, hF9⟩ : k5 ≤ x0.length ∧ R2 (x0.length - k5) k5 (s6, d7) = R2 (x0.length - 0) 0 (x1, x0) := H10
 show CM Tryz.prog 19 _ _ _ _ [(0, .slice A1 x0.length c2), (1, .int .i64 s6), (5, .int .i64 ((k5 : Nat) : Int))] (iOwn (tSl tInt 3) [.slice A1 x0.length c2] d7 :: is)
 refine CM_seq (sr (wm (wm ?_)))
 refine wv (vlen underlying25) ?_
 refine wv vlss ?_
 refine nt' ?_
 by_cases hl11 : k5 < x0.length
 ·have g12 := dlT hl11
  refine CM_condT rfl g12 ?_
  refine CM_skip (QM_then (CM_seq (CM_block (sr (wm (wm (wm ?_)))))))
  refine WM_formO (n := 0) rfl (by omega) ?_
  rintro g13 rfl
  refine wv (vix 1 k5 underlying25 type3) ?_
  refine WM_setEl (E := tInt) (e := 3) (u := .int .i64 s6) (k := k5) (p := g13) (n := x0.length) (xs := d7) (eis := []) (js := (is)) (yv := s6) (fun W hm => (hm.front (n := 0) rfl)) (fun _ _ hs => (Sep.nil hs ▸ tInt_own)) rfl type3 rfl (by omega) rfl rfl (Wd_none rfl) ?_
  refine nt' (CM_region (wm ?_))
  refine wv vadd ?_
  refine wa (WM_nil (QM_block_normal (QM_then (CM_region (wm ?_)))))
  refine wv (vadN k5 1 (by omega)) ?_
  refine wa (WM_nil ?_)
  have hn14 := rng_next (R := (Int × (List Int))) (body := F1) (k := k5) (s := (s6, d7)) (s' := ((IntKind.i64.wrap (s6 + 1)), (d7.set k5 s6))) (show k5 < x0.length from by omega) (rfl) hF9
  exact QM_round (k5 + 1, ((IntKind.i64.wrap (s6 + 1)), (d7.set k5 s6)), ()) sl3 (fun W hm => hm) ⟨(by omega), hn14⟩ (rl (by omega))
 ·have g12 := dlF hl11
  refine CM_condF rfl g12 ?_
  refine CM_exit (QM_then_exit (QM_then_exit ?_))
  have hE15 : R2 (x0.length - 0) 0 (x1, x0) = Sum.inr (s6, d7) := rng_end hl11 hF9
  refine QM_block_hit (QM_then (sr (wm (wa (nt' (CM_ret ?_))))))
  have he16 := (show laws_markIntS_m x0 x1 = (s6, d7) from fin_inr hE15 (rfl))
  refine QM_rW rfl rfl (fun W hm => ⟨?_, ?_⟩)
  ·rw [he16]
  ·rw [he16]; exact hm

def laws_markVersionS_b1 (k5 : Nat) (s6 : Int) (d7 : (List DVersion)) : (Int × (List DVersion)) ⊕ (Int × (List DVersion)) :=
 Sum.inr ((IntKind.i64.wrap ((IntKind.i64.wrap (((laws_markIntS_m ((gt d7 k5).Values) (IntKind.i64.wrap (s6 + 1))).1) + 1)) + 1)), (d7.set k5 (⟨s6, (laws_markIntS_m ((gt d7 k5).Values) (IntKind.i64.wrap (s6 + 1))).2, (laws_markIntS_m ((gt d7 k5).Values) (IntKind.i64.wrap (s6 + 1))).1, (IntKind.i64.wrap (((laws_markIntS_m ((gt d7 k5).Values) (IntKind.i64.wrap (s6 + 1))).1) + 1))⟩ : DVersion)))
def laws_markVersionS_m (x0 : (List DVersion)) (x1 : Int) : (Int × (List DVersion)) :=
 Sum.elim id (fun (s : Int × (List DVersion)) => (s.1, s.2)) (rng (R := (Int × (List DVersion))) (fun k (s : Int × (List DVersion)) => laws_markVersionS_b1 k s.1 s.2) (x0.length - 0) 0 (x1, x0))
theorem cb219 : Cb Tryz.prog 219 := ⟨f219, _, func219, rfl, by decide⟩
theorem laws_markVersionS_c (B : Nat) (w0 : World) (is : List It) (w : World) (z0 : Value) (x0 : (List DVersion)) (x1 : Int) (hm : Mem B w0 (iOwn (tSl tyVersion 191) [z0] x0 :: is) w) :
  Calls Tryz.prog 219 #[z0, .int .i64 x1] w fun e w' => e = .returned (.int .i64 (laws_markVersionS_m x0 x1).1) ∧ Mem B w0 (iOwn (tSl tyVersion 191) [z0] (laws_markVersionS_m x0 x1).2 :: is) w' := by
 refine call_enterW (L := [(0, z0), (1, .int .i64 x1)]) (N := 41) func219 rfl rfl (Nat.le_of_ble_eq_true rfl) (argsL_cons rfl (argsL_cons rfl argsL_nil)) hm ?_
 refine CM_form (n := 0) rfl ?_
 rintro A1 c2 rfl m3
 refine sr (wa (nt' (CM_seq (sr (wa (nt' (CM_block ?_)))))))
 let F1 := fun k (s : Int × (List DVersion)) => laws_markVersionS_b1 k s.1 s.2
 let R2 := rng (R := (Int × (List DVersion))) F1
 refine CM_loop (σ := Nat × (Int × (List DVersion)) × (Unit)) (fun s => [(0, .slice A1 x0.length c2), (1, .int .i64 s.2.1.1), (5, .int .i64 ((s.1 : Nat) : Int))]) (fun s => (iOwn (tSl tyVersion 191) [.slice A1 x0.length c2] s.2.1.2 :: is)) (fun s => s.1 ≤ x0.length ∧ R2 (x0.length - s.1) s.1 s.2.1 = R2 (x0.length - 0) 0 (x1, x0)) (fun s => x0.length - s.1) (0, (x1, x0), ()) sl3 (fun W hm => hm) ⟨(by omega), rfl⟩ ?_
 rintro ⟨k5, ⟨s6, d7⟩, ⟨⟩⟩ H10
 obtain ⟨hk8, hF9⟩ : k5 ≤ x0.length ∧ R2 (x0.length - k5) k5 (s6, d7) = R2 (x0.length - 0) 0 (x1, x0) := H10
 show CM Tryz.prog 41 _ _ _ _ [(0, .slice A1 x0.length c2), (1, .int .i64 s6), (5, .int .i64 ((k5 : Nat) : Int))] (iOwn (tSl tyVersion 191) [.slice A1 x0.length c2] d7 :: is)
 refine CM_seq (sr (wm (wm ?_)))
 refine wv (vlen underlying131) ?_
 refine wv vlss ?_
 refine nt' ?_
 by_cases hl11 : k5 < x0.length
 ·have g12 := dlT hl11
  refine CM_condT rfl g12 ?_
  refine CM_skip (QM_then (CM_seq (CM_block (sr (wm (wm (wm ?_)))))))
  refine WM_formO (n := 0) rfl (by omega) ?_
  rintro g13 rfl
  refine wv (vix 4 k5 underlying131 type191) ?_
  refine wv (vf underlying191 rfl type3) ?_
  refine WM_focus (E := tyVersion) (e := 191) (A := (some ⟨g13, 0, none⟩)) (n := x0.length) (c := c2) (xs := d7) (k := k5) (js := (is)) (by omega) (fun W hm => (hm.front (n := 0) rfl)) (fun ck14 => ?_)
  refine tyVersion_sp ?_
  rintro v15 rfl
  refine WM_form (n := 0) rfl ?_
  rintro A16 c17 rfl m18
  let K3 : List Value := [.int .i64 s6, .slice A16 ((gt d7 k5).Values).length c17, .int .i64 ((gt d7 k5).Born), .int .i64 ((gt d7 k5).Died)]
  refine sf 0 4 K3 (iOwn (tSl tInt 3) [.slice A16 ((gt d7 k5).Values).length c17] ((gt d7 k5).Values) :: is) (fun W hm => (hm.front (n := 1) rfl)) type3 ?_
  refine nt' (sr (wm ?_))
  refine wv vadd ?_
  refine wa (nt' (sr (wm (wm ?_))))
  refine wv (vix 4 k5 underlying131 type191) ?_
  refine wv (vf underlying191 rfl type25) ?_
  refine wv (fun W hm => rv_load underlying25 rfl rfl (hm.focCells (i := 0) rfl rfl 1 _ rfl)) ?_
  refine wm ?_
  refine cw (cl_fn cb50 rfl) (fun W hm => laws_markIntS_c B w0 (iFoc tyVersion 191 (some ⟨g13, 0, none⟩) x0.length c2 d7 k5 K3 :: is) W (.slice A16 ((gt d7 k5).Values).length c17) ((gt d7 k5).Values) (IntKind.i64.wrap (s6 + 1)) (hm.front (n := 1) rfl)) ?_
  refine wa (nt' (sr (wm (wm (wm ?_)))))
  refine wv (vix 4 k5 underlying131 type191) ?_
  refine wv (vf underlying191 rfl type3) ?_
  let I5 : It := iOwn (tSl tInt 3) [.slice A16 ((gt d7 k5).Values).length c17] ((laws_markIntS_m ((gt d7 k5).Values) (IntKind.i64.wrap (s6 + 1))).2)
  refine sf 2 4 [.int .i64 s6, .slice A16 ((gt d7 k5).Values).length c17, .int .i64 ((laws_markIntS_m ((gt d7 k5).Values) (IntKind.i64.wrap (s6 + 1))).1), .int .i64 ((gt d7 k5).Died)] (I5 :: is) (fun W hm => (hm.front (n := 1) rfl)) type3 ?_
  refine nt' (sr (wm ?_))
  refine wv vadd ?_
  refine wa (nt' (sr (wm (wm (wm ?_)))))
  refine wv (vix 4 k5 underlying131 type191) ?_
  refine wv (vf underlying191 rfl type3) ?_
  let K4 : List Value := [.int .i64 s6, .slice A16 ((gt d7 k5).Values).length c17, .int .i64 ((laws_markIntS_m ((gt d7 k5).Values) (IntKind.i64.wrap (s6 + 1))).1), .int .i64 (IntKind.i64.wrap (((laws_markIntS_m ((gt d7 k5).Values) (IntKind.i64.wrap (s6 + 1))).1) + 1))]
  refine sf 3 4 K4 (I5 :: is) (fun W hm => (hm.front (n := 0) rfl)) type3 ?_
  refine nt' (CM_region (wm ?_))
  refine wv vadd ?_
  refine wa (WM_nil (QM_block_normal (QM_then (CM_region (wm ?_)))))
  refine wv (vadN k5 1 (by omega)) ?_
  refine wa (WM_nil ?_)
  refine QM_items (fun W hm => Mem.unfocus (Mem.join (is := [I5]) (js := (iFoc tyVersion 191 (some ⟨g13, 0, none⟩) x0.length c2 d7 k5 K4 :: (is))) (fun _ _ hs => tyVersion_join (x := (⟨s6, (laws_markIntS_m ((gt d7 k5).Values) (IntKind.i64.wrap (s6 + 1))).2, (laws_markIntS_m ((gt d7 k5).Values) (IntKind.i64.wrap (s6 + 1))).1, (IntKind.i64.wrap (((laws_markIntS_m ((gt d7 k5).Values) (IntKind.i64.wrap (s6 + 1))).1) + 1))⟩ : DVersion)) hs) ((hm.front (n := 0) rfl).front (n := 1) rfl))) ?_
  have hn20 := rng_next (R := (Int × (List DVersion))) (body := F1) (k := k5) (s := (s6, d7)) (s' := ((IntKind.i64.wrap ((IntKind.i64.wrap (((laws_markIntS_m ((gt d7 k5).Values) (IntKind.i64.wrap (s6 + 1))).1) + 1)) + 1)), (d7.set k5 (⟨s6, (laws_markIntS_m ((gt d7 k5).Values) (IntKind.i64.wrap (s6 + 1))).2, (laws_markIntS_m ((gt d7 k5).Values) (IntKind.i64.wrap (s6 + 1))).1, (IntKind.i64.wrap (((laws_markIntS_m ((gt d7 k5).Values) (IntKind.i64.wrap (s6 + 1))).1) + 1))⟩ : DVersion)))) (show k5 < x0.length from by omega) (rfl) hF9
  exact QM_round (k5 + 1, ((IntKind.i64.wrap ((IntKind.i64.wrap (((laws_markIntS_m ((gt d7 k5).Values) (IntKind.i64.wrap (s6 + 1))).1) + 1)) + 1)), (d7.set k5 (⟨s6, (laws_markIntS_m ((gt d7 k5).Values) (IntKind.i64.wrap (s6 + 1))).2, (laws_markIntS_m ((gt d7 k5).Values) (IntKind.i64.wrap (s6 + 1))).1, (IntKind.i64.wrap (((laws_markIntS_m ((gt d7 k5).Values) (IntKind.i64.wrap (s6 + 1))).1) + 1))⟩ : DVersion))), ()) sl3 (fun W hm => hm) ⟨(by omega), hn20⟩ (rl (by omega))
 ·have g12 := dlF hl11
  refine CM_condF rfl g12 ?_
  refine CM_exit (QM_then_exit (QM_then_exit ?_))
  have hE21 : R2 (x0.length - 0) 0 (x1, x0) = Sum.inr (s6, d7) := rng_end hl11 hF9
  refine QM_block_hit (QM_then (sr (wm (wa (nt' (CM_ret ?_))))))
  have he22 := (show laws_markVersionS_m x0 x1 = (s6, d7) from fin_inr hE21 (rfl))
  refine QM_rW rfl rfl (fun W hm => ⟨?_, ?_⟩)
  ·rw [he22]
  ·rw [he22]; exact hm

def laws_markVersionSS_b1 (k5 : Nat) (s6 : Int) (d7 : (List (List DVersion))) : (Int × (List (List DVersion))) ⊕ (Int × (List (List DVersion))) :=
 Sum.inr ((laws_markVersionS_m (gt d7 k5) s6).1, (d7.set k5 ((laws_markVersionS_m (gt d7 k5) s6).2)))
def laws_markVersionSS_m (x0 : (List (List DVersion))) (x1 : Int) : (Int × (List (List DVersion))) :=
 Sum.elim id (fun (s : Int × (List (List DVersion))) => (s.1, s.2)) (rng (R := (Int × (List (List DVersion)))) (fun k (s : Int × (List (List DVersion))) => laws_markVersionSS_b1 k s.1 s.2) (x0.length - 0) 0 (x1, x0))
theorem cb170 : Cb Tryz.prog 170 := ⟨f170, _, func170, rfl, by decide⟩
theorem laws_markVersionSS_c (B : Nat) (w0 : World) (is : List It) (w : World) (z0 : Value) (x0 : (List (List DVersion))) (x1 : Int) (hm : Mem B w0 (iOwn (tSl (tSl tyVersion 191) 131) [z0] x0 :: is) w) :
  Calls Tryz.prog 170 #[z0, .int .i64 x1] w fun e w' => e = .returned (.int .i64 (laws_markVersionSS_m x0 x1).1) ∧ Mem B w0 (iOwn (tSl (tSl tyVersion 191) 131) [z0] (laws_markVersionSS_m x0 x1).2 :: is) w' := by
 refine call_enterW (L := [(0, z0), (1, .int .i64 x1)]) (N := 19) func170 rfl rfl (Nat.le_of_ble_eq_true rfl) (argsL_cons rfl (argsL_cons rfl argsL_nil)) hm ?_
 refine CM_form (n := 0) rfl ?_
 rintro A1 c2 rfl m3
 refine sr (wa (nt' (CM_seq (sr (wa (nt' (CM_block ?_)))))))
 let F1 := fun k (s : Int × (List (List DVersion))) => laws_markVersionSS_b1 k s.1 s.2
 let R2 := rng (R := (Int × (List (List DVersion)))) F1
 refine CM_loop (σ := Nat × (Int × (List (List DVersion))) × (Unit)) (fun s => [(0, .slice A1 x0.length c2), (1, .int .i64 s.2.1.1), (5, .int .i64 ((s.1 : Nat) : Int))]) (fun s => (iOwn (tSl (tSl tyVersion 191) 131) [.slice A1 x0.length c2] s.2.1.2 :: is)) (fun s => s.1 ≤ x0.length ∧ R2 (x0.length - s.1) s.1 s.2.1 = R2 (x0.length - 0) 0 (x1, x0)) (fun s => x0.length - s.1) (0, (x1, x0), ()) sl3 (fun W hm => hm) ⟨(by omega), rfl⟩ ?_
 rintro ⟨k5, ⟨s6, d7⟩, ⟨⟩⟩ H10
 obtain ⟨hk8, hF9⟩ : k5 ≤ x0.length ∧ R2 (x0.length - k5) k5 (s6, d7) = R2 (x0.length - 0) 0 (x1, x0) := H10
 show CM Tryz.prog 19 _ _ _ _ [(0, .slice A1 x0.length c2), (1, .int .i64 s6), (5, .int .i64 ((k5 : Nat) : Int))] (iOwn (tSl (tSl tyVersion 191) 131) [.slice A1 x0.length c2] d7 :: is)
 refine CM_seq (sr (wm (wm ?_)))
 refine wv (vlen underlying40) ?_
 refine wv vlss ?_
 refine nt' ?_
 by_cases hl11 : k5 < x0.length
 ·have g12 := dlT hl11
  refine CM_condT rfl g12 ?_
  refine CM_skip (QM_then (CM_seq (CM_block (CM_region (wm (wm ?_))))))
  refine WM_formO (n := 0) rfl (by omega) ?_
  rintro g13 rfl
  refine wv (vix 1 k5 underlying40 type131) ?_
  refine WM_focus (E := (tSl tyVersion 191)) (e := 131) (A := (some ⟨g13, 0, none⟩)) (n := x0.length) (c := c2) (xs := d7) (k := k5) (js := (is)) (by omega) (fun W hm => (hm.front (n := 0) rfl)) (fun ck14 => ?_)
  refine WM_split (γ := Value) (js := fun g => [iOwn (tSl tyVersion 191) [g] (gt d7 k5)]) (C := fun g => ck14 = [g]) (fun _ _ h => tSl_split h) ?_
  rintro v15 rfl
  refine WM_form (n := 0) rfl ?_
  rintro A16 c17 rfl m18
  refine wv (fun W hm => rv_load underlying131 rfl rfl (hm.focInt (i := 1) rfl rfl)) ?_
  refine wm ?_
  refine cw (cl_fn cb219 rfl) (fun W hm => laws_markVersionS_c B w0 (iFoc (tSl tyVersion 191) 131 (some ⟨g13, 0, none⟩) x0.length c2 d7 k5 [.slice A16 (gt d7 k5).length c17] :: is) W (.slice A16 (gt d7 k5).length c17) (gt d7 k5) s6 (hm.front (n := 0) rfl)) ?_
  refine wa (WM_nil (QM_block_normal (QM_then (CM_region (wm ?_)))))
  refine wv (vadN k5 1 (by omega)) ?_
  refine wa (WM_nil ?_)
  refine QM_items (fun W hm => Mem.unfocus (Mem.join (is := [iOwn (tSl tyVersion 191) [.slice A16 (gt d7 k5).length c17] ((laws_markVersionS_m (gt d7 k5) s6).2)]) (js := (iFoc (tSl tyVersion 191) 131 (some ⟨g13, 0, none⟩) x0.length c2 d7 k5 [.slice A16 (gt d7 k5).length c17] :: (is))) (fun _ _ hs => Sep.one hs) ((hm.front (n := 1) rfl).front (n := 1) rfl))) ?_
  have hn20 := rng_next (R := (Int × (List (List DVersion)))) (body := F1) (k := k5) (s := (s6, d7)) (s' := ((laws_markVersionS_m (gt d7 k5) s6).1, (d7.set k5 ((laws_markVersionS_m (gt d7 k5) s6).2)))) (show k5 < x0.length from by omega) (rfl) hF9
  exact QM_round (k5 + 1, ((laws_markVersionS_m (gt d7 k5) s6).1, (d7.set k5 ((laws_markVersionS_m (gt d7 k5) s6).2))), ()) sl3 (fun W hm => hm) ⟨(by omega), hn20⟩ (rl (by omega))
 ·have g12 := dlF hl11
  refine CM_condF rfl g12 ?_
  refine CM_exit (QM_then_exit (QM_then_exit ?_))
  have hE21 : R2 (x0.length - 0) 0 (x1, x0) = Sum.inr (s6, d7) := rng_end hl11 hF9
  refine QM_block_hit (QM_then (sr (wm (wa (nt' (CM_ret ?_))))))
  have he22 := (show laws_markVersionSS_m x0 x1 = (s6, d7) from fin_inr hE21 (rfl))
  refine QM_rW rfl rfl (fun W hm => ⟨?_, ?_⟩)
  ·rw [he22]
  ·rw [he22]; exact hm

def laws_markStore_m (x0 : DStore) (x1 : Int) : (Int × DStore) :=
 ((laws_markVersionSS_m x0.Segments x1).1, (⟨(laws_markVersionSS_m x0.Segments x1).2, x0.Now⟩ : DStore))
theorem cb92 : Cb Tryz.prog 92 := ⟨f92, _, func92, rfl, by decide⟩
theorem laws_markStore_c (B : Nat) (w0 : World) (is : List It) (w : World) (z0 : List Value) (x0 : DStore) (x1 : Int) (hm : Mem B w0 (iOwn tyStore z0 x0 :: is) w) :
  Calls Tryz.prog 92 #[.agg z0.toArray, .int .i64 x1] w fun e w' => e = .returned (.int .i64 (laws_markStore_m x0 x1).1) ∧ Mem B w0 (iOwn tyStore z0 (laws_markStore_m x0 x1).2 :: is) w' := by
 refine call_enterW (L := [(0, .agg z0.toArray), (1, .int .i64 x1)]) (N := 10) func92 rfl rfl (Nat.le_of_ble_eq_true rfl) (argsL_cons rfl (argsL_cons rfl argsL_nil)) hm ?_
 refine CM_split (γ := Value) (js := fun g => [iOwn (tSl (tSl tyVersion 191) 131) [g] x0.Segments]) (C := fun g => z0 = [g, .int .i64 x0.Now]) (fun _ _ h => tyStore_split h) ?_
 rintro v1 rfl
 refine CM_form (n := 0) rfl ?_
 rintro A2 c3 rfl m4
 refine sr ?_
 refine WM_box rfl (Wd_none rfl) (by decide) (fun p6 => ?_)
 refine wa (nt' (sr ?_))
 refine wv (vf underlying42 rfl type40) ?_
 refine wv (vl 0 0 underlying40) ?_
 refine wm ?_
 refine cw (cl_fn cb170 rfl) (fun W hm => laws_markVersionSS_c B w0 (iBox p6 42 [.slice A2 x0.Segments.length c3, .int .i64 x0.Now] :: is) W (.slice A2 x0.Segments.length c3) x0.Segments x1 (hm.front (n := 1) rfl)) ?_
 refine wa (nt' (sr (wm (wa (nt' (CM_ret ?_))))))
 have he7 := (show laws_markStore_m x0 x1 = ((laws_markVersionSS_m x0.Segments x1).1, (⟨(laws_markVersionSS_m x0.Segments x1).2, x0.Now⟩ : DStore)) from rfl)
 refine QM_rW rfl rfl (fun W hm => ⟨?_, ?_⟩)
 ·rw [he7]
 ·rw [he7]; exact Mem.join (is := [iOwn (tSl (tSl tyVersion 191) 131) [.slice A2 x0.Segments.length c3] ((laws_markVersionSS_m x0.Segments x1).2)]) (js := is) (fun _ _ hs => tyStore_join (x := (⟨(laws_markVersionSS_m x0.Segments x1).2, x0.Now⟩ : DStore)) hs) ((hm.front (n := 0) rfl).front (n := 1) rfl).tail

def laws_markCondS_b1 (k5 : Nat) (s6 : Int) (d7 : (List DCond)) : (Int × (List DCond)) ⊕ (Int × (List DCond)) :=
 Sum.inr ((IntKind.i64.wrap ((IntKind.i64.wrap ((IntKind.i64.wrap (s6 + 1)) + 1)) + 1)), (d7.set k5 (⟨s6, (IntKind.i64.wrap (s6 + 1)), (IntKind.i64.wrap ((IntKind.i64.wrap (s6 + 1)) + 1))⟩ : DCond)))
def laws_markCondS_m (x0 : (List DCond)) (x1 : Int) : (Int × (List DCond)) :=
 Sum.elim id (fun (s : Int × (List DCond)) => (s.1, s.2)) (rng (R := (Int × (List DCond))) (fun k (s : Int × (List DCond)) => laws_markCondS_b1 k s.1 s.2) (x0.length - 0) 0 (x1, x0))
theorem cb146 : Cb Tryz.prog 146 := ⟨f146, _, func146, rfl, by decide⟩
theorem laws_markCondS_c (B : Nat) (w0 : World) (is : List It) (w : World) (z0 : Value) (x0 : (List DCond)) (x1 : Int) (hm : Mem B w0 (iOwn (tSl tyCond 201) [z0] x0 :: is) w) :
  Calls Tryz.prog 146 #[z0, .int .i64 x1] w fun e w' => e = .returned (.int .i64 (laws_markCondS_m x0 x1).1) ∧ Mem B w0 (iOwn (tSl tyCond 201) [z0] (laws_markCondS_m x0 x1).2 :: is) w' := by
 refine call_enterW (L := [(0, z0), (1, .int .i64 x1)]) (N := 34) func146 rfl rfl (Nat.le_of_ble_eq_true rfl) (argsL_cons rfl (argsL_cons rfl argsL_nil)) hm ?_
 refine CM_form (n := 0) rfl ?_
 rintro A1 c2 rfl m3
 refine sr (wa (nt' (CM_seq (sr (wa (nt' (CM_block ?_)))))))
 let F1 := fun k (s : Int × (List DCond)) => laws_markCondS_b1 k s.1 s.2
 let R2 := rng (R := (Int × (List DCond))) F1
 refine CM_loop (σ := Nat × (Int × (List DCond)) × (Unit)) (fun s => [(0, .slice A1 x0.length c2), (1, .int .i64 s.2.1.1), (5, .int .i64 ((s.1 : Nat) : Int))]) (fun s => (iOwn (tSl tyCond 201) [.slice A1 x0.length c2] s.2.1.2 :: is)) (fun s => s.1 ≤ x0.length ∧ R2 (x0.length - s.1) s.1 s.2.1 = R2 (x0.length - 0) 0 (x1, x0)) (fun s => x0.length - s.1) (0, (x1, x0), ()) sl3 (fun W hm => hm) ⟨(by omega), rfl⟩ ?_
 rintro ⟨k5, ⟨s6, d7⟩, ⟨⟩⟩ H10
 obtain ⟨hk8, hF9⟩ : k5 ≤ x0.length ∧ R2 (x0.length - k5) k5 (s6, d7) = R2 (x0.length - 0) 0 (x1, x0) := H10
 show CM Tryz.prog 34 _ _ _ _ [(0, .slice A1 x0.length c2), (1, .int .i64 s6), (5, .int .i64 ((k5 : Nat) : Int))] (iOwn (tSl tyCond 201) [.slice A1 x0.length c2] d7 :: is)
 refine CM_seq (sr (wm (wm ?_)))
 refine wv (vlen underlying32) ?_
 refine wv vlss ?_
 refine nt' ?_
 by_cases hl11 : k5 < x0.length
 ·have g12 := dlT hl11
  refine CM_condT rfl g12 ?_
  refine CM_skip (QM_then (CM_seq (CM_block (sr (wm (wm (wm ?_)))))))
  refine WM_formO (n := 0) rfl (by omega) ?_
  rintro g13 rfl
  refine wv (vix 3 k5 underlying32 type201) ?_
  refine wv (vf underlying201 rfl type3) ?_
  refine WM_focus (E := tyCond) (e := 201) (A := (some ⟨g13, 0, none⟩)) (n := x0.length) (c := c2) (xs := d7) (k := k5) (js := (is)) (by omega) (fun W hm => (hm.front (n := 0) rfl)) (fun ck14 => ?_)
  refine tyCond_sp ?_
  rintro ⟨⟩ rfl
  refine sf 0 3 [.int .i64 s6, .int .i64 ((gt d7 k5).Low), .int .i64 ((gt d7 k5).High)] (is) (fun W hm => (hm.front (n := 0) rfl)) type3 ?_
  refine nt' (sr (wm ?_))
  refine wv vadd ?_
  refine wa (nt' (sr (wm (wm (wm ?_)))))
  refine wv (vix 3 k5 underlying32 type201) ?_
  refine wv (vf underlying201 rfl type3) ?_
  refine sf 1 3 [.int .i64 s6, .int .i64 (IntKind.i64.wrap (s6 + 1)), .int .i64 ((gt d7 k5).High)] (is) (fun W hm => (hm.front (n := 0) rfl)) type3 ?_
  refine nt' (sr (wm ?_))
  refine wv vadd ?_
  refine wa (nt' (sr (wm (wm (wm ?_)))))
  refine wv (vix 3 k5 underlying32 type201) ?_
  refine wv (vf underlying201 rfl type3) ?_
  let K3 : List Value := [.int .i64 s6, .int .i64 (IntKind.i64.wrap (s6 + 1)), .int .i64 (IntKind.i64.wrap ((IntKind.i64.wrap (s6 + 1)) + 1))]
  refine sf 2 3 K3 (is) (fun W hm => (hm.front (n := 0) rfl)) type3 ?_
  refine nt' (CM_region (wm ?_))
  refine wv vadd ?_
  refine wa (WM_nil (QM_block_normal (QM_then (CM_region (wm ?_)))))
  refine wv (vadN k5 1 (by omega)) ?_
  refine wa (WM_nil ?_)
  refine QM_items (fun W hm => Mem.unfocus (Mem.join (is := []) (js := (iFoc tyCond 201 (some ⟨g13, 0, none⟩) x0.length c2 d7 k5 K3 :: (is))) (fun _ _ hs => tyCond_join (x := (⟨s6, (IntKind.i64.wrap (s6 + 1)), (IntKind.i64.wrap ((IntKind.i64.wrap (s6 + 1)) + 1))⟩ : DCond)) hs) (hm.front (n := 0) rfl))) ?_
  have hn15 := rng_next (R := (Int × (List DCond))) (body := F1) (k := k5) (s := (s6, d7)) (s' := ((IntKind.i64.wrap ((IntKind.i64.wrap ((IntKind.i64.wrap (s6 + 1)) + 1)) + 1)), (d7.set k5 (⟨s6, (IntKind.i64.wrap (s6 + 1)), (IntKind.i64.wrap ((IntKind.i64.wrap (s6 + 1)) + 1))⟩ : DCond)))) (show k5 < x0.length from by omega) (rfl) hF9
  exact QM_round (k5 + 1, ((IntKind.i64.wrap ((IntKind.i64.wrap ((IntKind.i64.wrap (s6 + 1)) + 1)) + 1)), (d7.set k5 (⟨s6, (IntKind.i64.wrap (s6 + 1)), (IntKind.i64.wrap ((IntKind.i64.wrap (s6 + 1)) + 1))⟩ : DCond))), ()) sl3 (fun W hm => hm) ⟨(by omega), hn15⟩ (rl (by omega))
 ·have g12 := dlF hl11
  refine CM_condF rfl g12 ?_
  refine CM_exit (QM_then_exit (QM_then_exit ?_))
  have hE16 : R2 (x0.length - 0) 0 (x1, x0) = Sum.inr (s6, d7) := rng_end hl11 hF9
  refine QM_block_hit (QM_then (sr (wm (wa (nt' (CM_ret ?_))))))
  have he17 := (show laws_markCondS_m x0 x1 = (s6, d7) from fin_inr hE16 (rfl))
  refine QM_rW rfl rfl (fun W hm => ⟨?_, ?_⟩)
  ·rw [he17]
  ·rw [he17]; exact hm

def laws_markRowS_b1 (k5 : Nat) (s6 : Int) (d7 : (List DRow)) : (Int × (List DRow)) ⊕ (Int × (List DRow)) :=
 Sum.inr ((laws_markIntS_m ((gt d7 k5).Values) (IntKind.i64.wrap (s6 + 1))).1, (d7.set k5 (⟨s6, (laws_markIntS_m ((gt d7 k5).Values) (IntKind.i64.wrap (s6 + 1))).2⟩ : DRow)))
def laws_markRowS_m (x0 : (List DRow)) (x1 : Int) : (Int × (List DRow)) :=
 Sum.elim id (fun (s : Int × (List DRow)) => (s.1, s.2)) (rng (R := (Int × (List DRow))) (fun k (s : Int × (List DRow)) => laws_markRowS_b1 k s.1 s.2) (x0.length - 0) 0 (x1, x0))
theorem cb96 : Cb Tryz.prog 96 := ⟨f96, _, func96, rfl, by decide⟩
theorem laws_markRowS_c (B : Nat) (w0 : World) (is : List It) (w : World) (z0 : Value) (x0 : (List DRow)) (x1 : Int) (hm : Mem B w0 (iOwn (tSl tyRow 73) [z0] x0 :: is) w) :
  Calls Tryz.prog 96 #[z0, .int .i64 x1] w fun e w' => e = .returned (.int .i64 (laws_markRowS_m x0 x1).1) ∧ Mem B w0 (iOwn (tSl tyRow 73) [z0] (laws_markRowS_m x0 x1).2 :: is) w' := by
 refine call_enterW (L := [(0, z0), (1, .int .i64 x1)]) (N := 27) func96 rfl rfl (Nat.le_of_ble_eq_true rfl) (argsL_cons rfl (argsL_cons rfl argsL_nil)) hm ?_
 refine CM_form (n := 0) rfl ?_
 rintro A1 c2 rfl m3
 refine sr (wa (nt' (CM_seq (sr (wa (nt' (CM_block ?_)))))))
 let F1 := fun k (s : Int × (List DRow)) => laws_markRowS_b1 k s.1 s.2
 let R2 := rng (R := (Int × (List DRow))) F1
 refine CM_loop (σ := Nat × (Int × (List DRow)) × (Unit)) (fun s => [(0, .slice A1 x0.length c2), (1, .int .i64 s.2.1.1), (5, .int .i64 ((s.1 : Nat) : Int))]) (fun s => (iOwn (tSl tyRow 73) [.slice A1 x0.length c2] s.2.1.2 :: is)) (fun s => s.1 ≤ x0.length ∧ R2 (x0.length - s.1) s.1 s.2.1 = R2 (x0.length - 0) 0 (x1, x0)) (fun s => x0.length - s.1) (0, (x1, x0), ()) sl3 (fun W hm => hm) ⟨(by omega), rfl⟩ ?_
 rintro ⟨k5, ⟨s6, d7⟩, ⟨⟩⟩ H10
 obtain ⟨hk8, hF9⟩ : k5 ≤ x0.length ∧ R2 (x0.length - k5) k5 (s6, d7) = R2 (x0.length - 0) 0 (x1, x0) := H10
 show CM Tryz.prog 27 _ _ _ _ [(0, .slice A1 x0.length c2), (1, .int .i64 s6), (5, .int .i64 ((k5 : Nat) : Int))] (iOwn (tSl tyRow 73) [.slice A1 x0.length c2] d7 :: is)
 refine CM_seq (sr (wm (wm ?_)))
 refine wv (vlen underlying35) ?_
 refine wv vlss ?_
 refine nt' ?_
 by_cases hl11 : k5 < x0.length
 ·have g12 := dlT hl11
  refine CM_condT rfl g12 ?_
  refine CM_skip (QM_then (CM_seq (CM_block (sr (wm (wm (wm ?_)))))))
  refine WM_formO (n := 0) rfl (by omega) ?_
  rintro g13 rfl
  refine wv (vix 2 k5 underlying35 type73) ?_
  refine wv (vf underlying73 rfl type3) ?_
  refine WM_focus (E := tyRow) (e := 73) (A := (some ⟨g13, 0, none⟩)) (n := x0.length) (c := c2) (xs := d7) (k := k5) (js := (is)) (by omega) (fun W hm => (hm.front (n := 0) rfl)) (fun ck14 => ?_)
  refine tyRow_sp ?_
  rintro v15 rfl
  refine WM_form (n := 0) rfl ?_
  rintro A16 c17 rfl m18
  refine sf 0 2 [.int .i64 s6, .slice A16 ((gt d7 k5).Values).length c17] (iOwn (tSl tInt 3) [.slice A16 ((gt d7 k5).Values).length c17] ((gt d7 k5).Values) :: is) (fun W hm => (hm.front (n := 1) rfl)) type3 ?_
  refine nt' (sr (wm ?_))
  refine wv vadd ?_
  refine wa (nt' (CM_region (wm (wm ?_))))
  refine wv (vix 2 k5 underlying35 type73) ?_
  refine wv (vf underlying73 rfl type25) ?_
  refine wv (fun W hm => rv_load underlying25 rfl rfl (hm.focCells (i := 0) rfl rfl 1 _ rfl)) ?_
  refine wm ?_
  refine cw (cl_fn cb50 rfl) (fun W hm => laws_markIntS_c B w0 (iFoc tyRow 73 (some ⟨g13, 0, none⟩) x0.length c2 d7 k5 [.int .i64 s6, .slice A16 ((gt d7 k5).Values).length c17] :: is) W (.slice A16 ((gt d7 k5).Values).length c17) ((gt d7 k5).Values) (IntKind.i64.wrap (s6 + 1)) (hm.front (n := 1) rfl)) ?_
  refine wa (WM_nil (QM_block_normal (QM_then (CM_region (wm ?_)))))
  refine wv (vadN k5 1 (by omega)) ?_
  refine wa (WM_nil ?_)
  refine QM_items (fun W hm => Mem.unfocus (Mem.join (is := [iOwn (tSl tInt 3) [.slice A16 ((gt d7 k5).Values).length c17] ((laws_markIntS_m ((gt d7 k5).Values) (IntKind.i64.wrap (s6 + 1))).2)]) (js := (iFoc tyRow 73 (some ⟨g13, 0, none⟩) x0.length c2 d7 k5 [.int .i64 s6, .slice A16 ((gt d7 k5).Values).length c17] :: (is))) (fun _ _ hs => tyRow_join (x := (⟨s6, (laws_markIntS_m ((gt d7 k5).Values) (IntKind.i64.wrap (s6 + 1))).2⟩ : DRow)) hs) ((hm.front (n := 1) rfl).front (n := 1) rfl))) ?_
  have hn20 := rng_next (R := (Int × (List DRow))) (body := F1) (k := k5) (s := (s6, d7)) (s' := ((laws_markIntS_m ((gt d7 k5).Values) (IntKind.i64.wrap (s6 + 1))).1, (d7.set k5 (⟨s6, (laws_markIntS_m ((gt d7 k5).Values) (IntKind.i64.wrap (s6 + 1))).2⟩ : DRow)))) (show k5 < x0.length from by omega) (rfl) hF9
  exact QM_round (k5 + 1, ((laws_markIntS_m ((gt d7 k5).Values) (IntKind.i64.wrap (s6 + 1))).1, (d7.set k5 (⟨s6, (laws_markIntS_m ((gt d7 k5).Values) (IntKind.i64.wrap (s6 + 1))).2⟩ : DRow))), ()) sl3 (fun W hm => hm) ⟨(by omega), hn20⟩ (rl (by omega))
 ·have g12 := dlF hl11
  refine CM_condF rfl g12 ?_
  refine CM_exit (QM_then_exit (QM_then_exit ?_))
  have hE21 : R2 (x0.length - 0) 0 (x1, x0) = Sum.inr (s6, d7) := rng_end hl11 hF9
  refine QM_block_hit (QM_then (sr (wm (wa (nt' (CM_ret ?_))))))
  have he22 := (show laws_markRowS_m x0 x1 = (s6, d7) from fin_inr hE21 (rfl))
  refine QM_rW rfl rfl (fun W hm => ⟨?_, ?_⟩)
  ·rw [he22]
  ·rw [he22]; exact hm

end Go.Proofs.YtmikmbmdibabmaaGreat
