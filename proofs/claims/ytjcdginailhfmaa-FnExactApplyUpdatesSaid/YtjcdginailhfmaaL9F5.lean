/-
  Contracts of functions, printed by a program of ours.
-/
import Derived.Test.YtjcdginailhfmaaL9F4
namespace Go.Proofs.Ytjcdginailhfmaa
open Go.RowKit
def laws_eqRow_m (x0 : DRow) (x1 : DRow) : Bool :=
  cond (x0.Id != x1.Id) false (cond (laws_eqIntS_m x0.Values x1.Values) true false)
set_option maxRecDepth 100000 in
theorem cb62 : Cb Try.prog 62 := ⟨Try.f62, _, Try.func62, rfl, by decide⟩
set_option maxRecDepth 10000 in
set_option maxHeartbeats 4000000 in
theorem laws_eqRow_c (w : World) (z0 : List Value) (x0 : DRow) (z1 : List Value) (x1 : DRow) (r_0 : tyRow.rd w w.heap.size z0 x0) (r_1 : tyRow.rd w w.heap.size z1 x1) :
    Calls Try.prog 62 #[.agg z0.toArray, .agg z1.toArray] w fun e w' => e = .returned (.bool (laws_eqRow_m x0 x1)) ∧ Below w.heap.size w w' := by
  obtain ⟨v1, rfl, r2⟩ := tyRow_rd r_0
  have r7 := r2
  obtain ⟨m3, A4, c5, rfl, q6⟩ := r2
  obtain ⟨v8, rfl, r9⟩ := tyRow_rd r_1
  have r14 := r9
  obtain ⟨m10, A11, c12, rfl, q13⟩ := r9
  refine call_enterM (L := [(0, .agg #[.int .i64 x0.Id, .slice A4 x0.Values.length c5]), (1, .agg #[.int .i64 x1.Id, .slice A11 x1.Values.length c12])]) (N := 16) Try.func62 rfl rfl (Nat.le_of_ble_eq_true rfl) (argsL_cons rfl (argsL_cons rfl argsL_nil)) ?_
  refine sr ?_
  refine WM_box rfl (Wd_none rfl) (by decide) (fun p15 => ?_)
  refine WM_box rfl (Wd_none rfl) (by decide) (fun p16 => ?_)
  refine wa ?_
  refine nt' ?_
  refine CM_seq ?_
  refine sr ?_
  refine wv (fun W hm => rv_field Try.underlying69 rfl Try.type3 (by decide) rfl rfl) ?_
  refine wv (fun W hm => rv_load Try.underlying3 rfl rfl (hm.boxCell (n := 1) (o := 0) rfl rfl)) ?_
  refine wv (fun W hm => rv_field Try.underlying69 rfl Try.type3 (by decide) rfl rfl) ?_
  refine wv (fun W hm => rv_load Try.underlying3 rfl rfl (hm.boxCell (n := 0) (o := 0) rfl rfl)) ?_
  refine wv (fun W hm => rv_neq rfl rfl) ?_
  refine nt' ?_
  by_cases h17 : x0.Id = x1.Id
  · have g18 : (x0.Id != x1.Id) = false := by rw [h17]; exact bne_self_eq_false _
    refine CM_condF rfl g18 ?_
    refine CM_skip ?_
    refine QM_then ?_
    refine CM_seq ?_
    refine sr ?_
    refine wv (fun W hm => rv_field Try.underlying69 rfl Try.type33 (by decide) rfl rfl) ?_
    refine wv (fun W hm => rv_load Try.underlying33 rfl rfl (hm.boxCell (n := 1) (o := 1) rfl rfl)) ?_
    refine wv (fun W hm => rv_field Try.underlying69 rfl Try.type33 (by decide) rfl rfl) ?_
    refine wv (fun W hm => rv_load Try.underlying33 rfl rfl (hm.boxCell (n := 0) (o := 1) rfl rfl)) ?_
    refine WM_callV (cl_fn cb23 rfl) (fun W hm => laws_eqIntS_c W _ x0.Values _ x1.Values (hm.rdS0 r7) (hm.rdS0 r14)) (Wd_none rfl) (by decide) ?_
    refine wv (fun W hm => rv_not rfl) ?_
    refine nt' ?_
    rcases Bool.eq_false_or_eq_true (laws_eqIntS_m x0.Values x1.Values) with g20 | g20
    ·
      refine CM_condF rfl (nt g20) ?_
      refine CM_skip ?_
      refine QM_then ?_
      refine sr ?_
      refine wa ?_
      refine nt' ?_
      refine CM_ret ?_
      exact QM_ret1 rfl rfl (fun W hm => ⟨ret_b (show laws_eqRow_m x0 x1 = true from by unfold laws_eqRow_m; exact cond_f g18 (cond_t g20 (rfl))), hm.below⟩)
    ·
      refine CM_condT rfl (nf g20) ?_
      refine sr ?_
      refine wa ?_
      refine nt' ?_
      refine CM_ret ?_
      refine QM_then_ret ?_
      exact QM_ret1 rfl rfl (fun W hm => ⟨ret_b (show laws_eqRow_m x0 x1 = false from by unfold laws_eqRow_m; exact cond_f g18 (cond_f g20 (rfl))), hm.below⟩)
  · have g18 : (x0.Id != x1.Id) = true := bne_iff_ne.2 h17
    refine CM_condT rfl g18 ?_
    refine sr ?_
    refine wa ?_
    refine nt' ?_
    refine CM_ret ?_
    refine QM_then_ret ?_
    exact QM_ret1 rfl rfl (fun W hm => ⟨ret_b (show laws_eqRow_m x0 x1 = false from by unfold laws_eqRow_m; exact cond_t g18 (rfl)), hm.below⟩)

def laws_eqUpdate_m (x0 : DUpdate) (x1 : DUpdate) : Bool :=
  cond (x0.Kind != x1.Kind) false (cond (laws_eqRow_m x0.Row x1.Row) (cond (x0.Field != x1.Field) false (cond (x0.Value != x1.Value) false true)) false)
set_option maxRecDepth 100000 in
theorem cb46 : Cb Try.prog 46 := ⟨Try.f46, _, Try.func46, rfl, by decide⟩
set_option maxRecDepth 10000 in
set_option maxHeartbeats 4000000 in
theorem laws_eqUpdate_c (w : World) (z0 : List Value) (x0 : DUpdate) (z1 : List Value) (x1 : DUpdate) (r_0 : tyUpdate.rd w w.heap.size z0 x0) (r_1 : tyUpdate.rd w w.heap.size z1 x1) :
    Calls Try.prog 46 #[.agg z0.toArray, .agg z1.toArray] w fun e w' => e = .returned (.bool (laws_eqUpdate_m x0 x1)) ∧ Below w.heap.size w w' := by
  obtain ⟨v1, rfl, r2⟩ := tyUpdate_rd r_0
  have r7 := r2
  obtain ⟨m3, A4, c5, rfl, q6⟩ := r2
  obtain ⟨v8, rfl, r9⟩ := tyUpdate_rd r_1
  have r14 := r9
  obtain ⟨m10, A11, c12, rfl, q13⟩ := r9
  refine call_enterM (L := [(0, .agg #[.int .i64 x0.Kind, .int .i64 x0.Row.Id, .slice A4 x0.Row.Values.length c5, .int .i64 x0.Field, .int .i64 x0.Value]), (1, .agg #[.int .i64 x1.Kind, .int .i64 x1.Row.Id, .slice A11 x1.Row.Values.length c12, .int .i64 x1.Field, .int .i64 x1.Value])]) (N := 26) Try.func46 rfl rfl (Nat.le_of_ble_eq_true rfl) (argsL_cons rfl (argsL_cons rfl argsL_nil)) ?_
  refine sr ?_
  refine WM_box rfl (Wd_none rfl) (by decide) (fun p15 => ?_)
  refine WM_box rfl (Wd_none rfl) (by decide) (fun p16 => ?_)
  refine wa ?_
  refine nt' ?_
  refine CM_seq ?_
  refine sr ?_
  refine wv (fun W hm => rv_field Try.underlying71 rfl Try.type3 (by decide) rfl rfl) ?_
  refine wv (fun W hm => rv_load Try.underlying3 rfl rfl (hm.boxCell (n := 1) (o := 0) rfl rfl)) ?_
  refine wv (fun W hm => rv_field Try.underlying71 rfl Try.type3 (by decide) rfl rfl) ?_
  refine wv (fun W hm => rv_load Try.underlying3 rfl rfl (hm.boxCell (n := 0) (o := 0) rfl rfl)) ?_
  refine wv (fun W hm => rv_neq rfl rfl) ?_
  refine nt' ?_
  by_cases h17 : x0.Kind = x1.Kind
  · have g18 : (x0.Kind != x1.Kind) = false := by rw [h17]; exact bne_self_eq_false _
    refine CM_condF rfl g18 ?_
    refine CM_skip ?_
    refine QM_then ?_
    refine CM_seq ?_
    refine sr ?_
    refine wv (fun W hm => rv_field Try.underlying71 rfl Try.type69 (by decide) rfl rfl) ?_
    refine wv (fun W hm => rv_loadN (cs := [.int .i64 x0.Row.Id, .slice A4 x0.Row.Values.length c5]) Try.underlying69 Try.type69 rfl rfl (hm.boxPart (n := 1) rfl rfl)) ?_
    refine wv (fun W hm => rv_field Try.underlying71 rfl Try.type69 (by decide) rfl rfl) ?_
    refine wv (fun W hm => rv_loadN (cs := [.int .i64 x1.Row.Id, .slice A11 x1.Row.Values.length c12]) Try.underlying69 Try.type69 rfl rfl (hm.boxPart (n := 0) rfl rfl)) ?_
    refine WM_callV (cl_fn cb62 rfl) (fun W hm => laws_eqRow_c W _ x0.Row _ x1.Row (tyRow_mk (x := x0.Row) (hm.rdS0 r7)) (tyRow_mk (x := x1.Row) (hm.rdS0 r14))) (Wd_none rfl) (by decide) ?_
    refine wv (fun W hm => rv_not rfl) ?_
    refine nt' ?_
    rcases Bool.eq_false_or_eq_true (laws_eqRow_m x0.Row x1.Row) with g20 | g20
    ·
      refine CM_condF rfl (nt g20) ?_
      refine CM_skip ?_
      refine QM_then ?_
      refine CM_seq ?_
      refine sr ?_
      refine wv (fun W hm => rv_field Try.underlying71 rfl Try.type3 (by decide) rfl rfl) ?_
      refine wv (fun W hm => rv_load Try.underlying3 rfl rfl (hm.boxCell (n := 1) (o := 3) rfl rfl)) ?_
      refine wv (fun W hm => rv_field Try.underlying71 rfl Try.type3 (by decide) rfl rfl) ?_
      refine wv (fun W hm => rv_load Try.underlying3 rfl rfl (hm.boxCell (n := 0) (o := 3) rfl rfl)) ?_
      refine wv (fun W hm => rv_neq rfl rfl) ?_
      refine nt' ?_
      by_cases h21 : x0.Field = x1.Field
      · have g22 : (x0.Field != x1.Field) = false := by rw [h21]; exact bne_self_eq_false _
        refine CM_condF rfl g22 ?_
        refine CM_skip ?_
        refine QM_then ?_
        refine CM_seq ?_
        refine sr ?_
        refine wv (fun W hm => rv_field Try.underlying71 rfl Try.type3 (by decide) rfl rfl) ?_
        refine wv (fun W hm => rv_load Try.underlying3 rfl rfl (hm.boxCell (n := 1) (o := 4) rfl rfl)) ?_
        refine wv (fun W hm => rv_field Try.underlying71 rfl Try.type3 (by decide) rfl rfl) ?_
        refine wv (fun W hm => rv_load Try.underlying3 rfl rfl (hm.boxCell (n := 0) (o := 4) rfl rfl)) ?_
        refine wv (fun W hm => rv_neq rfl rfl) ?_
        refine nt' ?_
        by_cases h23 : x0.Value = x1.Value
        · have g24 : (x0.Value != x1.Value) = false := by rw [h23]; exact bne_self_eq_false _
          refine CM_condF rfl g24 ?_
          refine CM_skip ?_
          refine QM_then ?_
          refine sr ?_
          refine wa ?_
          refine nt' ?_
          refine CM_ret ?_
          exact QM_ret1 rfl rfl (fun W hm => ⟨ret_b (show laws_eqUpdate_m x0 x1 = true from by unfold laws_eqUpdate_m; exact cond_f g18 (cond_t g20 (cond_f g22 (cond_f g24 (rfl))))), hm.below⟩)
        · have g24 : (x0.Value != x1.Value) = true := bne_iff_ne.2 h23
          refine CM_condT rfl g24 ?_
          refine sr ?_
          refine wa ?_
          refine nt' ?_
          refine CM_ret ?_
          refine QM_then_ret ?_
          exact QM_ret1 rfl rfl (fun W hm => ⟨ret_b (show laws_eqUpdate_m x0 x1 = false from by unfold laws_eqUpdate_m; exact cond_f g18 (cond_t g20 (cond_f g22 (cond_t g24 (rfl))))), hm.below⟩)
      · have g22 : (x0.Field != x1.Field) = true := bne_iff_ne.2 h21
        refine CM_condT rfl g22 ?_
        refine sr ?_
        refine wa ?_
        refine nt' ?_
        refine CM_ret ?_
        refine QM_then_ret ?_
        exact QM_ret1 rfl rfl (fun W hm => ⟨ret_b (show laws_eqUpdate_m x0 x1 = false from by unfold laws_eqUpdate_m; exact cond_f g18 (cond_t g20 (cond_t g22 (rfl)))), hm.below⟩)
    ·
      refine CM_condT rfl (nf g20) ?_
      refine sr ?_
      refine wa ?_
      refine nt' ?_
      refine CM_ret ?_
      refine QM_then_ret ?_
      exact QM_ret1 rfl rfl (fun W hm => ⟨ret_b (show laws_eqUpdate_m x0 x1 = false from by unfold laws_eqUpdate_m; exact cond_f g18 (cond_f g20 (rfl))), hm.below⟩)
  · have g18 : (x0.Kind != x1.Kind) = true := bne_iff_ne.2 h17
    refine CM_condT rfl g18 ?_
    refine sr ?_
    refine wa ?_
    refine nt' ?_
    refine CM_ret ?_
    refine QM_then_ret ?_
    exact QM_ret1 rfl rfl (fun W hm => ⟨ret_b (show laws_eqUpdate_m x0 x1 = false from by unfold laws_eqUpdate_m; exact cond_t g18 (rfl)), hm.below⟩)

def laws_eqUpdateS_b1 (x0 : (List DUpdate)) (x1 : (List DUpdate)) (k13 : Nat) : Bool ⊕ (Unit) :=
  cond (laws_eqUpdate_m (gt x0 k13) (gt x1 k13)) (Sum.inr ()) (Sum.inl false)
def laws_eqUpdateS_m (x0 : (List DUpdate)) (x1 : (List DUpdate)) : Bool :=
  cond (((x0.length : Nat) : Int) != ((x1.length : Nat) : Int)) false (Sum.elim id (fun (s : Unit) => true) (rng (R := Bool) (fun k (_ : Unit) => laws_eqUpdateS_b1 x0 x1 k) (x0.length - 0) 0 ()))
set_option maxRecDepth 100000 in
theorem cb52 : Cb Try.prog 52 := ⟨Try.f52, _, Try.func52, rfl, by decide⟩
set_option maxRecDepth 10000 in
set_option maxHeartbeats 4000000 in
theorem laws_eqUpdateS_c (w : World) (z0 : Value) (x0 : (List DUpdate)) (z1 : Value) (x1 : (List DUpdate)) (r_0 : rdS tyUpdate w w.heap.size z0 x0) (r_1 : rdS tyUpdate w w.heap.size z1 x1) :
    Calls Try.prog 52 #[z0, z1] w fun e w' => e = .returned (.bool (laws_eqUpdateS_m x0 x1)) ∧ Below w.heap.size w w' := by
  have r5 := r_0
  obtain ⟨m1, A2, c3, rfl, q4⟩ := r_0
  have r10 := r_1
  obtain ⟨m6, A7, c8, rfl, q9⟩ := r_1
  refine call_enterM (L := [(0, .slice A2 x0.length c3), (1, .slice A7 x1.length c8)]) (N := 27) Try.func52 rfl rfl (Nat.le_of_ble_eq_true rfl) (argsL_cons rfl (argsL_cons rfl argsL_nil)) ?_
  refine sr ?_
  refine wa ?_
  refine nt' ?_
  refine CM_seq ?_
  refine sr ?_
  refine wm ?_
  refine wv (fun W hm => rv_len Try.underlying79 rfl) ?_
  refine wm ?_
  refine wv (fun W hm => rv_len Try.underlying79 rfl) ?_
  refine wv (fun W hm => rv_neq rfl rfl) ?_
  refine nt' ?_
  by_cases h11 : ((x0.length : Nat) : Int) = ((x1.length : Nat) : Int)
  · have g12 : (((x0.length : Nat) : Int) != ((x1.length : Nat) : Int)) = false := by rw [h11]; exact bne_self_eq_false _
    refine CM_condF rfl g12 ?_
    refine CM_skip ?_
    refine QM_then ?_
    refine CM_seq ?_
    refine sr ?_
    refine wa ?_
    refine nt' ?_
    refine CM_block ?_
    refine CM_loop (σ := Nat × (Unit) × (Unit)) (fun s => [(0, .slice A2 x0.length c3), (1, .slice A7 x1.length c8), (5, .int .i64 ((s.1 : Nat) : Int))]) (fun s => []) (fun s => s.1 ≤ x0.length ∧ rng (R := Bool) (fun k (_ : Unit) => laws_eqUpdateS_b1 x0 x1 k) (x0.length - s.1) s.1 s.2.1 = rng (R := Bool) (fun k (_ : Unit) => laws_eqUpdateS_b1 x0 x1 k) (x0.length - 0) 0 ()) (fun s => x0.length - s.1) (0, (), ()) (subL_cons rfl (subL_cons rfl (subL_cons rfl subL_nil))) (fun W hm => hm) ⟨(by omega), rfl⟩ ?_
    rintro ⟨k13, ⟨⟩, ⟨⟩⟩ H16
    obtain ⟨hk14, hF15⟩ : k13 ≤ x0.length ∧ rng (R := Bool) (fun k (_ : Unit) => laws_eqUpdateS_b1 x0 x1 k) (x0.length - k13) k13 () = rng (R := Bool) (fun k (_ : Unit) => laws_eqUpdateS_b1 x0 x1 k) (x0.length - 0) 0 () := H16
    show CM Try.prog 27 _ _ _ _ [(0, .slice A2 x0.length c3), (1, .slice A7 x1.length c8), (5, .int .i64 ((k13 : Nat) : Int))] []
    refine CM_seq ?_
    refine sr ?_
    refine wm ?_
    refine wm ?_
    refine wv (fun W hm => rv_len Try.underlying79 rfl) ?_
    refine wv (fun W hm => rv_lss rfl rfl) ?_
    refine nt' ?_
    by_cases hl17 : k13 < x0.length
    · have g18 : (decide (((k13 : Nat) : Int) < ((x0.length : Nat) : Int))) = true := decide_eq_true (by omega)
      refine CM_condT rfl g18 ?_
      refine CM_skip ?_
      refine QM_then ?_
      refine CM_seq ?_
      refine CM_block ?_
      refine CM_seq ?_
      refine CM_regionD (by kernel_rfl) (by kernel_rfl) ?_
      refine qm ?_
      refine qm ?_
      obtain ⟨a19, rfl, hb20, he21⟩ := q4 (by omega)
      refine qv (fun W hm => rv_index (sz := 5) (k := k13) Try.underlying79 Try.type71 rfl rfl rfl (by omega)) ?_
      obtain ⟨_, e25, hc22⟩ := he21 k13 _ (gt_some (show k13 < x0.length from by omega))
      obtain ⟨v23, rfl, r24⟩ := tyUpdate_rd e25
      have r30 := r24
      obtain ⟨m26, A27, c28, rfl, q29⟩ := r24
      refine qv (fun W hm => rv_loadN (cs := [.int .i64 ((gt x0 k13).Kind), .int .i64 ((gt x0 k13).Row.Id), .slice A27 ((gt x0 k13).Row.Values).length c28, .int .i64 ((gt x0 k13).Field), .int .i64 ((gt x0 k13).Value)]) Try.underlying71 Try.type71 rfl rfl (hm.elCells (show (a19.add (k13 * 5)).block < w.heap.size from by rw [add_block]; exact hb20.1) hc22)) ?_
      refine qm ?_
      refine qm ?_
      obtain ⟨a31, rfl, hb32, he33⟩ := q9 (by omega)
      refine qv (fun W hm => rv_index (sz := 5) (k := k13) Try.underlying79 Try.type71 rfl rfl rfl (by omega)) ?_
      obtain ⟨_, e37, hc34⟩ := he33 k13 _ (gt_some (show k13 < x1.length from by omega))
      obtain ⟨v35, rfl, r36⟩ := tyUpdate_rd e37
      have r42 := r36
      obtain ⟨m38, A39, c40, rfl, q41⟩ := r36
      refine qv (fun W hm => rv_loadN (cs := [.int .i64 ((gt x1 k13).Kind), .int .i64 ((gt x1 k13).Row.Id), .slice A39 ((gt x1 k13).Row.Values).length c40, .int .i64 ((gt x1 k13).Field), .int .i64 ((gt x1 k13).Value)]) Try.underlying71 Try.type71 rfl rfl (hm.elCells (show (a31.add (k13 * 5)).block < w.heap.size from by rw [add_block]; exact hb32.1) hc34)) ?_
      refine QR_callV (cl_fn cb46 rfl) (fun W hm => laws_eqUpdate_c W _ (gt x0 k13) _ (gt x1 k13) (tyUpdate_mk (x := (gt x0 k13)) (hm.rdS0 r30)) (tyUpdate_mk (x := (gt x1 k13)) (hm.rdS0 r42))) (Wd_none rfl) (by decide) ?_
      refine qv (fun W hm => rv_not rfl) ?_
      refine nq' ?_
      rcases Bool.eq_false_or_eq_true (laws_eqUpdate_m (gt x0 k13) (gt x1 k13)) with g44 | g44
      ·
        refine CM_condF rfl (nt g44) ?_
        refine CM_skip ?_
        refine QM_block_normal ?_
        refine QM_then ?_
        refine CM_region ?_
        refine wm ?_
        refine wv (fun W hm => rv_addN (p := k13) (q := 1) rfl rfl (by omega)) ?_
        refine wa ?_
        refine WM_nil ?_
        have hn45 := rng_next (R := Bool) (body := (fun k (_ : Unit) => laws_eqUpdateS_b1 x0 x1 k)) (k := k13) (s := ()) (s' := ()) (show k13 < x0.length from by omega) (show laws_eqUpdateS_b1 x0 x1 k13 = Sum.inr () from by unfold laws_eqUpdateS_b1; exact cond_t g44 (rfl)) hF15
        exact QM_round (k13 + 1, (), ()) (subL_cons rfl (subL_cons rfl (subL_cons rfl subL_nil))) (fun W hm => hm) ⟨(by omega), hn45⟩ (show x0.length - (k13 + 1) < x0.length - k13 from by omega)
      ·
        refine CM_condT rfl (nf g44) ?_
        refine sr ?_
        refine wa ?_
        refine nt' ?_
        refine CM_ret ?_
        refine QM_block_ret ?_
        refine QM_then_ret ?_
        refine QM_then_ret ?_
        refine QM_block_ret ?_
        refine QM_then_ret ?_
        exact QM_ret1 rfl rfl (fun W hm => ⟨ret_b (show laws_eqUpdateS_m x0 x1 = false from by unfold laws_eqUpdateS_m; exact cond_f g12 (fin_inl (rng_ret (body := (fun k (_ : Unit) => laws_eqUpdateS_b1 x0 x1 k)) (k := k13) (s := ()) (show k13 < x0.length from by omega) (show laws_eqUpdateS_b1 x0 x1 k13 = Sum.inl false from by unfold laws_eqUpdateS_b1; exact cond_f g44 (rfl)) hF15) rfl)), hm.below⟩)
    · have g18 : (decide (((k13 : Nat) : Int) < ((x0.length : Nat) : Int))) = false := decide_eq_false (by omega)
      refine CM_condF rfl g18 ?_
      refine CM_exit ?_
      refine QM_then_exit ?_
      refine QM_then_exit ?_
      have hE46 : rng (R := Bool) (fun k (_ : Unit) => laws_eqUpdateS_b1 x0 x1 k) (x0.length - 0) 0 () = Sum.inr () := rng_end hl17 hF15
      refine QM_block_hit ?_
      refine QM_then ?_
      refine sr ?_
      refine wa ?_
      refine nt' ?_
      refine CM_ret ?_
      exact QM_ret1 rfl rfl (fun W hm => ⟨ret_b (show laws_eqUpdateS_m x0 x1 = true from by unfold laws_eqUpdateS_m; exact cond_f g12 (fin_inr hE46 (rfl))), hm.below⟩)
  · have g12 : (((x0.length : Nat) : Int) != ((x1.length : Nat) : Int)) = true := bne_iff_ne.2 h11
    refine CM_condT rfl g12 ?_
    refine sr ?_
    refine wa ?_
    refine nt' ?_
    refine CM_ret ?_
    refine QM_then_ret ?_
    exact QM_ret1 rfl rfl (fun W hm => ⟨ret_b (show laws_eqUpdateS_m x0 x1 = false from by unfold laws_eqUpdateS_m; exact cond_t g12 (rfl)), hm.below⟩)

def laws_markIntS_b1 (k5 : Nat) (s6 : Int) (d7 : (List Int)) : (Int × (List Int)) ⊕ (Int × (List Int)) :=
  Sum.inr ((IntKind.i64.wrap (s6 + 1)), (d7.set k5 s6))
def laws_markIntS_m (x0 : (List Int)) (x1 : Int) : (Int × (List Int)) :=
  Sum.elim id (fun (s : Int × (List Int)) => (s.1, s.2)) (rng (R := (Int × (List Int))) (fun k (s : Int × (List Int)) => laws_markIntS_b1 k s.1 s.2) (x0.length - 0) 0 (x1, x0))
set_option maxRecDepth 100000 in
theorem cb24 : Cb Try.prog 24 := ⟨Try.f24, _, Try.func24, rfl, by decide⟩
set_option maxRecDepth 10000 in
set_option maxHeartbeats 4000000 in
theorem laws_markIntS_c (B : Nat) (w0 : World) (is : List It) (w : World) (z0 : Value) (x0 : (List Int)) (x1 : Int) (hm : Mem B w0 (iOwn (tSl tInt 3) [z0] x0 :: is) w) :
    Calls Try.prog 24 #[z0, .int .i64 x1] w fun e w' => e = .returned (.int .i64 (laws_markIntS_m x0 x1).1) ∧ Mem B w0 (iOwn (tSl tInt 3) [z0] (laws_markIntS_m x0 x1).2 :: is) w' := by
  refine call_enterW (L := [(0, z0), (1, .int .i64 x1)]) (N := 19) Try.func24 rfl rfl (Nat.le_of_ble_eq_true rfl) (argsL_cons rfl (argsL_cons rfl argsL_nil)) hm ?_
  refine CM_form (n := 0) rfl ?_
  rintro A1 c2 rfl m3
  refine sr ?_
  refine wa ?_
  refine nt' ?_
  refine CM_seq ?_
  refine sr ?_
  refine wa ?_
  refine nt' ?_
  refine CM_block ?_
  refine CM_loop (σ := Nat × (Int × (List Int)) × (Unit)) (fun s => [(0, .slice A1 x0.length c2), (1, .int .i64 s.2.1.1), (5, .int .i64 ((s.1 : Nat) : Int))]) (fun s => (iOwn (tSl tInt 3) [.slice A1 x0.length c2] s.2.1.2 :: is)) (fun s => s.1 ≤ x0.length ∧ rng (R := (Int × (List Int))) (fun k (s : Int × (List Int)) => laws_markIntS_b1 k s.1 s.2) (x0.length - s.1) s.1 s.2.1 = rng (R := (Int × (List Int))) (fun k (s : Int × (List Int)) => laws_markIntS_b1 k s.1 s.2) (x0.length - 0) 0 (x1, x0)) (fun s => x0.length - s.1) (0, (x1, x0), ()) (subL_cons rfl (subL_cons rfl (subL_cons rfl subL_nil))) (fun W hm => hm) ⟨(by omega), rfl⟩ ?_
  rintro ⟨k5, ⟨s6, d7⟩, ⟨⟩⟩ H10
  obtain ⟨hk8, hF9⟩ : k5 ≤ x0.length ∧ rng (R := (Int × (List Int))) (fun k (s : Int × (List Int)) => laws_markIntS_b1 k s.1 s.2) (x0.length - k5) k5 (s6, d7) = rng (R := (Int × (List Int))) (fun k (s : Int × (List Int)) => laws_markIntS_b1 k s.1 s.2) (x0.length - 0) 0 (x1, x0) := H10
  show CM Try.prog 19 _ _ _ _ [(0, .slice A1 x0.length c2), (1, .int .i64 s6), (5, .int .i64 ((k5 : Nat) : Int))] (iOwn (tSl tInt 3) [.slice A1 x0.length c2] d7 :: is)
  refine CM_seq ?_
  refine sr ?_
  refine wm ?_
  refine wm ?_
  refine wv (fun W hm => rv_len Try.underlying33 rfl) ?_
  refine wv (fun W hm => rv_lss rfl rfl) ?_
  refine nt' ?_
  by_cases hl11 : k5 < x0.length
  · have g12 : (decide (((k5 : Nat) : Int) < ((x0.length : Nat) : Int))) = true := decide_eq_true (by omega)
    refine CM_condT rfl g12 ?_
    refine CM_skip ?_
    refine QM_then ?_
    refine CM_seq ?_
    refine CM_block ?_
    refine sr ?_
    refine wm ?_
    refine wm ?_
    refine wm ?_
    refine WM_formO (n := 0) rfl (by omega) ?_
    rintro g13 rfl
    refine wv (fun W hm => rv_index (sz := 1) (k := k5) Try.underlying33 Try.type3 rfl rfl rfl (by omega)) ?_
    refine WM_setEl (E := tInt) (e := 3) (u := .int .i64 s6) (k := k5) (p := g13) (n := x0.length) (xs := d7) (eis := []) (js := (is)) (yv := s6) (fun W hm => (hm.front (n := 0) rfl)) (fun _ _ hs => (Sep.nil hs ▸ tInt_own)) rfl Try.type3 rfl (by omega) rfl rfl (Wd_none rfl) ?_
    refine nt' ?_
    refine CM_region ?_
    refine wm ?_
    refine wv (fun W hm => rv_add rfl rfl) ?_
    refine wa ?_
    refine WM_nil ?_
    refine QM_block_normal ?_
    refine QM_then ?_
    refine CM_region ?_
    refine wm ?_
    refine wv (fun W hm => rv_addN (p := k5) (q := 1) rfl rfl (by omega)) ?_
    refine wa ?_
    refine WM_nil ?_
    have hn14 := rng_next (R := (Int × (List Int))) (body := (fun k (s : Int × (List Int)) => laws_markIntS_b1 k s.1 s.2)) (k := k5) (s := (s6, d7)) (s' := ((IntKind.i64.wrap (s6 + 1)), (d7.set k5 s6))) (show k5 < x0.length from by omega) (show laws_markIntS_b1 k5 s6 d7 = Sum.inr ((IntKind.i64.wrap (s6 + 1)), (d7.set k5 s6)) from by unfold laws_markIntS_b1; exact rfl) hF9
    exact QM_round (k5 + 1, ((IntKind.i64.wrap (s6 + 1)), (d7.set k5 s6)), ()) (subL_cons rfl (subL_cons rfl (subL_cons rfl subL_nil))) (fun W hm => hm) ⟨(by omega), hn14⟩ (show x0.length - (k5 + 1) < x0.length - k5 from by omega)
  · have g12 : (decide (((k5 : Nat) : Int) < ((x0.length : Nat) : Int))) = false := decide_eq_false (by omega)
    refine CM_condF rfl g12 ?_
    refine CM_exit ?_
    refine QM_then_exit ?_
    refine QM_then_exit ?_
    have hE15 : rng (R := (Int × (List Int))) (fun k (s : Int × (List Int)) => laws_markIntS_b1 k s.1 s.2) (x0.length - 0) 0 (x1, x0) = Sum.inr (s6, d7) := rng_end hl11 hF9
    refine QM_block_hit ?_
    refine QM_then ?_
    refine sr ?_
    refine wm ?_
    refine wa ?_
    refine nt' ?_
    refine CM_ret ?_
    refine QM_rW rfl rfl (fun W hm => ⟨?_, ?_⟩)
    · rw [(show laws_markIntS_m x0 x1 = (s6, d7) from by unfold laws_markIntS_m; exact fin_inr hE15 (rfl))]
    · rw [(show laws_markIntS_m x0 x1 = (s6, d7) from by unfold laws_markIntS_m; exact fin_inr hE15 (rfl))]; exact hm

def laws_markVersionS_b1 (k5 : Nat) (s6 : Int) (d7 : (List DVersion)) : (Int × (List DVersion)) ⊕ (Int × (List DVersion)) :=
  Sum.inr ((IntKind.i64.wrap ((IntKind.i64.wrap (((laws_markIntS_m ((gt d7 k5).Values) (IntKind.i64.wrap (s6 + 1))).1) + 1)) + 1)), (d7.set k5 (⟨s6, (laws_markIntS_m ((gt d7 k5).Values) (IntKind.i64.wrap (s6 + 1))).2, (laws_markIntS_m ((gt d7 k5).Values) (IntKind.i64.wrap (s6 + 1))).1, (IntKind.i64.wrap (((laws_markIntS_m ((gt d7 k5).Values) (IntKind.i64.wrap (s6 + 1))).1) + 1))⟩ : DVersion)))
def laws_markVersionS_m (x0 : (List DVersion)) (x1 : Int) : (Int × (List DVersion)) :=
  Sum.elim id (fun (s : Int × (List DVersion)) => (s.1, s.2)) (rng (R := (Int × (List DVersion))) (fun k (s : Int × (List DVersion)) => laws_markVersionS_b1 k s.1 s.2) (x0.length - 0) 0 (x1, x0))
set_option maxRecDepth 100000 in
theorem cb119 : Cb Try.prog 119 := ⟨Try.f119, _, Try.func119, rfl, by decide⟩
set_option maxRecDepth 10000 in
set_option maxHeartbeats 4000000 in
theorem laws_markVersionS_c (B : Nat) (w0 : World) (is : List It) (w : World) (z0 : Value) (x0 : (List DVersion)) (x1 : Int) (hm : Mem B w0 (iOwn (tSl tyVersion 102) [z0] x0 :: is) w) :
    Calls Try.prog 119 #[z0, .int .i64 x1] w fun e w' => e = .returned (.int .i64 (laws_markVersionS_m x0 x1).1) ∧ Mem B w0 (iOwn (tSl tyVersion 102) [z0] (laws_markVersionS_m x0 x1).2 :: is) w' := by
  refine call_enterW (L := [(0, z0), (1, .int .i64 x1)]) (N := 41) Try.func119 rfl rfl (Nat.le_of_ble_eq_true rfl) (argsL_cons rfl (argsL_cons rfl argsL_nil)) hm ?_
  refine CM_form (n := 0) rfl ?_
  rintro A1 c2 rfl m3
  refine sr ?_
  refine wa ?_
  refine nt' ?_
  refine CM_seq ?_
  refine sr ?_
  refine wa ?_
  refine nt' ?_
  refine CM_block ?_
  refine CM_loop (σ := Nat × (Int × (List DVersion)) × (Unit)) (fun s => [(0, .slice A1 x0.length c2), (1, .int .i64 s.2.1.1), (5, .int .i64 ((s.1 : Nat) : Int))]) (fun s => (iOwn (tSl tyVersion 102) [.slice A1 x0.length c2] s.2.1.2 :: is)) (fun s => s.1 ≤ x0.length ∧ rng (R := (Int × (List DVersion))) (fun k (s : Int × (List DVersion)) => laws_markVersionS_b1 k s.1 s.2) (x0.length - s.1) s.1 s.2.1 = rng (R := (Int × (List DVersion))) (fun k (s : Int × (List DVersion)) => laws_markVersionS_b1 k s.1 s.2) (x0.length - 0) 0 (x1, x0)) (fun s => x0.length - s.1) (0, (x1, x0), ()) (subL_cons rfl (subL_cons rfl (subL_cons rfl subL_nil))) (fun W hm => hm) ⟨(by omega), rfl⟩ ?_
  rintro ⟨k5, ⟨s6, d7⟩, ⟨⟩⟩ H10
  obtain ⟨hk8, hF9⟩ : k5 ≤ x0.length ∧ rng (R := (Int × (List DVersion))) (fun k (s : Int × (List DVersion)) => laws_markVersionS_b1 k s.1 s.2) (x0.length - k5) k5 (s6, d7) = rng (R := (Int × (List DVersion))) (fun k (s : Int × (List DVersion)) => laws_markVersionS_b1 k s.1 s.2) (x0.length - 0) 0 (x1, x0) := H10
  show CM Try.prog 41 _ _ _ _ [(0, .slice A1 x0.length c2), (1, .int .i64 s6), (5, .int .i64 ((k5 : Nat) : Int))] (iOwn (tSl tyVersion 102) [.slice A1 x0.length c2] d7 :: is)
  refine CM_seq ?_
  refine sr ?_
  refine wm ?_
  refine wm ?_
  refine wv (fun W hm => rv_len Try.underlying100 rfl) ?_
  refine wv (fun W hm => rv_lss rfl rfl) ?_
  refine nt' ?_
  by_cases hl11 : k5 < x0.length
  · have g12 : (decide (((k5 : Nat) : Int) < ((x0.length : Nat) : Int))) = true := decide_eq_true (by omega)
    refine CM_condT rfl g12 ?_
    refine CM_skip ?_
    refine QM_then ?_
    refine CM_seq ?_
    refine CM_block ?_
    refine sr ?_
    refine wm ?_
    refine wm ?_
    refine wm ?_
    refine WM_formO (n := 0) rfl (by omega) ?_
    rintro g13 rfl
    refine wv (fun W hm => rv_index (sz := 4) (k := k5) Try.underlying100 Try.type102 rfl rfl rfl (by omega)) ?_
    refine wv (fun W hm => rv_field Try.underlying102 rfl Try.type3 (by decide) rfl rfl) ?_
    refine WM_focus (E := tyVersion) (e := 102) (A := (some ⟨g13, 0, none⟩)) (n := x0.length) (c := c2) (xs := d7) (k := k5) (js := (is)) (by omega) (fun W hm => (hm.front (n := 0) rfl)) (fun ck14 => ?_)
    refine WM_split (γ := Value) (js := fun g => [iOwn (tSl tInt 3) [g] ((gt d7 k5).Values)]) (C := fun g => ck14 = [.int .i64 ((gt d7 k5).Id), g, .int .i64 ((gt d7 k5).Born), .int .i64 ((gt d7 k5).Died)]) (fun _ _ h => tyVersion_split h) ?_
    rintro v15 rfl
    refine WM_form (n := 0) rfl ?_
    rintro A16 c17 rfl m18
    refine WM_storeFoc (E := tyVersion) (e := 102) (g := g13) (n := x0.length) (c := c2) (k := k5) (s := 4) (o := 0) (xs := d7) (ck := [.int .i64 ((gt d7 k5).Id), .slice A16 ((gt d7 k5).Values).length c17, .int .i64 ((gt d7 k5).Born), .int .i64 ((gt d7 k5).Died)]) (ck' := [.int .i64 s6, .slice A16 ((gt d7 k5).Values).length c17, .int .i64 ((gt d7 k5).Born), .int .i64 ((gt d7 k5).Died)]) (js := (iOwn (tSl tInt 3) [.slice A16 ((gt d7 k5).Values).length c17] ((gt d7 k5).Values) :: is)) (fun W hm => (hm.front (n := 1) rfl)) rfl rfl Try.type3 rfl (Nat.le_of_ble_eq_true rfl) rfl rfl rfl rfl (Wd_none rfl) ?_
    refine nt' ?_
    refine sr ?_
    refine wm ?_
    refine wv (fun W hm => rv_add rfl rfl) ?_
    refine wa ?_
    refine nt' ?_
    refine sr ?_
    refine wm ?_
    refine wm ?_
    refine wv (fun W hm => rv_index (sz := 4) (k := k5) Try.underlying100 Try.type102 rfl rfl rfl (by omega)) ?_
    refine wv (fun W hm => rv_field Try.underlying102 rfl Try.type33 (by decide) rfl rfl) ?_
    refine wv (fun W hm => rv_load Try.underlying33 rfl rfl (hm.focCells (i := 0) rfl rfl 1 _ rfl)) ?_
    refine wm ?_
    refine WM_callW (χ := Unit) (val := fun _ => .int .i64 (laws_markIntS_m ((gt d7 k5).Values) (IntKind.i64.wrap (s6 + 1))).1) (js := fun _ => (iOwn (tSl tInt 3) [.slice A16 ((gt d7 k5).Values).length c17] (laws_markIntS_m ((gt d7 k5).Values) (IntKind.i64.wrap (s6 + 1))).2 :: (iFoc tyVersion 102 (some ⟨g13, 0, none⟩) x0.length c2 d7 k5 [.int .i64 s6, .slice A16 ((gt d7 k5).Values).length c17, .int .i64 ((gt d7 k5).Born), .int .i64 ((gt d7 k5).Died)] :: is))) (cl_fn cb24 rfl) (fun W hm => (laws_markIntS_c B w0 (iFoc tyVersion 102 (some ⟨g13, 0, none⟩) x0.length c2 d7 k5 [.int .i64 s6, .slice A16 ((gt d7 k5).Values).length c17, .int .i64 ((gt d7 k5).Born), .int .i64 ((gt d7 k5).Died)] :: is) W (.slice A16 ((gt d7 k5).Values).length c17) ((gt d7 k5).Values) (IntKind.i64.wrap (s6 + 1)) (hm.front (n := 1) rfl)).mono (fun _ _ h => ⟨(), h.1, h.2⟩)) (Wd_none rfl) (by decide) (fun _ => ?_)
    refine wa ?_
    refine nt' ?_
    refine sr ?_
    refine wm ?_
    refine wm ?_
    refine wm ?_
    refine wv (fun W hm => rv_index (sz := 4) (k := k5) Try.underlying100 Try.type102 rfl rfl rfl (by omega)) ?_
    refine wv (fun W hm => rv_field Try.underlying102 rfl Try.type3 (by decide) rfl rfl) ?_
    refine WM_storeFoc (E := tyVersion) (e := 102) (g := g13) (n := x0.length) (c := c2) (k := k5) (s := 4) (o := 2) (xs := d7) (ck := [.int .i64 s6, .slice A16 ((gt d7 k5).Values).length c17, .int .i64 ((gt d7 k5).Born), .int .i64 ((gt d7 k5).Died)]) (ck' := [.int .i64 s6, .slice A16 ((gt d7 k5).Values).length c17, .int .i64 ((laws_markIntS_m ((gt d7 k5).Values) (IntKind.i64.wrap (s6 + 1))).1), .int .i64 ((gt d7 k5).Died)]) (js := (iOwn (tSl tInt 3) [.slice A16 ((gt d7 k5).Values).length c17] ((laws_markIntS_m ((gt d7 k5).Values) (IntKind.i64.wrap (s6 + 1))).2) :: is)) (fun W hm => (hm.front (n := 1) rfl)) rfl rfl Try.type3 rfl (Nat.le_of_ble_eq_true rfl) rfl rfl rfl rfl (Wd_none rfl) ?_
    refine nt' ?_
    refine sr ?_
    refine wm ?_
    refine wv (fun W hm => rv_add rfl rfl) ?_
    refine wa ?_
    refine nt' ?_
    refine sr ?_
    refine wm ?_
    refine wm ?_
    refine wm ?_
    refine wv (fun W hm => rv_index (sz := 4) (k := k5) Try.underlying100 Try.type102 rfl rfl rfl (by omega)) ?_
    refine wv (fun W hm => rv_field Try.underlying102 rfl Try.type3 (by decide) rfl rfl) ?_
    refine WM_storeFoc (E := tyVersion) (e := 102) (g := g13) (n := x0.length) (c := c2) (k := k5) (s := 4) (o := 3) (xs := d7) (ck := [.int .i64 s6, .slice A16 ((gt d7 k5).Values).length c17, .int .i64 ((laws_markIntS_m ((gt d7 k5).Values) (IntKind.i64.wrap (s6 + 1))).1), .int .i64 ((gt d7 k5).Died)]) (ck' := [.int .i64 s6, .slice A16 ((gt d7 k5).Values).length c17, .int .i64 ((laws_markIntS_m ((gt d7 k5).Values) (IntKind.i64.wrap (s6 + 1))).1), .int .i64 (IntKind.i64.wrap (((laws_markIntS_m ((gt d7 k5).Values) (IntKind.i64.wrap (s6 + 1))).1) + 1))]) (js := (iOwn (tSl tInt 3) [.slice A16 ((gt d7 k5).Values).length c17] ((laws_markIntS_m ((gt d7 k5).Values) (IntKind.i64.wrap (s6 + 1))).2) :: is)) (fun W hm => (hm.front (n := 0) rfl)) rfl rfl Try.type3 rfl (Nat.le_of_ble_eq_true rfl) rfl rfl rfl rfl (Wd_none rfl) ?_
    refine nt' ?_
    refine CM_region ?_
    refine wm ?_
    refine wv (fun W hm => rv_add rfl rfl) ?_
    refine wa ?_
    refine WM_nil ?_
    refine QM_block_normal ?_
    refine QM_then ?_
    refine CM_region ?_
    refine wm ?_
    refine wv (fun W hm => rv_addN (p := k5) (q := 1) rfl rfl (by omega)) ?_
    refine wa ?_
    refine WM_nil ?_
    refine QM_items (fun W hm => Mem.unfocus (Mem.join (is := [iOwn (tSl tInt 3) [.slice A16 ((gt d7 k5).Values).length c17] ((laws_markIntS_m ((gt d7 k5).Values) (IntKind.i64.wrap (s6 + 1))).2)]) (js := (iFoc tyVersion 102 (some ⟨g13, 0, none⟩) x0.length c2 d7 k5 [.int .i64 s6, .slice A16 ((gt d7 k5).Values).length c17, .int .i64 ((laws_markIntS_m ((gt d7 k5).Values) (IntKind.i64.wrap (s6 + 1))).1), .int .i64 (IntKind.i64.wrap (((laws_markIntS_m ((gt d7 k5).Values) (IntKind.i64.wrap (s6 + 1))).1) + 1))] :: (is))) (fun _ _ hs => tyVersion_join (x := (⟨s6, (laws_markIntS_m ((gt d7 k5).Values) (IntKind.i64.wrap (s6 + 1))).2, (laws_markIntS_m ((gt d7 k5).Values) (IntKind.i64.wrap (s6 + 1))).1, (IntKind.i64.wrap (((laws_markIntS_m ((gt d7 k5).Values) (IntKind.i64.wrap (s6 + 1))).1) + 1))⟩ : DVersion)) hs) ((hm.front (n := 0) rfl).front (n := 1) rfl))) ?_
    have hn20 := rng_next (R := (Int × (List DVersion))) (body := (fun k (s : Int × (List DVersion)) => laws_markVersionS_b1 k s.1 s.2)) (k := k5) (s := (s6, d7)) (s' := ((IntKind.i64.wrap ((IntKind.i64.wrap (((laws_markIntS_m ((gt d7 k5).Values) (IntKind.i64.wrap (s6 + 1))).1) + 1)) + 1)), (d7.set k5 (⟨s6, (laws_markIntS_m ((gt d7 k5).Values) (IntKind.i64.wrap (s6 + 1))).2, (laws_markIntS_m ((gt d7 k5).Values) (IntKind.i64.wrap (s6 + 1))).1, (IntKind.i64.wrap (((laws_markIntS_m ((gt d7 k5).Values) (IntKind.i64.wrap (s6 + 1))).1) + 1))⟩ : DVersion)))) (show k5 < x0.length from by omega) (show laws_markVersionS_b1 k5 s6 d7 = Sum.inr ((IntKind.i64.wrap ((IntKind.i64.wrap (((laws_markIntS_m ((gt d7 k5).Values) (IntKind.i64.wrap (s6 + 1))).1) + 1)) + 1)), (d7.set k5 (⟨s6, (laws_markIntS_m ((gt d7 k5).Values) (IntKind.i64.wrap (s6 + 1))).2, (laws_markIntS_m ((gt d7 k5).Values) (IntKind.i64.wrap (s6 + 1))).1, (IntKind.i64.wrap (((laws_markIntS_m ((gt d7 k5).Values) (IntKind.i64.wrap (s6 + 1))).1) + 1))⟩ : DVersion))) from by unfold laws_markVersionS_b1; exact rfl) hF9
    exact QM_round (k5 + 1, ((IntKind.i64.wrap ((IntKind.i64.wrap (((laws_markIntS_m ((gt d7 k5).Values) (IntKind.i64.wrap (s6 + 1))).1) + 1)) + 1)), (d7.set k5 (⟨s6, (laws_markIntS_m ((gt d7 k5).Values) (IntKind.i64.wrap (s6 + 1))).2, (laws_markIntS_m ((gt d7 k5).Values) (IntKind.i64.wrap (s6 + 1))).1, (IntKind.i64.wrap (((laws_markIntS_m ((gt d7 k5).Values) (IntKind.i64.wrap (s6 + 1))).1) + 1))⟩ : DVersion))), ()) (subL_cons rfl (subL_cons rfl (subL_cons rfl subL_nil))) (fun W hm => hm) ⟨(by omega), hn20⟩ (show x0.length - (k5 + 1) < x0.length - k5 from by omega)
  · have g12 : (decide (((k5 : Nat) : Int) < ((x0.length : Nat) : Int))) = false := decide_eq_false (by omega)
    refine CM_condF rfl g12 ?_
    refine CM_exit ?_
    refine QM_then_exit ?_
    refine QM_then_exit ?_
    have hE21 : rng (R := (Int × (List DVersion))) (fun k (s : Int × (List DVersion)) => laws_markVersionS_b1 k s.1 s.2) (x0.length - 0) 0 (x1, x0) = Sum.inr (s6, d7) := rng_end hl11 hF9
    refine QM_block_hit ?_
    refine QM_then ?_
    refine sr ?_
    refine wm ?_
    refine wa ?_
    refine nt' ?_
    refine CM_ret ?_
    refine QM_rW rfl rfl (fun W hm => ⟨?_, ?_⟩)
    · rw [(show laws_markVersionS_m x0 x1 = (s6, d7) from by unfold laws_markVersionS_m; exact fin_inr hE21 (rfl))]
    · rw [(show laws_markVersionS_m x0 x1 = (s6, d7) from by unfold laws_markVersionS_m; exact fin_inr hE21 (rfl))]; exact hm

def laws_markVersionSS_b1 (k5 : Nat) (s6 : Int) (d7 : (List (List DVersion))) : (Int × (List (List DVersion))) ⊕ (Int × (List (List DVersion))) :=
  Sum.inr ((laws_markVersionS_m (gt d7 k5) s6).1, (d7.set k5 ((laws_markVersionS_m (gt d7 k5) s6).2)))
def laws_markVersionSS_m (x0 : (List (List DVersion))) (x1 : Int) : (Int × (List (List DVersion))) :=
  Sum.elim id (fun (s : Int × (List (List DVersion))) => (s.1, s.2)) (rng (R := (Int × (List (List DVersion)))) (fun k (s : Int × (List (List DVersion))) => laws_markVersionSS_b1 k s.1 s.2) (x0.length - 0) 0 (x1, x0))
set_option maxRecDepth 100000 in
theorem cb77 : Cb Try.prog 77 := ⟨Try.f77, _, Try.func77, rfl, by decide⟩
set_option maxRecDepth 10000 in
set_option maxHeartbeats 4000000 in
theorem laws_markVersionSS_c (B : Nat) (w0 : World) (is : List It) (w : World) (z0 : Value) (x0 : (List (List DVersion))) (x1 : Int) (hm : Mem B w0 (iOwn (tSl (tSl tyVersion 102) 100) [z0] x0 :: is) w) :
    Calls Try.prog 77 #[z0, .int .i64 x1] w fun e w' => e = .returned (.int .i64 (laws_markVersionSS_m x0 x1).1) ∧ Mem B w0 (iOwn (tSl (tSl tyVersion 102) 100) [z0] (laws_markVersionSS_m x0 x1).2 :: is) w' := by
  refine call_enterW (L := [(0, z0), (1, .int .i64 x1)]) (N := 19) Try.func77 rfl rfl (Nat.le_of_ble_eq_true rfl) (argsL_cons rfl (argsL_cons rfl argsL_nil)) hm ?_
  refine CM_form (n := 0) rfl ?_
  rintro A1 c2 rfl m3
  refine sr ?_
  refine wa ?_
  refine nt' ?_
  refine CM_seq ?_
  refine sr ?_
  refine wa ?_
  refine nt' ?_
  refine CM_block ?_
  refine CM_loop (σ := Nat × (Int × (List (List DVersion))) × (Unit)) (fun s => [(0, .slice A1 x0.length c2), (1, .int .i64 s.2.1.1), (5, .int .i64 ((s.1 : Nat) : Int))]) (fun s => (iOwn (tSl (tSl tyVersion 102) 100) [.slice A1 x0.length c2] s.2.1.2 :: is)) (fun s => s.1 ≤ x0.length ∧ rng (R := (Int × (List (List DVersion)))) (fun k (s : Int × (List (List DVersion))) => laws_markVersionSS_b1 k s.1 s.2) (x0.length - s.1) s.1 s.2.1 = rng (R := (Int × (List (List DVersion)))) (fun k (s : Int × (List (List DVersion))) => laws_markVersionSS_b1 k s.1 s.2) (x0.length - 0) 0 (x1, x0)) (fun s => x0.length - s.1) (0, (x1, x0), ()) (subL_cons rfl (subL_cons rfl (subL_cons rfl subL_nil))) (fun W hm => hm) ⟨(by omega), rfl⟩ ?_
  rintro ⟨k5, ⟨s6, d7⟩, ⟨⟩⟩ H10
  obtain ⟨hk8, hF9⟩ : k5 ≤ x0.length ∧ rng (R := (Int × (List (List DVersion)))) (fun k (s : Int × (List (List DVersion))) => laws_markVersionSS_b1 k s.1 s.2) (x0.length - k5) k5 (s6, d7) = rng (R := (Int × (List (List DVersion)))) (fun k (s : Int × (List (List DVersion))) => laws_markVersionSS_b1 k s.1 s.2) (x0.length - 0) 0 (x1, x0) := H10
  show CM Try.prog 19 _ _ _ _ [(0, .slice A1 x0.length c2), (1, .int .i64 s6), (5, .int .i64 ((k5 : Nat) : Int))] (iOwn (tSl (tSl tyVersion 102) 100) [.slice A1 x0.length c2] d7 :: is)
  refine CM_seq ?_
  refine sr ?_
  refine wm ?_
  refine wm ?_
  refine wv (fun W hm => rv_len Try.underlying43 rfl) ?_
  refine wv (fun W hm => rv_lss rfl rfl) ?_
  refine nt' ?_
  by_cases hl11 : k5 < x0.length
  · have g12 : (decide (((k5 : Nat) : Int) < ((x0.length : Nat) : Int))) = true := decide_eq_true (by omega)
    refine CM_condT rfl g12 ?_
    refine CM_skip ?_
    refine QM_then ?_
    refine CM_seq ?_
    refine CM_block ?_
    refine CM_region ?_
    refine wm ?_
    refine wm ?_
    refine WM_formO (n := 0) rfl (by omega) ?_
    rintro g13 rfl
    refine wv (fun W hm => rv_index (sz := 1) (k := k5) Try.underlying43 Try.type100 rfl rfl rfl (by omega)) ?_
    refine WM_focus (E := (tSl tyVersion 102)) (e := 100) (A := (some ⟨g13, 0, none⟩)) (n := x0.length) (c := c2) (xs := d7) (k := k5) (js := (is)) (by omega) (fun W hm => (hm.front (n := 0) rfl)) (fun ck14 => ?_)
    refine WM_split (γ := Value) (js := fun g => [iOwn (tSl tyVersion 102) [g] (gt d7 k5)]) (C := fun g => ck14 = [g]) (fun _ _ h => tSl_split h) ?_
    rintro v15 rfl
    refine WM_form (n := 0) rfl ?_
    rintro A16 c17 rfl m18
    refine wv (fun W hm => rv_load Try.underlying100 rfl rfl (hm.focInt (i := 1) rfl rfl)) ?_
    refine wm ?_
    refine WM_callW (χ := Unit) (val := fun _ => .int .i64 (laws_markVersionS_m (gt d7 k5) s6).1) (js := fun _ => (iOwn (tSl tyVersion 102) [.slice A16 (gt d7 k5).length c17] (laws_markVersionS_m (gt d7 k5) s6).2 :: (iFoc (tSl tyVersion 102) 100 (some ⟨g13, 0, none⟩) x0.length c2 d7 k5 [.slice A16 (gt d7 k5).length c17] :: is))) (cl_fn cb119 rfl) (fun W hm => (laws_markVersionS_c B w0 (iFoc (tSl tyVersion 102) 100 (some ⟨g13, 0, none⟩) x0.length c2 d7 k5 [.slice A16 (gt d7 k5).length c17] :: is) W (.slice A16 (gt d7 k5).length c17) (gt d7 k5) s6 (hm.front (n := 0) rfl)).mono (fun _ _ h => ⟨(), h.1, h.2⟩)) (Wd_none rfl) (by decide) (fun _ => ?_)
    refine wa ?_
    refine WM_nil ?_
    refine QM_block_normal ?_
    refine QM_then ?_
    refine CM_region ?_
    refine wm ?_
    refine wv (fun W hm => rv_addN (p := k5) (q := 1) rfl rfl (by omega)) ?_
    refine wa ?_
    refine WM_nil ?_
    refine QM_items (fun W hm => Mem.unfocus (Mem.join (is := [iOwn (tSl tyVersion 102) [.slice A16 (gt d7 k5).length c17] ((laws_markVersionS_m (gt d7 k5) s6).2)]) (js := (iFoc (tSl tyVersion 102) 100 (some ⟨g13, 0, none⟩) x0.length c2 d7 k5 [.slice A16 (gt d7 k5).length c17] :: (is))) (fun _ _ hs => Sep.one hs) ((hm.front (n := 1) rfl).front (n := 1) rfl))) ?_
    have hn20 := rng_next (R := (Int × (List (List DVersion)))) (body := (fun k (s : Int × (List (List DVersion))) => laws_markVersionSS_b1 k s.1 s.2)) (k := k5) (s := (s6, d7)) (s' := ((laws_markVersionS_m (gt d7 k5) s6).1, (d7.set k5 ((laws_markVersionS_m (gt d7 k5) s6).2)))) (show k5 < x0.length from by omega) (show laws_markVersionSS_b1 k5 s6 d7 = Sum.inr ((laws_markVersionS_m (gt d7 k5) s6).1, (d7.set k5 ((laws_markVersionS_m (gt d7 k5) s6).2))) from by unfold laws_markVersionSS_b1; exact rfl) hF9
    exact QM_round (k5 + 1, ((laws_markVersionS_m (gt d7 k5) s6).1, (d7.set k5 ((laws_markVersionS_m (gt d7 k5) s6).2))), ()) (subL_cons rfl (subL_cons rfl (subL_cons rfl subL_nil))) (fun W hm => hm) ⟨(by omega), hn20⟩ (show x0.length - (k5 + 1) < x0.length - k5 from by omega)
  · have g12 : (decide (((k5 : Nat) : Int) < ((x0.length : Nat) : Int))) = false := decide_eq_false (by omega)
    refine CM_condF rfl g12 ?_
    refine CM_exit ?_
    refine QM_then_exit ?_
    refine QM_then_exit ?_
    have hE21 : rng (R := (Int × (List (List DVersion)))) (fun k (s : Int × (List (List DVersion))) => laws_markVersionSS_b1 k s.1 s.2) (x0.length - 0) 0 (x1, x0) = Sum.inr (s6, d7) := rng_end hl11 hF9
    refine QM_block_hit ?_
    refine QM_then ?_
    refine sr ?_
    refine wm ?_
    refine wa ?_
    refine nt' ?_
    refine CM_ret ?_
    refine QM_rW rfl rfl (fun W hm => ⟨?_, ?_⟩)
    · rw [(show laws_markVersionSS_m x0 x1 = (s6, d7) from by unfold laws_markVersionSS_m; exact fin_inr hE21 (rfl))]
    · rw [(show laws_markVersionSS_m x0 x1 = (s6, d7) from by unfold laws_markVersionSS_m; exact fin_inr hE21 (rfl))]; exact hm

def laws_markStore_m (x0 : DStore) (x1 : Int) : (Int × DStore) :=
  ((laws_markVersionSS_m x0.Segments x1).1, (⟨(laws_markVersionSS_m x0.Segments x1).2, x0.Now⟩ : DStore))
set_option maxRecDepth 100000 in
theorem cb31 : Cb Try.prog 31 := ⟨Try.f31, _, Try.func31, rfl, by decide⟩
set_option maxRecDepth 10000 in
set_option maxHeartbeats 4000000 in
theorem laws_markStore_c (B : Nat) (w0 : World) (is : List It) (w : World) (z0 : List Value) (x0 : DStore) (x1 : Int) (hm : Mem B w0 (iOwn tyStore z0 x0 :: is) w) :
    Calls Try.prog 31 #[.agg z0.toArray, .int .i64 x1] w fun e w' => e = .returned (.int .i64 (laws_markStore_m x0 x1).1) ∧ Mem B w0 (iOwn tyStore z0 (laws_markStore_m x0 x1).2 :: is) w' := by
  refine call_enterW (L := [(0, .agg z0.toArray), (1, .int .i64 x1)]) (N := 10) Try.func31 rfl rfl (Nat.le_of_ble_eq_true rfl) (argsL_cons rfl (argsL_cons rfl argsL_nil)) hm ?_
  refine CM_split (γ := Value) (js := fun g => [iOwn (tSl (tSl tyVersion 102) 100) [g] x0.Segments]) (C := fun g => z0 = [g, .int .i64 x0.Now]) (fun _ _ h => tyStore_split h) ?_
  rintro v1 rfl
  refine CM_form (n := 0) rfl ?_
  rintro A2 c3 rfl m4
  refine sr ?_
  refine WM_box rfl (Wd_none rfl) (by decide) (fun p6 => ?_)
  refine wa ?_
  refine nt' ?_
  refine sr ?_
  refine wv (fun W hm => rv_field Try.underlying45 rfl Try.type43 (by decide) rfl rfl) ?_
  refine wv (fun W hm => rv_load Try.underlying43 rfl rfl (hm.boxCell (n := 0) (o := 0) rfl rfl)) ?_
  refine wm ?_
  refine WM_callW (χ := Unit) (val := fun _ => .int .i64 (laws_markVersionSS_m x0.Segments x1).1) (js := fun _ => (iOwn (tSl (tSl tyVersion 102) 100) [.slice A2 x0.Segments.length c3] (laws_markVersionSS_m x0.Segments x1).2 :: (iBox p6 45 [.slice A2 x0.Segments.length c3, .int .i64 x0.Now] :: is))) (cl_fn cb77 rfl) (fun W hm => (laws_markVersionSS_c B w0 (iBox p6 45 [.slice A2 x0.Segments.length c3, .int .i64 x0.Now] :: is) W (.slice A2 x0.Segments.length c3) x0.Segments x1 (hm.front (n := 1) rfl)).mono (fun _ _ h => ⟨(), h.1, h.2⟩)) (Wd_none rfl) (by decide) (fun _ => ?_)
  refine wa ?_
  refine nt' ?_
  refine sr ?_
  refine wm ?_
  refine wa ?_
  refine nt' ?_
  refine CM_ret ?_
  refine QM_rW rfl rfl (fun W hm => ⟨?_, ?_⟩)
  · rw [(show laws_markStore_m x0 x1 = ((laws_markVersionSS_m x0.Segments x1).1, (⟨(laws_markVersionSS_m x0.Segments x1).2, x0.Now⟩ : DStore)) from by unfold laws_markStore_m; exact rfl)]
  · rw [(show laws_markStore_m x0 x1 = ((laws_markVersionSS_m x0.Segments x1).1, (⟨(laws_markVersionSS_m x0.Segments x1).2, x0.Now⟩ : DStore)) from by unfold laws_markStore_m; exact rfl)]; exact Mem.join (is := [iOwn (tSl (tSl tyVersion 102) 100) [.slice A2 x0.Segments.length c3] ((laws_markVersionSS_m x0.Segments x1).2)]) (js := is) (fun _ _ hs => tyStore_join (x := (⟨(laws_markVersionSS_m x0.Segments x1).2, x0.Now⟩ : DStore)) hs) ((hm.front (n := 0) rfl).front (n := 1) rfl).tail

def laws_markUpdateS_b1 (k5 : Nat) (s6 : Int) (d7 : (List DUpdate)) : (Int × (List DUpdate)) ⊕ (Int × (List DUpdate)) :=
  Sum.inr ((IntKind.i64.wrap ((IntKind.i64.wrap (((laws_markIntS_m ((gt d7 k5).Row.Values) (IntKind.i64.wrap ((IntKind.i64.wrap (s6 + 1)) + 1))).1) + 1)) + 1)), (d7.set k5 (⟨s6, (⟨(IntKind.i64.wrap (s6 + 1)), (laws_markIntS_m ((gt d7 k5).Row.Values) (IntKind.i64.wrap ((IntKind.i64.wrap (s6 + 1)) + 1))).2⟩ : DRow), (laws_markIntS_m ((gt d7 k5).Row.Values) (IntKind.i64.wrap ((IntKind.i64.wrap (s6 + 1)) + 1))).1, (IntKind.i64.wrap (((laws_markIntS_m ((gt d7 k5).Row.Values) (IntKind.i64.wrap ((IntKind.i64.wrap (s6 + 1)) + 1))).1) + 1))⟩ : DUpdate)))
def laws_markUpdateS_m (x0 : (List DUpdate)) (x1 : Int) : (Int × (List DUpdate)) :=
  Sum.elim id (fun (s : Int × (List DUpdate)) => (s.1, s.2)) (rng (R := (Int × (List DUpdate))) (fun k (s : Int × (List DUpdate)) => laws_markUpdateS_b1 k s.1 s.2) (x0.length - 0) 0 (x1, x0))
set_option maxRecDepth 100000 in
theorem cb53 : Cb Try.prog 53 := ⟨Try.f53, _, Try.func53, rfl, by decide⟩
set_option maxRecDepth 10000 in
set_option maxHeartbeats 4000000 in
theorem laws_markUpdateS_c (B : Nat) (w0 : World) (is : List It) (w : World) (z0 : Value) (x0 : (List DUpdate)) (x1 : Int) (hm : Mem B w0 (iOwn (tSl tyUpdate 71) [z0] x0 :: is) w) :
    Calls Try.prog 53 #[z0, .int .i64 x1] w fun e w' => e = .returned (.int .i64 (laws_markUpdateS_m x0 x1).1) ∧ Mem B w0 (iOwn (tSl tyUpdate 71) [z0] (laws_markUpdateS_m x0 x1).2 :: is) w' := by
  refine call_enterW (L := [(0, z0), (1, .int .i64 x1)]) (N := 50) Try.func53 rfl rfl (Nat.le_of_ble_eq_true rfl) (argsL_cons rfl (argsL_cons rfl argsL_nil)) hm ?_
  refine CM_form (n := 0) rfl ?_
  rintro A1 c2 rfl m3
  refine sr ?_
  refine wa ?_
  refine nt' ?_
  refine CM_seq ?_
  refine sr ?_
  refine wa ?_
  refine nt' ?_
  refine CM_block ?_
  refine CM_loop (σ := Nat × (Int × (List DUpdate)) × (Unit)) (fun s => [(0, .slice A1 x0.length c2), (1, .int .i64 s.2.1.1), (5, .int .i64 ((s.1 : Nat) : Int))]) (fun s => (iOwn (tSl tyUpdate 71) [.slice A1 x0.length c2] s.2.1.2 :: is)) (fun s => s.1 ≤ x0.length ∧ rng (R := (Int × (List DUpdate))) (fun k (s : Int × (List DUpdate)) => laws_markUpdateS_b1 k s.1 s.2) (x0.length - s.1) s.1 s.2.1 = rng (R := (Int × (List DUpdate))) (fun k (s : Int × (List DUpdate)) => laws_markUpdateS_b1 k s.1 s.2) (x0.length - 0) 0 (x1, x0)) (fun s => x0.length - s.1) (0, (x1, x0), ()) (subL_cons rfl (subL_cons rfl (subL_cons rfl subL_nil))) (fun W hm => hm) ⟨(by omega), rfl⟩ ?_
  rintro ⟨k5, ⟨s6, d7⟩, ⟨⟩⟩ H10
  obtain ⟨hk8, hF9⟩ : k5 ≤ x0.length ∧ rng (R := (Int × (List DUpdate))) (fun k (s : Int × (List DUpdate)) => laws_markUpdateS_b1 k s.1 s.2) (x0.length - k5) k5 (s6, d7) = rng (R := (Int × (List DUpdate))) (fun k (s : Int × (List DUpdate)) => laws_markUpdateS_b1 k s.1 s.2) (x0.length - 0) 0 (x1, x0) := H10
  show CM Try.prog 50 _ _ _ _ [(0, .slice A1 x0.length c2), (1, .int .i64 s6), (5, .int .i64 ((k5 : Nat) : Int))] (iOwn (tSl tyUpdate 71) [.slice A1 x0.length c2] d7 :: is)
  refine CM_seq ?_
  refine sr ?_
  refine wm ?_
  refine wm ?_
  refine wv (fun W hm => rv_len Try.underlying79 rfl) ?_
  refine wv (fun W hm => rv_lss rfl rfl) ?_
  refine nt' ?_
  by_cases hl11 : k5 < x0.length
  · have g12 : (decide (((k5 : Nat) : Int) < ((x0.length : Nat) : Int))) = true := decide_eq_true (by omega)
    refine CM_condT rfl g12 ?_
    refine CM_skip ?_
    refine QM_then ?_
    refine CM_seq ?_
    refine CM_block ?_
    refine sr ?_
    refine wm ?_
    refine wm ?_
    refine wm ?_
    refine WM_formO (n := 0) rfl (by omega) ?_
    rintro g13 rfl
    refine wv (fun W hm => rv_index (sz := 5) (k := k5) Try.underlying79 Try.type71 rfl rfl rfl (by omega)) ?_
    refine wv (fun W hm => rv_field Try.underlying71 rfl Try.type3 (by decide) rfl rfl) ?_
    refine WM_focus (E := tyUpdate) (e := 71) (A := (some ⟨g13, 0, none⟩)) (n := x0.length) (c := c2) (xs := d7) (k := k5) (js := (is)) (by omega) (fun W hm => (hm.front (n := 0) rfl)) (fun ck14 => ?_)
    refine WM_split (γ := Value) (js := fun g => [iOwn (tSl tInt 3) [g] ((gt d7 k5).Row.Values)]) (C := fun g => ck14 = [.int .i64 ((gt d7 k5).Kind), .int .i64 ((gt d7 k5).Row.Id), g, .int .i64 ((gt d7 k5).Field), .int .i64 ((gt d7 k5).Value)]) (fun _ _ h => tyUpdate_split h) ?_
    rintro v15 rfl
    refine WM_form (n := 0) rfl ?_
    rintro A16 c17 rfl m18
    refine WM_storeFoc (E := tyUpdate) (e := 71) (g := g13) (n := x0.length) (c := c2) (k := k5) (s := 5) (o := 0) (xs := d7) (ck := [.int .i64 ((gt d7 k5).Kind), .int .i64 ((gt d7 k5).Row.Id), .slice A16 ((gt d7 k5).Row.Values).length c17, .int .i64 ((gt d7 k5).Field), .int .i64 ((gt d7 k5).Value)]) (ck' := [.int .i64 s6, .int .i64 ((gt d7 k5).Row.Id), .slice A16 ((gt d7 k5).Row.Values).length c17, .int .i64 ((gt d7 k5).Field), .int .i64 ((gt d7 k5).Value)]) (js := (iOwn (tSl tInt 3) [.slice A16 ((gt d7 k5).Row.Values).length c17] ((gt d7 k5).Row.Values) :: is)) (fun W hm => (hm.front (n := 1) rfl)) rfl rfl Try.type3 rfl (Nat.le_of_ble_eq_true rfl) rfl rfl rfl rfl (Wd_none rfl) ?_
    refine nt' ?_
    refine sr ?_
    refine wm ?_
    refine wv (fun W hm => rv_add rfl rfl) ?_
    refine wa ?_
    refine nt' ?_
    refine sr ?_
    refine wm ?_
    refine wm ?_
    refine wm ?_
    refine wv (fun W hm => rv_index (sz := 5) (k := k5) Try.underlying79 Try.type71 rfl rfl rfl (by omega)) ?_
    refine wv (fun W hm => rv_field Try.underlying71 rfl Try.type69 (by decide) rfl rfl) ?_
    refine wv (fun W hm => rv_fieldA (o := 1) Try.underlying69 rfl Try.type3 (by decide) rfl rfl) ?_
    refine WM_storeFoc (E := tyUpdate) (e := 71) (g := g13) (n := x0.length) (c := c2) (k := k5) (s := 5) (o := 1) (xs := d7) (ck := [.int .i64 s6, .int .i64 ((gt d7 k5).Row.Id), .slice A16 ((gt d7 k5).Row.Values).length c17, .int .i64 ((gt d7 k5).Field), .int .i64 ((gt d7 k5).Value)]) (ck' := [.int .i64 s6, .int .i64 (IntKind.i64.wrap (s6 + 1)), .slice A16 ((gt d7 k5).Row.Values).length c17, .int .i64 ((gt d7 k5).Field), .int .i64 ((gt d7 k5).Value)]) (js := (iOwn (tSl tInt 3) [.slice A16 ((gt d7 k5).Row.Values).length c17] ((gt d7 k5).Row.Values) :: is)) (fun W hm => (hm.front (n := 0) rfl)) rfl rfl Try.type3 rfl (Nat.le_of_ble_eq_true rfl) rfl rfl rfl rfl (Wd_none rfl) ?_
    refine nt' ?_
    refine sr ?_
    refine wm ?_
    refine wv (fun W hm => rv_add rfl rfl) ?_
    refine wa ?_
    refine nt' ?_
    refine sr ?_
    refine wm ?_
    refine wm ?_
    refine wv (fun W hm => rv_index (sz := 5) (k := k5) Try.underlying79 Try.type71 rfl rfl rfl (by omega)) ?_
    refine wv (fun W hm => rv_field Try.underlying71 rfl Try.type69 (by decide) rfl rfl) ?_
    refine wv (fun W hm => rv_fieldA (o := 2) Try.underlying69 rfl Try.type33 (by decide) rfl rfl) ?_
    refine wv (fun W hm => rv_load Try.underlying33 rfl rfl (hm.focCells (i := 0) rfl rfl 2 _ rfl)) ?_
    refine wm ?_
    refine WM_callW (χ := Unit) (val := fun _ => .int .i64 (laws_markIntS_m ((gt d7 k5).Row.Values) (IntKind.i64.wrap ((IntKind.i64.wrap (s6 + 1)) + 1))).1) (js := fun _ => (iOwn (tSl tInt 3) [.slice A16 ((gt d7 k5).Row.Values).length c17] (laws_markIntS_m ((gt d7 k5).Row.Values) (IntKind.i64.wrap ((IntKind.i64.wrap (s6 + 1)) + 1))).2 :: (iFoc tyUpdate 71 (some ⟨g13, 0, none⟩) x0.length c2 d7 k5 [.int .i64 s6, .int .i64 (IntKind.i64.wrap (s6 + 1)), .slice A16 ((gt d7 k5).Row.Values).length c17, .int .i64 ((gt d7 k5).Field), .int .i64 ((gt d7 k5).Value)] :: is))) (cl_fn cb24 rfl) (fun W hm => (laws_markIntS_c B w0 (iFoc tyUpdate 71 (some ⟨g13, 0, none⟩) x0.length c2 d7 k5 [.int .i64 s6, .int .i64 (IntKind.i64.wrap (s6 + 1)), .slice A16 ((gt d7 k5).Row.Values).length c17, .int .i64 ((gt d7 k5).Field), .int .i64 ((gt d7 k5).Value)] :: is) W (.slice A16 ((gt d7 k5).Row.Values).length c17) ((gt d7 k5).Row.Values) (IntKind.i64.wrap ((IntKind.i64.wrap (s6 + 1)) + 1)) (hm.front (n := 1) rfl)).mono (fun _ _ h => ⟨(), h.1, h.2⟩)) (Wd_none rfl) (by decide) (fun _ => ?_)
    refine wa ?_
    refine nt' ?_
    refine sr ?_
    refine wm ?_
    refine wm ?_
    refine wm ?_
    refine wv (fun W hm => rv_index (sz := 5) (k := k5) Try.underlying79 Try.type71 rfl rfl rfl (by omega)) ?_
    refine wv (fun W hm => rv_field Try.underlying71 rfl Try.type3 (by decide) rfl rfl) ?_
    refine WM_storeFoc (E := tyUpdate) (e := 71) (g := g13) (n := x0.length) (c := c2) (k := k5) (s := 5) (o := 3) (xs := d7) (ck := [.int .i64 s6, .int .i64 (IntKind.i64.wrap (s6 + 1)), .slice A16 ((gt d7 k5).Row.Values).length c17, .int .i64 ((gt d7 k5).Field), .int .i64 ((gt d7 k5).Value)]) (ck' := [.int .i64 s6, .int .i64 (IntKind.i64.wrap (s6 + 1)), .slice A16 ((gt d7 k5).Row.Values).length c17, .int .i64 ((laws_markIntS_m ((gt d7 k5).Row.Values) (IntKind.i64.wrap ((IntKind.i64.wrap (s6 + 1)) + 1))).1), .int .i64 ((gt d7 k5).Value)]) (js := (iOwn (tSl tInt 3) [.slice A16 ((gt d7 k5).Row.Values).length c17] ((laws_markIntS_m ((gt d7 k5).Row.Values) (IntKind.i64.wrap ((IntKind.i64.wrap (s6 + 1)) + 1))).2) :: is)) (fun W hm => (hm.front (n := 1) rfl)) rfl rfl Try.type3 rfl (Nat.le_of_ble_eq_true rfl) rfl rfl rfl rfl (Wd_none rfl) ?_
    refine nt' ?_
    refine sr ?_
    refine wm ?_
    refine wv (fun W hm => rv_add rfl rfl) ?_
    refine wa ?_
    refine nt' ?_
    refine sr ?_
    refine wm ?_
    refine wm ?_
    refine wm ?_
    refine wv (fun W hm => rv_index (sz := 5) (k := k5) Try.underlying79 Try.type71 rfl rfl rfl (by omega)) ?_
    refine wv (fun W hm => rv_field Try.underlying71 rfl Try.type3 (by decide) rfl rfl) ?_
    refine WM_storeFoc (E := tyUpdate) (e := 71) (g := g13) (n := x0.length) (c := c2) (k := k5) (s := 5) (o := 4) (xs := d7) (ck := [.int .i64 s6, .int .i64 (IntKind.i64.wrap (s6 + 1)), .slice A16 ((gt d7 k5).Row.Values).length c17, .int .i64 ((laws_markIntS_m ((gt d7 k5).Row.Values) (IntKind.i64.wrap ((IntKind.i64.wrap (s6 + 1)) + 1))).1), .int .i64 ((gt d7 k5).Value)]) (ck' := [.int .i64 s6, .int .i64 (IntKind.i64.wrap (s6 + 1)), .slice A16 ((gt d7 k5).Row.Values).length c17, .int .i64 ((laws_markIntS_m ((gt d7 k5).Row.Values) (IntKind.i64.wrap ((IntKind.i64.wrap (s6 + 1)) + 1))).1), .int .i64 (IntKind.i64.wrap (((laws_markIntS_m ((gt d7 k5).Row.Values) (IntKind.i64.wrap ((IntKind.i64.wrap (s6 + 1)) + 1))).1) + 1))]) (js := (iOwn (tSl tInt 3) [.slice A16 ((gt d7 k5).Row.Values).length c17] ((laws_markIntS_m ((gt d7 k5).Row.Values) (IntKind.i64.wrap ((IntKind.i64.wrap (s6 + 1)) + 1))).2) :: is)) (fun W hm => (hm.front (n := 0) rfl)) rfl rfl Try.type3 rfl (Nat.le_of_ble_eq_true rfl) rfl rfl rfl rfl (Wd_none rfl) ?_
    refine nt' ?_
    refine CM_region ?_
    refine wm ?_
    refine wv (fun W hm => rv_add rfl rfl) ?_
    refine wa ?_
    refine WM_nil ?_
    refine QM_block_normal ?_
    refine QM_then ?_
    refine CM_region ?_
    refine wm ?_
    refine wv (fun W hm => rv_addN (p := k5) (q := 1) rfl rfl (by omega)) ?_
    refine wa ?_
    refine WM_nil ?_
    refine QM_items (fun W hm => Mem.unfocus (Mem.join (is := [iOwn (tSl tInt 3) [.slice A16 ((gt d7 k5).Row.Values).length c17] ((laws_markIntS_m ((gt d7 k5).Row.Values) (IntKind.i64.wrap ((IntKind.i64.wrap (s6 + 1)) + 1))).2)]) (js := (iFoc tyUpdate 71 (some ⟨g13, 0, none⟩) x0.length c2 d7 k5 [.int .i64 s6, .int .i64 (IntKind.i64.wrap (s6 + 1)), .slice A16 ((gt d7 k5).Row.Values).length c17, .int .i64 ((laws_markIntS_m ((gt d7 k5).Row.Values) (IntKind.i64.wrap ((IntKind.i64.wrap (s6 + 1)) + 1))).1), .int .i64 (IntKind.i64.wrap (((laws_markIntS_m ((gt d7 k5).Row.Values) (IntKind.i64.wrap ((IntKind.i64.wrap (s6 + 1)) + 1))).1) + 1))] :: (is))) (fun _ _ hs => tyUpdate_join (x := (⟨s6, (⟨(IntKind.i64.wrap (s6 + 1)), (laws_markIntS_m ((gt d7 k5).Row.Values) (IntKind.i64.wrap ((IntKind.i64.wrap (s6 + 1)) + 1))).2⟩ : DRow), (laws_markIntS_m ((gt d7 k5).Row.Values) (IntKind.i64.wrap ((IntKind.i64.wrap (s6 + 1)) + 1))).1, (IntKind.i64.wrap (((laws_markIntS_m ((gt d7 k5).Row.Values) (IntKind.i64.wrap ((IntKind.i64.wrap (s6 + 1)) + 1))).1) + 1))⟩ : DUpdate)) hs) ((hm.front (n := 0) rfl).front (n := 1) rfl))) ?_
    have hn20 := rng_next (R := (Int × (List DUpdate))) (body := (fun k (s : Int × (List DUpdate)) => laws_markUpdateS_b1 k s.1 s.2)) (k := k5) (s := (s6, d7)) (s' := ((IntKind.i64.wrap ((IntKind.i64.wrap (((laws_markIntS_m ((gt d7 k5).Row.Values) (IntKind.i64.wrap ((IntKind.i64.wrap (s6 + 1)) + 1))).1) + 1)) + 1)), (d7.set k5 (⟨s6, (⟨(IntKind.i64.wrap (s6 + 1)), (laws_markIntS_m ((gt d7 k5).Row.Values) (IntKind.i64.wrap ((IntKind.i64.wrap (s6 + 1)) + 1))).2⟩ : DRow), (laws_markIntS_m ((gt d7 k5).Row.Values) (IntKind.i64.wrap ((IntKind.i64.wrap (s6 + 1)) + 1))).1, (IntKind.i64.wrap (((laws_markIntS_m ((gt d7 k5).Row.Values) (IntKind.i64.wrap ((IntKind.i64.wrap (s6 + 1)) + 1))).1) + 1))⟩ : DUpdate)))) (show k5 < x0.length from by omega) (show laws_markUpdateS_b1 k5 s6 d7 = Sum.inr ((IntKind.i64.wrap ((IntKind.i64.wrap (((laws_markIntS_m ((gt d7 k5).Row.Values) (IntKind.i64.wrap ((IntKind.i64.wrap (s6 + 1)) + 1))).1) + 1)) + 1)), (d7.set k5 (⟨s6, (⟨(IntKind.i64.wrap (s6 + 1)), (laws_markIntS_m ((gt d7 k5).Row.Values) (IntKind.i64.wrap ((IntKind.i64.wrap (s6 + 1)) + 1))).2⟩ : DRow), (laws_markIntS_m ((gt d7 k5).Row.Values) (IntKind.i64.wrap ((IntKind.i64.wrap (s6 + 1)) + 1))).1, (IntKind.i64.wrap (((laws_markIntS_m ((gt d7 k5).Row.Values) (IntKind.i64.wrap ((IntKind.i64.wrap (s6 + 1)) + 1))).1) + 1))⟩ : DUpdate))) from by unfold laws_markUpdateS_b1; exact rfl) hF9
    exact QM_round (k5 + 1, ((IntKind.i64.wrap ((IntKind.i64.wrap (((laws_markIntS_m ((gt d7 k5).Row.Values) (IntKind.i64.wrap ((IntKind.i64.wrap (s6 + 1)) + 1))).1) + 1)) + 1)), (d7.set k5 (⟨s6, (⟨(IntKind.i64.wrap (s6 + 1)), (laws_markIntS_m ((gt d7 k5).Row.Values) (IntKind.i64.wrap ((IntKind.i64.wrap (s6 + 1)) + 1))).2⟩ : DRow), (laws_markIntS_m ((gt d7 k5).Row.Values) (IntKind.i64.wrap ((IntKind.i64.wrap (s6 + 1)) + 1))).1, (IntKind.i64.wrap (((laws_markIntS_m ((gt d7 k5).Row.Values) (IntKind.i64.wrap ((IntKind.i64.wrap (s6 + 1)) + 1))).1) + 1))⟩ : DUpdate))), ()) (subL_cons rfl (subL_cons rfl (subL_cons rfl subL_nil))) (fun W hm => hm) ⟨(by omega), hn20⟩ (show x0.length - (k5 + 1) < x0.length - k5 from by omega)
  · have g12 : (decide (((k5 : Nat) : Int) < ((x0.length : Nat) : Int))) = false := decide_eq_false (by omega)
    refine CM_condF rfl g12 ?_
    refine CM_exit ?_
    refine QM_then_exit ?_
    refine QM_then_exit ?_
    have hE21 : rng (R := (Int × (List DUpdate))) (fun k (s : Int × (List DUpdate)) => laws_markUpdateS_b1 k s.1 s.2) (x0.length - 0) 0 (x1, x0) = Sum.inr (s6, d7) := rng_end hl11 hF9
    refine QM_block_hit ?_
    refine QM_then ?_
    refine sr ?_
    refine wm ?_
    refine wa ?_
    refine nt' ?_
    refine CM_ret ?_
    refine QM_rW rfl rfl (fun W hm => ⟨?_, ?_⟩)
    · rw [(show laws_markUpdateS_m x0 x1 = (s6, d7) from by unfold laws_markUpdateS_m; exact fin_inr hE21 (rfl))]
    · rw [(show laws_markUpdateS_m x0 x1 = (s6, d7) from by unfold laws_markUpdateS_m; exact fin_inr hE21 (rfl))]; exact hm

def laws_heldIntS_b1 (x0 : (List Int)) (k6 : Nat) (s7 : Int) : Int ⊕ (Int) :=
  cond ((gt x0 k6) != s7) (Sum.inl (-1)) (Sum.inr (IntKind.i64.wrap (s7 + 1)))
def laws_heldIntS_m (x0 : (List Int)) (x1 : Int) : Int :=
  Sum.elim id (fun (s : Int) => s) (rng (R := Int) (fun k (s : Int) => laws_heldIntS_b1 x0 k s) (x0.length - 0) 0 x1)
set_option maxRecDepth 100000 in
theorem cb64 : Cb Try.prog 64 := ⟨Try.f64, _, Try.func64, rfl, by decide⟩
set_option maxRecDepth 10000 in
set_option maxHeartbeats 4000000 in
theorem laws_heldIntS_c (w : World) (z0 : Value) (x0 : (List Int)) (x1 : Int) (r_0 : rdS tInt w w.heap.size z0 x0) :
    Calls Try.prog 64 #[z0, .int .i64 x1] w fun e w' => e = .returned (.int .i64 (laws_heldIntS_m x0 x1)) ∧ Below w.heap.size w w' := by
  have r5 := r_0
  obtain ⟨m1, A2, c3, rfl, q4⟩ := r_0
  refine call_enterM (L := [(0, .slice A2 x0.length c3), (1, .int .i64 x1)]) (N := 21) Try.func64 rfl rfl (Nat.le_of_ble_eq_true rfl) (argsL_cons rfl (argsL_cons rfl argsL_nil)) ?_
  refine sr ?_
  refine wa ?_
  refine nt' ?_
  refine CM_seq ?_
  refine sr ?_
  refine wa ?_
  refine nt' ?_
  refine CM_block ?_
  refine CM_loop (σ := Nat × (Int) × (Unit)) (fun s => [(0, .slice A2 x0.length c3), (1, .int .i64 s.2.1), (5, .int .i64 ((s.1 : Nat) : Int))]) (fun s => []) (fun s => s.1 ≤ x0.length ∧ rng (R := Int) (fun k (s : Int) => laws_heldIntS_b1 x0 k s) (x0.length - s.1) s.1 s.2.1 = rng (R := Int) (fun k (s : Int) => laws_heldIntS_b1 x0 k s) (x0.length - 0) 0 x1) (fun s => x0.length - s.1) (0, x1, ()) (subL_cons rfl (subL_cons rfl (subL_cons rfl subL_nil))) (fun W hm => hm) ⟨(by omega), rfl⟩ ?_
  rintro ⟨k6, s7, ⟨⟩⟩ H10
  obtain ⟨hk8, hF9⟩ : k6 ≤ x0.length ∧ rng (R := Int) (fun k (s : Int) => laws_heldIntS_b1 x0 k s) (x0.length - k6) k6 s7 = rng (R := Int) (fun k (s : Int) => laws_heldIntS_b1 x0 k s) (x0.length - 0) 0 x1 := H10
  show CM Try.prog 21 _ _ _ _ [(0, .slice A2 x0.length c3), (1, .int .i64 s7), (5, .int .i64 ((k6 : Nat) : Int))] []
  refine CM_seq ?_
  refine sr ?_
  refine wm ?_
  refine wm ?_
  refine wv (fun W hm => rv_len Try.underlying33 rfl) ?_
  refine wv (fun W hm => rv_lss rfl rfl) ?_
  refine nt' ?_
  by_cases hl11 : k6 < x0.length
  · have g12 : (decide (((k6 : Nat) : Int) < ((x0.length : Nat) : Int))) = true := decide_eq_true (by omega)
    refine CM_condT rfl g12 ?_
    refine CM_skip ?_
    refine QM_then ?_
    refine CM_seq ?_
    refine CM_block ?_
    refine CM_seq ?_
    refine sr ?_
    refine wm ?_
    refine wm ?_
    obtain ⟨a13, rfl, hb14, he15⟩ := q4 (by omega)
    refine wv (fun W hm => rv_index (sz := 1) (k := k6) Try.underlying33 Try.type3 rfl rfl rfl (by omega)) ?_
    refine wv (fun W hm => rv_load Try.underlying3 rfl rfl ((hm.cell0 (show (a13.add (k6 * 1)).block < w.heap.size from by rw [add_block]; exact hb14.1)).trans (rdS_int he15 k6 (by omega)))) ?_
    refine wm ?_
    refine wv (fun W hm => rv_neq rfl rfl) ?_
    refine nt' ?_
    by_cases h16 : (gt x0 k6) = s7
    · have g17 : ((gt x0 k6) != s7) = false := by rw [h16]; exact bne_self_eq_false _
      refine CM_condF rfl g17 ?_
      refine CM_skip ?_
      refine QM_then ?_
      refine CM_region ?_
      refine wm ?_
      refine wv (fun W hm => rv_add rfl rfl) ?_
      refine wa ?_
      refine WM_nil ?_
      refine QM_block_normal ?_
      refine QM_then ?_
      refine CM_region ?_
      refine wm ?_
      refine wv (fun W hm => rv_addN (p := k6) (q := 1) rfl rfl (by omega)) ?_
      refine wa ?_
      refine WM_nil ?_
      have hn18 := rng_next (R := Int) (body := (fun k (s : Int) => laws_heldIntS_b1 x0 k s)) (k := k6) (s := s7) (s' := (IntKind.i64.wrap (s7 + 1))) (show k6 < x0.length from by omega) (show laws_heldIntS_b1 x0 k6 s7 = Sum.inr (IntKind.i64.wrap (s7 + 1)) from by unfold laws_heldIntS_b1; exact cond_f g17 (rfl)) hF9
      exact QM_round (k6 + 1, (IntKind.i64.wrap (s7 + 1)), ()) (subL_cons rfl (subL_cons rfl (subL_cons rfl subL_nil))) (fun W hm => hm) ⟨(by omega), hn18⟩ (show x0.length - (k6 + 1) < x0.length - k6 from by omega)
    · have g17 : ((gt x0 k6) != s7) = true := bne_iff_ne.2 h16
      refine CM_condT rfl g17 ?_
      refine sr ?_
      refine wa ?_
      refine nt' ?_
      refine CM_ret ?_
      refine QM_then_ret ?_
      refine QM_block_ret ?_
      refine QM_then_ret ?_
      refine QM_then_ret ?_
      refine QM_block_ret ?_
      refine QM_then_ret ?_
      exact QM_ret1 rfl rfl (fun W hm => ⟨ret_i (show laws_heldIntS_m x0 x1 = (-1) from by unfold laws_heldIntS_m; exact fin_inl (rng_ret (body := (fun k (s : Int) => laws_heldIntS_b1 x0 k s)) (k := k6) (s := s7) (show k6 < x0.length from by omega) (show laws_heldIntS_b1 x0 k6 s7 = Sum.inl (-1) from by unfold laws_heldIntS_b1; exact cond_t g17 (rfl)) hF9) rfl), hm.below⟩)
  · have g12 : (decide (((k6 : Nat) : Int) < ((x0.length : Nat) : Int))) = false := decide_eq_false (by omega)
    refine CM_condF rfl g12 ?_
    refine CM_exit ?_
    refine QM_then_exit ?_
    refine QM_then_exit ?_
    have hE19 : rng (R := Int) (fun k (s : Int) => laws_heldIntS_b1 x0 k s) (x0.length - 0) 0 x1 = Sum.inr s7 := rng_end hl11 hF9
    refine QM_block_hit ?_
    refine QM_then ?_
    refine sr ?_
    refine wm ?_
    refine wa ?_
    refine nt' ?_
    refine CM_ret ?_
    exact QM_ret1 rfl rfl (fun W hm => ⟨ret_i (show laws_heldIntS_m x0 x1 = s7 from by unfold laws_heldIntS_m; exact fin_inr hE19 (rfl)), hm.below⟩)

def laws_heldVersionS_b1 (x0 : (List DVersion)) (k6 : Nat) (s7 : Int) : Int ⊕ (Int) :=
  cond (((gt x0 k6).Id) != s7) (Sum.inl (-1)) (cond (decide ((laws_heldIntS_m ((gt x0 k6).Values) (IntKind.i64.wrap (s7 + 1))) < 0)) (Sum.inl (-1)) (cond (((gt x0 k6).Born) != (laws_heldIntS_m ((gt x0 k6).Values) (IntKind.i64.wrap (s7 + 1)))) (Sum.inl (-1)) (cond (((gt x0 k6).Died) != (IntKind.i64.wrap ((laws_heldIntS_m ((gt x0 k6).Values) (IntKind.i64.wrap (s7 + 1))) + 1))) (Sum.inl (-1)) (Sum.inr (IntKind.i64.wrap ((IntKind.i64.wrap ((laws_heldIntS_m ((gt x0 k6).Values) (IntKind.i64.wrap (s7 + 1))) + 1)) + 1))))))
def laws_heldVersionS_m (x0 : (List DVersion)) (x1 : Int) : Int :=
  Sum.elim id (fun (s : Int) => s) (rng (R := Int) (fun k (s : Int) => laws_heldVersionS_b1 x0 k s) (x0.length - 0) 0 x1)
set_option maxRecDepth 100000 in
theorem cb120 : Cb Try.prog 120 := ⟨Try.f120, _, Try.func120, rfl, by decide⟩
set_option maxRecDepth 10000 in
set_option maxHeartbeats 4000000 in
theorem laws_heldVersionS_c (w : World) (z0 : Value) (x0 : (List DVersion)) (x1 : Int) (r_0 : rdS tyVersion w w.heap.size z0 x0) :
    Calls Try.prog 120 #[z0, .int .i64 x1] w fun e w' => e = .returned (.int .i64 (laws_heldVersionS_m x0 x1)) ∧ Below w.heap.size w w' := by
  have r5 := r_0
  obtain ⟨m1, A2, c3, rfl, q4⟩ := r_0
  refine call_enterM (L := [(0, .slice A2 x0.length c3), (1, .int .i64 x1)]) (N := 49) Try.func120 rfl rfl (Nat.le_of_ble_eq_true rfl) (argsL_cons rfl (argsL_cons rfl argsL_nil)) ?_
  refine sr ?_
  refine wa ?_
  refine nt' ?_
  refine CM_seq ?_
  refine sr ?_
  refine wa ?_
  refine nt' ?_
  refine CM_block ?_
  refine CM_loop (σ := Nat × (Int) × (Unit)) (fun s => [(0, .slice A2 x0.length c3), (1, .int .i64 s.2.1), (5, .int .i64 ((s.1 : Nat) : Int))]) (fun s => []) (fun s => s.1 ≤ x0.length ∧ rng (R := Int) (fun k (s : Int) => laws_heldVersionS_b1 x0 k s) (x0.length - s.1) s.1 s.2.1 = rng (R := Int) (fun k (s : Int) => laws_heldVersionS_b1 x0 k s) (x0.length - 0) 0 x1) (fun s => x0.length - s.1) (0, x1, ()) (subL_cons rfl (subL_cons rfl (subL_cons rfl subL_nil))) (fun W hm => hm) ⟨(by omega), rfl⟩ ?_
  rintro ⟨k6, s7, ⟨⟩⟩ H10
  obtain ⟨hk8, hF9⟩ : k6 ≤ x0.length ∧ rng (R := Int) (fun k (s : Int) => laws_heldVersionS_b1 x0 k s) (x0.length - k6) k6 s7 = rng (R := Int) (fun k (s : Int) => laws_heldVersionS_b1 x0 k s) (x0.length - 0) 0 x1 := H10
  show CM Try.prog 49 _ _ _ _ [(0, .slice A2 x0.length c3), (1, .int .i64 s7), (5, .int .i64 ((k6 : Nat) : Int))] []
  refine CM_seq ?_
  refine sr ?_
  refine wm ?_
  refine wm ?_
  refine wv (fun W hm => rv_len Try.underlying100 rfl) ?_
  refine wv (fun W hm => rv_lss rfl rfl) ?_
  refine nt' ?_
  by_cases hl11 : k6 < x0.length
  · have g12 : (decide (((k6 : Nat) : Int) < ((x0.length : Nat) : Int))) = true := decide_eq_true (by omega)
    refine CM_condT rfl g12 ?_
    refine CM_skip ?_
    refine QM_then ?_
    refine CM_seq ?_
    refine CM_block ?_
    refine CM_seq ?_
    refine sr ?_
    refine wm ?_
    refine wm ?_
    obtain ⟨a13, rfl, hb14, he15⟩ := q4 (by omega)
    refine wv (fun W hm => rv_index (sz := 4) (k := k6) Try.underlying100 Try.type102 rfl rfl rfl (by omega)) ?_
    refine wv (fun W hm => rv_field Try.underlying102 rfl Try.type3 (by decide) rfl rfl) ?_
    obtain ⟨_, e19, hc16⟩ := he15 k6 _ (gt_some (show k6 < x0.length from by omega))
    obtain ⟨v17, rfl, r18⟩ := tyVersion_rd e19
    have r24 := r18
    obtain ⟨m20, A21, c22, rfl, q23⟩ := r18
    refine wv (fun W hm => rv_load Try.underlying3 rfl rfl ((hm.cell0 (show ((a13.add (k6 * 4)).add 0).block < w.heap.size from by rw [add_block, add_block]; exact hb14.1)).trans (hc16 0 _ rfl))) ?_
    refine wm ?_
    refine wv (fun W hm => rv_neq rfl rfl) ?_
    refine nt' ?_
    by_cases h25 : ((gt x0 k6).Id) = s7
    · have g26 : (((gt x0 k6).Id) != s7) = false := by rw [h25]; exact bne_self_eq_false _
      refine CM_condF rfl g26 ?_
      refine CM_skip ?_
      refine QM_then ?_
      refine sr ?_
      refine wm ?_
      refine wv (fun W hm => rv_add rfl rfl) ?_
      refine wa ?_
      refine nt' ?_
      refine sr ?_
      refine wm ?_
      refine wm ?_
      refine wv (fun W hm => rv_index (sz := 4) (k := k6) Try.underlying100 Try.type102 rfl rfl rfl (by omega)) ?_
      refine wv (fun W hm => rv_field Try.underlying102 rfl Try.type33 (by decide) rfl rfl) ?_
      refine wv (fun W hm => rv_load Try.underlying33 rfl rfl ((hm.cell0 (show ((a13.add (k6 * 4)).add 1).block < w.heap.size from by rw [add_block, add_block]; exact hb14.1)).trans (hc16 1 _ rfl))) ?_
      refine wm ?_
      refine WM_callV (cl_fn cb64 rfl) (fun W hm => laws_heldIntS_c W _ ((gt x0 k6).Values) (IntKind.i64.wrap (s7 + 1)) (hm.rdS0 r24)) (Wd_none rfl) (by decide) ?_
      refine wa ?_
      refine nt' ?_
      refine CM_seq ?_
      refine sr ?_
      refine wm ?_
      refine wv (fun W hm => rv_lss rfl rfl) ?_
      refine nt' ?_
      by_cases h27 : (laws_heldIntS_m ((gt x0 k6).Values) (IntKind.i64.wrap (s7 + 1))) < 0
      · have g28 : (decide ((laws_heldIntS_m ((gt x0 k6).Values) (IntKind.i64.wrap (s7 + 1))) < 0)) = true := decide_eq_true h27
        refine CM_condT rfl g28 ?_
        refine sr ?_
        refine wa ?_
        refine nt' ?_
        refine CM_ret ?_
        refine QM_then_ret ?_
        refine QM_block_ret ?_
        refine QM_then_ret ?_
        refine QM_then_ret ?_
        refine QM_block_ret ?_
        refine QM_then_ret ?_
        exact QM_ret1 rfl rfl (fun W hm => ⟨ret_i (show laws_heldVersionS_m x0 x1 = (-1) from by unfold laws_heldVersionS_m; exact fin_inl (rng_ret (body := (fun k (s : Int) => laws_heldVersionS_b1 x0 k s)) (k := k6) (s := s7) (show k6 < x0.length from by omega) (show laws_heldVersionS_b1 x0 k6 s7 = Sum.inl (-1) from by unfold laws_heldVersionS_b1; exact cond_f g26 (cond_t g28 (rfl))) hF9) rfl), hm.below⟩)
      · have g28 : (decide ((laws_heldIntS_m ((gt x0 k6).Values) (IntKind.i64.wrap (s7 + 1))) < 0)) = false := decide_eq_false h27
        refine CM_condF rfl g28 ?_
        refine CM_skip ?_
        refine QM_then ?_
        refine CM_seq ?_
        refine sr ?_
        refine wm ?_
        refine wm ?_
        refine wv (fun W hm => rv_index (sz := 4) (k := k6) Try.underlying100 Try.type102 rfl rfl rfl (by omega)) ?_
        refine wv (fun W hm => rv_field Try.underlying102 rfl Try.type3 (by decide) rfl rfl) ?_
        refine wv (fun W hm => rv_load Try.underlying3 rfl rfl ((hm.cell0 (show ((a13.add (k6 * 4)).add 2).block < w.heap.size from by rw [add_block, add_block]; exact hb14.1)).trans (hc16 2 _ rfl))) ?_
        refine wm ?_
        refine wv (fun W hm => rv_neq rfl rfl) ?_
        refine nt' ?_
        by_cases h29 : ((gt x0 k6).Born) = (laws_heldIntS_m ((gt x0 k6).Values) (IntKind.i64.wrap (s7 + 1)))
        · have g30 : (((gt x0 k6).Born) != (laws_heldIntS_m ((gt x0 k6).Values) (IntKind.i64.wrap (s7 + 1)))) = false := by rw [h29]; exact bne_self_eq_false _
          refine CM_condF rfl g30 ?_
          refine CM_skip ?_
          refine QM_then ?_
          refine sr ?_
          refine wm ?_
          refine wv (fun W hm => rv_add rfl rfl) ?_
          refine wa ?_
          refine nt' ?_
          refine CM_seq ?_
          refine sr ?_
          refine wm ?_
          refine wm ?_
          refine wv (fun W hm => rv_index (sz := 4) (k := k6) Try.underlying100 Try.type102 rfl rfl rfl (by omega)) ?_
          refine wv (fun W hm => rv_field Try.underlying102 rfl Try.type3 (by decide) rfl rfl) ?_
          refine wv (fun W hm => rv_load Try.underlying3 rfl rfl ((hm.cell0 (show ((a13.add (k6 * 4)).add 3).block < w.heap.size from by rw [add_block, add_block]; exact hb14.1)).trans (hc16 3 _ rfl))) ?_
          refine wm ?_
          refine wv (fun W hm => rv_neq rfl rfl) ?_
          refine nt' ?_
          by_cases h31 : ((gt x0 k6).Died) = (IntKind.i64.wrap ((laws_heldIntS_m ((gt x0 k6).Values) (IntKind.i64.wrap (s7 + 1))) + 1))
          · have g32 : (((gt x0 k6).Died) != (IntKind.i64.wrap ((laws_heldIntS_m ((gt x0 k6).Values) (IntKind.i64.wrap (s7 + 1))) + 1))) = false := by rw [h31]; exact bne_self_eq_false _
            refine CM_condF rfl g32 ?_
            refine CM_skip ?_
            refine QM_then ?_
            refine CM_region ?_
            refine wm ?_
            refine wv (fun W hm => rv_add rfl rfl) ?_
            refine wa ?_
            refine WM_nil ?_
            refine QM_block_normal ?_
            refine QM_then ?_
            refine CM_region ?_
            refine wm ?_
            refine wv (fun W hm => rv_addN (p := k6) (q := 1) rfl rfl (by omega)) ?_
            refine wa ?_
            refine WM_nil ?_
            have hn33 := rng_next (R := Int) (body := (fun k (s : Int) => laws_heldVersionS_b1 x0 k s)) (k := k6) (s := s7) (s' := (IntKind.i64.wrap ((IntKind.i64.wrap ((laws_heldIntS_m ((gt x0 k6).Values) (IntKind.i64.wrap (s7 + 1))) + 1)) + 1))) (show k6 < x0.length from by omega) (show laws_heldVersionS_b1 x0 k6 s7 = Sum.inr (IntKind.i64.wrap ((IntKind.i64.wrap ((laws_heldIntS_m ((gt x0 k6).Values) (IntKind.i64.wrap (s7 + 1))) + 1)) + 1)) from by unfold laws_heldVersionS_b1; exact cond_f g26 (cond_f g28 (cond_f g30 (cond_f g32 (rfl))))) hF9
            exact QM_round (k6 + 1, (IntKind.i64.wrap ((IntKind.i64.wrap ((laws_heldIntS_m ((gt x0 k6).Values) (IntKind.i64.wrap (s7 + 1))) + 1)) + 1)), ()) (subL_cons rfl (subL_cons rfl (subL_cons rfl subL_nil))) (fun W hm => hm) ⟨(by omega), hn33⟩ (show x0.length - (k6 + 1) < x0.length - k6 from by omega)
          · have g32 : (((gt x0 k6).Died) != (IntKind.i64.wrap ((laws_heldIntS_m ((gt x0 k6).Values) (IntKind.i64.wrap (s7 + 1))) + 1))) = true := bne_iff_ne.2 h31
            refine CM_condT rfl g32 ?_
            refine sr ?_
            refine wa ?_
            refine nt' ?_
            refine CM_ret ?_
            refine QM_then_ret ?_
            refine QM_block_ret ?_
            refine QM_then_ret ?_
            refine QM_then_ret ?_
            refine QM_block_ret ?_
            refine QM_then_ret ?_
            exact QM_ret1 rfl rfl (fun W hm => ⟨ret_i (show laws_heldVersionS_m x0 x1 = (-1) from by unfold laws_heldVersionS_m; exact fin_inl (rng_ret (body := (fun k (s : Int) => laws_heldVersionS_b1 x0 k s)) (k := k6) (s := s7) (show k6 < x0.length from by omega) (show laws_heldVersionS_b1 x0 k6 s7 = Sum.inl (-1) from by unfold laws_heldVersionS_b1; exact cond_f g26 (cond_f g28 (cond_f g30 (cond_t g32 (rfl))))) hF9) rfl), hm.below⟩)
        · have g30 : (((gt x0 k6).Born) != (laws_heldIntS_m ((gt x0 k6).Values) (IntKind.i64.wrap (s7 + 1)))) = true := bne_iff_ne.2 h29
          refine CM_condT rfl g30 ?_
          refine sr ?_
          refine wa ?_
          refine nt' ?_
          refine CM_ret ?_
          refine QM_then_ret ?_
          refine QM_block_ret ?_
          refine QM_then_ret ?_
          refine QM_then_ret ?_
          refine QM_block_ret ?_
          refine QM_then_ret ?_
          exact QM_ret1 rfl rfl (fun W hm => ⟨ret_i (show laws_heldVersionS_m x0 x1 = (-1) from by unfold laws_heldVersionS_m; exact fin_inl (rng_ret (body := (fun k (s : Int) => laws_heldVersionS_b1 x0 k s)) (k := k6) (s := s7) (show k6 < x0.length from by omega) (show laws_heldVersionS_b1 x0 k6 s7 = Sum.inl (-1) from by unfold laws_heldVersionS_b1; exact cond_f g26 (cond_f g28 (cond_t g30 (rfl)))) hF9) rfl), hm.below⟩)
    · have g26 : (((gt x0 k6).Id) != s7) = true := bne_iff_ne.2 h25
      refine CM_condT rfl g26 ?_
      refine sr ?_
      refine wa ?_
      refine nt' ?_
      refine CM_ret ?_
      refine QM_then_ret ?_
      refine QM_block_ret ?_
      refine QM_then_ret ?_
      refine QM_then_ret ?_
      refine QM_block_ret ?_
      refine QM_then_ret ?_
      exact QM_ret1 rfl rfl (fun W hm => ⟨ret_i (show laws_heldVersionS_m x0 x1 = (-1) from by unfold laws_heldVersionS_m; exact fin_inl (rng_ret (body := (fun k (s : Int) => laws_heldVersionS_b1 x0 k s)) (k := k6) (s := s7) (show k6 < x0.length from by omega) (show laws_heldVersionS_b1 x0 k6 s7 = Sum.inl (-1) from by unfold laws_heldVersionS_b1; exact cond_t g26 (rfl)) hF9) rfl), hm.below⟩)
  · have g12 : (decide (((k6 : Nat) : Int) < ((x0.length : Nat) : Int))) = false := decide_eq_false (by omega)
    refine CM_condF rfl g12 ?_
    refine CM_exit ?_
    refine QM_then_exit ?_
    refine QM_then_exit ?_
    have hE34 : rng (R := Int) (fun k (s : Int) => laws_heldVersionS_b1 x0 k s) (x0.length - 0) 0 x1 = Sum.inr s7 := rng_end hl11 hF9
    refine QM_block_hit ?_
    refine QM_then ?_
    refine sr ?_
    refine wm ?_
    refine wa ?_
    refine nt' ?_
    refine CM_ret ?_
    exact QM_ret1 rfl rfl (fun W hm => ⟨ret_i (show laws_heldVersionS_m x0 x1 = s7 from by unfold laws_heldVersionS_m; exact fin_inr hE34 (rfl)), hm.below⟩)

def laws_heldVersionSS_b1 (x0 : (List (List DVersion))) (k6 : Nat) (s7 : Int) : Int ⊕ (Int) :=
  cond (decide ((laws_heldVersionS_m (gt x0 k6) s7) < 0)) (Sum.inl (-1)) (Sum.inr (laws_heldVersionS_m (gt x0 k6) s7))
def laws_heldVersionSS_m (x0 : (List (List DVersion))) (x1 : Int) : Int :=
  Sum.elim id (fun (s : Int) => s) (rng (R := Int) (fun k (s : Int) => laws_heldVersionSS_b1 x0 k s) (x0.length - 0) 0 x1)
set_option maxRecDepth 100000 in
theorem cb78 : Cb Try.prog 78 := ⟨Try.f78, _, Try.func78, rfl, by decide⟩
set_option maxRecDepth 10000 in
set_option maxHeartbeats 4000000 in
theorem laws_heldVersionSS_c (w : World) (z0 : Value) (x0 : (List (List DVersion))) (x1 : Int) (r_0 : rdS (tSl tyVersion 102) w w.heap.size z0 x0) :
    Calls Try.prog 78 #[z0, .int .i64 x1] w fun e w' => e = .returned (.int .i64 (laws_heldVersionSS_m x0 x1)) ∧ Below w.heap.size w w' := by
  have r5 := r_0
  obtain ⟨m1, A2, c3, rfl, q4⟩ := r_0
  refine call_enterM (L := [(0, .slice A2 x0.length c3), (1, .int .i64 x1)]) (N := 21) Try.func78 rfl rfl (Nat.le_of_ble_eq_true rfl) (argsL_cons rfl (argsL_cons rfl argsL_nil)) ?_
  refine sr ?_
  refine wa ?_
  refine nt' ?_
  refine CM_seq ?_
  refine sr ?_
  refine wa ?_
  refine nt' ?_
  refine CM_block ?_
  refine CM_loop (σ := Nat × (Int) × (Unit)) (fun s => [(0, .slice A2 x0.length c3), (1, .int .i64 s.2.1), (5, .int .i64 ((s.1 : Nat) : Int))]) (fun s => []) (fun s => s.1 ≤ x0.length ∧ rng (R := Int) (fun k (s : Int) => laws_heldVersionSS_b1 x0 k s) (x0.length - s.1) s.1 s.2.1 = rng (R := Int) (fun k (s : Int) => laws_heldVersionSS_b1 x0 k s) (x0.length - 0) 0 x1) (fun s => x0.length - s.1) (0, x1, ()) (subL_cons rfl (subL_cons rfl (subL_cons rfl subL_nil))) (fun W hm => hm) ⟨(by omega), rfl⟩ ?_
  rintro ⟨k6, s7, ⟨⟩⟩ H10
  obtain ⟨hk8, hF9⟩ : k6 ≤ x0.length ∧ rng (R := Int) (fun k (s : Int) => laws_heldVersionSS_b1 x0 k s) (x0.length - k6) k6 s7 = rng (R := Int) (fun k (s : Int) => laws_heldVersionSS_b1 x0 k s) (x0.length - 0) 0 x1 := H10
  show CM Try.prog 21 _ _ _ _ [(0, .slice A2 x0.length c3), (1, .int .i64 s7), (5, .int .i64 ((k6 : Nat) : Int))] []
  refine CM_seq ?_
  refine sr ?_
  refine wm ?_
  refine wm ?_
  refine wv (fun W hm => rv_len Try.underlying43 rfl) ?_
  refine wv (fun W hm => rv_lss rfl rfl) ?_
  refine nt' ?_
  by_cases hl11 : k6 < x0.length
  · have g12 : (decide (((k6 : Nat) : Int) < ((x0.length : Nat) : Int))) = true := decide_eq_true (by omega)
    refine CM_condT rfl g12 ?_
    refine CM_skip ?_
    refine QM_then ?_
    refine CM_seq ?_
    refine CM_block ?_
    refine sr ?_
    refine wm ?_
    refine wm ?_
    obtain ⟨a13, rfl, hb14, he15⟩ := q4 (by omega)
    refine wv (fun W hm => rv_index (sz := 1) (k := k6) Try.underlying43 Try.type100 rfl rfl rfl (by omega)) ?_
    obtain ⟨_, e17, hc16⟩ := he15 k6 _ (gt_some (show k6 < x0.length from by omega))
    obtain ⟨v18, rfl, r19⟩ := e17
    have r24 := r19
    obtain ⟨m20, A21, c22, rfl, q23⟩ := r19
    refine wv (fun W hm => rv_load Try.underlying100 rfl rfl ((hm.cell0 (show (a13.add (k6 * 1)).block < w.heap.size from by rw [add_block]; exact hb14.1)).trans (hc16 0 _ rfl))) ?_
    refine wm ?_
    refine WM_callV (cl_fn cb120 rfl) (fun W hm => laws_heldVersionS_c W _ (gt x0 k6) s7 (hm.rdS0 r24)) (Wd_none rfl) (by decide) ?_
    refine wa ?_
    refine nt' ?_
    refine sr ?_
    refine wm ?_
    refine wv (fun W hm => rv_lss rfl rfl) ?_
    refine nt' ?_
    by_cases h25 : (laws_heldVersionS_m (gt x0 k6) s7) < 0
    · have g26 : (decide ((laws_heldVersionS_m (gt x0 k6) s7) < 0)) = true := decide_eq_true h25
      refine CM_condT rfl g26 ?_
      refine sr ?_
      refine wa ?_
      refine nt' ?_
      refine CM_ret ?_
      refine QM_block_ret ?_
      refine QM_then_ret ?_
      refine QM_then_ret ?_
      refine QM_block_ret ?_
      refine QM_then_ret ?_
      exact QM_ret1 rfl rfl (fun W hm => ⟨ret_i (show laws_heldVersionSS_m x0 x1 = (-1) from by unfold laws_heldVersionSS_m; exact fin_inl (rng_ret (body := (fun k (s : Int) => laws_heldVersionSS_b1 x0 k s)) (k := k6) (s := s7) (show k6 < x0.length from by omega) (show laws_heldVersionSS_b1 x0 k6 s7 = Sum.inl (-1) from by unfold laws_heldVersionSS_b1; exact cond_t g26 (rfl)) hF9) rfl), hm.below⟩)
    · have g26 : (decide ((laws_heldVersionS_m (gt x0 k6) s7) < 0)) = false := decide_eq_false h25
      refine CM_condF rfl g26 ?_
      refine CM_skip ?_
      refine QM_block_normal ?_
      refine QM_then ?_
      refine CM_region ?_
      refine wm ?_
      refine wv (fun W hm => rv_addN (p := k6) (q := 1) rfl rfl (by omega)) ?_
      refine wa ?_
      refine WM_nil ?_
      have hn27 := rng_next (R := Int) (body := (fun k (s : Int) => laws_heldVersionSS_b1 x0 k s)) (k := k6) (s := s7) (s' := (laws_heldVersionS_m (gt x0 k6) s7)) (show k6 < x0.length from by omega) (show laws_heldVersionSS_b1 x0 k6 s7 = Sum.inr (laws_heldVersionS_m (gt x0 k6) s7) from by unfold laws_heldVersionSS_b1; exact cond_f g26 (rfl)) hF9
      exact QM_round (k6 + 1, (laws_heldVersionS_m (gt x0 k6) s7), ()) (subL_cons rfl (subL_cons rfl (subL_cons rfl subL_nil))) (fun W hm => hm) ⟨(by omega), hn27⟩ (show x0.length - (k6 + 1) < x0.length - k6 from by omega)
  · have g12 : (decide (((k6 : Nat) : Int) < ((x0.length : Nat) : Int))) = false := decide_eq_false (by omega)
    refine CM_condF rfl g12 ?_
    refine CM_exit ?_
    refine QM_then_exit ?_
    refine QM_then_exit ?_
    have hE28 : rng (R := Int) (fun k (s : Int) => laws_heldVersionSS_b1 x0 k s) (x0.length - 0) 0 x1 = Sum.inr s7 := rng_end hl11 hF9
    refine QM_block_hit ?_
    refine QM_then ?_
    refine sr ?_
    refine wm ?_
    refine wa ?_
    refine nt' ?_
    refine CM_ret ?_
    exact QM_ret1 rfl rfl (fun W hm => ⟨ret_i (show laws_heldVersionSS_m x0 x1 = s7 from by unfold laws_heldVersionSS_m; exact fin_inr hE28 (rfl)), hm.below⟩)

def laws_heldStore_m (x0 : DStore) (x1 : Int) : Int :=
  cond (decide ((laws_heldVersionSS_m x0.Segments x1) < 0)) (-1) (laws_heldVersionSS_m x0.Segments x1)
set_option maxRecDepth 100000 in
theorem cb32 : Cb Try.prog 32 := ⟨Try.f32, _, Try.func32, rfl, by decide⟩
set_option maxRecDepth 10000 in
set_option maxHeartbeats 4000000 in
theorem laws_heldStore_c (w : World) (z0 : List Value) (x0 : DStore) (x1 : Int) (r_0 : tyStore.rd w w.heap.size z0 x0) :
    Calls Try.prog 32 #[.agg z0.toArray, .int .i64 x1] w fun e w' => e = .returned (.int .i64 (laws_heldStore_m x0 x1)) ∧ Below w.heap.size w w' := by
  obtain ⟨v1, rfl, r2⟩ := tyStore_rd r_0
  have r7 := r2
  obtain ⟨m3, A4, c5, rfl, q6⟩ := r2
  refine call_enterM (L := [(0, .agg #[.slice A4 x0.Segments.length c5, .int .i64 x0.Now]), (1, .int .i64 x1)]) (N := 12) Try.func32 rfl rfl (Nat.le_of_ble_eq_true rfl) (argsL_cons rfl (argsL_cons rfl argsL_nil)) ?_
  refine sr ?_
  refine WM_box rfl (Wd_none rfl) (by decide) (fun p8 => ?_)
  refine wa ?_
  refine nt' ?_
  refine sr ?_
  refine wv (fun W hm => rv_field Try.underlying45 rfl Try.type43 (by decide) rfl rfl) ?_
  refine wv (fun W hm => rv_load Try.underlying43 rfl rfl (hm.boxCell (n := 0) (o := 0) rfl rfl)) ?_
  refine wm ?_
  refine WM_callV (cl_fn cb78 rfl) (fun W hm => laws_heldVersionSS_c W _ x0.Segments x1 (hm.rdS0 r7)) (Wd_none rfl) (by decide) ?_
  refine wa ?_
  refine nt' ?_
  refine CM_seq ?_
  refine sr ?_
  refine wm ?_
  refine wv (fun W hm => rv_lss rfl rfl) ?_
  refine nt' ?_
  by_cases h9 : (laws_heldVersionSS_m x0.Segments x1) < 0
  · have g10 : (decide ((laws_heldVersionSS_m x0.Segments x1) < 0)) = true := decide_eq_true h9
    refine CM_condT rfl g10 ?_
    refine sr ?_
    refine wa ?_
    refine nt' ?_
    refine CM_ret ?_
    refine QM_then_ret ?_
    exact QM_ret1 rfl rfl (fun W hm => ⟨ret_i (show laws_heldStore_m x0 x1 = (-1) from by unfold laws_heldStore_m; exact cond_t g10 (rfl)), hm.below⟩)
  · have g10 : (decide ((laws_heldVersionSS_m x0.Segments x1) < 0)) = false := decide_eq_false h9
    refine CM_condF rfl g10 ?_
    refine CM_skip ?_
    refine QM_then ?_
    refine sr ?_
    refine wm ?_
    refine wa ?_
    refine nt' ?_
    refine CM_ret ?_
    exact QM_ret1 rfl rfl (fun W hm => ⟨ret_i (show laws_heldStore_m x0 x1 = (laws_heldVersionSS_m x0.Segments x1) from by unfold laws_heldStore_m; exact cond_f g10 (rfl)), hm.below⟩)

end Go.Proofs.Ytjcdginailhfmaa
