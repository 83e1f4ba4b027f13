/-
  Contracts of functions, printed by a program of ours.
-/
import Derived.Test.YtjcdginailhfmaaL5F1
namespace Go.Proofs.Ytjcdginailhfmaa
open Go.RowKit
def impl_IsRow_b1 (x0 : DRow) (k9 : Nat) : Bool ⊕ (Unit) :=
  cond (impl_within_m (gt x0.Values k9) 0 99) (Sum.inr ()) (Sum.inl false)
def impl_IsRow_m (x0 : DRow) : Bool :=
  Sum.elim id (fun (s : Unit) => cond (impl_within_m x0.Id 0 999) (((x0.Values.length : Nat) : Int) == 3) false) (rng (R := Bool) (fun k (_ : Unit) => impl_IsRow_b1 x0 k) (x0.Values.length - 0) 0 ())
theorem cb87 : Cb Try.prog 87 := ⟨Try.f87, _, Try.func87, rfl, by decide⟩
set_option maxRecDepth 10000 in
set_option maxHeartbeats 4000000 in
theorem impl_IsRow_c (w : World) (z0 : List Value) (x0 : DRow) (r_0 : tyRow.rd w w.heap.size z0 x0) :
    Calls Try.prog 87 #[.agg z0.toArray] w fun e w' => e = .returned (.bool (impl_IsRow_m x0)) ∧ Below w.heap.size w w' := by
  obtain ⟨v1, rfl, r2⟩ := tyRow_rd r_0
  have r7 := r2
  obtain ⟨m3, A4, c5, rfl, q6⟩ := r2
  refine call_enterM (L := [(0, .agg #[.int .i64 x0.Id, .slice A4 x0.Values.length c5])]) (N := 25) Try.func87 rfl rfl (Nat.le_of_ble_eq_true rfl) (argsL_cons rfl argsL_nil) ?_
  refine sr ?_
  refine WM_box rfl (Wd_none rfl) (by decide) (fun p8 => ?_)
  refine wa ?_
  refine nt' ?_
  refine CM_seq ?_
  refine sr ?_
  refine wv (fun W hm => rv_field Try.underlying69 rfl Try.type33 (by decide) rfl rfl) ?_
  refine wv (fun W hm => rv_load Try.underlying33 rfl rfl (hm.boxCell (n := 0) (o := 1) rfl rfl)) ?_
  refine wv (fun W hm => rv_len Try.underlying33 rfl) ?_
  refine wm ?_
  refine nt' ?_
  refine CM_block ?_
  refine CM_loop (σ := Nat × (Unit) × (Unit)) (fun s => [(1, .pointer (some (⟨p8, 0, none⟩ : Addr))), (6, .slice A4 x0.Values.length c5), (7, .int .i64 ((x0.Values.length : Nat) : Int)), (8, .int .i64 ((s.1 : Nat) : Int))]) (fun s => [iBox p8 69 [.int .i64 x0.Id, .slice A4 x0.Values.length c5]]) (fun s => s.1 ≤ x0.Values.length ∧ rng (R := Bool) (fun k (_ : Unit) => impl_IsRow_b1 x0 k) (x0.Values.length - s.1) s.1 s.2.1 = rng (R := Bool) (fun k (_ : Unit) => impl_IsRow_b1 x0 k) (x0.Values.length - 0) 0 ()) (fun s => x0.Values.length - s.1) (0, (), ()) (subL_cons rfl (subL_cons rfl (subL_cons rfl (subL_cons rfl subL_nil)))) (fun W hm => hm) ⟨(by omega), rfl⟩ ?_
  rintro ⟨k9, ⟨⟩, ⟨⟩⟩ H12
  obtain ⟨hk10, hF11⟩ : k9 ≤ x0.Values.length ∧ rng (R := Bool) (fun k (_ : Unit) => impl_IsRow_b1 x0 k) (x0.Values.length - k9) k9 () = rng (R := Bool) (fun k (_ : Unit) => impl_IsRow_b1 x0 k) (x0.Values.length - 0) 0 () := H12
  show CM Try.prog 25 _ _ _ _ [(1, .pointer (some (⟨p8, 0, none⟩ : Addr))), (6, .slice A4 x0.Values.length c5), (7, .int .i64 ((x0.Values.length : Nat) : Int)), (8, .int .i64 ((k9 : Nat) : Int))] [iBox p8 69 [.int .i64 x0.Id, .slice A4 x0.Values.length c5]]
  refine sr ?_
  refine wv (fun W hm => rv_lss rfl rfl) ?_
  refine nt' ?_
  refine CM_seq ?_
  by_cases hl13 : k9 < x0.Values.length
  · have g14 : (decide (((k9 : Nat) : Int) < ((x0.Values.length : Nat) : Int))) = true := decide_eq_true (by omega)
    refine CM_condT rfl g14 ?_
    refine CM_skip ?_
    refine QM_then ?_
    refine CM_seq ?_
    refine CM_block ?_
    refine sr ?_
    obtain ⟨a15, rfl, hb16, he17⟩ := q6 (by omega)
    refine wv (fun W hm => rv_index (sz := 1) (k := k9) Try.underlying33 Try.type3 rfl rfl rfl (by omega)) ?_
    refine wv (fun W hm => rv_load Try.underlying3 rfl rfl ((hm.cell0 (show (a15.add (k9 * 1)).block < w.heap.size from by rw [add_block]; exact hb16.1)).trans (rdS_int he17 k9 (by omega)))) ?_
    refine wa ?_
    refine nt' ?_
    refine sr ?_
    refine wm ?_
    refine WM_callV (cl_fn cb114 rfl) (fun W hm => impl_within_c W (gt x0.Values k9) 0 99) (Wd_none rfl) (by decide) ?_
    refine wv (fun W hm => rv_not rfl) ?_
    refine nt' ?_
    rcases Bool.eq_false_or_eq_true (impl_within_m (gt x0.Values k9) 0 99) with g19 | g19
    ·
      have hw := impl_within_fact g19
      refine CM_condF rfl (nt g19) ?_
      refine CM_skip ?_
      refine QM_block_normal ?_
      refine QM_then ?_
      refine CM_region ?_
      refine wv (fun W hm => rv_addN (p := k9) (q := 1) rfl rfl (by omega)) ?_
      refine wm ?_
      refine WM_nil ?_
      have hn20 := rng_next (R := Bool) (body := (fun k (_ : Unit) => impl_IsRow_b1 x0 k)) (k := k9) (s := ()) (s' := ()) (show k9 < x0.Values.length from by omega) (show impl_IsRow_b1 x0 k9 = Sum.inr () from by unfold impl_IsRow_b1; exact cond_t g19 (rfl)) hF11
      exact QM_round (k9 + 1, (), ()) (subL_cons rfl (subL_cons rfl (subL_cons rfl (subL_cons rfl subL_nil)))) (fun W hm => hm) ⟨(by omega), hn20⟩ (show x0.Values.length - (k9 + 1) < x0.Values.length - k9 from by omega)
    ·
      refine CM_condT rfl (nf g19) ?_
      refine sr ?_
      refine wa ?_
      refine nt' ?_
      refine CM_ret ?_
      refine QM_block_ret ?_
      refine QM_then_ret ?_
      refine QM_then_ret ?_
      refine QM_block_ret ?_
      refine QM_then_ret ?_
      exact QM_ret1 rfl rfl (fun W hm => ⟨ret_b (show impl_IsRow_m x0 = false from by unfold impl_IsRow_m; exact fin_inl (rng_ret (body := (fun k (_ : Unit) => impl_IsRow_b1 x0 k)) (k := k9) (s := ()) (show k9 < x0.Values.length from by omega) (show impl_IsRow_b1 x0 k9 = Sum.inl false from by unfold impl_IsRow_b1; exact cond_f g19 (rfl)) hF11) rfl), hm.below⟩)
  · have g14 : (decide (((k9 : Nat) : Int) < ((x0.Values.length : Nat) : Int))) = false := decide_eq_false (by omega)
    refine CM_condF rfl g14 ?_
    refine CM_exit ?_
    refine QM_then_exit ?_
    refine QM_then_exit ?_
    have hE21 : rng (R := Bool) (fun k (_ : Unit) => impl_IsRow_b1 x0 k) (x0.Values.length - 0) 0 () = Sum.inr () := rng_end hl13 hF11
    refine QM_block_hit ?_
    refine QM_then ?_
    refine sr ?_
    refine wv (fun W hm => rv_field Try.underlying69 rfl Try.type3 (by decide) rfl rfl) ?_
    refine wv (fun W hm => rv_load Try.underlying3 rfl rfl (hm.boxCell (n := 0) (o := 0) rfl rfl)) ?_
    refine WM_callV (cl_fn cb114 rfl) (fun W hm => impl_within_c W x0.Id 0 999) (Wd_none rfl) (by decide) ?_
    refine wm ?_
    rcases Bool.eq_false_or_eq_true (impl_within_m x0.Id 0 999) with g23 | g23
    ·
      have hw := impl_within_fact g23
      refine wg (fun W hm => rv_field Try.underlying69 rfl Try.type33 (by decide) rfl rfl) g23 ?_
      refine wg (fun W hm => rv_load Try.underlying33 rfl rfl (hm.boxCell (n := 0) (o := 1) rfl rfl)) g23 ?_
      refine wg (fun W hm => rv_len Try.underlying33 rfl) g23 ?_
      refine wg (fun W hm => rv_eql rfl rfl) g23 ?_
      refine wv (fun W hm => rv_pickT rfl g23 rfl) ?_
      refine wa ?_
      refine nt' ?_
      refine CM_ret ?_
      exact QM_ret1 rfl rfl (fun W hm => ⟨ret_b (show impl_IsRow_m x0 = (((x0.Values.length : Nat) : Int) == 3) from by unfold impl_IsRow_m; exact fin_inr hE21 (cond_t g23 (rfl))), hm.below⟩)
    ·
      refine ws g23 ?_
      refine ws g23 ?_
      refine ws g23 ?_
      refine ws g23 ?_
      refine wv (fun W hm => rv_pickF rfl g23 rfl) ?_
      refine wa ?_
      refine nt' ?_
      refine CM_ret ?_
      exact QM_ret1 rfl rfl (fun W hm => ⟨ret_b (show impl_IsRow_m x0 = false from by unfold impl_IsRow_m; exact fin_inr hE21 (cond_f g23 (rfl))), hm.below⟩)

def impl_IsVisible_m (x0 : DVersion) (x1 : Int) : Bool :=
  cond (decide (x0.Born ≤ x1)) (cond (x0.Died == (-1)) true (decide (x1 < x0.Died))) false
theorem cb117 : Cb Try.prog 117 := ⟨Try.f117, _, Try.func117, rfl, by decide⟩
set_option maxRecDepth 10000 in
set_option maxHeartbeats 4000000 in
theorem impl_IsVisible_c (w : World) (z0 : List Value) (x0 : DVersion) (x1 : Int) (r_0 : tyVersion.rd w w.heap.size z0 x0) :
    Calls Try.prog 117 #[.agg z0.toArray, .int .i64 x1] w fun e w' => e = .returned (.bool (impl_IsVisible_m x0 x1)) ∧ Below w.heap.size w w' := by
  obtain ⟨v1, rfl, r2⟩ := tyVersion_rd r_0
  have r7 := r2
  obtain ⟨m3, A4, c5, rfl, q6⟩ := r2
  refine call_enterM (L := [(0, .agg #[.int .i64 x0.Id, .slice A4 x0.Values.length c5, .int .i64 x0.Born, .int .i64 x0.Died]), (1, .int .i64 x1)]) (N := 20) Try.func117 rfl rfl (Nat.le_of_ble_eq_true rfl) (argsL_cons rfl (argsL_cons rfl argsL_nil)) ?_
  refine sr ?_
  refine WM_box rfl (Wd_none rfl) (by decide) (fun p8 => ?_)
  refine wa ?_
  refine nt' ?_
  refine sr ?_
  refine wv (fun W hm => rv_field Try.underlying102 rfl Try.type3 (by decide) rfl rfl) ?_
  refine wv (fun W hm => rv_load Try.underlying3 rfl rfl (hm.boxCell (n := 0) (o := 2) rfl rfl)) ?_
  refine wm ?_
  refine wv (fun W hm => rv_leq rfl rfl) ?_
  refine wm ?_
  by_cases h9 : x0.Born ≤ x1
  · have g10 : (decide (x0.Born ≤ x1)) = true := decide_eq_true h9
    refine wg (fun W hm => rv_field Try.underlying102 rfl Try.type3 (by decide) rfl rfl) g10 ?_
    refine wg (fun W hm => rv_load Try.underlying3 rfl rfl (hm.boxCell (n := 0) (o := 3) rfl rfl)) g10 ?_
    refine wg (fun W hm => rv_eql rfl rfl) g10 ?_
    refine wg (fun W hm => rv_move rfl) g10 ?_
    by_cases h11 : x0.Died = (-1)
    · have g12 : (x0.Died == (-1)) = true := beq_iff_eq.2 h11
      refine ws g12 ?_
      refine ws g12 ?_
      refine ws g12 ?_
      refine ws g12 ?_
      refine wg (fun W hm => rv_pickT rfl g12 rfl) g10 ?_
      refine wv (fun W hm => rv_pickT rfl g10 rfl) ?_
      refine wa ?_
      refine nt' ?_
      refine CM_ret ?_
      exact QM_ret1 rfl rfl (fun W hm => ⟨ret_b (show impl_IsVisible_m x0 x1 = true from by unfold impl_IsVisible_m; exact cond_t g10 (cond_t g12 (rfl))), hm.below⟩)
    · have g12 : (x0.Died == (-1)) = false := beq_eq_false_iff_ne.2 h11
      refine wg (fun W hm => rv_field Try.underlying102 rfl Try.type3 (by decide) rfl rfl) g12 ?_
      refine wg (fun W hm => rv_load Try.underlying3 rfl rfl (hm.boxCell (n := 0) (o := 3) rfl rfl)) g12 ?_
      refine wg (fun W hm => rv_move rfl) g12 ?_
      refine wg (fun W hm => rv_gtr rfl rfl) g12 ?_
      refine wg (fun W hm => rv_pickF rfl g12 rfl) g10 ?_
      refine wv (fun W hm => rv_pickT rfl g10 rfl) ?_
      refine wa ?_
      refine nt' ?_
      refine CM_ret ?_
      exact QM_ret1 rfl rfl (fun W hm => ⟨ret_b (show impl_IsVisible_m x0 x1 = (decide (x1 < x0.Died)) from by unfold impl_IsVisible_m; exact cond_t g10 (cond_f g12 (rfl))), hm.below⟩)
  · have g10 : (decide (x0.Born ≤ x1)) = false := decide_eq_false h9
    refine ws g10 ?_
    refine ws g10 ?_
    refine ws g10 ?_
    refine ws g10 ?_
    refine wu ?_
    refine wu ?_
    refine wu ?_
    refine wu ?_
    refine ws g10 ?_
    refine wv (fun W hm => rv_pickF rfl g10 rfl) ?_
    refine wa ?_
    refine nt' ?_
    refine CM_ret ?_
    exact QM_ret1 rfl rfl (fun W hm => ⟨ret_b (show impl_IsVisible_m x0 x1 = false from by unfold impl_IsVisible_m; exact cond_f g10 (rfl)), hm.below⟩)

def impl_meetInTime_m (x0 : DVersion) (x1 : DVersion) : Bool :=
  cond (impl_IsVisible_m x0 x1.Born) true (impl_IsVisible_m x1 x0.Born)
theorem cb116 : Cb Try.prog 116 := ⟨Try.f116, _, Try.func116, rfl, by decide⟩
set_option maxRecDepth 10000 in
set_option maxHeartbeats 4000000 in
theorem impl_meetInTime_c (w : World) (z0 : List Value) (x0 : DVersion) (z1 : List Value) (x1 : DVersion) (r_0 : tyVersion.rd w w.heap.size z0 x0) (r_1 : tyVersion.rd w w.heap.size z1 x1) :
    Calls Try.prog 116 #[.agg z0.toArray, .agg z1.toArray] w fun e w' => e = .returned (.bool (impl_meetInTime_m x0 x1)) ∧ Below w.heap.size w w' := by
  obtain ⟨v1, rfl, r2⟩ := tyVersion_rd r_0
  have r7 := r2
  obtain ⟨m3, A4, c5, rfl, q6⟩ := r2
  obtain ⟨v8, rfl, r9⟩ := tyVersion_rd r_1
  have r14 := r9
  obtain ⟨m10, A11, c12, rfl, q13⟩ := r9
  refine call_enterM (L := [(0, .agg #[.int .i64 x0.Id, .slice A4 x0.Values.length c5, .int .i64 x0.Born, .int .i64 x0.Died]), (1, .agg #[.int .i64 x1.Id, .slice A11 x1.Values.length c12, .int .i64 x1.Born, .int .i64 x1.Died])]) (N := 15) Try.func116 rfl rfl (Nat.le_of_ble_eq_true rfl) (argsL_cons rfl (argsL_cons rfl argsL_nil)) ?_
  refine sr ?_
  refine WM_box rfl (Wd_none rfl) (by decide) (fun p15 => ?_)
  refine WM_box rfl (Wd_none rfl) (by decide) (fun p16 => ?_)
  refine wa ?_
  refine nt' ?_
  refine sr ?_
  refine wv (fun W hm => rv_loadN (cs := [.int .i64 x0.Id, .slice A4 x0.Values.length c5, .int .i64 x0.Born, .int .i64 x0.Died]) Try.underlying102 Try.type102 rfl rfl (hm.boxCells (n := 1) rfl)) ?_
  refine wv (fun W hm => rv_field Try.underlying102 rfl Try.type3 (by decide) rfl rfl) ?_
  refine wv (fun W hm => rv_load Try.underlying3 rfl rfl (hm.boxCell (n := 0) (o := 2) rfl rfl)) ?_
  refine WM_callV (cl_fn cb117 rfl) (fun W hm => impl_IsVisible_c W _ x0 x1.Born (tyVersion_mk (x := x0) (hm.rdS0 r7))) (Wd_none rfl) (by decide) ?_
  refine wm ?_
  rcases Bool.eq_false_or_eq_true (impl_IsVisible_m x0 x1.Born) with g18 | g18
  ·
    refine ws g18 ?_
    refine ws g18 ?_
    refine ws g18 ?_
    refine ws g18 ?_
    refine wv (fun W hm => rv_pickT rfl g18 rfl) ?_
    refine wa ?_
    refine nt' ?_
    refine CM_ret ?_
    exact QM_ret1 rfl rfl (fun W hm => ⟨ret_b (show impl_meetInTime_m x0 x1 = true from by unfold impl_meetInTime_m; exact cond_t g18 (rfl)), hm.below⟩)
  ·
    refine wg (fun W hm => rv_loadN (cs := [.int .i64 x1.Id, .slice A11 x1.Values.length c12, .int .i64 x1.Born, .int .i64 x1.Died]) Try.underlying102 Try.type102 rfl rfl (hm.boxCells (n := 0) rfl)) g18 ?_
    refine wg (fun W hm => rv_field Try.underlying102 rfl Try.type3 (by decide) rfl rfl) g18 ?_
    refine wg (fun W hm => rv_load Try.underlying3 rfl rfl (hm.boxCell (n := 1) (o := 2) rfl rfl)) g18 ?_
    refine WM_callV (cl_fn cb117 rfl) (fun W hm => impl_IsVisible_c W _ x1 x0.Born (tyVersion_mk (x := x1) (hm.rdS0 r14))) (Wd_some rfl rfl rfl (bw g18 rfl)) (by decide) ?_
    refine wv (fun W hm => rv_pickF rfl g18 rfl) ?_
    refine wa ?_
    refine nt' ?_
    refine CM_ret ?_
    exact QM_ret1 rfl rfl (fun W hm => ⟨ret_b (show impl_meetInTime_m x0 x1 = (impl_IsVisible_m x1 x0.Born) from by unfold impl_meetInTime_m; exact cond_f g18 (rfl)), hm.below⟩)

def impl_IsStore_b3 (x0 : DStore) (k16 : Nat) (k41 : Nat) (d42 : (List DVersion)) (k77 : Nat) : Bool ⊕ (Unit) :=
  cond (((gt (gt x0.Segments k16) k41).Id) == ((gt d42 k77).Id)) (cond (impl_meetInTime_m (gt (gt x0.Segments k16) k41) (gt d42 k77)) (Sum.inl false) (Sum.inr ())) (Sum.inr ())
def impl_IsStore_b4 (x0 : DStore) (k16 : Nat) (k41 : Nat) (d42 : (List DVersion)) (k112 : Nat) : Bool ⊕ (Unit) :=
  cond (((gt (gt x0.Segments k16) k41).Id) == ((gt d42 k112).Id)) (cond (impl_meetInTime_m (gt (gt x0.Segments k16) k41) (gt d42 k112)) (Sum.inl false) (Sum.inr ())) (Sum.inr ())
def impl_IsStore_b2 (x0 : DStore) (k16 : Nat) (k41 : Nat) (d42 : (List DVersion)) : Bool ⊕ ((List DVersion)) :=
  cond (impl_IsRow_m (impl_rowOf_m (gt (gt x0.Segments k16) k41))) (cond (impl_within_m ((gt (gt x0.Segments k16) k41).Born) 0 x0.Now) (cond (((gt (gt x0.Segments k16) k41).Died) != (-1)) (cond (impl_within_m ((gt (gt x0.Segments k16) k41).Died) (IntKind.i64.wrap (((gt (gt x0.Segments k16) k41).Born) + 1)) x0.Now) (Sum.elim Sum.inl (fun (s : Unit) => Sum.inr (d42 ++ [(gt (gt x0.Segments k16) k41)])) (rng (R := Bool) (fun k (_ : Unit) => impl_IsStore_b4 x0 k16 k41 d42 k) (d42.length - 0) 0 ())) (Sum.inl false)) (Sum.elim Sum.inl (fun (s : Unit) => Sum.inr (d42 ++ [(gt (gt x0.Segments k16) k41)])) (rng (R := Bool) (fun k (_ : Unit) => impl_IsStore_b3 x0 k16 k41 d42 k) (d42.length - 0) 0 ()))) (Sum.inl false)) (Sum.inl false)
def impl_IsStore_b1 (x0 : DStore) (k16 : Nat) (d17 : (List DVersion)) : Bool ⊕ ((List DVersion)) :=
  cond (decide (4 < ((((gt x0.Segments k16)).length : Nat) : Int))) (Sum.inl false) (Sum.elim Sum.inl (fun (s : (List DVersion)) => Sum.inr s) (rng (R := Bool) (fun k (s : (List DVersion)) => impl_IsStore_b2 x0 k16 k s) (((gt x0.Segments k16)).length - 0) 0 d17))
def impl_IsStore_m (x0 : DStore) : Bool :=
  cond (impl_within_m ((x0.Segments.length : Nat) : Int) 1 8) (cond (impl_within_m x0.Now 0 100000) (Sum.elim id (fun (s : (List DVersion)) => true) (rng (R := Bool) (fun k (s : (List DVersion)) => impl_IsStore_b1 x0 k s) (x0.Segments.length - 0) 0 [])) false) false
theorem cb73 : Cb Try.prog 73 := ⟨Try.f73, _, Try.func73, rfl, by decide⟩
set_option maxRecDepth 10000 in
set_option maxHeartbeats 4000000 in
theorem impl_IsStore_c (w : World) (z0 : List Value) (x0 : DStore) (r_0 : tyStore.rd w w.heap.size z0 x0) (s_0 : smStore 68719476736 x0) :
    Calls Try.prog 73 #[.agg z0.toArray] w fun e w' => e = .returned (.bool (impl_IsStore_m x0)) ∧ Below w.heap.size w w' := by
  obtain ⟨v1, rfl, r2⟩ := tyStore_rd r_0
  have r7 := r2
  obtain ⟨m3, A4, c5, rfl, q6⟩ := r2
  have l8 : x0.Segments.length ≤ 68719476736 := s_0.1
  refine call_enterM (L := [(0, .agg #[.slice A4 x0.Segments.length c5, .int .i64 x0.Now])]) (N := 89) Try.func73 rfl rfl (Nat.le_of_ble_eq_true rfl) (argsL_cons rfl argsL_nil) ?_
  refine sr ?_
  refine WM_box rfl (Wd_none rfl) (by decide) (fun p9 => ?_)
  refine wa ?_
  refine nt' ?_
  refine CM_seq ?_
  refine sr ?_
  refine wv (fun W hm => rv_field Try.underlying45 rfl Try.type43 (by decide) rfl rfl) ?_
  refine wv (fun W hm => rv_load Try.underlying43 rfl rfl (hm.boxCell (n := 0) (o := 0) rfl rfl)) ?_
  refine wv (fun W hm => rv_len Try.underlying43 rfl) ?_
  refine WM_callV (cl_fn cb114 rfl) (fun W hm => impl_within_c W ((x0.Segments.length : Nat) : Int) 1 8) (Wd_none rfl) (by decide) ?_
  refine wv (fun W hm => rv_not rfl) ?_
  refine wm ?_
  rcases Bool.eq_false_or_eq_true (impl_within_m ((x0.Segments.length : Nat) : Int) 1 8) with g11 | g11
  ·
    have hw := impl_within_fact g11
    refine wg (fun W hm => rv_field Try.underlying45 rfl Try.type3 (by decide) rfl rfl) (nt g11) ?_
    refine wg (fun W hm => rv_load Try.underlying3 rfl rfl (hm.boxCell (n := 0) (o := 1) rfl rfl)) (nt g11) ?_
    refine WM_callV (cl_fn cb114 rfl) (fun W hm => impl_within_c W x0.Now 0 100000) (Wd_some rfl rfl rfl (bw (nt g11) rfl)) (by decide) ?_
    refine wg (fun W hm => rv_not rfl) (nt g11) ?_
    refine wv (fun W hm => rv_pickF rfl (nt g11) rfl) ?_
    refine nt' ?_
    rcases Bool.eq_false_or_eq_true (impl_within_m x0.Now 0 100000) with g13 | g13
    ·
      have hw := impl_within_fact g13
      refine CM_condF rfl (nt g13) ?_
      refine CM_skip ?_
      refine QM_then ?_
      refine sr ?_
      refine WM_build0 (E := (tBor tyVersion w w.heap.size)) Try.underlying100 Try.type102 (Wd_none rfl) (by decide) (fun p14 => ?_)
      refine wa ?_
      refine nt' ?_
      refine CM_seq ?_
      refine sr ?_
      refine wv (fun W hm => rv_field Try.underlying45 rfl Try.type43 (by decide) rfl rfl) ?_
      refine wv (fun W hm => rv_load Try.underlying43 rfl rfl (hm.boxCell (n := 1) (o := 0) rfl rfl)) ?_
      refine wv (fun W hm => rv_len Try.underlying43 rfl) ?_
      refine wm ?_
      refine nt' ?_
      refine CM_block ?_
      refine CM_loop (σ := Nat × ((List DVersion)) × (Option Addr × Nat)) (fun s => [(1, .pointer (some (⟨p9, 0, none⟩ : Addr))), (3, .slice s.2.2.1 s.2.1.length s.2.2.2), (23, .slice A4 x0.Segments.length c5), (24, .int .i64 ((x0.Segments.length : Nat) : Int)), (25, .int .i64 ((s.1 : Nat) : Int))]) (fun s => [iOwn (tSl (tBor tyVersion w w.heap.size) 102) [.slice s.2.2.1 s.2.1.length s.2.2.2] s.2.1, iBox p9 45 [.slice A4 x0.Segments.length c5, .int .i64 x0.Now]]) (fun s => s.1 ≤ x0.Segments.length ∧ rng (R := Bool) (fun k (s : (List DVersion)) => impl_IsStore_b1 x0 k s) (x0.Segments.length - s.1) s.1 s.2.1 = rng (R := Bool) (fun k (s : (List DVersion)) => impl_IsStore_b1 x0 k s) (x0.Segments.length - 0) 0 [] ∧ s.2.1.length ≤ 0 + 4 * s.1) (fun s => x0.Segments.length - s.1) (0, [], ((some ⟨p14, 0, none⟩), 0)) (subL_cons rfl (subL_cons rfl (subL_cons rfl (subL_cons rfl (subL_cons rfl subL_nil))))) (fun W hm => hm) ⟨(by omega), rfl, Nat.le_refl _⟩ ?_
      rintro ⟨k16, d17, ⟨A18, c19⟩⟩ H22
      obtain ⟨hk20, hF21, hi23⟩ : k16 ≤ x0.Segments.length ∧ rng (R := Bool) (fun k (s : (List DVersion)) => impl_IsStore_b1 x0 k s) (x0.Segments.length - k16) k16 d17 = rng (R := Bool) (fun k (s : (List DVersion)) => impl_IsStore_b1 x0 k s) (x0.Segments.length - 0) 0 [] ∧ d17.length ≤ 0 + 4 * k16 := H22
      show CM Try.prog 89 _ _ _ _ [(1, .pointer (some (⟨p9, 0, none⟩ : Addr))), (3, .slice A18 d17.length c19), (23, .slice A4 x0.Segments.length c5), (24, .int .i64 ((x0.Segments.length : Nat) : Int)), (25, .int .i64 ((k16 : Nat) : Int))] [iOwn (tSl (tBor tyVersion w w.heap.size) 102) [.slice A18 d17.length c19] d17, iBox p9 45 [.slice A4 x0.Segments.length c5, .int .i64 x0.Now]]
      refine sr ?_
      refine wv (fun W hm => rv_lss rfl rfl) ?_
      refine nt' ?_
      refine CM_seq ?_
      by_cases hl24 : k16 < x0.Segments.length
      · have g25 : (decide (((k16 : Nat) : Int) < ((x0.Segments.length : Nat) : Int))) = true := decide_eq_true (by omega)
        refine CM_condT rfl g25 ?_
        refine CM_skip ?_
        refine QM_then ?_
        refine CM_seq ?_
        refine CM_block ?_
        refine sr ?_
        obtain ⟨a26, rfl, hb27, he28⟩ := q6 (by omega)
        refine wv (fun W hm => rv_index (sz := 1) (k := k16) Try.underlying43 Try.type100 rfl rfl rfl (by omega)) ?_
        obtain ⟨_, e30, hc29⟩ := he28 k16 _ (gt_some (show k16 < x0.Segments.length from by omega))
        have l31 : (gt x0.Segments k16).length ≤ 68719476736 := (s_0.2 _ (gt_mem (show k16 < x0.Segments.length from by omega))).1
        obtain ⟨v32, rfl, r33⟩ := e30
        have r38 := r33
        obtain ⟨m34, A35, c36, rfl, q37⟩ := r33
        refine wv (fun W hm => rv_load Try.underlying100 rfl rfl ((hm.cell0 (show (a26.add (k16 * 1)).block < w.heap.size from by rw [add_block]; exact hb27.1)).trans (hc29 0 _ rfl))) ?_
        refine wa ?_
        refine nt' ?_
        refine CM_seq ?_
        refine sr ?_
        refine wm ?_
        refine wv (fun W hm => rv_len Try.underlying100 rfl) ?_
        refine wv (fun W hm => rv_gtr rfl rfl) ?_
        refine nt' ?_
        by_cases h39 : 4 < ((((gt x0.Segments k16)).length : Nat) : Int)
        · have g40 : (decide (4 < ((((gt x0.Segments k16)).length : Nat) : Int))) = true := decide_eq_true h39
          refine CM_condT rfl g40 ?_
          refine sr ?_
          refine wa ?_
          refine nt' ?_
          refine CM_ret ?_
          refine QM_then_ret ?_
          refine QM_block_ret ?_
          refine QM_then_ret ?_
          refine QM_then_ret ?_
          refine QM_block_ret ?_
          refine QM_then_ret ?_
          exact QM_ret1 rfl rfl (fun W hm => ⟨ret_b (show impl_IsStore_m x0 = false from by unfold impl_IsStore_m; exact cond_t g11 (cond_t g13 (fin_inl (rng_ret (body := (fun k (s : (List DVersion)) => impl_IsStore_b1 x0 k s)) (k := k16) (s := d17) (show k16 < x0.Segments.length from by omega) (show impl_IsStore_b1 x0 k16 d17 = Sum.inl false from by unfold impl_IsStore_b1; exact cond_t g40 (rfl)) hF21) rfl))), hm.below⟩)
        · have g40 : (decide (4 < ((((gt x0.Segments k16)).length : Nat) : Int))) = false := decide_eq_false h39
          refine CM_condF rfl g40 ?_
          refine CM_skip ?_
          refine QM_then ?_
          refine sr ?_
          refine wm ?_
          refine wv (fun W hm => rv_len Try.underlying100 rfl) ?_
          refine wm ?_
          refine nt' ?_
          refine CM_block ?_
          refine CM_loop (σ := Nat × ((List DVersion)) × (Option Addr × Nat)) (fun s => [(1, .pointer (some (⟨p9, 0, none⟩ : Addr))), (3, .slice s.2.2.1 s.2.1.length s.2.2.2), (23, .slice (some a26) x0.Segments.length c5), (24, .int .i64 ((x0.Segments.length : Nat) : Int)), (25, .int .i64 ((k16 : Nat) : Int)), (32, .slice A35 ((gt x0.Segments k16)).length c36), (33, .int .i64 ((((gt x0.Segments k16)).length : Nat) : Int)), (34, .int .i64 ((s.1 : Nat) : Int))]) (fun s => [iOwn (tSl (tBor tyVersion w w.heap.size) 102) [.slice s.2.2.1 s.2.1.length s.2.2.2] s.2.1, iBox p9 45 [.slice (some a26) x0.Segments.length c5, .int .i64 x0.Now]]) (fun s => s.1 ≤ ((gt x0.Segments k16)).length ∧ rng (R := Bool) (fun k (s : (List DVersion)) => impl_IsStore_b2 x0 k16 k s) (((gt x0.Segments k16)).length - s.1) s.1 s.2.1 = rng (R := Bool) (fun k (s : (List DVersion)) => impl_IsStore_b2 x0 k16 k s) (((gt x0.Segments k16)).length - 0) 0 d17 ∧ s.2.1.length ≤ d17.length + s.1) (fun s => ((gt x0.Segments k16)).length - s.1) (0, d17, (A18, c19)) (subL_cons rfl (subL_cons rfl (subL_cons rfl (subL_cons rfl (subL_cons rfl (subL_cons rfl (subL_cons rfl (subL_cons rfl subL_nil)))))))) (fun W hm => hm) ⟨(by omega), rfl, Nat.le_refl _⟩ ?_
          rintro ⟨k41, d42, ⟨A43, c44⟩⟩ H47
          obtain ⟨hk45, hF46, hi48⟩ : k41 ≤ ((gt x0.Segments k16)).length ∧ rng (R := Bool) (fun k (s : (List DVersion)) => impl_IsStore_b2 x0 k16 k s) (((gt x0.Segments k16)).length - k41) k41 d42 = rng (R := Bool) (fun k (s : (List DVersion)) => impl_IsStore_b2 x0 k16 k s) (((gt x0.Segments k16)).length - 0) 0 d17 ∧ d42.length ≤ d17.length + k41 := H47
          show CM Try.prog 89 _ _ _ _ [(1, .pointer (some (⟨p9, 0, none⟩ : Addr))), (3, .slice A43 d42.length c44), (23, .slice (some a26) x0.Segments.length c5), (24, .int .i64 ((x0.Segments.length : Nat) : Int)), (25, .int .i64 ((k16 : Nat) : Int)), (32, .slice A35 ((gt x0.Segments k16)).length c36), (33, .int .i64 ((((gt x0.Segments k16)).length : Nat) : Int)), (34, .int .i64 ((k41 : Nat) : Int))] [iOwn (tSl (tBor tyVersion w w.heap.size) 102) [.slice A43 d42.length c44] d42, iBox p9 45 [.slice (some a26) x0.Segments.length c5, .int .i64 x0.Now]]
          refine sr ?_
          refine wv (fun W hm => rv_lss rfl rfl) ?_
          refine nt' ?_
          refine CM_seq ?_
          by_cases hl49 : k41 < ((gt x0.Segments k16)).length
          · have g50 : (decide (((k41 : Nat) : Int) < ((((gt x0.Segments k16)).length : Nat) : Int))) = true := decide_eq_true (by omega)
            refine CM_condT rfl g50 ?_
            refine CM_skip ?_
            refine QM_then ?_
            refine CM_seq ?_
            refine CM_block ?_
            refine sr ?_
            obtain ⟨a51, rfl, hb52, he53⟩ := q37 (by omega)
            refine wv (fun W hm => rv_index (sz := 4) (k := k41) Try.underlying100 Try.type102 rfl rfl rfl (by omega)) ?_
            obtain ⟨_, e57, hc54⟩ := he53 k41 _ (gt_some (show k41 < ((gt x0.Segments k16)).length from by omega))
            obtain ⟨v55, rfl, r56⟩ := tyVersion_rd e57
            have l58 : ((gt (gt x0.Segments k16) k41).Values).length ≤ 68719476736 := ((s_0.2 _ (gt_mem (show k16 < x0.Segments.length from by omega))).2 _ (gt_mem (show k41 < ((gt x0.Segments k16)).length from by omega)))
            have r63 := r56
            obtain ⟨m59, A60, c61, rfl, q62⟩ := r56
            refine wv (fun W hm => rv_loadN (cs := [.int .i64 ((gt (gt x0.Segments k16) k41).Id), .slice A60 ((gt (gt x0.Segments k16) k41).Values).length c61, .int .i64 ((gt (gt x0.Segments k16) k41).Born), .int .i64 ((gt (gt x0.Segments k16) k41).Died)]) Try.underlying102 Try.type102 rfl rfl (hm.elCells (show (a51.add (k41 * 4)).block < w.heap.size from by rw [add_block]; exact hb52.1) hc54)) ?_
            refine WM_alloc Try.type102 rfl (Wd_none rfl) (by decide) (fun p64 => ?_)
            refine WM_storeBox (p := p64) (o := 0) (cs := [.int .i64 0, .slice none 0 0, .int .i64 0, .int .i64 0]) (cs' := [.int .i64 ((gt (gt x0.Segments k16) k41).Id), .slice A60 ((gt (gt x0.Segments k16) k41).Values).length c61, .int .i64 ((gt (gt x0.Segments k16) k41).Born), .int .i64 ((gt (gt x0.Segments k16) k41).Died)]) (js := [iOwn (tSl (tBor tyVersion w w.heap.size) 102) [.slice A43 d42.length c44] d42, iBox p9 45 [.slice (some a26) x0.Segments.length c5, .int .i64 x0.Now]]) (fun W hm => hm) Try.type102 rfl (Nat.le_of_ble_eq_true rfl) rfl rfl rfl rfl (Wd_none rfl) ?_
            refine nt' ?_
            refine CM_seq ?_
            refine sr ?_
            refine wv (fun W hm => rv_loadN (cs := [.int .i64 ((gt (gt x0.Segments k16) k41).Id), .slice A60 ((gt (gt x0.Segments k16) k41).Values).length c61, .int .i64 ((gt (gt x0.Segments k16) k41).Born), .int .i64 ((gt (gt x0.Segments k16) k41).Died)]) Try.underlying102 Try.type102 rfl rfl (hm.boxCells (n := 0) rfl)) ?_
            refine WM_call (χ := List Value) (val := fun x => .agg x.toArray) (js := fun x => [iOwn tyRow x (impl_rowOf_m (gt (gt x0.Segments k16) k41))]) (cl_fn cb115 rfl) (fun W hm => impl_rowOf_c W _ (gt (gt x0.Segments k16) k41) (tyVersion_mk (x := (gt (gt x0.Segments k16) k41)) (hm.rdS0 r63)) ((s_0.2 _ (gt_mem (show k16 < x0.Segments.length from by omega))).2 _ (gt_mem (show k41 < ((gt x0.Segments k16)).length from by omega)))) (Wd_none rfl) (by decide) (fun z65 => ?_)
            refine WM_split (γ := Value) (js := fun g => [iOwn (tSl tInt 3) [g] ((impl_rowOf_m (gt (gt x0.Segments k16) k41)).Values)]) (C := fun g => z65 = [.int .i64 ((impl_rowOf_m (gt (gt x0.Segments k16) k41)).Id), g]) (fun _ _ h => tyRow_split h) ?_
            rintro v66 rfl
            refine WM_form (n := 0) rfl ?_
            rintro A67 c68 rfl m69
            refine WM_callV (cl_fn cb87 rfl) (fun W hm => impl_IsRow_c W _ (impl_rowOf_m (gt (gt x0.Segments k16) k41)) (tyRow_mk (x := (impl_rowOf_m (gt (gt x0.Segments k16) k41))) (hm.rdSI (n := 0) rfl))) (Wd_none rfl) (by decide) ?_
            refine wv (fun W hm => rv_not rfl) ?_
            refine wm ?_
            rcases Bool.eq_false_or_eq_true (impl_IsRow_m (impl_rowOf_m (gt (gt x0.Segments k16) k41))) with g72 | g72
            ·
              refine wg (fun W hm => rv_field Try.underlying102 rfl Try.type3 (by decide) rfl rfl) (nt g72) ?_
              refine wg (fun W hm => rv_load Try.underlying3 rfl rfl (hm.boxCell (n := 1) (o := 2) rfl rfl)) (nt g72) ?_
              refine wg (fun W hm => rv_field Try.underlying45 rfl Try.type3 (by decide) rfl rfl) (nt g72) ?_
              refine wg (fun W hm => rv_load Try.underlying3 rfl rfl (hm.boxCell (n := 3) (o := 1) rfl rfl)) (nt g72) ?_
              refine WM_callV (cl_fn cb114 rfl) (fun W hm => impl_within_c W ((gt (gt x0.Segments k16) k41).Born) 0 x0.Now) (Wd_some rfl rfl rfl (bw (nt g72) rfl)) (by decide) ?_
              refine wg (fun W hm => rv_not rfl) (nt g72) ?_
              refine wv (fun W hm => rv_pickF rfl (nt g72) rfl) ?_
              refine wm ?_
              rcases Bool.eq_false_or_eq_true (impl_within_m ((gt (gt x0.Segments k16) k41).Born) 0 x0.Now) with g74 | g74
              ·
                have hw := impl_within_fact g74
                refine wg (fun W hm => rv_field Try.underlying102 rfl Try.type3 (by decide) rfl rfl) (nt g74) ?_
                refine wg (fun W hm => rv_load Try.underlying3 rfl rfl (hm.boxCell (n := 1) (o := 3) rfl rfl)) (nt g74) ?_
                refine wg (fun W hm => rv_neq rfl rfl) (nt g74) ?_
                refine wg (fun W hm => rv_move rfl) (nt g74) ?_
                by_cases h75 : ((gt (gt x0.Segments k16) k41).Died) = (-1)
                · have g76 : (((gt (gt x0.Segments k16) k41).Died) != (-1)) = false := by rw [h75]; exact bne_self_eq_false _
                  refine ws g76 ?_
                  refine ws g76 ?_
                  refine ws g76 ?_
                  refine ws g76 ?_
                  refine ws g76 ?_
                  refine ws g76 ?_
                  refine ws g76 ?_
                  refine ws g76 ?_
                  refine ws g76 ?_
                  refine wg (fun W hm => rv_pickF rfl g76 rfl) (nt g74) ?_
                  refine wv (fun W hm => rv_pickF rfl (nt g74) rfl) ?_
                  refine nt' ?_
                  refine CM_condF rfl rfl ?_
                  refine CM_skip ?_
                  refine QM_then ?_
                  refine CM_seq ?_
                  refine sr ?_
                  refine wm ?_
                  refine wv (fun W hm => rv_len Try.underlying100 rfl) ?_
                  refine wm ?_
                  refine nt' ?_
                  refine CM_block ?_
                  refine CM_loop (σ := Nat × (Unit) × (Unit)) (fun s => [(1, .pointer (some (⟨p9, 0, none⟩ : Addr))), (3, .slice A43 d42.length c44), (7, .pointer (some (⟨p64, 0, none⟩ : Addr))), (23, .slice (some a26) x0.Segments.length c5), (24, .int .i64 ((x0.Segments.length : Nat) : Int)), (25, .int .i64 ((k16 : Nat) : Int)), (32, .slice (some a51) ((gt x0.Segments k16)).length c36), (33, .int .i64 ((((gt x0.Segments k16)).length : Nat) : Int)), (34, .int .i64 ((k41 : Nat) : Int)), (66, .slice A43 d42.length c44), (67, .int .i64 ((d42.length : Nat) : Int)), (68, .int .i64 ((s.1 : Nat) : Int))]) (fun s => [iOwn (tSl tInt 3) [.slice A67 ((impl_rowOf_m (gt (gt x0.Segments k16) k41)).Values).length c68] ((impl_rowOf_m (gt (gt x0.Segments k16) k41)).Values), iBox p64 102 [.int .i64 ((gt (gt x0.Segments k16) k41).Id), .slice A60 ((gt (gt x0.Segments k16) k41).Values).length c61, .int .i64 ((gt (gt x0.Segments k16) k41).Born), .int .i64 ((gt (gt x0.Segments k16) k41).Died)], iOwn (tSl (tBor tyVersion w w.heap.size) 102) [.slice A43 d42.length c44] d42, iBox p9 45 [.slice (some a26) x0.Segments.length c5, .int .i64 x0.Now]]) (fun s => s.1 ≤ d42.length ∧ rng (R := Bool) (fun k (_ : Unit) => impl_IsStore_b3 x0 k16 k41 d42 k) (d42.length - s.1) s.1 s.2.1 = rng (R := Bool) (fun k (_ : Unit) => impl_IsStore_b3 x0 k16 k41 d42 k) (d42.length - 0) 0 ()) (fun s => d42.length - s.1) (0, (), ()) (subL_cons rfl (subL_cons rfl (subL_cons rfl (subL_cons rfl (subL_cons rfl (subL_cons rfl (subL_cons rfl (subL_cons rfl (subL_cons rfl (subL_cons rfl (subL_cons rfl (subL_cons rfl subL_nil)))))))))))) (fun W hm => hm) ⟨(by omega), rfl⟩ ?_
                  rintro ⟨k77, ⟨⟩, ⟨⟩⟩ H80
                  obtain ⟨hk78, hF79⟩ : k77 ≤ d42.length ∧ rng (R := Bool) (fun k (_ : Unit) => impl_IsStore_b3 x0 k16 k41 d42 k) (d42.length - k77) k77 () = rng (R := Bool) (fun k (_ : Unit) => impl_IsStore_b3 x0 k16 k41 d42 k) (d42.length - 0) 0 () := H80
                  show CM Try.prog 89 _ _ _ _ [(1, .pointer (some (⟨p9, 0, none⟩ : Addr))), (3, .slice A43 d42.length c44), (7, .pointer (some (⟨p64, 0, none⟩ : Addr))), (23, .slice (some a26) x0.Segments.length c5), (24, .int .i64 ((x0.Segments.length : Nat) : Int)), (25, .int .i64 ((k16 : Nat) : Int)), (32, .slice (some a51) ((gt x0.Segments k16)).length c36), (33, .int .i64 ((((gt x0.Segments k16)).length : Nat) : Int)), (34, .int .i64 ((k41 : Nat) : Int)), (66, .slice A43 d42.length c44), (67, .int .i64 ((d42.length : Nat) : Int)), (68, .int .i64 ((k77 : Nat) : Int))] [iOwn (tSl tInt 3) [.slice A67 ((impl_rowOf_m (gt (gt x0.Segments k16) k41)).Values).length c68] ((impl_rowOf_m (gt (gt x0.Segments k16) k41)).Values), iBox p64 102 [.int .i64 ((gt (gt x0.Segments k16) k41).Id), .slice A60 ((gt (gt x0.Segments k16) k41).Values).length c61, .int .i64 ((gt (gt x0.Segments k16) k41).Born), .int .i64 ((gt (gt x0.Segments k16) k41).Died)], iOwn (tSl (tBor tyVersion w w.heap.size) 102) [.slice A43 d42.length c44] d42, iBox p9 45 [.slice (some a26) x0.Segments.length c5, .int .i64 x0.Now]]
                  refine sr ?_
                  refine wv (fun W hm => rv_lss rfl rfl) ?_
                  refine nt' ?_
                  refine CM_seq ?_
                  by_cases hl81 : k77 < d42.length
                  · have g82 : (decide (((k77 : Nat) : Int) < ((d42.length : Nat) : Int))) = true := decide_eq_true (by omega)
                    refine CM_condT rfl g82 ?_
                    refine CM_skip ?_
                    refine QM_then ?_
                    refine CM_seq ?_
                    refine CM_block ?_
                    refine sr ?_
                    refine WM_formO (n := 2) rfl (by omega) ?_
                    rintro g83 rfl
                    refine wv (fun W hm => rv_index (sz := 4) (k := k77) Try.underlying100 Try.type102 rfl rfl rfl (by omega)) ?_
                    refine WM_expose (T := tyVersion) (wb := w) (Bb := w.heap.size) (e := 102) (g := g83) (n := d42.length) (c := c44) (xs := d42) (js := [iOwn (tSl tInt 3) [.slice A67 ((impl_rowOf_m (gt (gt x0.Segments k16) k41)).Values).length c68] ((impl_rowOf_m (gt (gt x0.Segments k16) k41)).Values), iBox p64 102 [.int .i64 ((gt (gt x0.Segments k16) k41).Id), .slice A60 ((gt (gt x0.Segments k16) k41).Values).length c61, .int .i64 ((gt (gt x0.Segments k16) k41).Born), .int .i64 ((gt (gt x0.Segments k16) k41).Died)], iBox p9 45 [.slice (some a26) x0.Segments.length c5, .int .i64 x0.Now]]) (fun W hm => (hm.pick [2, 0, 1, 3] (by decide))) ?_
                    rintro ck84 rk85
                    obtain ⟨_, e86, hc87⟩ := rk85.get (j := k77) (by omega)
                    obtain ⟨v88, rfl, r89⟩ := tyVersion_rd e86
                    have r94 := r89
                    obtain ⟨m90, A91, c92, rfl, q93⟩ := r89
                    refine wv (fun W hm => rv_loadN (cs := [.int .i64 ((gt d42 k77).Id), .slice A91 ((gt d42 k77).Values).length c92, .int .i64 ((gt d42 k77).Born), .int .i64 ((gt d42 k77).Died)]) Try.underlying102 Try.type102 rfl rfl (hm.rowCells (i := 0) rfl hc87)) ?_
                    refine WM_alloc Try.type102 rfl (Wd_none rfl) (by decide) (fun p95 => ?_)
                    refine WM_storeBox (p := p95) (o := 0) (cs := [.int .i64 0, .slice none 0 0, .int .i64 0, .int .i64 0]) (cs' := [.int .i64 ((gt d42 k77).Id), .slice A91 ((gt d42 k77).Values).length c92, .int .i64 ((gt d42 k77).Born), .int .i64 ((gt d42 k77).Died)]) (js := [iBox g83 102 ck84, iOwn (tSl tInt 3) [.slice A67 ((impl_rowOf_m (gt (gt x0.Segments k16) k41)).Values).length c68] ((impl_rowOf_m (gt (gt x0.Segments k16) k41)).Values), iBox p64 102 [.int .i64 ((gt (gt x0.Segments k16) k41).Id), .slice A60 ((gt (gt x0.Segments k16) k41).Values).length c61, .int .i64 ((gt (gt x0.Segments k16) k41).Born), .int .i64 ((gt (gt x0.Segments k16) k41).Died)], iBox p9 45 [.slice (some a26) x0.Segments.length c5, .int .i64 x0.Now]]) (fun W hm => hm) Try.type102 rfl (Nat.le_of_ble_eq_true rfl) rfl rfl rfl rfl (Wd_none rfl) ?_
                    refine nt' ?_
                    refine sr ?_
                    refine wv (fun W hm => rv_field Try.underlying102 rfl Try.type3 (by decide) rfl rfl) ?_
                    refine wv (fun W hm => rv_load Try.underlying3 rfl rfl (hm.boxCell (n := 3) (o := 0) rfl rfl)) ?_
                    refine wv (fun W hm => rv_field Try.underlying102 rfl Try.type3 (by decide) rfl rfl) ?_
                    refine wv (fun W hm => rv_load Try.underlying3 rfl rfl (hm.boxCell (n := 0) (o := 0) rfl rfl)) ?_
                    refine wv (fun W hm => rv_eql rfl rfl) ?_
                    refine wm ?_
                    by_cases h96 : ((gt (gt x0.Segments k16) k41).Id) = ((gt d42 k77).Id)
                    · have g97 : (((gt (gt x0.Segments k16) k41).Id) == ((gt d42 k77).Id)) = true := beq_iff_eq.2 h96
                      refine wg (fun W hm => rv_loadN (cs := [.int .i64 ((gt (gt x0.Segments k16) k41).Id), .slice A60 ((gt (gt x0.Segments k16) k41).Values).length c61, .int .i64 ((gt (gt x0.Segments k16) k41).Born), .int .i64 ((gt (gt x0.Segments k16) k41).Died)]) Try.underlying102 Try.type102 rfl rfl (hm.boxCells (n := 3) rfl)) g97 ?_
                      refine wg (fun W hm => rv_loadN (cs := [.int .i64 ((gt d42 k77).Id), .slice A91 ((gt d42 k77).Values).length c92, .int .i64 ((gt d42 k77).Born), .int .i64 ((gt d42 k77).Died)]) Try.underlying102 Try.type102 rfl rfl (hm.boxCells (n := 0) rfl)) g97 ?_
                      refine WM_callV (cl_fn cb116 rfl) (fun W hm => impl_meetInTime_c W _ (gt (gt x0.Segments k16) k41) _ (gt d42 k77) (tyVersion_mk (x := (gt (gt x0.Segments k16) k41)) (hm.rdS0 r63)) (tyVersion_mk (x := (gt d42 k77)) (hm.rdS0 r94))) (Wd_some rfl rfl rfl (bw g97 rfl)) (by decide) ?_
                      refine wv (fun W hm => rv_pickT rfl g97 rfl) ?_
                      refine nt' ?_
                      rcases Bool.eq_false_or_eq_true (impl_meetInTime_m (gt (gt x0.Segments k16) k41) (gt d42 k77)) with g99 | g99
                      ·
                        refine CM_condT rfl g99 ?_
                        refine sr ?_
                        refine wa ?_
                        refine nt' ?_
                        refine CM_ret ?_
                        refine QM_block_ret ?_
                        refine QM_then_ret ?_
                        refine QM_then_ret ?_
                        refine QM_block_ret ?_
                        refine QM_then_ret ?_
                        refine QM_block_ret ?_
                        refine QM_then_ret ?_
                        refine QM_then_ret ?_
                        refine QM_block_ret ?_
                        refine QM_block_ret ?_
                        refine QM_then_ret ?_
                        refine QM_then_ret ?_
                        refine QM_block_ret ?_
                        refine QM_then_ret ?_
                        refine QM_items (fun W hm => Mem.hide rk85 (hm.pick [1, 0, 2, 3, 4] (by decide))) ?_
                        exact QM_ret1 rfl rfl (fun W hm => ⟨ret_b (show impl_IsStore_m x0 = false from by unfold impl_IsStore_m; exact cond_t g11 (cond_t g13 (fin_inl (rng_ret (body := (fun k (s : (List DVersion)) => impl_IsStore_b1 x0 k s)) (k := k16) (s := d17) (show k16 < x0.Segments.length from by omega) (show impl_IsStore_b1 x0 k16 d17 = Sum.inl false from by unfold impl_IsStore_b1; exact cond_f g40 (fin_inl (rng_ret (body := (fun k (s : (List DVersion)) => impl_IsStore_b2 x0 k16 k s)) (k := k41) (s := d42) (show k41 < ((gt x0.Segments k16)).length from by omega) (show impl_IsStore_b2 x0 k16 k41 d42 = Sum.inl false from by unfold impl_IsStore_b2; exact cond_t g72 (cond_t g74 (cond_f g76 (fin_inl (rng_ret (body := (fun k (_ : Unit) => impl_IsStore_b3 x0 k16 k41 d42 k)) (k := k77) (s := ()) (show k77 < d42.length from by omega) (show impl_IsStore_b3 x0 k16 k41 d42 k77 = Sum.inl false from by unfold impl_IsStore_b3; exact cond_t g97 (cond_t g99 (rfl))) hF79) rfl)))) hF46) rfl)) hF21) rfl))), hm.below⟩)
                      ·
                        refine CM_condF rfl g99 ?_
                        refine CM_skip ?_
                        refine QM_block_normal ?_
                        refine QM_then ?_
                        refine CM_region ?_
                        refine wv (fun W hm => rv_addN (p := k77) (q := 1) rfl rfl (by omega)) ?_
                        refine wm ?_
                        refine WM_nil ?_
                        refine QM_items (fun W hm => Mem.hide rk85 (hm.pick [1, 0, 2, 3, 4] (by decide))) ?_
                        have hn100 := rng_next (R := Bool) (body := (fun k (_ : Unit) => impl_IsStore_b3 x0 k16 k41 d42 k)) (k := k77) (s := ()) (s' := ()) (show k77 < d42.length from by omega) (show impl_IsStore_b3 x0 k16 k41 d42 k77 = Sum.inr () from by unfold impl_IsStore_b3; exact cond_t g97 (cond_f g99 (rfl))) hF79
                        exact QM_round (k77 + 1, (), ()) (subL_cons rfl (subL_cons rfl (subL_cons rfl (subL_cons rfl (subL_cons rfl (subL_cons rfl (subL_cons rfl (subL_cons rfl (subL_cons rfl (subL_cons rfl (subL_cons rfl (subL_cons rfl subL_nil)))))))))))) (fun W hm => (hm.pick [2, 3, 0, 4] (by decide))) ⟨(by omega), hn100⟩ (show d42.length - (k77 + 1) < d42.length - k77 from by omega)
                    · have g97 : (((gt (gt x0.Segments k16) k41).Id) == ((gt d42 k77).Id)) = false := beq_eq_false_iff_ne.2 h96
                      refine ws g97 ?_
                      refine ws g97 ?_
                      refine ws g97 ?_
                      refine wv (fun W hm => rv_pickF rfl g97 rfl) ?_
                      refine nt' ?_
                      refine CM_condF rfl rfl ?_
                      refine CM_skip ?_
                      refine QM_block_normal ?_
                      refine QM_then ?_
                      refine CM_region ?_
                      refine wv (fun W hm => rv_addN (p := k77) (q := 1) rfl rfl (by omega)) ?_
                      refine wm ?_
                      refine WM_nil ?_
                      refine QM_items (fun W hm => Mem.hide rk85 (hm.pick [1, 0, 2, 3, 4] (by decide))) ?_
                      have hn101 := rng_next (R := Bool) (body := (fun k (_ : Unit) => impl_IsStore_b3 x0 k16 k41 d42 k)) (k := k77) (s := ()) (s' := ()) (show k77 < d42.length from by omega) (show impl_IsStore_b3 x0 k16 k41 d42 k77 = Sum.inr () from by unfold impl_IsStore_b3; exact cond_f g97 (rfl)) hF79
                      exact QM_round (k77 + 1, (), ()) (subL_cons rfl (subL_cons rfl (subL_cons rfl (subL_cons rfl (subL_cons rfl (subL_cons rfl (subL_cons rfl (subL_cons rfl (subL_cons rfl (subL_cons rfl (subL_cons rfl (subL_cons rfl subL_nil)))))))))))) (fun W hm => (hm.pick [2, 3, 0, 4] (by decide))) ⟨(by omega), hn101⟩ (show d42.length - (k77 + 1) < d42.length - k77 from by omega)
                  · have g82 : (decide (((k77 : Nat) : Int) < ((d42.length : Nat) : Int))) = false := decide_eq_false (by omega)
                    refine CM_condF rfl g82 ?_
                    refine CM_exit ?_
                    refine QM_then_exit ?_
                    refine QM_then_exit ?_
                    have hE102 : rng (R := Bool) (fun k (_ : Unit) => impl_IsStore_b3 x0 k16 k41 d42 k) (d42.length - 0) 0 () = Sum.inr () := rng_end hl81 hF79
                    refine QM_block_hit ?_
                    refine QM_then ?_
                    refine CM_region ?_
                    refine wm ?_
                    refine wv (fun W hm => rv_loadN (cs := [.int .i64 ((gt (gt x0.Segments k16) k41).Id), .slice A60 ((gt (gt x0.Segments k16) k41).Values).length c61, .int .i64 ((gt (gt x0.Segments k16) k41).Born), .int .i64 ((gt (gt x0.Segments k16) k41).Died)]) Try.underlying102 Try.type102 rfl rfl (hm.boxCells (n := 1) rfl)) ?_
                    refine WM_build (cs := [.int .i64 ((gt (gt x0.Segments k16) k41).Id), .slice A60 ((gt (gt x0.Segments k16) k41).Values).length c61, .int .i64 ((gt (gt x0.Segments k16) k41).Born), .int .i64 ((gt (gt x0.Segments k16) k41).Died)]) Try.underlying100 Try.type102 rfl (by decide) (by decide) rfl (by kernel_rfl) (Wd_none rfl) (by decide) (fun p103 => ?_)
                    refine WM_append (E := (tBor tyVersion w w.heap.size)) (e := 102) (v := .slice A43 d42.length c44) (p := p103) (q := 1) (xs := d42) (ys := [(gt (gt x0.Segments k16) k41)]) (eis := []) (js := [iOwn (tSl tInt 3) [.slice A67 ((impl_rowOf_m (gt (gt x0.Segments k16) k41)).Values).length c68] ((impl_rowOf_m (gt (gt x0.Segments k16) k41)).Values), iBox p64 102 [.int .i64 ((gt (gt x0.Segments k16) k41).Id), .slice A60 ((gt (gt x0.Segments k16) k41).Values).length c61, .int .i64 ((gt (gt x0.Segments k16) k41).Born), .int .i64 ((gt (gt x0.Segments k16) k41).Died)], iBox p9 45 [.slice (some a26) x0.Segments.length c5, .int .i64 x0.Now]]) (news := [.int .i64 ((gt (gt x0.Segments k16) k41).Id), .slice A60 ((gt (gt x0.Segments k16) k41).Values).length c61, .int .i64 ((gt (gt x0.Segments k16) k41).Born), .int .i64 ((gt (gt x0.Segments k16) k41).Died)]) (fun W hm => (hm.pick [0, 3, 1, 2, 4] (by decide))) (fun _ _ hs => by cases (Sep.nil hs); exact (els_cons (E := (tBor tyVersion w w.heap.size)) (L1 := []) ⟨rfl, (tyVersion_mk r63)⟩ els_nil)) Try.underlying100 Try.type102 rfl rfl rfl (Nat.le_of_ble_eq_true rfl) rfl rfl rfl (show (d42.length + 1) * 48 ≤ 140737488355328 from by omega) (show d42.length + 1 ≤ 9223372036854775807 from by omega) (Wd_none rfl) (by decide) (fun v104 => ?_)
                    refine WM_form (n := 0) rfl ?_
                    rintro A105 c106 rfl m107
                    refine wa ?_
                    refine WM_nil ?_
                    refine QM_block_normal ?_
                    refine QM_then ?_
                    refine CM_region ?_
                    refine wv (fun W hm => rv_addN (p := k41) (q := 1) rfl rfl (by omega)) ?_
                    refine wm ?_
                    refine WM_nil ?_
                    have hn109 := rng_next (R := Bool) (body := (fun k (s : (List DVersion)) => impl_IsStore_b2 x0 k16 k s)) (k := k41) (s := d42) (s' := (d42 ++ [(gt (gt x0.Segments k16) k41)])) (show k41 < ((gt x0.Segments k16)).length from by omega) (show impl_IsStore_b2 x0 k16 k41 d42 = Sum.inr (d42 ++ [(gt (gt x0.Segments k16) k41)]) from by unfold impl_IsStore_b2; exact cond_t g72 (cond_t g74 (cond_f g76 (fin_inr hE102 (rfl))))) hF46
                    exact QM_round (k41 + 1, (d42 ++ [(gt (gt x0.Segments k16) k41)]), (A105, c106)) (subL_cons rfl (subL_cons rfl (subL_cons rfl (subL_cons rfl (subL_cons rfl (subL_cons rfl (subL_cons rfl (subL_cons rfl subL_nil)))))))) (fun W hm => (hm.pick [0, 3] (by decide))) ⟨(by omega), hn109, (show (d42 ++ [(gt (gt x0.Segments k16) k41)]).length ≤ d17.length + (k41 + 1) from by first | omega | (simp only [List.length_append, List.length_cons, List.length_nil] at *; omega))⟩ (show ((gt x0.Segments k16)).length - (k41 + 1) < ((gt x0.Segments k16)).length - k41 from by omega)
                · have g76 : (((gt (gt x0.Segments k16) k41).Died) != (-1)) = true := bne_iff_ne.2 h75
                  refine wg (fun W hm => rv_field Try.underlying102 rfl Try.type3 (by decide) rfl rfl) g76 ?_
                  refine wg (fun W hm => rv_load Try.underlying3 rfl rfl (hm.boxCell (n := 1) (o := 3) rfl rfl)) g76 ?_
                  refine wg (fun W hm => rv_field Try.underlying102 rfl Try.type3 (by decide) rfl rfl) g76 ?_
                  refine wg (fun W hm => rv_load Try.underlying3 rfl rfl (hm.boxCell (n := 1) (o := 2) rfl rfl)) g76 ?_
                  refine wg (fun W hm => rv_add rfl rfl) g76 ?_
                  refine wg (fun W hm => rv_field Try.underlying45 rfl Try.type3 (by decide) rfl rfl) g76 ?_
                  refine wg (fun W hm => rv_load Try.underlying3 rfl rfl (hm.boxCell (n := 3) (o := 1) rfl rfl)) g76 ?_
                  refine WM_callV (cl_fn cb114 rfl) (fun W hm => impl_within_c W ((gt (gt x0.Segments k16) k41).Died) (IntKind.i64.wrap (((gt (gt x0.Segments k16) k41).Born) + 1)) x0.Now) (Wd_some rfl rfl rfl (bw g76 rfl)) (by decide) ?_
                  refine wg (fun W hm => rv_not rfl) g76 ?_
                  refine wg (fun W hm => rv_pickT rfl g76 rfl) (nt g74) ?_
                  refine wv (fun W hm => rv_pickF rfl (nt g74) rfl) ?_
                  refine nt' ?_
                  rcases Bool.eq_false_or_eq_true (impl_within_m ((gt (gt x0.Segments k16) k41).Died) (IntKind.i64.wrap (((gt (gt x0.Segments k16) k41).Born) + 1)) x0.Now) with g111 | g111
                  ·
                    have hw := impl_within_fact g111
                    refine CM_condF rfl (nt g111) ?_
                    refine CM_skip ?_
                    refine QM_then ?_
                    refine CM_seq ?_
                    refine sr ?_
                    refine wm ?_
                    refine wv (fun W hm => rv_len Try.underlying100 rfl) ?_
                    refine wm ?_
                    refine nt' ?_
                    refine CM_block ?_
                    refine CM_loop (σ := Nat × (Unit) × (Unit)) (fun s => [(1, .pointer (some (⟨p9, 0, none⟩ : Addr))), (3, .slice A43 d42.length c44), (7, .pointer (some (⟨p64, 0, none⟩ : Addr))), (23, .slice (some a26) x0.Segments.length c5), (24, .int .i64 ((x0.Segments.length : Nat) : Int)), (25, .int .i64 ((k16 : Nat) : Int)), (32, .slice (some a51) ((gt x0.Segments k16)).length c36), (33, .int .i64 ((((gt x0.Segments k16)).length : Nat) : Int)), (34, .int .i64 ((k41 : Nat) : Int)), (66, .slice A43 d42.length c44), (67, .int .i64 ((d42.length : Nat) : Int)), (68, .int .i64 ((s.1 : Nat) : Int))]) (fun s => [iOwn (tSl tInt 3) [.slice A67 ((impl_rowOf_m (gt (gt x0.Segments k16) k41)).Values).length c68] ((impl_rowOf_m (gt (gt x0.Segments k16) k41)).Values), iBox p64 102 [.int .i64 ((gt (gt x0.Segments k16) k41).Id), .slice A60 ((gt (gt x0.Segments k16) k41).Values).length c61, .int .i64 ((gt (gt x0.Segments k16) k41).Born), .int .i64 ((gt (gt x0.Segments k16) k41).Died)], iOwn (tSl (tBor tyVersion w w.heap.size) 102) [.slice A43 d42.length c44] d42, iBox p9 45 [.slice (some a26) x0.Segments.length c5, .int .i64 x0.Now]]) (fun s => s.1 ≤ d42.length ∧ rng (R := Bool) (fun k (_ : Unit) => impl_IsStore_b4 x0 k16 k41 d42 k) (d42.length - s.1) s.1 s.2.1 = rng (R := Bool) (fun k (_ : Unit) => impl_IsStore_b4 x0 k16 k41 d42 k) (d42.length - 0) 0 ()) (fun s => d42.length - s.1) (0, (), ()) (subL_cons rfl (subL_cons rfl (subL_cons rfl (subL_cons rfl (subL_cons rfl (subL_cons rfl (subL_cons rfl (subL_cons rfl (subL_cons rfl (subL_cons rfl (subL_cons rfl (subL_cons rfl subL_nil)))))))))))) (fun W hm => hm) ⟨(by omega), rfl⟩ ?_
                    rintro ⟨k112, ⟨⟩, ⟨⟩⟩ H115
                    obtain ⟨hk113, hF114⟩ : k112 ≤ d42.length ∧ rng (R := Bool) (fun k (_ : Unit) => impl_IsStore_b4 x0 k16 k41 d42 k) (d42.length - k112) k112 () = rng (R := Bool) (fun k (_ : Unit) => impl_IsStore_b4 x0 k16 k41 d42 k) (d42.length - 0) 0 () := H115
                    show CM Try.prog 89 _ _ _ _ [(1, .pointer (some (⟨p9, 0, none⟩ : Addr))), (3, .slice A43 d42.length c44), (7, .pointer (some (⟨p64, 0, none⟩ : Addr))), (23, .slice (some a26) x0.Segments.length c5), (24, .int .i64 ((x0.Segments.length : Nat) : Int)), (25, .int .i64 ((k16 : Nat) : Int)), (32, .slice (some a51) ((gt x0.Segments k16)).length c36), (33, .int .i64 ((((gt x0.Segments k16)).length : Nat) : Int)), (34, .int .i64 ((k41 : Nat) : Int)), (66, .slice A43 d42.length c44), (67, .int .i64 ((d42.length : Nat) : Int)), (68, .int .i64 ((k112 : Nat) : Int))] [iOwn (tSl tInt 3) [.slice A67 ((impl_rowOf_m (gt (gt x0.Segments k16) k41)).Values).length c68] ((impl_rowOf_m (gt (gt x0.Segments k16) k41)).Values), iBox p64 102 [.int .i64 ((gt (gt x0.Segments k16) k41).Id), .slice A60 ((gt (gt x0.Segments k16) k41).Values).length c61, .int .i64 ((gt (gt x0.Segments k16) k41).Born), .int .i64 ((gt (gt x0.Segments k16) k41).Died)], iOwn (tSl (tBor tyVersion w w.heap.size) 102) [.slice A43 d42.length c44] d42, iBox p9 45 [.slice (some a26) x0.Segments.length c5, .int .i64 x0.Now]]
                    refine sr ?_
                    refine wv (fun W hm => rv_lss rfl rfl) ?_
                    refine nt' ?_
                    refine CM_seq ?_
                    by_cases hl116 : k112 < d42.length
                    · have g117 : (decide (((k112 : Nat) : Int) < ((d42.length : Nat) : Int))) = true := decide_eq_true (by omega)
                      refine CM_condT rfl g117 ?_
                      refine CM_skip ?_
                      refine QM_then ?_
                      refine CM_seq ?_
                      refine CM_block ?_
                      refine sr ?_
                      refine WM_formO (n := 2) rfl (by omega) ?_
                      rintro g118 rfl
                      refine wv (fun W hm => rv_index (sz := 4) (k := k112) Try.underlying100 Try.type102 rfl rfl rfl (by omega)) ?_
                      refine WM_expose (T := tyVersion) (wb := w) (Bb := w.heap.size) (e := 102) (g := g118) (n := d42.length) (c := c44) (xs := d42) (js := [iOwn (tSl tInt 3) [.slice A67 ((impl_rowOf_m (gt (gt x0.Segments k16) k41)).Values).length c68] ((impl_rowOf_m (gt (gt x0.Segments k16) k41)).Values), iBox p64 102 [.int .i64 ((gt (gt x0.Segments k16) k41).Id), .slice A60 ((gt (gt x0.Segments k16) k41).Values).length c61, .int .i64 ((gt (gt x0.Segments k16) k41).Born), .int .i64 ((gt (gt x0.Segments k16) k41).Died)], iBox p9 45 [.slice (some a26) x0.Segments.length c5, .int .i64 x0.Now]]) (fun W hm => (hm.pick [2, 0, 1, 3] (by decide))) ?_
                      rintro ck119 rk120
                      obtain ⟨_, e121, hc122⟩ := rk120.get (j := k112) (by omega)
                      obtain ⟨v123, rfl, r124⟩ := tyVersion_rd e121
                      have r129 := r124
                      obtain ⟨m125, A126, c127, rfl, q128⟩ := r124
                      refine wv (fun W hm => rv_loadN (cs := [.int .i64 ((gt d42 k112).Id), .slice A126 ((gt d42 k112).Values).length c127, .int .i64 ((gt d42 k112).Born), .int .i64 ((gt d42 k112).Died)]) Try.underlying102 Try.type102 rfl rfl (hm.rowCells (i := 0) rfl hc122)) ?_
                      refine WM_alloc Try.type102 rfl (Wd_none rfl) (by decide) (fun p130 => ?_)
                      refine WM_storeBox (p := p130) (o := 0) (cs := [.int .i64 0, .slice none 0 0, .int .i64 0, .int .i64 0]) (cs' := [.int .i64 ((gt d42 k112).Id), .slice A126 ((gt d42 k112).Values).length c127, .int .i64 ((gt d42 k112).Born), .int .i64 ((gt d42 k112).Died)]) (js := [iBox g118 102 ck119, iOwn (tSl tInt 3) [.slice A67 ((impl_rowOf_m (gt (gt x0.Segments k16) k41)).Values).length c68] ((impl_rowOf_m (gt (gt x0.Segments k16) k41)).Values), iBox p64 102 [.int .i64 ((gt (gt x0.Segments k16) k41).Id), .slice A60 ((gt (gt x0.Segments k16) k41).Values).length c61, .int .i64 ((gt (gt x0.Segments k16) k41).Born), .int .i64 ((gt (gt x0.Segments k16) k41).Died)], iBox p9 45 [.slice (some a26) x0.Segments.length c5, .int .i64 x0.Now]]) (fun W hm => hm) Try.type102 rfl (Nat.le_of_ble_eq_true rfl) rfl rfl rfl rfl (Wd_none rfl) ?_
                      refine nt' ?_
                      refine sr ?_
                      refine wv (fun W hm => rv_field Try.underlying102 rfl Try.type3 (by decide) rfl rfl) ?_
                      refine wv (fun W hm => rv_load Try.underlying3 rfl rfl (hm.boxCell (n := 3) (o := 0) rfl rfl)) ?_
                      refine wv (fun W hm => rv_field Try.underlying102 rfl Try.type3 (by decide) rfl rfl) ?_
                      refine wv (fun W hm => rv_load Try.underlying3 rfl rfl (hm.boxCell (n := 0) (o := 0) rfl rfl)) ?_
                      refine wv (fun W hm => rv_eql rfl rfl) ?_
                      refine wm ?_
                      by_cases h131 : ((gt (gt x0.Segments k16) k41).Id) = ((gt d42 k112).Id)
                      · have g132 : (((gt (gt x0.Segments k16) k41).Id) == ((gt d42 k112).Id)) = true := beq_iff_eq.2 h131
                        refine wg (fun W hm => rv_loadN (cs := [.int .i64 ((gt (gt x0.Segments k16) k41).Id), .slice A60 ((gt (gt x0.Segments k16) k41).Values).length c61, .int .i64 ((gt (gt x0.Segments k16) k41).Born), .int .i64 ((gt (gt x0.Segments k16) k41).Died)]) Try.underlying102 Try.type102 rfl rfl (hm.boxCells (n := 3) rfl)) g132 ?_
                        refine wg (fun W hm => rv_loadN (cs := [.int .i64 ((gt d42 k112).Id), .slice A126 ((gt d42 k112).Values).length c127, .int .i64 ((gt d42 k112).Born), .int .i64 ((gt d42 k112).Died)]) Try.underlying102 Try.type102 rfl rfl (hm.boxCells (n := 0) rfl)) g132 ?_
                        refine WM_callV (cl_fn cb116 rfl) (fun W hm => impl_meetInTime_c W _ (gt (gt x0.Segments k16) k41) _ (gt d42 k112) (tyVersion_mk (x := (gt (gt x0.Segments k16) k41)) (hm.rdS0 r63)) (tyVersion_mk (x := (gt d42 k112)) (hm.rdS0 r129))) (Wd_some rfl rfl rfl (bw g132 rfl)) (by decide) ?_
                        refine wv (fun W hm => rv_pickT rfl g132 rfl) ?_
                        refine nt' ?_
                        rcases Bool.eq_false_or_eq_true (impl_meetInTime_m (gt (gt x0.Segments k16) k41) (gt d42 k112)) with g134 | g134
                        ·
                          refine CM_condT rfl g134 ?_
                          refine sr ?_
                          refine wa ?_
                          refine nt' ?_
                          refine CM_ret ?_
                          refine QM_block_ret ?_
                          refine QM_then_ret ?_
                          refine QM_then_ret ?_
                          refine QM_block_ret ?_
                          refine QM_then_ret ?_
                          refine QM_block_ret ?_
                          refine QM_then_ret ?_
                          refine QM_then_ret ?_
                          refine QM_block_ret ?_
                          refine QM_block_ret ?_
                          refine QM_then_ret ?_
                          refine QM_then_ret ?_
                          refine QM_block_ret ?_
                          refine QM_then_ret ?_
                          refine QM_items (fun W hm => Mem.hide rk120 (hm.pick [1, 0, 2, 3, 4] (by decide))) ?_
                          exact QM_ret1 rfl rfl (fun W hm => ⟨ret_b (show impl_IsStore_m x0 = false from by unfold impl_IsStore_m; exact cond_t g11 (cond_t g13 (fin_inl (rng_ret (body := (fun k (s : (List DVersion)) => impl_IsStore_b1 x0 k s)) (k := k16) (s := d17) (show k16 < x0.Segments.length from by omega) (show impl_IsStore_b1 x0 k16 d17 = Sum.inl false from by unfold impl_IsStore_b1; exact cond_f g40 (fin_inl (rng_ret (body := (fun k (s : (List DVersion)) => impl_IsStore_b2 x0 k16 k s)) (k := k41) (s := d42) (show k41 < ((gt x0.Segments k16)).length from by omega) (show impl_IsStore_b2 x0 k16 k41 d42 = Sum.inl false from by unfold impl_IsStore_b2; exact cond_t g72 (cond_t g74 (cond_t g76 (cond_t g111 (fin_inl (rng_ret (body := (fun k (_ : Unit) => impl_IsStore_b4 x0 k16 k41 d42 k)) (k := k112) (s := ()) (show k112 < d42.length from by omega) (show impl_IsStore_b4 x0 k16 k41 d42 k112 = Sum.inl false from by unfold impl_IsStore_b4; exact cond_t g132 (cond_t g134 (rfl))) hF114) rfl))))) hF46) rfl)) hF21) rfl))), hm.below⟩)
                        ·
                          refine CM_condF rfl g134 ?_
                          refine CM_skip ?_
                          refine QM_block_normal ?_
                          refine QM_then ?_
                          refine CM_region ?_
                          refine wv (fun W hm => rv_addN (p := k112) (q := 1) rfl rfl (by omega)) ?_
                          refine wm ?_
                          refine WM_nil ?_
                          refine QM_items (fun W hm => Mem.hide rk120 (hm.pick [1, 0, 2, 3, 4] (by decide))) ?_
                          have hn135 := rng_next (R := Bool) (body := (fun k (_ : Unit) => impl_IsStore_b4 x0 k16 k41 d42 k)) (k := k112) (s := ()) (s' := ()) (show k112 < d42.length from by omega) (show impl_IsStore_b4 x0 k16 k41 d42 k112 = Sum.inr () from by unfold impl_IsStore_b4; exact cond_t g132 (cond_f g134 (rfl))) hF114
                          exact QM_round (k112 + 1, (), ()) (subL_cons rfl (subL_cons rfl (subL_cons rfl (subL_cons rfl (subL_cons rfl (subL_cons rfl (subL_cons rfl (subL_cons rfl (subL_cons rfl (subL_cons rfl (subL_cons rfl (subL_cons rfl subL_nil)))))))))))) (fun W hm => (hm.pick [2, 3, 0, 4] (by decide))) ⟨(by omega), hn135⟩ (show d42.length - (k112 + 1) < d42.length - k112 from by omega)
                      · have g132 : (((gt (gt x0.Segments k16) k41).Id) == ((gt d42 k112).Id)) = false := beq_eq_false_iff_ne.2 h131
                        refine ws g132 ?_
                        refine ws g132 ?_
                        refine ws g132 ?_
                        refine wv (fun W hm => rv_pickF rfl g132 rfl) ?_
                        refine nt' ?_
                        refine CM_condF rfl rfl ?_
                        refine CM_skip ?_
                        refine QM_block_normal ?_
                        refine QM_then ?_
                        refine CM_region ?_
                        refine wv (fun W hm => rv_addN (p := k112) (q := 1) rfl rfl (by omega)) ?_
                        refine wm ?_
                        refine WM_nil ?_
                        refine QM_items (fun W hm => Mem.hide rk120 (hm.pick [1, 0, 2, 3, 4] (by decide))) ?_
                        have hn136 := rng_next (R := Bool) (body := (fun k (_ : Unit) => impl_IsStore_b4 x0 k16 k41 d42 k)) (k := k112) (s := ()) (s' := ()) (show k112 < d42.length from by omega) (show impl_IsStore_b4 x0 k16 k41 d42 k112 = Sum.inr () from by unfold impl_IsStore_b4; exact cond_f g132 (rfl)) hF114
                        exact QM_round (k112 + 1, (), ()) (subL_cons rfl (subL_cons rfl (subL_cons rfl (subL_cons rfl (subL_cons rfl (subL_cons rfl (subL_cons rfl (subL_cons rfl (subL_cons rfl (subL_cons rfl (subL_cons rfl (subL_cons rfl subL_nil)))))))))))) (fun W hm => (hm.pick [2, 3, 0, 4] (by decide))) ⟨(by omega), hn136⟩ (show d42.length - (k112 + 1) < d42.length - k112 from by omega)
                    · have g117 : (decide (((k112 : Nat) : Int) < ((d42.length : Nat) : Int))) = false := decide_eq_false (by omega)
                      refine CM_condF rfl g117 ?_
                      refine CM_exit ?_
                      refine QM_then_exit ?_
                      refine QM_then_exit ?_
                      have hE137 : rng (R := Bool) (fun k (_ : Unit) => impl_IsStore_b4 x0 k16 k41 d42 k) (d42.length - 0) 0 () = Sum.inr () := rng_end hl116 hF114
                      refine QM_block_hit ?_
                      refine QM_then ?_
                      refine CM_region ?_
                      refine wm ?_
                      refine wv (fun W hm => rv_loadN (cs := [.int .i64 ((gt (gt x0.Segments k16) k41).Id), .slice A60 ((gt (gt x0.Segments k16) k41).Values).length c61, .int .i64 ((gt (gt x0.Segments k16) k41).Born), .int .i64 ((gt (gt x0.Segments k16) k41).Died)]) Try.underlying102 Try.type102 rfl rfl (hm.boxCells (n := 1) rfl)) ?_
                      refine WM_build (cs := [.int .i64 ((gt (gt x0.Segments k16) k41).Id), .slice A60 ((gt (gt x0.Segments k16) k41).Values).length c61, .int .i64 ((gt (gt x0.Segments k16) k41).Born), .int .i64 ((gt (gt x0.Segments k16) k41).Died)]) Try.underlying100 Try.type102 rfl (by decide) (by decide) rfl (by kernel_rfl) (Wd_none rfl) (by decide) (fun p138 => ?_)
                      refine WM_append (E := (tBor tyVersion w w.heap.size)) (e := 102) (v := .slice A43 d42.length c44) (p := p138) (q := 1) (xs := d42) (ys := [(gt (gt x0.Segments k16) k41)]) (eis := []) (js := [iOwn (tSl tInt 3) [.slice A67 ((impl_rowOf_m (gt (gt x0.Segments k16) k41)).Values).length c68] ((impl_rowOf_m (gt (gt x0.Segments k16) k41)).Values), iBox p64 102 [.int .i64 ((gt (gt x0.Segments k16) k41).Id), .slice A60 ((gt (gt x0.Segments k16) k41).Values).length c61, .int .i64 ((gt (gt x0.Segments k16) k41).Born), .int .i64 ((gt (gt x0.Segments k16) k41).Died)], iBox p9 45 [.slice (some a26) x0.Segments.length c5, .int .i64 x0.Now]]) (news := [.int .i64 ((gt (gt x0.Segments k16) k41).Id), .slice A60 ((gt (gt x0.Segments k16) k41).Values).length c61, .int .i64 ((gt (gt x0.Segments k16) k41).Born), .int .i64 ((gt (gt x0.Segments k16) k41).Died)]) (fun W hm => (hm.pick [0, 3, 1, 2, 4] (by decide))) (fun _ _ hs => by cases (Sep.nil hs); exact (els_cons (E := (tBor tyVersion w w.heap.size)) (L1 := []) ⟨rfl, (tyVersion_mk r63)⟩ els_nil)) Try.underlying100 Try.type102 rfl rfl rfl (Nat.le_of_ble_eq_true rfl) rfl rfl rfl (show (d42.length + 1) * 48 ≤ 140737488355328 from by omega) (show d42.length + 1 ≤ 9223372036854775807 from by omega) (Wd_none rfl) (by decide) (fun v139 => ?_)
                      refine WM_form (n := 0) rfl ?_
                      rintro A140 c141 rfl m142
                      refine wa ?_
                      refine WM_nil ?_
                      refine QM_block_normal ?_
                      refine QM_then ?_
                      refine CM_region ?_
                      refine wv (fun W hm => rv_addN (p := k41) (q := 1) rfl rfl (by omega)) ?_
                      refine wm ?_
                      refine WM_nil ?_
                      have hn144 := rng_next (R := Bool) (body := (fun k (s : (List DVersion)) => impl_IsStore_b2 x0 k16 k s)) (k := k41) (s := d42) (s' := (d42 ++ [(gt (gt x0.Segments k16) k41)])) (show k41 < ((gt x0.Segments k16)).length from by omega) (show impl_IsStore_b2 x0 k16 k41 d42 = Sum.inr (d42 ++ [(gt (gt x0.Segments k16) k41)]) from by unfold impl_IsStore_b2; exact cond_t g72 (cond_t g74 (cond_t g76 (cond_t g111 (fin_inr hE137 (rfl)))))) hF46
                      exact QM_round (k41 + 1, (d42 ++ [(gt (gt x0.Segments k16) k41)]), (A140, c141)) (subL_cons rfl (subL_cons rfl (subL_cons rfl (subL_cons rfl (subL_cons rfl (subL_cons rfl (subL_cons rfl (subL_cons rfl subL_nil)))))))) (fun W hm => (hm.pick [0, 3] (by decide))) ⟨(by omega), hn144, (show (d42 ++ [(gt (gt x0.Segments k16) k41)]).length ≤ d17.length + (k41 + 1) from by first | omega | (simp only [List.length_append, List.length_cons, List.length_nil] at *; omega))⟩ (show ((gt x0.Segments k16)).length - (k41 + 1) < ((gt x0.Segments k16)).length - k41 from by omega)
                  ·
                    refine CM_condT rfl (nf g111) ?_
                    refine sr ?_
                    refine wa ?_
                    refine nt' ?_
                    refine CM_ret ?_
                    refine QM_then_ret ?_
                    refine QM_block_ret ?_
                    refine QM_then_ret ?_
                    refine QM_then_ret ?_
                    refine QM_block_ret ?_
                    refine QM_block_ret ?_
                    refine QM_then_ret ?_
                    refine QM_then_ret ?_
                    refine QM_block_ret ?_
                    refine QM_then_ret ?_
                    exact QM_ret1 rfl rfl (fun W hm => ⟨ret_b (show impl_IsStore_m x0 = false from by unfold impl_IsStore_m; exact cond_t g11 (cond_t g13 (fin_inl (rng_ret (body := (fun k (s : (List DVersion)) => impl_IsStore_b1 x0 k s)) (k := k16) (s := d17) (show k16 < x0.Segments.length from by omega) (show impl_IsStore_b1 x0 k16 d17 = Sum.inl false from by unfold impl_IsStore_b1; exact cond_f g40 (fin_inl (rng_ret (body := (fun k (s : (List DVersion)) => impl_IsStore_b2 x0 k16 k s)) (k := k41) (s := d42) (show k41 < ((gt x0.Segments k16)).length from by omega) (show impl_IsStore_b2 x0 k16 k41 d42 = Sum.inl false from by unfold impl_IsStore_b2; exact cond_t g72 (cond_t g74 (cond_t g76 (cond_f g111 (rfl))))) hF46) rfl)) hF21) rfl))), hm.below⟩)
              ·
                refine ws (nf g74) ?_
                refine ws (nf g74) ?_
                refine ws (nf g74) ?_
                refine ws (nf g74) ?_
                refine wu ?_
                refine wu ?_
                refine wu ?_
                refine wu ?_
                refine wu ?_
                refine wu ?_
                refine wu ?_
                refine wu ?_
                refine wu ?_
                refine ws (nf g74) ?_
                refine wv (fun W hm => rv_pickT rfl (nf g74) rfl) ?_
                refine nt' ?_
                refine CM_condT rfl rfl ?_
                refine sr ?_
                refine wa ?_
                refine nt' ?_
                refine CM_ret ?_
                refine QM_then_ret ?_
                refine QM_block_ret ?_
                refine QM_then_ret ?_
                refine QM_then_ret ?_
                refine QM_block_ret ?_
                refine QM_block_ret ?_
                refine QM_then_ret ?_
                refine QM_then_ret ?_
                refine QM_block_ret ?_
                refine QM_then_ret ?_
                exact QM_ret1 rfl rfl (fun W hm => ⟨ret_b (show impl_IsStore_m x0 = false from by unfold impl_IsStore_m; exact cond_t g11 (cond_t g13 (fin_inl (rng_ret (body := (fun k (s : (List DVersion)) => impl_IsStore_b1 x0 k s)) (k := k16) (s := d17) (show k16 < x0.Segments.length from by omega) (show impl_IsStore_b1 x0 k16 d17 = Sum.inl false from by unfold impl_IsStore_b1; exact cond_f g40 (fin_inl (rng_ret (body := (fun k (s : (List DVersion)) => impl_IsStore_b2 x0 k16 k s)) (k := k41) (s := d42) (show k41 < ((gt x0.Segments k16)).length from by omega) (show impl_IsStore_b2 x0 k16 k41 d42 = Sum.inl false from by unfold impl_IsStore_b2; exact cond_t g72 (cond_f g74 (rfl))) hF46) rfl)) hF21) rfl))), hm.below⟩)
            ·
              refine ws (nf g72) ?_
              refine ws (nf g72) ?_
              refine ws (nf g72) ?_
              refine ws (nf g72) ?_
              refine ws (nf g72) ?_
              refine ws (nf g72) ?_
              refine wv (fun W hm => rv_pickT rfl (nf g72) rfl) ?_
              refine wm ?_
              refine WM_skip (Wd_some rfl rfl rfl rfl) rfl (by decide) ?_
              refine WM_skip (Wd_some rfl rfl rfl rfl) rfl (by decide) ?_
              refine WM_skip (Wd_some rfl rfl rfl rfl) rfl (by decide) ?_
              refine WM_skip (Wd_some rfl rfl rfl rfl) rfl (by decide) ?_
              refine wu ?_
              refine wu ?_
              refine wu ?_
              refine wu ?_
              refine wu ?_
              refine wu ?_
              refine wu ?_
              refine wu ?_
              refine wu ?_
              refine WM_skip (Wd_some rfl rfl rfl rfl) rfl (by decide) ?_
              refine wv (fun W hm => rv_pickT rfl rfl rfl) ?_
              refine nt' ?_
              refine CM_condT rfl rfl ?_
              refine sr ?_
              refine wa ?_
              refine nt' ?_
              refine CM_ret ?_
              refine QM_then_ret ?_
              refine QM_block_ret ?_
              refine QM_then_ret ?_
              refine QM_then_ret ?_
              refine QM_block_ret ?_
              refine QM_block_ret ?_
              refine QM_then_ret ?_
              refine QM_then_ret ?_
              refine QM_block_ret ?_
              refine QM_then_ret ?_
              exact QM_ret1 rfl rfl (fun W hm => ⟨ret_b (show impl_IsStore_m x0 = false from by unfold impl_IsStore_m; exact cond_t g11 (cond_t g13 (fin_inl (rng_ret (body := (fun k (s : (List DVersion)) => impl_IsStore_b1 x0 k s)) (k := k16) (s := d17) (show k16 < x0.Segments.length from by omega) (show impl_IsStore_b1 x0 k16 d17 = Sum.inl false from by unfold impl_IsStore_b1; exact cond_f g40 (fin_inl (rng_ret (body := (fun k (s : (List DVersion)) => impl_IsStore_b2 x0 k16 k s)) (k := k41) (s := d42) (show k41 < ((gt x0.Segments k16)).length from by omega) (show impl_IsStore_b2 x0 k16 k41 d42 = Sum.inl false from by unfold impl_IsStore_b2; exact cond_f g72 (rfl)) hF46) rfl)) hF21) rfl))), hm.below⟩)
          · have g50 : (decide (((k41 : Nat) : Int) < ((((gt x0.Segments k16)).length : Nat) : Int))) = false := decide_eq_false (by omega)
            refine CM_condF rfl g50 ?_
            refine CM_exit ?_
            refine QM_then_exit ?_
            refine QM_then_exit ?_
            have hE145 : rng (R := Bool) (fun k (s : (List DVersion)) => impl_IsStore_b2 x0 k16 k s) (((gt x0.Segments k16)).length - 0) 0 d17 = Sum.inr d42 := rng_end hl49 hF46
            refine QM_block_hit ?_
            refine QM_block_normal ?_
            refine QM_then ?_
            refine CM_region ?_
            refine wv (fun W hm => rv_addN (p := k16) (q := 1) rfl rfl (by omega)) ?_
            refine wm ?_
            refine WM_nil ?_
            have hn146 := rng_next (R := Bool) (body := (fun k (s : (List DVersion)) => impl_IsStore_b1 x0 k s)) (k := k16) (s := d17) (s' := d42) (show k16 < x0.Segments.length from by omega) (show impl_IsStore_b1 x0 k16 d17 = Sum.inr d42 from by unfold impl_IsStore_b1; exact cond_f g40 (fin_inr hE145 (rfl))) hF21
            exact QM_round (k16 + 1, d42, (A43, c44)) (subL_cons rfl (subL_cons rfl (subL_cons rfl (subL_cons rfl (subL_cons rfl subL_nil))))) (fun W hm => hm) ⟨(by omega), hn146, (show d42.length ≤ 0 + 4 * (k16 + 1) from by first | omega | (simp only [List.length_append, List.length_cons, List.length_nil] at *; omega))⟩ (show x0.Segments.length - (k16 + 1) < x0.Segments.length - k16 from by omega)
      · have g25 : (decide (((k16 : Nat) : Int) < ((x0.Segments.length : Nat) : Int))) = false := decide_eq_false (by omega)
        refine CM_condF rfl g25 ?_
        refine CM_exit ?_
        refine QM_then_exit ?_
        refine QM_then_exit ?_
        have hE147 : rng (R := Bool) (fun k (s : (List DVersion)) => impl_IsStore_b1 x0 k s) (x0.Segments.length - 0) 0 [] = Sum.inr d17 := rng_end hl24 hF21
        refine QM_block_hit ?_
        refine QM_then ?_
        refine sr ?_
        refine wa ?_
        refine nt' ?_
        refine CM_ret ?_
        exact QM_ret1 rfl rfl (fun W hm => ⟨ret_b (show impl_IsStore_m x0 = true from by unfold impl_IsStore_m; exact cond_t g11 (cond_t g13 (fin_inr hE147 (rfl)))), hm.below⟩)
    ·
      refine CM_condT rfl (nf g13) ?_
      refine sr ?_
      refine wa ?_
      refine nt' ?_
      refine CM_ret ?_
      refine QM_then_ret ?_
      exact QM_ret1 rfl rfl (fun W hm => ⟨ret_b (show impl_IsStore_m x0 = false from by unfold impl_IsStore_m; exact cond_t g11 (cond_f g13 (rfl))), hm.below⟩)
  ·
    refine ws (nf g11) ?_
    refine ws (nf g11) ?_
    refine ws (nf g11) ?_
    refine ws (nf g11) ?_
    refine wv (fun W hm => rv_pickT rfl (nf g11) rfl) ?_
    refine nt' ?_
    refine CM_condT rfl rfl ?_
    refine sr ?_
    refine wa ?_
    refine nt' ?_
    refine CM_ret ?_
    refine QM_then_ret ?_
    exact QM_ret1 rfl rfl (fun W hm => ⟨ret_b (show impl_IsStore_m x0 = false from by unfold impl_IsStore_m; exact cond_f g11 (rfl)), hm.below⟩)

def impl_isNeeded_b1 (x0 : DVersion) (x1 : (List Int)) (k14 : Nat) : Bool ⊕ (Unit) :=
  cond (impl_IsVisible_m x0 (gt x1 k14)) (Sum.inl true) (Sum.inr ())
def impl_isNeeded_m (x0 : DVersion) (x1 : (List Int)) : Bool :=
  Sum.elim id (fun (s : Unit) => (x0.Died == (-1))) (rng (R := Bool) (fun k (_ : Unit) => impl_isNeeded_b1 x0 x1 k) (x1.length - 0) 0 ())
theorem cb74 : Cb Try.prog 74 := ⟨Try.f74, _, Try.func74, rfl, by decide⟩
set_option maxRecDepth 10000 in
set_option maxHeartbeats 4000000 in
theorem impl_isNeeded_c (w : World) (z0 : List Value) (x0 : DVersion) (z1 : Value) (x1 : (List Int)) (r_0 : tyVersion.rd w w.heap.size z0 x0) (r_1 : rdS tInt w w.heap.size z1 x1) :
    Calls Try.prog 74 #[.agg z0.toArray, z1] w fun e w' => e = .returned (.bool (impl_isNeeded_m x0 x1)) ∧ Below w.heap.size w w' := by
  obtain ⟨v1, rfl, r2⟩ := tyVersion_rd r_0
  have r7 := r2
  obtain ⟨m3, A4, c5, rfl, q6⟩ := r2
  have r12 := r_1
  obtain ⟨m8, A9, c10, rfl, q11⟩ := r_1
  refine call_enterM (L := [(0, .agg #[.int .i64 x0.Id, .slice A4 x0.Values.length c5, .int .i64 x0.Born, .int .i64 x0.Died]), (1, .slice A9 x1.length c10)]) (N := 20) Try.func74 rfl rfl (Nat.le_of_ble_eq_true rfl) (argsL_cons rfl (argsL_cons rfl argsL_nil)) ?_
  refine sr ?_
  refine WM_box rfl (Wd_none rfl) (by decide) (fun p13 => ?_)
  refine wa ?_
  refine nt' ?_
  refine CM_seq ?_
  refine sr ?_
  refine wm ?_
  refine wv (fun W hm => rv_len Try.underlying33 rfl) ?_
  refine wm ?_
  refine nt' ?_
  refine CM_block ?_
  refine CM_loop (σ := Nat × (Unit) × (Unit)) (fun s => [(2, .pointer (some (⟨p13, 0, none⟩ : Addr))), (7, .slice A9 x1.length c10), (8, .int .i64 ((x1.length : Nat) : Int)), (9, .int .i64 ((s.1 : Nat) : Int))]) (fun s => [iBox p13 102 [.int .i64 x0.Id, .slice A4 x0.Values.length c5, .int .i64 x0.Born, .int .i64 x0.Died]]) (fun s => s.1 ≤ x1.length ∧ rng (R := Bool) (fun k (_ : Unit) => impl_isNeeded_b1 x0 x1 k) (x1.length - s.1) s.1 s.2.1 = rng (R := Bool) (fun k (_ : Unit) => impl_isNeeded_b1 x0 x1 k) (x1.length - 0) 0 ()) (fun s => x1.length - s.1) (0, (), ()) (subL_cons rfl (subL_cons rfl (subL_cons rfl (subL_cons rfl subL_nil)))) (fun W hm => hm) ⟨(by omega), rfl⟩ ?_
  rintro ⟨k14, ⟨⟩, ⟨⟩⟩ H17
  obtain ⟨hk15, hF16⟩ : k14 ≤ x1.length ∧ rng (R := Bool) (fun k (_ : Unit) => impl_isNeeded_b1 x0 x1 k) (x1.length - k14) k14 () = rng (R := Bool) (fun k (_ : Unit) => impl_isNeeded_b1 x0 x1 k) (x1.length - 0) 0 () := H17
  show CM Try.prog 20 _ _ _ _ [(2, .pointer (some (⟨p13, 0, none⟩ : Addr))), (7, .slice A9 x1.length c10), (8, .int .i64 ((x1.length : Nat) : Int)), (9, .int .i64 ((k14 : Nat) : Int))] [iBox p13 102 [.int .i64 x0.Id, .slice A4 x0.Values.length c5, .int .i64 x0.Born, .int .i64 x0.Died]]
  refine sr ?_
  refine wv (fun W hm => rv_lss rfl rfl) ?_
  refine nt' ?_
  refine CM_seq ?_
  by_cases hl18 : k14 < x1.length
  · have g19 : (decide (((k14 : Nat) : Int) < ((x1.length : Nat) : Int))) = true := decide_eq_true (by omega)
    refine CM_condT rfl g19 ?_
    refine CM_skip ?_
    refine QM_then ?_
    refine CM_seq ?_
    refine CM_block ?_
    refine sr ?_
    obtain ⟨a20, rfl, hb21, he22⟩ := q11 (by omega)
    refine wv (fun W hm => rv_index (sz := 1) (k := k14) Try.underlying33 Try.type3 rfl rfl rfl (by omega)) ?_
    refine wv (fun W hm => rv_load Try.underlying3 rfl rfl ((hm.cell0 (show (a20.add (k14 * 1)).block < w.heap.size from by rw [add_block]; exact hb21.1)).trans (rdS_int he22 k14 (by omega)))) ?_
    refine wa ?_
    refine nt' ?_
    refine sr ?_
    refine wv (fun W hm => rv_loadN (cs := [.int .i64 x0.Id, .slice A4 x0.Values.length c5, .int .i64 x0.Born, .int .i64 x0.Died]) Try.underlying102 Try.type102 rfl rfl (hm.boxCells (n := 0) rfl)) ?_
    refine wm ?_
    refine WM_callV (cl_fn cb117 rfl) (fun W hm => impl_IsVisible_c W _ x0 (gt x1 k14) (tyVersion_mk (x := x0) (hm.rdS0 r7))) (Wd_none rfl) (by decide) ?_
    refine nt' ?_
    rcases Bool.eq_false_or_eq_true (impl_IsVisible_m x0 (gt x1 k14)) with g24 | g24
    ·
      refine CM_condT rfl g24 ?_
      refine sr ?_
      refine wa ?_
      refine nt' ?_
      refine CM_ret ?_
      refine QM_block_ret ?_
      refine QM_then_ret ?_
      refine QM_then_ret ?_
      refine QM_block_ret ?_
      refine QM_then_ret ?_
      exact QM_ret1 rfl rfl (fun W hm => ⟨ret_b (show impl_isNeeded_m x0 x1 = true from by unfold impl_isNeeded_m; exact fin_inl (rng_ret (body := (fun k (_ : Unit) => impl_isNeeded_b1 x0 x1 k)) (k := k14) (s := ()) (show k14 < x1.length from by omega) (show impl_isNeeded_b1 x0 x1 k14 = Sum.inl true from by unfold impl_isNeeded_b1; exact cond_t g24 (rfl)) hF16) rfl), hm.below⟩)
    ·
      refine CM_condF rfl g24 ?_
      refine CM_skip ?_
      refine QM_block_normal ?_
      refine QM_then ?_
      refine CM_region ?_
      refine wv (fun W hm => rv_addN (p := k14) (q := 1) rfl rfl (by omega)) ?_
      refine wm ?_
      refine WM_nil ?_
      have hn25 := rng_next (R := Bool) (body := (fun k (_ : Unit) => impl_isNeeded_b1 x0 x1 k)) (k := k14) (s := ()) (s' := ()) (show k14 < x1.length from by omega) (show impl_isNeeded_b1 x0 x1 k14 = Sum.inr () from by unfold impl_isNeeded_b1; exact cond_f g24 (rfl)) hF16
      exact QM_round (k14 + 1, (), ()) (subL_cons rfl (subL_cons rfl (subL_cons rfl (subL_cons rfl subL_nil)))) (fun W hm => hm) ⟨(by omega), hn25⟩ (show x1.length - (k14 + 1) < x1.length - k14 from by omega)
  · have g19 : (decide (((k14 : Nat) : Int) < ((x1.length : Nat) : Int))) = false := decide_eq_false (by omega)
    refine CM_condF rfl g19 ?_
    refine CM_exit ?_
    refine QM_then_exit ?_
    refine QM_then_exit ?_
    have hE26 : rng (R := Bool) (fun k (_ : Unit) => impl_isNeeded_b1 x0 x1 k) (x1.length - 0) 0 () = Sum.inr () := rng_end hl18 hF16
    refine QM_block_hit ?_
    refine QM_then ?_
    refine sr ?_
    refine wv (fun W hm => rv_field Try.underlying102 rfl Try.type3 (by decide) rfl rfl) ?_
    refine wv (fun W hm => rv_load Try.underlying3 rfl rfl (hm.boxCell (n := 0) (o := 3) rfl rfl)) ?_
    refine wv (fun W hm => rv_eql rfl rfl) ?_
    refine wa ?_
    refine nt' ?_
    refine CM_ret ?_
    exact QM_ret1 rfl rfl (fun W hm => ⟨ret_b (show impl_isNeeded_m x0 x1 = (x0.Died == (-1)) from by unfold impl_isNeeded_m; exact fin_inr hE26 (rfl)), hm.below⟩)

def impl_CountVersions_b1 (x0 : DStore) (k9 : Nat) (s10 : Int) : Int ⊕ (Int) :=
  Sum.inr (IntKind.i64.wrap (s10 + ((((gt x0.Segments k9)).length : Nat) : Int)))
def impl_CountVersions_m (x0 : DStore) : Int :=
  Sum.elim id (fun (s : Int) => s) (rng (R := Int) (fun k (s : Int) => impl_CountVersions_b1 x0 k s) (x0.Segments.length - 0) 0 0)
theorem cb75 : Cb Try.prog 75 := ⟨Try.f75, _, Try.func75, rfl, by decide⟩
set_option maxRecDepth 10000 in
set_option maxHeartbeats 4000000 in
theorem impl_CountVersions_c (w : World) (z0 : List Value) (x0 : DStore) (r_0 : tyStore.rd w w.heap.size z0 x0) :
    Calls Try.prog 75 #[.agg z0.toArray] w fun e w' => e = .returned (.int .i64 (impl_CountVersions_m x0)) ∧ Below w.heap.size w w' := by
  obtain ⟨v1, rfl, r2⟩ := tyStore_rd r_0
  have r7 := r2
  obtain ⟨m3, A4, c5, rfl, q6⟩ := r2
  refine call_enterM (L := [(0, .agg #[.slice A4 x0.Segments.length c5, .int .i64 x0.Now])]) (N := 19) Try.func75 rfl rfl (Nat.le_of_ble_eq_true rfl) (argsL_cons rfl argsL_nil) ?_
  refine sr ?_
  refine WM_box rfl (Wd_none rfl) (by decide) (fun p8 => ?_)
  refine wa ?_
  refine nt' ?_
  refine sr ?_
  refine wa ?_
  refine nt' ?_
  refine CM_seq ?_
  refine sr ?_
  refine wv (fun W hm => rv_field Try.underlying45 rfl Try.type43 (by decide) rfl rfl) ?_
  refine wv (fun W hm => rv_load Try.underlying43 rfl rfl (hm.boxCell (n := 0) (o := 0) rfl rfl)) ?_
  refine wv (fun W hm => rv_len Try.underlying43 rfl) ?_
  refine wm ?_
  refine nt' ?_
  refine CM_block ?_
  refine CM_loop (σ := Nat × (Int) × (Unit)) (fun s => [(3, .int .i64 s.2.1), (7, .slice A4 x0.Segments.length c5), (8, .int .i64 ((x0.Segments.length : Nat) : Int)), (9, .int .i64 ((s.1 : Nat) : Int))]) (fun s => [iBox p8 45 [.slice A4 x0.Segments.length c5, .int .i64 x0.Now]]) (fun s => s.1 ≤ x0.Segments.length ∧ rng (R := Int) (fun k (s : Int) => impl_CountVersions_b1 x0 k s) (x0.Segments.length - s.1) s.1 s.2.1 = rng (R := Int) (fun k (s : Int) => impl_CountVersions_b1 x0 k s) (x0.Segments.length - 0) 0 0) (fun s => x0.Segments.length - s.1) (0, 0, ()) (subL_cons rfl (subL_cons rfl (subL_cons rfl (subL_cons rfl subL_nil)))) (fun W hm => hm) ⟨(by omega), rfl⟩ ?_
  rintro ⟨k9, s10, ⟨⟩⟩ H13
  obtain ⟨hk11, hF12⟩ : k9 ≤ x0.Segments.length ∧ rng (R := Int) (fun k (s : Int) => impl_CountVersions_b1 x0 k s) (x0.Segments.length - k9) k9 s10 = rng (R := Int) (fun k (s : Int) => impl_CountVersions_b1 x0 k s) (x0.Segments.length - 0) 0 0 := H13
  show CM Try.prog 19 _ _ _ _ [(3, .int .i64 s10), (7, .slice A4 x0.Segments.length c5), (8, .int .i64 ((x0.Segments.length : Nat) : Int)), (9, .int .i64 ((k9 : Nat) : Int))] [iBox p8 45 [.slice A4 x0.Segments.length c5, .int .i64 x0.Now]]
  refine sr ?_
  refine wv (fun W hm => rv_lss rfl rfl) ?_
  refine nt' ?_
  refine CM_seq ?_
  by_cases hl14 : k9 < x0.Segments.length
  · have g15 : (decide (((k9 : Nat) : Int) < ((x0.Segments.length : Nat) : Int))) = true := decide_eq_true (by omega)
    refine CM_condT rfl g15 ?_
    refine CM_skip ?_
    refine QM_then ?_
    refine CM_seq ?_
    refine CM_block ?_
    refine sr ?_
    obtain ⟨a16, rfl, hb17, he18⟩ := q6 (by omega)
    refine wv (fun W hm => rv_index (sz := 1) (k := k9) Try.underlying43 Try.type100 rfl rfl rfl (by omega)) ?_
    obtain ⟨_, e20, hc19⟩ := he18 k9 _ (gt_some (show k9 < x0.Segments.length from by omega))
    obtain ⟨v21, rfl, r22⟩ := e20
    have r27 := r22
    obtain ⟨m23, A24, c25, rfl, q26⟩ := r22
    refine wv (fun W hm => rv_load Try.underlying100 rfl rfl ((hm.cell0 (show (a16.add (k9 * 1)).block < w.heap.size from by rw [add_block]; exact hb17.1)).trans (hc19 0 _ rfl))) ?_
    refine wa ?_
    refine nt' ?_
    refine CM_region ?_
    refine wm ?_
    refine wm ?_
    refine wv (fun W hm => rv_len Try.underlying100 rfl) ?_
    refine wv (fun W hm => rv_add rfl rfl) ?_
    refine wa ?_
    refine WM_nil ?_
    refine QM_block_normal ?_
    refine QM_then ?_
    refine CM_region ?_
    refine wv (fun W hm => rv_addN (p := k9) (q := 1) rfl rfl (by omega)) ?_
    refine wm ?_
    refine WM_nil ?_
    have hn28 := rng_next (R := Int) (body := (fun k (s : Int) => impl_CountVersions_b1 x0 k s)) (k := k9) (s := s10) (s' := (IntKind.i64.wrap (s10 + ((((gt x0.Segments k9)).length : Nat) : Int)))) (show k9 < x0.Segments.length from by omega) (show impl_CountVersions_b1 x0 k9 s10 = Sum.inr (IntKind.i64.wrap (s10 + ((((gt x0.Segments k9)).length : Nat) : Int))) from by unfold impl_CountVersions_b1; exact rfl) hF12
    exact QM_round (k9 + 1, (IntKind.i64.wrap (s10 + ((((gt x0.Segments k9)).length : Nat) : Int))), ()) (subL_cons rfl (subL_cons rfl (subL_cons rfl (subL_cons rfl subL_nil)))) (fun W hm => hm) ⟨(by omega), hn28⟩ (show x0.Segments.length - (k9 + 1) < x0.Segments.length - k9 from by omega)
  · have g15 : (decide (((k9 : Nat) : Int) < ((x0.Segments.length : Nat) : Int))) = false := decide_eq_false (by omega)
    refine CM_condF rfl g15 ?_
    refine CM_exit ?_
    refine QM_then_exit ?_
    refine QM_then_exit ?_
    have hE29 : rng (R := Int) (fun k (s : Int) => impl_CountVersions_b1 x0 k s) (x0.Segments.length - 0) 0 0 = Sum.inr s10 := rng_end hl14 hF12
    refine QM_block_hit ?_
    refine QM_then ?_
    refine sr ?_
    refine wm ?_
    refine wa ?_
    refine nt' ?_
    refine CM_ret ?_
    exact QM_ret1 rfl rfl (fun W hm => ⟨ret_i (show impl_CountVersions_m x0 = s10 from by unfold impl_CountVersions_m; exact fin_inr hE29 (rfl)), hm.below⟩)

def impl_ReclaimStore_b2 (x1 : (List Int)) (k26 : Nat) (d27 : (List (List DVersion))) (k43 : Nat) (d44 : (List DVersion)) : (DStore × Int) ⊕ ((List DVersion)) :=
  cond (impl_isNeeded_m (gt (gt d27 k26) k43) x1) (Sum.inr (d44 ++ [(gt (gt d27 k26) k43)])) (Sum.inr d44)
def impl_ReclaimStore_b1 (x1 : (List Int)) (k26 : Nat) (d27 : (List (List DVersion))) : (DStore × Int) ⊕ ((List (List DVersion))) :=
  Sum.elim Sum.inl (fun (s : (List DVersion)) => Sum.inr (d27.set k26 s)) (rng (R := (DStore × Int)) (fun k (s : (List DVersion)) => impl_ReclaimStore_b2 x1 k26 d27 k s) ((gt d27 k26).length - 0) 0 [])
def impl_ReclaimStore_m (x0 : DStore) (x1 : (List Int)) : (DStore × Int) :=
  cond (impl_IsStore_m x0) (Sum.elim id (fun (s : (List (List DVersion))) => ((⟨s, x0.Now⟩ : DStore), (IntKind.i64.wrap ((impl_CountVersions_m x0) - (impl_CountVersions_m (⟨s, x0.Now⟩ : DStore)))))) (rng (R := (DStore × Int)) (fun k (s : (List (List DVersion))) => impl_ReclaimStore_b1 x1 k s) (x0.Segments.length - 0) 0 x0.Segments)) (x0, 0)
theorem cb29 : Cb Try.prog 29 := ⟨Try.f29, _, Try.func29, rfl, by decide⟩
set_option maxRecDepth 10000 in
set_option maxHeartbeats 4000000 in
theorem impl_ReclaimStore_c (w : World) (z0 : List Value) (x0 : DStore) (z1 : Value) (x1 : (List Int)) (r_0 : tyStore.rd w w.heap.size z0 x0) (r_1 : rdS tInt w w.heap.size z1 x1) (s_0 : smStore 68719476736 x0) (s_1 : x1.length ≤ 68719476736) :
    Calls Try.prog 29 #[.agg z0.toArray, z1] w fun e w' => ∃ v : List Value, e = .returned (.tuple #[.agg v.toArray, .int .i64 ((impl_ReclaimStore_m x0 x1).2)]) ∧ Mem w.heap.size w [iOwn tyStore v (impl_ReclaimStore_m x0 x1).1] w' := by
  obtain ⟨v1, rfl, r2⟩ := tyStore_rd r_0
  have r7 := r2
  obtain ⟨m3, A4, c5, rfl, q6⟩ := r2
  have r12 := r_1
  obtain ⟨m8, A9, c10, rfl, q11⟩ := r_1
  have l13 : x0.Segments.length ≤ 68719476736 := s_0.1
  have l14 : x1.length ≤ 68719476736 := s_1
  refine call_enterM (L := [(0, .agg #[.slice A4 x0.Segments.length c5, .int .i64 x0.Now]), (1, .slice A9 x1.length c10)]) (N := 53) Try.func29 rfl rfl (Nat.le_of_ble_eq_true rfl) (argsL_cons rfl (argsL_cons rfl argsL_nil)) ?_
  refine sr ?_
  refine WM_box rfl (Wd_none rfl) (by decide) (fun p15 => ?_)
  refine WM_alloc Try.type45 rfl (Wd_none rfl) (by decide) (fun p16 => ?_)
  refine wa ?_
  refine nt' ?_
  refine sr ?_
  refine wv (fun W hm => rv_loadN (cs := [.slice A4 x0.Segments.length c5, .int .i64 x0.Now]) Try.underlying45 Try.type45 rfl rfl (hm.boxCells (n := 1) rfl)) ?_
  refine WM_call (χ := List Value) (val := fun x => .agg x.toArray) (js := fun x => [iOwn tyStore x x0]) (cl_fn cb72 rfl) (fun W hm => impl_copyStore_c2 W _ x0 (tyStore_mk (x := x0) (hm.rdS0 r7)) s_0) (Wd_none rfl) (by decide) (fun z17 => ?_)
  refine WM_split (γ := Value) (js := fun g => [iOwn (tSl (tSl tyVersion 102) 100) [g] x0.Segments]) (C := fun g => z17 = [g, .int .i64 x0.Now]) (fun _ _ h => tyStore_split h) ?_
  rintro v18 rfl
  refine WM_form (n := 0) rfl ?_
  rintro A19 c20 rfl m21
  refine WM_alloc Try.type45 rfl (Wd_none rfl) (by decide) (fun p23 => ?_)
  refine WM_storeBox (p := p23) (o := 0) (cs := [.slice none 0 0, .int .i64 0]) (cs' := [.slice A19 x0.Segments.length c20, .int .i64 x0.Now]) (js := [iOwn (tSl (tSl tyVersion 102) 100) [.slice A19 x0.Segments.length c20] x0.Segments, iBox p16 45 [.slice none 0 0, .int .i64 0], iBox p15 45 [.slice A4 x0.Segments.length c5, .int .i64 x0.Now]]) (fun W hm => hm) Try.type45 rfl (Nat.le_of_ble_eq_true rfl) rfl rfl rfl rfl (Wd_none rfl) ?_
  refine nt' ?_
  refine CM_seq ?_
  refine sr ?_
  refine wv (fun W hm => rv_loadN (cs := [.slice A4 x0.Segments.length c5, .int .i64 x0.Now]) Try.underlying45 Try.type45 rfl rfl (hm.boxCells (n := 3) rfl)) ?_
  refine WM_callV (cl_fn cb73 rfl) (fun W hm => impl_IsStore_c W _ x0 (tyStore_mk (x := x0) (hm.rdS0 r7)) s_0) (Wd_none rfl) (by decide) ?_
  refine wv (fun W hm => rv_not rfl) ?_
  refine nt' ?_
  rcases Bool.eq_false_or_eq_true (impl_IsStore_m x0) with g25 | g25
  ·
    refine CM_condF rfl (nt g25) ?_
    refine CM_skip ?_
    refine QM_then ?_
    refine CM_seq ?_
    refine sr ?_
    refine wv (fun W hm => rv_field Try.underlying45 rfl Try.type43 (by decide) rfl rfl) ?_
    refine wv (fun W hm => rv_load Try.underlying43 rfl rfl (hm.boxCell (n := 0) (o := 0) rfl rfl)) ?_
    refine wv (fun W hm => rv_len Try.underlying43 rfl) ?_
    refine wm ?_
    refine nt' ?_
    refine CM_block ?_
    refine CM_loop (σ := Nat × ((List (List DVersion))) × (Unit)) (fun s => [(1, .slice A9 x1.length c10), (2, .pointer (some (⟨p15, 0, none⟩ : Addr))), (4, .pointer (some (⟨p16, 0, none⟩ : Addr))), (6, .pointer (some (⟨p23, 0, none⟩ : Addr))), (19, .slice A19 x0.Segments.length c20), (20, .int .i64 ((x0.Segments.length : Nat) : Int)), (21, .int .i64 ((s.1 : Nat) : Int))]) (fun s => [iBox p23 45 [.slice A19 x0.Segments.length c20, .int .i64 x0.Now], iOwn (tSl (tSl tyVersion 102) 100) [.slice A19 x0.Segments.length c20] s.2.1, iBox p16 45 [.slice none 0 0, .int .i64 0], iBox p15 45 [.slice A4 x0.Segments.length c5, .int .i64 x0.Now]]) (fun s => s.1 ≤ x0.Segments.length ∧ rng (R := (DStore × Int)) (fun k (s : (List (List DVersion))) => impl_ReclaimStore_b1 x1 k s) (x0.Segments.length - s.1) s.1 s.2.1 = rng (R := (DStore × Int)) (fun k (s : (List (List DVersion))) => impl_ReclaimStore_b1 x1 k s) (x0.Segments.length - 0) 0 x0.Segments ∧ ∀ j, s.1 ≤ j → gt s.2.1 j = gt x0.Segments j) (fun s => x0.Segments.length - s.1) (0, x0.Segments, ()) (subL_cons rfl (subL_cons rfl (subL_cons rfl (subL_cons rfl (subL_cons rfl (subL_cons rfl (subL_cons rfl subL_nil))))))) (fun W hm => hm) ⟨(by omega), rfl, (fun _ _ => rfl)⟩ ?_
    rintro ⟨k26, d27, ⟨⟩⟩ H30
    obtain ⟨hk28, hF29, hi31⟩ : k26 ≤ x0.Segments.length ∧ rng (R := (DStore × Int)) (fun k (s : (List (List DVersion))) => impl_ReclaimStore_b1 x1 k s) (x0.Segments.length - k26) k26 d27 = rng (R := (DStore × Int)) (fun k (s : (List (List DVersion))) => impl_ReclaimStore_b1 x1 k s) (x0.Segments.length - 0) 0 x0.Segments ∧ ∀ j, k26 ≤ j → gt d27 j = gt x0.Segments j := H30
    show CM Try.prog 53 _ _ _ _ [(1, .slice A9 x1.length c10), (2, .pointer (some (⟨p15, 0, none⟩ : Addr))), (4, .pointer (some (⟨p16, 0, none⟩ : Addr))), (6, .pointer (some (⟨p23, 0, none⟩ : Addr))), (19, .slice A19 x0.Segments.length c20), (20, .int .i64 ((x0.Segments.length : Nat) : Int)), (21, .int .i64 ((k26 : Nat) : Int))] [iBox p23 45 [.slice A19 x0.Segments.length c20, .int .i64 x0.Now], iOwn (tSl (tSl tyVersion 102) 100) [.slice A19 x0.Segments.length c20] d27, iBox p16 45 [.slice none 0 0, .int .i64 0], iBox p15 45 [.slice A4 x0.Segments.length c5, .int .i64 x0.Now]]
    refine sr ?_
    refine wv (fun W hm => rv_lss rfl rfl) ?_
    refine nt' ?_
    refine CM_seq ?_
    by_cases hl32 : k26 < x0.Segments.length
    · have g33 : (decide (((k26 : Nat) : Int) < ((x0.Segments.length : Nat) : Int))) = true := decide_eq_true (by omega)
      have hq1 : (gt d27 k26).length ≤ 68719476736 := by rw [hi31 k26 (Nat.le_refl _)]; exact (s_0.2 _ (gt_mem (by omega))).1
      refine CM_condT rfl g33 ?_
      refine CM_skip ?_
      refine QM_then ?_
      refine CM_seq ?_
      refine CM_block ?_
      refine sr ?_
      refine wm ?_
      refine WM_formO (n := 1) rfl (by omega) ?_
      rintro g34 rfl
      refine wv (fun W hm => rv_index (sz := 1) (k := k26) Try.underlying43 Try.type100 rfl rfl rfl (by omega)) ?_
      refine WM_focus (E := (tSl tyVersion 102)) (e := 100) (A := (some ⟨g34, 0, none⟩)) (n := x0.Segments.length) (c := c20) (xs := d27) (k := k26) (js := [iBox p23 45 [.slice (some ⟨g34, 0, none⟩) x0.Segments.length c20, .int .i64 x0.Now], iBox p16 45 [.slice none 0 0, .int .i64 0], iBox p15 45 [.slice A4 x0.Segments.length c5, .int .i64 x0.Now]]) (by omega) (fun W hm => (hm.pick [1, 0, 2, 3] (by decide))) (fun ck35 => ?_)
      refine WM_split (γ := Value) (js := fun g => [iOwn (tSl tyVersion 102) [g] (gt d27 k26)]) (C := fun g => ck35 = [g]) (fun _ _ h => tSl_split h) ?_
      rintro v36 rfl
      refine WM_form (n := 0) rfl ?_
      rintro A37 c38 rfl m39
      refine wv (fun W hm => rv_load Try.underlying100 rfl rfl (hm.focInt (i := 1) rfl rfl)) ?_
      refine wa ?_
      refine wa ?_
      refine nt' ?_
      refine sr ?_
      refine WM_build0 (E := tyVersion) Try.underlying100 Try.type102 (Wd_none rfl) (by decide) (fun p41 => ?_)
      refine wa ?_
      refine nt' ?_
      refine CM_seq ?_
      refine sr ?_
      refine wm ?_
      refine wv (fun W hm => rv_len Try.underlying100 rfl) ?_
      refine wm ?_
      refine nt' ?_
      refine CM_block ?_
      refine CM_items (fun W hm => Mem.toRest (hm.pick [1, 0, 2, 3, 4, 5] (by decide))) ?_
      refine CM_loop (σ := Nat × ((List DVersion)) × (Option Addr × Nat)) (fun s => [(1, .slice A9 x1.length c10), (2, .pointer (some (⟨p15, 0, none⟩ : Addr))), (4, .pointer (some (⟨p16, 0, none⟩ : Addr))), (6, .pointer (some (⟨p23, 0, none⟩ : Addr))), (7, .int .i64 ((k26 : Nat) : Int)), (9, .slice s.2.2.1 s.2.1.length s.2.2.2), (19, .slice (some ⟨g34, 0, none⟩) x0.Segments.length c20), (20, .int .i64 ((x0.Segments.length : Nat) : Int)), (21, .int .i64 ((k26 : Nat) : Int)), (27, .slice A37 (gt d27 k26).length c38), (28, .int .i64 (((gt d27 k26).length : Nat) : Int)), (29, .int .i64 ((s.1 : Nat) : Int))]) (fun s => [iRest tyVersion 102 A37 ((gt d27 k26).length) (gt d27 k26) s.1, iOwn (tSl tyVersion 102) [.slice s.2.2.1 s.2.1.length s.2.2.2] s.2.1, iFoc (tSl tyVersion 102) 100 (some ⟨g34, 0, none⟩) x0.Segments.length c20 d27 k26 [.slice A37 (gt d27 k26).length c38], iBox p23 45 [.slice (some ⟨g34, 0, none⟩) x0.Segments.length c20, .int .i64 x0.Now], iBox p16 45 [.slice none 0 0, .int .i64 0], iBox p15 45 [.slice A4 x0.Segments.length c5, .int .i64 x0.Now]]) (fun s => s.1 ≤ (gt d27 k26).length ∧ rng (R := (DStore × Int)) (fun k (s : (List DVersion)) => impl_ReclaimStore_b2 x1 k26 d27 k s) ((gt d27 k26).length - s.1) s.1 s.2.1 = rng (R := (DStore × Int)) (fun k (s : (List DVersion)) => impl_ReclaimStore_b2 x1 k26 d27 k s) ((gt d27 k26).length - 0) 0 [] ∧ s.2.1.length ≤ 0 + s.1) (fun s => (gt d27 k26).length - s.1) (0, [], ((some ⟨p41, 0, none⟩), 0)) (subL_cons rfl (subL_cons rfl (subL_cons rfl (subL_cons rfl (subL_cons rfl (subL_cons rfl (subL_cons rfl (subL_cons rfl (subL_cons rfl (subL_cons rfl (subL_cons rfl (subL_cons rfl subL_nil)))))))))))) (fun W hm => hm) ⟨(by omega), rfl, Nat.le_refl _⟩ ?_
      rintro ⟨k43, d44, ⟨A45, c46⟩⟩ H49
      obtain ⟨hk47, hF48, hi50⟩ : k43 ≤ (gt d27 k26).length ∧ rng (R := (DStore × Int)) (fun k (s : (List DVersion)) => impl_ReclaimStore_b2 x1 k26 d27 k s) ((gt d27 k26).length - k43) k43 d44 = rng (R := (DStore × Int)) (fun k (s : (List DVersion)) => impl_ReclaimStore_b2 x1 k26 d27 k s) ((gt d27 k26).length - 0) 0 [] ∧ d44.length ≤ 0 + k43 := H49
      show CM Try.prog 53 _ _ _ _ [(1, .slice A9 x1.length c10), (2, .pointer (some (⟨p15, 0, none⟩ : Addr))), (4, .pointer (some (⟨p16, 0, none⟩ : Addr))), (6, .pointer (some (⟨p23, 0, none⟩ : Addr))), (7, .int .i64 ((k26 : Nat) : Int)), (9, .slice A45 d44.length c46), (19, .slice (some ⟨g34, 0, none⟩) x0.Segments.length c20), (20, .int .i64 ((x0.Segments.length : Nat) : Int)), (21, .int .i64 ((k26 : Nat) : Int)), (27, .slice A37 (gt d27 k26).length c38), (28, .int .i64 (((gt d27 k26).length : Nat) : Int)), (29, .int .i64 ((k43 : Nat) : Int))] [iRest tyVersion 102 A37 ((gt d27 k26).length) (gt d27 k26) k43, iOwn (tSl tyVersion 102) [.slice A45 d44.length c46] d44, iFoc (tSl tyVersion 102) 100 (some ⟨g34, 0, none⟩) x0.Segments.length c20 d27 k26 [.slice A37 (gt d27 k26).length c38], iBox p23 45 [.slice (some ⟨g34, 0, none⟩) x0.Segments.length c20, .int .i64 x0.Now], iBox p16 45 [.slice none 0 0, .int .i64 0], iBox p15 45 [.slice A4 x0.Segments.length c5, .int .i64 x0.Now]]
      refine sr ?_
      refine wv (fun W hm => rv_lss rfl rfl) ?_
      refine nt' ?_
      refine CM_seq ?_
      by_cases hl51 : k43 < (gt d27 k26).length
      · have g52 : (decide (((k43 : Nat) : Int) < (((gt d27 k26).length : Nat) : Int))) = true := decide_eq_true (by omega)
        refine CM_condT rfl g52 ?_
        refine CM_skip ?_
        refine QM_then ?_
        refine CM_seq ?_
        refine CM_block ?_
        refine sr ?_
        refine WM_formR (n := 0) rfl (by omega) ?_
        rintro g53 rfl
        refine wv (fun W hm => rv_index (sz := 4) (k := k43) Try.underlying100 Try.type102 rfl rfl rfl (by omega)) ?_
        refine WM_pop (E := tyVersion) (e := 102) (A := (some ⟨g53, 0, none⟩)) (n := (gt d27 k26).length) (xs := (gt d27 k26)) (k := k43) (js := [iOwn (tSl tyVersion 102) [.slice A45 d44.length c46] d44, iFoc (tSl tyVersion 102) 100 (some ⟨g34, 0, none⟩) x0.Segments.length c20 d27 k26 [.slice (some ⟨g53, 0, none⟩) (gt d27 k26).length c38], iBox p23 45 [.slice (some ⟨g34, 0, none⟩) x0.Segments.length c20, .int .i64 x0.Now], iBox p16 45 [.slice none 0 0, .int .i64 0], iBox p15 45 [.slice A4 x0.Segments.length c5, .int .i64 x0.Now]]) (by omega) (fun W hm => hm) (fun ck54 => ?_)
        refine WM_split (γ := Value) (js := fun g => [iOwn (tSl tInt 3) [g] ((gt (gt d27 k26) k43).Values)]) (C := fun g => ck54 = [.int .i64 ((gt (gt d27 k26) k43).Id), g, .int .i64 ((gt (gt d27 k26) k43).Born), .int .i64 ((gt (gt d27 k26) k43).Died)]) (fun _ _ h => tyVersion_split h) ?_
        rintro v55 rfl
        refine WM_form (n := 0) rfl ?_
        rintro A56 c57 rfl m58
        refine wv (fun W hm => rv_loadN (cs := [.int .i64 ((gt (gt d27 k26) k43).Id), .slice A56 ((gt (gt d27 k26) k43).Values).length c57, .int .i64 ((gt (gt d27 k26) k43).Born), .int .i64 ((gt (gt d27 k26) k43).Died)]) Try.underlying102 Try.type102 rfl rfl (hm.restCells (i := 1) rfl rfl)) ?_
        refine WM_alloc Try.type102 rfl (Wd_none rfl) (by decide) (fun p60 => ?_)
        refine WM_storeBox (p := p60) (o := 0) (cs := [.int .i64 0, .slice none 0 0, .int .i64 0, .int .i64 0]) (cs' := [.int .i64 ((gt (gt d27 k26) k43).Id), .slice A56 ((gt (gt d27 k26) k43).Values).length c57, .int .i64 ((gt (gt d27 k26) k43).Born), .int .i64 ((gt (gt d27 k26) k43).Died)]) (js := [iOwn (tSl tInt 3) [.slice A56 ((gt (gt d27 k26) k43).Values).length c57] ((gt (gt d27 k26) k43).Values), iRestF tyVersion 102 (some ⟨g53, 0, none⟩) ((gt d27 k26).length) (gt d27 k26) k43 [.int .i64 ((gt (gt d27 k26) k43).Id), .slice A56 ((gt (gt d27 k26) k43).Values).length c57, .int .i64 ((gt (gt d27 k26) k43).Born), .int .i64 ((gt (gt d27 k26) k43).Died)], iOwn (tSl tyVersion 102) [.slice A45 d44.length c46] d44, iFoc (tSl tyVersion 102) 100 (some ⟨g34, 0, none⟩) x0.Segments.length c20 d27 k26 [.slice (some ⟨g53, 0, none⟩) (gt d27 k26).length c38], iBox p23 45 [.slice (some ⟨g34, 0, none⟩) x0.Segments.length c20, .int .i64 x0.Now], iBox p16 45 [.slice none 0 0, .int .i64 0], iBox p15 45 [.slice A4 x0.Segments.length c5, .int .i64 x0.Now]]) (fun W hm => hm) Try.type102 rfl (Nat.le_of_ble_eq_true rfl) rfl rfl rfl rfl (Wd_none rfl) ?_
        refine nt' ?_
        refine sr ?_
        refine wv (fun W hm => rv_loadN (cs := [.int .i64 ((gt (gt d27 k26) k43).Id), .slice A56 ((gt (gt d27 k26) k43).Values).length c57, .int .i64 ((gt (gt d27 k26) k43).Born), .int .i64 ((gt (gt d27 k26) k43).Died)]) Try.underlying102 Try.type102 rfl rfl (hm.boxCells (n := 0) rfl)) ?_
        refine wm ?_
        refine WM_callV (cl_fn cb74 rfl) (fun W hm => impl_isNeeded_c W _ (gt (gt d27 k26) k43) _ x1 (tyVersion_mk (x := (gt (gt d27 k26) k43)) (hm.rdSI (n := 1) rfl)) (hm.rdS0 r12)) (Wd_none rfl) (by decide) ?_
        refine nt' ?_
        rcases Bool.eq_false_or_eq_true (impl_isNeeded_m (gt (gt d27 k26) k43) x1) with g62 | g62
        ·
          refine CM_condT rfl g62 ?_
          refine CM_region ?_
          refine wm ?_
          refine wv (fun W hm => rv_loadN (cs := [.int .i64 ((gt (gt d27 k26) k43).Id), .slice A56 ((gt (gt d27 k26) k43).Values).length c57, .int .i64 ((gt (gt d27 k26) k43).Born), .int .i64 ((gt (gt d27 k26) k43).Died)]) Try.underlying102 Try.type102 rfl rfl (hm.boxCells (n := 0) rfl)) ?_
          refine WM_build (cs := [.int .i64 ((gt (gt d27 k26) k43).Id), .slice A56 ((gt (gt d27 k26) k43).Values).length c57, .int .i64 ((gt (gt d27 k26) k43).Born), .int .i64 ((gt (gt d27 k26) k43).Died)]) Try.underlying100 Try.type102 rfl (by decide) (by decide) rfl (by kernel_rfl) (Wd_none rfl) (by decide) (fun p63 => ?_)
          refine WM_append (E := tyVersion) (e := 102) (v := .slice A45 d44.length c46) (p := p63) (q := 1) (xs := d44) (ys := [(gt (gt d27 k26) k43)]) (eis := [iOwn (tSl tInt 3) [.slice A56 ((gt (gt d27 k26) k43).Values).length c57] ((gt (gt d27 k26) k43).Values)]) (js := [iBox p60 102 [.int .i64 ((gt (gt d27 k26) k43).Id), .slice A56 ((gt (gt d27 k26) k43).Values).length c57, .int .i64 ((gt (gt d27 k26) k43).Born), .int .i64 ((gt (gt d27 k26) k43).Died)], iRestF tyVersion 102 (some ⟨g53, 0, none⟩) ((gt d27 k26).length) (gt d27 k26) k43 [.int .i64 ((gt (gt d27 k26) k43).Id), .slice A56 ((gt (gt d27 k26) k43).Values).length c57, .int .i64 ((gt (gt d27 k26) k43).Born), .int .i64 ((gt (gt d27 k26) k43).Died)], iFoc (tSl tyVersion 102) 100 (some ⟨g34, 0, none⟩) x0.Segments.length c20 d27 k26 [.slice (some ⟨g53, 0, none⟩) (gt d27 k26).length c38], iBox p23 45 [.slice (some ⟨g34, 0, none⟩) x0.Segments.length c20, .int .i64 x0.Now], iBox p16 45 [.slice none 0 0, .int .i64 0], iBox p15 45 [.slice A4 x0.Segments.length c5, .int .i64 x0.Now]]) (news := [.int .i64 ((gt (gt d27 k26) k43).Id), .slice A56 ((gt (gt d27 k26) k43).Values).length c57, .int .i64 ((gt (gt d27 k26) k43).Born), .int .i64 ((gt (gt d27 k26) k43).Died)]) (fun W hm => (hm.pick [0, 4, 2, 1, 3, 5, 6, 7, 8] (by decide))) (fun _ _ hs => Els.single (tyVersion_join (x := (gt (gt d27 k26) k43)) hs)) Try.underlying100 Try.type102 rfl rfl rfl (Nat.le_of_ble_eq_true rfl) rfl rfl rfl (show (d44.length + 1) * 48 ≤ 140737488355328 from by omega) (show d44.length + 1 ≤ 9223372036854775807 from by omega) (Wd_none rfl) (by decide) (fun v64 => ?_)
          refine WM_form (n := 0) rfl ?_
          rintro A65 c66 rfl m67
          refine wa ?_
          refine WM_nil ?_
          refine QM_block_normal ?_
          refine QM_then ?_
          refine CM_region ?_
          refine wv (fun W hm => rv_addN (p := k43) (q := 1) rfl rfl (by omega)) ?_
          refine wm ?_
          refine WM_nil ?_
          refine QM_items (fun W hm => Mem.restNext (hm.pick [2, 0, 1, 3, 4, 5, 6] (by decide))) ?_
          have hn69 := rng_next (R := (DStore × Int)) (body := (fun k (s : (List DVersion)) => impl_ReclaimStore_b2 x1 k26 d27 k s)) (k := k43) (s := d44) (s' := (d44 ++ [(gt (gt d27 k26) k43)])) (show k43 < (gt d27 k26).length from by omega) (show impl_ReclaimStore_b2 x1 k26 d27 k43 d44 = Sum.inr (d44 ++ [(gt (gt d27 k26) k43)]) from by unfold impl_ReclaimStore_b2; exact cond_t g62 (rfl)) hF48
          exact QM_round (k43 + 1, (d44 ++ [(gt (gt d27 k26) k43)]), (A65, c66)) (subL_cons rfl (subL_cons rfl (subL_cons rfl (subL_cons rfl (subL_cons rfl (subL_cons rfl (subL_cons rfl (subL_cons rfl (subL_cons rfl (subL_cons rfl (subL_cons rfl (subL_cons rfl subL_nil)))))))))))) (fun W hm => (hm.pick [0, 1, 3, 4, 5, 6] (by decide))) ⟨(by omega), hn69, (show (d44 ++ [(gt (gt d27 k26) k43)]).length ≤ 0 + (k43 + 1) from by first | omega | (simp only [List.length_append, List.length_cons, List.length_nil] at *; omega))⟩ (show (gt d27 k26).length - (k43 + 1) < (gt d27 k26).length - k43 from by omega)
        ·
          refine CM_condF rfl g62 ?_
          refine CM_skip ?_
          refine QM_block_normal ?_
          refine QM_then ?_
          refine CM_region ?_
          refine wv (fun W hm => rv_addN (p := k43) (q := 1) rfl rfl (by omega)) ?_
          refine wm ?_
          refine WM_nil ?_
          refine QM_items (fun W hm => Mem.restNext (hm.pick [2, 0, 1, 3, 4, 5, 6, 7] (by decide))) ?_
          have hn70 := rng_next (R := (DStore × Int)) (body := (fun k (s : (List DVersion)) => impl_ReclaimStore_b2 x1 k26 d27 k s)) (k := k43) (s := d44) (s' := d44) (show k43 < (gt d27 k26).length from by omega) (show impl_ReclaimStore_b2 x1 k26 d27 k43 d44 = Sum.inr d44 from by unfold impl_ReclaimStore_b2; exact cond_f g62 (rfl)) hF48
          exact QM_round (k43 + 1, d44, (A45, c46)) (subL_cons rfl (subL_cons rfl (subL_cons rfl (subL_cons rfl (subL_cons rfl (subL_cons rfl (subL_cons rfl (subL_cons rfl (subL_cons rfl (subL_cons rfl (subL_cons rfl (subL_cons rfl subL_nil)))))))))))) (fun W hm => (hm.pick [0, 3, 4, 5, 6, 7] (by decide))) ⟨(by omega), hn70, (show d44.length ≤ 0 + (k43 + 1) from by first | omega | (simp only [List.length_append, List.length_cons, List.length_nil] at *; omega))⟩ (show (gt d27 k26).length - (k43 + 1) < (gt d27 k26).length - k43 from by omega)
      · have g52 : (decide (((k43 : Nat) : Int) < (((gt d27 k26).length : Nat) : Int))) = false := decide_eq_false (by omega)
        refine CM_condF rfl g52 ?_
        refine CM_exit ?_
        refine QM_then_exit ?_
        refine QM_then_exit ?_
        have hE71 : rng (R := (DStore × Int)) (fun k (s : (List DVersion)) => impl_ReclaimStore_b2 x1 k26 d27 k s) ((gt d27 k26).length - 0) 0 [] = Sum.inr d44 := rng_end hl51 hF48
        refine QM_block_hit ?_
        refine QM_then ?_
        refine CM_region ?_
        refine wv (fun W hm => rv_field Try.underlying45 rfl Try.type43 (by decide) rfl rfl) ?_
        refine wv (fun W hm => rv_load Try.underlying43 rfl rfl (hm.boxCell (n := 3) (o := 0) rfl rfl)) ?_
        refine wm ?_
        refine wm ?_
        refine wv (fun W hm => rv_index (sz := 1) (k := k26) Try.underlying43 Try.type100 rfl rfl rfl (by omega)) ?_
        refine WM_storeFoc (E := (tSl tyVersion 102)) (e := 100) (g := g34) (n := x0.Segments.length) (c := c20) (k := k26) (s := 1) (o := 0) (xs := d27) (ck := [.slice A37 (gt d27 k26).length c38]) (ck' := [.slice A45 d44.length c46]) (js := [iRest tyVersion 102 A37 ((gt d27 k26).length) (gt d27 k26) k43, iOwn (tSl tyVersion 102) [.slice A45 d44.length c46] d44, iBox p23 45 [.slice (some ⟨g34, 0, none⟩) x0.Segments.length c20, .int .i64 x0.Now], iBox p16 45 [.slice none 0 0, .int .i64 0], iBox p15 45 [.slice A4 x0.Segments.length c5, .int .i64 x0.Now]]) (fun W hm => (hm.pick [2, 0, 1, 3, 4, 5] (by decide))) rfl (add0 _).symm Try.type100 rfl (Nat.le_of_ble_eq_true rfl) rfl rfl rfl rfl (Wd_none rfl) ?_
        refine WM_nil ?_
        refine QM_block_normal ?_
        refine QM_then ?_
        refine CM_region ?_
        refine wv (fun W hm => rv_addN (p := k26) (q := 1) rfl rfl (by omega)) ?_
        refine wm ?_
        refine WM_nil ?_
        refine QM_items (fun W hm => Mem.unfocus (Mem.join (is := [iOwn (tSl tyVersion 102) [.slice A45 d44.length c46] d44]) (js := (iFoc (tSl tyVersion 102) 100 (some ⟨g34, 0, none⟩) x0.Segments.length c20 d27 k26 [.slice A45 d44.length c46] :: [iRest tyVersion 102 A37 ((gt d27 k26).length) (gt d27 k26) k43, iBox p23 45 [.slice (some ⟨g34, 0, none⟩) x0.Segments.length c20, .int .i64 x0.Now], iBox p16 45 [.slice none 0 0, .int .i64 0], iBox p15 45 [.slice A4 x0.Segments.length c5, .int .i64 x0.Now]])) (fun _ _ hs => Sep.one hs) (hm.pick [2, 0, 1, 3, 4, 5] (by decide)))) ?_
        have hn72 := rng_next (R := (DStore × Int)) (body := (fun k (s : (List (List DVersion))) => impl_ReclaimStore_b1 x1 k s)) (k := k26) (s := d27) (s' := (d27.set k26 d44)) (show k26 < x0.Segments.length from by omega) (show impl_ReclaimStore_b1 x1 k26 d27 = Sum.inr (d27.set k26 d44) from by unfold impl_ReclaimStore_b1; exact fin_inr hE71 (rfl)) hF29
        exact QM_round (k26 + 1, (d27.set k26 d44), ()) (subL_cons rfl (subL_cons rfl (subL_cons rfl (subL_cons rfl (subL_cons rfl (subL_cons rfl (subL_cons rfl subL_nil))))))) (fun W hm => (hm.pick [2, 0, 3, 4] (by decide))) ⟨(by omega), hn72, (show ∀ j, (k26 + 1) ≤ j → gt (d27.set k26 d44) j = gt x0.Segments j from by intro j hj; rw [gt_set_ne (by omega)]; exact hi31 j (by omega))⟩ (show x0.Segments.length - (k26 + 1) < x0.Segments.length - k26 from by omega)
    · have g33 : (decide (((k26 : Nat) : Int) < ((x0.Segments.length : Nat) : Int))) = false := decide_eq_false (by omega)
      refine CM_condF rfl g33 ?_
      refine CM_exit ?_
      refine QM_then_exit ?_
      refine QM_then_exit ?_
      have hE73 : rng (R := (DStore × Int)) (fun k (s : (List (List DVersion))) => impl_ReclaimStore_b1 x1 k s) (x0.Segments.length - 0) 0 x0.Segments = Sum.inr d27 := rng_end hl32 hF29
      refine QM_block_hit ?_
      refine QM_then ?_
      refine CM_seq ?_
      refine CM_regionB (n := 8) (listed := #[false, false, false, false, false, false, false, false]) (s := [iBox p23 45 [.slice A19 x0.Segments.length c20, .int .i64 x0.Now], iOwn (tSl (tSl tyVersion 102) 100) [.slice A19 x0.Segments.length c20] d27, iBox p15 45 [.slice A4 x0.Segments.length c5, .int .i64 x0.Now]]) (by kernel_rfl) rfl (by kernel_rfl) (fun W hm => (hm.pick [0, 1, 3] (by decide))) ?_
      refine QB_take 0 (listed' := #[true, false, false, false, false, false, false, false]) (by kernel_rfl) rfl (by kernel_rfl) (by kernel_rfl) (by kernel_rfl) (fun _ _ _ h => h) (fun W hm => rv_loadN (cs := [.slice A19 x0.Segments.length c20, .int .i64 x0.Now]) Try.underlying45 Try.type45 rfl rfl (hm.boxCells (n := 0) rfl)) (Wd_none rfl) rfl (by decide) ?_
      refine QB_take 1 (listed' := #[true, true, false, false, false, false, false, false]) (by kernel_rfl) rfl (by kernel_rfl) (by kernel_rfl) (by kernel_rfl) (fun _ _ _ h => h) (fun W hm => rv_loadN (cs := [.slice A4 x0.Segments.length c5, .int .i64 x0.Now]) Try.underlying45 Try.type45 rfl rfl (hm.boxCells (n := 2) rfl)) (Wd_none rfl) rfl (by decide) ?_
      refine QB_take 3 (listed' := #[true, true, false, true, false, false, false, false]) (by kernel_rfl) rfl (by kernel_rfl) (by kernel_rfl) (by kernel_rfl) (fun _ _ _ h => h) (fun W hm => rv_loadN (cs := [.slice A19 x0.Segments.length c20, .int .i64 x0.Now]) Try.underlying45 Try.type45 rfl rfl (hm.boxCells (n := 0) rfl)) (Wd_none rfl) rfl (by decide) ?_
      refine QB_one 2 (listed' := #[true, true, true, true, false, false, false, false]) (by kernel_rfl) rfl (by kernel_rfl) ?_
      refine WM_callV (cl_fn cb75 rfl) (fun W hm => impl_CountVersions_c W _ x0 (tyStore_mk (x := x0) (hm.rdS0 r7))) (Wd_none rfl) (by decide) ?_
      refine WM_nil ?_
      refine QB_next (fun W hm => (hm.pick [0, 1, 3] (by decide))) ?_
      refine QB_one 4 (listed' := #[true, true, true, true, true, false, false, false]) (by kernel_rfl) rfl (by kernel_rfl) ?_
      refine WM_callV (cl_fn cb75 rfl) (fun W hm => impl_CountVersions_c W _ (⟨d27, x0.Now⟩ : DStore) (tyStore_mk (x := (⟨d27, x0.Now⟩ : DStore)) (hm.rdSI (n := 1) rfl))) (Wd_none rfl) (by decide) ?_
      refine WM_nil ?_
      refine QB_next (fun W hm => (hm.pick [0, 1, 3] (by decide))) ?_
      refine QB_take 5 (listed' := #[true, true, true, true, true, true, false, false]) (by kernel_rfl) rfl (by kernel_rfl) (by kernel_rfl) (by kernel_rfl) (fun _ _ _ h => h) (fun W hm => rv_sub rfl rfl) (Wd_none rfl) rfl (by decide) ?_
      refine QB_one 6 (listed' := #[true, true, true, true, true, true, true, false]) (by kernel_rfl) rfl (by kernel_rfl) ?_
      refine WM_storeBox (p := p16) (o := 0) (cs := [.slice none 0 0, .int .i64 0]) (cs' := [.slice A19 x0.Segments.length c20, .int .i64 x0.Now]) (js := [iBox p23 45 [.slice A19 x0.Segments.length c20, .int .i64 x0.Now], iOwn (tSl (tSl tyVersion 102) 100) [.slice A19 x0.Segments.length c20] d27, iBox p15 45 [.slice A4 x0.Segments.length c5, .int .i64 x0.Now]]) (fun W hm => (hm.pick [2, 0, 1, 3] (by decide))) Try.type45 rfl (Nat.le_of_ble_eq_true rfl) rfl rfl rfl rfl (Wd_none rfl) ?_
      refine WM_nil ?_
      refine QB_next (fun W hm => (hm.pick [1, 2, 3] (by decide))) ?_
      refine QB_take 7 (listed' := #[true, true, true, true, true, true, true, true]) (by kernel_rfl) rfl (by kernel_rfl) (by kernel_rfl) (by kernel_rfl) (fun _ _ _ h => h) (fun W hm => rv_assign rfl) (Wd_none rfl) rfl (by decide) ?_
      refine QB_done (by kernel_rfl) ?_
      refine QM_then ?_
      refine CM_ret ?_
      refine QM_r2 rfl (RR_cell (n := 0) rfl rfl Try.underlying45 Try.type45 rfl) (RR_tmp rfl) (fun W hm => ⟨[.slice A19 x0.Segments.length c20, .int .i64 x0.Now], ?_, ?_⟩)
      · first | rw [(show impl_ReclaimStore_m x0 x1 = ((⟨d27, x0.Now⟩ : DStore), (IntKind.i64.wrap ((impl_CountVersions_m x0) - (impl_CountVersions_m (⟨d27, x0.Now⟩ : DStore))))) from by unfold impl_ReclaimStore_m; exact cond_t g25 (fin_inr hE73 (rfl)))] | rfl
      · rw [(show impl_ReclaimStore_m x0 x1 = ((⟨d27, x0.Now⟩ : DStore), (IntKind.i64.wrap ((impl_CountVersions_m x0) - (impl_CountVersions_m (⟨d27, x0.Now⟩ : DStore))))) from by unfold impl_ReclaimStore_m; exact cond_t g25 (fin_inr hE73 (rfl)))]; exact Mem.join (is := [iOwn (tSl (tSl tyVersion 102) 100) [.slice A19 x0.Segments.length c20] d27]) (js := []) (fun _ _ hs => tyStore_join (x := (⟨d27, x0.Now⟩ : DStore)) hs) (hm.pick [2] (by decide))
  ·
    refine CM_condT rfl (nf g25) ?_
    refine sr ?_
    refine wv (fun W hm => rv_loadN (cs := [.slice A19 x0.Segments.length c20, .int .i64 x0.Now]) Try.underlying45 Try.type45 rfl rfl (hm.boxCells (n := 0) rfl)) ?_
    refine WM_storeBox (p := p16) (o := 0) (cs := [.slice none 0 0, .int .i64 0]) (cs' := [.slice A19 x0.Segments.length c20, .int .i64 x0.Now]) (js := [iBox p23 45 [.slice A19 x0.Segments.length c20, .int .i64 x0.Now], iOwn (tSl (tSl tyVersion 102) 100) [.slice A19 x0.Segments.length c20] x0.Segments, iBox p15 45 [.slice A4 x0.Segments.length c5, .int .i64 x0.Now]]) (fun W hm => (hm.pick [2, 0, 1, 3] (by decide))) Try.type45 rfl (Nat.le_of_ble_eq_true rfl) rfl rfl rfl rfl (Wd_none rfl) ?_
    refine wa ?_
    refine nt' ?_
    refine CM_ret ?_
    refine QM_then_ret ?_
    refine QM_r2 rfl (RR_cell (n := 0) rfl rfl Try.underlying45 Try.type45 rfl) (RR_tmp rfl) (fun W hm => ⟨[.slice A19 x0.Segments.length c20, .int .i64 x0.Now], ?_, ?_⟩)
    · first | rw [(show impl_ReclaimStore_m x0 x1 = (x0, 0) from by unfold impl_ReclaimStore_m; exact cond_f g25 (rfl))] | rfl
    · rw [(show impl_ReclaimStore_m x0 x1 = (x0, 0) from by unfold impl_ReclaimStore_m; exact cond_f g25 (rfl))]; exact Mem.join (is := [iOwn (tSl (tSl tyVersion 102) 100) [.slice A19 x0.Segments.length c20] x0.Segments]) (js := []) (fun _ _ hs => tyStore_join (x := x0) hs) (hm.pick [2] (by decide))

def laws_eqIntS_b1 (x0 : (List Int)) (x1 : (List Int)) (k13 : Nat) : Bool ⊕ (Unit) :=
  cond ((gt x0 k13) != (gt x1 k13)) (Sum.inl false) (Sum.inr ())
def laws_eqIntS_m (x0 : (List Int)) (x1 : (List Int)) : Bool :=
  cond (((x0.length : Nat) : Int) != ((x1.length : Nat) : Int)) false (Sum.elim id (fun (s : Unit) => true) (rng (R := Bool) (fun k (_ : Unit) => laws_eqIntS_b1 x0 x1 k) (x0.length - 0) 0 ()))
theorem cb23 : Cb Try.prog 23 := ⟨Try.f23, _, Try.func23, rfl, by decide⟩
set_option maxRecDepth 10000 in
set_option maxHeartbeats 4000000 in
theorem laws_eqIntS_c (w : World) (z0 : Value) (x0 : (List Int)) (z1 : Value) (x1 : (List Int)) (r_0 : rdS tInt w w.heap.size z0 x0) (r_1 : rdS tInt w w.heap.size z1 x1) :
    Calls Try.prog 23 #[z0, z1] w fun e w' => e = .returned (.bool (laws_eqIntS_m x0 x1)) ∧ Below w.heap.size w w' := by
  have r5 := r_0
  obtain ⟨m1, A2, c3, rfl, q4⟩ := r_0
  have r10 := r_1
  obtain ⟨m6, A7, c8, rfl, q9⟩ := r_1
  refine call_enterM (L := [(0, .slice A2 x0.length c3), (1, .slice A7 x1.length c8)]) (N := 26) Try.func23 rfl rfl (Nat.le_of_ble_eq_true rfl) (argsL_cons rfl (argsL_cons rfl argsL_nil)) ?_
  refine sr ?_
  refine wa ?_
  refine nt' ?_
  refine CM_seq ?_
  refine sr ?_
  refine wm ?_
  refine wv (fun W hm => rv_len Try.underlying33 rfl) ?_
  refine wm ?_
  refine wv (fun W hm => rv_len Try.underlying33 rfl) ?_
  refine wv (fun W hm => rv_neq rfl rfl) ?_
  refine nt' ?_
  by_cases h11 : ((x0.length : Nat) : Int) = ((x1.length : Nat) : Int)
  · have g12 : (((x0.length : Nat) : Int) != ((x1.length : Nat) : Int)) = false := by rw [h11]; exact bne_self_eq_false _
    refine CM_condF rfl g12 ?_
    refine CM_skip ?_
    refine QM_then ?_
    refine CM_seq ?_
    refine sr ?_
    refine wa ?_
    refine nt' ?_
    refine CM_block ?_
    refine CM_loop (σ := Nat × (Unit) × (Unit)) (fun s => [(0, .slice A2 x0.length c3), (1, .slice A7 x1.length c8), (5, .int .i64 ((s.1 : Nat) : Int))]) (fun s => []) (fun s => s.1 ≤ x0.length ∧ rng (R := Bool) (fun k (_ : Unit) => laws_eqIntS_b1 x0 x1 k) (x0.length - s.1) s.1 s.2.1 = rng (R := Bool) (fun k (_ : Unit) => laws_eqIntS_b1 x0 x1 k) (x0.length - 0) 0 ()) (fun s => x0.length - s.1) (0, (), ()) (subL_cons rfl (subL_cons rfl (subL_cons rfl subL_nil))) (fun W hm => hm) ⟨(by omega), rfl⟩ ?_
    rintro ⟨k13, ⟨⟩, ⟨⟩⟩ H16
    obtain ⟨hk14, hF15⟩ : k13 ≤ x0.length ∧ rng (R := Bool) (fun k (_ : Unit) => laws_eqIntS_b1 x0 x1 k) (x0.length - k13) k13 () = rng (R := Bool) (fun k (_ : Unit) => laws_eqIntS_b1 x0 x1 k) (x0.length - 0) 0 () := H16
    show CM Try.prog 26 _ _ _ _ [(0, .slice A2 x0.length c3), (1, .slice A7 x1.length c8), (5, .int .i64 ((k13 : Nat) : Int))] []
    refine CM_seq ?_
    refine sr ?_
    refine wm ?_
    refine wm ?_
    refine wv (fun W hm => rv_len Try.underlying33 rfl) ?_
    refine wv (fun W hm => rv_lss rfl rfl) ?_
    refine nt' ?_
    by_cases hl17 : k13 < x0.length
    · have g18 : (decide (((k13 : Nat) : Int) < ((x0.length : Nat) : Int))) = true := decide_eq_true (by omega)
      refine CM_condT rfl g18 ?_
      refine CM_skip ?_
      refine QM_then ?_
      refine CM_seq ?_
      refine CM_block ?_
      refine CM_seq ?_
      refine CM_regionD (by kernel_rfl) (by kernel_rfl) ?_
      refine qm ?_
      refine qm ?_
      obtain ⟨a19, rfl, hb20, he21⟩ := q4 (by omega)
      refine qv (fun W hm => rv_index (sz := 1) (k := k13) Try.underlying33 Try.type3 rfl rfl rfl (by omega)) ?_
      refine qv (fun W hm => rv_load Try.underlying3 rfl rfl ((hm.cell0 (show (a19.add (k13 * 1)).block < w.heap.size from by rw [add_block]; exact hb20.1)).trans (rdS_int he21 k13 (by omega)))) ?_
      refine qm ?_
      refine qm ?_
      obtain ⟨a22, rfl, hb23, he24⟩ := q9 (by omega)
      refine qv (fun W hm => rv_index (sz := 1) (k := k13) Try.underlying33 Try.type3 rfl rfl rfl (by omega)) ?_
      refine qv (fun W hm => rv_load Try.underlying3 rfl rfl ((hm.cell0 (show (a22.add (k13 * 1)).block < w.heap.size from by rw [add_block]; exact hb23.1)).trans (rdS_int he24 k13 (by omega)))) ?_
      refine qv (fun W hm => rv_neq rfl rfl) ?_
      refine nq' ?_
      by_cases h25 : (gt x0 k13) = (gt x1 k13)
      · have g26 : ((gt x0 k13) != (gt x1 k13)) = false := by rw [h25]; exact bne_self_eq_false _
        refine CM_condF rfl g26 ?_
        refine CM_skip ?_
        refine QM_block_normal ?_
        refine QM_then ?_
        refine CM_region ?_
        refine wm ?_
        refine wv (fun W hm => rv_addN (p := k13) (q := 1) rfl rfl (by omega)) ?_
        refine wa ?_
        refine WM_nil ?_
        have hn27 := rng_next (R := Bool) (body := (fun k (_ : Unit) => laws_eqIntS_b1 x0 x1 k)) (k := k13) (s := ()) (s' := ()) (show k13 < x0.length from by omega) (show laws_eqIntS_b1 x0 x1 k13 = Sum.inr () from by unfold laws_eqIntS_b1; exact cond_f g26 (rfl)) hF15
        exact QM_round (k13 + 1, (), ()) (subL_cons rfl (subL_cons rfl (subL_cons rfl subL_nil))) (fun W hm => hm) ⟨(by omega), hn27⟩ (show x0.length - (k13 + 1) < x0.length - k13 from by omega)
      · have g26 : ((gt x0 k13) != (gt x1 k13)) = true := bne_iff_ne.2 h25
        refine CM_condT rfl g26 ?_
        refine sr ?_
        refine wa ?_
        refine nt' ?_
        refine CM_ret ?_
        refine QM_block_ret ?_
        refine QM_then_ret ?_
        refine QM_then_ret ?_
        refine QM_block_ret ?_
        refine QM_then_ret ?_
        exact QM_ret1 rfl rfl (fun W hm => ⟨ret_b (show laws_eqIntS_m x0 x1 = false from by unfold laws_eqIntS_m; exact cond_f g12 (fin_inl (rng_ret (body := (fun k (_ : Unit) => laws_eqIntS_b1 x0 x1 k)) (k := k13) (s := ()) (show k13 < x0.length from by omega) (show laws_eqIntS_b1 x0 x1 k13 = Sum.inl false from by unfold laws_eqIntS_b1; exact cond_t g26 (rfl)) hF15) rfl)), hm.below⟩)
    · have g18 : (decide (((k13 : Nat) : Int) < ((x0.length : Nat) : Int))) = false := decide_eq_false (by omega)
      refine CM_condF rfl g18 ?_
      refine CM_exit ?_
      refine QM_then_exit ?_
      refine QM_then_exit ?_
      have hE28 : rng (R := Bool) (fun k (_ : Unit) => laws_eqIntS_b1 x0 x1 k) (x0.length - 0) 0 () = Sum.inr () := rng_end hl17 hF15
      refine QM_block_hit ?_
      refine QM_then ?_
      refine sr ?_
      refine wa ?_
      refine nt' ?_
      refine CM_ret ?_
      exact QM_ret1 rfl rfl (fun W hm => ⟨ret_b (show laws_eqIntS_m x0 x1 = true from by unfold laws_eqIntS_m; exact cond_f g12 (fin_inr hE28 (rfl))), hm.below⟩)
  · have g12 : (((x0.length : Nat) : Int) != ((x1.length : Nat) : Int)) = true := bne_iff_ne.2 h11
    refine CM_condT rfl g12 ?_
    refine sr ?_
    refine wa ?_
    refine nt' ?_
    refine CM_ret ?_
    refine QM_then_ret ?_
    exact QM_ret1 rfl rfl (fun W hm => ⟨ret_b (show laws_eqIntS_m x0 x1 = false from by unfold laws_eqIntS_m; exact cond_t g12 (rfl)), hm.below⟩)

def laws_eqVersion_m (x0 : DVersion) (x1 : DVersion) : Bool :=
  cond (x0.Id != x1.Id) false (cond (laws_eqIntS_m x0.Values x1.Values) (cond (x0.Born != x1.Born) false (cond (x0.Died != x1.Died) false true)) false)
theorem cb131 : Cb Try.prog 131 := ⟨Try.f131, _, Try.func131, rfl, by decide⟩
set_option maxRecDepth 10000 in
set_option maxHeartbeats 4000000 in
theorem laws_eqVersion_c (w : World) (z0 : List Value) (x0 : DVersion) (z1 : List Value) (x1 : DVersion) (r_0 : tyVersion.rd w w.heap.size z0 x0) (r_1 : tyVersion.rd w w.heap.size z1 x1) :
    Calls Try.prog 131 #[.agg z0.toArray, .agg z1.toArray] w fun e w' => e = .returned (.bool (laws_eqVersion_m x0 x1)) ∧ Below w.heap.size w w' := by
  obtain ⟨v1, rfl, r2⟩ := tyVersion_rd r_0
  have r7 := r2
  obtain ⟨m3, A4, c5, rfl, q6⟩ := r2
  obtain ⟨v8, rfl, r9⟩ := tyVersion_rd r_1
  have r14 := r9
  obtain ⟨m10, A11, c12, rfl, q13⟩ := r9
  refine call_enterM (L := [(0, .agg #[.int .i64 x0.Id, .slice A4 x0.Values.length c5, .int .i64 x0.Born, .int .i64 x0.Died]), (1, .agg #[.int .i64 x1.Id, .slice A11 x1.Values.length c12, .int .i64 x1.Born, .int .i64 x1.Died])]) (N := 26) Try.func131 rfl rfl (Nat.le_of_ble_eq_true rfl) (argsL_cons rfl (argsL_cons rfl argsL_nil)) ?_
  refine sr ?_
  refine WM_box rfl (Wd_none rfl) (by decide) (fun p15 => ?_)
  refine WM_box rfl (Wd_none rfl) (by decide) (fun p16 => ?_)
  refine wa ?_
  refine nt' ?_
  refine CM_seq ?_
  refine sr ?_
  refine wv (fun W hm => rv_field Try.underlying102 rfl Try.type3 (by decide) rfl rfl) ?_
  refine wv (fun W hm => rv_load Try.underlying3 rfl rfl (hm.boxCell (n := 1) (o := 0) rfl rfl)) ?_
  refine wv (fun W hm => rv_field Try.underlying102 rfl Try.type3 (by decide) rfl rfl) ?_
  refine wv (fun W hm => rv_load Try.underlying3 rfl rfl (hm.boxCell (n := 0) (o := 0) rfl rfl)) ?_
  refine wv (fun W hm => rv_neq rfl rfl) ?_
  refine nt' ?_
  by_cases h17 : x0.Id = x1.Id
  · have g18 : (x0.Id != x1.Id) = false := by rw [h17]; exact bne_self_eq_false _
    refine CM_condF rfl g18 ?_
    refine CM_skip ?_
    refine QM_then ?_
    refine CM_seq ?_
    refine sr ?_
    refine wv (fun W hm => rv_field Try.underlying102 rfl Try.type33 (by decide) rfl rfl) ?_
    refine wv (fun W hm => rv_load Try.underlying33 rfl rfl (hm.boxCell (n := 1) (o := 1) rfl rfl)) ?_
    refine wv (fun W hm => rv_field Try.underlying102 rfl Try.type33 (by decide) rfl rfl) ?_
    refine wv (fun W hm => rv_load Try.underlying33 rfl rfl (hm.boxCell (n := 0) (o := 1) rfl rfl)) ?_
    refine WM_callV (cl_fn cb23 rfl) (fun W hm => laws_eqIntS_c W _ x0.Values _ x1.Values (hm.rdS0 r7) (hm.rdS0 r14)) (Wd_none rfl) (by decide) ?_
    refine wv (fun W hm => rv_not rfl) ?_
    refine nt' ?_
    rcases Bool.eq_false_or_eq_true (laws_eqIntS_m x0.Values x1.Values) with g20 | g20
    ·
      refine CM_condF rfl (nt g20) ?_
      refine CM_skip ?_
      refine QM_then ?_
      refine CM_seq ?_
      refine sr ?_
      refine wv (fun W hm => rv_field Try.underlying102 rfl Try.type3 (by decide) rfl rfl) ?_
      refine wv (fun W hm => rv_load Try.underlying3 rfl rfl (hm.boxCell (n := 1) (o := 2) rfl rfl)) ?_
      refine wv (fun W hm => rv_field Try.underlying102 rfl Try.type3 (by decide) rfl rfl) ?_
      refine wv (fun W hm => rv_load Try.underlying3 rfl rfl (hm.boxCell (n := 0) (o := 2) rfl rfl)) ?_
      refine wv (fun W hm => rv_neq rfl rfl) ?_
      refine nt' ?_
      by_cases h21 : x0.Born = x1.Born
      · have g22 : (x0.Born != x1.Born) = false := by rw [h21]; exact bne_self_eq_false _
        refine CM_condF rfl g22 ?_
        refine CM_skip ?_
        refine QM_then ?_
        refine CM_seq ?_
        refine sr ?_
        refine wv (fun W hm => rv_field Try.underlying102 rfl Try.type3 (by decide) rfl rfl) ?_
        refine wv (fun W hm => rv_load Try.underlying3 rfl rfl (hm.boxCell (n := 1) (o := 3) rfl rfl)) ?_
        refine wv (fun W hm => rv_field Try.underlying102 rfl Try.type3 (by decide) rfl rfl) ?_
        refine wv (fun W hm => rv_load Try.underlying3 rfl rfl (hm.boxCell (n := 0) (o := 3) rfl rfl)) ?_
        refine wv (fun W hm => rv_neq rfl rfl) ?_
        refine nt' ?_
        by_cases h23 : x0.Died = x1.Died
        · have g24 : (x0.Died != x1.Died) = false := by rw [h23]; exact bne_self_eq_false _
          refine CM_condF rfl g24 ?_
          refine CM_skip ?_
          refine QM_then ?_
          refine sr ?_
          refine wa ?_
          refine nt' ?_
          refine CM_ret ?_
          exact QM_ret1 rfl rfl (fun W hm => ⟨ret_b (show laws_eqVersion_m x0 x1 = true from by unfold laws_eqVersion_m; exact cond_f g18 (cond_t g20 (cond_f g22 (cond_f g24 (rfl))))), hm.below⟩)
        · have g24 : (x0.Died != x1.Died) = true := bne_iff_ne.2 h23
          refine CM_condT rfl g24 ?_
          refine sr ?_
          refine wa ?_
          refine nt' ?_
          refine CM_ret ?_
          refine QM_then_ret ?_
          exact QM_ret1 rfl rfl (fun W hm => ⟨ret_b (show laws_eqVersion_m x0 x1 = false from by unfold laws_eqVersion_m; exact cond_f g18 (cond_t g20 (cond_f g22 (cond_t g24 (rfl))))), hm.below⟩)
      · have g22 : (x0.Born != x1.Born) = true := bne_iff_ne.2 h21
        refine CM_condT rfl g22 ?_
        refine sr ?_
        refine wa ?_
        refine nt' ?_
        refine CM_ret ?_
        refine QM_then_ret ?_
        exact QM_ret1 rfl rfl (fun W hm => ⟨ret_b (show laws_eqVersion_m x0 x1 = false from by unfold laws_eqVersion_m; exact cond_f g18 (cond_t g20 (cond_t g22 (rfl)))), hm.below⟩)
    ·
      refine CM_condT rfl (nf g20) ?_
      refine sr ?_
      refine wa ?_
      refine nt' ?_
      refine CM_ret ?_
      refine QM_then_ret ?_
      exact QM_ret1 rfl rfl (fun W hm => ⟨ret_b (show laws_eqVersion_m x0 x1 = false from by unfold laws_eqVersion_m; exact cond_f g18 (cond_f g20 (rfl))), hm.below⟩)
  · have g18 : (x0.Id != x1.Id) = true := bne_iff_ne.2 h17
    refine CM_condT rfl g18 ?_
    refine sr ?_
    refine wa ?_
    refine nt' ?_
    refine CM_ret ?_
    refine QM_then_ret ?_
    exact QM_ret1 rfl rfl (fun W hm => ⟨ret_b (show laws_eqVersion_m x0 x1 = false from by unfold laws_eqVersion_m; exact cond_t g18 (rfl)), hm.below⟩)

def laws_eqVersionS_b1 (x0 : (List DVersion)) (x1 : (List DVersion)) (k13 : Nat) : Bool ⊕ (Unit) :=
  cond (laws_eqVersion_m (gt x0 k13) (gt x1 k13)) (Sum.inr ()) (Sum.inl false)
def laws_eqVersionS_m (x0 : (List DVersion)) (x1 : (List DVersion)) : Bool :=
  cond (((x0.length : Nat) : Int) != ((x1.length : Nat) : Int)) false (Sum.elim id (fun (s : Unit) => true) (rng (R := Bool) (fun k (_ : Unit) => laws_eqVersionS_b1 x0 x1 k) (x0.length - 0) 0 ()))
theorem cb118 : Cb Try.prog 118 := ⟨Try.f118, _, Try.func118, rfl, by decide⟩
set_option maxRecDepth 10000 in
set_option maxHeartbeats 4000000 in
theorem laws_eqVersionS_c (w : World) (z0 : Value) (x0 : (List DVersion)) (z1 : Value) (x1 : (List DVersion)) (r_0 : rdS tyVersion w w.heap.size z0 x0) (r_1 : rdS tyVersion w w.heap.size z1 x1) :
    Calls Try.prog 118 #[z0, z1] w fun e w' => e = .returned (.bool (laws_eqVersionS_m x0 x1)) ∧ Below w.heap.size w w' := by
  have r5 := r_0
  obtain ⟨m1, A2, c3, rfl, q4⟩ := r_0
  have r10 := r_1
  obtain ⟨m6, A7, c8, rfl, q9⟩ := r_1
  refine call_enterM (L := [(0, .slice A2 x0.length c3), (1, .slice A7 x1.length c8)]) (N := 27) Try.func118 rfl rfl (Nat.le_of_ble_eq_true rfl) (argsL_cons rfl (argsL_cons rfl argsL_nil)) ?_
  refine sr ?_
  refine wa ?_
  refine nt' ?_
  refine CM_seq ?_
  refine sr ?_
  refine wm ?_
  refine wv (fun W hm => rv_len Try.underlying100 rfl) ?_
  refine wm ?_
  refine wv (fun W hm => rv_len Try.underlying100 rfl) ?_
  refine wv (fun W hm => rv_neq rfl rfl) ?_
  refine nt' ?_
  by_cases h11 : ((x0.length : Nat) : Int) = ((x1.length : Nat) : Int)
  · have g12 : (((x0.length : Nat) : Int) != ((x1.length : Nat) : Int)) = false := by rw [h11]; exact bne_self_eq_false _
    refine CM_condF rfl g12 ?_
    refine CM_skip ?_
    refine QM_then ?_
    refine CM_seq ?_
    refine sr ?_
    refine wa ?_
    refine nt' ?_
    refine CM_block ?_
    refine CM_loop (σ := Nat × (Unit) × (Unit)) (fun s => [(0, .slice A2 x0.length c3), (1, .slice A7 x1.length c8), (5, .int .i64 ((s.1 : Nat) : Int))]) (fun s => []) (fun s => s.1 ≤ x0.length ∧ rng (R := Bool) (fun k (_ : Unit) => laws_eqVersionS_b1 x0 x1 k) (x0.length - s.1) s.1 s.2.1 = rng (R := Bool) (fun k (_ : Unit) => laws_eqVersionS_b1 x0 x1 k) (x0.length - 0) 0 ()) (fun s => x0.length - s.1) (0, (), ()) (subL_cons rfl (subL_cons rfl (subL_cons rfl subL_nil))) (fun W hm => hm) ⟨(by omega), rfl⟩ ?_
    rintro ⟨k13, ⟨⟩, ⟨⟩⟩ H16
    obtain ⟨hk14, hF15⟩ : k13 ≤ x0.length ∧ rng (R := Bool) (fun k (_ : Unit) => laws_eqVersionS_b1 x0 x1 k) (x0.length - k13) k13 () = rng (R := Bool) (fun k (_ : Unit) => laws_eqVersionS_b1 x0 x1 k) (x0.length - 0) 0 () := H16
    show CM Try.prog 27 _ _ _ _ [(0, .slice A2 x0.length c3), (1, .slice A7 x1.length c8), (5, .int .i64 ((k13 : Nat) : Int))] []
    refine CM_seq ?_
    refine sr ?_
    refine wm ?_
    refine wm ?_
    refine wv (fun W hm => rv_len Try.underlying100 rfl) ?_
    refine wv (fun W hm => rv_lss rfl rfl) ?_
    refine nt' ?_
    by_cases hl17 : k13 < x0.length
    · have g18 : (decide (((k13 : Nat) : Int) < ((x0.length : Nat) : Int))) = true := decide_eq_true (by omega)
      refine CM_condT rfl g18 ?_
      refine CM_skip ?_
      refine QM_then ?_
      refine CM_seq ?_
      refine CM_block ?_
      refine CM_seq ?_
      refine CM_regionD (by kernel_rfl) (by kernel_rfl) ?_
      refine qm ?_
      refine qm ?_
      obtain ⟨a19, rfl, hb20, he21⟩ := q4 (by omega)
      refine qv (fun W hm => rv_index (sz := 4) (k := k13) Try.underlying100 Try.type102 rfl rfl rfl (by omega)) ?_
      obtain ⟨_, e25, hc22⟩ := he21 k13 _ (gt_some (show k13 < x0.length from by omega))
      obtain ⟨v23, rfl, r24⟩ := tyVersion_rd e25
      have r30 := r24
      obtain ⟨m26, A27, c28, rfl, q29⟩ := r24
      refine qv (fun W hm => rv_loadN (cs := [.int .i64 ((gt x0 k13).Id), .slice A27 ((gt x0 k13).Values).length c28, .int .i64 ((gt x0 k13).Born), .int .i64 ((gt x0 k13).Died)]) Try.underlying102 Try.type102 rfl rfl (hm.elCells (show (a19.add (k13 * 4)).block < w.heap.size from by rw [add_block]; exact hb20.1) hc22)) ?_
      refine qm ?_
      refine qm ?_
      obtain ⟨a31, rfl, hb32, he33⟩ := q9 (by omega)
      refine qv (fun W hm => rv_index (sz := 4) (k := k13) Try.underlying100 Try.type102 rfl rfl rfl (by omega)) ?_
      obtain ⟨_, e37, hc34⟩ := he33 k13 _ (gt_some (show k13 < x1.length from by omega))
      obtain ⟨v35, rfl, r36⟩ := tyVersion_rd e37
      have r42 := r36
      obtain ⟨m38, A39, c40, rfl, q41⟩ := r36
      refine qv (fun W hm => rv_loadN (cs := [.int .i64 ((gt x1 k13).Id), .slice A39 ((gt x1 k13).Values).length c40, .int .i64 ((gt x1 k13).Born), .int .i64 ((gt x1 k13).Died)]) Try.underlying102 Try.type102 rfl rfl (hm.elCells (show (a31.add (k13 * 4)).block < w.heap.size from by rw [add_block]; exact hb32.1) hc34)) ?_
      refine QR_callV (cl_fn cb131 rfl) (fun W hm => laws_eqVersion_c W _ (gt x0 k13) _ (gt x1 k13) (tyVersion_mk (x := (gt x0 k13)) (hm.rdS0 r30)) (tyVersion_mk (x := (gt x1 k13)) (hm.rdS0 r42))) (Wd_none rfl) (by decide) ?_
      refine qv (fun W hm => rv_not rfl) ?_
      refine nq' ?_
      rcases Bool.eq_false_or_eq_true (laws_eqVersion_m (gt x0 k13) (gt x1 k13)) with g44 | g44
      ·
        refine CM_condF rfl (nt g44) ?_
        refine CM_skip ?_
        refine QM_block_normal ?_
        refine QM_then ?_
        refine CM_region ?_
        refine wm ?_
        refine wv (fun W hm => rv_addN (p := k13) (q := 1) rfl rfl (by omega)) ?_
        refine wa ?_
        refine WM_nil ?_
        have hn45 := rng_next (R := Bool) (body := (fun k (_ : Unit) => laws_eqVersionS_b1 x0 x1 k)) (k := k13) (s := ()) (s' := ()) (show k13 < x0.length from by omega) (show laws_eqVersionS_b1 x0 x1 k13 = Sum.inr () from by unfold laws_eqVersionS_b1; exact cond_t g44 (rfl)) hF15
        exact QM_round (k13 + 1, (), ()) (subL_cons rfl (subL_cons rfl (subL_cons rfl subL_nil))) (fun W hm => hm) ⟨(by omega), hn45⟩ (show x0.length - (k13 + 1) < x0.length - k13 from by omega)
      ·
        refine CM_condT rfl (nf g44) ?_
        refine sr ?_
        refine wa ?_
        refine nt' ?_
        refine CM_ret ?_
        refine QM_block_ret ?_
        refine QM_then_ret ?_
        refine QM_then_ret ?_
        refine QM_block_ret ?_
        refine QM_then_ret ?_
        exact QM_ret1 rfl rfl (fun W hm => ⟨ret_b (show laws_eqVersionS_m x0 x1 = false from by unfold laws_eqVersionS_m; exact cond_f g12 (fin_inl (rng_ret (body := (fun k (_ : Unit) => laws_eqVersionS_b1 x0 x1 k)) (k := k13) (s := ()) (show k13 < x0.length from by omega) (show laws_eqVersionS_b1 x0 x1 k13 = Sum.inl false from by unfold laws_eqVersionS_b1; exact cond_f g44 (rfl)) hF15) rfl)), hm.below⟩)
    · have g18 : (decide (((k13 : Nat) : Int) < ((x0.length : Nat) : Int))) = false := decide_eq_false (by omega)
      refine CM_condF rfl g18 ?_
      refine CM_exit ?_
      refine QM_then_exit ?_
      refine QM_then_exit ?_
      have hE46 : rng (R := Bool) (fun k (_ : Unit) => laws_eqVersionS_b1 x0 x1 k) (x0.length - 0) 0 () = Sum.inr () := rng_end hl17 hF15
      refine QM_block_hit ?_
      refine QM_then ?_
      refine sr ?_
      refine wa ?_
      refine nt' ?_
      refine CM_ret ?_
      exact QM_ret1 rfl rfl (fun W hm => ⟨ret_b (show laws_eqVersionS_m x0 x1 = true from by unfold laws_eqVersionS_m; exact cond_f g12 (fin_inr hE46 (rfl))), hm.below⟩)
  · have g12 : (((x0.length : Nat) : Int) != ((x1.length : Nat) : Int)) = true := bne_iff_ne.2 h11
    refine CM_condT rfl g12 ?_
    refine sr ?_
    refine wa ?_
    refine nt' ?_
    refine CM_ret ?_
    refine QM_then_ret ?_
    exact QM_ret1 rfl rfl (fun W hm => ⟨ret_b (show laws_eqVersionS_m x0 x1 = false from by unfold laws_eqVersionS_m; exact cond_t g12 (rfl)), hm.below⟩)

def laws_eqVersionSS_b1 (x0 : (List (List DVersion))) (x1 : (List (List DVersion))) (k13 : Nat) : Bool ⊕ (Unit) :=
  cond (laws_eqVersionS_m (gt x0 k13) (gt x1 k13)) (Sum.inr ()) (Sum.inl false)
def laws_eqVersionSS_m (x0 : (List (List DVersion))) (x1 : (List (List DVersion))) : Bool :=
  cond (((x0.length : Nat) : Int) != ((x1.length : Nat) : Int)) false (Sum.elim id (fun (s : Unit) => true) (rng (R := Bool) (fun k (_ : Unit) => laws_eqVersionSS_b1 x0 x1 k) (x0.length - 0) 0 ()))
theorem cb76 : Cb Try.prog 76 := ⟨Try.f76, _, Try.func76, rfl, by decide⟩
set_option maxRecDepth 10000 in
set_option maxHeartbeats 4000000 in
theorem laws_eqVersionSS_c (w : World) (z0 : Value) (x0 : (List (List DVersion))) (z1 : Value) (x1 : (List (List DVersion))) (r_0 : rdS (tSl tyVersion 102) w w.heap.size z0 x0) (r_1 : rdS (tSl tyVersion 102) w w.heap.size z1 x1) :
    Calls Try.prog 76 #[z0, z1] w fun e w' => e = .returned (.bool (laws_eqVersionSS_m x0 x1)) ∧ Below w.heap.size w w' := by
  have r5 := r_0
  obtain ⟨m1, A2, c3, rfl, q4⟩ := r_0
  have r10 := r_1
  obtain ⟨m6, A7, c8, rfl, q9⟩ := r_1
  refine call_enterM (L := [(0, .slice A2 x0.length c3), (1, .slice A7 x1.length c8)]) (N := 27) Try.func76 rfl rfl (Nat.le_of_ble_eq_true rfl) (argsL_cons rfl (argsL_cons rfl argsL_nil)) ?_
  refine sr ?_
  refine wa ?_
  refine nt' ?_
  refine CM_seq ?_
  refine sr ?_
  refine wm ?_
  refine wv (fun W hm => rv_len Try.underlying43 rfl) ?_
  refine wm ?_
  refine wv (fun W hm => rv_len Try.underlying43 rfl) ?_
  refine wv (fun W hm => rv_neq rfl rfl) ?_
  refine nt' ?_
  by_cases h11 : ((x0.length : Nat) : Int) = ((x1.length : Nat) : Int)
  · have g12 : (((x0.length : Nat) : Int) != ((x1.length : Nat) : Int)) = false := by rw [h11]; exact bne_self_eq_false _
    refine CM_condF rfl g12 ?_
    refine CM_skip ?_
    refine QM_then ?_
    refine CM_seq ?_
    refine sr ?_
    refine wa ?_
    refine nt' ?_
    refine CM_block ?_
    refine CM_loop (σ := Nat × (Unit) × (Unit)) (fun s => [(0, .slice A2 x0.length c3), (1, .slice A7 x1.length c8), (5, .int .i64 ((s.1 : Nat) : Int))]) (fun s => []) (fun s => s.1 ≤ x0.length ∧ rng (R := Bool) (fun k (_ : Unit) => laws_eqVersionSS_b1 x0 x1 k) (x0.length - s.1) s.1 s.2.1 = rng (R := Bool) (fun k (_ : Unit) => laws_eqVersionSS_b1 x0 x1 k) (x0.length - 0) 0 ()) (fun s => x0.length - s.1) (0, (), ()) (subL_cons rfl (subL_cons rfl (subL_cons rfl subL_nil))) (fun W hm => hm) ⟨(by omega), rfl⟩ ?_
    rintro ⟨k13, ⟨⟩, ⟨⟩⟩ H16
    obtain ⟨hk14, hF15⟩ : k13 ≤ x0.length ∧ rng (R := Bool) (fun k (_ : Unit) => laws_eqVersionSS_b1 x0 x1 k) (x0.length - k13) k13 () = rng (R := Bool) (fun k (_ : Unit) => laws_eqVersionSS_b1 x0 x1 k) (x0.length - 0) 0 () := H16
    show CM Try.prog 27 _ _ _ _ [(0, .slice A2 x0.length c3), (1, .slice A7 x1.length c8), (5, .int .i64 ((k13 : Nat) : Int))] []
    refine CM_seq ?_
    refine sr ?_
    refine wm ?_
    refine wm ?_
    refine wv (fun W hm => rv_len Try.underlying43 rfl) ?_
    refine wv (fun W hm => rv_lss rfl rfl) ?_
    refine nt' ?_
    by_cases hl17 : k13 < x0.length
    · have g18 : (decide (((k13 : Nat) : Int) < ((x0.length : Nat) : Int))) = true := decide_eq_true (by omega)
      refine CM_condT rfl g18 ?_
      refine CM_skip ?_
      refine QM_then ?_
      refine CM_seq ?_
      refine CM_block ?_
      refine CM_seq ?_
      refine CM_regionD (by kernel_rfl) (by kernel_rfl) ?_
      refine qm ?_
      refine qm ?_
      obtain ⟨a19, rfl, hb20, he21⟩ := q4 (by omega)
      refine qv (fun W hm => rv_index (sz := 1) (k := k13) Try.underlying43 Try.type100 rfl rfl rfl (by omega)) ?_
      obtain ⟨_, e23, hc22⟩ := he21 k13 _ (gt_some (show k13 < x0.length from by omega))
      obtain ⟨v24, rfl, r25⟩ := e23
      have r30 := r25
      obtain ⟨m26, A27, c28, rfl, q29⟩ := r25
      refine qv (fun W hm => rv_load Try.underlying100 rfl rfl ((hm.cell0 (show (a19.add (k13 * 1)).block < w.heap.size from by rw [add_block]; exact hb20.1)).trans (hc22 0 _ rfl))) ?_
      refine qm ?_
      refine qm ?_
      obtain ⟨a31, rfl, hb32, he33⟩ := q9 (by omega)
      refine qv (fun W hm => rv_index (sz := 1) (k := k13) Try.underlying43 Try.type100 rfl rfl rfl (by omega)) ?_
      obtain ⟨_, e35, hc34⟩ := he33 k13 _ (gt_some (show k13 < x1.length from by omega))
      obtain ⟨v36, rfl, r37⟩ := e35
      have r42 := r37
      obtain ⟨m38, A39, c40, rfl, q41⟩ := r37
      refine qv (fun W hm => rv_load Try.underlying100 rfl rfl ((hm.cell0 (show (a31.add (k13 * 1)).block < w.heap.size from by rw [add_block]; exact hb32.1)).trans (hc34 0 _ rfl))) ?_
      refine QR_callV (cl_fn cb118 rfl) (fun W hm => laws_eqVersionS_c W _ (gt x0 k13) _ (gt x1 k13) (hm.rdS0 r30) (hm.rdS0 r42)) (Wd_none rfl) (by decide) ?_
      refine qv (fun W hm => rv_not rfl) ?_
      refine nq' ?_
      rcases Bool.eq_false_or_eq_true (laws_eqVersionS_m (gt x0 k13) (gt x1 k13)) with g44 | g44
      ·
        refine CM_condF rfl (nt g44) ?_
        refine CM_skip ?_
        refine QM_block_normal ?_
        refine QM_then ?_
        refine CM_region ?_
        refine wm ?_
        refine wv (fun W hm => rv_addN (p := k13) (q := 1) rfl rfl (by omega)) ?_
        refine wa ?_
        refine WM_nil ?_
        have hn45 := rng_next (R := Bool) (body := (fun k (_ : Unit) => laws_eqVersionSS_b1 x0 x1 k)) (k := k13) (s := ()) (s' := ()) (show k13 < x0.length from by omega) (show laws_eqVersionSS_b1 x0 x1 k13 = Sum.inr () from by unfold laws_eqVersionSS_b1; exact cond_t g44 (rfl)) hF15
        exact QM_round (k13 + 1, (), ()) (subL_cons rfl (subL_cons rfl (subL_cons rfl subL_nil))) (fun W hm => hm) ⟨(by omega), hn45⟩ (show x0.length - (k13 + 1) < x0.length - k13 from by omega)
      ·
        refine CM_condT rfl (nf g44) ?_
        refine sr ?_
        refine wa ?_
        refine nt' ?_
        refine CM_ret ?_
        refine QM_block_ret ?_
        refine QM_then_ret ?_
        refine QM_then_ret ?_
        refine QM_block_ret ?_
        refine QM_then_ret ?_
        exact QM_ret1 rfl rfl (fun W hm => ⟨ret_b (show laws_eqVersionSS_m x0 x1 = false from by unfold laws_eqVersionSS_m; exact cond_f g12 (fin_inl (rng_ret (body := (fun k (_ : Unit) => laws_eqVersionSS_b1 x0 x1 k)) (k := k13) (s := ()) (show k13 < x0.length from by omega) (show laws_eqVersionSS_b1 x0 x1 k13 = Sum.inl false from by unfold laws_eqVersionSS_b1; exact cond_f g44 (rfl)) hF15) rfl)), hm.below⟩)
    · have g18 : (decide (((k13 : Nat) : Int) < ((x0.length : Nat) : Int))) = false := decide_eq_false (by omega)
      refine CM_condF rfl g18 ?_
      refine CM_exit ?_
      refine QM_then_exit ?_
      refine QM_then_exit ?_
      have hE46 : rng (R := Bool) (fun k (_ : Unit) => laws_eqVersionSS_b1 x0 x1 k) (x0.length - 0) 0 () = Sum.inr () := rng_end hl17 hF15
      refine QM_block_hit ?_
      refine QM_then ?_
      refine sr ?_
      refine wa ?_
      refine nt' ?_
      refine CM_ret ?_
      exact QM_ret1 rfl rfl (fun W hm => ⟨ret_b (show laws_eqVersionSS_m x0 x1 = true from by unfold laws_eqVersionSS_m; exact cond_f g12 (fin_inr hE46 (rfl))), hm.below⟩)
  · have g12 : (((x0.length : Nat) : Int) != ((x1.length : Nat) : Int)) = true := bne_iff_ne.2 h11
    refine CM_condT rfl g12 ?_
    refine sr ?_
    refine wa ?_
    refine nt' ?_
    refine CM_ret ?_
    refine QM_then_ret ?_
    exact QM_ret1 rfl rfl (fun W hm => ⟨ret_b (show laws_eqVersionSS_m x0 x1 = false from by unfold laws_eqVersionSS_m; exact cond_t g12 (rfl)), hm.below⟩)

def laws_eqStore_m (x0 : DStore) (x1 : DStore) : Bool :=
  cond (laws_eqVersionSS_m x0.Segments x1.Segments) (cond (x0.Now != x1.Now) false true) false
theorem cb30 : Cb Try.prog 30 := ⟨Try.f30, _, Try.func30, rfl, by decide⟩
set_option maxRecDepth 10000 in
set_option maxHeartbeats 4000000 in
theorem laws_eqStore_c (w : World) (z0 : List Value) (x0 : DStore) (z1 : List Value) (x1 : DStore) (r_0 : tyStore.rd w w.heap.size z0 x0) (r_1 : tyStore.rd w w.heap.size z1 x1) :
    Calls Try.prog 30 #[.agg z0.toArray, .agg z1.toArray] w fun e w' => e = .returned (.bool (laws_eqStore_m x0 x1)) ∧ Below w.heap.size w w' := by
  obtain ⟨v1, rfl, r2⟩ := tyStore_rd r_0
  have r7 := r2
  obtain ⟨m3, A4, c5, rfl, q6⟩ := r2
  obtain ⟨v8, rfl, r9⟩ := tyStore_rd r_1
  have r14 := r9
  obtain ⟨m10, A11, c12, rfl, q13⟩ := r9
  refine call_enterM (L := [(0, .agg #[.slice A4 x0.Segments.length c5, .int .i64 x0.Now]), (1, .agg #[.slice A11 x1.Segments.length c12, .int .i64 x1.Now])]) (N := 16) Try.func30 rfl rfl (Nat.le_of_ble_eq_true rfl) (argsL_cons rfl (argsL_cons rfl argsL_nil)) ?_
  refine sr ?_
  refine WM_box rfl (Wd_none rfl) (by decide) (fun p15 => ?_)
  refine WM_box rfl (Wd_none rfl) (by decide) (fun p16 => ?_)
  refine wa ?_
  refine nt' ?_
  refine CM_seq ?_
  refine sr ?_
  refine wv (fun W hm => rv_field Try.underlying45 rfl Try.type43 (by decide) rfl rfl) ?_
  refine wv (fun W hm => rv_load Try.underlying43 rfl rfl (hm.boxCell (n := 1) (o := 0) rfl rfl)) ?_
  refine wv (fun W hm => rv_field Try.underlying45 rfl Try.type43 (by decide) rfl rfl) ?_
  refine wv (fun W hm => rv_load Try.underlying43 rfl rfl (hm.boxCell (n := 0) (o := 0) rfl rfl)) ?_
  refine WM_callV (cl_fn cb76 rfl) (fun W hm => laws_eqVersionSS_c W _ x0.Segments _ x1.Segments (hm.rdS0 r7) (hm.rdS0 r14)) (Wd_none rfl) (by decide) ?_
  refine wv (fun W hm => rv_not rfl) ?_
  refine nt' ?_
  rcases Bool.eq_false_or_eq_true (laws_eqVersionSS_m x0.Segments x1.Segments) with g18 | g18
  ·
    refine CM_condF rfl (nt g18) ?_
    refine CM_skip ?_
    refine QM_then ?_
    refine CM_seq ?_
    refine sr ?_
    refine wv (fun W hm => rv_field Try.underlying45 rfl Try.type3 (by decide) rfl rfl) ?_
    refine wv (fun W hm => rv_load Try.underlying3 rfl rfl (hm.boxCell (n := 1) (o := 1) rfl rfl)) ?_
    refine wv (fun W hm => rv_field Try.underlying45 rfl Try.type3 (by decide) rfl rfl) ?_
    refine wv (fun W hm => rv_load Try.underlying3 rfl rfl (hm.boxCell (n := 0) (o := 1) rfl rfl)) ?_
    refine wv (fun W hm => rv_neq rfl rfl) ?_
    refine nt' ?_
    by_cases h19 : x0.Now = x1.Now
    · have g20 : (x0.Now != x1.Now) = false := by rw [h19]; exact bne_self_eq_false _
      refine CM_condF rfl g20 ?_
      refine CM_skip ?_
      refine QM_then ?_
      refine sr ?_
      refine wa ?_
      refine nt' ?_
      refine CM_ret ?_
      exact QM_ret1 rfl rfl (fun W hm => ⟨ret_b (show laws_eqStore_m x0 x1 = true from by unfold laws_eqStore_m; exact cond_t g18 (cond_f g20 (rfl))), hm.below⟩)
    · have g20 : (x0.Now != x1.Now) = true := bne_iff_ne.2 h19
      refine CM_condT rfl g20 ?_
      refine sr ?_
      refine wa ?_
      refine nt' ?_
      refine CM_ret ?_
      refine QM_then_ret ?_
      exact QM_ret1 rfl rfl (fun W hm => ⟨ret_b (show laws_eqStore_m x0 x1 = false from by unfold laws_eqStore_m; exact cond_t g18 (cond_t g20 (rfl))), hm.below⟩)
  ·
    refine CM_condT rfl (nf g18) ?_
    refine sr ?_
    refine wa ?_
    refine nt' ?_
    refine CM_ret ?_
    refine QM_then_ret ?_
    exact QM_ret1 rfl rfl (fun W hm => ⟨ret_b (show laws_eqStore_m x0 x1 = false from by unfold laws_eqStore_m; exact cond_f g18 (rfl)), hm.below⟩)

def laws_markIntS_b1 (k5 : Nat) (s6 : Int) (d7 : (List Int)) : (Int × (List Int)) ⊕ (Int × (List Int)) :=
  Sum.inr ((IntKind.i64.wrap (s6 + 1)), (d7.set k5 s6))
def laws_markIntS_m (x0 : (List Int)) (x1 : Int) : (Int × (List Int)) :=
  Sum.elim id (fun (s : Int × (List Int)) => (s.1, s.2)) (rng (R := (Int × (List Int))) (fun k (s : Int × (List Int)) => laws_markIntS_b1 k s.1 s.2) (x0.length - 0) 0 (x1, x0))
theorem cb24 : Cb Try.prog 24 := ⟨Try.f24, _, Try.func24, rfl, by decide⟩
set_option maxRecDepth 10000 in
set_option maxHeartbeats 4000000 in
theorem laws_markIntS_c (B : Nat) (w0 : World) (is : List It) (w : World) (z0 : Value) (x0 : (List Int)) (x1 : Int) (hm : Mem B w0 (iOwn (tSl tInt 3) [z0] x0 :: is) w) :
    Calls Try.prog 24 #[z0, .int .i64 x1] w fun e w' => e = .returned (.int .i64 (laws_markIntS_m x0 x1).1) ∧ Mem B w0 (iOwn (tSl tInt 3) [z0] (laws_markIntS_m x0 x1).2 :: is) w' := by
  refine call_enterW (L := [(0, z0), (1, .int .i64 x1)]) (N := 19) Try.func24 rfl rfl (Nat.le_of_ble_eq_true rfl) (argsL_cons rfl (argsL_cons rfl argsL_nil)) hm ?_
  refine CM_form (n := 0) rfl ?_
  rintro A1 c2 rfl m3
  refine sr ?_
  refine wa ?_
  refine nt' ?_
  refine CM_seq ?_
  refine sr ?_
  refine wa ?_
  refine nt' ?_
  refine CM_block ?_
  refine CM_loop (σ := Nat × (Int × (List Int)) × (Unit)) (fun s => [(0, .slice A1 x0.length c2), (1, .int .i64 s.2.1.1), (5, .int .i64 ((s.1 : Nat) : Int))]) (fun s => (iOwn (tSl tInt 3) [.slice A1 x0.length c2] s.2.1.2 :: is)) (fun s => s.1 ≤ x0.length ∧ rng (R := (Int × (List Int))) (fun k (s : Int × (List Int)) => laws_markIntS_b1 k s.1 s.2) (x0.length - s.1) s.1 s.2.1 = rng (R := (Int × (List Int))) (fun k (s : Int × (List Int)) => laws_markIntS_b1 k s.1 s.2) (x0.length - 0) 0 (x1, x0)) (fun s => x0.length - s.1) (0, (x1, x0), ()) (subL_cons rfl (subL_cons rfl (subL_cons rfl subL_nil))) (fun W hm => hm) ⟨(by omega), rfl⟩ ?_
  rintro ⟨k5, ⟨s6, d7⟩, ⟨⟩⟩ H10
  obtain ⟨hk8, hF9⟩ : k5 ≤ x0.length ∧ rng (R := (Int × (List Int))) (fun k (s : Int × (List Int)) => laws_markIntS_b1 k s.1 s.2) (x0.length - k5) k5 (s6, d7) = rng (R := (Int × (List Int))) (fun k (s : Int × (List Int)) => laws_markIntS_b1 k s.1 s.2) (x0.length - 0) 0 (x1, x0) := H10
  show CM Try.prog 19 _ _ _ _ [(0, .slice A1 x0.length c2), (1, .int .i64 s6), (5, .int .i64 ((k5 : Nat) : Int))] (iOwn (tSl tInt 3) [.slice A1 x0.length c2] d7 :: is)
  refine CM_seq ?_
  refine sr ?_
  refine wm ?_
  refine wm ?_
  refine wv (fun W hm => rv_len Try.underlying33 rfl) ?_
  refine wv (fun W hm => rv_lss rfl rfl) ?_
  refine nt' ?_
  by_cases hl11 : k5 < x0.length
  · have g12 : (decide (((k5 : Nat) : Int) < ((x0.length : Nat) : Int))) = true := decide_eq_true (by omega)
    refine CM_condT rfl g12 ?_
    refine CM_skip ?_
    refine QM_then ?_
    refine CM_seq ?_
    refine CM_block ?_
    refine sr ?_
    refine wm ?_
    refine wm ?_
    refine wm ?_
    refine WM_formO (n := 0) rfl (by omega) ?_
    rintro g13 rfl
    refine wv (fun W hm => rv_index (sz := 1) (k := k5) Try.underlying33 Try.type3 rfl rfl rfl (by omega)) ?_
    refine WM_setEl (E := tInt) (e := 3) (u := .int .i64 s6) (k := k5) (p := g13) (n := x0.length) (xs := d7) (eis := []) (js := (is)) (yv := s6) (fun W hm => (hm.front (n := 0) rfl)) (fun _ _ hs => (Sep.nil hs ▸ tInt_own)) rfl Try.type3 rfl (by omega) rfl rfl (Wd_none rfl) ?_
    refine nt' ?_
    refine CM_region ?_
    refine wm ?_
    refine wv (fun W hm => rv_add rfl rfl) ?_
    refine wa ?_
    refine WM_nil ?_
    refine QM_block_normal ?_
    refine QM_then ?_
    refine CM_region ?_
    refine wm ?_
    refine wv (fun W hm => rv_addN (p := k5) (q := 1) rfl rfl (by omega)) ?_
    refine wa ?_
    refine WM_nil ?_
    have hn14 := rng_next (R := (Int × (List Int))) (body := (fun k (s : Int × (List Int)) => laws_markIntS_b1 k s.1 s.2)) (k := k5) (s := (s6, d7)) (s' := ((IntKind.i64.wrap (s6 + 1)), (d7.set k5 s6))) (show k5 < x0.length from by omega) (show laws_markIntS_b1 k5 s6 d7 = Sum.inr ((IntKind.i64.wrap (s6 + 1)), (d7.set k5 s6)) from by unfold laws_markIntS_b1; exact rfl) hF9
    exact QM_round (k5 + 1, ((IntKind.i64.wrap (s6 + 1)), (d7.set k5 s6)), ()) (subL_cons rfl (subL_cons rfl (subL_cons rfl subL_nil))) (fun W hm => hm) ⟨(by omega), hn14⟩ (show x0.length - (k5 + 1) < x0.length - k5 from by omega)
  · have g12 : (decide (((k5 : Nat) : Int) < ((x0.length : Nat) : Int))) = false := decide_eq_false (by omega)
    refine CM_condF rfl g12 ?_
    refine CM_exit ?_
    refine QM_then_exit ?_
    refine QM_then_exit ?_
    have hE15 : rng (R := (Int × (List Int))) (fun k (s : Int × (List Int)) => laws_markIntS_b1 k s.1 s.2) (x0.length - 0) 0 (x1, x0) = Sum.inr (s6, d7) := rng_end hl11 hF9
    refine QM_block_hit ?_
    refine QM_then ?_
    refine sr ?_
    refine wm ?_
    refine wa ?_
    refine nt' ?_
    refine CM_ret ?_
    refine QM_rW rfl rfl (fun W hm => ⟨?_, ?_⟩)
    · rw [(show laws_markIntS_m x0 x1 = (s6, d7) from by unfold laws_markIntS_m; exact fin_inr hE15 (rfl))]
    · rw [(show laws_markIntS_m x0 x1 = (s6, d7) from by unfold laws_markIntS_m; exact fin_inr hE15 (rfl))]; exact hm

def laws_markVersionS_b1 (k5 : Nat) (s6 : Int) (d7 : (List DVersion)) : (Int × (List DVersion)) ⊕ (Int × (List DVersion)) :=
  Sum.inr ((IntKind.i64.wrap ((IntKind.i64.wrap (((laws_markIntS_m ((gt d7 k5).Values) (IntKind.i64.wrap (s6 + 1))).1) + 1)) + 1)), (d7.set k5 (⟨s6, (laws_markIntS_m ((gt d7 k5).Values) (IntKind.i64.wrap (s6 + 1))).2, (laws_markIntS_m ((gt d7 k5).Values) (IntKind.i64.wrap (s6 + 1))).1, (IntKind.i64.wrap (((laws_markIntS_m ((gt d7 k5).Values) (IntKind.i64.wrap (s6 + 1))).1) + 1))⟩ : DVersion)))
def laws_markVersionS_m (x0 : (List DVersion)) (x1 : Int) : (Int × (List DVersion)) :=
  Sum.elim id (fun (s : Int × (List DVersion)) => (s.1, s.2)) (rng (R := (Int × (List DVersion))) (fun k (s : Int × (List DVersion)) => laws_markVersionS_b1 k s.1 s.2) (x0.length - 0) 0 (x1, x0))
theorem cb119 : Cb Try.prog 119 := ⟨Try.f119, _, Try.func119, rfl, by decide⟩
set_option maxRecDepth 10000 in
set_option maxHeartbeats 4000000 in
theorem laws_markVersionS_c (B : Nat) (w0 : World) (is : List It) (w : World) (z0 : Value) (x0 : (List DVersion)) (x1 : Int) (hm : Mem B w0 (iOwn (tSl tyVersion 102) [z0] x0 :: is) w) :
    Calls Try.prog 119 #[z0, .int .i64 x1] w fun e w' => e = .returned (.int .i64 (laws_markVersionS_m x0 x1).1) ∧ Mem B w0 (iOwn (tSl tyVersion 102) [z0] (laws_markVersionS_m x0 x1).2 :: is) w' := by
  refine call_enterW (L := [(0, z0), (1, .int .i64 x1)]) (N := 41) Try.func119 rfl rfl (Nat.le_of_ble_eq_true rfl) (argsL_cons rfl (argsL_cons rfl argsL_nil)) hm ?_
  refine CM_form (n := 0) rfl ?_
  rintro A1 c2 rfl m3
  refine sr ?_
  refine wa ?_
  refine nt' ?_
  refine CM_seq ?_
  refine sr ?_
  refine wa ?_
  refine nt' ?_
  refine CM_block ?_
  refine CM_loop (σ := Nat × (Int × (List DVersion)) × (Unit)) (fun s => [(0, .slice A1 x0.length c2), (1, .int .i64 s.2.1.1), (5, .int .i64 ((s.1 : Nat) : Int))]) (fun s => (iOwn (tSl tyVersion 102) [.slice A1 x0.length c2] s.2.1.2 :: is)) (fun s => s.1 ≤ x0.length ∧ rng (R := (Int × (List DVersion))) (fun k (s : Int × (List DVersion)) => laws_markVersionS_b1 k s.1 s.2) (x0.length - s.1) s.1 s.2.1 = rng (R := (Int × (List DVersion))) (fun k (s : Int × (List DVersion)) => laws_markVersionS_b1 k s.1 s.2) (x0.length - 0) 0 (x1, x0)) (fun s => x0.length - s.1) (0, (x1, x0), ()) (subL_cons rfl (subL_cons rfl (subL_cons rfl subL_nil))) (fun W hm => hm) ⟨(by omega), rfl⟩ ?_
  rintro ⟨k5, ⟨s6, d7⟩, ⟨⟩⟩ H10
  obtain ⟨hk8, hF9⟩ : k5 ≤ x0.length ∧ rng (R := (Int × (List DVersion))) (fun k (s : Int × (List DVersion)) => laws_markVersionS_b1 k s.1 s.2) (x0.length - k5) k5 (s6, d7) = rng (R := (Int × (List DVersion))) (fun k (s : Int × (List DVersion)) => laws_markVersionS_b1 k s.1 s.2) (x0.length - 0) 0 (x1, x0) := H10
  show CM Try.prog 41 _ _ _ _ [(0, .slice A1 x0.length c2), (1, .int .i64 s6), (5, .int .i64 ((k5 : Nat) : Int))] (iOwn (tSl tyVersion 102) [.slice A1 x0.length c2] d7 :: is)
  refine CM_seq ?_
  refine sr ?_
  refine wm ?_
  refine wm ?_
  refine wv (fun W hm => rv_len Try.underlying100 rfl) ?_
  refine wv (fun W hm => rv_lss rfl rfl) ?_
  refine nt' ?_
  by_cases hl11 : k5 < x0.length
  · have g12 : (decide (((k5 : Nat) : Int) < ((x0.length : Nat) : Int))) = true := decide_eq_true (by omega)
    refine CM_condT rfl g12 ?_
    refine CM_skip ?_
    refine QM_then ?_
    refine CM_seq ?_
    refine CM_block ?_
    refine sr ?_
    refine wm ?_
    refine wm ?_
    refine wm ?_
    refine WM_formO (n := 0) rfl (by omega) ?_
    rintro g13 rfl
    refine wv (fun W hm => rv_index (sz := 4) (k := k5) Try.underlying100 Try.type102 rfl rfl rfl (by omega)) ?_
    refine wv (fun W hm => rv_field Try.underlying102 rfl Try.type3 (by decide) rfl rfl) ?_
    refine WM_focus (E := tyVersion) (e := 102) (A := (some ⟨g13, 0, none⟩)) (n := x0.length) (c := c2) (xs := d7) (k := k5) (js := (is)) (by omega) (fun W hm => (hm.front (n := 0) rfl)) (fun ck14 => ?_)
    refine WM_split (γ := Value) (js := fun g => [iOwn (tSl tInt 3) [g] ((gt d7 k5).Values)]) (C := fun g => ck14 = [.int .i64 ((gt d7 k5).Id), g, .int .i64 ((gt d7 k5).Born), .int .i64 ((gt d7 k5).Died)]) (fun _ _ h => tyVersion_split h) ?_
    rintro v15 rfl
    refine WM_form (n := 0) rfl ?_
    rintro A16 c17 rfl m18
    refine WM_storeFoc (E := tyVersion) (e := 102) (g := g13) (n := x0.length) (c := c2) (k := k5) (s := 4) (o := 0) (xs := d7) (ck := [.int .i64 ((gt d7 k5).Id), .slice A16 ((gt d7 k5).Values).length c17, .int .i64 ((gt d7 k5).Born), .int .i64 ((gt d7 k5).Died)]) (ck' := [.int .i64 s6, .slice A16 ((gt d7 k5).Values).length c17, .int .i64 ((gt d7 k5).Born), .int .i64 ((gt d7 k5).Died)]) (js := (iOwn (tSl tInt 3) [.slice A16 ((gt d7 k5).Values).length c17] ((gt d7 k5).Values) :: is)) (fun W hm => (hm.front (n := 1) rfl)) rfl rfl Try.type3 rfl (Nat.le_of_ble_eq_true rfl) rfl rfl rfl rfl (Wd_none rfl) ?_
    refine nt' ?_
    refine sr ?_
    refine wm ?_
    refine wv (fun W hm => rv_add rfl rfl) ?_
    refine wa ?_
    refine nt' ?_
    refine sr ?_
    refine wm ?_
    refine wm ?_
    refine wv (fun W hm => rv_index (sz := 4) (k := k5) Try.underlying100 Try.type102 rfl rfl rfl (by omega)) ?_
    refine wv (fun W hm => rv_field Try.underlying102 rfl Try.type33 (by decide) rfl rfl) ?_
    refine wv (fun W hm => rv_load Try.underlying33 rfl rfl (hm.focCells (i := 0) rfl rfl 1 _ rfl)) ?_
    refine wm ?_
    refine WM_callW (χ := Unit) (val := fun _ => .int .i64 (laws_markIntS_m ((gt d7 k5).Values) (IntKind.i64.wrap (s6 + 1))).1) (js := fun _ => (iOwn (tSl tInt 3) [.slice A16 ((gt d7 k5).Values).length c17] (laws_markIntS_m ((gt d7 k5).Values) (IntKind.i64.wrap (s6 + 1))).2 :: (iFoc tyVersion 102 (some ⟨g13, 0, none⟩) x0.length c2 d7 k5 [.int .i64 s6, .slice A16 ((gt d7 k5).Values).length c17, .int .i64 ((gt d7 k5).Born), .int .i64 ((gt d7 k5).Died)] :: is))) (cl_fn cb24 rfl) (fun W hm => (laws_markIntS_c B w0 (iFoc tyVersion 102 (some ⟨g13, 0, none⟩) x0.length c2 d7 k5 [.int .i64 s6, .slice A16 ((gt d7 k5).Values).length c17, .int .i64 ((gt d7 k5).Born), .int .i64 ((gt d7 k5).Died)] :: is) W (.slice A16 ((gt d7 k5).Values).length c17) ((gt d7 k5).Values) (IntKind.i64.wrap (s6 + 1)) (hm.front (n := 1) rfl)).mono (fun _ _ h => ⟨(), h.1, h.2⟩)) (Wd_none rfl) (by decide) (fun _ => ?_)
    refine wa ?_
    refine nt' ?_
    refine sr ?_
    refine wm ?_
    refine wm ?_
    refine wm ?_
    refine wv (fun W hm => rv_index (sz := 4) (k := k5) Try.underlying100 Try.type102 rfl rfl rfl (by omega)) ?_
    refine wv (fun W hm => rv_field Try.underlying102 rfl Try.type3 (by decide) rfl rfl) ?_
    refine WM_storeFoc (E := tyVersion) (e := 102) (g := g13) (n := x0.length) (c := c2) (k := k5) (s := 4) (o := 2) (xs := d7) (ck := [.int .i64 s6, .slice A16 ((gt d7 k5).Values).length c17, .int .i64 ((gt d7 k5).Born), .int .i64 ((gt d7 k5).Died)]) (ck' := [.int .i64 s6, .slice A16 ((gt d7 k5).Values).length c17, .int .i64 ((laws_markIntS_m ((gt d7 k5).Values) (IntKind.i64.wrap (s6 + 1))).1), .int .i64 ((gt d7 k5).Died)]) (js := (iOwn (tSl tInt 3) [.slice A16 ((gt d7 k5).Values).length c17] ((laws_markIntS_m ((gt d7 k5).Values) (IntKind.i64.wrap (s6 + 1))).2) :: is)) (fun W hm => (hm.front (n := 1) rfl)) rfl rfl Try.type3 rfl (Nat.le_of_ble_eq_true rfl) rfl rfl rfl rfl (Wd_none rfl) ?_
    refine nt' ?_
    refine sr ?_
    refine wm ?_
    refine wv (fun W hm => rv_add rfl rfl) ?_
    refine wa ?_
    refine nt' ?_
    refine sr ?_
    refine wm ?_
    refine wm ?_
    refine wm ?_
    refine wv (fun W hm => rv_index (sz := 4) (k := k5) Try.underlying100 Try.type102 rfl rfl rfl (by omega)) ?_
    refine wv (fun W hm => rv_field Try.underlying102 rfl Try.type3 (by decide) rfl rfl) ?_
    refine WM_storeFoc (E := tyVersion) (e := 102) (g := g13) (n := x0.length) (c := c2) (k := k5) (s := 4) (o := 3) (xs := d7) (ck := [.int .i64 s6, .slice A16 ((gt d7 k5).Values).length c17, .int .i64 ((laws_markIntS_m ((gt d7 k5).Values) (IntKind.i64.wrap (s6 + 1))).1), .int .i64 ((gt d7 k5).Died)]) (ck' := [.int .i64 s6, .slice A16 ((gt d7 k5).Values).length c17, .int .i64 ((laws_markIntS_m ((gt d7 k5).Values) (IntKind.i64.wrap (s6 + 1))).1), .int .i64 (IntKind.i64.wrap (((laws_markIntS_m ((gt d7 k5).Values) (IntKind.i64.wrap (s6 + 1))).1) + 1))]) (js := (iOwn (tSl tInt 3) [.slice A16 ((gt d7 k5).Values).length c17] ((laws_markIntS_m ((gt d7 k5).Values) (IntKind.i64.wrap (s6 + 1))).2) :: is)) (fun W hm => (hm.front (n := 0) rfl)) rfl rfl Try.type3 rfl (Nat.le_of_ble_eq_true rfl) rfl rfl rfl rfl (Wd_none rfl) ?_
    refine nt' ?_
    refine CM_region ?_
    refine wm ?_
    refine wv (fun W hm => rv_add rfl rfl) ?_
    refine wa ?_
    refine WM_nil ?_
    refine QM_block_normal ?_
    refine QM_then ?_
    refine CM_region ?_
    refine wm ?_
    refine wv (fun W hm => rv_addN (p := k5) (q := 1) rfl rfl (by omega)) ?_
    refine wa ?_
    refine WM_nil ?_
    refine QM_items (fun W hm => Mem.unfocus (Mem.join (is := [iOwn (tSl tInt 3) [.slice A16 ((gt d7 k5).Values).length c17] ((laws_markIntS_m ((gt d7 k5).Values) (IntKind.i64.wrap (s6 + 1))).2)]) (js := (iFoc tyVersion 102 (some ⟨g13, 0, none⟩) x0.length c2 d7 k5 [.int .i64 s6, .slice A16 ((gt d7 k5).Values).length c17, .int .i64 ((laws_markIntS_m ((gt d7 k5).Values) (IntKind.i64.wrap (s6 + 1))).1), .int .i64 (IntKind.i64.wrap (((laws_markIntS_m ((gt d7 k5).Values) (IntKind.i64.wrap (s6 + 1))).1) + 1))] :: (is))) (fun _ _ hs => tyVersion_join (x := (⟨s6, (laws_markIntS_m ((gt d7 k5).Values) (IntKind.i64.wrap (s6 + 1))).2, (laws_markIntS_m ((gt d7 k5).Values) (IntKind.i64.wrap (s6 + 1))).1, (IntKind.i64.wrap (((laws_markIntS_m ((gt d7 k5).Values) (IntKind.i64.wrap (s6 + 1))).1) + 1))⟩ : DVersion)) hs) ((hm.front (n := 0) rfl).front (n := 1) rfl))) ?_
    have hn20 := rng_next (R := (Int × (List DVersion))) (body := (fun k (s : Int × (List DVersion)) => laws_markVersionS_b1 k s.1 s.2)) (k := k5) (s := (s6, d7)) (s' := ((IntKind.i64.wrap ((IntKind.i64.wrap (((laws_markIntS_m ((gt d7 k5).Values) (IntKind.i64.wrap (s6 + 1))).1) + 1)) + 1)), (d7.set k5 (⟨s6, (laws_markIntS_m ((gt d7 k5).Values) (IntKind.i64.wrap (s6 + 1))).2, (laws_markIntS_m ((gt d7 k5).Values) (IntKind.i64.wrap (s6 + 1))).1, (IntKind.i64.wrap (((laws_markIntS_m ((gt d7 k5).Values) (IntKind.i64.wrap (s6 + 1))).1) + 1))⟩ : DVersion)))) (show k5 < x0.length from by omega) (show laws_markVersionS_b1 k5 s6 d7 = Sum.inr ((IntKind.i64.wrap ((IntKind.i64.wrap (((laws_markIntS_m ((gt d7 k5).Values) (IntKind.i64.wrap (s6 + 1))).1) + 1)) + 1)), (d7.set k5 (⟨s6, (laws_markIntS_m ((gt d7 k5).Values) (IntKind.i64.wrap (s6 + 1))).2, (laws_markIntS_m ((gt d7 k5).Values) (IntKind.i64.wrap (s6 + 1))).1, (IntKind.i64.wrap (((laws_markIntS_m ((gt d7 k5).Values) (IntKind.i64.wrap (s6 + 1))).1) + 1))⟩ : DVersion))) from by unfold laws_markVersionS_b1; exact rfl) hF9
    exact QM_round (k5 + 1, ((IntKind.i64.wrap ((IntKind.i64.wrap (((laws_markIntS_m ((gt d7 k5).Values) (IntKind.i64.wrap (s6 + 1))).1) + 1)) + 1)), (d7.set k5 (⟨s6, (laws_markIntS_m ((gt d7 k5).Values) (IntKind.i64.wrap (s6 + 1))).2, (laws_markIntS_m ((gt d7 k5).Values) (IntKind.i64.wrap (s6 + 1))).1, (IntKind.i64.wrap (((laws_markIntS_m ((gt d7 k5).Values) (IntKind.i64.wrap (s6 + 1))).1) + 1))⟩ : DVersion))), ()) (subL_cons rfl (subL_cons rfl (subL_cons rfl subL_nil))) (fun W hm => hm) ⟨(by omega), hn20⟩ (show x0.length - (k5 + 1) < x0.length - k5 from by omega)
  · have g12 : (decide (((k5 : Nat) : Int) < ((x0.length : Nat) : Int))) = false := decide_eq_false (by omega)
    refine CM_condF rfl g12 ?_
    refine CM_exit ?_
    refine QM_then_exit ?_
    refine QM_then_exit ?_
    have hE21 : rng (R := (Int × (List DVersion))) (fun k (s : Int × (List DVersion)) => laws_markVersionS_b1 k s.1 s.2) (x0.length - 0) 0 (x1, x0) = Sum.inr (s6, d7) := rng_end hl11 hF9
    refine QM_block_hit ?_
    refine QM_then ?_
    refine sr ?_
    refine wm ?_
    refine wa ?_
    refine nt' ?_
    refine CM_ret ?_
    refine QM_rW rfl rfl (fun W hm => ⟨?_, ?_⟩)
    · rw [(show laws_markVersionS_m x0 x1 = (s6, d7) from by unfold laws_markVersionS_m; exact fin_inr hE21 (rfl))]
    · rw [(show laws_markVersionS_m x0 x1 = (s6, d7) from by unfold laws_markVersionS_m; exact fin_inr hE21 (rfl))]; exact hm

def laws_markVersionSS_b1 (k5 : Nat) (s6 : Int) (d7 : (List (List DVersion))) : (Int × (List (List DVersion))) ⊕ (Int × (List (List DVersion))) :=
  Sum.inr ((laws_markVersionS_m (gt d7 k5) s6).1, (d7.set k5 ((laws_markVersionS_m (gt d7 k5) s6).2)))
def laws_markVersionSS_m (x0 : (List (List DVersion))) (x1 : Int) : (Int × (List (List DVersion))) :=
  Sum.elim id (fun (s : Int × (List (List DVersion))) => (s.1, s.2)) (rng (R := (Int × (List (List DVersion)))) (fun k (s : Int × (List (List DVersion))) => laws_markVersionSS_b1 k s.1 s.2) (x0.length - 0) 0 (x1, x0))
theorem cb77 : Cb Try.prog 77 := ⟨Try.f77, _, Try.func77, rfl, by decide⟩
set_option maxRecDepth 10000 in
set_option maxHeartbeats 4000000 in
theorem laws_markVersionSS_c (B : Nat) (w0 : World) (is : List It) (w : World) (z0 : Value) (x0 : (List (List DVersion))) (x1 : Int) (hm : Mem B w0 (iOwn (tSl (tSl tyVersion 102) 100) [z0] x0 :: is) w) :
    Calls Try.prog 77 #[z0, .int .i64 x1] w fun e w' => e = .returned (.int .i64 (laws_markVersionSS_m x0 x1).1) ∧ Mem B w0 (iOwn (tSl (tSl tyVersion 102) 100) [z0] (laws_markVersionSS_m x0 x1).2 :: is) w' := by
  refine call_enterW (L := [(0, z0), (1, .int .i64 x1)]) (N := 19) Try.func77 rfl rfl (Nat.le_of_ble_eq_true rfl) (argsL_cons rfl (argsL_cons rfl argsL_nil)) hm ?_
  refine CM_form (n := 0) rfl ?_
  rintro A1 c2 rfl m3
  refine sr ?_
  refine wa ?_
  refine nt' ?_
  refine CM_seq ?_
  refine sr ?_
  refine wa ?_
  refine nt' ?_
  refine CM_block ?_
  refine CM_loop (σ := Nat × (Int × (List (List DVersion))) × (Unit)) (fun s => [(0, .slice A1 x0.length c2), (1, .int .i64 s.2.1.1), (5, .int .i64 ((s.1 : Nat) : Int))]) (fun s => (iOwn (tSl (tSl tyVersion 102) 100) [.slice A1 x0.length c2] s.2.1.2 :: is)) (fun s => s.1 ≤ x0.length ∧ rng (R := (Int × (List (List DVersion)))) (fun k (s : Int × (List (List DVersion))) => laws_markVersionSS_b1 k s.1 s.2) (x0.length - s.1) s.1 s.2.1 = rng (R := (Int × (List (List DVersion)))) (fun k (s : Int × (List (List DVersion))) => laws_markVersionSS_b1 k s.1 s.2) (x0.length - 0) 0 (x1, x0)) (fun s => x0.length - s.1) (0, (x1, x0), ()) (subL_cons rfl (subL_cons rfl (subL_cons rfl subL_nil))) (fun W hm => hm) ⟨(by omega), rfl⟩ ?_
  rintro ⟨k5, ⟨s6, d7⟩, ⟨⟩⟩ H10
  obtain ⟨hk8, hF9⟩ : k5 ≤ x0.length ∧ rng (R := (Int × (List (List DVersion)))) (fun k (s : Int × (List (List DVersion))) => laws_markVersionSS_b1 k s.1 s.2) (x0.length - k5) k5 (s6, d7) = rng (R := (Int × (List (List DVersion)))) (fun k (s : Int × (List (List DVersion))) => laws_markVersionSS_b1 k s.1 s.2) (x0.length - 0) 0 (x1, x0) := H10
  show CM Try.prog 19 _ _ _ _ [(0, .slice A1 x0.length c2), (1, .int .i64 s6), (5, .int .i64 ((k5 : Nat) : Int))] (iOwn (tSl (tSl tyVersion 102) 100) [.slice A1 x0.length c2] d7 :: is)
  refine CM_seq ?_
  refine sr ?_
  refine wm ?_
  refine wm ?_
  refine wv (fun W hm => rv_len Try.underlying43 rfl) ?_
  refine wv (fun W hm => rv_lss rfl rfl) ?_
  refine nt' ?_
  by_cases hl11 : k5 < x0.length
  · have g12 : (decide (((k5 : Nat) : Int) < ((x0.length : Nat) : Int))) = true := decide_eq_true (by omega)
    refine CM_condT rfl g12 ?_
    refine CM_skip ?_
    refine QM_then ?_
    refine CM_seq ?_
    refine CM_block ?_
    refine CM_region ?_
    refine wm ?_
    refine wm ?_
    refine WM_formO (n := 0) rfl (by omega) ?_
    rintro g13 rfl
    refine wv (fun W hm => rv_index (sz := 1) (k := k5) Try.underlying43 Try.type100 rfl rfl rfl (by omega)) ?_
    refine WM_focus (E := (tSl tyVersion 102)) (e := 100) (A := (some ⟨g13, 0, none⟩)) (n := x0.length) (c := c2) (xs := d7) (k := k5) (js := (is)) (by omega) (fun W hm => (hm.front (n := 0) rfl)) (fun ck14 => ?_)
    refine WM_split (γ := Value) (js := fun g => [iOwn (tSl tyVersion 102) [g] (gt d7 k5)]) (C := fun g => ck14 = [g]) (fun _ _ h => tSl_split h) ?_
    rintro v15 rfl
    refine WM_form (n := 0) rfl ?_
    rintro A16 c17 rfl m18
    refine wv (fun W hm => rv_load Try.underlying100 rfl rfl (hm.focInt (i := 1) rfl rfl)) ?_
    refine wm ?_
    refine WM_callW (χ := Unit) (val := fun _ => .int .i64 (laws_markVersionS_m (gt d7 k5) s6).1) (js := fun _ => (iOwn (tSl tyVersion 102) [.slice A16 (gt d7 k5).length c17] (laws_markVersionS_m (gt d7 k5) s6).2 :: (iFoc (tSl tyVersion 102) 100 (some ⟨g13, 0, none⟩) x0.length c2 d7 k5 [.slice A16 (gt d7 k5).length c17] :: is))) (cl_fn cb119 rfl) (fun W hm => (laws_markVersionS_c B w0 (iFoc (tSl tyVersion 102) 100 (some ⟨g13, 0, none⟩) x0.length c2 d7 k5 [.slice A16 (gt d7 k5).length c17] :: is) W (.slice A16 (gt d7 k5).length c17) (gt d7 k5) s6 (hm.front (n := 0) rfl)).mono (fun _ _ h => ⟨(), h.1, h.2⟩)) (Wd_none rfl) (by decide) (fun _ => ?_)
    refine wa ?_
    refine WM_nil ?_
    refine QM_block_normal ?_
    refine QM_then ?_
    refine CM_region ?_
    refine wm ?_
    refine wv (fun W hm => rv_addN (p := k5) (q := 1) rfl rfl (by omega)) ?_
    refine wa ?_
    refine WM_nil ?_
    refine QM_items (fun W hm => Mem.unfocus (Mem.join (is := [iOwn (tSl tyVersion 102) [.slice A16 (gt d7 k5).length c17] ((laws_markVersionS_m (gt d7 k5) s6).2)]) (js := (iFoc (tSl tyVersion 102) 100 (some ⟨g13, 0, none⟩) x0.length c2 d7 k5 [.slice A16 (gt d7 k5).length c17] :: (is))) (fun _ _ hs => Sep.one hs) ((hm.front (n := 1) rfl).front (n := 1) rfl))) ?_
    have hn20 := rng_next (R := (Int × (List (List DVersion)))) (body := (fun k (s : Int × (List (List DVersion))) => laws_markVersionSS_b1 k s.1 s.2)) (k := k5) (s := (s6, d7)) (s' := ((laws_markVersionS_m (gt d7 k5) s6).1, (d7.set k5 ((laws_markVersionS_m (gt d7 k5) s6).2)))) (show k5 < x0.length from by omega) (show laws_markVersionSS_b1 k5 s6 d7 = Sum.inr ((laws_markVersionS_m (gt d7 k5) s6).1, (d7.set k5 ((laws_markVersionS_m (gt d7 k5) s6).2))) from by unfold laws_markVersionSS_b1; exact rfl) hF9
    exact QM_round (k5 + 1, ((laws_markVersionS_m (gt d7 k5) s6).1, (d7.set k5 ((laws_markVersionS_m (gt d7 k5) s6).2))), ()) (subL_cons rfl (subL_cons rfl (subL_cons rfl subL_nil))) (fun W hm => hm) ⟨(by omega), hn20⟩ (show x0.length - (k5 + 1) < x0.length - k5 from by omega)
  · have g12 : (decide (((k5 : Nat) : Int) < ((x0.length : Nat) : Int))) = false := decide_eq_false (by omega)
    refine CM_condF rfl g12 ?_
    refine CM_exit ?_
    refine QM_then_exit ?_
    refine QM_then_exit ?_
    have hE21 : rng (R := (Int × (List (List DVersion)))) (fun k (s : Int × (List (List DVersion))) => laws_markVersionSS_b1 k s.1 s.2) (x0.length - 0) 0 (x1, x0) = Sum.inr (s6, d7) := rng_end hl11 hF9
    refine QM_block_hit ?_
    refine QM_then ?_
    refine sr ?_
    refine wm ?_
    refine wa ?_
    refine nt' ?_
    refine CM_ret ?_
    refine QM_rW rfl rfl (fun W hm => ⟨?_, ?_⟩)
    · rw [(show laws_markVersionSS_m x0 x1 = (s6, d7) from by unfold laws_markVersionSS_m; exact fin_inr hE21 (rfl))]
    · rw [(show laws_markVersionSS_m x0 x1 = (s6, d7) from by unfold laws_markVersionSS_m; exact fin_inr hE21 (rfl))]; exact hm

def laws_markStore_m (x0 : DStore) (x1 : Int) : (Int × DStore) :=
  ((laws_markVersionSS_m x0.Segments x1).1, (⟨(laws_markVersionSS_m x0.Segments x1).2, x0.Now⟩ : DStore))
theorem cb31 : Cb Try.prog 31 := ⟨Try.f31, _, Try.func31, rfl, by decide⟩
set_option maxRecDepth 10000 in
set_option maxHeartbeats 4000000 in
theorem laws_markStore_c (B : Nat) (w0 : World) (is : List It) (w : World) (z0 : List Value) (x0 : DStore) (x1 : Int) (hm : Mem B w0 (iOwn tyStore z0 x0 :: is) w) :
    Calls Try.prog 31 #[.agg z0.toArray, .int .i64 x1] w fun e w' => e = .returned (.int .i64 (laws_markStore_m x0 x1).1) ∧ Mem B w0 (iOwn tyStore z0 (laws_markStore_m x0 x1).2 :: is) w' := by
  refine call_enterW (L := [(0, .agg z0.toArray), (1, .int .i64 x1)]) (N := 10) Try.func31 rfl rfl (Nat.le_of_ble_eq_true rfl) (argsL_cons rfl (argsL_cons rfl argsL_nil)) hm ?_
  refine CM_split (γ := Value) (js := fun g => [iOwn (tSl (tSl tyVersion 102) 100) [g] x0.Segments]) (C := fun g => z0 = [g, .int .i64 x0.Now]) (fun _ _ h => tyStore_split h) ?_
  rintro v1 rfl
  refine CM_form (n := 0) rfl ?_
  rintro A2 c3 rfl m4
  refine sr ?_
  refine WM_box rfl (Wd_none rfl) (by decide) (fun p6 => ?_)
  refine wa ?_
  refine nt' ?_
  refine sr ?_
  refine wv (fun W hm => rv_field Try.underlying45 rfl Try.type43 (by decide) rfl rfl) ?_
  refine wv (fun W hm => rv_load Try.underlying43 rfl rfl (hm.boxCell (n := 0) (o := 0) rfl rfl)) ?_
  refine wm ?_
  refine WM_callW (χ := Unit) (val := fun _ => .int .i64 (laws_markVersionSS_m x0.Segments x1).1) (js := fun _ => (iOwn (tSl (tSl tyVersion 102) 100) [.slice A2 x0.Segments.length c3] (laws_markVersionSS_m x0.Segments x1).2 :: (iBox p6 45 [.slice A2 x0.Segments.length c3, .int .i64 x0.Now] :: is))) (cl_fn cb77 rfl) (fun W hm => (laws_markVersionSS_c B w0 (iBox p6 45 [.slice A2 x0.Segments.length c3, .int .i64 x0.Now] :: is) W (.slice A2 x0.Segments.length c3) x0.Segments x1 (hm.front (n := 1) rfl)).mono (fun _ _ h => ⟨(), h.1, h.2⟩)) (Wd_none rfl) (by decide) (fun _ => ?_)
  refine wa ?_
  refine nt' ?_
  refine sr ?_
  refine wm ?_
  refine wa ?_
  refine nt' ?_
  refine CM_ret ?_
  refine QM_rW rfl rfl (fun W hm => ⟨?_, ?_⟩)
  · rw [(show laws_markStore_m x0 x1 = ((laws_markVersionSS_m x0.Segments x1).1, (⟨(laws_markVersionSS_m x0.Segments x1).2, x0.Now⟩ : DStore)) from by unfold laws_markStore_m; exact rfl)]
  · rw [(show laws_markStore_m x0 x1 = ((laws_markVersionSS_m x0.Segments x1).1, (⟨(laws_markVersionSS_m x0.Segments x1).2, x0.Now⟩ : DStore)) from by unfold laws_markStore_m; exact rfl)]; exact Mem.join (is := [iOwn (tSl (tSl tyVersion 102) 100) [.slice A2 x0.Segments.length c3] ((laws_markVersionSS_m x0.Segments x1).2)]) (js := is) (fun _ _ hs => tyStore_join (x := (⟨(laws_markVersionSS_m x0.Segments x1).2, x0.Now⟩ : DStore)) hs) ((hm.front (n := 0) rfl).front (n := 1) rfl).tail

def laws_heldIntS_b1 (x0 : (List Int)) (k6 : Nat) (s7 : Int) : Int ⊕ (Int) :=
  cond ((gt x0 k6) != s7) (Sum.inl (-1)) (Sum.inr (IntKind.i64.wrap (s7 + 1)))
def laws_heldIntS_m (x0 : (List Int)) (x1 : Int) : Int :=
  Sum.elim id (fun (s : Int) => s) (rng (R := Int) (fun k (s : Int) => laws_heldIntS_b1 x0 k s) (x0.length - 0) 0 x1)
theorem cb64 : Cb Try.prog 64 := ⟨Try.f64, _, Try.func64, rfl, by decide⟩
set_option maxRecDepth 10000 in
set_option maxHeartbeats 4000000 in
theorem laws_heldIntS_c (w : World) (z0 : Value) (x0 : (List Int)) (x1 : Int) (r_0 : rdS tInt w w.heap.size z0 x0) :
    Calls Try.prog 64 #[z0, .int .i64 x1] w fun e w' => e = .returned (.int .i64 (laws_heldIntS_m x0 x1)) ∧ Below w.heap.size w w' := by
  have r5 := r_0
  obtain ⟨m1, A2, c3, rfl, q4⟩ := r_0
  refine call_enterM (L := [(0, .slice A2 x0.length c3), (1, .int .i64 x1)]) (N := 21) Try.func64 rfl rfl (Nat.le_of_ble_eq_true rfl) (argsL_cons rfl (argsL_cons rfl argsL_nil)) ?_
  refine sr ?_
  refine wa ?_
  refine nt' ?_
  refine CM_seq ?_
  refine sr ?_
  refine wa ?_
  refine nt' ?_
  refine CM_block ?_
  refine CM_loop (σ := Nat × (Int) × (Unit)) (fun s => [(0, .slice A2 x0.length c3), (1, .int .i64 s.2.1), (5, .int .i64 ((s.1 : Nat) : Int))]) (fun s => []) (fun s => s.1 ≤ x0.length ∧ rng (R := Int) (fun k (s : Int) => laws_heldIntS_b1 x0 k s) (x0.length - s.1) s.1 s.2.1 = rng (R := Int) (fun k (s : Int) => laws_heldIntS_b1 x0 k s) (x0.length - 0) 0 x1) (fun s => x0.length - s.1) (0, x1, ()) (subL_cons rfl (subL_cons rfl (subL_cons rfl subL_nil))) (fun W hm => hm) ⟨(by omega), rfl⟩ ?_
  rintro ⟨k6, s7, ⟨⟩⟩ H10
  obtain ⟨hk8, hF9⟩ : k6 ≤ x0.length ∧ rng (R := Int) (fun k (s : Int) => laws_heldIntS_b1 x0 k s) (x0.length - k6) k6 s7 = rng (R := Int) (fun k (s : Int) => laws_heldIntS_b1 x0 k s) (x0.length - 0) 0 x1 := H10
  show CM Try.prog 21 _ _ _ _ [(0, .slice A2 x0.length c3), (1, .int .i64 s7), (5, .int .i64 ((k6 : Nat) : Int))] []
  refine CM_seq ?_
  refine sr ?_
  refine wm ?_
  refine wm ?_
  refine wv (fun W hm => rv_len Try.underlying33 rfl) ?_
  refine wv (fun W hm => rv_lss rfl rfl) ?_
  refine nt' ?_
  by_cases hl11 : k6 < x0.length
  · have g12 : (decide (((k6 : Nat) : Int) < ((x0.length : Nat) : Int))) = true := decide_eq_true (by omega)
    refine CM_condT rfl g12 ?_
    refine CM_skip ?_
    refine QM_then ?_
    refine CM_seq ?_
    refine CM_block ?_
    refine CM_seq ?_
    refine sr ?_
    refine wm ?_
    refine wm ?_
    obtain ⟨a13, rfl, hb14, he15⟩ := q4 (by omega)
    refine wv (fun W hm => rv_index (sz := 1) (k := k6) Try.underlying33 Try.type3 rfl rfl rfl (by omega)) ?_
    refine wv (fun W hm => rv_load Try.underlying3 rfl rfl ((hm.cell0 (show (a13.add (k6 * 1)).block < w.heap.size from by rw [add_block]; exact hb14.1)).trans (rdS_int he15 k6 (by omega)))) ?_
    refine wm ?_
    refine wv (fun W hm => rv_neq rfl rfl) ?_
    refine nt' ?_
    by_cases h16 : (gt x0 k6) = s7
    · have g17 : ((gt x0 k6) != s7) = false := by rw [h16]; exact bne_self_eq_false _
      refine CM_condF rfl g17 ?_
      refine CM_skip ?_
      refine QM_then ?_
      refine CM_region ?_
      refine wm ?_
      refine wv (fun W hm => rv_add rfl rfl) ?_
      refine wa ?_
      refine WM_nil ?_
      refine QM_block_normal ?_
      refine QM_then ?_
      refine CM_region ?_
      refine wm ?_
      refine wv (fun W hm => rv_addN (p := k6) (q := 1) rfl rfl (by omega)) ?_
      refine wa ?_
      refine WM_nil ?_
      have hn18 := rng_next (R := Int) (body := (fun k (s : Int) => laws_heldIntS_b1 x0 k s)) (k := k6) (s := s7) (s' := (IntKind.i64.wrap (s7 + 1))) (show k6 < x0.length from by omega) (show laws_heldIntS_b1 x0 k6 s7 = Sum.inr (IntKind.i64.wrap (s7 + 1)) from by unfold laws_heldIntS_b1; exact cond_f g17 (rfl)) hF9
      exact QM_round (k6 + 1, (IntKind.i64.wrap (s7 + 1)), ()) (subL_cons rfl (subL_cons rfl (subL_cons rfl subL_nil))) (fun W hm => hm) ⟨(by omega), hn18⟩ (show x0.length - (k6 + 1) < x0.length - k6 from by omega)
    · have g17 : ((gt x0 k6) != s7) = true := bne_iff_ne.2 h16
      refine CM_condT rfl g17 ?_
      refine sr ?_
      refine wa ?_
      refine nt' ?_
      refine CM_ret ?_
      refine QM_then_ret ?_
      refine QM_block_ret ?_
      refine QM_then_ret ?_
      refine QM_then_ret ?_
      refine QM_block_ret ?_
      refine QM_then_ret ?_
      exact QM_ret1 rfl rfl (fun W hm => ⟨ret_i (show laws_heldIntS_m x0 x1 = (-1) from by unfold laws_heldIntS_m; exact fin_inl (rng_ret (body := (fun k (s : Int) => laws_heldIntS_b1 x0 k s)) (k := k6) (s := s7) (show k6 < x0.length from by omega) (show laws_heldIntS_b1 x0 k6 s7 = Sum.inl (-1) from by unfold laws_heldIntS_b1; exact cond_t g17 (rfl)) hF9) rfl), hm.below⟩)
  · have g12 : (decide (((k6 : Nat) : Int) < ((x0.length : Nat) : Int))) = false := decide_eq_false (by omega)
    refine CM_condF rfl g12 ?_
    refine CM_exit ?_
    refine QM_then_exit ?_
    refine QM_then_exit ?_
    have hE19 : rng (R := Int) (fun k (s : Int) => laws_heldIntS_b1 x0 k s) (x0.length - 0) 0 x1 = Sum.inr s7 := rng_end hl11 hF9
    refine QM_block_hit ?_
    refine QM_then ?_
    refine sr ?_
    refine wm ?_
    refine wa ?_
    refine nt' ?_
    refine CM_ret ?_
    exact QM_ret1 rfl rfl (fun W hm => ⟨ret_i (show laws_heldIntS_m x0 x1 = s7 from by unfold laws_heldIntS_m; exact fin_inr hE19 (rfl)), hm.below⟩)

def laws_heldVersionS_b1 (x0 : (List DVersion)) (k6 : Nat) (s7 : Int) : Int ⊕ (Int) :=
  cond (((gt x0 k6).Id) != s7) (Sum.inl (-1)) (cond (decide ((laws_heldIntS_m ((gt x0 k6).Values) (IntKind.i64.wrap (s7 + 1))) < 0)) (Sum.inl (-1)) (cond (((gt x0 k6).Born) != (laws_heldIntS_m ((gt x0 k6).Values) (IntKind.i64.wrap (s7 + 1)))) (Sum.inl (-1)) (cond (((gt x0 k6).Died) != (IntKind.i64.wrap ((laws_heldIntS_m ((gt x0 k6).Values) (IntKind.i64.wrap (s7 + 1))) + 1))) (Sum.inl (-1)) (Sum.inr (IntKind.i64.wrap ((IntKind.i64.wrap ((laws_heldIntS_m ((gt x0 k6).Values) (IntKind.i64.wrap (s7 + 1))) + 1)) + 1))))))
def laws_heldVersionS_m (x0 : (List DVersion)) (x1 : Int) : Int :=
  Sum.elim id (fun (s : Int) => s) (rng (R := Int) (fun k (s : Int) => laws_heldVersionS_b1 x0 k s) (x0.length - 0) 0 x1)
theorem cb120 : Cb Try.prog 120 := ⟨Try.f120, _, Try.func120, rfl, by decide⟩
set_option maxRecDepth 10000 in
set_option maxHeartbeats 4000000 in
theorem laws_heldVersionS_c (w : World) (z0 : Value) (x0 : (List DVersion)) (x1 : Int) (r_0 : rdS tyVersion w w.heap.size z0 x0) :
    Calls Try.prog 120 #[z0, .int .i64 x1] w fun e w' => e = .returned (.int .i64 (laws_heldVersionS_m x0 x1)) ∧ Below w.heap.size w w' := by
  have r5 := r_0
  obtain ⟨m1, A2, c3, rfl, q4⟩ := r_0
  refine call_enterM (L := [(0, .slice A2 x0.length c3), (1, .int .i64 x1)]) (N := 49) Try.func120 rfl rfl (Nat.le_of_ble_eq_true rfl) (argsL_cons rfl (argsL_cons rfl argsL_nil)) ?_
  refine sr ?_
  refine wa ?_
  refine nt' ?_
  refine CM_seq ?_
  refine sr ?_
  refine wa ?_
  refine nt' ?_
  refine CM_block ?_
  refine CM_loop (σ := Nat × (Int) × (Unit)) (fun s => [(0, .slice A2 x0.length c3), (1, .int .i64 s.2.1), (5, .int .i64 ((s.1 : Nat) : Int))]) (fun s => []) (fun s => s.1 ≤ x0.length ∧ rng (R := Int) (fun k (s : Int) => laws_heldVersionS_b1 x0 k s) (x0.length - s.1) s.1 s.2.1 = rng (R := Int) (fun k (s : Int) => laws_heldVersionS_b1 x0 k s) (x0.length - 0) 0 x1) (fun s => x0.length - s.1) (0, x1, ()) (subL_cons rfl (subL_cons rfl (subL_cons rfl subL_nil))) (fun W hm => hm) ⟨(by omega), rfl⟩ ?_
  rintro ⟨k6, s7, ⟨⟩⟩ H10
  obtain ⟨hk8, hF9⟩ : k6 ≤ x0.length ∧ rng (R := Int) (fun k (s : Int) => laws_heldVersionS_b1 x0 k s) (x0.length - k6) k6 s7 = rng (R := Int) (fun k (s : Int) => laws_heldVersionS_b1 x0 k s) (x0.length - 0) 0 x1 := H10
  show CM Try.prog 49 _ _ _ _ [(0, .slice A2 x0.length c3), (1, .int .i64 s7), (5, .int .i64 ((k6 : Nat) : Int))] []
  refine CM_seq ?_
  refine sr ?_
  refine wm ?_
  refine wm ?_
  refine wv (fun W hm => rv_len Try.underlying100 rfl) ?_
  refine wv (fun W hm => rv_lss rfl rfl) ?_
  refine nt' ?_
  by_cases hl11 : k6 < x0.length
  · have g12 : (decide (((k6 : Nat) : Int) < ((x0.length : Nat) : Int))) = true := decide_eq_true (by omega)
    refine CM_condT rfl g12 ?_
    refine CM_skip ?_
    refine QM_then ?_
    refine CM_seq ?_
    refine CM_block ?_
    refine CM_seq ?_
    refine sr ?_
    refine wm ?_
    refine wm ?_
    obtain ⟨a13, rfl, hb14, he15⟩ := q4 (by omega)
    refine wv (fun W hm => rv_index (sz := 4) (k := k6) Try.underlying100 Try.type102 rfl rfl rfl (by omega)) ?_
    refine wv (fun W hm => rv_field Try.underlying102 rfl Try.type3 (by decide) rfl rfl) ?_
    obtain ⟨_, e19, hc16⟩ := he15 k6 _ (gt_some (show k6 < x0.length from by omega))
    obtain ⟨v17, rfl, r18⟩ := tyVersion_rd e19
    have r24 := r18
    obtain ⟨m20, A21, c22, rfl, q23⟩ := r18
    refine wv (fun W hm => rv_load Try.underlying3 rfl rfl ((hm.cell0 (show ((a13.add (k6 * 4)).add 0).block < w.heap.size from by rw [add_block, add_block]; exact hb14.1)).trans (hc16 0 _ rfl))) ?_
    refine wm ?_
    refine wv (fun W hm => rv_neq rfl rfl) ?_
    refine nt' ?_
    by_cases h25 : ((gt x0 k6).Id) = s7
    · have g26 : (((gt x0 k6).Id) != s7) = false := by rw [h25]; exact bne_self_eq_false _
      refine CM_condF rfl g26 ?_
      refine CM_skip ?_
      refine QM_then ?_
      refine sr ?_
      refine wm ?_
      refine wv (fun W hm => rv_add rfl rfl) ?_
      refine wa ?_
      refine nt' ?_
      refine sr ?_
      refine wm ?_
      refine wm ?_
      refine wv (fun W hm => rv_index (sz := 4) (k := k6) Try.underlying100 Try.type102 rfl rfl rfl (by omega)) ?_
      refine wv (fun W hm => rv_field Try.underlying102 rfl Try.type33 (by decide) rfl rfl) ?_
      refine wv (fun W hm => rv_load Try.underlying33 rfl rfl ((hm.cell0 (show ((a13.add (k6 * 4)).add 1).block < w.heap.size from by rw [add_block, add_block]; exact hb14.1)).trans (hc16 1 _ rfl))) ?_
      refine wm ?_
      refine WM_callV (cl_fn cb64 rfl) (fun W hm => laws_heldIntS_c W _ ((gt x0 k6).Values) (IntKind.i64.wrap (s7 + 1)) (hm.rdS0 r24)) (Wd_none rfl) (by decide) ?_
      refine wa ?_
      refine nt' ?_
      refine CM_seq ?_
      refine sr ?_
      refine wm ?_
      refine wv (fun W hm => rv_lss rfl rfl) ?_
      refine nt' ?_
      by_cases h27 : (laws_heldIntS_m ((gt x0 k6).Values) (IntKind.i64.wrap (s7 + 1))) < 0
      · have g28 : (decide ((laws_heldIntS_m ((gt x0 k6).Values) (IntKind.i64.wrap (s7 + 1))) < 0)) = true := decide_eq_true h27
        refine CM_condT rfl g28 ?_
        refine sr ?_
        refine wa ?_
        refine nt' ?_
        refine CM_ret ?_
        refine QM_then_ret ?_
        refine QM_block_ret ?_
        refine QM_then_ret ?_
        refine QM_then_ret ?_
        refine QM_block_ret ?_
        refine QM_then_ret ?_
        exact QM_ret1 rfl rfl (fun W hm => ⟨ret_i (show laws_heldVersionS_m x0 x1 = (-1) from by unfold laws_heldVersionS_m; exact fin_inl (rng_ret (body := (fun k (s : Int) => laws_heldVersionS_b1 x0 k s)) (k := k6) (s := s7) (show k6 < x0.length from by omega) (show laws_heldVersionS_b1 x0 k6 s7 = Sum.inl (-1) from by unfold laws_heldVersionS_b1; exact cond_f g26 (cond_t g28 (rfl))) hF9) rfl), hm.below⟩)
      · have g28 : (decide ((laws_heldIntS_m ((gt x0 k6).Values) (IntKind.i64.wrap (s7 + 1))) < 0)) = false := decide_eq_false h27
        refine CM_condF rfl g28 ?_
        refine CM_skip ?_
        refine QM_then ?_
        refine CM_seq ?_
        refine sr ?_
        refine wm ?_
        refine wm ?_
        refine wv (fun W hm => rv_index (sz := 4) (k := k6) Try.underlying100 Try.type102 rfl rfl rfl (by omega)) ?_
        refine wv (fun W hm => rv_field Try.underlying102 rfl Try.type3 (by decide) rfl rfl) ?_
        refine wv (fun W hm => rv_load Try.underlying3 rfl rfl ((hm.cell0 (show ((a13.add (k6 * 4)).add 2).block < w.heap.size from by rw [add_block, add_block]; exact hb14.1)).trans (hc16 2 _ rfl))) ?_
        refine wm ?_
        refine wv (fun W hm => rv_neq rfl rfl) ?_
        refine nt' ?_
        by_cases h29 : ((gt x0 k6).Born) = (laws_heldIntS_m ((gt x0 k6).Values) (IntKind.i64.wrap (s7 + 1)))
        · have g30 : (((gt x0 k6).Born) != (laws_heldIntS_m ((gt x0 k6).Values) (IntKind.i64.wrap (s7 + 1)))) = false := by rw [h29]; exact bne_self_eq_false _
          refine CM_condF rfl g30 ?_
          refine CM_skip ?_
          refine QM_then ?_
          refine sr ?_
          refine wm ?_
          refine wv (fun W hm => rv_add rfl rfl) ?_
          refine wa ?_
          refine nt' ?_
          refine CM_seq ?_
          refine sr ?_
          refine wm ?_
          refine wm ?_
          refine wv (fun W hm => rv_index (sz := 4) (k := k6) Try.underlying100 Try.type102 rfl rfl rfl (by omega)) ?_
          refine wv (fun W hm => rv_field Try.underlying102 rfl Try.type3 (by decide) rfl rfl) ?_
          refine wv (fun W hm => rv_load Try.underlying3 rfl rfl ((hm.cell0 (show ((a13.add (k6 * 4)).add 3).block < w.heap.size from by rw [add_block, add_block]; exact hb14.1)).trans (hc16 3 _ rfl))) ?_
          refine wm ?_
          refine wv (fun W hm => rv_neq rfl rfl) ?_
          refine nt' ?_
          by_cases h31 : ((gt x0 k6).Died) = (IntKind.i64.wrap ((laws_heldIntS_m ((gt x0 k6).Values) (IntKind.i64.wrap (s7 + 1))) + 1))
          · have g32 : (((gt x0 k6).Died) != (IntKind.i64.wrap ((laws_heldIntS_m ((gt x0 k6).Values) (IntKind.i64.wrap (s7 + 1))) + 1))) = false := by rw [h31]; exact bne_self_eq_false _
            refine CM_condF rfl g32 ?_
            refine CM_skip ?_
            refine QM_then ?_
            refine CM_region ?_
            refine wm ?_
            refine wv (fun W hm => rv_add rfl rfl) ?_
            refine wa ?_
            refine WM_nil ?_
            refine QM_block_normal ?_
            refine QM_then ?_
            refine CM_region ?_
            refine wm ?_
            refine wv (fun W hm => rv_addN (p := k6) (q := 1) rfl rfl (by omega)) ?_
            refine wa ?_
            refine WM_nil ?_
            have hn33 := rng_next (R := Int) (body := (fun k (s : Int) => laws_heldVersionS_b1 x0 k s)) (k := k6) (s := s7) (s' := (IntKind.i64.wrap ((IntKind.i64.wrap ((laws_heldIntS_m ((gt x0 k6).Values) (IntKind.i64.wrap (s7 + 1))) + 1)) + 1))) (show k6 < x0.length from by omega) (show laws_heldVersionS_b1 x0 k6 s7 = Sum.inr (IntKind.i64.wrap ((IntKind.i64.wrap ((laws_heldIntS_m ((gt x0 k6).Values) (IntKind.i64.wrap (s7 + 1))) + 1)) + 1)) from by unfold laws_heldVersionS_b1; exact cond_f g26 (cond_f g28 (cond_f g30 (cond_f g32 (rfl))))) hF9
            exact QM_round (k6 + 1, (IntKind.i64.wrap ((IntKind.i64.wrap ((laws_heldIntS_m ((gt x0 k6).Values) (IntKind.i64.wrap (s7 + 1))) + 1)) + 1)), ()) (subL_cons rfl (subL_cons rfl (subL_cons rfl subL_nil))) (fun W hm => hm) ⟨(by omega), hn33⟩ (show x0.length - (k6 + 1) < x0.length - k6 from by omega)
          · have g32 : (((gt x0 k6).Died) != (IntKind.i64.wrap ((laws_heldIntS_m ((gt x0 k6).Values) (IntKind.i64.wrap (s7 + 1))) + 1))) = true := bne_iff_ne.2 h31
            refine CM_condT rfl g32 ?_
            refine sr ?_
            refine wa ?_
            refine nt' ?_
            refine CM_ret ?_
            refine QM_then_ret ?_
            refine QM_block_ret ?_
            refine QM_then_ret ?_
            refine QM_then_ret ?_
            refine QM_block_ret ?_
            refine QM_then_ret ?_
            exact QM_ret1 rfl rfl (fun W hm => ⟨ret_i (show laws_heldVersionS_m x0 x1 = (-1) from by unfold laws_heldVersionS_m; exact fin_inl (rng_ret (body := (fun k (s : Int) => laws_heldVersionS_b1 x0 k s)) (k := k6) (s := s7) (show k6 < x0.length from by omega) (show laws_heldVersionS_b1 x0 k6 s7 = Sum.inl (-1) from by unfold laws_heldVersionS_b1; exact cond_f g26 (cond_f g28 (cond_f g30 (cond_t g32 (rfl))))) hF9) rfl), hm.below⟩)
        · have g30 : (((gt x0 k6).Born) != (laws_heldIntS_m ((gt x0 k6).Values) (IntKind.i64.wrap (s7 + 1)))) = true := bne_iff_ne.2 h29
          refine CM_condT rfl g30 ?_
          refine sr ?_
          refine wa ?_
          refine nt' ?_
          refine CM_ret ?_
          refine QM_then_ret ?_
          refine QM_block_ret ?_
          refine QM_then_ret ?_
          refine QM_then_ret ?_
          refine QM_block_ret ?_
          refine QM_then_ret ?_
          exact QM_ret1 rfl rfl (fun W hm => ⟨ret_i (show laws_heldVersionS_m x0 x1 = (-1) from by unfold laws_heldVersionS_m; exact fin_inl (rng_ret (body := (fun k (s : Int) => laws_heldVersionS_b1 x0 k s)) (k := k6) (s := s7) (show k6 < x0.length from by omega) (show laws_heldVersionS_b1 x0 k6 s7 = Sum.inl (-1) from by unfold laws_heldVersionS_b1; exact cond_f g26 (cond_f g28 (cond_t g30 (rfl)))) hF9) rfl), hm.below⟩)
    · have g26 : (((gt x0 k6).Id) != s7) = true := bne_iff_ne.2 h25
      refine CM_condT rfl g26 ?_
      refine sr ?_
      refine wa ?_
      refine nt' ?_
      refine CM_ret ?_
      refine QM_then_ret ?_
      refine QM_block_ret ?_
      refine QM_then_ret ?_
      refine QM_then_ret ?_
      refine QM_block_ret ?_
      refine QM_then_ret ?_
      exact QM_ret1 rfl rfl (fun W hm => ⟨ret_i (show laws_heldVersionS_m x0 x1 = (-1) from by unfold laws_heldVersionS_m; exact fin_inl (rng_ret (body := (fun k (s : Int) => laws_heldVersionS_b1 x0 k s)) (k := k6) (s := s7) (show k6 < x0.length from by omega) (show laws_heldVersionS_b1 x0 k6 s7 = Sum.inl (-1) from by unfold laws_heldVersionS_b1; exact cond_t g26 (rfl)) hF9) rfl), hm.below⟩)
  · have g12 : (decide (((k6 : Nat) : Int) < ((x0.length : Nat) : Int))) = false := decide_eq_false (by omega)
    refine CM_condF rfl g12 ?_
    refine CM_exit ?_
    refine QM_then_exit ?_
    refine QM_then_exit ?_
    have hE34 : rng (R := Int) (fun k (s : Int) => laws_heldVersionS_b1 x0 k s) (x0.length - 0) 0 x1 = Sum.inr s7 := rng_end hl11 hF9
    refine QM_block_hit ?_
    refine QM_then ?_
    refine sr ?_
    refine wm ?_
    refine wa ?_
    refine nt' ?_
    refine CM_ret ?_
    exact QM_ret1 rfl rfl (fun W hm => ⟨ret_i (show laws_heldVersionS_m x0 x1 = s7 from by unfold laws_heldVersionS_m; exact fin_inr hE34 (rfl)), hm.below⟩)

def laws_heldVersionSS_b1 (x0 : (List (List DVersion))) (k6 : Nat) (s7 : Int) : Int ⊕ (Int) :=
  cond (decide ((laws_heldVersionS_m (gt x0 k6) s7) < 0)) (Sum.inl (-1)) (Sum.inr (laws_heldVersionS_m (gt x0 k6) s7))
def laws_heldVersionSS_m (x0 : (List (List DVersion))) (x1 : Int) : Int :=
  Sum.elim id (fun (s : Int) => s) (rng (R := Int) (fun k (s : Int) => laws_heldVersionSS_b1 x0 k s) (x0.length - 0) 0 x1)
theorem cb78 : Cb Try.prog 78 := ⟨Try.f78, _, Try.func78, rfl, by decide⟩
set_option maxRecDepth 10000 in
set_option maxHeartbeats 4000000 in
theorem laws_heldVersionSS_c (w : World) (z0 : Value) (x0 : (List (List DVersion))) (x1 : Int) (r_0 : rdS (tSl tyVersion 102) w w.heap.size z0 x0) :
    Calls Try.prog 78 #[z0, .int .i64 x1] w fun e w' => e = .returned (.int .i64 (laws_heldVersionSS_m x0 x1)) ∧ Below w.heap.size w w' := by
  have r5 := r_0
  obtain ⟨m1, A2, c3, rfl, q4⟩ := r_0
  refine call_enterM (L := [(0, .slice A2 x0.length c3), (1, .int .i64 x1)]) (N := 21) Try.func78 rfl rfl (Nat.le_of_ble_eq_true rfl) (argsL_cons rfl (argsL_cons rfl argsL_nil)) ?_
  refine sr ?_
  refine wa ?_
  refine nt' ?_
  refine CM_seq ?_
  refine sr ?_
  refine wa ?_
  refine nt' ?_
  refine CM_block ?_
  refine CM_loop (σ := Nat × (Int) × (Unit)) (fun s => [(0, .slice A2 x0.length c3), (1, .int .i64 s.2.1), (5, .int .i64 ((s.1 : Nat) : Int))]) (fun s => []) (fun s => s.1 ≤ x0.length ∧ rng (R := Int) (fun k (s : Int) => laws_heldVersionSS_b1 x0 k s) (x0.length - s.1) s.1 s.2.1 = rng (R := Int) (fun k (s : Int) => laws_heldVersionSS_b1 x0 k s) (x0.length - 0) 0 x1) (fun s => x0.length - s.1) (0, x1, ()) (subL_cons rfl (subL_cons rfl (subL_cons rfl subL_nil))) (fun W hm => hm) ⟨(by omega), rfl⟩ ?_
  rintro ⟨k6, s7, ⟨⟩⟩ H10
  obtain ⟨hk8, hF9⟩ : k6 ≤ x0.length ∧ rng (R := Int) (fun k (s : Int) => laws_heldVersionSS_b1 x0 k s) (x0.length - k6) k6 s7 = rng (R := Int) (fun k (s : Int) => laws_heldVersionSS_b1 x0 k s) (x0.length - 0) 0 x1 := H10
  show CM Try.prog 21 _ _ _ _ [(0, .slice A2 x0.length c3), (1, .int .i64 s7), (5, .int .i64 ((k6 : Nat) : Int))] []
  refine CM_seq ?_
  refine sr ?_
  refine wm ?_
  refine wm ?_
  refine wv (fun W hm => rv_len Try.underlying43 rfl) ?_
  refine wv (fun W hm => rv_lss rfl rfl) ?_
  refine nt' ?_
  by_cases hl11 : k6 < x0.length
  · have g12 : (decide (((k6 : Nat) : Int) < ((x0.length : Nat) : Int))) = true := decide_eq_true (by omega)
    refine CM_condT rfl g12 ?_
    refine CM_skip ?_
    refine QM_then ?_
    refine CM_seq ?_
    refine CM_block ?_
    refine sr ?_
    refine wm ?_
    refine wm ?_
    obtain ⟨a13, rfl, hb14, he15⟩ := q4 (by omega)
    refine wv (fun W hm => rv_index (sz := 1) (k := k6) Try.underlying43 Try.type100 rfl rfl rfl (by omega)) ?_
    obtain ⟨_, e17, hc16⟩ := he15 k6 _ (gt_some (show k6 < x0.length from by omega))
    obtain ⟨v18, rfl, r19⟩ := e17
    have r24 := r19
    obtain ⟨m20, A21, c22, rfl, q23⟩ := r19
    refine wv (fun W hm => rv_load Try.underlying100 rfl rfl ((hm.cell0 (show (a13.add (k6 * 1)).block < w.heap.size from by rw [add_block]; exact hb14.1)).trans (hc16 0 _ rfl))) ?_
    refine wm ?_
    refine WM_callV (cl_fn cb120 rfl) (fun W hm => laws_heldVersionS_c W _ (gt x0 k6) s7 (hm.rdS0 r24)) (Wd_none rfl) (by decide) ?_
    refine wa ?_
    refine nt' ?_
    refine sr ?_
    refine wm ?_
    refine wv (fun W hm => rv_lss rfl rfl) ?_
    refine nt' ?_
    by_cases h25 : (laws_heldVersionS_m (gt x0 k6) s7) < 0
    · have g26 : (decide ((laws_heldVersionS_m (gt x0 k6) s7) < 0)) = true := decide_eq_true h25
      refine CM_condT rfl g26 ?_
      refine sr ?_
      refine wa ?_
      refine nt' ?_
      refine CM_ret ?_
      refine QM_block_ret ?_
      refine QM_then_ret ?_
      refine QM_then_ret ?_
      refine QM_block_ret ?_
      refine QM_then_ret ?_
      exact QM_ret1 rfl rfl (fun W hm => ⟨ret_i (show laws_heldVersionSS_m x0 x1 = (-1) from by unfold laws_heldVersionSS_m; exact fin_inl (rng_ret (body := (fun k (s : Int) => laws_heldVersionSS_b1 x0 k s)) (k := k6) (s := s7) (show k6 < x0.length from by omega) (show laws_heldVersionSS_b1 x0 k6 s7 = Sum.inl (-1) from by unfold laws_heldVersionSS_b1; exact cond_t g26 (rfl)) hF9) rfl), hm.below⟩)
    · have g26 : (decide ((laws_heldVersionS_m (gt x0 k6) s7) < 0)) = false := decide_eq_false h25
      refine CM_condF rfl g26 ?_
      refine CM_skip ?_
      refine QM_block_normal ?_
      refine QM_then ?_
      refine CM_region ?_
      refine wm ?_
      refine wv (fun W hm => rv_addN (p := k6) (q := 1) rfl rfl (by omega)) ?_
      refine wa ?_
      refine WM_nil ?_
      have hn27 := rng_next (R := Int) (body := (fun k (s : Int) => laws_heldVersionSS_b1 x0 k s)) (k := k6) (s := s7) (s' := (laws_heldVersionS_m (gt x0 k6) s7)) (show k6 < x0.length from by omega) (show laws_heldVersionSS_b1 x0 k6 s7 = Sum.inr (laws_heldVersionS_m (gt x0 k6) s7) from by unfold laws_heldVersionSS_b1; exact cond_f g26 (rfl)) hF9
      exact QM_round (k6 + 1, (laws_heldVersionS_m (gt x0 k6) s7), ()) (subL_cons rfl (subL_cons rfl (subL_cons rfl subL_nil))) (fun W hm => hm) ⟨(by omega), hn27⟩ (show x0.length - (k6 + 1) < x0.length - k6 from by omega)
  · have g12 : (decide (((k6 : Nat) : Int) < ((x0.length : Nat) : Int))) = false := decide_eq_false (by omega)
    refine CM_condF rfl g12 ?_
    refine CM_exit ?_
    refine QM_then_exit ?_
    refine QM_then_exit ?_
    have hE28 : rng (R := Int) (fun k (s : Int) => laws_heldVersionSS_b1 x0 k s) (x0.length - 0) 0 x1 = Sum.inr s7 := rng_end hl11 hF9
    refine QM_block_hit ?_
    refine QM_then ?_
    refine sr ?_
    refine wm ?_
    refine wa ?_
    refine nt' ?_
    refine CM_ret ?_
    exact QM_ret1 rfl rfl (fun W hm => ⟨ret_i (show laws_heldVersionSS_m x0 x1 = s7 from by unfold laws_heldVersionSS_m; exact fin_inr hE28 (rfl)), hm.below⟩)

def laws_heldStore_m (x0 : DStore) (x1 : Int) : Int :=
  cond (decide ((laws_heldVersionSS_m x0.Segments x1) < 0)) (-1) (laws_heldVersionSS_m x0.Segments x1)
theorem cb32 : Cb Try.prog 32 := ⟨Try.f32, _, Try.func32, rfl, by decide⟩
set_option maxRecDepth 10000 in
set_option maxHeartbeats 4000000 in
theorem laws_heldStore_c (w : World) (z0 : List Value) (x0 : DStore) (x1 : Int) (r_0 : tyStore.rd w w.heap.size z0 x0) :
    Calls Try.prog 32 #[.agg z0.toArray, .int .i64 x1] w fun e w' => e = .returned (.int .i64 (laws_heldStore_m x0 x1)) ∧ Below w.heap.size w w' := by
  obtain ⟨v1, rfl, r2⟩ := tyStore_rd r_0
  have r7 := r2
  obtain ⟨m3, A4, c5, rfl, q6⟩ := r2
  refine call_enterM (L := [(0, .agg #[.slice A4 x0.Segments.length c5, .int .i64 x0.Now]), (1, .int .i64 x1)]) (N := 12) Try.func32 rfl rfl (Nat.le_of_ble_eq_true rfl) (argsL_cons rfl (argsL_cons rfl argsL_nil)) ?_
  refine sr ?_
  refine WM_box rfl (Wd_none rfl) (by decide) (fun p8 => ?_)
  refine wa ?_
  refine nt' ?_
  refine sr ?_
  refine wv (fun W hm => rv_field Try.underlying45 rfl Try.type43 (by decide) rfl rfl) ?_
  refine wv (fun W hm => rv_load Try.underlying43 rfl rfl (hm.boxCell (n := 0) (o := 0) rfl rfl)) ?_
  refine wm ?_
  refine WM_callV (cl_fn cb78 rfl) (fun W hm => laws_heldVersionSS_c W _ x0.Segments x1 (hm.rdS0 r7)) (Wd_none rfl) (by decide) ?_
  refine wa ?_
  refine nt' ?_
  refine CM_seq ?_
  refine sr ?_
  refine wm ?_
  refine wv (fun W hm => rv_lss rfl rfl) ?_
  refine nt' ?_
  by_cases h9 : (laws_heldVersionSS_m x0.Segments x1) < 0
  · have g10 : (decide ((laws_heldVersionSS_m x0.Segments x1) < 0)) = true := decide_eq_true h9
    refine CM_condT rfl g10 ?_
    refine sr ?_
    refine wa ?_
    refine nt' ?_
    refine CM_ret ?_
    refine QM_then_ret ?_
    exact QM_ret1 rfl rfl (fun W hm => ⟨ret_i (show laws_heldStore_m x0 x1 = (-1) from by unfold laws_heldStore_m; exact cond_t g10 (rfl)), hm.below⟩)
  · have g10 : (decide ((laws_heldVersionSS_m x0.Segments x1) < 0)) = false := decide_eq_false h9
    refine CM_condF rfl g10 ?_
    refine CM_skip ?_
    refine QM_then ?_
    refine sr ?_
    refine wm ?_
    refine wa ?_
    refine nt' ?_
    refine CM_ret ?_
    exact QM_ret1 rfl rfl (fun W hm => ⟨ret_i (show laws_heldStore_m x0 x1 = (laws_heldVersionSS_m x0.Segments x1) from by unfold laws_heldStore_m; exact cond_f g10 (rfl)), hm.below⟩)

end Go.Proofs.Ytjcdginailhfmaa
