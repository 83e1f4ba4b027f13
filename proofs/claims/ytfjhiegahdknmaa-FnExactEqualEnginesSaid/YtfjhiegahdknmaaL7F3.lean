/-
  Contracts of functions, printed by a program of ours.
-/
import Derived.Test.YtfjhiegahdknmaaL7F2
namespace Go.Proofs.Ytfjhiegahdknmaa
open Go.RowKit
def impl_equalActive_m (x0 : DActive) (x1 : DActive) : Bool :=
  cond (impl_equalQuery_m x0.Query x1.Query) (cond (x0.Time == x1.Time) (cond (impl_sameInts_m x0.Todo x1.Todo) (cond (x0.Age == x1.Age) (cond (x0.Sent == x1.Sent) (cond (x0.Cap == x1.Cap) (impl_EqualRows_m x0.Rows x1.Rows) false) false) false) false) false) false
set_option maxRecDepth 100000 in
theorem cb122 : Cb Try.prog 122 := ⟨Try.f122, _, Try.func122, rfl, by decide⟩
set_option maxRecDepth 10000 in
set_option maxHeartbeats 4000000 in
theorem impl_equalActive_c (w : World) (z0 : List Value) (x0 : DActive) (z1 : List Value) (x1 : DActive) (r_0 : tyActive.rd w w.heap.size z0 x0) (r_1 : tyActive.rd w w.heap.size z1 x1) :
    Calls Try.prog 122 #[.agg z0.toArray, .agg z1.toArray] w fun e w' => e = .returned (.bool (impl_equalActive_m x0 x1)) ∧ Below w.heap.size w w' := by
  obtain ⟨v1, v3, v5, v7, rfl, r2, r4, r6, r8⟩ := tyActive_rd r_0
  have r13 := r2
  obtain ⟨m9, A10, c11, rfl, q12⟩ := r2
  have r18 := r4
  obtain ⟨m14, A15, c16, rfl, q17⟩ := r4
  have r23 := r6
  obtain ⟨m19, A20, c21, rfl, q22⟩ := r6
  have r28 := r8
  obtain ⟨m24, A25, c26, rfl, q27⟩ := r8
  obtain ⟨v29, v31, v33, v35, rfl, r30, r32, r34, r36⟩ := tyActive_rd r_1
  have r41 := r30
  obtain ⟨m37, A38, c39, rfl, q40⟩ := r30
  have r46 := r32
  obtain ⟨m42, A43, c44, rfl, q45⟩ := r32
  have r51 := r34
  obtain ⟨m47, A48, c49, rfl, q50⟩ := r34
  have r56 := r36
  obtain ⟨m52, A53, c54, rfl, q55⟩ := r36
  refine call_enterM (L := [(0, .agg #[.int .i64 x0.Query.Id, .int .i64 x0.Query.Tenant, .slice A10 x0.Query.Conds.length c11, .slice A15 x0.Query.Out.length c16, .int .i64 x0.Time, .slice A20 x0.Todo.length c21, .int .i64 x0.Age, .int .i64 x0.Sent, .int .i64 x0.Cap, .slice A25 x0.Rows.length c26]), (1, .agg #[.int .i64 x1.Query.Id, .int .i64 x1.Query.Tenant, .slice A38 x1.Query.Conds.length c39, .slice A43 x1.Query.Out.length c44, .int .i64 x1.Time, .slice A48 x1.Todo.length c49, .int .i64 x1.Age, .int .i64 x1.Sent, .int .i64 x1.Cap, .slice A53 x1.Rows.length c54])]) (N := 52) Try.func122 rfl rfl (Nat.le_of_ble_eq_true rfl) (argsL_cons rfl (argsL_cons rfl argsL_nil)) ?_
  refine sr ?_
  refine WM_box rfl (Wd_none rfl) (by decide) (fun p57 => ?_)
  refine WM_box rfl (Wd_none rfl) (by decide) (fun p58 => ?_)
  refine wa ?_
  refine nt' ?_
  refine sr ?_
  refine wv (fun W hm => rv_field Try.underlying127 rfl Try.type125 (by decide) rfl rfl) ?_
  refine wv (fun W hm => rv_loadN (cs := [.int .i64 x0.Query.Id, .int .i64 x0.Query.Tenant, .slice A10 x0.Query.Conds.length c11, .slice A15 x0.Query.Out.length c16]) Try.underlying125 Try.type125 rfl rfl (hm.boxPart (n := 1) rfl rfl)) ?_
  refine wv (fun W hm => rv_field Try.underlying127 rfl Try.type125 (by decide) rfl rfl) ?_
  refine wv (fun W hm => rv_loadN (cs := [.int .i64 x1.Query.Id, .int .i64 x1.Query.Tenant, .slice A38 x1.Query.Conds.length c39, .slice A43 x1.Query.Out.length c44]) Try.underlying125 Try.type125 rfl rfl (hm.boxPart (n := 0) rfl rfl)) ?_
  refine WM_callV (cl_fn cb123 rfl) (fun W hm => impl_equalQuery_c W _ x0.Query _ x1.Query (tyQuery_mk (x := x0.Query) (hm.rdS0 r13) (hm.rdS0 r18)) (tyQuery_mk (x := x1.Query) (hm.rdS0 r41) (hm.rdS0 r46))) (Wd_none rfl) (by decide) ?_
  refine wm ?_
  rcases Bool.eq_false_or_eq_true (impl_equalQuery_m x0.Query x1.Query) with g60 | g60
  ·
    refine wg (fun W hm => rv_field Try.underlying127 rfl Try.type3 (by decide) rfl rfl) g60 ?_
    refine wg (fun W hm => rv_load Try.underlying3 rfl rfl (hm.boxCell (n := 1) (o := 4) rfl rfl)) g60 ?_
    refine wg (fun W hm => rv_field Try.underlying127 rfl Try.type3 (by decide) rfl rfl) g60 ?_
    refine wg (fun W hm => rv_load Try.underlying3 rfl rfl (hm.boxCell (n := 0) (o := 4) rfl rfl)) g60 ?_
    refine wg (fun W hm => rv_eql rfl rfl) g60 ?_
    refine wv (fun W hm => rv_pickT rfl g60 rfl) ?_
    refine wm ?_
    by_cases h61 : x0.Time = x1.Time
    · have g62 : (x0.Time == x1.Time) = true := beq_iff_eq.2 h61
      refine wg (fun W hm => rv_field Try.underlying127 rfl Try.type27 (by decide) rfl rfl) g62 ?_
      refine wg (fun W hm => rv_load Try.underlying27 rfl rfl (hm.boxCell (n := 1) (o := 5) rfl rfl)) g62 ?_
      refine wg (fun W hm => rv_field Try.underlying127 rfl Try.type27 (by decide) rfl rfl) g62 ?_
      refine wg (fun W hm => rv_load Try.underlying27 rfl rfl (hm.boxCell (n := 0) (o := 5) rfl rfl)) g62 ?_
      refine WM_callV (cl_fn cb121 rfl) (fun W hm => impl_sameInts_c W _ x0.Todo _ x1.Todo (hm.rdS0 r23) (hm.rdS0 r51)) (Wd_some rfl rfl rfl (bw g62 rfl)) (by decide) ?_
      refine wv (fun W hm => rv_pickT rfl g62 rfl) ?_
      refine wm ?_
      rcases Bool.eq_false_or_eq_true (impl_sameInts_m x0.Todo x1.Todo) with g64 | g64
      ·
        refine wg (fun W hm => rv_field Try.underlying127 rfl Try.type3 (by decide) rfl rfl) g64 ?_
        refine wg (fun W hm => rv_load Try.underlying3 rfl rfl (hm.boxCell (n := 1) (o := 6) rfl rfl)) g64 ?_
        refine wg (fun W hm => rv_field Try.underlying127 rfl Try.type3 (by decide) rfl rfl) g64 ?_
        refine wg (fun W hm => rv_load Try.underlying3 rfl rfl (hm.boxCell (n := 0) (o := 6) rfl rfl)) g64 ?_
        refine wg (fun W hm => rv_eql rfl rfl) g64 ?_
        refine wv (fun W hm => rv_pickT rfl g64 rfl) ?_
        refine wm ?_
        by_cases h65 : x0.Age = x1.Age
        · have g66 : (x0.Age == x1.Age) = true := beq_iff_eq.2 h65
          refine wg (fun W hm => rv_field Try.underlying127 rfl Try.type3 (by decide) rfl rfl) g66 ?_
          refine wg (fun W hm => rv_load Try.underlying3 rfl rfl (hm.boxCell (n := 1) (o := 7) rfl rfl)) g66 ?_
          refine wg (fun W hm => rv_field Try.underlying127 rfl Try.type3 (by decide) rfl rfl) g66 ?_
          refine wg (fun W hm => rv_load Try.underlying3 rfl rfl (hm.boxCell (n := 0) (o := 7) rfl rfl)) g66 ?_
          refine wg (fun W hm => rv_eql rfl rfl) g66 ?_
          refine wv (fun W hm => rv_pickT rfl g66 rfl) ?_
          refine wm ?_
          by_cases h67 : x0.Sent = x1.Sent
          · have g68 : (x0.Sent == x1.Sent) = true := beq_iff_eq.2 h67
            refine wg (fun W hm => rv_field Try.underlying127 rfl Try.type3 (by decide) rfl rfl) g68 ?_
            refine wg (fun W hm => rv_load Try.underlying3 rfl rfl (hm.boxCell (n := 1) (o := 8) rfl rfl)) g68 ?_
            refine wg (fun W hm => rv_field Try.underlying127 rfl Try.type3 (by decide) rfl rfl) g68 ?_
            refine wg (fun W hm => rv_load Try.underlying3 rfl rfl (hm.boxCell (n := 0) (o := 8) rfl rfl)) g68 ?_
            refine wg (fun W hm => rv_eql rfl rfl) g68 ?_
            refine wv (fun W hm => rv_pickT rfl g68 rfl) ?_
            refine wm ?_
            by_cases h69 : x0.Cap = x1.Cap
            · have g70 : (x0.Cap == x1.Cap) = true := beq_iff_eq.2 h69
              refine wg (fun W hm => rv_field Try.underlying127 rfl Try.type39 (by decide) rfl rfl) g70 ?_
              refine wg (fun W hm => rv_load Try.underlying39 rfl rfl (hm.boxCell (n := 1) (o := 9) rfl rfl)) g70 ?_
              refine wg (fun W hm => rv_field Try.underlying127 rfl Try.type39 (by decide) rfl rfl) g70 ?_
              refine wg (fun W hm => rv_load Try.underlying39 rfl rfl (hm.boxCell (n := 0) (o := 9) rfl rfl)) g70 ?_
              refine WM_callV (cl_fn cb124 rfl) (fun W hm => impl_EqualRows_c W _ x0.Rows _ x1.Rows (hm.rdS0 r28) (hm.rdS0 r56)) (Wd_some rfl rfl rfl (bw g70 rfl)) (by decide) ?_
              refine wv (fun W hm => rv_pickT rfl g70 rfl) ?_
              refine wa ?_
              refine nt' ?_
              refine CM_ret ?_
              exact QM_ret1 rfl rfl (fun W hm => ⟨ret_b (show impl_equalActive_m x0 x1 = (impl_EqualRows_m x0.Rows x1.Rows) from by unfold impl_equalActive_m; exact cond_t g60 (cond_t g62 (cond_t g64 (cond_t g66 (cond_t g68 (cond_t g70 (rfl))))))), hm.below⟩)
            · have g70 : (x0.Cap == x1.Cap) = false := beq_eq_false_iff_ne.2 h69
              refine ws g70 ?_
              refine ws g70 ?_
              refine ws g70 ?_
              refine ws g70 ?_
              refine ws g70 ?_
              refine wv (fun W hm => rv_pickF rfl g70 rfl) ?_
              refine wa ?_
              refine nt' ?_
              refine CM_ret ?_
              exact QM_ret1 rfl rfl (fun W hm => ⟨ret_b (show impl_equalActive_m x0 x1 = false from by unfold impl_equalActive_m; exact cond_t g60 (cond_t g62 (cond_t g64 (cond_t g66 (cond_t g68 (cond_f g70 (rfl))))))), hm.below⟩)
          · have g68 : (x0.Sent == x1.Sent) = false := beq_eq_false_iff_ne.2 h67
            refine ws g68 ?_
            refine ws g68 ?_
            refine ws g68 ?_
            refine ws g68 ?_
            refine ws g68 ?_
            refine wv (fun W hm => rv_pickF rfl g68 rfl) ?_
            refine wm ?_
            refine WM_skip (Wd_some rfl rfl rfl rfl) rfl (by decide) ?_
            refine WM_skip (Wd_some rfl rfl rfl rfl) rfl (by decide) ?_
            refine WM_skip (Wd_some rfl rfl rfl rfl) rfl (by decide) ?_
            refine WM_skip (Wd_some rfl rfl rfl rfl) rfl (by decide) ?_
            refine WM_skip (Wd_some rfl rfl rfl rfl) rfl (by decide) ?_
            refine wv (fun W hm => rv_pickF rfl rfl rfl) ?_
            refine wa ?_
            refine nt' ?_
            refine CM_ret ?_
            exact QM_ret1 rfl rfl (fun W hm => ⟨ret_b (show impl_equalActive_m x0 x1 = false from by unfold impl_equalActive_m; exact cond_t g60 (cond_t g62 (cond_t g64 (cond_t g66 (cond_f g68 (rfl)))))), hm.below⟩)
        · have g66 : (x0.Age == x1.Age) = false := beq_eq_false_iff_ne.2 h65
          refine ws g66 ?_
          refine ws g66 ?_
          refine ws g66 ?_
          refine ws g66 ?_
          refine ws g66 ?_
          refine wv (fun W hm => rv_pickF rfl g66 rfl) ?_
          refine wm ?_
          refine WM_skip (Wd_some rfl rfl rfl rfl) rfl (by decide) ?_
          refine WM_skip (Wd_some rfl rfl rfl rfl) rfl (by decide) ?_
          refine WM_skip (Wd_some rfl rfl rfl rfl) rfl (by decide) ?_
          refine WM_skip (Wd_some rfl rfl rfl rfl) rfl (by decide) ?_
          refine WM_skip (Wd_some rfl rfl rfl rfl) rfl (by decide) ?_
          refine wv (fun W hm => rv_pickF rfl rfl rfl) ?_
          refine wm ?_
          refine WM_skip (Wd_some rfl rfl rfl rfl) rfl (by decide) ?_
          refine WM_skip (Wd_some rfl rfl rfl rfl) rfl (by decide) ?_
          refine WM_skip (Wd_some rfl rfl rfl rfl) rfl (by decide) ?_
          refine WM_skip (Wd_some rfl rfl rfl rfl) rfl (by decide) ?_
          refine WM_skip (Wd_some rfl rfl rfl rfl) rfl (by decide) ?_
          refine wv (fun W hm => rv_pickF rfl rfl rfl) ?_
          refine wa ?_
          refine nt' ?_
          refine CM_ret ?_
          exact QM_ret1 rfl rfl (fun W hm => ⟨ret_b (show impl_equalActive_m x0 x1 = false from by unfold impl_equalActive_m; exact cond_t g60 (cond_t g62 (cond_t g64 (cond_f g66 (rfl))))), hm.below⟩)
      ·
        refine ws g64 ?_
        refine ws g64 ?_
        refine ws g64 ?_
        refine ws g64 ?_
        refine ws g64 ?_
        refine wv (fun W hm => rv_pickF rfl g64 rfl) ?_
        refine wm ?_
        refine WM_skip (Wd_some rfl rfl rfl rfl) rfl (by decide) ?_
        refine WM_skip (Wd_some rfl rfl rfl rfl) rfl (by decide) ?_
        refine WM_skip (Wd_some rfl rfl rfl rfl) rfl (by decide) ?_
        refine WM_skip (Wd_some rfl rfl rfl rfl) rfl (by decide) ?_
        refine WM_skip (Wd_some rfl rfl rfl rfl) rfl (by decide) ?_
        refine wv (fun W hm => rv_pickF rfl rfl rfl) ?_
        refine wm ?_
        refine WM_skip (Wd_some rfl rfl rfl rfl) rfl (by decide) ?_
        refine WM_skip (Wd_some rfl rfl rfl rfl) rfl (by decide) ?_
        refine WM_skip (Wd_some rfl rfl rfl rfl) rfl (by decide) ?_
        refine WM_skip (Wd_some rfl rfl rfl rfl) rfl (by decide) ?_
        refine WM_skip (Wd_some rfl rfl rfl rfl) rfl (by decide) ?_
        refine wv (fun W hm => rv_pickF rfl rfl rfl) ?_
        refine wm ?_
        refine WM_skip (Wd_some rfl rfl rfl rfl) rfl (by decide) ?_
        refine WM_skip (Wd_some rfl rfl rfl rfl) rfl (by decide) ?_
        refine WM_skip (Wd_some rfl rfl rfl rfl) rfl (by decide) ?_
        refine WM_skip (Wd_some rfl rfl rfl rfl) rfl (by decide) ?_
        refine WM_skip (Wd_some rfl rfl rfl rfl) rfl (by decide) ?_
        refine wv (fun W hm => rv_pickF rfl rfl rfl) ?_
        refine wa ?_
        refine nt' ?_
        refine CM_ret ?_
        exact QM_ret1 rfl rfl (fun W hm => ⟨ret_b (show impl_equalActive_m x0 x1 = false from by unfold impl_equalActive_m; exact cond_t g60 (cond_t g62 (cond_f g64 (rfl)))), hm.below⟩)
    · have g62 : (x0.Time == x1.Time) = false := beq_eq_false_iff_ne.2 h61
      refine ws g62 ?_
      refine ws g62 ?_
      refine ws g62 ?_
      refine ws g62 ?_
      refine ws g62 ?_
      refine wv (fun W hm => rv_pickF rfl g62 rfl) ?_
      refine wm ?_
      refine WM_skip (Wd_some rfl rfl rfl rfl) rfl (by decide) ?_
      refine WM_skip (Wd_some rfl rfl rfl rfl) rfl (by decide) ?_
      refine WM_skip (Wd_some rfl rfl rfl rfl) rfl (by decide) ?_
      refine WM_skip (Wd_some rfl rfl rfl rfl) rfl (by decide) ?_
      refine WM_skip (Wd_some rfl rfl rfl rfl) rfl (by decide) ?_
      refine wv (fun W hm => rv_pickF rfl rfl rfl) ?_
      refine wm ?_
      refine WM_skip (Wd_some rfl rfl rfl rfl) rfl (by decide) ?_
      refine WM_skip (Wd_some rfl rfl rfl rfl) rfl (by decide) ?_
      refine WM_skip (Wd_some rfl rfl rfl rfl) rfl (by decide) ?_
      refine WM_skip (Wd_some rfl rfl rfl rfl) rfl (by decide) ?_
      refine WM_skip (Wd_some rfl rfl rfl rfl) rfl (by decide) ?_
      refine wv (fun W hm => rv_pickF rfl rfl rfl) ?_
      refine wm ?_
      refine WM_skip (Wd_some rfl rfl rfl rfl) rfl (by decide) ?_
      refine WM_skip (Wd_some rfl rfl rfl rfl) rfl (by decide) ?_
      refine WM_skip (Wd_some rfl rfl rfl rfl) rfl (by decide) ?_
      refine WM_skip (Wd_some rfl rfl rfl rfl) rfl (by decide) ?_
      refine WM_skip (Wd_some rfl rfl rfl rfl) rfl (by decide) ?_
      refine wv (fun W hm => rv_pickF rfl rfl rfl) ?_
      refine wm ?_
      refine WM_skip (Wd_some rfl rfl rfl rfl) rfl (by decide) ?_
      refine WM_skip (Wd_some rfl rfl rfl rfl) rfl (by decide) ?_
      refine WM_skip (Wd_some rfl rfl rfl rfl) rfl (by decide) ?_
      refine WM_skip (Wd_some rfl rfl rfl rfl) rfl (by decide) ?_
      refine WM_skip (Wd_some rfl rfl rfl rfl) rfl (by decide) ?_
      refine wv (fun W hm => rv_pickF rfl rfl rfl) ?_
      refine wa ?_
      refine nt' ?_
      refine CM_ret ?_
      exact QM_ret1 rfl rfl (fun W hm => ⟨ret_b (show impl_equalActive_m x0 x1 = false from by unfold impl_equalActive_m; exact cond_t g60 (cond_f g62 (rfl))), hm.below⟩)
  ·
    refine ws g60 ?_
    refine ws g60 ?_
    refine ws g60 ?_
    refine ws g60 ?_
    refine ws g60 ?_
    refine wv (fun W hm => rv_pickF rfl g60 rfl) ?_
    refine wm ?_
    refine WM_skip (Wd_some rfl rfl rfl rfl) rfl (by decide) ?_
    refine WM_skip (Wd_some rfl rfl rfl rfl) rfl (by decide) ?_
    refine WM_skip (Wd_some rfl rfl rfl rfl) rfl (by decide) ?_
    refine WM_skip (Wd_some rfl rfl rfl rfl) rfl (by decide) ?_
    refine WM_skip (Wd_some rfl rfl rfl rfl) rfl (by decide) ?_
    refine wv (fun W hm => rv_pickF rfl rfl rfl) ?_
    refine wm ?_
    refine WM_skip (Wd_some rfl rfl rfl rfl) rfl (by decide) ?_
    refine WM_skip (Wd_some rfl rfl rfl rfl) rfl (by decide) ?_
    refine WM_skip (Wd_some rfl rfl rfl rfl) rfl (by decide) ?_
    refine WM_skip (Wd_some rfl rfl rfl rfl) rfl (by decide) ?_
    refine WM_skip (Wd_some rfl rfl rfl rfl) rfl (by decide) ?_
    refine wv (fun W hm => rv_pickF rfl rfl rfl) ?_
    refine wm ?_
    refine WM_skip (Wd_some rfl rfl rfl rfl) rfl (by decide) ?_
    refine WM_skip (Wd_some rfl rfl rfl rfl) rfl (by decide) ?_
    refine WM_skip (Wd_some rfl rfl rfl rfl) rfl (by decide) ?_
    refine WM_skip (Wd_some rfl rfl rfl rfl) rfl (by decide) ?_
    refine WM_skip (Wd_some rfl rfl rfl rfl) rfl (by decide) ?_
    refine wv (fun W hm => rv_pickF rfl rfl rfl) ?_
    refine wm ?_
    refine WM_skip (Wd_some rfl rfl rfl rfl) rfl (by decide) ?_
    refine WM_skip (Wd_some rfl rfl rfl rfl) rfl (by decide) ?_
    refine WM_skip (Wd_some rfl rfl rfl rfl) rfl (by decide) ?_
    refine WM_skip (Wd_some rfl rfl rfl rfl) rfl (by decide) ?_
    refine WM_skip (Wd_some rfl rfl rfl rfl) rfl (by decide) ?_
    refine wv (fun W hm => rv_pickF rfl rfl rfl) ?_
    refine wm ?_
    refine WM_skip (Wd_some rfl rfl rfl rfl) rfl (by decide) ?_
    refine WM_skip (Wd_some rfl rfl rfl rfl) rfl (by decide) ?_
    refine WM_skip (Wd_some rfl rfl rfl rfl) rfl (by decide) ?_
    refine WM_skip (Wd_some rfl rfl rfl rfl) rfl (by decide) ?_
    refine WM_skip (Wd_some rfl rfl rfl rfl) rfl (by decide) ?_
    refine wv (fun W hm => rv_pickF rfl rfl rfl) ?_
    refine wa ?_
    refine nt' ?_
    refine CM_ret ?_
    exact QM_ret1 rfl rfl (fun W hm => ⟨ret_b (show impl_equalActive_m x0 x1 = false from by unfold impl_equalActive_m; exact cond_f g60 (rfl)), hm.below⟩)

def impl_equalCharge_m (x0 : DCharge) (x1 : DCharge) : Bool :=
  cond (x0.Segment == x1.Segment) (cond (x0.Base == x1.Base) (cond (impl_sameInts_m x0.Ids x1.Ids) (cond (impl_sameInts_m x0.Tenants x1.Tenants) (impl_sameInts_m x0.Rows x1.Rows) false) false) false) false
set_option maxRecDepth 100000 in
theorem cb125 : Cb Try.prog 125 := ⟨Try.f125, _, Try.func125, rfl, by decide⟩
set_option maxRecDepth 10000 in
set_option maxHeartbeats 4000000 in
theorem impl_equalCharge_c (w : World) (z0 : List Value) (x0 : DCharge) (z1 : List Value) (x1 : DCharge) (r_0 : tyCharge.rd w w.heap.size z0 x0) (r_1 : tyCharge.rd w w.heap.size z1 x1) :
    Calls Try.prog 125 #[.agg z0.toArray, .agg z1.toArray] w fun e w' => e = .returned (.bool (impl_equalCharge_m x0 x1)) ∧ Below w.heap.size w w' := by
  obtain ⟨v1, v3, v5, rfl, r2, r4, r6⟩ := tyCharge_rd r_0
  have r11 := r2
  obtain ⟨m7, A8, c9, rfl, q10⟩ := r2
  have r16 := r4
  obtain ⟨m12, A13, c14, rfl, q15⟩ := r4
  have r21 := r6
  obtain ⟨m17, A18, c19, rfl, q20⟩ := r6
  obtain ⟨v22, v24, v26, rfl, r23, r25, r27⟩ := tyCharge_rd r_1
  have r32 := r23
  obtain ⟨m28, A29, c30, rfl, q31⟩ := r23
  have r37 := r25
  obtain ⟨m33, A34, c35, rfl, q36⟩ := r25
  have r42 := r27
  obtain ⟨m38, A39, c40, rfl, q41⟩ := r27
  refine call_enterM (L := [(0, .agg #[.int .i64 x0.Segment, .int .i64 x0.Base, .slice A8 x0.Ids.length c9, .slice A13 x0.Tenants.length c14, .slice A18 x0.Rows.length c19]), (1, .agg #[.int .i64 x1.Segment, .int .i64 x1.Base, .slice A29 x1.Ids.length c30, .slice A34 x1.Tenants.length c35, .slice A39 x1.Rows.length c40])]) (N := 38) Try.func125 rfl rfl (Nat.le_of_ble_eq_true rfl) (argsL_cons rfl (argsL_cons rfl argsL_nil)) ?_
  refine sr ?_
  refine WM_box rfl (Wd_none rfl) (by decide) (fun p43 => ?_)
  refine WM_box rfl (Wd_none rfl) (by decide) (fun p44 => ?_)
  refine wa ?_
  refine nt' ?_
  refine sr ?_
  refine wv (fun W hm => rv_field Try.underlying140 rfl Try.type3 (by decide) rfl rfl) ?_
  refine wv (fun W hm => rv_load Try.underlying3 rfl rfl (hm.boxCell (n := 1) (o := 0) rfl rfl)) ?_
  refine wv (fun W hm => rv_field Try.underlying140 rfl Try.type3 (by decide) rfl rfl) ?_
  refine wv (fun W hm => rv_load Try.underlying3 rfl rfl (hm.boxCell (n := 0) (o := 0) rfl rfl)) ?_
  refine wv (fun W hm => rv_eql rfl rfl) ?_
  refine wm ?_
  by_cases h45 : x0.Segment = x1.Segment
  · have g46 : (x0.Segment == x1.Segment) = true := beq_iff_eq.2 h45
    refine wg (fun W hm => rv_field Try.underlying140 rfl Try.type3 (by decide) rfl rfl) g46 ?_
    refine wg (fun W hm => rv_load Try.underlying3 rfl rfl (hm.boxCell (n := 1) (o := 1) rfl rfl)) g46 ?_
    refine wg (fun W hm => rv_field Try.underlying140 rfl Try.type3 (by decide) rfl rfl) g46 ?_
    refine wg (fun W hm => rv_load Try.underlying3 rfl rfl (hm.boxCell (n := 0) (o := 1) rfl rfl)) g46 ?_
    refine wg (fun W hm => rv_eql rfl rfl) g46 ?_
    refine wv (fun W hm => rv_pickT rfl g46 rfl) ?_
    refine wm ?_
    by_cases h47 : x0.Base = x1.Base
    · have g48 : (x0.Base == x1.Base) = true := beq_iff_eq.2 h47
      refine wg (fun W hm => rv_field Try.underlying140 rfl Try.type27 (by decide) rfl rfl) g48 ?_
      refine wg (fun W hm => rv_load Try.underlying27 rfl rfl (hm.boxCell (n := 1) (o := 2) rfl rfl)) g48 ?_
      refine wg (fun W hm => rv_field Try.underlying140 rfl Try.type27 (by decide) rfl rfl) g48 ?_
      refine wg (fun W hm => rv_load Try.underlying27 rfl rfl (hm.boxCell (n := 0) (o := 2) rfl rfl)) g48 ?_
      refine WM_callV (cl_fn cb121 rfl) (fun W hm => impl_sameInts_c W _ x0.Ids _ x1.Ids (hm.rdS0 r11) (hm.rdS0 r32)) (Wd_some rfl rfl rfl (bw g48 rfl)) (by decide) ?_
      refine wv (fun W hm => rv_pickT rfl g48 rfl) ?_
      refine wm ?_
      rcases Bool.eq_false_or_eq_true (impl_sameInts_m x0.Ids x1.Ids) with g50 | g50
      ·
        refine wg (fun W hm => rv_field Try.underlying140 rfl Try.type27 (by decide) rfl rfl) g50 ?_
        refine wg (fun W hm => rv_load Try.underlying27 rfl rfl (hm.boxCell (n := 1) (o := 3) rfl rfl)) g50 ?_
        refine wg (fun W hm => rv_field Try.underlying140 rfl Try.type27 (by decide) rfl rfl) g50 ?_
        refine wg (fun W hm => rv_load Try.underlying27 rfl rfl (hm.boxCell (n := 0) (o := 3) rfl rfl)) g50 ?_
        refine WM_callV (cl_fn cb121 rfl) (fun W hm => impl_sameInts_c W _ x0.Tenants _ x1.Tenants (hm.rdS0 r16) (hm.rdS0 r37)) (Wd_some rfl rfl rfl (bw g50 rfl)) (by decide) ?_
        refine wv (fun W hm => rv_pickT rfl g50 rfl) ?_
        refine wm ?_
        rcases Bool.eq_false_or_eq_true (impl_sameInts_m x0.Tenants x1.Tenants) with g52 | g52
        ·
          refine wg (fun W hm => rv_field Try.underlying140 rfl Try.type27 (by decide) rfl rfl) g52 ?_
          refine wg (fun W hm => rv_load Try.underlying27 rfl rfl (hm.boxCell (n := 1) (o := 4) rfl rfl)) g52 ?_
          refine wg (fun W hm => rv_field Try.underlying140 rfl Try.type27 (by decide) rfl rfl) g52 ?_
          refine wg (fun W hm => rv_load Try.underlying27 rfl rfl (hm.boxCell (n := 0) (o := 4) rfl rfl)) g52 ?_
          refine WM_callV (cl_fn cb121 rfl) (fun W hm => impl_sameInts_c W _ x0.Rows _ x1.Rows (hm.rdS0 r21) (hm.rdS0 r42)) (Wd_some rfl rfl rfl (bw g52 rfl)) (by decide) ?_
          refine wv (fun W hm => rv_pickT rfl g52 rfl) ?_
          refine wa ?_
          refine nt' ?_
          refine CM_ret ?_
          exact QM_ret1 rfl rfl (fun W hm => ⟨ret_b (show impl_equalCharge_m x0 x1 = (impl_sameInts_m x0.Rows x1.Rows) from by unfold impl_equalCharge_m; exact cond_t g46 (cond_t g48 (cond_t g50 (cond_t g52 (rfl))))), hm.below⟩)
        ·
          refine ws g52 ?_
          refine ws g52 ?_
          refine ws g52 ?_
          refine ws g52 ?_
          refine ws g52 ?_
          refine wv (fun W hm => rv_pickF rfl g52 rfl) ?_
          refine wa ?_
          refine nt' ?_
          refine CM_ret ?_
          exact QM_ret1 rfl rfl (fun W hm => ⟨ret_b (show impl_equalCharge_m x0 x1 = false from by unfold impl_equalCharge_m; exact cond_t g46 (cond_t g48 (cond_t g50 (cond_f g52 (rfl))))), hm.below⟩)
      ·
        refine ws g50 ?_
        refine ws g50 ?_
        refine ws g50 ?_
        refine ws g50 ?_
        refine ws g50 ?_
        refine wv (fun W hm => rv_pickF rfl g50 rfl) ?_
        refine wm ?_
        refine WM_skip (Wd_some rfl rfl rfl rfl) rfl (by decide) ?_
        refine WM_skip (Wd_some rfl rfl rfl rfl) rfl (by decide) ?_
        refine WM_skip (Wd_some rfl rfl rfl rfl) rfl (by decide) ?_
        refine WM_skip (Wd_some rfl rfl rfl rfl) rfl (by decide) ?_
        refine WM_skip (Wd_some rfl rfl rfl rfl) rfl (by decide) ?_
        refine wv (fun W hm => rv_pickF rfl rfl rfl) ?_
        refine wa ?_
        refine nt' ?_
        refine CM_ret ?_
        exact QM_ret1 rfl rfl (fun W hm => ⟨ret_b (show impl_equalCharge_m x0 x1 = false from by unfold impl_equalCharge_m; exact cond_t g46 (cond_t g48 (cond_f g50 (rfl)))), hm.below⟩)
    · have g48 : (x0.Base == x1.Base) = false := beq_eq_false_iff_ne.2 h47
      refine ws g48 ?_
      refine ws g48 ?_
      refine ws g48 ?_
      refine ws g48 ?_
      refine ws g48 ?_
      refine wv (fun W hm => rv_pickF rfl g48 rfl) ?_
      refine wm ?_
      refine WM_skip (Wd_some rfl rfl rfl rfl) rfl (by decide) ?_
      refine WM_skip (Wd_some rfl rfl rfl rfl) rfl (by decide) ?_
      refine WM_skip (Wd_some rfl rfl rfl rfl) rfl (by decide) ?_
      refine WM_skip (Wd_some rfl rfl rfl rfl) rfl (by decide) ?_
      refine WM_skip (Wd_some rfl rfl rfl rfl) rfl (by decide) ?_
      refine wv (fun W hm => rv_pickF rfl rfl rfl) ?_
      refine wm ?_
      refine WM_skip (Wd_some rfl rfl rfl rfl) rfl (by decide) ?_
      refine WM_skip (Wd_some rfl rfl rfl rfl) rfl (by decide) ?_
      refine WM_skip (Wd_some rfl rfl rfl rfl) rfl (by decide) ?_
      refine WM_skip (Wd_some rfl rfl rfl rfl) rfl (by decide) ?_
      refine WM_skip (Wd_some rfl rfl rfl rfl) rfl (by decide) ?_
      refine wv (fun W hm => rv_pickF rfl rfl rfl) ?_
      refine wa ?_
      refine nt' ?_
      refine CM_ret ?_
      exact QM_ret1 rfl rfl (fun W hm => ⟨ret_b (show impl_equalCharge_m x0 x1 = false from by unfold impl_equalCharge_m; exact cond_t g46 (cond_f g48 (rfl))), hm.below⟩)
  · have g46 : (x0.Segment == x1.Segment) = false := beq_eq_false_iff_ne.2 h45
    refine ws g46 ?_
    refine ws g46 ?_
    refine ws g46 ?_
    refine ws g46 ?_
    refine ws g46 ?_
    refine wv (fun W hm => rv_pickF rfl g46 rfl) ?_
    refine wm ?_
    refine WM_skip (Wd_some rfl rfl rfl rfl) rfl (by decide) ?_
    refine WM_skip (Wd_some rfl rfl rfl rfl) rfl (by decide) ?_
    refine WM_skip (Wd_some rfl rfl rfl rfl) rfl (by decide) ?_
    refine WM_skip (Wd_some rfl rfl rfl rfl) rfl (by decide) ?_
    refine WM_skip (Wd_some rfl rfl rfl rfl) rfl (by decide) ?_
    refine wv (fun W hm => rv_pickF rfl rfl rfl) ?_
    refine wm ?_
    refine WM_skip (Wd_some rfl rfl rfl rfl) rfl (by decide) ?_
    refine WM_skip (Wd_some rfl rfl rfl rfl) rfl (by decide) ?_
    refine WM_skip (Wd_some rfl rfl rfl rfl) rfl (by decide) ?_
    refine WM_skip (Wd_some rfl rfl rfl rfl) rfl (by decide) ?_
    refine WM_skip (Wd_some rfl rfl rfl rfl) rfl (by decide) ?_
    refine wv (fun W hm => rv_pickF rfl rfl rfl) ?_
    refine wm ?_
    refine WM_skip (Wd_some rfl rfl rfl rfl) rfl (by decide) ?_
    refine WM_skip (Wd_some rfl rfl rfl rfl) rfl (by decide) ?_
    refine WM_skip (Wd_some rfl rfl rfl rfl) rfl (by decide) ?_
    refine WM_skip (Wd_some rfl rfl rfl rfl) rfl (by decide) ?_
    refine WM_skip (Wd_some rfl rfl rfl rfl) rfl (by decide) ?_
    refine wv (fun W hm => rv_pickF rfl rfl rfl) ?_
    refine wa ?_
    refine nt' ?_
    refine CM_ret ?_
    exact QM_ret1 rfl rfl (fun W hm => ⟨ret_b (show impl_equalCharge_m x0 x1 = false from by unfold impl_equalCharge_m; exact cond_f g46 (rfl)), hm.below⟩)

def impl_EqualEngines_b3 (x0 : DEngine) (x1 : DEngine) (k233 : Nat) : Bool ⊕ (Unit) :=
  cond (impl_equalCharge_m (gt x0.Ledger k233) (gt x1.Ledger k233)) (Sum.inr ()) (Sum.inl false)
def impl_EqualEngines_b2 (x0 : DEngine) (x1 : DEngine) (k163 : Nat) : Bool ⊕ (Unit) :=
  cond (impl_equalQuery_m ((gt x0.Done k163).Query) ((gt x1.Done k163).Query)) (cond (((gt x0.Done k163).Time) != ((gt x1.Done k163).Time)) (Sum.inl false) (cond (((gt x0.Done k163).Steps) != ((gt x1.Done k163).Steps)) (Sum.inl false) (cond (impl_EqualRows_m ((gt x0.Done k163).Rows) ((gt x1.Done k163).Rows)) (Sum.inr ()) (Sum.inl false)))) (Sum.inl false)
def impl_EqualEngines_b1 (x0 : DEngine) (x1 : DEngine) (k87 : Nat) : Bool ⊕ (Unit) :=
  cond (impl_equalActive_m (gt x0.Active k87) (gt x1.Active k87)) (Sum.inr ()) (Sum.inl false)
def impl_EqualEngines_m (x0 : DEngine) (x1 : DEngine) : Bool :=
  cond (impl_EqualStores_m x0.Store x1.Store) (cond (x0.Cursor != x1.Cursor) false (cond (impl_sameInts_m x0.Order x1.Order) (cond (x0.Steps != x1.Steps) false (cond (((x0.Active.length : Nat) : Int) != ((x1.Active.length : Nat) : Int)) false (cond (((x0.Done.length : Nat) : Int) != ((x1.Done.length : Nat) : Int)) false (cond (((x0.Ledger.length : Nat) : Int) != ((x1.Ledger.length : Nat) : Int)) false (Sum.elim id (fun (s : Unit) => Sum.elim id (fun (s : Unit) => Sum.elim id (fun (s : Unit) => true) (rng (R := Bool) (fun k (_ : Unit) => impl_EqualEngines_b3 x0 x1 k) (x0.Ledger.length - 0) 0 ())) (rng (R := Bool) (fun k (_ : Unit) => impl_EqualEngines_b2 x0 x1 k) (x0.Done.length - 0) 0 ())) (rng (R := Bool) (fun k (_ : Unit) => impl_EqualEngines_b1 x0 x1 k) (x0.Active.length - 0) 0 ())))))) false)) false
set_option maxRecDepth 100000 in
theorem cb48 : Cb Try.prog 48 := ⟨Try.f48, _, Try.func48, rfl, by decide⟩
set_option maxRecDepth 10000 in
set_option maxHeartbeats 4000000 in
theorem impl_EqualEngines_c (w : World) (z0 : List Value) (x0 : DEngine) (z1 : List Value) (x1 : DEngine) (r_0 : tyEngine.rd w w.heap.size z0 x0) (r_1 : tyEngine.rd w w.heap.size z1 x1) :
    Calls Try.prog 48 #[.agg z0.toArray, .agg z1.toArray] w fun e w' => e = .returned (.bool (impl_EqualEngines_m x0 x1)) ∧ Below w.heap.size w w' := by
  obtain ⟨v1, v3, v5, v7, v9, rfl, r2, r4, r6, r8, r10⟩ := tyEngine_rd r_0
  have r15 := r2
  obtain ⟨m11, A12, c13, rfl, q14⟩ := r2
  have r20 := r4
  obtain ⟨m16, A17, c18, rfl, q19⟩ := r4
  have r25 := r6
  obtain ⟨m21, A22, c23, rfl, q24⟩ := r6
  have r30 := r8
  obtain ⟨m26, A27, c28, rfl, q29⟩ := r8
  have r35 := r10
  obtain ⟨m31, A32, c33, rfl, q34⟩ := r10
  obtain ⟨v36, v38, v40, v42, v44, rfl, r37, r39, r41, r43, r45⟩ := tyEngine_rd r_1
  have r50 := r37
  obtain ⟨m46, A47, c48, rfl, q49⟩ := r37
  have r55 := r39
  obtain ⟨m51, A52, c53, rfl, q54⟩ := r39
  have r60 := r41
  obtain ⟨m56, A57, c58, rfl, q59⟩ := r41
  have r65 := r43
  obtain ⟨m61, A62, c63, rfl, q64⟩ := r43
  have r70 := r45
  obtain ⟨m66, A67, c68, rfl, q69⟩ := r45
  refine call_enterM (L := [(0, .agg #[.slice A12 x0.Store.Segments.length c13, .int .i64 x0.Store.Now, .int .i64 x0.Cursor, .slice A17 x0.Order.length c18, .slice A22 x0.Active.length c23, .slice A27 x0.Done.length c28, .slice A32 x0.Ledger.length c33, .int .i64 x0.Steps]), (1, .agg #[.slice A47 x1.Store.Segments.length c48, .int .i64 x1.Store.Now, .int .i64 x1.Cursor, .slice A52 x1.Order.length c53, .slice A57 x1.Active.length c58, .slice A62 x1.Done.length c63, .slice A67 x1.Ledger.length c68, .int .i64 x1.Steps])]) (N := 143) Try.func48 rfl rfl (Nat.le_of_ble_eq_true rfl) (argsL_cons rfl (argsL_cons rfl argsL_nil)) ?_
  refine sr ?_
  refine WM_box rfl (Wd_none rfl) (by decide) (fun p71 => ?_)
  refine WM_box rfl (Wd_none rfl) (by decide) (fun p72 => ?_)
  refine wa ?_
  refine nt' ?_
  refine CM_seq ?_
  refine sr ?_
  refine wv (fun W hm => rv_field Try.underlying77 rfl Try.type26 (by decide) rfl rfl) ?_
  refine wv (fun W hm => rv_loadN (cs := [.slice A12 x0.Store.Segments.length c13, .int .i64 x0.Store.Now]) Try.underlying26 Try.type26 rfl rfl (hm.boxPart (n := 1) rfl rfl)) ?_
  refine wv (fun W hm => rv_field Try.underlying77 rfl Try.type26 (by decide) rfl rfl) ?_
  refine wv (fun W hm => rv_loadN (cs := [.slice A47 x1.Store.Segments.length c48, .int .i64 x1.Store.Now]) Try.underlying26 Try.type26 rfl rfl (hm.boxPart (n := 0) rfl rfl)) ?_
  refine WM_callV (cl_fn cb120 rfl) (fun W hm => impl_EqualStores_c W _ x0.Store _ x1.Store (tyStore_mk (x := x0.Store) (hm.rdS0 r15)) (tyStore_mk (x := x1.Store) (hm.rdS0 r50))) (Wd_none rfl) (by decide) ?_
  refine wv (fun W hm => rv_not rfl) ?_
  refine wm ?_
  rcases Bool.eq_false_or_eq_true (impl_EqualStores_m x0.Store x1.Store) with g74 | g74
  ·
    refine wg (fun W hm => rv_field Try.underlying77 rfl Try.type3 (by decide) rfl rfl) (nt g74) ?_
    refine wg (fun W hm => rv_load Try.underlying3 rfl rfl (hm.boxCell (n := 1) (o := 2) rfl rfl)) (nt g74) ?_
    refine wg (fun W hm => rv_field Try.underlying77 rfl Try.type3 (by decide) rfl rfl) (nt g74) ?_
    refine wg (fun W hm => rv_load Try.underlying3 rfl rfl (hm.boxCell (n := 0) (o := 2) rfl rfl)) (nt g74) ?_
    refine wg (fun W hm => rv_neq rfl rfl) (nt g74) ?_
    refine wv (fun W hm => rv_pickF rfl (nt g74) rfl) ?_
    refine wm ?_
    by_cases h75 : x0.Cursor = x1.Cursor
    · have g76 : (x0.Cursor != x1.Cursor) = false := by rw [h75]; exact bne_self_eq_false _
      refine wg (fun W hm => rv_field Try.underlying77 rfl Try.type27 (by decide) rfl rfl) g76 ?_
      refine wg (fun W hm => rv_load Try.underlying27 rfl rfl (hm.boxCell (n := 1) (o := 3) rfl rfl)) g76 ?_
      refine wg (fun W hm => rv_field Try.underlying77 rfl Try.type27 (by decide) rfl rfl) g76 ?_
      refine wg (fun W hm => rv_load Try.underlying27 rfl rfl (hm.boxCell (n := 0) (o := 3) rfl rfl)) g76 ?_
      refine WM_callV (cl_fn cb121 rfl) (fun W hm => impl_sameInts_c W _ x0.Order _ x1.Order (hm.rdS0 r20) (hm.rdS0 r55)) (Wd_some rfl rfl rfl (bw g76 rfl)) (by decide) ?_
      refine wg (fun W hm => rv_not rfl) g76 ?_
      refine wv (fun W hm => rv_pickF rfl g76 rfl) ?_
      refine wm ?_
      rcases Bool.eq_false_or_eq_true (impl_sameInts_m x0.Order x1.Order) with g78 | g78
      ·
        refine wg (fun W hm => rv_field Try.underlying77 rfl Try.type3 (by decide) rfl rfl) (nt g78) ?_
        refine wg (fun W hm => rv_load Try.underlying3 rfl rfl (hm.boxCell (n := 1) (o := 7) rfl rfl)) (nt g78) ?_
        refine wg (fun W hm => rv_field Try.underlying77 rfl Try.type3 (by decide) rfl rfl) (nt g78) ?_
        refine wg (fun W hm => rv_load Try.underlying3 rfl rfl (hm.boxCell (n := 0) (o := 7) rfl rfl)) (nt g78) ?_
        refine wg (fun W hm => rv_neq rfl rfl) (nt g78) ?_
        refine wv (fun W hm => rv_pickF rfl (nt g78) rfl) ?_
        refine nt' ?_
        by_cases h79 : x0.Steps = x1.Steps
        · have g80 : (x0.Steps != x1.Steps) = false := by rw [h79]; exact bne_self_eq_false _
          refine CM_condF rfl g80 ?_
          refine CM_skip ?_
          refine QM_then ?_
          refine CM_seq ?_
          refine sr ?_
          refine wv (fun W hm => rv_field Try.underlying77 rfl Try.type73 (by decide) rfl rfl) ?_
          refine wv (fun W hm => rv_load Try.underlying73 rfl rfl (hm.boxCell (n := 1) (o := 4) rfl rfl)) ?_
          refine wv (fun W hm => rv_len Try.underlying73 rfl) ?_
          refine wv (fun W hm => rv_field Try.underlying77 rfl Try.type73 (by decide) rfl rfl) ?_
          refine wv (fun W hm => rv_load Try.underlying73 rfl rfl (hm.boxCell (n := 0) (o := 4) rfl rfl)) ?_
          refine wv (fun W hm => rv_len Try.underlying73 rfl) ?_
          refine wv (fun W hm => rv_neq rfl rfl) ?_
          refine wm ?_
          by_cases h81 : ((x0.Active.length : Nat) : Int) = ((x1.Active.length : Nat) : Int)
          · have g82 : (((x0.Active.length : Nat) : Int) != ((x1.Active.length : Nat) : Int)) = false := by rw [h81]; exact bne_self_eq_false _
            refine wg (fun W hm => rv_field Try.underlying77 rfl Try.type74 (by decide) rfl rfl) g82 ?_
            refine wg (fun W hm => rv_load Try.underlying74 rfl rfl (hm.boxCell (n := 1) (o := 5) rfl rfl)) g82 ?_
            refine wg (fun W hm => rv_len Try.underlying74 rfl) g82 ?_
            refine wg (fun W hm => rv_field Try.underlying77 rfl Try.type74 (by decide) rfl rfl) g82 ?_
            refine wg (fun W hm => rv_load Try.underlying74 rfl rfl (hm.boxCell (n := 0) (o := 5) rfl rfl)) g82 ?_
            refine wg (fun W hm => rv_len Try.underlying74 rfl) g82 ?_
            refine wg (fun W hm => rv_neq rfl rfl) g82 ?_
            refine wv (fun W hm => rv_pickF rfl g82 rfl) ?_
            refine wm ?_
            by_cases h83 : ((x0.Done.length : Nat) : Int) = ((x1.Done.length : Nat) : Int)
            · have g84 : (((x0.Done.length : Nat) : Int) != ((x1.Done.length : Nat) : Int)) = false := by rw [h83]; exact bne_self_eq_false _
              refine wg (fun W hm => rv_field Try.underlying77 rfl Try.type75 (by decide) rfl rfl) g84 ?_
              refine wg (fun W hm => rv_load Try.underlying75 rfl rfl (hm.boxCell (n := 1) (o := 6) rfl rfl)) g84 ?_
              refine wg (fun W hm => rv_len Try.underlying75 rfl) g84 ?_
              refine wg (fun W hm => rv_field Try.underlying77 rfl Try.type75 (by decide) rfl rfl) g84 ?_
              refine wg (fun W hm => rv_load Try.underlying75 rfl rfl (hm.boxCell (n := 0) (o := 6) rfl rfl)) g84 ?_
              refine wg (fun W hm => rv_len Try.underlying75 rfl) g84 ?_
              refine wg (fun W hm => rv_neq rfl rfl) g84 ?_
              refine wv (fun W hm => rv_pickF rfl g84 rfl) ?_
              refine nt' ?_
              by_cases h85 : ((x0.Ledger.length : Nat) : Int) = ((x1.Ledger.length : Nat) : Int)
              · have g86 : (((x0.Ledger.length : Nat) : Int) != ((x1.Ledger.length : Nat) : Int)) = false := by rw [h85]; exact bne_self_eq_false _
                refine CM_condF rfl g86 ?_
                refine CM_skip ?_
                refine QM_then ?_
                refine CM_seq ?_
                refine sr ?_
                refine wv (fun W hm => rv_field Try.underlying77 rfl Try.type73 (by decide) rfl rfl) ?_
                refine wv (fun W hm => rv_load Try.underlying73 rfl rfl (hm.boxCell (n := 1) (o := 4) rfl rfl)) ?_
                refine wv (fun W hm => rv_len Try.underlying73 rfl) ?_
                refine wm ?_
                refine nt' ?_
                refine CM_block ?_
                refine CM_loop (σ := Nat × (Unit) × (Unit)) (fun s => [(2, .pointer (some (⟨p71, 0, none⟩ : Addr))), (3, .pointer (some (⟨p72, 0, none⟩ : Addr))), (65, .int .i64 ((x0.Active.length : Nat) : Int)), (66, .int .i64 ((s.1 : Nat) : Int))]) (fun s => [iBox p72 77 [.slice A47 x1.Store.Segments.length c48, .int .i64 x1.Store.Now, .int .i64 x1.Cursor, .slice A52 x1.Order.length c53, .slice A57 x1.Active.length c58, .slice A62 x1.Done.length c63, .slice A67 x1.Ledger.length c68, .int .i64 x1.Steps], iBox p71 77 [.slice A12 x0.Store.Segments.length c13, .int .i64 x0.Store.Now, .int .i64 x0.Cursor, .slice A17 x0.Order.length c18, .slice A22 x0.Active.length c23, .slice A27 x0.Done.length c28, .slice A32 x0.Ledger.length c33, .int .i64 x0.Steps]]) (fun s => s.1 ≤ x0.Active.length ∧ rng (R := Bool) (fun k (_ : Unit) => impl_EqualEngines_b1 x0 x1 k) (x0.Active.length - s.1) s.1 s.2.1 = rng (R := Bool) (fun k (_ : Unit) => impl_EqualEngines_b1 x0 x1 k) (x0.Active.length - 0) 0 ()) (fun s => x0.Active.length - s.1) (0, (), ()) (subL_cons rfl (subL_cons rfl (subL_cons rfl (subL_cons rfl subL_nil)))) (fun W hm => hm) ⟨(by omega), rfl⟩ ?_
                rintro ⟨k87, ⟨⟩, ⟨⟩⟩ H90
                obtain ⟨hk88, hF89⟩ : k87 ≤ x0.Active.length ∧ rng (R := Bool) (fun k (_ : Unit) => impl_EqualEngines_b1 x0 x1 k) (x0.Active.length - k87) k87 () = rng (R := Bool) (fun k (_ : Unit) => impl_EqualEngines_b1 x0 x1 k) (x0.Active.length - 0) 0 () := H90
                show CM Try.prog 143 _ _ _ _ [(2, .pointer (some (⟨p71, 0, none⟩ : Addr))), (3, .pointer (some (⟨p72, 0, none⟩ : Addr))), (65, .int .i64 ((x0.Active.length : Nat) : Int)), (66, .int .i64 ((k87 : Nat) : Int))] [iBox p72 77 [.slice A47 x1.Store.Segments.length c48, .int .i64 x1.Store.Now, .int .i64 x1.Cursor, .slice A52 x1.Order.length c53, .slice A57 x1.Active.length c58, .slice A62 x1.Done.length c63, .slice A67 x1.Ledger.length c68, .int .i64 x1.Steps], iBox p71 77 [.slice A12 x0.Store.Segments.length c13, .int .i64 x0.Store.Now, .int .i64 x0.Cursor, .slice A17 x0.Order.length c18, .slice A22 x0.Active.length c23, .slice A27 x0.Done.length c28, .slice A32 x0.Ledger.length c33, .int .i64 x0.Steps]]
                refine sr ?_
                refine wv (fun W hm => rv_lss rfl rfl) ?_
                refine nt' ?_
                refine CM_seq ?_
                by_cases hl91 : k87 < x0.Active.length
                · have g92 : (decide (((k87 : Nat) : Int) < ((x0.Active.length : Nat) : Int))) = true := decide_eq_true (by omega)
                  refine CM_condT rfl g92 ?_
                  refine CM_skip ?_
                  refine QM_then ?_
                  refine CM_seq ?_
                  refine CM_block ?_
                  refine sr ?_
                  refine wm ?_
                  refine wa ?_
                  refine nt' ?_
                  refine CM_seq ?_
                  refine CM_regionD (by kernel_rfl) (by kernel_rfl) ?_
                  refine qv (fun W hm => rv_field Try.underlying77 rfl Try.type73 (by decide) rfl rfl) ?_
                  refine qv (fun W hm => rv_load Try.underlying73 rfl rfl (hm.boxCell (n := 1) (o := 4) rfl rfl)) ?_
                  refine qm ?_
                  obtain ⟨a93, rfl, hb94, he95⟩ := q24 (by omega)
                  refine qv (fun W hm => rv_index (sz := 10) (k := k87) Try.underlying73 Try.type127 rfl rfl rfl (by omega)) ?_
                  obtain ⟨_, e105, hc96⟩ := he95 k87 _ (gt_some (show k87 < x0.Active.length from by omega))
                  obtain ⟨v97, v99, v101, v103, rfl, r98, r100, r102, r104⟩ := tyActive_rd e105
                  have r110 := r98
                  obtain ⟨m106, A107, c108, rfl, q109⟩ := r98
                  have r115 := r100
                  obtain ⟨m111, A112, c113, rfl, q114⟩ := r100
                  have r120 := r102
                  obtain ⟨m116, A117, c118, rfl, q119⟩ := r102
                  have r125 := r104
                  obtain ⟨m121, A122, c123, rfl, q124⟩ := r104
                  refine qv (fun W hm => rv_loadN (cs := [.int .i64 ((gt x0.Active k87).Query.Id), .int .i64 ((gt x0.Active k87).Query.Tenant), .slice A107 ((gt x0.Active k87).Query.Conds).length c108, .slice A112 ((gt x0.Active k87).Query.Out).length c113, .int .i64 ((gt x0.Active k87).Time), .slice A117 ((gt x0.Active k87).Todo).length c118, .int .i64 ((gt x0.Active k87).Age), .int .i64 ((gt x0.Active k87).Sent), .int .i64 ((gt x0.Active k87).Cap), .slice A122 ((gt x0.Active k87).Rows).length c123]) Try.underlying127 Try.type127 rfl rfl (hm.elCells (show (a93.add (k87 * 10)).block < w.heap.size from by rw [add_block]; exact hb94.1) hc96)) ?_
                  refine qv (fun W hm => rv_field Try.underlying77 rfl Try.type73 (by decide) rfl rfl) ?_
                  refine qv (fun W hm => rv_load Try.underlying73 rfl rfl (hm.boxCell (n := 0) (o := 4) rfl rfl)) ?_
                  refine qm ?_
                  obtain ⟨a126, rfl, hb127, he128⟩ := q59 (by omega)
                  refine qv (fun W hm => rv_index (sz := 10) (k := k87) Try.underlying73 Try.type127 rfl rfl rfl (by omega)) ?_
                  obtain ⟨_, e138, hc129⟩ := he128 k87 _ (gt_some (show k87 < x1.Active.length from by omega))
                  obtain ⟨v130, v132, v134, v136, rfl, r131, r133, r135, r137⟩ := tyActive_rd e138
                  have r143 := r131
                  obtain ⟨m139, A140, c141, rfl, q142⟩ := r131
                  have r148 := r133
                  obtain ⟨m144, A145, c146, rfl, q147⟩ := r133
                  have r153 := r135
                  obtain ⟨m149, A150, c151, rfl, q152⟩ := r135
                  have r158 := r137
                  obtain ⟨m154, A155, c156, rfl, q157⟩ := r137
                  refine qv (fun W hm => rv_loadN (cs := [.int .i64 ((gt x1.Active k87).Query.Id), .int .i64 ((gt x1.Active k87).Query.Tenant), .slice A140 ((gt x1.Active k87).Query.Conds).length c141, .slice A145 ((gt x1.Active k87).Query.Out).length c146, .int .i64 ((gt x1.Active k87).Time), .slice A150 ((gt x1.Active k87).Todo).length c151, .int .i64 ((gt x1.Active k87).Age), .int .i64 ((gt x1.Active k87).Sent), .int .i64 ((gt x1.Active k87).Cap), .slice A155 ((gt x1.Active k87).Rows).length c156]) Try.underlying127 Try.type127 rfl rfl (hm.elCells (show (a126.add (k87 * 10)).block < w.heap.size from by rw [add_block]; exact hb127.1) hc129)) ?_
                  refine QR_callV (cl_fn cb122 rfl) (fun W hm => impl_equalActive_c W _ (gt x0.Active k87) _ (gt x1.Active k87) (tyActive_mk (x := (gt x0.Active k87)) (hm.rdS0 r110) (hm.rdS0 r115) (hm.rdS0 r120) (hm.rdS0 r125)) (tyActive_mk (x := (gt x1.Active k87)) (hm.rdS0 r143) (hm.rdS0 r148) (hm.rdS0 r153) (hm.rdS0 r158))) (Wd_none rfl) (by decide) ?_
                  refine qv (fun W hm => rv_not rfl) ?_
                  refine nq' ?_
                  rcases Bool.eq_false_or_eq_true (impl_equalActive_m (gt x0.Active k87) (gt x1.Active k87)) with g160 | g160
                  ·
                    refine CM_condF rfl (nt g160) ?_
                    refine CM_skip ?_
                    refine QM_block_normal ?_
                    refine QM_then ?_
                    refine CM_region ?_
                    refine wv (fun W hm => rv_addN (p := k87) (q := 1) rfl rfl (by omega)) ?_
                    refine wm ?_
                    refine WM_nil ?_
                    have hn161 := rng_next (R := Bool) (body := (fun k (_ : Unit) => impl_EqualEngines_b1 x0 x1 k)) (k := k87) (s := ()) (s' := ()) (show k87 < x0.Active.length from by omega) (show impl_EqualEngines_b1 x0 x1 k87 = Sum.inr () from by unfold impl_EqualEngines_b1; exact cond_t g160 (rfl)) hF89
                    exact QM_round (k87 + 1, (), ()) (subL_cons rfl (subL_cons rfl (subL_cons rfl (subL_cons rfl subL_nil)))) (fun W hm => hm) ⟨(by omega), hn161⟩ (show x0.Active.length - (k87 + 1) < x0.Active.length - k87 from by omega)
                  ·
                    refine CM_condT rfl (nf g160) ?_
                    refine sr ?_
                    refine wa ?_
                    refine nt' ?_
                    refine CM_ret ?_
                    refine QM_block_ret ?_
                    refine QM_then_ret ?_
                    refine QM_then_ret ?_
                    refine QM_block_ret ?_
                    refine QM_then_ret ?_
                    exact QM_ret1 rfl rfl (fun W hm => ⟨ret_b (show impl_EqualEngines_m x0 x1 = false from by unfold impl_EqualEngines_m; exact cond_t g74 (cond_f g76 (cond_t g78 (cond_f g80 (cond_f g82 (cond_f g84 (cond_f g86 (fin_inl (rng_ret (body := (fun k (_ : Unit) => impl_EqualEngines_b1 x0 x1 k)) (k := k87) (s := ()) (show k87 < x0.Active.length from by omega) (show impl_EqualEngines_b1 x0 x1 k87 = Sum.inl false from by unfold impl_EqualEngines_b1; exact cond_f g160 (rfl)) hF89) rfl)))))))), hm.below⟩)
                · have g92 : (decide (((k87 : Nat) : Int) < ((x0.Active.length : Nat) : Int))) = false := decide_eq_false (by omega)
                  refine CM_condF rfl g92 ?_
                  refine CM_exit ?_
                  refine QM_then_exit ?_
                  refine QM_then_exit ?_
                  have hE162 : rng (R := Bool) (fun k (_ : Unit) => impl_EqualEngines_b1 x0 x1 k) (x0.Active.length - 0) 0 () = Sum.inr () := rng_end hl91 hF89
                  refine QM_block_hit ?_
                  refine QM_then ?_
                  refine CM_seq ?_
                  refine sr ?_
                  refine wv (fun W hm => rv_field Try.underlying77 rfl Try.type74 (by decide) rfl rfl) ?_
                  refine wv (fun W hm => rv_load Try.underlying74 rfl rfl (hm.boxCell (n := 1) (o := 5) rfl rfl)) ?_
                  refine wv (fun W hm => rv_len Try.underlying74 rfl) ?_
                  refine wm ?_
                  refine nt' ?_
                  refine CM_block ?_
                  refine CM_loop (σ := Nat × (Unit) × (Unit)) (fun s => [(2, .pointer (some (⟨p71, 0, none⟩ : Addr))), (3, .pointer (some (⟨p72, 0, none⟩ : Addr))), (83, .slice A27 x0.Done.length c28), (84, .int .i64 ((x0.Done.length : Nat) : Int)), (85, .int .i64 ((s.1 : Nat) : Int))]) (fun s => [iBox p72 77 [.slice A47 x1.Store.Segments.length c48, .int .i64 x1.Store.Now, .int .i64 x1.Cursor, .slice A52 x1.Order.length c53, .slice A57 x1.Active.length c58, .slice A62 x1.Done.length c63, .slice A67 x1.Ledger.length c68, .int .i64 x1.Steps], iBox p71 77 [.slice A12 x0.Store.Segments.length c13, .int .i64 x0.Store.Now, .int .i64 x0.Cursor, .slice A17 x0.Order.length c18, .slice A22 x0.Active.length c23, .slice A27 x0.Done.length c28, .slice A32 x0.Ledger.length c33, .int .i64 x0.Steps]]) (fun s => s.1 ≤ x0.Done.length ∧ rng (R := Bool) (fun k (_ : Unit) => impl_EqualEngines_b2 x0 x1 k) (x0.Done.length - s.1) s.1 s.2.1 = rng (R := Bool) (fun k (_ : Unit) => impl_EqualEngines_b2 x0 x1 k) (x0.Done.length - 0) 0 ()) (fun s => x0.Done.length - s.1) (0, (), ()) (subL_cons rfl (subL_cons rfl (subL_cons rfl (subL_cons rfl (subL_cons rfl subL_nil))))) (fun W hm => hm) ⟨(by omega), rfl⟩ ?_
                  rintro ⟨k163, ⟨⟩, ⟨⟩⟩ H166
                  obtain ⟨hk164, hF165⟩ : k163 ≤ x0.Done.length ∧ rng (R := Bool) (fun k (_ : Unit) => impl_EqualEngines_b2 x0 x1 k) (x0.Done.length - k163) k163 () = rng (R := Bool) (fun k (_ : Unit) => impl_EqualEngines_b2 x0 x1 k) (x0.Done.length - 0) 0 () := H166
                  show CM Try.prog 143 _ _ _ _ [(2, .pointer (some (⟨p71, 0, none⟩ : Addr))), (3, .pointer (some (⟨p72, 0, none⟩ : Addr))), (83, .slice A27 x0.Done.length c28), (84, .int .i64 ((x0.Done.length : Nat) : Int)), (85, .int .i64 ((k163 : Nat) : Int))] [iBox p72 77 [.slice A47 x1.Store.Segments.length c48, .int .i64 x1.Store.Now, .int .i64 x1.Cursor, .slice A52 x1.Order.length c53, .slice A57 x1.Active.length c58, .slice A62 x1.Done.length c63, .slice A67 x1.Ledger.length c68, .int .i64 x1.Steps], iBox p71 77 [.slice A12 x0.Store.Segments.length c13, .int .i64 x0.Store.Now, .int .i64 x0.Cursor, .slice A17 x0.Order.length c18, .slice A22 x0.Active.length c23, .slice A27 x0.Done.length c28, .slice A32 x0.Ledger.length c33, .int .i64 x0.Steps]]
                  refine sr ?_
                  refine wv (fun W hm => rv_lss rfl rfl) ?_
                  refine nt' ?_
                  refine CM_seq ?_
                  by_cases hl167 : k163 < x0.Done.length
                  · have g168 : (decide (((k163 : Nat) : Int) < ((x0.Done.length : Nat) : Int))) = true := decide_eq_true (by omega)
                    refine CM_condT rfl g168 ?_
                    refine CM_skip ?_
                    refine QM_then ?_
                    refine CM_seq ?_
                    refine CM_block ?_
                    refine sr ?_
                    refine wm ?_
                    obtain ⟨a169, rfl, hb170, he171⟩ := q29 (by omega)
                    refine wv (fun W hm => rv_index (sz := 7) (k := k163) Try.underlying74 Try.type136 rfl rfl rfl (by omega)) ?_
                    obtain ⟨_, e179, hc172⟩ := he171 k163 _ (gt_some (show k163 < x0.Done.length from by omega))
                    obtain ⟨v173, v175, v177, rfl, r174, r176, r178⟩ := tyFinished_rd e179
                    have r184 := r174
                    obtain ⟨m180, A181, c182, rfl, q183⟩ := r174
                    have r189 := r176
                    obtain ⟨m185, A186, c187, rfl, q188⟩ := r176
                    have r194 := r178
                    obtain ⟨m190, A191, c192, rfl, q193⟩ := r178
                    refine wv (fun W hm => rv_loadN (cs := [.int .i64 ((gt x0.Done k163).Query.Id), .int .i64 ((gt x0.Done k163).Query.Tenant), .slice A181 ((gt x0.Done k163).Query.Conds).length c182, .slice A186 ((gt x0.Done k163).Query.Out).length c187, .int .i64 ((gt x0.Done k163).Time), .int .i64 ((gt x0.Done k163).Steps), .slice A191 ((gt x0.Done k163).Rows).length c192]) Try.underlying136 Try.type136 rfl rfl (hm.elCells (show (a169.add (k163 * 7)).block < w.heap.size from by rw [add_block]; exact hb170.1) hc172)) ?_
                    refine WM_alloc Try.type136 rfl (Wd_none rfl) (by decide) (fun p195 => ?_)
                    refine wa ?_
                    refine WM_storeBox (p := p195) (o := 0) (cs := [.int .i64 0, .int .i64 0, .slice none 0 0, .slice none 0 0, .int .i64 0, .int .i64 0, .slice none 0 0]) (cs' := [.int .i64 ((gt x0.Done k163).Query.Id), .int .i64 ((gt x0.Done k163).Query.Tenant), .slice A181 ((gt x0.Done k163).Query.Conds).length c182, .slice A186 ((gt x0.Done k163).Query.Out).length c187, .int .i64 ((gt x0.Done k163).Time), .int .i64 ((gt x0.Done k163).Steps), .slice A191 ((gt x0.Done k163).Rows).length c192]) (js := [iBox p72 77 [.slice A47 x1.Store.Segments.length c48, .int .i64 x1.Store.Now, .int .i64 x1.Cursor, .slice A52 x1.Order.length c53, .slice A57 x1.Active.length c58, .slice A62 x1.Done.length c63, .slice A67 x1.Ledger.length c68, .int .i64 x1.Steps], iBox p71 77 [.slice A12 x0.Store.Segments.length c13, .int .i64 x0.Store.Now, .int .i64 x0.Cursor, .slice A17 x0.Order.length c18, .slice A22 x0.Active.length c23, .slice (some a169) x0.Done.length c28, .slice A32 x0.Ledger.length c33, .int .i64 x0.Steps]]) (fun W hm => hm) Try.type136 rfl (Nat.le_of_ble_eq_true rfl) rfl rfl rfl rfl (Wd_none rfl) ?_
                    refine nt' ?_
                    refine sr ?_
                    refine wv (fun W hm => rv_field Try.underlying77 rfl Try.type74 (by decide) rfl rfl) ?_
                    refine wv (fun W hm => rv_load Try.underlying74 rfl rfl (hm.boxCell (n := 1) (o := 5) rfl rfl)) ?_
                    refine wm ?_
                    obtain ⟨a196, rfl, hb197, he198⟩ := q64 (by omega)
                    refine wv (fun W hm => rv_index (sz := 7) (k := k163) Try.underlying74 Try.type136 rfl rfl rfl (by omega)) ?_
                    obtain ⟨_, e206, hc199⟩ := he198 k163 _ (gt_some (show k163 < x1.Done.length from by omega))
                    obtain ⟨v200, v202, v204, rfl, r201, r203, r205⟩ := tyFinished_rd e206
                    have r211 := r201
                    obtain ⟨m207, A208, c209, rfl, q210⟩ := r201
                    have r216 := r203
                    obtain ⟨m212, A213, c214, rfl, q215⟩ := r203
                    have r221 := r205
                    obtain ⟨m217, A218, c219, rfl, q220⟩ := r205
                    refine wv (fun W hm => rv_loadN (cs := [.int .i64 ((gt x1.Done k163).Query.Id), .int .i64 ((gt x1.Done k163).Query.Tenant), .slice A208 ((gt x1.Done k163).Query.Conds).length c209, .slice A213 ((gt x1.Done k163).Query.Out).length c214, .int .i64 ((gt x1.Done k163).Time), .int .i64 ((gt x1.Done k163).Steps), .slice A218 ((gt x1.Done k163).Rows).length c219]) Try.underlying136 Try.type136 rfl rfl (hm.elCells (show (a196.add (k163 * 7)).block < w.heap.size from by rw [add_block]; exact hb197.1) hc199)) ?_
                    refine WM_alloc Try.type136 rfl (Wd_none rfl) (by decide) (fun p222 => ?_)
                    refine WM_storeBox (p := p222) (o := 0) (cs := [.int .i64 0, .int .i64 0, .slice none 0 0, .slice none 0 0, .int .i64 0, .int .i64 0, .slice none 0 0]) (cs' := [.int .i64 ((gt x1.Done k163).Query.Id), .int .i64 ((gt x1.Done k163).Query.Tenant), .slice A208 ((gt x1.Done k163).Query.Conds).length c209, .slice A213 ((gt x1.Done k163).Query.Out).length c214, .int .i64 ((gt x1.Done k163).Time), .int .i64 ((gt x1.Done k163).Steps), .slice A218 ((gt x1.Done k163).Rows).length c219]) (js := [iBox p195 136 [.int .i64 ((gt x0.Done k163).Query.Id), .int .i64 ((gt x0.Done k163).Query.Tenant), .slice A181 ((gt x0.Done k163).Query.Conds).length c182, .slice A186 ((gt x0.Done k163).Query.Out).length c187, .int .i64 ((gt x0.Done k163).Time), .int .i64 ((gt x0.Done k163).Steps), .slice A191 ((gt x0.Done k163).Rows).length c192], iBox p72 77 [.slice A47 x1.Store.Segments.length c48, .int .i64 x1.Store.Now, .int .i64 x1.Cursor, .slice A52 x1.Order.length c53, .slice A57 x1.Active.length c58, .slice (some a196) x1.Done.length c63, .slice A67 x1.Ledger.length c68, .int .i64 x1.Steps], iBox p71 77 [.slice A12 x0.Store.Segments.length c13, .int .i64 x0.Store.Now, .int .i64 x0.Cursor, .slice A17 x0.Order.length c18, .slice A22 x0.Active.length c23, .slice (some a169) x0.Done.length c28, .slice A32 x0.Ledger.length c33, .int .i64 x0.Steps]]) (fun W hm => hm) Try.type136 rfl (Nat.le_of_ble_eq_true rfl) rfl rfl rfl rfl (Wd_none rfl) ?_
                    refine nt' ?_
                    refine sr ?_
                    refine wv (fun W hm => rv_field Try.underlying136 rfl Try.type125 (by decide) rfl rfl) ?_
                    refine wv (fun W hm => rv_loadN (cs := [.int .i64 ((gt x0.Done k163).Query.Id), .int .i64 ((gt x0.Done k163).Query.Tenant), .slice A181 ((gt x0.Done k163).Query.Conds).length c182, .slice A186 ((gt x0.Done k163).Query.Out).length c187]) Try.underlying125 Try.type125 rfl rfl (hm.boxPart (n := 1) rfl rfl)) ?_
                    refine wv (fun W hm => rv_field Try.underlying136 rfl Try.type125 (by decide) rfl rfl) ?_
                    refine wv (fun W hm => rv_loadN (cs := [.int .i64 ((gt x1.Done k163).Query.Id), .int .i64 ((gt x1.Done k163).Query.Tenant), .slice A208 ((gt x1.Done k163).Query.Conds).length c209, .slice A213 ((gt x1.Done k163).Query.Out).length c214]) Try.underlying125 Try.type125 rfl rfl (hm.boxPart (n := 0) rfl rfl)) ?_
                    refine WM_callV (cl_fn cb123 rfl) (fun W hm => impl_equalQuery_c W _ ((gt x0.Done k163).Query) _ ((gt x1.Done k163).Query) (tyQuery_mk (x := ((gt x0.Done k163).Query)) (hm.rdS0 r184) (hm.rdS0 r189)) (tyQuery_mk (x := ((gt x1.Done k163).Query)) (hm.rdS0 r211) (hm.rdS0 r216))) (Wd_none rfl) (by decide) ?_
                    refine wv (fun W hm => rv_not rfl) ?_
                    refine wm ?_
                    rcases Bool.eq_false_or_eq_true (impl_equalQuery_m ((gt x0.Done k163).Query) ((gt x1.Done k163).Query)) with g224 | g224
                    ·
                      refine wg (fun W hm => rv_field Try.underlying136 rfl Try.type3 (by decide) rfl rfl) (nt g224) ?_
                      refine wg (fun W hm => rv_load Try.underlying3 rfl rfl (hm.boxCell (n := 1) (o := 4) rfl rfl)) (nt g224) ?_
                      refine wg (fun W hm => rv_field Try.underlying136 rfl Try.type3 (by decide) rfl rfl) (nt g224) ?_
                      refine wg (fun W hm => rv_load Try.underlying3 rfl rfl (hm.boxCell (n := 0) (o := 4) rfl rfl)) (nt g224) ?_
                      refine wg (fun W hm => rv_neq rfl rfl) (nt g224) ?_
                      refine wv (fun W hm => rv_pickF rfl (nt g224) rfl) ?_
                      refine wm ?_
                      by_cases h225 : ((gt x0.Done k163).Time) = ((gt x1.Done k163).Time)
                      · have g226 : (((gt x0.Done k163).Time) != ((gt x1.Done k163).Time)) = false := by rw [h225]; exact bne_self_eq_false _
                        refine wg (fun W hm => rv_field Try.underlying136 rfl Try.type3 (by decide) rfl rfl) g226 ?_
                        refine wg (fun W hm => rv_load Try.underlying3 rfl rfl (hm.boxCell (n := 1) (o := 5) rfl rfl)) g226 ?_
                        refine wg (fun W hm => rv_field Try.underlying136 rfl Try.type3 (by decide) rfl rfl) g226 ?_
                        refine wg (fun W hm => rv_load Try.underlying3 rfl rfl (hm.boxCell (n := 0) (o := 5) rfl rfl)) g226 ?_
                        refine wg (fun W hm => rv_neq rfl rfl) g226 ?_
                        refine wv (fun W hm => rv_pickF rfl g226 rfl) ?_
                        refine wm ?_
                        by_cases h227 : ((gt x0.Done k163).Steps) = ((gt x1.Done k163).Steps)
                        · have g228 : (((gt x0.Done k163).Steps) != ((gt x1.Done k163).Steps)) = false := by rw [h227]; exact bne_self_eq_false _
                          refine wg (fun W hm => rv_field Try.underlying136 rfl Try.type39 (by decide) rfl rfl) g228 ?_
                          refine wg (fun W hm => rv_load Try.underlying39 rfl rfl (hm.boxCell (n := 1) (o := 6) rfl rfl)) g228 ?_
                          refine wg (fun W hm => rv_field Try.underlying136 rfl Try.type39 (by decide) rfl rfl) g228 ?_
                          refine wg (fun W hm => rv_load Try.underlying39 rfl rfl (hm.boxCell (n := 0) (o := 6) rfl rfl)) g228 ?_
                          refine WM_callV (cl_fn cb124 rfl) (fun W hm => impl_EqualRows_c W _ ((gt x0.Done k163).Rows) _ ((gt x1.Done k163).Rows) (hm.rdS0 r194) (hm.rdS0 r221)) (Wd_some rfl rfl rfl (bw g228 rfl)) (by decide) ?_
                          refine wg (fun W hm => rv_not rfl) g228 ?_
                          refine wv (fun W hm => rv_pickF rfl g228 rfl) ?_
                          refine nt' ?_
                          rcases Bool.eq_false_or_eq_true (impl_EqualRows_m ((gt x0.Done k163).Rows) ((gt x1.Done k163).Rows)) with g230 | g230
                          ·
                            refine CM_condF rfl (nt g230) ?_
                            refine CM_skip ?_
                            refine QM_block_normal ?_
                            refine QM_then ?_
                            refine CM_region ?_
                            refine wv (fun W hm => rv_addN (p := k163) (q := 1) rfl rfl (by omega)) ?_
                            refine wm ?_
                            refine WM_nil ?_
                            have hn231 := rng_next (R := Bool) (body := (fun k (_ : Unit) => impl_EqualEngines_b2 x0 x1 k)) (k := k163) (s := ()) (s' := ()) (show k163 < x0.Done.length from by omega) (show impl_EqualEngines_b2 x0 x1 k163 = Sum.inr () from by unfold impl_EqualEngines_b2; exact cond_t g224 (cond_f g226 (cond_f g228 (cond_t g230 (rfl))))) hF165
                            exact QM_round (k163 + 1, (), ()) (subL_cons rfl (subL_cons rfl (subL_cons rfl (subL_cons rfl (subL_cons rfl subL_nil))))) (fun W hm => (hm.pick [2, 3] (by decide))) ⟨(by omega), hn231⟩ (show x0.Done.length - (k163 + 1) < x0.Done.length - k163 from by omega)
                          ·
                            refine CM_condT rfl (nf g230) ?_
                            refine sr ?_
                            refine wa ?_
                            refine nt' ?_
                            refine CM_ret ?_
                            refine QM_block_ret ?_
                            refine QM_then_ret ?_
                            refine QM_then_ret ?_
                            refine QM_block_ret ?_
                            refine QM_then_ret ?_
                            exact QM_ret1 rfl rfl (fun W hm => ⟨ret_b (show impl_EqualEngines_m x0 x1 = false from by unfold impl_EqualEngines_m; exact cond_t g74 (cond_f g76 (cond_t g78 (cond_f g80 (cond_f g82 (cond_f g84 (cond_f g86 (fin_inr hE162 (fin_inl (rng_ret (body := (fun k (_ : Unit) => impl_EqualEngines_b2 x0 x1 k)) (k := k163) (s := ()) (show k163 < x0.Done.length from by omega) (show impl_EqualEngines_b2 x0 x1 k163 = Sum.inl false from by unfold impl_EqualEngines_b2; exact cond_t g224 (cond_f g226 (cond_f g228 (cond_f g230 (rfl))))) hF165) rfl))))))))), hm.below⟩)
                        · have g228 : (((gt x0.Done k163).Steps) != ((gt x1.Done k163).Steps)) = true := bne_iff_ne.2 h227
                          refine ws g228 ?_
                          refine ws g228 ?_
                          refine ws g228 ?_
                          refine ws g228 ?_
                          refine ws g228 ?_
                          refine ws g228 ?_
                          refine wv (fun W hm => rv_pickT rfl g228 rfl) ?_
                          refine nt' ?_
                          refine CM_condT rfl rfl ?_
                          refine sr ?_
                          refine wa ?_
                          refine nt' ?_
                          refine CM_ret ?_
                          refine QM_block_ret ?_
                          refine QM_then_ret ?_
                          refine QM_then_ret ?_
                          refine QM_block_ret ?_
                          refine QM_then_ret ?_
                          exact QM_ret1 rfl rfl (fun W hm => ⟨ret_b (show impl_EqualEngines_m x0 x1 = false from by unfold impl_EqualEngines_m; exact cond_t g74 (cond_f g76 (cond_t g78 (cond_f g80 (cond_f g82 (cond_f g84 (cond_f g86 (fin_inr hE162 (fin_inl (rng_ret (body := (fun k (_ : Unit) => impl_EqualEngines_b2 x0 x1 k)) (k := k163) (s := ()) (show k163 < x0.Done.length from by omega) (show impl_EqualEngines_b2 x0 x1 k163 = Sum.inl false from by unfold impl_EqualEngines_b2; exact cond_t g224 (cond_f g226 (cond_t g228 (rfl)))) hF165) rfl))))))))), hm.below⟩)
                      · have g226 : (((gt x0.Done k163).Time) != ((gt x1.Done k163).Time)) = true := bne_iff_ne.2 h225
                        refine ws g226 ?_
                        refine ws g226 ?_
                        refine ws g226 ?_
                        refine ws g226 ?_
                        refine ws g226 ?_
                        refine wv (fun W hm => rv_pickT rfl g226 rfl) ?_
                        refine wm ?_
                        refine WM_skip (Wd_some rfl rfl rfl rfl) rfl (by decide) ?_
                        refine WM_skip (Wd_some rfl rfl rfl rfl) rfl (by decide) ?_
                        refine WM_skip (Wd_some rfl rfl rfl rfl) rfl (by decide) ?_
                        refine WM_skip (Wd_some rfl rfl rfl rfl) rfl (by decide) ?_
                        refine WM_skip (Wd_some rfl rfl rfl rfl) rfl (by decide) ?_
                        refine WM_skip (Wd_some rfl rfl rfl rfl) rfl (by decide) ?_
                        refine wv (fun W hm => rv_pickT rfl rfl rfl) ?_
                        refine nt' ?_
                        refine CM_condT rfl rfl ?_
                        refine sr ?_
                        refine wa ?_
                        refine nt' ?_
                        refine CM_ret ?_
                        refine QM_block_ret ?_
                        refine QM_then_ret ?_
                        refine QM_then_ret ?_
                        refine QM_block_ret ?_
                        refine QM_then_ret ?_
                        exact QM_ret1 rfl rfl (fun W hm => ⟨ret_b (show impl_EqualEngines_m x0 x1 = false from by unfold impl_EqualEngines_m; exact cond_t g74 (cond_f g76 (cond_t g78 (cond_f g80 (cond_f g82 (cond_f g84 (cond_f g86 (fin_inr hE162 (fin_inl (rng_ret (body := (fun k (_ : Unit) => impl_EqualEngines_b2 x0 x1 k)) (k := k163) (s := ()) (show k163 < x0.Done.length from by omega) (show impl_EqualEngines_b2 x0 x1 k163 = Sum.inl false from by unfold impl_EqualEngines_b2; exact cond_t g224 (cond_t g226 (rfl))) hF165) rfl))))))))), hm.below⟩)
                    ·
                      refine ws (nf g224) ?_
                      refine ws (nf g224) ?_
                      refine ws (nf g224) ?_
                      refine ws (nf g224) ?_
                      refine ws (nf g224) ?_
                      refine wv (fun W hm => rv_pickT rfl (nf g224) rfl) ?_
                      refine wm ?_
                      refine WM_skip (Wd_some rfl rfl rfl rfl) rfl (by decide) ?_
                      refine WM_skip (Wd_some rfl rfl rfl rfl) rfl (by decide) ?_
                      refine WM_skip (Wd_some rfl rfl rfl rfl) rfl (by decide) ?_
                      refine WM_skip (Wd_some rfl rfl rfl rfl) rfl (by decide) ?_
                      refine WM_skip (Wd_some rfl rfl rfl rfl) rfl (by decide) ?_
                      refine wv (fun W hm => rv_pickT rfl rfl rfl) ?_
                      refine wm ?_
                      refine WM_skip (Wd_some rfl rfl rfl rfl) rfl (by decide) ?_
                      refine WM_skip (Wd_some rfl rfl rfl rfl) rfl (by decide) ?_
                      refine WM_skip (Wd_some rfl rfl rfl rfl) rfl (by decide) ?_
                      refine WM_skip (Wd_some rfl rfl rfl rfl) rfl (by decide) ?_
                      refine WM_skip (Wd_some rfl rfl rfl rfl) rfl (by decide) ?_
                      refine WM_skip (Wd_some rfl rfl rfl rfl) rfl (by decide) ?_
                      refine wv (fun W hm => rv_pickT rfl rfl rfl) ?_
                      refine nt' ?_
                      refine CM_condT rfl rfl ?_
                      refine sr ?_
                      refine wa ?_
                      refine nt' ?_
                      refine CM_ret ?_
                      refine QM_block_ret ?_
                      refine QM_then_ret ?_
                      refine QM_then_ret ?_
                      refine QM_block_ret ?_
                      refine QM_then_ret ?_
                      exact QM_ret1 rfl rfl (fun W hm => ⟨ret_b (show impl_EqualEngines_m x0 x1 = false from by unfold impl_EqualEngines_m; exact cond_t g74 (cond_f g76 (cond_t g78 (cond_f g80 (cond_f g82 (cond_f g84 (cond_f g86 (fin_inr hE162 (fin_inl (rng_ret (body := (fun k (_ : Unit) => impl_EqualEngines_b2 x0 x1 k)) (k := k163) (s := ()) (show k163 < x0.Done.length from by omega) (show impl_EqualEngines_b2 x0 x1 k163 = Sum.inl false from by unfold impl_EqualEngines_b2; exact cond_f g224 (rfl)) hF165) rfl))))))))), hm.below⟩)
                  · have g168 : (decide (((k163 : Nat) : Int) < ((x0.Done.length : Nat) : Int))) = false := decide_eq_false (by omega)
                    refine CM_condF rfl g168 ?_
                    refine CM_exit ?_
                    refine QM_then_exit ?_
                    refine QM_then_exit ?_
                    have hE232 : rng (R := Bool) (fun k (_ : Unit) => impl_EqualEngines_b2 x0 x1 k) (x0.Done.length - 0) 0 () = Sum.inr () := rng_end hl167 hF165
                    refine QM_block_hit ?_
                    refine QM_then ?_
                    refine CM_seq ?_
                    refine sr ?_
                    refine wv (fun W hm => rv_field Try.underlying77 rfl Try.type75 (by decide) rfl rfl) ?_
                    refine wv (fun W hm => rv_load Try.underlying75 rfl rfl (hm.boxCell (n := 1) (o := 6) rfl rfl)) ?_
                    refine wv (fun W hm => rv_len Try.underlying75 rfl) ?_
                    refine wm ?_
                    refine nt' ?_
                    refine CM_block ?_
                    refine CM_loop (σ := Nat × (Unit) × (Unit)) (fun s => [(2, .pointer (some (⟨p71, 0, none⟩ : Addr))), (3, .pointer (some (⟨p72, 0, none⟩ : Addr))), (126, .int .i64 ((x0.Ledger.length : Nat) : Int)), (127, .int .i64 ((s.1 : Nat) : Int))]) (fun s => [iBox p72 77 [.slice A47 x1.Store.Segments.length c48, .int .i64 x1.Store.Now, .int .i64 x1.Cursor, .slice A52 x1.Order.length c53, .slice A57 x1.Active.length c58, .slice A62 x1.Done.length c63, .slice A67 x1.Ledger.length c68, .int .i64 x1.Steps], iBox p71 77 [.slice A12 x0.Store.Segments.length c13, .int .i64 x0.Store.Now, .int .i64 x0.Cursor, .slice A17 x0.Order.length c18, .slice A22 x0.Active.length c23, .slice A27 x0.Done.length c28, .slice A32 x0.Ledger.length c33, .int .i64 x0.Steps]]) (fun s => s.1 ≤ x0.Ledger.length ∧ rng (R := Bool) (fun k (_ : Unit) => impl_EqualEngines_b3 x0 x1 k) (x0.Ledger.length - s.1) s.1 s.2.1 = rng (R := Bool) (fun k (_ : Unit) => impl_EqualEngines_b3 x0 x1 k) (x0.Ledger.length - 0) 0 ()) (fun s => x0.Ledger.length - s.1) (0, (), ()) (subL_cons rfl (subL_cons rfl (subL_cons rfl (subL_cons rfl subL_nil)))) (fun W hm => hm) ⟨(by omega), rfl⟩ ?_
                    rintro ⟨k233, ⟨⟩, ⟨⟩⟩ H236
                    obtain ⟨hk234, hF235⟩ : k233 ≤ x0.Ledger.length ∧ rng (R := Bool) (fun k (_ : Unit) => impl_EqualEngines_b3 x0 x1 k) (x0.Ledger.length - k233) k233 () = rng (R := Bool) (fun k (_ : Unit) => impl_EqualEngines_b3 x0 x1 k) (x0.Ledger.length - 0) 0 () := H236
                    show CM Try.prog 143 _ _ _ _ [(2, .pointer (some (⟨p71, 0, none⟩ : Addr))), (3, .pointer (some (⟨p72, 0, none⟩ : Addr))), (126, .int .i64 ((x0.Ledger.length : Nat) : Int)), (127, .int .i64 ((k233 : Nat) : Int))] [iBox p72 77 [.slice A47 x1.Store.Segments.length c48, .int .i64 x1.Store.Now, .int .i64 x1.Cursor, .slice A52 x1.Order.length c53, .slice A57 x1.Active.length c58, .slice A62 x1.Done.length c63, .slice A67 x1.Ledger.length c68, .int .i64 x1.Steps], iBox p71 77 [.slice A12 x0.Store.Segments.length c13, .int .i64 x0.Store.Now, .int .i64 x0.Cursor, .slice A17 x0.Order.length c18, .slice A22 x0.Active.length c23, .slice A27 x0.Done.length c28, .slice A32 x0.Ledger.length c33, .int .i64 x0.Steps]]
                    refine sr ?_
                    refine wv (fun W hm => rv_lss rfl rfl) ?_
                    refine nt' ?_
                    refine CM_seq ?_
                    by_cases hl237 : k233 < x0.Ledger.length
                    · have g238 : (decide (((k233 : Nat) : Int) < ((x0.Ledger.length : Nat) : Int))) = true := decide_eq_true (by omega)
                      refine CM_condT rfl g238 ?_
                      refine CM_skip ?_
                      refine QM_then ?_
                      refine CM_seq ?_
                      refine CM_block ?_
                      refine sr ?_
                      refine wm ?_
                      refine wa ?_
                      refine nt' ?_
                      refine CM_seq ?_
                      refine CM_regionD (by kernel_rfl) (by kernel_rfl) ?_
                      refine qv (fun W hm => rv_field Try.underlying77 rfl Try.type75 (by decide) rfl rfl) ?_
                      refine qv (fun W hm => rv_load Try.underlying75 rfl rfl (hm.boxCell (n := 1) (o := 6) rfl rfl)) ?_
                      refine qm ?_
                      obtain ⟨a239, rfl, hb240, he241⟩ := q34 (by omega)
                      refine qv (fun W hm => rv_index (sz := 5) (k := k233) Try.underlying75 Try.type140 rfl rfl rfl (by omega)) ?_
                      obtain ⟨_, e249, hc242⟩ := he241 k233 _ (gt_some (show k233 < x0.Ledger.length from by omega))
                      obtain ⟨v243, v245, v247, rfl, r244, r246, r248⟩ := tyCharge_rd e249
                      have r254 := r244
                      obtain ⟨m250, A251, c252, rfl, q253⟩ := r244
                      have r259 := r246
                      obtain ⟨m255, A256, c257, rfl, q258⟩ := r246
                      have r264 := r248
                      obtain ⟨m260, A261, c262, rfl, q263⟩ := r248
                      refine qv (fun W hm => rv_loadN (cs := [.int .i64 ((gt x0.Ledger k233).Segment), .int .i64 ((gt x0.Ledger k233).Base), .slice A251 ((gt x0.Ledger k233).Ids).length c252, .slice A256 ((gt x0.Ledger k233).Tenants).length c257, .slice A261 ((gt x0.Ledger k233).Rows).length c262]) Try.underlying140 Try.type140 rfl rfl (hm.elCells (show (a239.add (k233 * 5)).block < w.heap.size from by rw [add_block]; exact hb240.1) hc242)) ?_
                      refine qv (fun W hm => rv_field Try.underlying77 rfl Try.type75 (by decide) rfl rfl) ?_
                      refine qv (fun W hm => rv_load Try.underlying75 rfl rfl (hm.boxCell (n := 0) (o := 6) rfl rfl)) ?_
                      refine qm ?_
                      obtain ⟨a265, rfl, hb266, he267⟩ := q69 (by omega)
                      refine qv (fun W hm => rv_index (sz := 5) (k := k233) Try.underlying75 Try.type140 rfl rfl rfl (by omega)) ?_
                      obtain ⟨_, e275, hc268⟩ := he267 k233 _ (gt_some (show k233 < x1.Ledger.length from by omega))
                      obtain ⟨v269, v271, v273, rfl, r270, r272, r274⟩ := tyCharge_rd e275
                      have r280 := r270
                      obtain ⟨m276, A277, c278, rfl, q279⟩ := r270
                      have r285 := r272
                      obtain ⟨m281, A282, c283, rfl, q284⟩ := r272
                      have r290 := r274
                      obtain ⟨m286, A287, c288, rfl, q289⟩ := r274
                      refine qv (fun W hm => rv_loadN (cs := [.int .i64 ((gt x1.Ledger k233).Segment), .int .i64 ((gt x1.Ledger k233).Base), .slice A277 ((gt x1.Ledger k233).Ids).length c278, .slice A282 ((gt x1.Ledger k233).Tenants).length c283, .slice A287 ((gt x1.Ledger k233).Rows).length c288]) Try.underlying140 Try.type140 rfl rfl (hm.elCells (show (a265.add (k233 * 5)).block < w.heap.size from by rw [add_block]; exact hb266.1) hc268)) ?_
                      refine QR_callV (cl_fn cb125 rfl) (fun W hm => impl_equalCharge_c W _ (gt x0.Ledger k233) _ (gt x1.Ledger k233) (tyCharge_mk (x := (gt x0.Ledger k233)) (hm.rdS0 r254) (hm.rdS0 r259) (hm.rdS0 r264)) (tyCharge_mk (x := (gt x1.Ledger k233)) (hm.rdS0 r280) (hm.rdS0 r285) (hm.rdS0 r290))) (Wd_none rfl) (by decide) ?_
                      refine qv (fun W hm => rv_not rfl) ?_
                      refine nq' ?_
                      rcases Bool.eq_false_or_eq_true (impl_equalCharge_m (gt x0.Ledger k233) (gt x1.Ledger k233)) with g292 | g292
                      ·
                        refine CM_condF rfl (nt g292) ?_
                        refine CM_skip ?_
                        refine QM_block_normal ?_
                        refine QM_then ?_
                        refine CM_region ?_
                        refine wv (fun W hm => rv_addN (p := k233) (q := 1) rfl rfl (by omega)) ?_
                        refine wm ?_
                        refine WM_nil ?_
                        have hn293 := rng_next (R := Bool) (body := (fun k (_ : Unit) => impl_EqualEngines_b3 x0 x1 k)) (k := k233) (s := ()) (s' := ()) (show k233 < x0.Ledger.length from by omega) (show impl_EqualEngines_b3 x0 x1 k233 = Sum.inr () from by unfold impl_EqualEngines_b3; exact cond_t g292 (rfl)) hF235
                        exact QM_round (k233 + 1, (), ()) (subL_cons rfl (subL_cons rfl (subL_cons rfl (subL_cons rfl subL_nil)))) (fun W hm => hm) ⟨(by omega), hn293⟩ (show x0.Ledger.length - (k233 + 1) < x0.Ledger.length - k233 from by omega)
                      ·
                        refine CM_condT rfl (nf g292) ?_
                        refine sr ?_
                        refine wa ?_
                        refine nt' ?_
                        refine CM_ret ?_
                        refine QM_block_ret ?_
                        refine QM_then_ret ?_
                        refine QM_then_ret ?_
                        refine QM_block_ret ?_
                        refine QM_then_ret ?_
                        exact QM_ret1 rfl rfl (fun W hm => ⟨ret_b (show impl_EqualEngines_m x0 x1 = false from by unfold impl_EqualEngines_m; exact cond_t g74 (cond_f g76 (cond_t g78 (cond_f g80 (cond_f g82 (cond_f g84 (cond_f g86 (fin_inr hE162 (fin_inr hE232 (fin_inl (rng_ret (body := (fun k (_ : Unit) => impl_EqualEngines_b3 x0 x1 k)) (k := k233) (s := ()) (show k233 < x0.Ledger.length from by omega) (show impl_EqualEngines_b3 x0 x1 k233 = Sum.inl false from by unfold impl_EqualEngines_b3; exact cond_f g292 (rfl)) hF235) rfl)))))))))), hm.below⟩)
                    · have g238 : (decide (((k233 : Nat) : Int) < ((x0.Ledger.length : Nat) : Int))) = false := decide_eq_false (by omega)
                      refine CM_condF rfl g238 ?_
                      refine CM_exit ?_
                      refine QM_then_exit ?_
                      refine QM_then_exit ?_
                      have hE294 : rng (R := Bool) (fun k (_ : Unit) => impl_EqualEngines_b3 x0 x1 k) (x0.Ledger.length - 0) 0 () = Sum.inr () := rng_end hl237 hF235
                      refine QM_block_hit ?_
                      refine QM_then ?_
                      refine sr ?_
                      refine wa ?_
                      refine nt' ?_
                      refine CM_ret ?_
                      exact QM_ret1 rfl rfl (fun W hm => ⟨ret_b (show impl_EqualEngines_m x0 x1 = true from by unfold impl_EqualEngines_m; exact cond_t g74 (cond_f g76 (cond_t g78 (cond_f g80 (cond_f g82 (cond_f g84 (cond_f g86 (fin_inr hE162 (fin_inr hE232 (fin_inr hE294 (rfl))))))))))), hm.below⟩)
              · have g86 : (((x0.Ledger.length : Nat) : Int) != ((x1.Ledger.length : Nat) : Int)) = true := bne_iff_ne.2 h85
                refine CM_condT rfl g86 ?_
                refine sr ?_
                refine wa ?_
                refine nt' ?_
                refine CM_ret ?_
                refine QM_then_ret ?_
                exact QM_ret1 rfl rfl (fun W hm => ⟨ret_b (show impl_EqualEngines_m x0 x1 = false from by unfold impl_EqualEngines_m; exact cond_t g74 (cond_f g76 (cond_t g78 (cond_f g80 (cond_f g82 (cond_f g84 (cond_t g86 (rfl)))))))), hm.below⟩)
            · have g84 : (((x0.Done.length : Nat) : Int) != ((x1.Done.length : Nat) : Int)) = true := bne_iff_ne.2 h83
              refine ws g84 ?_
              refine ws g84 ?_
              refine ws g84 ?_
              refine ws g84 ?_
              refine ws g84 ?_
              refine ws g84 ?_
              refine ws g84 ?_
              refine wv (fun W hm => rv_pickT rfl g84 rfl) ?_
              refine nt' ?_
              refine CM_condT rfl rfl ?_
              refine sr ?_
              refine wa ?_
              refine nt' ?_
              refine CM_ret ?_
              refine QM_then_ret ?_
              exact QM_ret1 rfl rfl (fun W hm => ⟨ret_b (show impl_EqualEngines_m x0 x1 = false from by unfold impl_EqualEngines_m; exact cond_t g74 (cond_f g76 (cond_t g78 (cond_f g80 (cond_f g82 (cond_t g84 (rfl))))))), hm.below⟩)
          · have g82 : (((x0.Active.length : Nat) : Int) != ((x1.Active.length : Nat) : Int)) = true := bne_iff_ne.2 h81
            refine ws g82 ?_
            refine ws g82 ?_
            refine ws g82 ?_
            refine ws g82 ?_
            refine ws g82 ?_
            refine ws g82 ?_
            refine ws g82 ?_
            refine wv (fun W hm => rv_pickT rfl g82 rfl) ?_
            refine wm ?_
            refine WM_skip (Wd_some rfl rfl rfl rfl) rfl (by decide) ?_
            refine WM_skip (Wd_some rfl rfl rfl rfl) rfl (by decide) ?_
            refine WM_skip (Wd_some rfl rfl rfl rfl) rfl (by decide) ?_
            refine WM_skip (Wd_some rfl rfl rfl rfl) rfl (by decide) ?_
            refine WM_skip (Wd_some rfl rfl rfl rfl) rfl (by decide) ?_
            refine WM_skip (Wd_some rfl rfl rfl rfl) rfl (by decide) ?_
            refine WM_skip (Wd_some rfl rfl rfl rfl) rfl (by decide) ?_
            refine wv (fun W hm => rv_pickT rfl rfl rfl) ?_
            refine nt' ?_
            refine CM_condT rfl rfl ?_
            refine sr ?_
            refine wa ?_
            refine nt' ?_
            refine CM_ret ?_
            refine QM_then_ret ?_
            exact QM_ret1 rfl rfl (fun W hm => ⟨ret_b (show impl_EqualEngines_m x0 x1 = false from by unfold impl_EqualEngines_m; exact cond_t g74 (cond_f g76 (cond_t g78 (cond_f g80 (cond_t g82 (rfl)))))), hm.below⟩)
        · have g80 : (x0.Steps != x1.Steps) = true := bne_iff_ne.2 h79
          refine CM_condT rfl g80 ?_
          refine sr ?_
          refine wa ?_
          refine nt' ?_
          refine CM_ret ?_
          refine QM_then_ret ?_
          exact QM_ret1 rfl rfl (fun W hm => ⟨ret_b (show impl_EqualEngines_m x0 x1 = false from by unfold impl_EqualEngines_m; exact cond_t g74 (cond_f g76 (cond_t g78 (cond_t g80 (rfl))))), hm.below⟩)
      ·
        refine ws (nf g78) ?_
        refine ws (nf g78) ?_
        refine ws (nf g78) ?_
        refine ws (nf g78) ?_
        refine ws (nf g78) ?_
        refine wv (fun W hm => rv_pickT rfl (nf g78) rfl) ?_
        refine nt' ?_
        refine CM_condT rfl rfl ?_
        refine sr ?_
        refine wa ?_
        refine nt' ?_
        refine CM_ret ?_
        refine QM_then_ret ?_
        exact QM_ret1 rfl rfl (fun W hm => ⟨ret_b (show impl_EqualEngines_m x0 x1 = false from by unfold impl_EqualEngines_m; exact cond_t g74 (cond_f g76 (cond_f g78 (rfl)))), hm.below⟩)
    · have g76 : (x0.Cursor != x1.Cursor) = true := bne_iff_ne.2 h75
      refine ws g76 ?_
      refine ws g76 ?_
      refine ws g76 ?_
      refine ws g76 ?_
      refine ws g76 ?_
      refine ws g76 ?_
      refine wv (fun W hm => rv_pickT rfl g76 rfl) ?_
      refine wm ?_
      refine WM_skip (Wd_some rfl rfl rfl rfl) rfl (by decide) ?_
      refine WM_skip (Wd_some rfl rfl rfl rfl) rfl (by decide) ?_
      refine WM_skip (Wd_some rfl rfl rfl rfl) rfl (by decide) ?_
      refine WM_skip (Wd_some rfl rfl rfl rfl) rfl (by decide) ?_
      refine WM_skip (Wd_some rfl rfl rfl rfl) rfl (by decide) ?_
      refine wv (fun W hm => rv_pickT rfl rfl rfl) ?_
      refine nt' ?_
      refine CM_condT rfl rfl ?_
      refine sr ?_
      refine wa ?_
      refine nt' ?_
      refine CM_ret ?_
      refine QM_then_ret ?_
      exact QM_ret1 rfl rfl (fun W hm => ⟨ret_b (show impl_EqualEngines_m x0 x1 = false from by unfold impl_EqualEngines_m; exact cond_t g74 (cond_t g76 (rfl))), hm.below⟩)
  ·
    refine ws (nf g74) ?_
    refine ws (nf g74) ?_
    refine ws (nf g74) ?_
    refine ws (nf g74) ?_
    refine ws (nf g74) ?_
    refine wv (fun W hm => rv_pickT rfl (nf g74) rfl) ?_
    refine wm ?_
    refine WM_skip (Wd_some rfl rfl rfl rfl) rfl (by decide) ?_
    refine WM_skip (Wd_some rfl rfl rfl rfl) rfl (by decide) ?_
    refine WM_skip (Wd_some rfl rfl rfl rfl) rfl (by decide) ?_
    refine WM_skip (Wd_some rfl rfl rfl rfl) rfl (by decide) ?_
    refine WM_skip (Wd_some rfl rfl rfl rfl) rfl (by decide) ?_
    refine WM_skip (Wd_some rfl rfl rfl rfl) rfl (by decide) ?_
    refine wv (fun W hm => rv_pickT rfl rfl rfl) ?_
    refine wm ?_
    refine WM_skip (Wd_some rfl rfl rfl rfl) rfl (by decide) ?_
    refine WM_skip (Wd_some rfl rfl rfl rfl) rfl (by decide) ?_
    refine WM_skip (Wd_some rfl rfl rfl rfl) rfl (by decide) ?_
    refine WM_skip (Wd_some rfl rfl rfl rfl) rfl (by decide) ?_
    refine WM_skip (Wd_some rfl rfl rfl rfl) rfl (by decide) ?_
    refine wv (fun W hm => rv_pickT rfl rfl rfl) ?_
    refine nt' ?_
    refine CM_condT rfl rfl ?_
    refine sr ?_
    refine wa ?_
    refine nt' ?_
    refine CM_ret ?_
    refine QM_then_ret ?_
    exact QM_ret1 rfl rfl (fun W hm => ⟨ret_b (show impl_EqualEngines_m x0 x1 = false from by unfold impl_EqualEngines_m; exact cond_f g74 (rfl)), hm.below⟩)

def laws_eqIntS_b1 (x0 : (List Int)) (x1 : (List Int)) (k13 : Nat) : Bool ⊕ (Unit) :=
  cond ((gt x0 k13) != (gt x1 k13)) (Sum.inl false) (Sum.inr ())
def laws_eqIntS_m (x0 : (List Int)) (x1 : (List Int)) : Bool :=
  cond (((x0.length : Nat) : Int) != ((x1.length : Nat) : Int)) false (Sum.elim id (fun (s : Unit) => true) (rng (R := Bool) (fun k (_ : Unit) => laws_eqIntS_b1 x0 x1 k) (x0.length - 0) 0 ()))
set_option maxRecDepth 100000 in
theorem cb67 : Cb Try.prog 67 := ⟨Try.f67, _, Try.func67, rfl, by decide⟩
set_option maxRecDepth 10000 in
set_option maxHeartbeats 4000000 in
theorem laws_eqIntS_c (w : World) (z0 : Value) (x0 : (List Int)) (z1 : Value) (x1 : (List Int)) (r_0 : rdS tInt w w.heap.size z0 x0) (r_1 : rdS tInt w w.heap.size z1 x1) :
    Calls Try.prog 67 #[z0, z1] w fun e w' => e = .returned (.bool (laws_eqIntS_m x0 x1)) ∧ Below w.heap.size w w' := by
  have r5 := r_0
  obtain ⟨m1, A2, c3, rfl, q4⟩ := r_0
  have r10 := r_1
  obtain ⟨m6, A7, c8, rfl, q9⟩ := r_1
  refine call_enterM (L := [(0, .slice A2 x0.length c3), (1, .slice A7 x1.length c8)]) (N := 26) Try.func67 rfl rfl (Nat.le_of_ble_eq_true rfl) (argsL_cons rfl (argsL_cons rfl argsL_nil)) ?_
  refine sr ?_
  refine wa ?_
  refine nt' ?_
  refine CM_seq ?_
  refine sr ?_
  refine wm ?_
  refine wv (fun W hm => rv_len Try.underlying27 rfl) ?_
  refine wm ?_
  refine wv (fun W hm => rv_len Try.underlying27 rfl) ?_
  refine wv (fun W hm => rv_neq rfl rfl) ?_
  refine nt' ?_
  by_cases h11 : ((x0.length : Nat) : Int) = ((x1.length : Nat) : Int)
  · have g12 : (((x0.length : Nat) : Int) != ((x1.length : Nat) : Int)) = false := by rw [h11]; exact bne_self_eq_false _
    refine CM_condF rfl g12 ?_
    refine CM_skip ?_
    refine QM_then ?_
    refine CM_seq ?_
    refine sr ?_
    refine wa ?_
    refine nt' ?_
    refine CM_block ?_
    refine CM_loop (σ := Nat × (Unit) × (Unit)) (fun s => [(0, .slice A2 x0.length c3), (1, .slice A7 x1.length c8), (5, .int .i64 ((s.1 : Nat) : Int))]) (fun s => []) (fun s => s.1 ≤ x0.length ∧ rng (R := Bool) (fun k (_ : Unit) => laws_eqIntS_b1 x0 x1 k) (x0.length - s.1) s.1 s.2.1 = rng (R := Bool) (fun k (_ : Unit) => laws_eqIntS_b1 x0 x1 k) (x0.length - 0) 0 ()) (fun s => x0.length - s.1) (0, (), ()) (subL_cons rfl (subL_cons rfl (subL_cons rfl subL_nil))) (fun W hm => hm) ⟨(by omega), rfl⟩ ?_
    rintro ⟨k13, ⟨⟩, ⟨⟩⟩ H16
    obtain ⟨hk14, hF15⟩ : k13 ≤ x0.length ∧ rng (R := Bool) (fun k (_ : Unit) => laws_eqIntS_b1 x0 x1 k) (x0.length - k13) k13 () = rng (R := Bool) (fun k (_ : Unit) => laws_eqIntS_b1 x0 x1 k) (x0.length - 0) 0 () := H16
    show CM Try.prog 26 _ _ _ _ [(0, .slice A2 x0.length c3), (1, .slice A7 x1.length c8), (5, .int .i64 ((k13 : Nat) : Int))] []
    refine CM_seq ?_
    refine sr ?_
    refine wm ?_
    refine wm ?_
    refine wv (fun W hm => rv_len Try.underlying27 rfl) ?_
    refine wv (fun W hm => rv_lss rfl rfl) ?_
    refine nt' ?_
    by_cases hl17 : k13 < x0.length
    · have g18 : (decide (((k13 : Nat) : Int) < ((x0.length : Nat) : Int))) = true := decide_eq_true (by omega)
      refine CM_condT rfl g18 ?_
      refine CM_skip ?_
      refine QM_then ?_
      refine CM_seq ?_
      refine CM_block ?_
      refine CM_seq ?_
      refine CM_regionD (by kernel_rfl) (by kernel_rfl) ?_
      refine qm ?_
      refine qm ?_
      obtain ⟨a19, rfl, hb20, he21⟩ := q4 (by omega)
      refine qv (fun W hm => rv_index (sz := 1) (k := k13) Try.underlying27 Try.type3 rfl rfl rfl (by omega)) ?_
      refine qv (fun W hm => rv_load Try.underlying3 rfl rfl ((hm.cell0 (show (a19.add (k13 * 1)).block < w.heap.size from by rw [add_block]; exact hb20.1)).trans (rdS_int he21 k13 (by omega)))) ?_
      refine qm ?_
      refine qm ?_
      obtain ⟨a22, rfl, hb23, he24⟩ := q9 (by omega)
      refine qv (fun W hm => rv_index (sz := 1) (k := k13) Try.underlying27 Try.type3 rfl rfl rfl (by omega)) ?_
      refine qv (fun W hm => rv_load Try.underlying3 rfl rfl ((hm.cell0 (show (a22.add (k13 * 1)).block < w.heap.size from by rw [add_block]; exact hb23.1)).trans (rdS_int he24 k13 (by omega)))) ?_
      refine qv (fun W hm => rv_neq rfl rfl) ?_
      refine nq' ?_
      by_cases h25 : (gt x0 k13) = (gt x1 k13)
      · have g26 : ((gt x0 k13) != (gt x1 k13)) = false := by rw [h25]; exact bne_self_eq_false _
        refine CM_condF rfl g26 ?_
        refine CM_skip ?_
        refine QM_block_normal ?_
        refine QM_then ?_
        refine CM_region ?_
        refine wm ?_
        refine wv (fun W hm => rv_addN (p := k13) (q := 1) rfl rfl (by omega)) ?_
        refine wa ?_
        refine WM_nil ?_
        have hn27 := rng_next (R := Bool) (body := (fun k (_ : Unit) => laws_eqIntS_b1 x0 x1 k)) (k := k13) (s := ()) (s' := ()) (show k13 < x0.length from by omega) (show laws_eqIntS_b1 x0 x1 k13 = Sum.inr () from by unfold laws_eqIntS_b1; exact cond_f g26 (rfl)) hF15
        exact QM_round (k13 + 1, (), ()) (subL_cons rfl (subL_cons rfl (subL_cons rfl subL_nil))) (fun W hm => hm) ⟨(by omega), hn27⟩ (show x0.length - (k13 + 1) < x0.length - k13 from by omega)
      · have g26 : ((gt x0 k13) != (gt x1 k13)) = true := bne_iff_ne.2 h25
        refine CM_condT rfl g26 ?_
        refine sr ?_
        refine wa ?_
        refine nt' ?_
        refine CM_ret ?_
        refine QM_block_ret ?_
        refine QM_then_ret ?_
        refine QM_then_ret ?_
        refine QM_block_ret ?_
        refine QM_then_ret ?_
        exact QM_ret1 rfl rfl (fun W hm => ⟨ret_b (show laws_eqIntS_m x0 x1 = false from by unfold laws_eqIntS_m; exact cond_f g12 (fin_inl (rng_ret (body := (fun k (_ : Unit) => laws_eqIntS_b1 x0 x1 k)) (k := k13) (s := ()) (show k13 < x0.length from by omega) (show laws_eqIntS_b1 x0 x1 k13 = Sum.inl false from by unfold laws_eqIntS_b1; exact cond_t g26 (rfl)) hF15) rfl)), hm.below⟩)
    · have g18 : (decide (((k13 : Nat) : Int) < ((x0.length : Nat) : Int))) = false := decide_eq_false (by omega)
      refine CM_condF rfl g18 ?_
      refine CM_exit ?_
      refine QM_then_exit ?_
      refine QM_then_exit ?_
      have hE28 : rng (R := Bool) (fun k (_ : Unit) => laws_eqIntS_b1 x0 x1 k) (x0.length - 0) 0 () = Sum.inr () := rng_end hl17 hF15
      refine QM_block_hit ?_
      refine QM_then ?_
      refine sr ?_
      refine wa ?_
      refine nt' ?_
      refine CM_ret ?_
      exact QM_ret1 rfl rfl (fun W hm => ⟨ret_b (show laws_eqIntS_m x0 x1 = true from by unfold laws_eqIntS_m; exact cond_f g12 (fin_inr hE28 (rfl))), hm.below⟩)
  · have g12 : (((x0.length : Nat) : Int) != ((x1.length : Nat) : Int)) = true := bne_iff_ne.2 h11
    refine CM_condT rfl g12 ?_
    refine sr ?_
    refine wa ?_
    refine nt' ?_
    refine CM_ret ?_
    refine QM_then_ret ?_
    exact QM_ret1 rfl rfl (fun W hm => ⟨ret_b (show laws_eqIntS_m x0 x1 = false from by unfold laws_eqIntS_m; exact cond_t g12 (rfl)), hm.below⟩)

def laws_eqVersion_m (x0 : DVersion) (x1 : DVersion) : Bool :=
  cond (x0.Id != x1.Id) false (cond (laws_eqIntS_m x0.Values x1.Values) (cond (x0.Born != x1.Born) false (cond (x0.Died != x1.Died) false true)) false)
set_option maxRecDepth 100000 in
theorem cb207 : Cb Try.prog 207 := ⟨Try.f207, _, Try.func207, rfl, by decide⟩
set_option maxRecDepth 10000 in
set_option maxHeartbeats 4000000 in
theorem laws_eqVersion_c (w : World) (z0 : List Value) (x0 : DVersion) (z1 : List Value) (x1 : DVersion) (r_0 : tyVersion.rd w w.heap.size z0 x0) (r_1 : tyVersion.rd w w.heap.size z1 x1) :
    Calls Try.prog 207 #[.agg z0.toArray, .agg z1.toArray] w fun e w' => e = .returned (.bool (laws_eqVersion_m x0 x1)) ∧ Below w.heap.size w w' := by
  obtain ⟨v1, rfl, r2⟩ := tyVersion_rd r_0
  have r7 := r2
  obtain ⟨m3, A4, c5, rfl, q6⟩ := r2
  obtain ⟨v8, rfl, r9⟩ := tyVersion_rd r_1
  have r14 := r9
  obtain ⟨m10, A11, c12, rfl, q13⟩ := r9
  refine call_enterM (L := [(0, .agg #[.int .i64 x0.Id, .slice A4 x0.Values.length c5, .int .i64 x0.Born, .int .i64 x0.Died]), (1, .agg #[.int .i64 x1.Id, .slice A11 x1.Values.length c12, .int .i64 x1.Born, .int .i64 x1.Died])]) (N := 26) Try.func207 rfl rfl (Nat.le_of_ble_eq_true rfl) (argsL_cons rfl (argsL_cons rfl argsL_nil)) ?_
  refine sr ?_
  refine WM_box rfl (Wd_none rfl) (by decide) (fun p15 => ?_)
  refine WM_box rfl (Wd_none rfl) (by decide) (fun p16 => ?_)
  refine wa ?_
  refine nt' ?_
  refine CM_seq ?_
  refine sr ?_
  refine wv (fun W hm => rv_field Try.underlying51 rfl Try.type3 (by decide) rfl rfl) ?_
  refine wv (fun W hm => rv_load Try.underlying3 rfl rfl (hm.boxCell (n := 1) (o := 0) rfl rfl)) ?_
  refine wv (fun W hm => rv_field Try.underlying51 rfl Try.type3 (by decide) rfl rfl) ?_
  refine wv (fun W hm => rv_load Try.underlying3 rfl rfl (hm.boxCell (n := 0) (o := 0) rfl rfl)) ?_
  refine wv (fun W hm => rv_neq rfl rfl) ?_
  refine nt' ?_
  by_cases h17 : x0.Id = x1.Id
  · have g18 : (x0.Id != x1.Id) = false := by rw [h17]; exact bne_self_eq_false _
    refine CM_condF rfl g18 ?_
    refine CM_skip ?_
    refine QM_then ?_
    refine CM_seq ?_
    refine sr ?_
    refine wv (fun W hm => rv_field Try.underlying51 rfl Try.type27 (by decide) rfl rfl) ?_
    refine wv (fun W hm => rv_load Try.underlying27 rfl rfl (hm.boxCell (n := 1) (o := 1) rfl rfl)) ?_
    refine wv (fun W hm => rv_field Try.underlying51 rfl Try.type27 (by decide) rfl rfl) ?_
    refine wv (fun W hm => rv_load Try.underlying27 rfl rfl (hm.boxCell (n := 0) (o := 1) rfl rfl)) ?_
    refine WM_callV (cl_fn cb67 rfl) (fun W hm => laws_eqIntS_c W _ x0.Values _ x1.Values (hm.rdS0 r7) (hm.rdS0 r14)) (Wd_none rfl) (by decide) ?_
    refine wv (fun W hm => rv_not rfl) ?_
    refine nt' ?_
    rcases Bool.eq_false_or_eq_true (laws_eqIntS_m x0.Values x1.Values) with g20 | g20
    ·
      refine CM_condF rfl (nt g20) ?_
      refine CM_skip ?_
      refine QM_then ?_
      refine CM_seq ?_
      refine sr ?_
      refine wv (fun W hm => rv_field Try.underlying51 rfl Try.type3 (by decide) rfl rfl) ?_
      refine wv (fun W hm => rv_load Try.underlying3 rfl rfl (hm.boxCell (n := 1) (o := 2) rfl rfl)) ?_
      refine wv (fun W hm => rv_field Try.underlying51 rfl Try.type3 (by decide) rfl rfl) ?_
      refine wv (fun W hm => rv_load Try.underlying3 rfl rfl (hm.boxCell (n := 0) (o := 2) rfl rfl)) ?_
      refine wv (fun W hm => rv_neq rfl rfl) ?_
      refine nt' ?_
      by_cases h21 : x0.Born = x1.Born
      · have g22 : (x0.Born != x1.Born) = false := by rw [h21]; exact bne_self_eq_false _
        refine CM_condF rfl g22 ?_
        refine CM_skip ?_
        refine QM_then ?_
        refine CM_seq ?_
        refine sr ?_
        refine wv (fun W hm => rv_field Try.underlying51 rfl Try.type3 (by decide) rfl rfl) ?_
        refine wv (fun W hm => rv_load Try.underlying3 rfl rfl (hm.boxCell (n := 1) (o := 3) rfl rfl)) ?_
        refine wv (fun W hm => rv_field Try.underlying51 rfl Try.type3 (by decide) rfl rfl) ?_
        refine wv (fun W hm => rv_load Try.underlying3 rfl rfl (hm.boxCell (n := 0) (o := 3) rfl rfl)) ?_
        refine wv (fun W hm => rv_neq rfl rfl) ?_
        refine nt' ?_
        by_cases h23 : x0.Died = x1.Died
        · have g24 : (x0.Died != x1.Died) = false := by rw [h23]; exact bne_self_eq_false _
          refine CM_condF rfl g24 ?_
          refine CM_skip ?_
          refine QM_then ?_
          refine sr ?_
          refine wa ?_
          refine nt' ?_
          refine CM_ret ?_
          exact QM_ret1 rfl rfl (fun W hm => ⟨ret_b (show laws_eqVersion_m x0 x1 = true from by unfold laws_eqVersion_m; exact cond_f g18 (cond_t g20 (cond_f g22 (cond_f g24 (rfl))))), hm.below⟩)
        · have g24 : (x0.Died != x1.Died) = true := bne_iff_ne.2 h23
          refine CM_condT rfl g24 ?_
          refine sr ?_
          refine wa ?_
          refine nt' ?_
          refine CM_ret ?_
          refine QM_then_ret ?_
          exact QM_ret1 rfl rfl (fun W hm => ⟨ret_b (show laws_eqVersion_m x0 x1 = false from by unfold laws_eqVersion_m; exact cond_f g18 (cond_t g20 (cond_f g22 (cond_t g24 (rfl))))), hm.below⟩)
      · have g22 : (x0.Born != x1.Born) = true := bne_iff_ne.2 h21
        refine CM_condT rfl g22 ?_
        refine sr ?_
        refine wa ?_
        refine nt' ?_
        refine CM_ret ?_
        refine QM_then_ret ?_
        exact QM_ret1 rfl rfl (fun W hm => ⟨ret_b (show laws_eqVersion_m x0 x1 = false from by unfold laws_eqVersion_m; exact cond_f g18 (cond_t g20 (cond_t g22 (rfl)))), hm.below⟩)
    ·
      refine CM_condT rfl (nf g20) ?_
      refine sr ?_
      refine wa ?_
      refine nt' ?_
      refine CM_ret ?_
      refine QM_then_ret ?_
      exact QM_ret1 rfl rfl (fun W hm => ⟨ret_b (show laws_eqVersion_m x0 x1 = false from by unfold laws_eqVersion_m; exact cond_f g18 (cond_f g20 (rfl))), hm.below⟩)
  · have g18 : (x0.Id != x1.Id) = true := bne_iff_ne.2 h17
    refine CM_condT rfl g18 ?_
    refine sr ?_
    refine wa ?_
    refine nt' ?_
    refine CM_ret ?_
    refine QM_then_ret ?_
    exact QM_ret1 rfl rfl (fun W hm => ⟨ret_b (show laws_eqVersion_m x0 x1 = false from by unfold laws_eqVersion_m; exact cond_t g18 (rfl)), hm.below⟩)

def laws_eqVersionS_b1 (x0 : (List DVersion)) (x1 : (List DVersion)) (k13 : Nat) : Bool ⊕ (Unit) :=
  cond (laws_eqVersion_m (gt x0 k13) (gt x1 k13)) (Sum.inr ()) (Sum.inl false)
def laws_eqVersionS_m (x0 : (List DVersion)) (x1 : (List DVersion)) : Bool :=
  cond (((x0.length : Nat) : Int) != ((x1.length : Nat) : Int)) false (Sum.elim id (fun (s : Unit) => true) (rng (R := Bool) (fun k (_ : Unit) => laws_eqVersionS_b1 x0 x1 k) (x0.length - 0) 0 ()))
set_option maxRecDepth 100000 in
theorem cb180 : Cb Try.prog 180 := ⟨Try.f180, _, Try.func180, rfl, by decide⟩
set_option maxRecDepth 10000 in
set_option maxHeartbeats 4000000 in
theorem laws_eqVersionS_c (w : World) (z0 : Value) (x0 : (List DVersion)) (z1 : Value) (x1 : (List DVersion)) (r_0 : rdS tyVersion w w.heap.size z0 x0) (r_1 : rdS tyVersion w w.heap.size z1 x1) :
    Calls Try.prog 180 #[z0, z1] w fun e w' => e = .returned (.bool (laws_eqVersionS_m x0 x1)) ∧ Below w.heap.size w w' := by
  have r5 := r_0
  obtain ⟨m1, A2, c3, rfl, q4⟩ := r_0
  have r10 := r_1
  obtain ⟨m6, A7, c8, rfl, q9⟩ := r_1
  refine call_enterM (L := [(0, .slice A2 x0.length c3), (1, .slice A7 x1.length c8)]) (N := 27) Try.func180 rfl rfl (Nat.le_of_ble_eq_true rfl) (argsL_cons rfl (argsL_cons rfl argsL_nil)) ?_
  refine sr ?_
  refine wa ?_
  refine nt' ?_
  refine CM_seq ?_
  refine sr ?_
  refine wm ?_
  refine wv (fun W hm => rv_len Try.underlying102 rfl) ?_
  refine wm ?_
  refine wv (fun W hm => rv_len Try.underlying102 rfl) ?_
  refine wv (fun W hm => rv_neq rfl rfl) ?_
  refine nt' ?_
  by_cases h11 : ((x0.length : Nat) : Int) = ((x1.length : Nat) : Int)
  · have g12 : (((x0.length : Nat) : Int) != ((x1.length : Nat) : Int)) = false := by rw [h11]; exact bne_self_eq_false _
    refine CM_condF rfl g12 ?_
    refine CM_skip ?_
    refine QM_then ?_
    refine CM_seq ?_
    refine sr ?_
    refine wa ?_
    refine nt' ?_
    refine CM_block ?_
    refine CM_loop (σ := Nat × (Unit) × (Unit)) (fun s => [(0, .slice A2 x0.length c3), (1, .slice A7 x1.length c8), (5, .int .i64 ((s.1 : Nat) : Int))]) (fun s => []) (fun s => s.1 ≤ x0.length ∧ rng (R := Bool) (fun k (_ : Unit) => laws_eqVersionS_b1 x0 x1 k) (x0.length - s.1) s.1 s.2.1 = rng (R := Bool) (fun k (_ : Unit) => laws_eqVersionS_b1 x0 x1 k) (x0.length - 0) 0 ()) (fun s => x0.length - s.1) (0, (), ()) (subL_cons rfl (subL_cons rfl (subL_cons rfl subL_nil))) (fun W hm => hm) ⟨(by omega), rfl⟩ ?_
    rintro ⟨k13, ⟨⟩, ⟨⟩⟩ H16
    obtain ⟨hk14, hF15⟩ : k13 ≤ x0.length ∧ rng (R := Bool) (fun k (_ : Unit) => laws_eqVersionS_b1 x0 x1 k) (x0.length - k13) k13 () = rng (R := Bool) (fun k (_ : Unit) => laws_eqVersionS_b1 x0 x1 k) (x0.length - 0) 0 () := H16
    show CM Try.prog 27 _ _ _ _ [(0, .slice A2 x0.length c3), (1, .slice A7 x1.length c8), (5, .int .i64 ((k13 : Nat) : Int))] []
    refine CM_seq ?_
    refine sr ?_
    refine wm ?_
    refine wm ?_
    refine wv (fun W hm => rv_len Try.underlying102 rfl) ?_
    refine wv (fun W hm => rv_lss rfl rfl) ?_
    refine nt' ?_
    by_cases hl17 : k13 < x0.length
    · have g18 : (decide (((k13 : Nat) : Int) < ((x0.length : Nat) : Int))) = true := decide_eq_true (by omega)
      refine CM_condT rfl g18 ?_
      refine CM_skip ?_
      refine QM_then ?_
      refine CM_seq ?_
      refine CM_block ?_
      refine CM_seq ?_
      refine CM_regionD (by kernel_rfl) (by kernel_rfl) ?_
      refine qm ?_
      refine qm ?_
      obtain ⟨a19, rfl, hb20, he21⟩ := q4 (by omega)
      refine qv (fun W hm => rv_index (sz := 4) (k := k13) Try.underlying102 Try.type51 rfl rfl rfl (by omega)) ?_
      obtain ⟨_, e25, hc22⟩ := he21 k13 _ (gt_some (show k13 < x0.length from by omega))
      obtain ⟨v23, rfl, r24⟩ := tyVersion_rd e25
      have r30 := r24
      obtain ⟨m26, A27, c28, rfl, q29⟩ := r24
      refine qv (fun W hm => rv_loadN (cs := [.int .i64 ((gt x0 k13).Id), .slice A27 ((gt x0 k13).Values).length c28, .int .i64 ((gt x0 k13).Born), .int .i64 ((gt x0 k13).Died)]) Try.underlying51 Try.type51 rfl rfl (hm.elCells (show (a19.add (k13 * 4)).block < w.heap.size from by rw [add_block]; exact hb20.1) hc22)) ?_
      refine qm ?_
      refine qm ?_
      obtain ⟨a31, rfl, hb32, he33⟩ := q9 (by omega)
      refine qv (fun W hm => rv_index (sz := 4) (k := k13) Try.underlying102 Try.type51 rfl rfl rfl (by omega)) ?_
      obtain ⟨_, e37, hc34⟩ := he33 k13 _ (gt_some (show k13 < x1.length from by omega))
      obtain ⟨v35, rfl, r36⟩ := tyVersion_rd e37
      have r42 := r36
      obtain ⟨m38, A39, c40, rfl, q41⟩ := r36
      refine qv (fun W hm => rv_loadN (cs := [.int .i64 ((gt x1 k13).Id), .slice A39 ((gt x1 k13).Values).length c40, .int .i64 ((gt x1 k13).Born), .int .i64 ((gt x1 k13).Died)]) Try.underlying51 Try.type51 rfl rfl (hm.elCells (show (a31.add (k13 * 4)).block < w.heap.size from by rw [add_block]; exact hb32.1) hc34)) ?_
      refine QR_callV (cl_fn cb207 rfl) (fun W hm => laws_eqVersion_c W _ (gt x0 k13) _ (gt x1 k13) (tyVersion_mk (x := (gt x0 k13)) (hm.rdS0 r30)) (tyVersion_mk (x := (gt x1 k13)) (hm.rdS0 r42))) (Wd_none rfl) (by decide) ?_
      refine qv (fun W hm => rv_not rfl) ?_
      refine nq' ?_
      rcases Bool.eq_false_or_eq_true (laws_eqVersion_m (gt x0 k13) (gt x1 k13)) with g44 | g44
      ·
        refine CM_condF rfl (nt g44) ?_
        refine CM_skip ?_
        refine QM_block_normal ?_
        refine QM_then ?_
        refine CM_region ?_
        refine wm ?_
        refine wv (fun W hm => rv_addN (p := k13) (q := 1) rfl rfl (by omega)) ?_
        refine wa ?_
        refine WM_nil ?_
        have hn45 := rng_next (R := Bool) (body := (fun k (_ : Unit) => laws_eqVersionS_b1 x0 x1 k)) (k := k13) (s := ()) (s' := ()) (show k13 < x0.length from by omega) (show laws_eqVersionS_b1 x0 x1 k13 = Sum.inr () from by unfold laws_eqVersionS_b1; exact cond_t g44 (rfl)) hF15
        exact QM_round (k13 + 1, (), ()) (subL_cons rfl (subL_cons rfl (subL_cons rfl subL_nil))) (fun W hm => hm) ⟨(by omega), hn45⟩ (show x0.length - (k13 + 1) < x0.length - k13 from by omega)
      ·
        refine CM_condT rfl (nf g44) ?_
        refine sr ?_
        refine wa ?_
        refine nt' ?_
        refine CM_ret ?_
        refine QM_block_ret ?_
        refine QM_then_ret ?_
        refine QM_then_ret ?_
        refine QM_block_ret ?_
        refine QM_then_ret ?_
        exact QM_ret1 rfl rfl (fun W hm => ⟨ret_b (show laws_eqVersionS_m x0 x1 = false from by unfold laws_eqVersionS_m; exact cond_f g12 (fin_inl (rng_ret (body := (fun k (_ : Unit) => laws_eqVersionS_b1 x0 x1 k)) (k := k13) (s := ()) (show k13 < x0.length from by omega) (show laws_eqVersionS_b1 x0 x1 k13 = Sum.inl false from by unfold laws_eqVersionS_b1; exact cond_f g44 (rfl)) hF15) rfl)), hm.below⟩)
    · have g18 : (decide (((k13 : Nat) : Int) < ((x0.length : Nat) : Int))) = false := decide_eq_false (by omega)
      refine CM_condF rfl g18 ?_
      refine CM_exit ?_
      refine QM_then_exit ?_
      refine QM_then_exit ?_
      have hE46 : rng (R := Bool) (fun k (_ : Unit) => laws_eqVersionS_b1 x0 x1 k) (x0.length - 0) 0 () = Sum.inr () := rng_end hl17 hF15
      refine QM_block_hit ?_
      refine QM_then ?_
      refine sr ?_
      refine wa ?_
      refine nt' ?_
      refine CM_ret ?_
      exact QM_ret1 rfl rfl (fun W hm => ⟨ret_b (show laws_eqVersionS_m x0 x1 = true from by unfold laws_eqVersionS_m; exact cond_f g12 (fin_inr hE46 (rfl))), hm.below⟩)
  · have g12 : (((x0.length : Nat) : Int) != ((x1.length : Nat) : Int)) = true := bne_iff_ne.2 h11
    refine CM_condT rfl g12 ?_
    refine sr ?_
    refine wa ?_
    refine nt' ?_
    refine CM_ret ?_
    refine QM_then_ret ?_
    exact QM_ret1 rfl rfl (fun W hm => ⟨ret_b (show laws_eqVersionS_m x0 x1 = false from by unfold laws_eqVersionS_m; exact cond_t g12 (rfl)), hm.below⟩)

def laws_eqVersionSS_b1 (x0 : (List (List DVersion))) (x1 : (List (List DVersion))) (k13 : Nat) : Bool ⊕ (Unit) :=
  cond (laws_eqVersionS_m (gt x0 k13) (gt x1 k13)) (Sum.inr ()) (Sum.inl false)
def laws_eqVersionSS_m (x0 : (List (List DVersion))) (x1 : (List (List DVersion))) : Bool :=
  cond (((x0.length : Nat) : Int) != ((x1.length : Nat) : Int)) false (Sum.elim id (fun (s : Unit) => true) (rng (R := Bool) (fun k (_ : Unit) => laws_eqVersionSS_b1 x0 x1 k) (x0.length - 0) 0 ()))
set_option maxRecDepth 100000 in
theorem cb128 : Cb Try.prog 128 := ⟨Try.f128, _, Try.func128, rfl, by decide⟩
set_option maxRecDepth 10000 in
set_option maxHeartbeats 4000000 in
theorem laws_eqVersionSS_c (w : World) (z0 : Value) (x0 : (List (List DVersion))) (z1 : Value) (x1 : (List (List DVersion))) (r_0 : rdS (tSl tyVersion 51) w w.heap.size z0 x0) (r_1 : rdS (tSl tyVersion 51) w w.heap.size z1 x1) :
    Calls Try.prog 128 #[z0, z1] w fun e w' => e = .returned (.bool (laws_eqVersionSS_m x0 x1)) ∧ Below w.heap.size w w' := by
  have r5 := r_0
  obtain ⟨m1, A2, c3, rfl, q4⟩ := r_0
  have r10 := r_1
  obtain ⟨m6, A7, c8, rfl, q9⟩ := r_1
  refine call_enterM (L := [(0, .slice A2 x0.length c3), (1, .slice A7 x1.length c8)]) (N := 27) Try.func128 rfl rfl (Nat.le_of_ble_eq_true rfl) (argsL_cons rfl (argsL_cons rfl argsL_nil)) ?_
  refine sr ?_
  refine wa ?_
  refine nt' ?_
  refine CM_seq ?_
  refine sr ?_
  refine wm ?_
  refine wv (fun W hm => rv_len Try.underlying24 rfl) ?_
  refine wm ?_
  refine wv (fun W hm => rv_len Try.underlying24 rfl) ?_
  refine wv (fun W hm => rv_neq rfl rfl) ?_
  refine nt' ?_
  by_cases h11 : ((x0.length : Nat) : Int) = ((x1.length : Nat) : Int)
  · have g12 : (((x0.length : Nat) : Int) != ((x1.length : Nat) : Int)) = false := by rw [h11]; exact bne_self_eq_false _
    refine CM_condF rfl g12 ?_
    refine CM_skip ?_
    refine QM_then ?_
    refine CM_seq ?_
    refine sr ?_
    refine wa ?_
    refine nt' ?_
    refine CM_block ?_
    refine CM_loop (σ := Nat × (Unit) × (Unit)) (fun s => [(0, .slice A2 x0.length c3), (1, .slice A7 x1.length c8), (5, .int .i64 ((s.1 : Nat) : Int))]) (fun s => []) (fun s => s.1 ≤ x0.length ∧ rng (R := Bool) (fun k (_ : Unit) => laws_eqVersionSS_b1 x0 x1 k) (x0.length - s.1) s.1 s.2.1 = rng (R := Bool) (fun k (_ : Unit) => laws_eqVersionSS_b1 x0 x1 k) (x0.length - 0) 0 ()) (fun s => x0.length - s.1) (0, (), ()) (subL_cons rfl (subL_cons rfl (subL_cons rfl subL_nil))) (fun W hm => hm) ⟨(by omega), rfl⟩ ?_
    rintro ⟨k13, ⟨⟩, ⟨⟩⟩ H16
    obtain ⟨hk14, hF15⟩ : k13 ≤ x0.length ∧ rng (R := Bool) (fun k (_ : Unit) => laws_eqVersionSS_b1 x0 x1 k) (x0.length - k13) k13 () = rng (R := Bool) (fun k (_ : Unit) => laws_eqVersionSS_b1 x0 x1 k) (x0.length - 0) 0 () := H16
    show CM Try.prog 27 _ _ _ _ [(0, .slice A2 x0.length c3), (1, .slice A7 x1.length c8), (5, .int .i64 ((k13 : Nat) : Int))] []
    refine CM_seq ?_
    refine sr ?_
    refine wm ?_
    refine wm ?_
    refine wv (fun W hm => rv_len Try.underlying24 rfl) ?_
    refine wv (fun W hm => rv_lss rfl rfl) ?_
    refine nt' ?_
    by_cases hl17 : k13 < x0.length
    · have g18 : (decide (((k13 : Nat) : Int) < ((x0.length : Nat) : Int))) = true := decide_eq_true (by omega)
      refine CM_condT rfl g18 ?_
      refine CM_skip ?_
      refine QM_then ?_
      refine CM_seq ?_
      refine CM_block ?_
      refine CM_seq ?_
      refine CM_regionD (by kernel_rfl) (by kernel_rfl) ?_
      refine qm ?_
      refine qm ?_
      obtain ⟨a19, rfl, hb20, he21⟩ := q4 (by omega)
      refine qv (fun W hm => rv_index (sz := 1) (k := k13) Try.underlying24 Try.type102 rfl rfl rfl (by omega)) ?_
      obtain ⟨_, e23, hc22⟩ := he21 k13 _ (gt_some (show k13 < x0.length from by omega))
      obtain ⟨v24, rfl, r25⟩ := e23
      have r30 := r25
      obtain ⟨m26, A27, c28, rfl, q29⟩ := r25
      refine qv (fun W hm => rv_load Try.underlying102 rfl rfl ((hm.cell0 (show (a19.add (k13 * 1)).block < w.heap.size from by rw [add_block]; exact hb20.1)).trans (hc22 0 _ rfl))) ?_
      refine qm ?_
      refine qm ?_
      obtain ⟨a31, rfl, hb32, he33⟩ := q9 (by omega)
      refine qv (fun W hm => rv_index (sz := 1) (k := k13) Try.underlying24 Try.type102 rfl rfl rfl (by omega)) ?_
      obtain ⟨_, e35, hc34⟩ := he33 k13 _ (gt_some (show k13 < x1.length from by omega))
      obtain ⟨v36, rfl, r37⟩ := e35
      have r42 := r37
      obtain ⟨m38, A39, c40, rfl, q41⟩ := r37
      refine qv (fun W hm => rv_load Try.underlying102 rfl rfl ((hm.cell0 (show (a31.add (k13 * 1)).block < w.heap.size from by rw [add_block]; exact hb32.1)).trans (hc34 0 _ rfl))) ?_
      refine QR_callV (cl_fn cb180 rfl) (fun W hm => laws_eqVersionS_c W _ (gt x0 k13) _ (gt x1 k13) (hm.rdS0 r30) (hm.rdS0 r42)) (Wd_none rfl) (by decide) ?_
      refine qv (fun W hm => rv_not rfl) ?_
      refine nq' ?_
      rcases Bool.eq_false_or_eq_true (laws_eqVersionS_m (gt x0 k13) (gt x1 k13)) with g44 | g44
      ·
        refine CM_condF rfl (nt g44) ?_
        refine CM_skip ?_
        refine QM_block_normal ?_
        refine QM_then ?_
        refine CM_region ?_
        refine wm ?_
        refine wv (fun W hm => rv_addN (p := k13) (q := 1) rfl rfl (by omega)) ?_
        refine wa ?_
        refine WM_nil ?_
        have hn45 := rng_next (R := Bool) (body := (fun k (_ : Unit) => laws_eqVersionSS_b1 x0 x1 k)) (k := k13) (s := ()) (s' := ()) (show k13 < x0.length from by omega) (show laws_eqVersionSS_b1 x0 x1 k13 = Sum.inr () from by unfold laws_eqVersionSS_b1; exact cond_t g44 (rfl)) hF15
        exact QM_round (k13 + 1, (), ()) (subL_cons rfl (subL_cons rfl (subL_cons rfl subL_nil))) (fun W hm => hm) ⟨(by omega), hn45⟩ (show x0.length - (k13 + 1) < x0.length - k13 from by omega)
      ·
        refine CM_condT rfl (nf g44) ?_
        refine sr ?_
        refine wa ?_
        refine nt' ?_
        refine CM_ret ?_
        refine QM_block_ret ?_
        refine QM_then_ret ?_
        refine QM_then_ret ?_
        refine QM_block_ret ?_
        refine QM_then_ret ?_
        exact QM_ret1 rfl rfl (fun W hm => ⟨ret_b (show laws_eqVersionSS_m x0 x1 = false from by unfold laws_eqVersionSS_m; exact cond_f g12 (fin_inl (rng_ret (body := (fun k (_ : Unit) => laws_eqVersionSS_b1 x0 x1 k)) (k := k13) (s := ()) (show k13 < x0.length from by omega) (show laws_eqVersionSS_b1 x0 x1 k13 = Sum.inl false from by unfold laws_eqVersionSS_b1; exact cond_f g44 (rfl)) hF15) rfl)), hm.below⟩)
    · have g18 : (decide (((k13 : Nat) : Int) < ((x0.length : Nat) : Int))) = false := decide_eq_false (by omega)
      refine CM_condF rfl g18 ?_
      refine CM_exit ?_
      refine QM_then_exit ?_
      refine QM_then_exit ?_
      have hE46 : rng (R := Bool) (fun k (_ : Unit) => laws_eqVersionSS_b1 x0 x1 k) (x0.length - 0) 0 () = Sum.inr () := rng_end hl17 hF15
      refine QM_block_hit ?_
      refine QM_then ?_
      refine sr ?_
      refine wa ?_
      refine nt' ?_
      refine CM_ret ?_
      exact QM_ret1 rfl rfl (fun W hm => ⟨ret_b (show laws_eqVersionSS_m x0 x1 = true from by unfold laws_eqVersionSS_m; exact cond_f g12 (fin_inr hE46 (rfl))), hm.below⟩)
  · have g12 : (((x0.length : Nat) : Int) != ((x1.length : Nat) : Int)) = true := bne_iff_ne.2 h11
    refine CM_condT rfl g12 ?_
    refine sr ?_
    refine wa ?_
    refine nt' ?_
    refine CM_ret ?_
    refine QM_then_ret ?_
    exact QM_ret1 rfl rfl (fun W hm => ⟨ret_b (show laws_eqVersionSS_m x0 x1 = false from by unfold laws_eqVersionSS_m; exact cond_t g12 (rfl)), hm.below⟩)

def laws_eqStore_m (x0 : DStore) (x1 : DStore) : Bool :=
  cond (laws_eqVersionSS_m x0.Segments x1.Segments) (cond (x0.Now != x1.Now) false true) false
set_option maxRecDepth 100000 in
theorem cb53 : Cb Try.prog 53 := ⟨Try.f53, _, Try.func53, rfl, by decide⟩
set_option maxRecDepth 10000 in
set_option maxHeartbeats 4000000 in
theorem laws_eqStore_c (w : World) (z0 : List Value) (x0 : DStore) (z1 : List Value) (x1 : DStore) (r_0 : tyStore.rd w w.heap.size z0 x0) (r_1 : tyStore.rd w w.heap.size z1 x1) :
    Calls Try.prog 53 #[.agg z0.toArray, .agg z1.toArray] w fun e w' => e = .returned (.bool (laws_eqStore_m x0 x1)) ∧ Below w.heap.size w w' := by
  obtain ⟨v1, rfl, r2⟩ := tyStore_rd r_0
  have r7 := r2
  obtain ⟨m3, A4, c5, rfl, q6⟩ := r2
  obtain ⟨v8, rfl, r9⟩ := tyStore_rd r_1
  have r14 := r9
  obtain ⟨m10, A11, c12, rfl, q13⟩ := r9
  refine call_enterM (L := [(0, .agg #[.slice A4 x0.Segments.length c5, .int .i64 x0.Now]), (1, .agg #[.slice A11 x1.Segments.length c12, .int .i64 x1.Now])]) (N := 16) Try.func53 rfl rfl (Nat.le_of_ble_eq_true rfl) (argsL_cons rfl (argsL_cons rfl argsL_nil)) ?_
  refine sr ?_
  refine WM_box rfl (Wd_none rfl) (by decide) (fun p15 => ?_)
  refine WM_box rfl (Wd_none rfl) (by decide) (fun p16 => ?_)
  refine wa ?_
  refine nt' ?_
  refine CM_seq ?_
  refine sr ?_
  refine wv (fun W hm => rv_field Try.underlying26 rfl Try.type24 (by decide) rfl rfl) ?_
  refine wv (fun W hm => rv_load Try.underlying24 rfl rfl (hm.boxCell (n := 1) (o := 0) rfl rfl)) ?_
  refine wv (fun W hm => rv_field Try.underlying26 rfl Try.type24 (by decide) rfl rfl) ?_
  refine wv (fun W hm => rv_load Try.underlying24 rfl rfl (hm.boxCell (n := 0) (o := 0) rfl rfl)) ?_
  refine WM_callV (cl_fn cb128 rfl) (fun W hm => laws_eqVersionSS_c W _ x0.Segments _ x1.Segments (hm.rdS0 r7) (hm.rdS0 r14)) (Wd_none rfl) (by decide) ?_
  refine wv (fun W hm => rv_not rfl) ?_
  refine nt' ?_
  rcases Bool.eq_false_or_eq_true (laws_eqVersionSS_m x0.Segments x1.Segments) with g18 | g18
  ·
    refine CM_condF rfl (nt g18) ?_
    refine CM_skip ?_
    refine QM_then ?_
    refine CM_seq ?_
    refine sr ?_
    refine wv (fun W hm => rv_field Try.underlying26 rfl Try.type3 (by decide) rfl rfl) ?_
    refine wv (fun W hm => rv_load Try.underlying3 rfl rfl (hm.boxCell (n := 1) (o := 1) rfl rfl)) ?_
    refine wv (fun W hm => rv_field Try.underlying26 rfl Try.type3 (by decide) rfl rfl) ?_
    refine wv (fun W hm => rv_load Try.underlying3 rfl rfl (hm.boxCell (n := 0) (o := 1) rfl rfl)) ?_
    refine wv (fun W hm => rv_neq rfl rfl) ?_
    refine nt' ?_
    by_cases h19 : x0.Now = x1.Now
    · have g20 : (x0.Now != x1.Now) = false := by rw [h19]; exact bne_self_eq_false _
      refine CM_condF rfl g20 ?_
      refine CM_skip ?_
      refine QM_then ?_
      refine sr ?_
      refine wa ?_
      refine nt' ?_
      refine CM_ret ?_
      exact QM_ret1 rfl rfl (fun W hm => ⟨ret_b (show laws_eqStore_m x0 x1 = true from by unfold laws_eqStore_m; exact cond_t g18 (cond_f g20 (rfl))), hm.below⟩)
    · have g20 : (x0.Now != x1.Now) = true := bne_iff_ne.2 h19
      refine CM_condT rfl g20 ?_
      refine sr ?_
      refine wa ?_
      refine nt' ?_
      refine CM_ret ?_
      refine QM_then_ret ?_
      exact QM_ret1 rfl rfl (fun W hm => ⟨ret_b (show laws_eqStore_m x0 x1 = false from by unfold laws_eqStore_m; exact cond_t g18 (cond_t g20 (rfl))), hm.below⟩)
  ·
    refine CM_condT rfl (nf g18) ?_
    refine sr ?_
    refine wa ?_
    refine nt' ?_
    refine CM_ret ?_
    refine QM_then_ret ?_
    exact QM_ret1 rfl rfl (fun W hm => ⟨ret_b (show laws_eqStore_m x0 x1 = false from by unfold laws_eqStore_m; exact cond_f g18 (rfl)), hm.below⟩)

def laws_eqCond_m (x0 : DCond) (x1 : DCond) : Bool :=
  cond (x0.Field != x1.Field) false (cond (x0.Low != x1.Low) false (cond (x0.High != x1.High) false true))
set_option maxRecDepth 100000 in
theorem cb218 : Cb Try.prog 218 := ⟨Try.f218, _, Try.func218, rfl, by decide⟩
set_option maxRecDepth 10000 in
set_option maxHeartbeats 4000000 in
theorem laws_eqCond_c (w : World) (z0 : List Value) (x0 : DCond) (z1 : List Value) (x1 : DCond) (r_0 : tyCond.rd w w.heap.size z0 x0) (r_1 : tyCond.rd w w.heap.size z1 x1) :
    Calls Try.prog 218 #[.agg z0.toArray, .agg z1.toArray] w fun e w' => e = .returned (.bool (laws_eqCond_m x0 x1)) ∧ Below w.heap.size w w' := by
  obtain rfl := tyCond_rd r_0
  obtain rfl := tyCond_rd r_1
  refine call_enterM (L := [(0, .agg #[.int .i64 x0.Field, .int .i64 x0.Low, .int .i64 x0.High]), (1, .agg #[.int .i64 x1.Field, .int .i64 x1.Low, .int .i64 x1.High])]) (N := 20) Try.func218 rfl rfl (Nat.le_of_ble_eq_true rfl) (argsL_cons rfl (argsL_cons rfl argsL_nil)) ?_
  refine sr ?_
  refine WM_box rfl (Wd_none rfl) (by decide) (fun p1 => ?_)
  refine WM_box rfl (Wd_none rfl) (by decide) (fun p2 => ?_)
  refine wa ?_
  refine nt' ?_
  refine CM_seq ?_
  refine sr ?_
  refine wv (fun W hm => rv_field Try.underlying183 rfl Try.type3 (by decide) rfl rfl) ?_
  refine wv (fun W hm => rv_load Try.underlying3 rfl rfl (hm.boxCell (n := 1) (o := 0) rfl rfl)) ?_
  refine wv (fun W hm => rv_field Try.underlying183 rfl Try.type3 (by decide) rfl rfl) ?_
  refine wv (fun W hm => rv_load Try.underlying3 rfl rfl (hm.boxCell (n := 0) (o := 0) rfl rfl)) ?_
  refine wv (fun W hm => rv_neq rfl rfl) ?_
  refine nt' ?_
  by_cases h3 : x0.Field = x1.Field
  · have g4 : (x0.Field != x1.Field) = false := by rw [h3]; exact bne_self_eq_false _
    refine CM_condF rfl g4 ?_
    refine CM_skip ?_
    refine QM_then ?_
    refine CM_seq ?_
    refine sr ?_
    refine wv (fun W hm => rv_field Try.underlying183 rfl Try.type3 (by decide) rfl rfl) ?_
    refine wv (fun W hm => rv_load Try.underlying3 rfl rfl (hm.boxCell (n := 1) (o := 1) rfl rfl)) ?_
    refine wv (fun W hm => rv_field Try.underlying183 rfl Try.type3 (by decide) rfl rfl) ?_
    refine wv (fun W hm => rv_load Try.underlying3 rfl rfl (hm.boxCell (n := 0) (o := 1) rfl rfl)) ?_
    refine wv (fun W hm => rv_neq rfl rfl) ?_
    refine nt' ?_
    by_cases h5 : x0.Low = x1.Low
    · have g6 : (x0.Low != x1.Low) = false := by rw [h5]; exact bne_self_eq_false _
      refine CM_condF rfl g6 ?_
      refine CM_skip ?_
      refine QM_then ?_
      refine CM_seq ?_
      refine sr ?_
      refine wv (fun W hm => rv_field Try.underlying183 rfl Try.type3 (by decide) rfl rfl) ?_
      refine wv (fun W hm => rv_load Try.underlying3 rfl rfl (hm.boxCell (n := 1) (o := 2) rfl rfl)) ?_
      refine wv (fun W hm => rv_field Try.underlying183 rfl Try.type3 (by decide) rfl rfl) ?_
      refine wv (fun W hm => rv_load Try.underlying3 rfl rfl (hm.boxCell (n := 0) (o := 2) rfl rfl)) ?_
      refine wv (fun W hm => rv_neq rfl rfl) ?_
      refine nt' ?_
      by_cases h7 : x0.High = x1.High
      · have g8 : (x0.High != x1.High) = false := by rw [h7]; exact bne_self_eq_false _
        refine CM_condF rfl g8 ?_
        refine CM_skip ?_
        refine QM_then ?_
        refine sr ?_
        refine wa ?_
        refine nt' ?_
        refine CM_ret ?_
        exact QM_ret1 rfl rfl (fun W hm => ⟨ret_b (show laws_eqCond_m x0 x1 = true from by unfold laws_eqCond_m; exact cond_f g4 (cond_f g6 (cond_f g8 (rfl)))), hm.below⟩)
      · have g8 : (x0.High != x1.High) = true := bne_iff_ne.2 h7
        refine CM_condT rfl g8 ?_
        refine sr ?_
        refine wa ?_
        refine nt' ?_
        refine CM_ret ?_
        refine QM_then_ret ?_
        exact QM_ret1 rfl rfl (fun W hm => ⟨ret_b (show laws_eqCond_m x0 x1 = false from by unfold laws_eqCond_m; exact cond_f g4 (cond_f g6 (cond_t g8 (rfl)))), hm.below⟩)
    · have g6 : (x0.Low != x1.Low) = true := bne_iff_ne.2 h5
      refine CM_condT rfl g6 ?_
      refine sr ?_
      refine wa ?_
      refine nt' ?_
      refine CM_ret ?_
      refine QM_then_ret ?_
      exact QM_ret1 rfl rfl (fun W hm => ⟨ret_b (show laws_eqCond_m x0 x1 = false from by unfold laws_eqCond_m; exact cond_f g4 (cond_t g6 (rfl))), hm.below⟩)
  · have g4 : (x0.Field != x1.Field) = true := bne_iff_ne.2 h3
    refine CM_condT rfl g4 ?_
    refine sr ?_
    refine wa ?_
    refine nt' ?_
    refine CM_ret ?_
    refine QM_then_ret ?_
    exact QM_ret1 rfl rfl (fun W hm => ⟨ret_b (show laws_eqCond_m x0 x1 = false from by unfold laws_eqCond_m; exact cond_t g4 (rfl)), hm.below⟩)

def laws_eqCondS_b1 (x0 : (List DCond)) (x1 : (List DCond)) (k13 : Nat) : Bool ⊕ (Unit) :=
  cond (laws_eqCond_m (gt x0 k13) (gt x1 k13)) (Sum.inr ()) (Sum.inl false)
def laws_eqCondS_m (x0 : (List DCond)) (x1 : (List DCond)) : Bool :=
  cond (((x0.length : Nat) : Int) != ((x1.length : Nat) : Int)) false (Sum.elim id (fun (s : Unit) => true) (rng (R := Bool) (fun k (_ : Unit) => laws_eqCondS_b1 x0 x1 k) (x0.length - 0) 0 ()))
set_option maxRecDepth 100000 in
theorem cb214 : Cb Try.prog 214 := ⟨Try.f214, _, Try.func214, rfl, by decide⟩
set_option maxRecDepth 10000 in
set_option maxHeartbeats 4000000 in
theorem laws_eqCondS_c (w : World) (z0 : Value) (x0 : (List DCond)) (z1 : Value) (x1 : (List DCond)) (r_0 : rdS tyCond w w.heap.size z0 x0) (r_1 : rdS tyCond w w.heap.size z1 x1) :
    Calls Try.prog 214 #[z0, z1] w fun e w' => e = .returned (.bool (laws_eqCondS_m x0 x1)) ∧ Below w.heap.size w w' := by
  have r5 := r_0
  obtain ⟨m1, A2, c3, rfl, q4⟩ := r_0
  have r10 := r_1
  obtain ⟨m6, A7, c8, rfl, q9⟩ := r_1
  refine call_enterM (L := [(0, .slice A2 x0.length c3), (1, .slice A7 x1.length c8)]) (N := 27) Try.func214 rfl rfl (Nat.le_of_ble_eq_true rfl) (argsL_cons rfl (argsL_cons rfl argsL_nil)) ?_
  refine sr ?_
  refine wa ?_
  refine nt' ?_
  refine CM_seq ?_
  refine sr ?_
  refine wm ?_
  refine wv (fun W hm => rv_len Try.underlying123 rfl) ?_
  refine wm ?_
  refine wv (fun W hm => rv_len Try.underlying123 rfl) ?_
  refine wv (fun W hm => rv_neq rfl rfl) ?_
  refine nt' ?_
  by_cases h11 : ((x0.length : Nat) : Int) = ((x1.length : Nat) : Int)
  · have g12 : (((x0.length : Nat) : Int) != ((x1.length : Nat) : Int)) = false := by rw [h11]; exact bne_self_eq_false _
    refine CM_condF rfl g12 ?_
    refine CM_skip ?_
    refine QM_then ?_
    refine CM_seq ?_
    refine sr ?_
    refine wa ?_
    refine nt' ?_
    refine CM_block ?_
    refine CM_loop (σ := Nat × (Unit) × (Unit)) (fun s => [(0, .slice A2 x0.length c3), (1, .slice A7 x1.length c8), (5, .int .i64 ((s.1 : Nat) : Int))]) (fun s => []) (fun s => s.1 ≤ x0.length ∧ rng (R := Bool) (fun k (_ : Unit) => laws_eqCondS_b1 x0 x1 k) (x0.length - s.1) s.1 s.2.1 = rng (R := Bool) (fun k (_ : Unit) => laws_eqCondS_b1 x0 x1 k) (x0.length - 0) 0 ()) (fun s => x0.length - s.1) (0, (), ()) (subL_cons rfl (subL_cons rfl (subL_cons rfl subL_nil))) (fun W hm => hm) ⟨(by omega), rfl⟩ ?_
    rintro ⟨k13, ⟨⟩, ⟨⟩⟩ H16
    obtain ⟨hk14, hF15⟩ : k13 ≤ x0.length ∧ rng (R := Bool) (fun k (_ : Unit) => laws_eqCondS_b1 x0 x1 k) (x0.length - k13) k13 () = rng (R := Bool) (fun k (_ : Unit) => laws_eqCondS_b1 x0 x1 k) (x0.length - 0) 0 () := H16
    show CM Try.prog 27 _ _ _ _ [(0, .slice A2 x0.length c3), (1, .slice A7 x1.length c8), (5, .int .i64 ((k13 : Nat) : Int))] []
    refine CM_seq ?_
    refine sr ?_
    refine wm ?_
    refine wm ?_
    refine wv (fun W hm => rv_len Try.underlying123 rfl) ?_
    refine wv (fun W hm => rv_lss rfl rfl) ?_
    refine nt' ?_
    by_cases hl17 : k13 < x0.length
    · have g18 : (decide (((k13 : Nat) : Int) < ((x0.length : Nat) : Int))) = true := decide_eq_true (by omega)
      refine CM_condT rfl g18 ?_
      refine CM_skip ?_
      refine QM_then ?_
      refine CM_seq ?_
      refine CM_block ?_
      refine CM_seq ?_
      refine CM_regionD (by kernel_rfl) (by kernel_rfl) ?_
      refine qm ?_
      refine qm ?_
      obtain ⟨a19, rfl, hb20, he21⟩ := q4 (by omega)
      refine qv (fun W hm => rv_index (sz := 3) (k := k13) Try.underlying123 Try.type183 rfl rfl rfl (by omega)) ?_
      obtain ⟨_, e23, hc22⟩ := he21 k13 _ (gt_some (show k13 < x0.length from by omega))
      obtain rfl := tyCond_rd e23
      refine qv (fun W hm => rv_loadN (cs := [.int .i64 ((gt x0 k13).Field), .int .i64 ((gt x0 k13).Low), .int .i64 ((gt x0 k13).High)]) Try.underlying183 Try.type183 rfl rfl (hm.elCells (show (a19.add (k13 * 3)).block < w.heap.size from by rw [add_block]; exact hb20.1) hc22)) ?_
      refine qm ?_
      refine qm ?_
      obtain ⟨a24, rfl, hb25, he26⟩ := q9 (by omega)
      refine qv (fun W hm => rv_index (sz := 3) (k := k13) Try.underlying123 Try.type183 rfl rfl rfl (by omega)) ?_
      obtain ⟨_, e28, hc27⟩ := he26 k13 _ (gt_some (show k13 < x1.length from by omega))
      obtain rfl := tyCond_rd e28
      refine qv (fun W hm => rv_loadN (cs := [.int .i64 ((gt x1 k13).Field), .int .i64 ((gt x1 k13).Low), .int .i64 ((gt x1 k13).High)]) Try.underlying183 Try.type183 rfl rfl (hm.elCells (show (a24.add (k13 * 3)).block < w.heap.size from by rw [add_block]; exact hb25.1) hc27)) ?_
      refine QR_callV (cl_fn cb218 rfl) (fun W hm => laws_eqCond_c W _ (gt x0 k13) _ (gt x1 k13) (tyCond_mk (x := (gt x0 k13))) (tyCond_mk (x := (gt x1 k13)))) (Wd_none rfl) (by decide) ?_
      refine qv (fun W hm => rv_not rfl) ?_
      refine nq' ?_
      rcases Bool.eq_false_or_eq_true (laws_eqCond_m (gt x0 k13) (gt x1 k13)) with g30 | g30
      ·
        refine CM_condF rfl (nt g30) ?_
        refine CM_skip ?_
        refine QM_block_normal ?_
        refine QM_then ?_
        refine CM_region ?_
        refine wm ?_
        refine wv (fun W hm => rv_addN (p := k13) (q := 1) rfl rfl (by omega)) ?_
        refine wa ?_
        refine WM_nil ?_
        have hn31 := rng_next (R := Bool) (body := (fun k (_ : Unit) => laws_eqCondS_b1 x0 x1 k)) (k := k13) (s := ()) (s' := ()) (show k13 < x0.length from by omega) (show laws_eqCondS_b1 x0 x1 k13 = Sum.inr () from by unfold laws_eqCondS_b1; exact cond_t g30 (rfl)) hF15
        exact QM_round (k13 + 1, (), ()) (subL_cons rfl (subL_cons rfl (subL_cons rfl subL_nil))) (fun W hm => hm) ⟨(by omega), hn31⟩ (show x0.length - (k13 + 1) < x0.length - k13 from by omega)
      ·
        refine CM_condT rfl (nf g30) ?_
        refine sr ?_
        refine wa ?_
        refine nt' ?_
        refine CM_ret ?_
        refine QM_block_ret ?_
        refine QM_then_ret ?_
        refine QM_then_ret ?_
        refine QM_block_ret ?_
        refine QM_then_ret ?_
        exact QM_ret1 rfl rfl (fun W hm => ⟨ret_b (show laws_eqCondS_m x0 x1 = false from by unfold laws_eqCondS_m; exact cond_f g12 (fin_inl (rng_ret (body := (fun k (_ : Unit) => laws_eqCondS_b1 x0 x1 k)) (k := k13) (s := ()) (show k13 < x0.length from by omega) (show laws_eqCondS_b1 x0 x1 k13 = Sum.inl false from by unfold laws_eqCondS_b1; exact cond_f g30 (rfl)) hF15) rfl)), hm.below⟩)
    · have g18 : (decide (((k13 : Nat) : Int) < ((x0.length : Nat) : Int))) = false := decide_eq_false (by omega)
      refine CM_condF rfl g18 ?_
      refine CM_exit ?_
      refine QM_then_exit ?_
      refine QM_then_exit ?_
      have hE32 : rng (R := Bool) (fun k (_ : Unit) => laws_eqCondS_b1 x0 x1 k) (x0.length - 0) 0 () = Sum.inr () := rng_end hl17 hF15
      refine QM_block_hit ?_
      refine QM_then ?_
      refine sr ?_
      refine wa ?_
      refine nt' ?_
      refine CM_ret ?_
      exact QM_ret1 rfl rfl (fun W hm => ⟨ret_b (show laws_eqCondS_m x0 x1 = true from by unfold laws_eqCondS_m; exact cond_f g12 (fin_inr hE32 (rfl))), hm.below⟩)
  · have g12 : (((x0.length : Nat) : Int) != ((x1.length : Nat) : Int)) = true := bne_iff_ne.2 h11
    refine CM_condT rfl g12 ?_
    refine sr ?_
    refine wa ?_
    refine nt' ?_
    refine CM_ret ?_
    refine QM_then_ret ?_
    exact QM_ret1 rfl rfl (fun W hm => ⟨ret_b (show laws_eqCondS_m x0 x1 = false from by unfold laws_eqCondS_m; exact cond_t g12 (rfl)), hm.below⟩)

def laws_eqQuery_m (x0 : DQuery) (x1 : DQuery) : Bool :=
  cond (x0.Id != x1.Id) false (cond (x0.Tenant != x1.Tenant) false (cond (laws_eqCondS_m x0.Conds x1.Conds) (cond (laws_eqIntS_m x0.Out x1.Out) true false) false))
set_option maxRecDepth 100000 in
theorem cb203 : Cb Try.prog 203 := ⟨Try.f203, _, Try.func203, rfl, by decide⟩
set_option maxRecDepth 10000 in
set_option maxHeartbeats 4000000 in
theorem laws_eqQuery_c (w : World) (z0 : List Value) (x0 : DQuery) (z1 : List Value) (x1 : DQuery) (r_0 : tyQuery.rd w w.heap.size z0 x0) (r_1 : tyQuery.rd w w.heap.size z1 x1) :
    Calls Try.prog 203 #[.agg z0.toArray, .agg z1.toArray] w fun e w' => e = .returned (.bool (laws_eqQuery_m x0 x1)) ∧ Below w.heap.size w w' := by
  obtain ⟨v1, v3, rfl, r2, r4⟩ := tyQuery_rd r_0
  have r9 := r2
  obtain ⟨m5, A6, c7, rfl, q8⟩ := r2
  have r14 := r4
  obtain ⟨m10, A11, c12, rfl, q13⟩ := r4
  obtain ⟨v15, v17, rfl, r16, r18⟩ := tyQuery_rd r_1
  have r23 := r16
  obtain ⟨m19, A20, c21, rfl, q22⟩ := r16
  have r28 := r18
  obtain ⟨m24, A25, c26, rfl, q27⟩ := r18
  refine call_enterM (L := [(0, .agg #[.int .i64 x0.Id, .int .i64 x0.Tenant, .slice A6 x0.Conds.length c7, .slice A11 x0.Out.length c12]), (1, .agg #[.int .i64 x1.Id, .int .i64 x1.Tenant, .slice A20 x1.Conds.length c21, .slice A25 x1.Out.length c26])]) (N := 27) Try.func203 rfl rfl (Nat.le_of_ble_eq_true rfl) (argsL_cons rfl (argsL_cons rfl argsL_nil)) ?_
  refine sr ?_
  refine WM_box rfl (Wd_none rfl) (by decide) (fun p29 => ?_)
  refine WM_box rfl (Wd_none rfl) (by decide) (fun p30 => ?_)
  refine wa ?_
  refine nt' ?_
  refine CM_seq ?_
  refine sr ?_
  refine wv (fun W hm => rv_field Try.underlying125 rfl Try.type3 (by decide) rfl rfl) ?_
  refine wv (fun W hm => rv_load Try.underlying3 rfl rfl (hm.boxCell (n := 1) (o := 0) rfl rfl)) ?_
  refine wv (fun W hm => rv_field Try.underlying125 rfl Try.type3 (by decide) rfl rfl) ?_
  refine wv (fun W hm => rv_load Try.underlying3 rfl rfl (hm.boxCell (n := 0) (o := 0) rfl rfl)) ?_
  refine wv (fun W hm => rv_neq rfl rfl) ?_
  refine nt' ?_
  by_cases h31 : x0.Id = x1.Id
  · have g32 : (x0.Id != x1.Id) = false := by rw [h31]; exact bne_self_eq_false _
    refine CM_condF rfl g32 ?_
    refine CM_skip ?_
    refine QM_then ?_
    refine CM_seq ?_
    refine sr ?_
    refine wv (fun W hm => rv_field Try.underlying125 rfl Try.type3 (by decide) rfl rfl) ?_
    refine wv (fun W hm => rv_load Try.underlying3 rfl rfl (hm.boxCell (n := 1) (o := 1) rfl rfl)) ?_
    refine wv (fun W hm => rv_field Try.underlying125 rfl Try.type3 (by decide) rfl rfl) ?_
    refine wv (fun W hm => rv_load Try.underlying3 rfl rfl (hm.boxCell (n := 0) (o := 1) rfl rfl)) ?_
    refine wv (fun W hm => rv_neq rfl rfl) ?_
    refine nt' ?_
    by_cases h33 : x0.Tenant = x1.Tenant
    · have g34 : (x0.Tenant != x1.Tenant) = false := by rw [h33]; exact bne_self_eq_false _
      refine CM_condF rfl g34 ?_
      refine CM_skip ?_
      refine QM_then ?_
      refine CM_seq ?_
      refine sr ?_
      refine wv (fun W hm => rv_field Try.underlying125 rfl Try.type123 (by decide) rfl rfl) ?_
      refine wv (fun W hm => rv_load Try.underlying123 rfl rfl (hm.boxCell (n := 1) (o := 2) rfl rfl)) ?_
      refine wv (fun W hm => rv_field Try.underlying125 rfl Try.type123 (by decide) rfl rfl) ?_
      refine wv (fun W hm => rv_load Try.underlying123 rfl rfl (hm.boxCell (n := 0) (o := 2) rfl rfl)) ?_
      refine WM_callV (cl_fn cb214 rfl) (fun W hm => laws_eqCondS_c W _ x0.Conds _ x1.Conds (hm.rdS0 r9) (hm.rdS0 r23)) (Wd_none rfl) (by decide) ?_
      refine wv (fun W hm => rv_not rfl) ?_
      refine nt' ?_
      rcases Bool.eq_false_or_eq_true (laws_eqCondS_m x0.Conds x1.Conds) with g36 | g36
      ·
        refine CM_condF rfl (nt g36) ?_
        refine CM_skip ?_
        refine QM_then ?_
        refine CM_seq ?_
        refine sr ?_
        refine wv (fun W hm => rv_field Try.underlying125 rfl Try.type27 (by decide) rfl rfl) ?_
        refine wv (fun W hm => rv_load Try.underlying27 rfl rfl (hm.boxCell (n := 1) (o := 3) rfl rfl)) ?_
        refine wv (fun W hm => rv_field Try.underlying125 rfl Try.type27 (by decide) rfl rfl) ?_
        refine wv (fun W hm => rv_load Try.underlying27 rfl rfl (hm.boxCell (n := 0) (o := 3) rfl rfl)) ?_
        refine WM_callV (cl_fn cb67 rfl) (fun W hm => laws_eqIntS_c W _ x0.Out _ x1.Out (hm.rdS0 r14) (hm.rdS0 r28)) (Wd_none rfl) (by decide) ?_
        refine wv (fun W hm => rv_not rfl) ?_
        refine nt' ?_
        rcases Bool.eq_false_or_eq_true (laws_eqIntS_m x0.Out x1.Out) with g38 | g38
        ·
          refine CM_condF rfl (nt g38) ?_
          refine CM_skip ?_
          refine QM_then ?_
          refine sr ?_
          refine wa ?_
          refine nt' ?_
          refine CM_ret ?_
          exact QM_ret1 rfl rfl (fun W hm => ⟨ret_b (show laws_eqQuery_m x0 x1 = true from by unfold laws_eqQuery_m; exact cond_f g32 (cond_f g34 (cond_t g36 (cond_t g38 (rfl))))), hm.below⟩)
        ·
          refine CM_condT rfl (nf g38) ?_
          refine sr ?_
          refine wa ?_
          refine nt' ?_
          refine CM_ret ?_
          refine QM_then_ret ?_
          exact QM_ret1 rfl rfl (fun W hm => ⟨ret_b (show laws_eqQuery_m x0 x1 = false from by unfold laws_eqQuery_m; exact cond_f g32 (cond_f g34 (cond_t g36 (cond_f g38 (rfl))))), hm.below⟩)
      ·
        refine CM_condT rfl (nf g36) ?_
        refine sr ?_
        refine wa ?_
        refine nt' ?_
        refine CM_ret ?_
        refine QM_then_ret ?_
        exact QM_ret1 rfl rfl (fun W hm => ⟨ret_b (show laws_eqQuery_m x0 x1 = false from by unfold laws_eqQuery_m; exact cond_f g32 (cond_f g34 (cond_f g36 (rfl)))), hm.below⟩)
    · have g34 : (x0.Tenant != x1.Tenant) = true := bne_iff_ne.2 h33
      refine CM_condT rfl g34 ?_
      refine sr ?_
      refine wa ?_
      refine nt' ?_
      refine CM_ret ?_
      refine QM_then_ret ?_
      exact QM_ret1 rfl rfl (fun W hm => ⟨ret_b (show laws_eqQuery_m x0 x1 = false from by unfold laws_eqQuery_m; exact cond_f g32 (cond_t g34 (rfl))), hm.below⟩)
  · have g32 : (x0.Id != x1.Id) = true := bne_iff_ne.2 h31
    refine CM_condT rfl g32 ?_
    refine sr ?_
    refine wa ?_
    refine nt' ?_
    refine CM_ret ?_
    refine QM_then_ret ?_
    exact QM_ret1 rfl rfl (fun W hm => ⟨ret_b (show laws_eqQuery_m x0 x1 = false from by unfold laws_eqQuery_m; exact cond_t g32 (rfl)), hm.below⟩)

def laws_eqRow_m (x0 : DRow) (x1 : DRow) : Bool :=
  cond (x0.Id != x1.Id) false (cond (laws_eqIntS_m x0.Values x1.Values) true false)
set_option maxRecDepth 100000 in
theorem cb215 : Cb Try.prog 215 := ⟨Try.f215, _, Try.func215, rfl, by decide⟩
set_option maxRecDepth 10000 in
set_option maxHeartbeats 4000000 in
theorem laws_eqRow_c (w : World) (z0 : List Value) (x0 : DRow) (z1 : List Value) (x1 : DRow) (r_0 : tyRow.rd w w.heap.size z0 x0) (r_1 : tyRow.rd w w.heap.size z1 x1) :
    Calls Try.prog 215 #[.agg z0.toArray, .agg z1.toArray] w fun e w' => e = .returned (.bool (laws_eqRow_m x0 x1)) ∧ Below w.heap.size w w' := by
  obtain ⟨v1, rfl, r2⟩ := tyRow_rd r_0
  have r7 := r2
  obtain ⟨m3, A4, c5, rfl, q6⟩ := r2
  obtain ⟨v8, rfl, r9⟩ := tyRow_rd r_1
  have r14 := r9
  obtain ⟨m10, A11, c12, rfl, q13⟩ := r9
  refine call_enterM (L := [(0, .agg #[.int .i64 x0.Id, .slice A4 x0.Values.length c5]), (1, .agg #[.int .i64 x1.Id, .slice A11 x1.Values.length c12])]) (N := 16) Try.func215 rfl rfl (Nat.le_of_ble_eq_true rfl) (argsL_cons rfl (argsL_cons rfl argsL_nil)) ?_
  refine sr ?_
  refine WM_box rfl (Wd_none rfl) (by decide) (fun p15 => ?_)
  refine WM_box rfl (Wd_none rfl) (by decide) (fun p16 => ?_)
  refine wa ?_
  refine nt' ?_
  refine CM_seq ?_
  refine sr ?_
  refine wv (fun W hm => rv_field Try.underlying29 rfl Try.type3 (by decide) rfl rfl) ?_
  refine wv (fun W hm => rv_load Try.underlying3 rfl rfl (hm.boxCell (n := 1) (o := 0) rfl rfl)) ?_
  refine wv (fun W hm => rv_field Try.underlying29 rfl Try.type3 (by decide) rfl rfl) ?_
  refine wv (fun W hm => rv_load Try.underlying3 rfl rfl (hm.boxCell (n := 0) (o := 0) rfl rfl)) ?_
  refine wv (fun W hm => rv_neq rfl rfl) ?_
  refine nt' ?_
  by_cases h17 : x0.Id = x1.Id
  · have g18 : (x0.Id != x1.Id) = false := by rw [h17]; exact bne_self_eq_false _
    refine CM_condF rfl g18 ?_
    refine CM_skip ?_
    refine QM_then ?_
    refine CM_seq ?_
    refine sr ?_
    refine wv (fun W hm => rv_field Try.underlying29 rfl Try.type27 (by decide) rfl rfl) ?_
    refine wv (fun W hm => rv_load Try.underlying27 rfl rfl (hm.boxCell (n := 1) (o := 1) rfl rfl)) ?_
    refine wv (fun W hm => rv_field Try.underlying29 rfl Try.type27 (by decide) rfl rfl) ?_
    refine wv (fun W hm => rv_load Try.underlying27 rfl rfl (hm.boxCell (n := 0) (o := 1) rfl rfl)) ?_
    refine WM_callV (cl_fn cb67 rfl) (fun W hm => laws_eqIntS_c W _ x0.Values _ x1.Values (hm.rdS0 r7) (hm.rdS0 r14)) (Wd_none rfl) (by decide) ?_
    refine wv (fun W hm => rv_not rfl) ?_
    refine nt' ?_
    rcases Bool.eq_false_or_eq_true (laws_eqIntS_m x0.Values x1.Values) with g20 | g20
    ·
      refine CM_condF rfl (nt g20) ?_
      refine CM_skip ?_
      refine QM_then ?_
      refine sr ?_
      refine wa ?_
      refine nt' ?_
      refine CM_ret ?_
      exact QM_ret1 rfl rfl (fun W hm => ⟨ret_b (show laws_eqRow_m x0 x1 = true from by unfold laws_eqRow_m; exact cond_f g18 (cond_t g20 (rfl))), hm.below⟩)
    ·
      refine CM_condT rfl (nf g20) ?_
      refine sr ?_
      refine wa ?_
      refine nt' ?_
      refine CM_ret ?_
      refine QM_then_ret ?_
      exact QM_ret1 rfl rfl (fun W hm => ⟨ret_b (show laws_eqRow_m x0 x1 = false from by unfold laws_eqRow_m; exact cond_f g18 (cond_f g20 (rfl))), hm.below⟩)
  · have g18 : (x0.Id != x1.Id) = true := bne_iff_ne.2 h17
    refine CM_condT rfl g18 ?_
    refine sr ?_
    refine wa ?_
    refine nt' ?_
    refine CM_ret ?_
    refine QM_then_ret ?_
    exact QM_ret1 rfl rfl (fun W hm => ⟨ret_b (show laws_eqRow_m x0 x1 = false from by unfold laws_eqRow_m; exact cond_t g18 (rfl)), hm.below⟩)

def laws_eqRowS_b1 (x0 : (List DRow)) (x1 : (List DRow)) (k13 : Nat) : Bool ⊕ (Unit) :=
  cond (laws_eqRow_m (gt x0 k13) (gt x1 k13)) (Sum.inr ()) (Sum.inl false)
def laws_eqRowS_m (x0 : (List DRow)) (x1 : (List DRow)) : Bool :=
  cond (((x0.length : Nat) : Int) != ((x1.length : Nat) : Int)) false (Sum.elim id (fun (s : Unit) => true) (rng (R := Bool) (fun k (_ : Unit) => laws_eqRowS_b1 x0 x1 k) (x0.length - 0) 0 ()))
set_option maxRecDepth 100000 in
theorem cb204 : Cb Try.prog 204 := ⟨Try.f204, _, Try.func204, rfl, by decide⟩
set_option maxRecDepth 10000 in
set_option maxHeartbeats 4000000 in
theorem laws_eqRowS_c (w : World) (z0 : Value) (x0 : (List DRow)) (z1 : Value) (x1 : (List DRow)) (r_0 : rdS tyRow w w.heap.size z0 x0) (r_1 : rdS tyRow w w.heap.size z1 x1) :
    Calls Try.prog 204 #[z0, z1] w fun e w' => e = .returned (.bool (laws_eqRowS_m x0 x1)) ∧ Below w.heap.size w w' := by
  have r5 := r_0
  obtain ⟨m1, A2, c3, rfl, q4⟩ := r_0
  have r10 := r_1
  obtain ⟨m6, A7, c8, rfl, q9⟩ := r_1
  refine call_enterM (L := [(0, .slice A2 x0.length c3), (1, .slice A7 x1.length c8)]) (N := 27) Try.func204 rfl rfl (Nat.le_of_ble_eq_true rfl) (argsL_cons rfl (argsL_cons rfl argsL_nil)) ?_
  refine sr ?_
  refine wa ?_
  refine nt' ?_
  refine CM_seq ?_
  refine sr ?_
  refine wm ?_
  refine wv (fun W hm => rv_len Try.underlying39 rfl) ?_
  refine wm ?_
  refine wv (fun W hm => rv_len Try.underlying39 rfl) ?_
  refine wv (fun W hm => rv_neq rfl rfl) ?_
  refine nt' ?_
  by_cases h11 : ((x0.length : Nat) : Int) = ((x1.length : Nat) : Int)
  · have g12 : (((x0.length : Nat) : Int) != ((x1.length : Nat) : Int)) = false := by rw [h11]; exact bne_self_eq_false _
    refine CM_condF rfl g12 ?_
    refine CM_skip ?_
    refine QM_then ?_
    refine CM_seq ?_
    refine sr ?_
    refine wa ?_
    refine nt' ?_
    refine CM_block ?_
    refine CM_loop (σ := Nat × (Unit) × (Unit)) (fun s => [(0, .slice A2 x0.length c3), (1, .slice A7 x1.length c8), (5, .int .i64 ((s.1 : Nat) : Int))]) (fun s => []) (fun s => s.1 ≤ x0.length ∧ rng (R := Bool) (fun k (_ : Unit) => laws_eqRowS_b1 x0 x1 k) (x0.length - s.1) s.1 s.2.1 = rng (R := Bool) (fun k (_ : Unit) => laws_eqRowS_b1 x0 x1 k) (x0.length - 0) 0 ()) (fun s => x0.length - s.1) (0, (), ()) (subL_cons rfl (subL_cons rfl (subL_cons rfl subL_nil))) (fun W hm => hm) ⟨(by omega), rfl⟩ ?_
    rintro ⟨k13, ⟨⟩, ⟨⟩⟩ H16
    obtain ⟨hk14, hF15⟩ : k13 ≤ x0.length ∧ rng (R := Bool) (fun k (_ : Unit) => laws_eqRowS_b1 x0 x1 k) (x0.length - k13) k13 () = rng (R := Bool) (fun k (_ : Unit) => laws_eqRowS_b1 x0 x1 k) (x0.length - 0) 0 () := H16
    show CM Try.prog 27 _ _ _ _ [(0, .slice A2 x0.length c3), (1, .slice A7 x1.length c8), (5, .int .i64 ((k13 : Nat) : Int))] []
    refine CM_seq ?_
    refine sr ?_
    refine wm ?_
    refine wm ?_
    refine wv (fun W hm => rv_len Try.underlying39 rfl) ?_
    refine wv (fun W hm => rv_lss rfl rfl) ?_
    refine nt' ?_
    by_cases hl17 : k13 < x0.length
    · have g18 : (decide (((k13 : Nat) : Int) < ((x0.length : Nat) : Int))) = true := decide_eq_true (by omega)
      refine CM_condT rfl g18 ?_
      refine CM_skip ?_
      refine QM_then ?_
      refine CM_seq ?_
      refine CM_block ?_
      refine CM_seq ?_
      refine CM_regionD (by kernel_rfl) (by kernel_rfl) ?_
      refine qm ?_
      refine qm ?_
      obtain ⟨a19, rfl, hb20, he21⟩ := q4 (by omega)
      refine qv (fun W hm => rv_index (sz := 2) (k := k13) Try.underlying39 Try.type29 rfl rfl rfl (by omega)) ?_
      obtain ⟨_, e25, hc22⟩ := he21 k13 _ (gt_some (show k13 < x0.length from by omega))
      obtain ⟨v23, rfl, r24⟩ := tyRow_rd e25
      have r30 := r24
      obtain ⟨m26, A27, c28, rfl, q29⟩ := r24
      refine qv (fun W hm => rv_loadN (cs := [.int .i64 ((gt x0 k13).Id), .slice A27 ((gt x0 k13).Values).length c28]) Try.underlying29 Try.type29 rfl rfl (hm.elCells (show (a19.add (k13 * 2)).block < w.heap.size from by rw [add_block]; exact hb20.1) hc22)) ?_
      refine qm ?_
      refine qm ?_
      obtain ⟨a31, rfl, hb32, he33⟩ := q9 (by omega)
      refine qv (fun W hm => rv_index (sz := 2) (k := k13) Try.underlying39 Try.type29 rfl rfl rfl (by omega)) ?_
      obtain ⟨_, e37, hc34⟩ := he33 k13 _ (gt_some (show k13 < x1.length from by omega))
      obtain ⟨v35, rfl, r36⟩ := tyRow_rd e37
      have r42 := r36
      obtain ⟨m38, A39, c40, rfl, q41⟩ := r36
      refine qv (fun W hm => rv_loadN (cs := [.int .i64 ((gt x1 k13).Id), .slice A39 ((gt x1 k13).Values).length c40]) Try.underlying29 Try.type29 rfl rfl (hm.elCells (show (a31.add (k13 * 2)).block < w.heap.size from by rw [add_block]; exact hb32.1) hc34)) ?_
      refine QR_callV (cl_fn cb215 rfl) (fun W hm => laws_eqRow_c W _ (gt x0 k13) _ (gt x1 k13) (tyRow_mk (x := (gt x0 k13)) (hm.rdS0 r30)) (tyRow_mk (x := (gt x1 k13)) (hm.rdS0 r42))) (Wd_none rfl) (by decide) ?_
      refine qv (fun W hm => rv_not rfl) ?_
      refine nq' ?_
      rcases Bool.eq_false_or_eq_true (laws_eqRow_m (gt x0 k13) (gt x1 k13)) with g44 | g44
      ·
        refine CM_condF rfl (nt g44) ?_
        refine CM_skip ?_
        refine QM_block_normal ?_
        refine QM_then ?_
        refine CM_region ?_
        refine wm ?_
        refine wv (fun W hm => rv_addN (p := k13) (q := 1) rfl rfl (by omega)) ?_
        refine wa ?_
        refine WM_nil ?_
        have hn45 := rng_next (R := Bool) (body := (fun k (_ : Unit) => laws_eqRowS_b1 x0 x1 k)) (k := k13) (s := ()) (s' := ()) (show k13 < x0.length from by omega) (show laws_eqRowS_b1 x0 x1 k13 = Sum.inr () from by unfold laws_eqRowS_b1; exact cond_t g44 (rfl)) hF15
        exact QM_round (k13 + 1, (), ()) (subL_cons rfl (subL_cons rfl (subL_cons rfl subL_nil))) (fun W hm => hm) ⟨(by omega), hn45⟩ (show x0.length - (k13 + 1) < x0.length - k13 from by omega)
      ·
        refine CM_condT rfl (nf g44) ?_
        refine sr ?_
        refine wa ?_
        refine nt' ?_
        refine CM_ret ?_
        refine QM_block_ret ?_
        refine QM_then_ret ?_
        refine QM_then_ret ?_
        refine QM_block_ret ?_
        refine QM_then_ret ?_
        exact QM_ret1 rfl rfl (fun W hm => ⟨ret_b (show laws_eqRowS_m x0 x1 = false from by unfold laws_eqRowS_m; exact cond_f g12 (fin_inl (rng_ret (body := (fun k (_ : Unit) => laws_eqRowS_b1 x0 x1 k)) (k := k13) (s := ()) (show k13 < x0.length from by omega) (show laws_eqRowS_b1 x0 x1 k13 = Sum.inl false from by unfold laws_eqRowS_b1; exact cond_f g44 (rfl)) hF15) rfl)), hm.below⟩)
    · have g18 : (decide (((k13 : Nat) : Int) < ((x0.length : Nat) : Int))) = false := decide_eq_false (by omega)
      refine CM_condF rfl g18 ?_
      refine CM_exit ?_
      refine QM_then_exit ?_
      refine QM_then_exit ?_
      have hE46 : rng (R := Bool) (fun k (_ : Unit) => laws_eqRowS_b1 x0 x1 k) (x0.length - 0) 0 () = Sum.inr () := rng_end hl17 hF15
      refine QM_block_hit ?_
      refine QM_then ?_
      refine sr ?_
      refine wa ?_
      refine nt' ?_
      refine CM_ret ?_
      exact QM_ret1 rfl rfl (fun W hm => ⟨ret_b (show laws_eqRowS_m x0 x1 = true from by unfold laws_eqRowS_m; exact cond_f g12 (fin_inr hE46 (rfl))), hm.below⟩)
  · have g12 : (((x0.length : Nat) : Int) != ((x1.length : Nat) : Int)) = true := bne_iff_ne.2 h11
    refine CM_condT rfl g12 ?_
    refine sr ?_
    refine wa ?_
    refine nt' ?_
    refine CM_ret ?_
    refine QM_then_ret ?_
    exact QM_ret1 rfl rfl (fun W hm => ⟨ret_b (show laws_eqRowS_m x0 x1 = false from by unfold laws_eqRowS_m; exact cond_t g12 (rfl)), hm.below⟩)

def laws_eqActive_m (x0 : DActive) (x1 : DActive) : Bool :=
  cond (laws_eqQuery_m x0.Query x1.Query) (cond (x0.Time != x1.Time) false (cond (laws_eqIntS_m x0.Todo x1.Todo) (cond (x0.Age != x1.Age) false (cond (x0.Sent != x1.Sent) false (cond (x0.Cap != x1.Cap) false (cond (laws_eqRowS_m x0.Rows x1.Rows) true false)))) false)) false
set_option maxRecDepth 100000 in
theorem cb171 : Cb Try.prog 171 := ⟨Try.f171, _, Try.func171, rfl, by decide⟩
set_option maxRecDepth 10000 in
set_option maxHeartbeats 4000000 in
theorem laws_eqActive_c (w : World) (z0 : List Value) (x0 : DActive) (z1 : List Value) (x1 : DActive) (r_0 : tyActive.rd w w.heap.size z0 x0) (r_1 : tyActive.rd w w.heap.size z1 x1) :
    Calls Try.prog 171 #[.agg z0.toArray, .agg z1.toArray] w fun e w' => e = .returned (.bool (laws_eqActive_m x0 x1)) ∧ Below w.heap.size w w' := by
  obtain ⟨v1, v3, v5, v7, rfl, r2, r4, r6, r8⟩ := tyActive_rd r_0
  have r13 := r2
  obtain ⟨m9, A10, c11, rfl, q12⟩ := r2
  have r18 := r4
  obtain ⟨m14, A15, c16, rfl, q17⟩ := r4
  have r23 := r6
  obtain ⟨m19, A20, c21, rfl, q22⟩ := r6
  have r28 := r8
  obtain ⟨m24, A25, c26, rfl, q27⟩ := r8
  obtain ⟨v29, v31, v33, v35, rfl, r30, r32, r34, r36⟩ := tyActive_rd r_1
  have r41 := r30
  obtain ⟨m37, A38, c39, rfl, q40⟩ := r30
  have r46 := r32
  obtain ⟨m42, A43, c44, rfl, q45⟩ := r32
  have r51 := r34
  obtain ⟨m47, A48, c49, rfl, q50⟩ := r34
  have r56 := r36
  obtain ⟨m52, A53, c54, rfl, q55⟩ := r36
  refine call_enterM (L := [(0, .agg #[.int .i64 x0.Query.Id, .int .i64 x0.Query.Tenant, .slice A10 x0.Query.Conds.length c11, .slice A15 x0.Query.Out.length c16, .int .i64 x0.Time, .slice A20 x0.Todo.length c21, .int .i64 x0.Age, .int .i64 x0.Sent, .int .i64 x0.Cap, .slice A25 x0.Rows.length c26]), (1, .agg #[.int .i64 x1.Query.Id, .int .i64 x1.Query.Tenant, .slice A38 x1.Query.Conds.length c39, .slice A43 x1.Query.Out.length c44, .int .i64 x1.Time, .slice A48 x1.Todo.length c49, .int .i64 x1.Age, .int .i64 x1.Sent, .int .i64 x1.Cap, .slice A53 x1.Rows.length c54])]) (N := 43) Try.func171 rfl rfl (Nat.le_of_ble_eq_true rfl) (argsL_cons rfl (argsL_cons rfl argsL_nil)) ?_
  refine sr ?_
  refine WM_box rfl (Wd_none rfl) (by decide) (fun p57 => ?_)
  refine WM_box rfl (Wd_none rfl) (by decide) (fun p58 => ?_)
  refine wa ?_
  refine nt' ?_
  refine CM_seq ?_
  refine sr ?_
  refine wv (fun W hm => rv_field Try.underlying127 rfl Try.type125 (by decide) rfl rfl) ?_
  refine wv (fun W hm => rv_loadN (cs := [.int .i64 x0.Query.Id, .int .i64 x0.Query.Tenant, .slice A10 x0.Query.Conds.length c11, .slice A15 x0.Query.Out.length c16]) Try.underlying125 Try.type125 rfl rfl (hm.boxPart (n := 1) rfl rfl)) ?_
  refine wv (fun W hm => rv_field Try.underlying127 rfl Try.type125 (by decide) rfl rfl) ?_
  refine wv (fun W hm => rv_loadN (cs := [.int .i64 x1.Query.Id, .int .i64 x1.Query.Tenant, .slice A38 x1.Query.Conds.length c39, .slice A43 x1.Query.Out.length c44]) Try.underlying125 Try.type125 rfl rfl (hm.boxPart (n := 0) rfl rfl)) ?_
  refine WM_callV (cl_fn cb203 rfl) (fun W hm => laws_eqQuery_c W _ x0.Query _ x1.Query (tyQuery_mk (x := x0.Query) (hm.rdS0 r13) (hm.rdS0 r18)) (tyQuery_mk (x := x1.Query) (hm.rdS0 r41) (hm.rdS0 r46))) (Wd_none rfl) (by decide) ?_
  refine wv (fun W hm => rv_not rfl) ?_
  refine nt' ?_
  rcases Bool.eq_false_or_eq_true (laws_eqQuery_m x0.Query x1.Query) with g60 | g60
  ·
    refine CM_condF rfl (nt g60) ?_
    refine CM_skip ?_
    refine QM_then ?_
    refine CM_seq ?_
    refine sr ?_
    refine wv (fun W hm => rv_field Try.underlying127 rfl Try.type3 (by decide) rfl rfl) ?_
    refine wv (fun W hm => rv_load Try.underlying3 rfl rfl (hm.boxCell (n := 1) (o := 4) rfl rfl)) ?_
    refine wv (fun W hm => rv_field Try.underlying127 rfl Try.type3 (by decide) rfl rfl) ?_
    refine wv (fun W hm => rv_load Try.underlying3 rfl rfl (hm.boxCell (n := 0) (o := 4) rfl rfl)) ?_
    refine wv (fun W hm => rv_neq rfl rfl) ?_
    refine nt' ?_
    by_cases h61 : x0.Time = x1.Time
    · have g62 : (x0.Time != x1.Time) = false := by rw [h61]; exact bne_self_eq_false _
      refine CM_condF rfl g62 ?_
      refine CM_skip ?_
      refine QM_then ?_
      refine CM_seq ?_
      refine sr ?_
      refine wv (fun W hm => rv_field Try.underlying127 rfl Try.type27 (by decide) rfl rfl) ?_
      refine wv (fun W hm => rv_load Try.underlying27 rfl rfl (hm.boxCell (n := 1) (o := 5) rfl rfl)) ?_
      refine wv (fun W hm => rv_field Try.underlying127 rfl Try.type27 (by decide) rfl rfl) ?_
      refine wv (fun W hm => rv_load Try.underlying27 rfl rfl (hm.boxCell (n := 0) (o := 5) rfl rfl)) ?_
      refine WM_callV (cl_fn cb67 rfl) (fun W hm => laws_eqIntS_c W _ x0.Todo _ x1.Todo (hm.rdS0 r23) (hm.rdS0 r51)) (Wd_none rfl) (by decide) ?_
      refine wv (fun W hm => rv_not rfl) ?_
      refine nt' ?_
      rcases Bool.eq_false_or_eq_true (laws_eqIntS_m x0.Todo x1.Todo) with g64 | g64
      ·
        refine CM_condF rfl (nt g64) ?_
        refine CM_skip ?_
        refine QM_then ?_
        refine CM_seq ?_
        refine sr ?_
        refine wv (fun W hm => rv_field Try.underlying127 rfl Try.type3 (by decide) rfl rfl) ?_
        refine wv (fun W hm => rv_load Try.underlying3 rfl rfl (hm.boxCell (n := 1) (o := 6) rfl rfl)) ?_
        refine wv (fun W hm => rv_field Try.underlying127 rfl Try.type3 (by decide) rfl rfl) ?_
        refine wv (fun W hm => rv_load Try.underlying3 rfl rfl (hm.boxCell (n := 0) (o := 6) rfl rfl)) ?_
        refine wv (fun W hm => rv_neq rfl rfl) ?_
        refine nt' ?_
        by_cases h65 : x0.Age = x1.Age
        · have g66 : (x0.Age != x1.Age) = false := by rw [h65]; exact bne_self_eq_false _
          refine CM_condF rfl g66 ?_
          refine CM_skip ?_
          refine QM_then ?_
          refine CM_seq ?_
          refine sr ?_
          refine wv (fun W hm => rv_field Try.underlying127 rfl Try.type3 (by decide) rfl rfl) ?_
          refine wv (fun W hm => rv_load Try.underlying3 rfl rfl (hm.boxCell (n := 1) (o := 7) rfl rfl)) ?_
          refine wv (fun W hm => rv_field Try.underlying127 rfl Try.type3 (by decide) rfl rfl) ?_
          refine wv (fun W hm => rv_load Try.underlying3 rfl rfl (hm.boxCell (n := 0) (o := 7) rfl rfl)) ?_
          refine wv (fun W hm => rv_neq rfl rfl) ?_
          refine nt' ?_
          by_cases h67 : x0.Sent = x1.Sent
          · have g68 : (x0.Sent != x1.Sent) = false := by rw [h67]; exact bne_self_eq_false _
            refine CM_condF rfl g68 ?_
            refine CM_skip ?_
            refine QM_then ?_
            refine CM_seq ?_
            refine sr ?_
            refine wv (fun W hm => rv_field Try.underlying127 rfl Try.type3 (by decide) rfl rfl) ?_
            refine wv (fun W hm => rv_load Try.underlying3 rfl rfl (hm.boxCell (n := 1) (o := 8) rfl rfl)) ?_
            refine wv (fun W hm => rv_field Try.underlying127 rfl Try.type3 (by decide) rfl rfl) ?_
            refine wv (fun W hm => rv_load Try.underlying3 rfl rfl (hm.boxCell (n := 0) (o := 8) rfl rfl)) ?_
            refine wv (fun W hm => rv_neq rfl rfl) ?_
            refine nt' ?_
            by_cases h69 : x0.Cap = x1.Cap
            · have g70 : (x0.Cap != x1.Cap) = false := by rw [h69]; exact bne_self_eq_false _
              refine CM_condF rfl g70 ?_
              refine CM_skip ?_
              refine QM_then ?_
              refine CM_seq ?_
              refine sr ?_
              refine wv (fun W hm => rv_field Try.underlying127 rfl Try.type39 (by decide) rfl rfl) ?_
              refine wv (fun W hm => rv_load Try.underlying39 rfl rfl (hm.boxCell (n := 1) (o := 9) rfl rfl)) ?_
              refine wv (fun W hm => rv_field Try.underlying127 rfl Try.type39 (by decide) rfl rfl) ?_
              refine wv (fun W hm => rv_load Try.underlying39 rfl rfl (hm.boxCell (n := 0) (o := 9) rfl rfl)) ?_
              refine WM_callV (cl_fn cb204 rfl) (fun W hm => laws_eqRowS_c W _ x0.Rows _ x1.Rows (hm.rdS0 r28) (hm.rdS0 r56)) (Wd_none rfl) (by decide) ?_
              refine wv (fun W hm => rv_not rfl) ?_
              refine nt' ?_
              rcases Bool.eq_false_or_eq_true (laws_eqRowS_m x0.Rows x1.Rows) with g72 | g72
              ·
                refine CM_condF rfl (nt g72) ?_
                refine CM_skip ?_
                refine QM_then ?_
                refine sr ?_
                refine wa ?_
                refine nt' ?_
                refine CM_ret ?_
                exact QM_ret1 rfl rfl (fun W hm => ⟨ret_b (show laws_eqActive_m x0 x1 = true from by unfold laws_eqActive_m; exact cond_t g60 (cond_f g62 (cond_t g64 (cond_f g66 (cond_f g68 (cond_f g70 (cond_t g72 (rfl)))))))), hm.below⟩)
              ·
                refine CM_condT rfl (nf g72) ?_
                refine sr ?_
                refine wa ?_
                refine nt' ?_
                refine CM_ret ?_
                refine QM_then_ret ?_
                exact QM_ret1 rfl rfl (fun W hm => ⟨ret_b (show laws_eqActive_m x0 x1 = false from by unfold laws_eqActive_m; exact cond_t g60 (cond_f g62 (cond_t g64 (cond_f g66 (cond_f g68 (cond_f g70 (cond_f g72 (rfl)))))))), hm.below⟩)
            · have g70 : (x0.Cap != x1.Cap) = true := bne_iff_ne.2 h69
              refine CM_condT rfl g70 ?_
              refine sr ?_
              refine wa ?_
              refine nt' ?_
              refine CM_ret ?_
              refine QM_then_ret ?_
              exact QM_ret1 rfl rfl (fun W hm => ⟨ret_b (show laws_eqActive_m x0 x1 = false from by unfold laws_eqActive_m; exact cond_t g60 (cond_f g62 (cond_t g64 (cond_f g66 (cond_f g68 (cond_t g70 (rfl))))))), hm.below⟩)
          · have g68 : (x0.Sent != x1.Sent) = true := bne_iff_ne.2 h67
            refine CM_condT rfl g68 ?_
            refine sr ?_
            refine wa ?_
            refine nt' ?_
            refine CM_ret ?_
            refine QM_then_ret ?_
            exact QM_ret1 rfl rfl (fun W hm => ⟨ret_b (show laws_eqActive_m x0 x1 = false from by unfold laws_eqActive_m; exact cond_t g60 (cond_f g62 (cond_t g64 (cond_f g66 (cond_t g68 (rfl)))))), hm.below⟩)
        · have g66 : (x0.Age != x1.Age) = true := bne_iff_ne.2 h65
          refine CM_condT rfl g66 ?_
          refine sr ?_
          refine wa ?_
          refine nt' ?_
          refine CM_ret ?_
          refine QM_then_ret ?_
          exact QM_ret1 rfl rfl (fun W hm => ⟨ret_b (show laws_eqActive_m x0 x1 = false from by unfold laws_eqActive_m; exact cond_t g60 (cond_f g62 (cond_t g64 (cond_t g66 (rfl))))), hm.below⟩)
      ·
        refine CM_condT rfl (nf g64) ?_
        refine sr ?_
        refine wa ?_
        refine nt' ?_
        refine CM_ret ?_
        refine QM_then_ret ?_
        exact QM_ret1 rfl rfl (fun W hm => ⟨ret_b (show laws_eqActive_m x0 x1 = false from by unfold laws_eqActive_m; exact cond_t g60 (cond_f g62 (cond_f g64 (rfl)))), hm.below⟩)
    · have g62 : (x0.Time != x1.Time) = true := bne_iff_ne.2 h61
      refine CM_condT rfl g62 ?_
      refine sr ?_
      refine wa ?_
      refine nt' ?_
      refine CM_ret ?_
      refine QM_then_ret ?_
      exact QM_ret1 rfl rfl (fun W hm => ⟨ret_b (show laws_eqActive_m x0 x1 = false from by unfold laws_eqActive_m; exact cond_t g60 (cond_t g62 (rfl))), hm.below⟩)
  ·
    refine CM_condT rfl (nf g60) ?_
    refine sr ?_
    refine wa ?_
    refine nt' ?_
    refine CM_ret ?_
    refine QM_then_ret ?_
    exact QM_ret1 rfl rfl (fun W hm => ⟨ret_b (show laws_eqActive_m x0 x1 = false from by unfold laws_eqActive_m; exact cond_f g60 (rfl)), hm.below⟩)

def laws_eqActiveS_b1 (x0 : (List DActive)) (x1 : (List DActive)) (k13 : Nat) : Bool ⊕ (Unit) :=
  cond (laws_eqActive_m (gt x0 k13) (gt x1 k13)) (Sum.inr ()) (Sum.inl false)
def laws_eqActiveS_m (x0 : (List DActive)) (x1 : (List DActive)) : Bool :=
  cond (((x0.length : Nat) : Int) != ((x1.length : Nat) : Int)) false (Sum.elim id (fun (s : Unit) => true) (rng (R := Bool) (fun k (_ : Unit) => laws_eqActiveS_b1 x0 x1 k) (x0.length - 0) 0 ()))
set_option maxRecDepth 100000 in
theorem cb113 : Cb Try.prog 113 := ⟨Try.f113, _, Try.func113, rfl, by decide⟩
set_option maxRecDepth 10000 in
set_option maxHeartbeats 4000000 in
theorem laws_eqActiveS_c (w : World) (z0 : Value) (x0 : (List DActive)) (z1 : Value) (x1 : (List DActive)) (r_0 : rdS tyActive w w.heap.size z0 x0) (r_1 : rdS tyActive w w.heap.size z1 x1) :
    Calls Try.prog 113 #[z0, z1] w fun e w' => e = .returned (.bool (laws_eqActiveS_m x0 x1)) ∧ Below w.heap.size w w' := by
  have r5 := r_0
  obtain ⟨m1, A2, c3, rfl, q4⟩ := r_0
  have r10 := r_1
  obtain ⟨m6, A7, c8, rfl, q9⟩ := r_1
  refine call_enterM (L := [(0, .slice A2 x0.length c3), (1, .slice A7 x1.length c8)]) (N := 27) Try.func113 rfl rfl (Nat.le_of_ble_eq_true rfl) (argsL_cons rfl (argsL_cons rfl argsL_nil)) ?_
  refine sr ?_
  refine wa ?_
  refine nt' ?_
  refine CM_seq ?_
  refine sr ?_
  refine wm ?_
  refine wv (fun W hm => rv_len Try.underlying73 rfl) ?_
  refine wm ?_
  refine wv (fun W hm => rv_len Try.underlying73 rfl) ?_
  refine wv (fun W hm => rv_neq rfl rfl) ?_
  refine nt' ?_
  by_cases h11 : ((x0.length : Nat) : Int) = ((x1.length : Nat) : Int)
  · have g12 : (((x0.length : Nat) : Int) != ((x1.length : Nat) : Int)) = false := by rw [h11]; exact bne_self_eq_false _
    refine CM_condF rfl g12 ?_
    refine CM_skip ?_
    refine QM_then ?_
    refine CM_seq ?_
    refine sr ?_
    refine wa ?_
    refine nt' ?_
    refine CM_block ?_
    refine CM_loop (σ := Nat × (Unit) × (Unit)) (fun s => [(0, .slice A2 x0.length c3), (1, .slice A7 x1.length c8), (5, .int .i64 ((s.1 : Nat) : Int))]) (fun s => []) (fun s => s.1 ≤ x0.length ∧ rng (R := Bool) (fun k (_ : Unit) => laws_eqActiveS_b1 x0 x1 k) (x0.length - s.1) s.1 s.2.1 = rng (R := Bool) (fun k (_ : Unit) => laws_eqActiveS_b1 x0 x1 k) (x0.length - 0) 0 ()) (fun s => x0.length - s.1) (0, (), ()) (subL_cons rfl (subL_cons rfl (subL_cons rfl subL_nil))) (fun W hm => hm) ⟨(by omega), rfl⟩ ?_
    rintro ⟨k13, ⟨⟩, ⟨⟩⟩ H16
    obtain ⟨hk14, hF15⟩ : k13 ≤ x0.length ∧ rng (R := Bool) (fun k (_ : Unit) => laws_eqActiveS_b1 x0 x1 k) (x0.length - k13) k13 () = rng (R := Bool) (fun k (_ : Unit) => laws_eqActiveS_b1 x0 x1 k) (x0.length - 0) 0 () := H16
    show CM Try.prog 27 _ _ _ _ [(0, .slice A2 x0.length c3), (1, .slice A7 x1.length c8), (5, .int .i64 ((k13 : Nat) : Int))] []
    refine CM_seq ?_
    refine sr ?_
    refine wm ?_
    refine wm ?_
    refine wv (fun W hm => rv_len Try.underlying73 rfl) ?_
    refine wv (fun W hm => rv_lss rfl rfl) ?_
    refine nt' ?_
    by_cases hl17 : k13 < x0.length
    · have g18 : (decide (((k13 : Nat) : Int) < ((x0.length : Nat) : Int))) = true := decide_eq_true (by omega)
      refine CM_condT rfl g18 ?_
      refine CM_skip ?_
      refine QM_then ?_
      refine CM_seq ?_
      refine CM_block ?_
      refine CM_seq ?_
      refine CM_regionD (by kernel_rfl) (by kernel_rfl) ?_
      refine qm ?_
      refine qm ?_
      obtain ⟨a19, rfl, hb20, he21⟩ := q4 (by omega)
      refine qv (fun W hm => rv_index (sz := 10) (k := k13) Try.underlying73 Try.type127 rfl rfl rfl (by omega)) ?_
      obtain ⟨_, e31, hc22⟩ := he21 k13 _ (gt_some (show k13 < x0.length from by omega))
      obtain ⟨v23, v25, v27, v29, rfl, r24, r26, r28, r30⟩ := tyActive_rd e31
      have r36 := r24
      obtain ⟨m32, A33, c34, rfl, q35⟩ := r24
      have r41 := r26
      obtain ⟨m37, A38, c39, rfl, q40⟩ := r26
      have r46 := r28
      obtain ⟨m42, A43, c44, rfl, q45⟩ := r28
      have r51 := r30
      obtain ⟨m47, A48, c49, rfl, q50⟩ := r30
      refine qv (fun W hm => rv_loadN (cs := [.int .i64 ((gt x0 k13).Query.Id), .int .i64 ((gt x0 k13).Query.Tenant), .slice A33 ((gt x0 k13).Query.Conds).length c34, .slice A38 ((gt x0 k13).Query.Out).length c39, .int .i64 ((gt x0 k13).Time), .slice A43 ((gt x0 k13).Todo).length c44, .int .i64 ((gt x0 k13).Age), .int .i64 ((gt x0 k13).Sent), .int .i64 ((gt x0 k13).Cap), .slice A48 ((gt x0 k13).Rows).length c49]) Try.underlying127 Try.type127 rfl rfl (hm.elCells (show (a19.add (k13 * 10)).block < w.heap.size from by rw [add_block]; exact hb20.1) hc22)) ?_
      refine qm ?_
      refine qm ?_
      obtain ⟨a52, rfl, hb53, he54⟩ := q9 (by omega)
      refine qv (fun W hm => rv_index (sz := 10) (k := k13) Try.underlying73 Try.type127 rfl rfl rfl (by omega)) ?_
      obtain ⟨_, e64, hc55⟩ := he54 k13 _ (gt_some (show k13 < x1.length from by omega))
      obtain ⟨v56, v58, v60, v62, rfl, r57, r59, r61, r63⟩ := tyActive_rd e64
      have r69 := r57
      obtain ⟨m65, A66, c67, rfl, q68⟩ := r57
      have r74 := r59
      obtain ⟨m70, A71, c72, rfl, q73⟩ := r59
      have r79 := r61
      obtain ⟨m75, A76, c77, rfl, q78⟩ := r61
      have r84 := r63
      obtain ⟨m80, A81, c82, rfl, q83⟩ := r63
      refine qv (fun W hm => rv_loadN (cs := [.int .i64 ((gt x1 k13).Query.Id), .int .i64 ((gt x1 k13).Query.Tenant), .slice A66 ((gt x1 k13).Query.Conds).length c67, .slice A71 ((gt x1 k13).Query.Out).length c72, .int .i64 ((gt x1 k13).Time), .slice A76 ((gt x1 k13).Todo).length c77, .int .i64 ((gt x1 k13).Age), .int .i64 ((gt x1 k13).Sent), .int .i64 ((gt x1 k13).Cap), .slice A81 ((gt x1 k13).Rows).length c82]) Try.underlying127 Try.type127 rfl rfl (hm.elCells (show (a52.add (k13 * 10)).block < w.heap.size from by rw [add_block]; exact hb53.1) hc55)) ?_
      refine QR_callV (cl_fn cb171 rfl) (fun W hm => laws_eqActive_c W _ (gt x0 k13) _ (gt x1 k13) (tyActive_mk (x := (gt x0 k13)) (hm.rdS0 r36) (hm.rdS0 r41) (hm.rdS0 r46) (hm.rdS0 r51)) (tyActive_mk (x := (gt x1 k13)) (hm.rdS0 r69) (hm.rdS0 r74) (hm.rdS0 r79) (hm.rdS0 r84))) (Wd_none rfl) (by decide) ?_
      refine qv (fun W hm => rv_not rfl) ?_
      refine nq' ?_
      rcases Bool.eq_false_or_eq_true (laws_eqActive_m (gt x0 k13) (gt x1 k13)) with g86 | g86
      ·
        refine CM_condF rfl (nt g86) ?_
        refine CM_skip ?_
        refine QM_block_normal ?_
        refine QM_then ?_
        refine CM_region ?_
        refine wm ?_
        refine wv (fun W hm => rv_addN (p := k13) (q := 1) rfl rfl (by omega)) ?_
        refine wa ?_
        refine WM_nil ?_
        have hn87 := rng_next (R := Bool) (body := (fun k (_ : Unit) => laws_eqActiveS_b1 x0 x1 k)) (k := k13) (s := ()) (s' := ()) (show k13 < x0.length from by omega) (show laws_eqActiveS_b1 x0 x1 k13 = Sum.inr () from by unfold laws_eqActiveS_b1; exact cond_t g86 (rfl)) hF15
        exact QM_round (k13 + 1, (), ()) (subL_cons rfl (subL_cons rfl (subL_cons rfl subL_nil))) (fun W hm => hm) ⟨(by omega), hn87⟩ (show x0.length - (k13 + 1) < x0.length - k13 from by omega)
      ·
        refine CM_condT rfl (nf g86) ?_
        refine sr ?_
        refine wa ?_
        refine nt' ?_
        refine CM_ret ?_
        refine QM_block_ret ?_
        refine QM_then_ret ?_
        refine QM_then_ret ?_
        refine QM_block_ret ?_
        refine QM_then_ret ?_
        exact QM_ret1 rfl rfl (fun W hm => ⟨ret_b (show laws_eqActiveS_m x0 x1 = false from by unfold laws_eqActiveS_m; exact cond_f g12 (fin_inl (rng_ret (body := (fun k (_ : Unit) => laws_eqActiveS_b1 x0 x1 k)) (k := k13) (s := ()) (show k13 < x0.length from by omega) (show laws_eqActiveS_b1 x0 x1 k13 = Sum.inl false from by unfold laws_eqActiveS_b1; exact cond_f g86 (rfl)) hF15) rfl)), hm.below⟩)
    · have g18 : (decide (((k13 : Nat) : Int) < ((x0.length : Nat) : Int))) = false := decide_eq_false (by omega)
      refine CM_condF rfl g18 ?_
      refine CM_exit ?_
      refine QM_then_exit ?_
      refine QM_then_exit ?_
      have hE88 : rng (R := Bool) (fun k (_ : Unit) => laws_eqActiveS_b1 x0 x1 k) (x0.length - 0) 0 () = Sum.inr () := rng_end hl17 hF15
      refine QM_block_hit ?_
      refine QM_then ?_
      refine sr ?_
      refine wa ?_
      refine nt' ?_
      refine CM_ret ?_
      exact QM_ret1 rfl rfl (fun W hm => ⟨ret_b (show laws_eqActiveS_m x0 x1 = true from by unfold laws_eqActiveS_m; exact cond_f g12 (fin_inr hE88 (rfl))), hm.below⟩)
  · have g12 : (((x0.length : Nat) : Int) != ((x1.length : Nat) : Int)) = true := bne_iff_ne.2 h11
    refine CM_condT rfl g12 ?_
    refine sr ?_
    refine wa ?_
    refine nt' ?_
    refine CM_ret ?_
    refine QM_then_ret ?_
    exact QM_ret1 rfl rfl (fun W hm => ⟨ret_b (show laws_eqActiveS_m x0 x1 = false from by unfold laws_eqActiveS_m; exact cond_t g12 (rfl)), hm.below⟩)

def laws_eqFinished_m (x0 : DFinished) (x1 : DFinished) : Bool :=
  cond (laws_eqQuery_m x0.Query x1.Query) (cond (x0.Time != x1.Time) false (cond (x0.Steps != x1.Steps) false (cond (laws_eqRowS_m x0.Rows x1.Rows) true false))) false
set_option maxRecDepth 100000 in
theorem cb172 : Cb Try.prog 172 := ⟨Try.f172, _, Try.func172, rfl, by decide⟩
set_option maxRecDepth 10000 in
set_option maxHeartbeats 4000000 in
theorem laws_eqFinished_c (w : World) (z0 : List Value) (x0 : DFinished) (z1 : List Value) (x1 : DFinished) (r_0 : tyFinished.rd w w.heap.size z0 x0) (r_1 : tyFinished.rd w w.heap.size z1 x1) :
    Calls Try.prog 172 #[.agg z0.toArray, .agg z1.toArray] w fun e w' => e = .returned (.bool (laws_eqFinished_m x0 x1)) ∧ Below w.heap.size w w' := by
  obtain ⟨v1, v3, v5, rfl, r2, r4, r6⟩ := tyFinished_rd r_0
  have r11 := r2
  obtain ⟨m7, A8, c9, rfl, q10⟩ := r2
  have r16 := r4
  obtain ⟨m12, A13, c14, rfl, q15⟩ := r4
  have r21 := r6
  obtain ⟨m17, A18, c19, rfl, q20⟩ := r6
  obtain ⟨v22, v24, v26, rfl, r23, r25, r27⟩ := tyFinished_rd r_1
  have r32 := r23
  obtain ⟨m28, A29, c30, rfl, q31⟩ := r23
  have r37 := r25
  obtain ⟨m33, A34, c35, rfl, q36⟩ := r25
  have r42 := r27
  obtain ⟨m38, A39, c40, rfl, q41⟩ := r27
  refine call_enterM (L := [(0, .agg #[.int .i64 x0.Query.Id, .int .i64 x0.Query.Tenant, .slice A8 x0.Query.Conds.length c9, .slice A13 x0.Query.Out.length c14, .int .i64 x0.Time, .int .i64 x0.Steps, .slice A18 x0.Rows.length c19]), (1, .agg #[.int .i64 x1.Query.Id, .int .i64 x1.Query.Tenant, .slice A29 x1.Query.Conds.length c30, .slice A34 x1.Query.Out.length c35, .int .i64 x1.Time, .int .i64 x1.Steps, .slice A39 x1.Rows.length c40])]) (N := 27) Try.func172 rfl rfl (Nat.le_of_ble_eq_true rfl) (argsL_cons rfl (argsL_cons rfl argsL_nil)) ?_
  refine sr ?_
  refine WM_box rfl (Wd_none rfl) (by decide) (fun p43 => ?_)
  refine WM_box rfl (Wd_none rfl) (by decide) (fun p44 => ?_)
  refine wa ?_
  refine nt' ?_
  refine CM_seq ?_
  refine sr ?_
  refine wv (fun W hm => rv_field Try.underlying136 rfl Try.type125 (by decide) rfl rfl) ?_
  refine wv (fun W hm => rv_loadN (cs := [.int .i64 x0.Query.Id, .int .i64 x0.Query.Tenant, .slice A8 x0.Query.Conds.length c9, .slice A13 x0.Query.Out.length c14]) Try.underlying125 Try.type125 rfl rfl (hm.boxPart (n := 1) rfl rfl)) ?_
  refine wv (fun W hm => rv_field Try.underlying136 rfl Try.type125 (by decide) rfl rfl) ?_
  refine wv (fun W hm => rv_loadN (cs := [.int .i64 x1.Query.Id, .int .i64 x1.Query.Tenant, .slice A29 x1.Query.Conds.length c30, .slice A34 x1.Query.Out.length c35]) Try.underlying125 Try.type125 rfl rfl (hm.boxPart (n := 0) rfl rfl)) ?_
  refine WM_callV (cl_fn cb203 rfl) (fun W hm => laws_eqQuery_c W _ x0.Query _ x1.Query (tyQuery_mk (x := x0.Query) (hm.rdS0 r11) (hm.rdS0 r16)) (tyQuery_mk (x := x1.Query) (hm.rdS0 r32) (hm.rdS0 r37))) (Wd_none rfl) (by decide) ?_
  refine wv (fun W hm => rv_not rfl) ?_
  refine nt' ?_
  rcases Bool.eq_false_or_eq_true (laws_eqQuery_m x0.Query x1.Query) with g46 | g46
  ·
    refine CM_condF rfl (nt g46) ?_
    refine CM_skip ?_
    refine QM_then ?_
    refine CM_seq ?_
    refine sr ?_
    refine wv (fun W hm => rv_field Try.underlying136 rfl Try.type3 (by decide) rfl rfl) ?_
    refine wv (fun W hm => rv_load Try.underlying3 rfl rfl (hm.boxCell (n := 1) (o := 4) rfl rfl)) ?_
    refine wv (fun W hm => rv_field Try.underlying136 rfl Try.type3 (by decide) rfl rfl) ?_
    refine wv (fun W hm => rv_load Try.underlying3 rfl rfl (hm.boxCell (n := 0) (o := 4) rfl rfl)) ?_
    refine wv (fun W hm => rv_neq rfl rfl) ?_
    refine nt' ?_
    by_cases h47 : x0.Time = x1.Time
    · have g48 : (x0.Time != x1.Time) = false := by rw [h47]; exact bne_self_eq_false _
      refine CM_condF rfl g48 ?_
      refine CM_skip ?_
      refine QM_then ?_
      refine CM_seq ?_
      refine sr ?_
      refine wv (fun W hm => rv_field Try.underlying136 rfl Try.type3 (by decide) rfl rfl) ?_
      refine wv (fun W hm => rv_load Try.underlying3 rfl rfl (hm.boxCell (n := 1) (o := 5) rfl rfl)) ?_
      refine wv (fun W hm => rv_field Try.underlying136 rfl Try.type3 (by decide) rfl rfl) ?_
      refine wv (fun W hm => rv_load Try.underlying3 rfl rfl (hm.boxCell (n := 0) (o := 5) rfl rfl)) ?_
      refine wv (fun W hm => rv_neq rfl rfl) ?_
      refine nt' ?_
      by_cases h49 : x0.Steps = x1.Steps
      · have g50 : (x0.Steps != x1.Steps) = false := by rw [h49]; exact bne_self_eq_false _
        refine CM_condF rfl g50 ?_
        refine CM_skip ?_
        refine QM_then ?_
        refine CM_seq ?_
        refine sr ?_
        refine wv (fun W hm => rv_field Try.underlying136 rfl Try.type39 (by decide) rfl rfl) ?_
        refine wv (fun W hm => rv_load Try.underlying39 rfl rfl (hm.boxCell (n := 1) (o := 6) rfl rfl)) ?_
        refine wv (fun W hm => rv_field Try.underlying136 rfl Try.type39 (by decide) rfl rfl) ?_
        refine wv (fun W hm => rv_load Try.underlying39 rfl rfl (hm.boxCell (n := 0) (o := 6) rfl rfl)) ?_
        refine WM_callV (cl_fn cb204 rfl) (fun W hm => laws_eqRowS_c W _ x0.Rows _ x1.Rows (hm.rdS0 r21) (hm.rdS0 r42)) (Wd_none rfl) (by decide) ?_
        refine wv (fun W hm => rv_not rfl) ?_
        refine nt' ?_
        rcases Bool.eq_false_or_eq_true (laws_eqRowS_m x0.Rows x1.Rows) with g52 | g52
        ·
          refine CM_condF rfl (nt g52) ?_
          refine CM_skip ?_
          refine QM_then ?_
          refine sr ?_
          refine wa ?_
          refine nt' ?_
          refine CM_ret ?_
          exact QM_ret1 rfl rfl (fun W hm => ⟨ret_b (show laws_eqFinished_m x0 x1 = true from by unfold laws_eqFinished_m; exact cond_t g46 (cond_f g48 (cond_f g50 (cond_t g52 (rfl))))), hm.below⟩)
        ·
          refine CM_condT rfl (nf g52) ?_
          refine sr ?_
          refine wa ?_
          refine nt' ?_
          refine CM_ret ?_
          refine QM_then_ret ?_
          exact QM_ret1 rfl rfl (fun W hm => ⟨ret_b (show laws_eqFinished_m x0 x1 = false from by unfold laws_eqFinished_m; exact cond_t g46 (cond_f g48 (cond_f g50 (cond_f g52 (rfl))))), hm.below⟩)
      · have g50 : (x0.Steps != x1.Steps) = true := bne_iff_ne.2 h49
        refine CM_condT rfl g50 ?_
        refine sr ?_
        refine wa ?_
        refine nt' ?_
        refine CM_ret ?_
        refine QM_then_ret ?_
        exact QM_ret1 rfl rfl (fun W hm => ⟨ret_b (show laws_eqFinished_m x0 x1 = false from by unfold laws_eqFinished_m; exact cond_t g46 (cond_f g48 (cond_t g50 (rfl)))), hm.below⟩)
    · have g48 : (x0.Time != x1.Time) = true := bne_iff_ne.2 h47
      refine CM_condT rfl g48 ?_
      refine sr ?_
      refine wa ?_
      refine nt' ?_
      refine CM_ret ?_
      refine QM_then_ret ?_
      exact QM_ret1 rfl rfl (fun W hm => ⟨ret_b (show laws_eqFinished_m x0 x1 = false from by unfold laws_eqFinished_m; exact cond_t g46 (cond_t g48 (rfl))), hm.below⟩)
  ·
    refine CM_condT rfl (nf g46) ?_
    refine sr ?_
    refine wa ?_
    refine nt' ?_
    refine CM_ret ?_
    refine QM_then_ret ?_
    exact QM_ret1 rfl rfl (fun W hm => ⟨ret_b (show laws_eqFinished_m x0 x1 = false from by unfold laws_eqFinished_m; exact cond_f g46 (rfl)), hm.below⟩)

def laws_eqFinishedS_b1 (x0 : (List DFinished)) (x1 : (List DFinished)) (k13 : Nat) : Bool ⊕ (Unit) :=
  cond (laws_eqFinished_m (gt x0 k13) (gt x1 k13)) (Sum.inr ()) (Sum.inl false)
def laws_eqFinishedS_m (x0 : (List DFinished)) (x1 : (List DFinished)) : Bool :=
  cond (((x0.length : Nat) : Int) != ((x1.length : Nat) : Int)) false (Sum.elim id (fun (s : Unit) => true) (rng (R := Bool) (fun k (_ : Unit) => laws_eqFinishedS_b1 x0 x1 k) (x0.length - 0) 0 ()))
set_option maxRecDepth 100000 in
theorem cb114 : Cb Try.prog 114 := ⟨Try.f114, _, Try.func114, rfl, by decide⟩
set_option maxRecDepth 10000 in
set_option maxHeartbeats 4000000 in
theorem laws_eqFinishedS_c (w : World) (z0 : Value) (x0 : (List DFinished)) (z1 : Value) (x1 : (List DFinished)) (r_0 : rdS tyFinished w w.heap.size z0 x0) (r_1 : rdS tyFinished w w.heap.size z1 x1) :
    Calls Try.prog 114 #[z0, z1] w fun e w' => e = .returned (.bool (laws_eqFinishedS_m x0 x1)) ∧ Below w.heap.size w w' := by
  have r5 := r_0
  obtain ⟨m1, A2, c3, rfl, q4⟩ := r_0
  have r10 := r_1
  obtain ⟨m6, A7, c8, rfl, q9⟩ := r_1
  refine call_enterM (L := [(0, .slice A2 x0.length c3), (1, .slice A7 x1.length c8)]) (N := 27) Try.func114 rfl rfl (Nat.le_of_ble_eq_true rfl) (argsL_cons rfl (argsL_cons rfl argsL_nil)) ?_
  refine sr ?_
  refine wa ?_
  refine nt' ?_
  refine CM_seq ?_
  refine sr ?_
  refine wm ?_
  refine wv (fun W hm => rv_len Try.underlying74 rfl) ?_
  refine wm ?_
  refine wv (fun W hm => rv_len Try.underlying74 rfl) ?_
  refine wv (fun W hm => rv_neq rfl rfl) ?_
  refine nt' ?_
  by_cases h11 : ((x0.length : Nat) : Int) = ((x1.length : Nat) : Int)
  · have g12 : (((x0.length : Nat) : Int) != ((x1.length : Nat) : Int)) = false := by rw [h11]; exact bne_self_eq_false _
    refine CM_condF rfl g12 ?_
    refine CM_skip ?_
    refine QM_then ?_
    refine CM_seq ?_
    refine sr ?_
    refine wa ?_
    refine nt' ?_
    refine CM_block ?_
    refine CM_loop (σ := Nat × (Unit) × (Unit)) (fun s => [(0, .slice A2 x0.length c3), (1, .slice A7 x1.length c8), (5, .int .i64 ((s.1 : Nat) : Int))]) (fun s => []) (fun s => s.1 ≤ x0.length ∧ rng (R := Bool) (fun k (_ : Unit) => laws_eqFinishedS_b1 x0 x1 k) (x0.length - s.1) s.1 s.2.1 = rng (R := Bool) (fun k (_ : Unit) => laws_eqFinishedS_b1 x0 x1 k) (x0.length - 0) 0 ()) (fun s => x0.length - s.1) (0, (), ()) (subL_cons rfl (subL_cons rfl (subL_cons rfl subL_nil))) (fun W hm => hm) ⟨(by omega), rfl⟩ ?_
    rintro ⟨k13, ⟨⟩, ⟨⟩⟩ H16
    obtain ⟨hk14, hF15⟩ : k13 ≤ x0.length ∧ rng (R := Bool) (fun k (_ : Unit) => laws_eqFinishedS_b1 x0 x1 k) (x0.length - k13) k13 () = rng (R := Bool) (fun k (_ : Unit) => laws_eqFinishedS_b1 x0 x1 k) (x0.length - 0) 0 () := H16
    show CM Try.prog 27 _ _ _ _ [(0, .slice A2 x0.length c3), (1, .slice A7 x1.length c8), (5, .int .i64 ((k13 : Nat) : Int))] []
    refine CM_seq ?_
    refine sr ?_
    refine wm ?_
    refine wm ?_
    refine wv (fun W hm => rv_len Try.underlying74 rfl) ?_
    refine wv (fun W hm => rv_lss rfl rfl) ?_
    refine nt' ?_
    by_cases hl17 : k13 < x0.length
    · have g18 : (decide (((k13 : Nat) : Int) < ((x0.length : Nat) : Int))) = true := decide_eq_true (by omega)
      refine CM_condT rfl g18 ?_
      refine CM_skip ?_
      refine QM_then ?_
      refine CM_seq ?_
      refine CM_block ?_
      refine CM_seq ?_
      refine CM_regionD (by kernel_rfl) (by kernel_rfl) ?_
      refine qm ?_
      refine qm ?_
      obtain ⟨a19, rfl, hb20, he21⟩ := q4 (by omega)
      refine qv (fun W hm => rv_index (sz := 7) (k := k13) Try.underlying74 Try.type136 rfl rfl rfl (by omega)) ?_
      obtain ⟨_, e29, hc22⟩ := he21 k13 _ (gt_some (show k13 < x0.length from by omega))
      obtain ⟨v23, v25, v27, rfl, r24, r26, r28⟩ := tyFinished_rd e29
      have r34 := r24
      obtain ⟨m30, A31, c32, rfl, q33⟩ := r24
      have r39 := r26
      obtain ⟨m35, A36, c37, rfl, q38⟩ := r26
      have r44 := r28
      obtain ⟨m40, A41, c42, rfl, q43⟩ := r28
      refine qv (fun W hm => rv_loadN (cs := [.int .i64 ((gt x0 k13).Query.Id), .int .i64 ((gt x0 k13).Query.Tenant), .slice A31 ((gt x0 k13).Query.Conds).length c32, .slice A36 ((gt x0 k13).Query.Out).length c37, .int .i64 ((gt x0 k13).Time), .int .i64 ((gt x0 k13).Steps), .slice A41 ((gt x0 k13).Rows).length c42]) Try.underlying136 Try.type136 rfl rfl (hm.elCells (show (a19.add (k13 * 7)).block < w.heap.size from by rw [add_block]; exact hb20.1) hc22)) ?_
      refine qm ?_
      refine qm ?_
      obtain ⟨a45, rfl, hb46, he47⟩ := q9 (by omega)
      refine qv (fun W hm => rv_index (sz := 7) (k := k13) Try.underlying74 Try.type136 rfl rfl rfl (by omega)) ?_
      obtain ⟨_, e55, hc48⟩ := he47 k13 _ (gt_some (show k13 < x1.length from by omega))
      obtain ⟨v49, v51, v53, rfl, r50, r52, r54⟩ := tyFinished_rd e55
      have r60 := r50
      obtain ⟨m56, A57, c58, rfl, q59⟩ := r50
      have r65 := r52
      obtain ⟨m61, A62, c63, rfl, q64⟩ := r52
      have r70 := r54
      obtain ⟨m66, A67, c68, rfl, q69⟩ := r54
      refine qv (fun W hm => rv_loadN (cs := [.int .i64 ((gt x1 k13).Query.Id), .int .i64 ((gt x1 k13).Query.Tenant), .slice A57 ((gt x1 k13).Query.Conds).length c58, .slice A62 ((gt x1 k13).Query.Out).length c63, .int .i64 ((gt x1 k13).Time), .int .i64 ((gt x1 k13).Steps), .slice A67 ((gt x1 k13).Rows).length c68]) Try.underlying136 Try.type136 rfl rfl (hm.elCells (show (a45.add (k13 * 7)).block < w.heap.size from by rw [add_block]; exact hb46.1) hc48)) ?_
      refine QR_callV (cl_fn cb172 rfl) (fun W hm => laws_eqFinished_c W _ (gt x0 k13) _ (gt x1 k13) (tyFinished_mk (x := (gt x0 k13)) (hm.rdS0 r34) (hm.rdS0 r39) (hm.rdS0 r44)) (tyFinished_mk (x := (gt x1 k13)) (hm.rdS0 r60) (hm.rdS0 r65) (hm.rdS0 r70))) (Wd_none rfl) (by decide) ?_
      refine qv (fun W hm => rv_not rfl) ?_
      refine nq' ?_
      rcases Bool.eq_false_or_eq_true (laws_eqFinished_m (gt x0 k13) (gt x1 k13)) with g72 | g72
      ·
        refine CM_condF rfl (nt g72) ?_
        refine CM_skip ?_
        refine QM_block_normal ?_
        refine QM_then ?_
        refine CM_region ?_
        refine wm ?_
        refine wv (fun W hm => rv_addN (p := k13) (q := 1) rfl rfl (by omega)) ?_
        refine wa ?_
        refine WM_nil ?_
        have hn73 := rng_next (R := Bool) (body := (fun k (_ : Unit) => laws_eqFinishedS_b1 x0 x1 k)) (k := k13) (s := ()) (s' := ()) (show k13 < x0.length from by omega) (show laws_eqFinishedS_b1 x0 x1 k13 = Sum.inr () from by unfold laws_eqFinishedS_b1; exact cond_t g72 (rfl)) hF15
        exact QM_round (k13 + 1, (), ()) (subL_cons rfl (subL_cons rfl (subL_cons rfl subL_nil))) (fun W hm => hm) ⟨(by omega), hn73⟩ (show x0.length - (k13 + 1) < x0.length - k13 from by omega)
      ·
        refine CM_condT rfl (nf g72) ?_
        refine sr ?_
        refine wa ?_
        refine nt' ?_
        refine CM_ret ?_
        refine QM_block_ret ?_
        refine QM_then_ret ?_
        refine QM_then_ret ?_
        refine QM_block_ret ?_
        refine QM_then_ret ?_
        exact QM_ret1 rfl rfl (fun W hm => ⟨ret_b (show laws_eqFinishedS_m x0 x1 = false from by unfold laws_eqFinishedS_m; exact cond_f g12 (fin_inl (rng_ret (body := (fun k (_ : Unit) => laws_eqFinishedS_b1 x0 x1 k)) (k := k13) (s := ()) (show k13 < x0.length from by omega) (show laws_eqFinishedS_b1 x0 x1 k13 = Sum.inl false from by unfold laws_eqFinishedS_b1; exact cond_f g72 (rfl)) hF15) rfl)), hm.below⟩)
    · have g18 : (decide (((k13 : Nat) : Int) < ((x0.length : Nat) : Int))) = false := decide_eq_false (by omega)
      refine CM_condF rfl g18 ?_
      refine CM_exit ?_
      refine QM_then_exit ?_
      refine QM_then_exit ?_
      have hE74 : rng (R := Bool) (fun k (_ : Unit) => laws_eqFinishedS_b1 x0 x1 k) (x0.length - 0) 0 () = Sum.inr () := rng_end hl17 hF15
      refine QM_block_hit ?_
      refine QM_then ?_
      refine sr ?_
      refine wa ?_
      refine nt' ?_
      refine CM_ret ?_
      exact QM_ret1 rfl rfl (fun W hm => ⟨ret_b (show laws_eqFinishedS_m x0 x1 = true from by unfold laws_eqFinishedS_m; exact cond_f g12 (fin_inr hE74 (rfl))), hm.below⟩)
  · have g12 : (((x0.length : Nat) : Int) != ((x1.length : Nat) : Int)) = true := bne_iff_ne.2 h11
    refine CM_condT rfl g12 ?_
    refine sr ?_
    refine wa ?_
    refine nt' ?_
    refine CM_ret ?_
    refine QM_then_ret ?_
    exact QM_ret1 rfl rfl (fun W hm => ⟨ret_b (show laws_eqFinishedS_m x0 x1 = false from by unfold laws_eqFinishedS_m; exact cond_t g12 (rfl)), hm.below⟩)

def laws_eqCharge_m (x0 : DCharge) (x1 : DCharge) : Bool :=
  cond (x0.Segment != x1.Segment) false (cond (x0.Base != x1.Base) false (cond (laws_eqIntS_m x0.Ids x1.Ids) (cond (laws_eqIntS_m x0.Tenants x1.Tenants) (cond (laws_eqIntS_m x0.Rows x1.Rows) true false) false) false))
set_option maxRecDepth 100000 in
theorem cb173 : Cb Try.prog 173 := ⟨Try.f173, _, Try.func173, rfl, by decide⟩
set_option maxRecDepth 10000 in
set_option maxHeartbeats 4000000 in
theorem laws_eqCharge_c (w : World) (z0 : List Value) (x0 : DCharge) (z1 : List Value) (x1 : DCharge) (r_0 : tyCharge.rd w w.heap.size z0 x0) (r_1 : tyCharge.rd w w.heap.size z1 x1) :
    Calls Try.prog 173 #[.agg z0.toArray, .agg z1.toArray] w fun e w' => e = .returned (.bool (laws_eqCharge_m x0 x1)) ∧ Below w.heap.size w w' := by
  obtain ⟨v1, v3, v5, rfl, r2, r4, r6⟩ := tyCharge_rd r_0
  have r11 := r2
  obtain ⟨m7, A8, c9, rfl, q10⟩ := r2
  have r16 := r4
  obtain ⟨m12, A13, c14, rfl, q15⟩ := r4
  have r21 := r6
  obtain ⟨m17, A18, c19, rfl, q20⟩ := r6
  obtain ⟨v22, v24, v26, rfl, r23, r25, r27⟩ := tyCharge_rd r_1
  have r32 := r23
  obtain ⟨m28, A29, c30, rfl, q31⟩ := r23
  have r37 := r25
  obtain ⟨m33, A34, c35, rfl, q36⟩ := r25
  have r42 := r27
  obtain ⟨m38, A39, c40, rfl, q41⟩ := r27
  refine call_enterM (L := [(0, .agg #[.int .i64 x0.Segment, .int .i64 x0.Base, .slice A8 x0.Ids.length c9, .slice A13 x0.Tenants.length c14, .slice A18 x0.Rows.length c19]), (1, .agg #[.int .i64 x1.Segment, .int .i64 x1.Base, .slice A29 x1.Ids.length c30, .slice A34 x1.Tenants.length c35, .slice A39 x1.Rows.length c40])]) (N := 33) Try.func173 rfl rfl (Nat.le_of_ble_eq_true rfl) (argsL_cons rfl (argsL_cons rfl argsL_nil)) ?_
  refine sr ?_
  refine WM_box rfl (Wd_none rfl) (by decide) (fun p43 => ?_)
  refine WM_box rfl (Wd_none rfl) (by decide) (fun p44 => ?_)
  refine wa ?_
  refine nt' ?_
  refine CM_seq ?_
  refine sr ?_
  refine wv (fun W hm => rv_field Try.underlying140 rfl Try.type3 (by decide) rfl rfl) ?_
  refine wv (fun W hm => rv_load Try.underlying3 rfl rfl (hm.boxCell (n := 1) (o := 0) rfl rfl)) ?_
  refine wv (fun W hm => rv_field Try.underlying140 rfl Try.type3 (by decide) rfl rfl) ?_
  refine wv (fun W hm => rv_load Try.underlying3 rfl rfl (hm.boxCell (n := 0) (o := 0) rfl rfl)) ?_
  refine wv (fun W hm => rv_neq rfl rfl) ?_
  refine nt' ?_
  by_cases h45 : x0.Segment = x1.Segment
  · have g46 : (x0.Segment != x1.Segment) = false := by rw [h45]; exact bne_self_eq_false _
    refine CM_condF rfl g46 ?_
    refine CM_skip ?_
    refine QM_then ?_
    refine CM_seq ?_
    refine sr ?_
    refine wv (fun W hm => rv_field Try.underlying140 rfl Try.type3 (by decide) rfl rfl) ?_
    refine wv (fun W hm => rv_load Try.underlying3 rfl rfl (hm.boxCell (n := 1) (o := 1) rfl rfl)) ?_
    refine wv (fun W hm => rv_field Try.underlying140 rfl Try.type3 (by decide) rfl rfl) ?_
    refine wv (fun W hm => rv_load Try.underlying3 rfl rfl (hm.boxCell (n := 0) (o := 1) rfl rfl)) ?_
    refine wv (fun W hm => rv_neq rfl rfl) ?_
    refine nt' ?_
    by_cases h47 : x0.Base = x1.Base
    · have g48 : (x0.Base != x1.Base) = false := by rw [h47]; exact bne_self_eq_false _
      refine CM_condF rfl g48 ?_
      refine CM_skip ?_
      refine QM_then ?_
      refine CM_seq ?_
      refine sr ?_
      refine wv (fun W hm => rv_field Try.underlying140 rfl Try.type27 (by decide) rfl rfl) ?_
      refine wv (fun W hm => rv_load Try.underlying27 rfl rfl (hm.boxCell (n := 1) (o := 2) rfl rfl)) ?_
      refine wv (fun W hm => rv_field Try.underlying140 rfl Try.type27 (by decide) rfl rfl) ?_
      refine wv (fun W hm => rv_load Try.underlying27 rfl rfl (hm.boxCell (n := 0) (o := 2) rfl rfl)) ?_
      refine WM_callV (cl_fn cb67 rfl) (fun W hm => laws_eqIntS_c W _ x0.Ids _ x1.Ids (hm.rdS0 r11) (hm.rdS0 r32)) (Wd_none rfl) (by decide) ?_
      refine wv (fun W hm => rv_not rfl) ?_
      refine nt' ?_
      rcases Bool.eq_false_or_eq_true (laws_eqIntS_m x0.Ids x1.Ids) with g50 | g50
      ·
        refine CM_condF rfl (nt g50) ?_
        refine CM_skip ?_
        refine QM_then ?_
        refine CM_seq ?_
        refine sr ?_
        refine wv (fun W hm => rv_field Try.underlying140 rfl Try.type27 (by decide) rfl rfl) ?_
        refine wv (fun W hm => rv_load Try.underlying27 rfl rfl (hm.boxCell (n := 1) (o := 3) rfl rfl)) ?_
        refine wv (fun W hm => rv_field Try.underlying140 rfl Try.type27 (by decide) rfl rfl) ?_
        refine wv (fun W hm => rv_load Try.underlying27 rfl rfl (hm.boxCell (n := 0) (o := 3) rfl rfl)) ?_
        refine WM_callV (cl_fn cb67 rfl) (fun W hm => laws_eqIntS_c W _ x0.Tenants _ x1.Tenants (hm.rdS0 r16) (hm.rdS0 r37)) (Wd_none rfl) (by decide) ?_
        refine wv (fun W hm => rv_not rfl) ?_
        refine nt' ?_
        rcases Bool.eq_false_or_eq_true (laws_eqIntS_m x0.Tenants x1.Tenants) with g52 | g52
        ·
          refine CM_condF rfl (nt g52) ?_
          refine CM_skip ?_
          refine QM_then ?_
          refine CM_seq ?_
          refine sr ?_
          refine wv (fun W hm => rv_field Try.underlying140 rfl Try.type27 (by decide) rfl rfl) ?_
          refine wv (fun W hm => rv_load Try.underlying27 rfl rfl (hm.boxCell (n := 1) (o := 4) rfl rfl)) ?_
          refine wv (fun W hm => rv_field Try.underlying140 rfl Try.type27 (by decide) rfl rfl) ?_
          refine wv (fun W hm => rv_load Try.underlying27 rfl rfl (hm.boxCell (n := 0) (o := 4) rfl rfl)) ?_
          refine WM_callV (cl_fn cb67 rfl) (fun W hm => laws_eqIntS_c W _ x0.Rows _ x1.Rows (hm.rdS0 r21) (hm.rdS0 r42)) (Wd_none rfl) (by decide) ?_
          refine wv (fun W hm => rv_not rfl) ?_
          refine nt' ?_
          rcases Bool.eq_false_or_eq_true (laws_eqIntS_m x0.Rows x1.Rows) with g54 | g54
          ·
            refine CM_condF rfl (nt g54) ?_
            refine CM_skip ?_
            refine QM_then ?_
            refine sr ?_
            refine wa ?_
            refine nt' ?_
            refine CM_ret ?_
            exact QM_ret1 rfl rfl (fun W hm => ⟨ret_b (show laws_eqCharge_m x0 x1 = true from by unfold laws_eqCharge_m; exact cond_f g46 (cond_f g48 (cond_t g50 (cond_t g52 (cond_t g54 (rfl)))))), hm.below⟩)
          ·
            refine CM_condT rfl (nf g54) ?_
            refine sr ?_
            refine wa ?_
            refine nt' ?_
            refine CM_ret ?_
            refine QM_then_ret ?_
            exact QM_ret1 rfl rfl (fun W hm => ⟨ret_b (show laws_eqCharge_m x0 x1 = false from by unfold laws_eqCharge_m; exact cond_f g46 (cond_f g48 (cond_t g50 (cond_t g52 (cond_f g54 (rfl)))))), hm.below⟩)
        ·
          refine CM_condT rfl (nf g52) ?_
          refine sr ?_
          refine wa ?_
          refine nt' ?_
          refine CM_ret ?_
          refine QM_then_ret ?_
          exact QM_ret1 rfl rfl (fun W hm => ⟨ret_b (show laws_eqCharge_m x0 x1 = false from by unfold laws_eqCharge_m; exact cond_f g46 (cond_f g48 (cond_t g50 (cond_f g52 (rfl))))), hm.below⟩)
      ·
        refine CM_condT rfl (nf g50) ?_
        refine sr ?_
        refine wa ?_
        refine nt' ?_
        refine CM_ret ?_
        refine QM_then_ret ?_
        exact QM_ret1 rfl rfl (fun W hm => ⟨ret_b (show laws_eqCharge_m x0 x1 = false from by unfold laws_eqCharge_m; exact cond_f g46 (cond_f g48 (cond_f g50 (rfl)))), hm.below⟩)
    · have g48 : (x0.Base != x1.Base) = true := bne_iff_ne.2 h47
      refine CM_condT rfl g48 ?_
      refine sr ?_
      refine wa ?_
      refine nt' ?_
      refine CM_ret ?_
      refine QM_then_ret ?_
      exact QM_ret1 rfl rfl (fun W hm => ⟨ret_b (show laws_eqCharge_m x0 x1 = false from by unfold laws_eqCharge_m; exact cond_f g46 (cond_t g48 (rfl))), hm.below⟩)
  · have g46 : (x0.Segment != x1.Segment) = true := bne_iff_ne.2 h45
    refine CM_condT rfl g46 ?_
    refine sr ?_
    refine wa ?_
    refine nt' ?_
    refine CM_ret ?_
    refine QM_then_ret ?_
    exact QM_ret1 rfl rfl (fun W hm => ⟨ret_b (show laws_eqCharge_m x0 x1 = false from by unfold laws_eqCharge_m; exact cond_t g46 (rfl)), hm.below⟩)

def laws_eqChargeS_b1 (x0 : (List DCharge)) (x1 : (List DCharge)) (k13 : Nat) : Bool ⊕ (Unit) :=
  cond (laws_eqCharge_m (gt x0 k13) (gt x1 k13)) (Sum.inr ()) (Sum.inl false)
def laws_eqChargeS_m (x0 : (List DCharge)) (x1 : (List DCharge)) : Bool :=
  cond (((x0.length : Nat) : Int) != ((x1.length : Nat) : Int)) false (Sum.elim id (fun (s : Unit) => true) (rng (R := Bool) (fun k (_ : Unit) => laws_eqChargeS_b1 x0 x1 k) (x0.length - 0) 0 ()))
set_option maxRecDepth 100000 in
theorem cb115 : Cb Try.prog 115 := ⟨Try.f115, _, Try.func115, rfl, by decide⟩
set_option maxRecDepth 10000 in
set_option maxHeartbeats 4000000 in
theorem laws_eqChargeS_c (w : World) (z0 : Value) (x0 : (List DCharge)) (z1 : Value) (x1 : (List DCharge)) (r_0 : rdS tyCharge w w.heap.size z0 x0) (r_1 : rdS tyCharge w w.heap.size z1 x1) :
    Calls Try.prog 115 #[z0, z1] w fun e w' => e = .returned (.bool (laws_eqChargeS_m x0 x1)) ∧ Below w.heap.size w w' := by
  have r5 := r_0
  obtain ⟨m1, A2, c3, rfl, q4⟩ := r_0
  have r10 := r_1
  obtain ⟨m6, A7, c8, rfl, q9⟩ := r_1
  refine call_enterM (L := [(0, .slice A2 x0.length c3), (1, .slice A7 x1.length c8)]) (N := 27) Try.func115 rfl rfl (Nat.le_of_ble_eq_true rfl) (argsL_cons rfl (argsL_cons rfl argsL_nil)) ?_
  refine sr ?_
  refine wa ?_
  refine nt' ?_
  refine CM_seq ?_
  refine sr ?_
  refine wm ?_
  refine wv (fun W hm => rv_len Try.underlying75 rfl) ?_
  refine wm ?_
  refine wv (fun W hm => rv_len Try.underlying75 rfl) ?_
  refine wv (fun W hm => rv_neq rfl rfl) ?_
  refine nt' ?_
  by_cases h11 : ((x0.length : Nat) : Int) = ((x1.length : Nat) : Int)
  · have g12 : (((x0.length : Nat) : Int) != ((x1.length : Nat) : Int)) = false := by rw [h11]; exact bne_self_eq_false _
    refine CM_condF rfl g12 ?_
    refine CM_skip ?_
    refine QM_then ?_
    refine CM_seq ?_
    refine sr ?_
    refine wa ?_
    refine nt' ?_
    refine CM_block ?_
    refine CM_loop (σ := Nat × (Unit) × (Unit)) (fun s => [(0, .slice A2 x0.length c3), (1, .slice A7 x1.length c8), (5, .int .i64 ((s.1 : Nat) : Int))]) (fun s => []) (fun s => s.1 ≤ x0.length ∧ rng (R := Bool) (fun k (_ : Unit) => laws_eqChargeS_b1 x0 x1 k) (x0.length - s.1) s.1 s.2.1 = rng (R := Bool) (fun k (_ : Unit) => laws_eqChargeS_b1 x0 x1 k) (x0.length - 0) 0 ()) (fun s => x0.length - s.1) (0, (), ()) (subL_cons rfl (subL_cons rfl (subL_cons rfl subL_nil))) (fun W hm => hm) ⟨(by omega), rfl⟩ ?_
    rintro ⟨k13, ⟨⟩, ⟨⟩⟩ H16
    obtain ⟨hk14, hF15⟩ : k13 ≤ x0.length ∧ rng (R := Bool) (fun k (_ : Unit) => laws_eqChargeS_b1 x0 x1 k) (x0.length - k13) k13 () = rng (R := Bool) (fun k (_ : Unit) => laws_eqChargeS_b1 x0 x1 k) (x0.length - 0) 0 () := H16
    show CM Try.prog 27 _ _ _ _ [(0, .slice A2 x0.length c3), (1, .slice A7 x1.length c8), (5, .int .i64 ((k13 : Nat) : Int))] []
    refine CM_seq ?_
    refine sr ?_
    refine wm ?_
    refine wm ?_
    refine wv (fun W hm => rv_len Try.underlying75 rfl) ?_
    refine wv (fun W hm => rv_lss rfl rfl) ?_
    refine nt' ?_
    by_cases hl17 : k13 < x0.length
    · have g18 : (decide (((k13 : Nat) : Int) < ((x0.length : Nat) : Int))) = true := decide_eq_true (by omega)
      refine CM_condT rfl g18 ?_
      refine CM_skip ?_
      refine QM_then ?_
      refine CM_seq ?_
      refine CM_block ?_
      refine CM_seq ?_
      refine CM_regionD (by kernel_rfl) (by kernel_rfl) ?_
      refine qm ?_
      refine qm ?_
      obtain ⟨a19, rfl, hb20, he21⟩ := q4 (by omega)
      refine qv (fun W hm => rv_index (sz := 5) (k := k13) Try.underlying75 Try.type140 rfl rfl rfl (by omega)) ?_
      obtain ⟨_, e29, hc22⟩ := he21 k13 _ (gt_some (show k13 < x0.length from by omega))
      obtain ⟨v23, v25, v27, rfl, r24, r26, r28⟩ := tyCharge_rd e29
      have r34 := r24
      obtain ⟨m30, A31, c32, rfl, q33⟩ := r24
      have r39 := r26
      obtain ⟨m35, A36, c37, rfl, q38⟩ := r26
      have r44 := r28
      obtain ⟨m40, A41, c42, rfl, q43⟩ := r28
      refine qv (fun W hm => rv_loadN (cs := [.int .i64 ((gt x0 k13).Segment), .int .i64 ((gt x0 k13).Base), .slice A31 ((gt x0 k13).Ids).length c32, .slice A36 ((gt x0 k13).Tenants).length c37, .slice A41 ((gt x0 k13).Rows).length c42]) Try.underlying140 Try.type140 rfl rfl (hm.elCells (show (a19.add (k13 * 5)).block < w.heap.size from by rw [add_block]; exact hb20.1) hc22)) ?_
      refine qm ?_
      refine qm ?_
      obtain ⟨a45, rfl, hb46, he47⟩ := q9 (by omega)
      refine qv (fun W hm => rv_index (sz := 5) (k := k13) Try.underlying75 Try.type140 rfl rfl rfl (by omega)) ?_
      obtain ⟨_, e55, hc48⟩ := he47 k13 _ (gt_some (show k13 < x1.length from by omega))
      obtain ⟨v49, v51, v53, rfl, r50, r52, r54⟩ := tyCharge_rd e55
      have r60 := r50
      obtain ⟨m56, A57, c58, rfl, q59⟩ := r50
      have r65 := r52
      obtain ⟨m61, A62, c63, rfl, q64⟩ := r52
      have r70 := r54
      obtain ⟨m66, A67, c68, rfl, q69⟩ := r54
      refine qv (fun W hm => rv_loadN (cs := [.int .i64 ((gt x1 k13).Segment), .int .i64 ((gt x1 k13).Base), .slice A57 ((gt x1 k13).Ids).length c58, .slice A62 ((gt x1 k13).Tenants).length c63, .slice A67 ((gt x1 k13).Rows).length c68]) Try.underlying140 Try.type140 rfl rfl (hm.elCells (show (a45.add (k13 * 5)).block < w.heap.size from by rw [add_block]; exact hb46.1) hc48)) ?_
      refine QR_callV (cl_fn cb173 rfl) (fun W hm => laws_eqCharge_c W _ (gt x0 k13) _ (gt x1 k13) (tyCharge_mk (x := (gt x0 k13)) (hm.rdS0 r34) (hm.rdS0 r39) (hm.rdS0 r44)) (tyCharge_mk (x := (gt x1 k13)) (hm.rdS0 r60) (hm.rdS0 r65) (hm.rdS0 r70))) (Wd_none rfl) (by decide) ?_
      refine qv (fun W hm => rv_not rfl) ?_
      refine nq' ?_
      rcases Bool.eq_false_or_eq_true (laws_eqCharge_m (gt x0 k13) (gt x1 k13)) with g72 | g72
      ·
        refine CM_condF rfl (nt g72) ?_
        refine CM_skip ?_
        refine QM_block_normal ?_
        refine QM_then ?_
        refine CM_region ?_
        refine wm ?_
        refine wv (fun W hm => rv_addN (p := k13) (q := 1) rfl rfl (by omega)) ?_
        refine wa ?_
        refine WM_nil ?_
        have hn73 := rng_next (R := Bool) (body := (fun k (_ : Unit) => laws_eqChargeS_b1 x0 x1 k)) (k := k13) (s := ()) (s' := ()) (show k13 < x0.length from by omega) (show laws_eqChargeS_b1 x0 x1 k13 = Sum.inr () from by unfold laws_eqChargeS_b1; exact cond_t g72 (rfl)) hF15
        exact QM_round (k13 + 1, (), ()) (subL_cons rfl (subL_cons rfl (subL_cons rfl subL_nil))) (fun W hm => hm) ⟨(by omega), hn73⟩ (show x0.length - (k13 + 1) < x0.length - k13 from by omega)
      ·
        refine CM_condT rfl (nf g72) ?_
        refine sr ?_
        refine wa ?_
        refine nt' ?_
        refine CM_ret ?_
        refine QM_block_ret ?_
        refine QM_then_ret ?_
        refine QM_then_ret ?_
        refine QM_block_ret ?_
        refine QM_then_ret ?_
        exact QM_ret1 rfl rfl (fun W hm => ⟨ret_b (show laws_eqChargeS_m x0 x1 = false from by unfold laws_eqChargeS_m; exact cond_f g12 (fin_inl (rng_ret (body := (fun k (_ : Unit) => laws_eqChargeS_b1 x0 x1 k)) (k := k13) (s := ()) (show k13 < x0.length from by omega) (show laws_eqChargeS_b1 x0 x1 k13 = Sum.inl false from by unfold laws_eqChargeS_b1; exact cond_f g72 (rfl)) hF15) rfl)), hm.below⟩)
    · have g18 : (decide (((k13 : Nat) : Int) < ((x0.length : Nat) : Int))) = false := decide_eq_false (by omega)
      refine CM_condF rfl g18 ?_
      refine CM_exit ?_
      refine QM_then_exit ?_
      refine QM_then_exit ?_
      have hE74 : rng (R := Bool) (fun k (_ : Unit) => laws_eqChargeS_b1 x0 x1 k) (x0.length - 0) 0 () = Sum.inr () := rng_end hl17 hF15
      refine QM_block_hit ?_
      refine QM_then ?_
      refine sr ?_
      refine wa ?_
      refine nt' ?_
      refine CM_ret ?_
      exact QM_ret1 rfl rfl (fun W hm => ⟨ret_b (show laws_eqChargeS_m x0 x1 = true from by unfold laws_eqChargeS_m; exact cond_f g12 (fin_inr hE74 (rfl))), hm.below⟩)
  · have g12 : (((x0.length : Nat) : Int) != ((x1.length : Nat) : Int)) = true := bne_iff_ne.2 h11
    refine CM_condT rfl g12 ?_
    refine sr ?_
    refine wa ?_
    refine nt' ?_
    refine CM_ret ?_
    refine QM_then_ret ?_
    exact QM_ret1 rfl rfl (fun W hm => ⟨ret_b (show laws_eqChargeS_m x0 x1 = false from by unfold laws_eqChargeS_m; exact cond_t g12 (rfl)), hm.below⟩)

def laws_eqEngine_m (x0 : DEngine) (x1 : DEngine) : Bool :=
  cond (laws_eqStore_m x0.Store x1.Store) (cond (x0.Cursor != x1.Cursor) false (cond (laws_eqIntS_m x0.Order x1.Order) (cond (laws_eqActiveS_m x0.Active x1.Active) (cond (laws_eqFinishedS_m x0.Done x1.Done) (cond (laws_eqChargeS_m x0.Ledger x1.Ledger) (cond (x0.Steps != x1.Steps) false true) false) false) false) false)) false
set_option maxRecDepth 100000 in
theorem cb46 : Cb Try.prog 46 := ⟨Try.f46, _, Try.func46, rfl, by decide⟩
set_option maxRecDepth 10000 in
set_option maxHeartbeats 4000000 in
theorem laws_eqEngine_c (w : World) (z0 : List Value) (x0 : DEngine) (z1 : List Value) (x1 : DEngine) (r_0 : tyEngine.rd w w.heap.size z0 x0) (r_1 : tyEngine.rd w w.heap.size z1 x1) :
    Calls Try.prog 46 #[.agg z0.toArray, .agg z1.toArray] w fun e w' => e = .returned (.bool (laws_eqEngine_m x0 x1)) ∧ Below w.heap.size w w' := by
  obtain ⟨v1, v3, v5, v7, v9, rfl, r2, r4, r6, r8, r10⟩ := tyEngine_rd r_0
  have r15 := r2
  obtain ⟨m11, A12, c13, rfl, q14⟩ := r2
  have r20 := r4
  obtain ⟨m16, A17, c18, rfl, q19⟩ := r4
  have r25 := r6
  obtain ⟨m21, A22, c23, rfl, q24⟩ := r6
  have r30 := r8
  obtain ⟨m26, A27, c28, rfl, q29⟩ := r8
  have r35 := r10
  obtain ⟨m31, A32, c33, rfl, q34⟩ := r10
  obtain ⟨v36, v38, v40, v42, v44, rfl, r37, r39, r41, r43, r45⟩ := tyEngine_rd r_1
  have r50 := r37
  obtain ⟨m46, A47, c48, rfl, q49⟩ := r37
  have r55 := r39
  obtain ⟨m51, A52, c53, rfl, q54⟩ := r39
  have r60 := r41
  obtain ⟨m56, A57, c58, rfl, q59⟩ := r41
  have r65 := r43
  obtain ⟨m61, A62, c63, rfl, q64⟩ := r43
  have r70 := r45
  obtain ⟨m66, A67, c68, rfl, q69⟩ := r45
  refine call_enterM (L := [(0, .agg #[.slice A12 x0.Store.Segments.length c13, .int .i64 x0.Store.Now, .int .i64 x0.Cursor, .slice A17 x0.Order.length c18, .slice A22 x0.Active.length c23, .slice A27 x0.Done.length c28, .slice A32 x0.Ledger.length c33, .int .i64 x0.Steps]), (1, .agg #[.slice A47 x1.Store.Segments.length c48, .int .i64 x1.Store.Now, .int .i64 x1.Cursor, .slice A52 x1.Order.length c53, .slice A57 x1.Active.length c58, .slice A62 x1.Done.length c63, .slice A67 x1.Ledger.length c68, .int .i64 x1.Steps])]) (N := 45) Try.func46 rfl rfl (Nat.le_of_ble_eq_true rfl) (argsL_cons rfl (argsL_cons rfl argsL_nil)) ?_
  refine sr ?_
  refine WM_box rfl (Wd_none rfl) (by decide) (fun p71 => ?_)
  refine WM_box rfl (Wd_none rfl) (by decide) (fun p72 => ?_)
  refine wa ?_
  refine nt' ?_
  refine CM_seq ?_
  refine sr ?_
  refine wv (fun W hm => rv_field Try.underlying77 rfl Try.type26 (by decide) rfl rfl) ?_
  refine wv (fun W hm => rv_loadN (cs := [.slice A12 x0.Store.Segments.length c13, .int .i64 x0.Store.Now]) Try.underlying26 Try.type26 rfl rfl (hm.boxPart (n := 1) rfl rfl)) ?_
  refine wv (fun W hm => rv_field Try.underlying77 rfl Try.type26 (by decide) rfl rfl) ?_
  refine wv (fun W hm => rv_loadN (cs := [.slice A47 x1.Store.Segments.length c48, .int .i64 x1.Store.Now]) Try.underlying26 Try.type26 rfl rfl (hm.boxPart (n := 0) rfl rfl)) ?_
  refine WM_callV (cl_fn cb53 rfl) (fun W hm => laws_eqStore_c W _ x0.Store _ x1.Store (tyStore_mk (x := x0.Store) (hm.rdS0 r15)) (tyStore_mk (x := x1.Store) (hm.rdS0 r50))) (Wd_none rfl) (by decide) ?_
  refine wv (fun W hm => rv_not rfl) ?_
  refine nt' ?_
  rcases Bool.eq_false_or_eq_true (laws_eqStore_m x0.Store x1.Store) with g74 | g74
  ·
    refine CM_condF rfl (nt g74) ?_
    refine CM_skip ?_
    refine QM_then ?_
    refine CM_seq ?_
    refine sr ?_
    refine wv (fun W hm => rv_field Try.underlying77 rfl Try.type3 (by decide) rfl rfl) ?_
    refine wv (fun W hm => rv_load Try.underlying3 rfl rfl (hm.boxCell (n := 1) (o := 2) rfl rfl)) ?_
    refine wv (fun W hm => rv_field Try.underlying77 rfl Try.type3 (by decide) rfl rfl) ?_
    refine wv (fun W hm => rv_load Try.underlying3 rfl rfl (hm.boxCell (n := 0) (o := 2) rfl rfl)) ?_
    refine wv (fun W hm => rv_neq rfl rfl) ?_
    refine nt' ?_
    by_cases h75 : x0.Cursor = x1.Cursor
    · have g76 : (x0.Cursor != x1.Cursor) = false := by rw [h75]; exact bne_self_eq_false _
      refine CM_condF rfl g76 ?_
      refine CM_skip ?_
      refine QM_then ?_
      refine CM_seq ?_
      refine sr ?_
      refine wv (fun W hm => rv_field Try.underlying77 rfl Try.type27 (by decide) rfl rfl) ?_
      refine wv (fun W hm => rv_load Try.underlying27 rfl rfl (hm.boxCell (n := 1) (o := 3) rfl rfl)) ?_
      refine wv (fun W hm => rv_field Try.underlying77 rfl Try.type27 (by decide) rfl rfl) ?_
      refine wv (fun W hm => rv_load Try.underlying27 rfl rfl (hm.boxCell (n := 0) (o := 3) rfl rfl)) ?_
      refine WM_callV (cl_fn cb67 rfl) (fun W hm => laws_eqIntS_c W _ x0.Order _ x1.Order (hm.rdS0 r20) (hm.rdS0 r55)) (Wd_none rfl) (by decide) ?_
      refine wv (fun W hm => rv_not rfl) ?_
      refine nt' ?_
      rcases Bool.eq_false_or_eq_true (laws_eqIntS_m x0.Order x1.Order) with g78 | g78
      ·
        refine CM_condF rfl (nt g78) ?_
        refine CM_skip ?_
        refine QM_then ?_
        refine CM_seq ?_
        refine sr ?_
        refine wv (fun W hm => rv_field Try.underlying77 rfl Try.type73 (by decide) rfl rfl) ?_
        refine wv (fun W hm => rv_load Try.underlying73 rfl rfl (hm.boxCell (n := 1) (o := 4) rfl rfl)) ?_
        refine wv (fun W hm => rv_field Try.underlying77 rfl Try.type73 (by decide) rfl rfl) ?_
        refine wv (fun W hm => rv_load Try.underlying73 rfl rfl (hm.boxCell (n := 0) (o := 4) rfl rfl)) ?_
        refine WM_callV (cl_fn cb113 rfl) (fun W hm => laws_eqActiveS_c W _ x0.Active _ x1.Active (hm.rdS0 r25) (hm.rdS0 r60)) (Wd_none rfl) (by decide) ?_
        refine wv (fun W hm => rv_not rfl) ?_
        refine nt' ?_
        rcases Bool.eq_false_or_eq_true (laws_eqActiveS_m x0.Active x1.Active) with g80 | g80
        ·
          refine CM_condF rfl (nt g80) ?_
          refine CM_skip ?_
          refine QM_then ?_
          refine CM_seq ?_
          refine sr ?_
          refine wv (fun W hm => rv_field Try.underlying77 rfl Try.type74 (by decide) rfl rfl) ?_
          refine wv (fun W hm => rv_load Try.underlying74 rfl rfl (hm.boxCell (n := 1) (o := 5) rfl rfl)) ?_
          refine wv (fun W hm => rv_field Try.underlying77 rfl Try.type74 (by decide) rfl rfl) ?_
          refine wv (fun W hm => rv_load Try.underlying74 rfl rfl (hm.boxCell (n := 0) (o := 5) rfl rfl)) ?_
          refine WM_callV (cl_fn cb114 rfl) (fun W hm => laws_eqFinishedS_c W _ x0.Done _ x1.Done (hm.rdS0 r30) (hm.rdS0 r65)) (Wd_none rfl) (by decide) ?_
          refine wv (fun W hm => rv_not rfl) ?_
          refine nt' ?_
          rcases Bool.eq_false_or_eq_true (laws_eqFinishedS_m x0.Done x1.Done) with g82 | g82
          ·
            refine CM_condF rfl (nt g82) ?_
            refine CM_skip ?_
            refine QM_then ?_
            refine CM_seq ?_
            refine sr ?_
            refine wv (fun W hm => rv_field Try.underlying77 rfl Try.type75 (by decide) rfl rfl) ?_
            refine wv (fun W hm => rv_load Try.underlying75 rfl rfl (hm.boxCell (n := 1) (o := 6) rfl rfl)) ?_
            refine wv (fun W hm => rv_field Try.underlying77 rfl Try.type75 (by decide) rfl rfl) ?_
            refine wv (fun W hm => rv_load Try.underlying75 rfl rfl (hm.boxCell (n := 0) (o := 6) rfl rfl)) ?_
            refine WM_callV (cl_fn cb115 rfl) (fun W hm => laws_eqChargeS_c W _ x0.Ledger _ x1.Ledger (hm.rdS0 r35) (hm.rdS0 r70)) (Wd_none rfl) (by decide) ?_
            refine wv (fun W hm => rv_not rfl) ?_
            refine nt' ?_
            rcases Bool.eq_false_or_eq_true (laws_eqChargeS_m x0.Ledger x1.Ledger) with g84 | g84
            ·
              refine CM_condF rfl (nt g84) ?_
              refine CM_skip ?_
              refine QM_then ?_
              refine CM_seq ?_
              refine sr ?_
              refine wv (fun W hm => rv_field Try.underlying77 rfl Try.type3 (by decide) rfl rfl) ?_
              refine wv (fun W hm => rv_load Try.underlying3 rfl rfl (hm.boxCell (n := 1) (o := 7) rfl rfl)) ?_
              refine wv (fun W hm => rv_field Try.underlying77 rfl Try.type3 (by decide) rfl rfl) ?_
              refine wv (fun W hm => rv_load Try.underlying3 rfl rfl (hm.boxCell (n := 0) (o := 7) rfl rfl)) ?_
              refine wv (fun W hm => rv_neq rfl rfl) ?_
              refine nt' ?_
              by_cases h85 : x0.Steps = x1.Steps
              · have g86 : (x0.Steps != x1.Steps) = false := by rw [h85]; exact bne_self_eq_false _
                refine CM_condF rfl g86 ?_
                refine CM_skip ?_
                refine QM_then ?_
                refine sr ?_
                refine wa ?_
                refine nt' ?_
                refine CM_ret ?_
                exact QM_ret1 rfl rfl (fun W hm => ⟨ret_b (show laws_eqEngine_m x0 x1 = true from by unfold laws_eqEngine_m; exact cond_t g74 (cond_f g76 (cond_t g78 (cond_t g80 (cond_t g82 (cond_t g84 (cond_f g86 (rfl)))))))), hm.below⟩)
              · have g86 : (x0.Steps != x1.Steps) = true := bne_iff_ne.2 h85
                refine CM_condT rfl g86 ?_
                refine sr ?_
                refine wa ?_
                refine nt' ?_
                refine CM_ret ?_
                refine QM_then_ret ?_
                exact QM_ret1 rfl rfl (fun W hm => ⟨ret_b (show laws_eqEngine_m x0 x1 = false from by unfold laws_eqEngine_m; exact cond_t g74 (cond_f g76 (cond_t g78 (cond_t g80 (cond_t g82 (cond_t g84 (cond_t g86 (rfl)))))))), hm.below⟩)
            ·
              refine CM_condT rfl (nf g84) ?_
              refine sr ?_
              refine wa ?_
              refine nt' ?_
              refine CM_ret ?_
              refine QM_then_ret ?_
              exact QM_ret1 rfl rfl (fun W hm => ⟨ret_b (show laws_eqEngine_m x0 x1 = false from by unfold laws_eqEngine_m; exact cond_t g74 (cond_f g76 (cond_t g78 (cond_t g80 (cond_t g82 (cond_f g84 (rfl))))))), hm.below⟩)
          ·
            refine CM_condT rfl (nf g82) ?_
            refine sr ?_
            refine wa ?_
            refine nt' ?_
            refine CM_ret ?_
            refine QM_then_ret ?_
            exact QM_ret1 rfl rfl (fun W hm => ⟨ret_b (show laws_eqEngine_m x0 x1 = false from by unfold laws_eqEngine_m; exact cond_t g74 (cond_f g76 (cond_t g78 (cond_t g80 (cond_f g82 (rfl)))))), hm.below⟩)
        ·
          refine CM_condT rfl (nf g80) ?_
          refine sr ?_
          refine wa ?_
          refine nt' ?_
          refine CM_ret ?_
          refine QM_then_ret ?_
          exact QM_ret1 rfl rfl (fun W hm => ⟨ret_b (show laws_eqEngine_m x0 x1 = false from by unfold laws_eqEngine_m; exact cond_t g74 (cond_f g76 (cond_t g78 (cond_f g80 (rfl))))), hm.below⟩)
      ·
        refine CM_condT rfl (nf g78) ?_
        refine sr ?_
        refine wa ?_
        refine nt' ?_
        refine CM_ret ?_
        refine QM_then_ret ?_
        exact QM_ret1 rfl rfl (fun W hm => ⟨ret_b (show laws_eqEngine_m x0 x1 = false from by unfold laws_eqEngine_m; exact cond_t g74 (cond_f g76 (cond_f g78 (rfl)))), hm.below⟩)
    · have g76 : (x0.Cursor != x1.Cursor) = true := bne_iff_ne.2 h75
      refine CM_condT rfl g76 ?_
      refine sr ?_
      refine wa ?_
      refine nt' ?_
      refine CM_ret ?_
      refine QM_then_ret ?_
      exact QM_ret1 rfl rfl (fun W hm => ⟨ret_b (show laws_eqEngine_m x0 x1 = false from by unfold laws_eqEngine_m; exact cond_t g74 (cond_t g76 (rfl))), hm.below⟩)
  ·
    refine CM_condT rfl (nf g74) ?_
    refine sr ?_
    refine wa ?_
    refine nt' ?_
    refine CM_ret ?_
    refine QM_then_ret ?_
    exact QM_ret1 rfl rfl (fun W hm => ⟨ret_b (show laws_eqEngine_m x0 x1 = false from by unfold laws_eqEngine_m; exact cond_f g74 (rfl)), hm.below⟩)

end Go.Proofs.Ytfjhiegahdknmaa
