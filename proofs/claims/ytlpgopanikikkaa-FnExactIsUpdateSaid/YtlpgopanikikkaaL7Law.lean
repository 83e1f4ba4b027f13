/-
  The contract of the law.
-/
import Derived.Test.YtlpgopanikikkaaL7Pl
namespace Go.Proofs.Ytlpgopanikikkaa
open Go.RowKit
def laws_FnExactIsUpdate_m (x0 : DUpdate) : Bool :=
  cond (decide ((laws_szUpdate_m x0 1048576) < 0)) true (cond ((impl_IsUpdate_m (laws_toUpdate_m x0)) != (spec_IsUpdate_m (laws_toUpdate_m x0))) false (cond (laws_eqUpdate_m (laws_toUpdate_m x0) (laws_toUpdate_m x0)) true false))
theorem cb7 : Cb Try.prog 7 := ⟨Try.f7, _, Try.func7, rfl, by decide⟩
set_option maxRecDepth 10000 in
set_option maxHeartbeats 4000000 in
theorem laws_FnExactIsUpdate_c (w : World) (z0 : List Value) (x0 : DUpdate) (r_0 : tyLUpdate.rd w w.heap.size z0 x0) :
    Calls Try.prog 7 #[.agg z0.toArray] w fun e w' => e = .returned (.bool (laws_FnExactIsUpdate_m x0)) ∧ Below w.heap.size w w' := by
  have ok0 := (tyLUpdate_sm r_0)
  obtain ⟨v1, rfl, r2⟩ := tyLUpdate_rd r_0
  have r7 := r2
  obtain ⟨m3, A4, c5, rfl, q6⟩ := r2
  refine call_enterM (L := [(0, .agg #[.int .i64 x0.Kind, .int .i64 x0.Row.Id, .slice A4 x0.Row.Values.length c5, .int .i64 x0.Field, .int .i64 x0.Value])]) (N := 27) Try.func7 rfl rfl (Nat.le_of_ble_eq_true rfl) (argsL_cons rfl argsL_nil) ?_
  refine CM_seq ?_
  refine CM_region ?_
  refine WM_box rfl (Wd_none rfl) (by decide) (fun p8 => ?_)
  refine WM_val (fun W hm => rv_assign rfl) (Wd_none rfl) rfl (by decide) ?_
  refine WM_nil ?_
  refine QM_then ?_
  refine CM_seq ?_
  refine CM_region ?_
  refine WM_val (fun W hm => rv_assign rfl) (Wd_none rfl) rfl (by decide) ?_
  refine WM_nil ?_
  refine QM_then ?_
  refine CM_seq ?_
  refine CM_region ?_
  refine WM_val (fun W hm => rv_loadN (cs := [.int .i64 x0.Kind, .int .i64 x0.Row.Id, .slice A4 x0.Row.Values.length c5, .int .i64 x0.Field, .int .i64 x0.Value]) Try.underlying51 Try.type51 rfl rfl (hm.boxCells (n := 0) rfl)) (Wd_none rfl) rfl (by decide) ?_
  refine WM_val (fun W hm => rv_move rfl) (Wd_none rfl) rfl (by decide) ?_
  refine WM_callV (cl_fn cb34 rfl) (fun W hm => laws_szUpdate_c W _ x0 1048576 (tyLUpdate_mk (hm.rdS0 r7))) (Wd_none rfl) (by decide) ?_
  refine WM_val (fun W hm => rv_assign rfl) (Wd_none rfl) rfl (by decide) ?_
  refine WM_nil ?_
  refine QM_then ?_
  refine CM_seq ?_
  refine CM_seq ?_
  refine CM_region ?_
  refine WM_val (fun W hm => rv_move rfl) (Wd_none rfl) rfl (by decide) ?_
  refine WM_val (fun W hm => rv_lss rfl rfl) (Wd_none rfl) rfl (by decide) ?_
  refine WM_nil ?_
  refine QM_then ?_
  by_cases h9 : (laws_szUpdate_m x0 1048576) < 0
  · have g10 : (decide ((laws_szUpdate_m x0 1048576) < 0)) = true := decide_eq_true h9
    refine CM_condT rfl g10 ?_
    refine CM_seq ?_
    refine CM_region ?_
    refine WM_val (fun W hm => rv_assign rfl) (Wd_none rfl) rfl (by decide) ?_
    refine WM_nil ?_
    refine QM_then ?_
    refine CM_ret ?_
    refine QM_then_ret ?_
    exact QM_ret1 rfl rfl (fun W hm => ⟨ret_b (show laws_FnExactIsUpdate_m x0 = true from by unfold laws_FnExactIsUpdate_m; exact cond_t g10 (rfl)), hm.below⟩)
  · have g10 : (decide ((laws_szUpdate_m x0 1048576) < 0)) = false := decide_eq_false h9
    obtain ⟨hz0, hy0, hw0⟩ := sz_small laws_szUpdate_ok ok0 (by omega) (by omega) g10
    refine CM_condF rfl g10 ?_
    refine CM_skip ?_
    refine QM_then ?_
    refine CM_seq ?_
    refine CM_region ?_
    refine WM_val (fun W hm => rv_loadN (cs := [.int .i64 x0.Kind, .int .i64 x0.Row.Id, .slice A4 x0.Row.Values.length c5, .int .i64 x0.Field, .int .i64 x0.Value]) Try.underlying51 Try.type51 rfl rfl (hm.boxCells (n := 0) rfl)) (Wd_none rfl) rfl (by decide) ?_
    refine WM_call (χ := List Value) (val := fun x => .agg x.toArray) (js := fun x => [iOwn tyUpdate x (laws_toUpdate_m x0)]) (cl_fn cb36 rfl) (fun W hm => laws_toUpdate_c W _ x0 (tyLUpdate_mk (hm.rdS0 r7)) (smUpdate_wt (by omega))) (Wd_none rfl) (by decide) (fun z11 => ?_)
    refine WM_split (γ := Value) (js := fun g => [iOwn (tSl tInt 3) [g] ((laws_toUpdate_m x0).Row.Values)]) (C := fun g => z11 = [.int .i64 ((laws_toUpdate_m x0).Kind), .int .i64 ((laws_toUpdate_m x0).Row.Id), g, .int .i64 ((laws_toUpdate_m x0).Field), .int .i64 ((laws_toUpdate_m x0).Value)]) (fun _ _ h => tyUpdate_split h) ?_
    rintro v12 rfl
    refine WM_form (n := 0) rfl ?_
    rintro A13 c14 rfl m15
    refine WM_callV (cl_fn cb35 rfl) (fun W hm => spec_IsUpdate_c W _ (laws_toUpdate_m x0) (tyUpdate_mk (hm.rdSI (n := 0) rfl))) (Wd_none rfl) (by decide) ?_
    refine WM_val (fun W hm => rv_assign rfl) (Wd_none rfl) rfl (by decide) ?_
    refine WM_nil ?_
    refine QM_then ?_
    refine CM_seq ?_
    refine CM_region ?_
    refine WM_val (fun W hm => rv_loadN (cs := [.int .i64 x0.Kind, .int .i64 x0.Row.Id, .slice A4 x0.Row.Values.length c5, .int .i64 x0.Field, .int .i64 x0.Value]) Try.underlying51 Try.type51 rfl rfl (hm.boxCells (n := 1) rfl)) (Wd_none rfl) rfl (by decide) ?_
    refine WM_call (χ := List Value) (val := fun x => .agg x.toArray) (js := fun x => [iOwn tyUpdate x (laws_toUpdate_m x0)]) (cl_fn cb36 rfl) (fun W hm => laws_toUpdate_c W _ x0 (tyLUpdate_mk (hm.rdS0 r7)) (smUpdate_wt (by omega))) (Wd_none rfl) (by decide) (fun z17 => ?_)
    refine WM_split (γ := Value) (js := fun g => [iOwn (tSl tInt 3) [g] ((laws_toUpdate_m x0).Row.Values)]) (C := fun g => z17 = [.int .i64 ((laws_toUpdate_m x0).Kind), .int .i64 ((laws_toUpdate_m x0).Row.Id), g, .int .i64 ((laws_toUpdate_m x0).Field), .int .i64 ((laws_toUpdate_m x0).Value)]) (fun _ _ h => tyUpdate_split h) ?_
    rintro v18 rfl
    refine WM_form (n := 0) rfl ?_
    rintro A19 c20 rfl m21
    refine WM_alloc Try.type56 rfl (Wd_none rfl) (by decide) (fun p23 => ?_)
    refine WM_storeBox (p := p23) (o := 0) (cs := [.int .i64 0, .int .i64 0, .slice none 0 0, .int .i64 0, .int .i64 0]) (cs' := [.int .i64 ((laws_toUpdate_m x0).Kind), .int .i64 ((laws_toUpdate_m x0).Row.Id), .slice A19 ((laws_toUpdate_m x0).Row.Values).length c20, .int .i64 ((laws_toUpdate_m x0).Field), .int .i64 ((laws_toUpdate_m x0).Value)]) (fun w hm => hm.front (n := 0) rfl) Try.type56 rfl (Nat.le_of_ble_eq_true rfl) rfl rfl rfl rfl (Wd_none rfl) ?_
    refine WM_nil ?_
    refine QM_then ?_
    refine CM_seq ?_
    refine CM_region ?_
    refine WM_val (fun W hm => rv_loadN (cs := [.int .i64 ((laws_toUpdate_m x0).Kind), .int .i64 ((laws_toUpdate_m x0).Row.Id), .slice A19 ((laws_toUpdate_m x0).Row.Values).length c20, .int .i64 ((laws_toUpdate_m x0).Field), .int .i64 ((laws_toUpdate_m x0).Value)]) Try.underlying56 Try.type56 rfl rfl (hm.boxCells (n := 0) rfl)) (Wd_none rfl) rfl (by decide) ?_
    refine WM_callV (cl_fn cb37 rfl) (fun W hm => impl_IsUpdate_c W _ (laws_toUpdate_m x0) (tyUpdate_mk (hm.rdSI (n := 1) rfl))) (Wd_none rfl) (by decide) ?_
    refine WM_val (fun W hm => rv_assign rfl) (Wd_none rfl) rfl (by decide) ?_
    refine WM_nil ?_
    refine QM_then ?_
    refine CM_seq ?_
    refine CM_seq ?_
    refine CM_region ?_
    refine WM_val (fun W hm => rv_move rfl) (Wd_none rfl) rfl (by decide) ?_
    refine WM_val (fun W hm => rv_move rfl) (Wd_none rfl) rfl (by decide) ?_
    refine WM_val (fun W hm => rv_neqB Try.underlying4 rfl rfl) (Wd_none rfl) rfl (by decide) ?_
    refine WM_nil ?_
    refine QM_then ?_
    rcases Bool.eq_false_or_eq_true ((impl_IsUpdate_m (laws_toUpdate_m x0)) != (spec_IsUpdate_m (laws_toUpdate_m x0))) with g25 | g25
    ·
      refine CM_condT rfl g25 ?_
      refine CM_seq ?_
      refine CM_region ?_
      refine WM_val (fun W hm => rv_assign rfl) (Wd_none rfl) rfl (by decide) ?_
      refine WM_nil ?_
      refine QM_then ?_
      refine CM_ret ?_
      refine QM_then_ret ?_
      exact QM_ret1 rfl rfl (fun W hm => ⟨ret_b (show laws_FnExactIsUpdate_m x0 = false from by unfold laws_FnExactIsUpdate_m; exact cond_f g10 (cond_t g25 (rfl))), hm.below⟩)
    ·
      refine CM_condF rfl g25 ?_
      refine CM_skip ?_
      refine QM_then ?_
      refine CM_seq ?_
      refine CM_seq ?_
      refine CM_regionB (n := 5) (listed := #[false, false, false, false, false]) (by kernel_rfl) rfl (by kernel_rfl) ?_
      refine QB_take 0 (listed' := #[true, false, false, false, false]) (by kernel_rfl) rfl (by kernel_rfl) (by kernel_rfl) (by kernel_rfl) (fun _ _ _ h => h) (fun W hm => rv_loadN (cs := [.int .i64 ((laws_toUpdate_m x0).Kind), .int .i64 ((laws_toUpdate_m x0).Row.Id), .slice A19 ((laws_toUpdate_m x0).Row.Values).length c20, .int .i64 ((laws_toUpdate_m x0).Field), .int .i64 ((laws_toUpdate_m x0).Value)]) Try.underlying56 Try.type56 rfl rfl (hm.boxCells (n := 0) rfl)) (Wd_none rfl) rfl (by decide) ?_
      refine QB_take 1 (listed' := #[true, true, false, false, false]) (by kernel_rfl) rfl (by kernel_rfl) (by kernel_rfl) (by kernel_rfl) (fun _ _ _ h => h) (fun W hm => rv_loadN (cs := [.int .i64 x0.Kind, .int .i64 x0.Row.Id, .slice A4 x0.Row.Values.length c5, .int .i64 x0.Field, .int .i64 x0.Value]) Try.underlying51 Try.type51 rfl rfl (hm.boxCells (n := 3) rfl)) (Wd_none rfl) rfl (by decide) ?_
      refine QB_one 2 (listed' := #[true, true, true, false, false]) (by kernel_rfl) rfl (by kernel_rfl) ?_
      refine WM_call (χ := List Value) (val := fun x => .agg x.toArray) (js := fun x => [iOwn tyUpdate x (laws_toUpdate_m x0)]) (cl_fn cb36 rfl) (fun W hm => laws_toUpdate_c W _ x0 (tyLUpdate_mk (hm.rdS0 r7)) (smUpdate_wt (by omega))) (Wd_none rfl) (by decide) (fun z26 => ?_)
      refine WM_split (γ := Value) (js := fun g => [iOwn (tSl tInt 3) [g] ((laws_toUpdate_m x0).Row.Values)]) (C := fun g => z26 = [.int .i64 ((laws_toUpdate_m x0).Kind), .int .i64 ((laws_toUpdate_m x0).Row.Id), g, .int .i64 ((laws_toUpdate_m x0).Field), .int .i64 ((laws_toUpdate_m x0).Value)]) (fun _ _ h => tyUpdate_split h) ?_
      rintro v27 rfl
      refine WM_form (n := 0) rfl ?_
      rintro A28 c29 rfl m30
      refine WM_nil ?_
      refine QB_next (fun W hm => (((((hm.front (n := 4) rfl).front (n := 4) rfl).front (n := 4) rfl).front (n := 4) rfl).front (n := 4) rfl).tail) ?_
      refine QB_one 3 (listed' := #[true, true, true, true, false]) (by kernel_rfl) rfl (by kernel_rfl) ?_
      refine WM_callV (cl_fn cb38 rfl) (fun W hm => laws_eqUpdate_c W _ (laws_toUpdate_m x0) _ (laws_toUpdate_m x0) (tyUpdate_mk (hm.rdSI (n := 2) rfl)) (tyUpdate_mk (hm.rdSI (n := 0) rfl))) (Wd_none rfl) (by decide) ?_
      refine WM_nil ?_
      refine QB_next (fun W hm => (((((hm.front (n := 4) rfl).front (n := 4) rfl).front (n := 4) rfl).front (n := 4) rfl).front (n := 4) rfl)) ?_
      refine QB_take 4 (listed' := #[true, true, true, true, true]) (by kernel_rfl) rfl (by kernel_rfl) (by kernel_rfl) (by kernel_rfl) (fun _ _ _ h => h) (fun W hm => rv_not rfl) (Wd_none rfl) rfl (by decide) ?_
      refine QB_done (by kernel_rfl) ?_
      refine QM_then ?_
      rcases Bool.eq_false_or_eq_true (laws_eqUpdate_m (laws_toUpdate_m x0) (laws_toUpdate_m x0)) with g33 | g33
      ·
        refine CM_condF rfl (nt g33) ?_
        refine CM_skip ?_
        refine QM_then ?_
        refine CM_seq ?_
        refine CM_region ?_
        refine WM_val (fun W hm => rv_assign rfl) (Wd_none rfl) rfl (by decide) ?_
        refine WM_nil ?_
        refine QM_then ?_
        refine CM_ret ?_
        exact QM_ret1 rfl rfl (fun W hm => ⟨ret_b (show laws_FnExactIsUpdate_m x0 = true from by unfold laws_FnExactIsUpdate_m; exact cond_f g10 (cond_f g25 (cond_t g33 (rfl)))), hm.below⟩)
      ·
        refine CM_condT rfl (nf g33) ?_
        refine CM_seq ?_
        refine CM_region ?_
        refine WM_val (fun W hm => rv_assign rfl) (Wd_none rfl) rfl (by decide) ?_
        refine WM_nil ?_
        refine QM_then ?_
        refine CM_ret ?_
        refine QM_then_ret ?_
        exact QM_ret1 rfl rfl (fun W hm => ⟨ret_b (show laws_FnExactIsUpdate_m x0 = false from by unfold laws_FnExactIsUpdate_m; exact cond_f g10 (cond_f g25 (cond_f g33 (rfl)))), hm.below⟩)

end Go.Proofs.Ytlpgopanikikkaa
