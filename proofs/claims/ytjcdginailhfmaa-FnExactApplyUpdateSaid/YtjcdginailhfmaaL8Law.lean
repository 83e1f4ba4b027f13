/-
  The contract of the law.
-/
import Derived.Test.YtjcdginailhfmaaL8Pl
namespace Go.Proofs.Ytjcdginailhfmaa
open Go.RowKit
def laws_FnExactApplyUpdate_m (x0 : DStore) (x1 : DUpdate) : Bool :=
  cond (decide ((laws_szStore_m x0 1048576) < 0)) true (cond (decide ((laws_szUpdate_m x1 (laws_szStore_m x0 1048576)) < 0)) true (cond (laws_eqStore_m ((impl_ApplyUpdate_m (laws_toStore_m x0) (laws_toUpdate_m x1)).1) ((spec_ApplyUpdate_m (laws_toStore_m x0) (laws_toUpdate_m x1)).1)) (cond ((impl_ApplyUpdate_m (laws_toStore_m x0) (laws_toUpdate_m x1)).2 != (spec_ApplyUpdate_m (laws_toStore_m x0) (laws_toUpdate_m x1)).2) false (cond (laws_eqStore_m (laws_toStore_m x0) (laws_toStore_m x0)) (cond (laws_eqUpdate_m (laws_toUpdate_m x1) (laws_toUpdate_m x1)) (cond (decide (((laws_markUpdate_m (laws_toUpdate_m x1) ((laws_markStore_m (laws_toStore_m x0) 1).1)).1) < 0)) false (cond (decide ((laws_heldStore_m (⟨(laws_markStore_m ((impl_ApplyUpdate_m (laws_toStore_m x0) (laws_toUpdate_m x1)).1) 1).2.Segments, ((impl_ApplyUpdate_m (laws_toStore_m x0) (laws_toUpdate_m x1)).1).Now⟩ : DStore) 1) < 0)) false (cond ((laws_heldStore_m (⟨(laws_markStore_m ((impl_ApplyUpdate_m (laws_toStore_m x0) (laws_toUpdate_m x1)).1) 1).2.Segments, ((impl_ApplyUpdate_m (laws_toStore_m x0) (laws_toUpdate_m x1)).1).Now⟩ : DStore) 1) != ((laws_markStore_m ((impl_ApplyUpdate_m (laws_toStore_m x0) (laws_toUpdate_m x1)).1) 1).1)) false true))) false) false)) false))
set_option maxRecDepth 100000 in
theorem cb8 : Cb Try.prog 8 := ⟨Try.f8, _, Try.func8, rfl, by decide⟩
set_option maxRecDepth 10000 in
set_option maxHeartbeats 4000000 in
theorem laws_FnExactApplyUpdate_c (w : World) (z0 : List Value) (x0 : DStore) (z1 : List Value) (x1 : DUpdate) (r_0 : tyLStore.rd w w.heap.size z0 x0) (r_1 : tyLUpdate.rd w w.heap.size z1 x1) :
    Calls Try.prog 8 #[.agg z0.toArray, .agg z1.toArray] w fun e w' => e = .returned (.bool (laws_FnExactApplyUpdate_m x0 x1)) ∧ Below w.heap.size w w' := by
  have ok0 := (tyLStore_sm r_0)
  have ok1 := (tyLUpdate_sm r_1)
  obtain ⟨v1, rfl, r2⟩ := tyLStore_rd r_0
  have r7 := r2
  obtain ⟨m3, A4, c5, rfl, q6⟩ := r2
  obtain ⟨v8, rfl, r9⟩ := tyLUpdate_rd r_1
  have r14 := r9
  obtain ⟨m10, A11, c12, rfl, q13⟩ := r9
  refine call_enterM (L := [(0, .agg #[.slice A4 x0.Segments.length c5, .int .i64 x0.Now]), (1, .agg #[.int .i64 x1.Kind, .int .i64 x1.Row.Id, .slice A11 x1.Row.Values.length c12, .int .i64 x1.Field, .int .i64 x1.Value])]) (N := 119) Try.func8 rfl rfl (Nat.le_of_ble_eq_true rfl) (argsL_cons rfl (argsL_cons rfl argsL_nil)) ?_
  refine sr ?_
  refine WM_box rfl (Wd_none rfl) (by decide) (fun p15 => ?_)
  refine WM_box rfl (Wd_none rfl) (by decide) (fun p16 => ?_)
  refine wa ?_
  refine nt' ?_
  refine sr ?_
  refine wa ?_
  refine nt' ?_
  refine sr ?_
  refine wv (fun W hm => rv_loadN (cs := [.slice A4 x0.Segments.length c5, .int .i64 x0.Now]) Try.underlying41 Try.type41 rfl rfl (hm.boxCells (n := 1) rfl)) ?_
  refine wm ?_
  refine WM_callV (cl_fn cb26 rfl) (fun W hm => laws_szStore_c W _ x0 1048576 (tyLStore_mk (x := x0) (hm.rdS0 r7))) (Wd_none rfl) (by decide) ?_
  refine wa ?_
  refine nt' ?_
  refine CM_seq ?_
  refine sr ?_
  refine wm ?_
  refine wv (fun W hm => rv_lss rfl rfl) ?_
  refine nt' ?_
  by_cases h17 : (laws_szStore_m x0 1048576) < 0
  · have g18 : (decide ((laws_szStore_m x0 1048576) < 0)) = true := decide_eq_true h17
    refine CM_condT rfl g18 ?_
    refine sr ?_
    refine wa ?_
    refine nt' ?_
    refine CM_ret ?_
    refine QM_then_ret ?_
    exact QM_ret1 rfl rfl (fun W hm => ⟨ret_b (show laws_FnExactApplyUpdate_m x0 x1 = true from by unfold laws_FnExactApplyUpdate_m; exact cond_t g18 (rfl)), hm.below⟩)
  · have g18 : (decide ((laws_szStore_m x0 1048576) < 0)) = false := decide_eq_false h17
    obtain ⟨hz0, hy0, hw0⟩ := sz_small laws_szStore_ok ok0 (by omega) (by omega) g18
    refine CM_condF rfl g18 ?_
    refine CM_skip ?_
    refine QM_then ?_
    refine sr ?_
    refine wv (fun W hm => rv_loadN (cs := [.int .i64 x1.Kind, .int .i64 x1.Row.Id, .slice A11 x1.Row.Values.length c12, .int .i64 x1.Field, .int .i64 x1.Value]) Try.underlying65 Try.type65 rfl rfl (hm.boxCells (n := 0) rfl)) ?_
    refine wm ?_
    refine WM_callV (cl_fn cb42 rfl) (fun W hm => laws_szUpdate_c W _ x1 (laws_szStore_m x0 1048576) (tyLUpdate_mk (x := x1) (hm.rdS0 r14))) (Wd_none rfl) (by decide) ?_
    refine wa ?_
    refine nt' ?_
    refine CM_seq ?_
    refine sr ?_
    refine wm ?_
    refine wv (fun W hm => rv_lss rfl rfl) ?_
    refine nt' ?_
    by_cases h19 : (laws_szUpdate_m x1 (laws_szStore_m x0 1048576)) < 0
    · have g20 : (decide ((laws_szUpdate_m x1 (laws_szStore_m x0 1048576)) < 0)) = true := decide_eq_true h19
      refine CM_condT rfl g20 ?_
      refine sr ?_
      refine wa ?_
      refine nt' ?_
      refine CM_ret ?_
      refine QM_then_ret ?_
      exact QM_ret1 rfl rfl (fun W hm => ⟨ret_b (show laws_FnExactApplyUpdate_m x0 x1 = true from by unfold laws_FnExactApplyUpdate_m; exact cond_f g18 (cond_t g20 (rfl))), hm.below⟩)
    · have g20 : (decide ((laws_szUpdate_m x1 (laws_szStore_m x0 1048576)) < 0)) = false := decide_eq_false h19
      obtain ⟨hz1, hy1, hw1⟩ := sz_small laws_szUpdate_ok ok1 (by omega) (by omega) g20
      refine CM_condF rfl g20 ?_
      refine CM_skip ?_
      refine QM_then ?_
      refine CM_seq ?_
      refine CM_cut (σ := Nat × Option Addr × Nat × Option Addr × Nat × Option Addr × Nat) (fun s => [(2, .pointer (some (⟨p15, 0, none⟩ : Addr))), (3, .pointer (some (⟨p16, 0, none⟩ : Addr))), (6, .pointer (some (⟨s.1, 0, none⟩ : Addr))), (7, .bool (spec_ApplyUpdate_m (laws_toStore_m x0) (laws_toUpdate_m x1)).2)]) (fun s => [iBox s.1 45 [.slice s.2.1 (((spec_ApplyUpdate_m (laws_toStore_m x0) (laws_toUpdate_m x1)).1).Segments).length s.2.2.1, .int .i64 (((spec_ApplyUpdate_m (laws_toStore_m x0) (laws_toUpdate_m x1)).1).Now)], iOwn (tSl (tSl tyVersion 102) 100) [.slice s.2.1 (((spec_ApplyUpdate_m (laws_toStore_m x0) (laws_toUpdate_m x1)).1).Segments).length s.2.2.1] (((spec_ApplyUpdate_m (laws_toStore_m x0) (laws_toUpdate_m x1)).1).Segments), iOwn (tSl tInt 3) [.slice s.2.2.2.1 ((laws_toUpdate_m x1).Row.Values).length s.2.2.2.2.1] ((laws_toUpdate_m x1).Row.Values), iOwn (tSl (tSl tyVersion 102) 100) [.slice s.2.2.2.2.2.1 ((laws_toStore_m x0).Segments).length s.2.2.2.2.2.2] ((laws_toStore_m x0).Segments), iBox p16 65 [.int .i64 x1.Kind, .int .i64 x1.Row.Id, .slice A11 x1.Row.Values.length c12, .int .i64 x1.Field, .int .i64 x1.Value], iBox p15 41 [.slice A4 x0.Segments.length c5, .int .i64 x0.Now]]) (fun _ => True) ?_ ?_
      ·
        refine CM_regionB (n := 11) (listed := #[false, false, false, false, false, false, false, false, false, false, false]) (s := [iBox p16 65 [.int .i64 x1.Kind, .int .i64 x1.Row.Id, .slice A11 x1.Row.Values.length c12, .int .i64 x1.Field, .int .i64 x1.Value], iBox p15 41 [.slice A4 x0.Segments.length c5, .int .i64 x0.Now]]) (by kernel_rfl) rfl (by kernel_rfl) (fun W hm => hm) ?_
        refine QB_take 0 (listed' := #[true, false, false, false, false, false, false, false, false, false, false]) (by kernel_rfl) rfl (by kernel_rfl) (by kernel_rfl) (by kernel_rfl) (fun _ _ _ h => h) (fun W hm => rv_loadN (cs := [.slice A4 x0.Segments.length c5, .int .i64 x0.Now]) Try.underlying41 Try.type41 rfl rfl (hm.boxCells (n := 1) rfl)) (Wd_none rfl) rfl (by decide) ?_
        refine QB_take 2 (listed' := #[true, false, true, false, false, false, false, false, false, false, false]) (by kernel_rfl) rfl (by kernel_rfl) (by kernel_rfl) (by kernel_rfl) (fun _ _ _ h => h) (fun W hm => rv_loadN (cs := [.int .i64 x1.Kind, .int .i64 x1.Row.Id, .slice A11 x1.Row.Values.length c12, .int .i64 x1.Field, .int .i64 x1.Value]) Try.underlying65 Try.type65 rfl rfl (hm.boxCells (n := 0) rfl)) (Wd_none rfl) rfl (by decide) ?_
        refine QB_all [1, 8] (by kernel_rfl) (by decide) ?_
        refine QBs_cons (listed' := #[true, true, true, false, false, false, false, false, false, false, false]) (by kernel_rfl) rfl ?_ ?_
        ·
          refine WM_call (χ := List Value) (val := fun x => .agg x.toArray) (js := fun x => [iOwn tyStore x (laws_toStore_m x0)]) (cl_fn cb28 rfl) (fun W hm => laws_toStore_c W _ x0 (tyLStore_mk (x := x0) (hm.rdS0 r7)) (smStore_wt (by omega))) (Wd_none rfl) (by decide) (fun z40 => ?_)
          refine WM_split (γ := Value) (js := fun g => [iOwn (tSl (tSl tyVersion 102) 100) [g] ((laws_toStore_m x0).Segments)]) (C := fun g => z40 = [g, .int .i64 ((laws_toStore_m x0).Now)]) (fun _ _ h => tyStore_split h) ?_
          rintro v41 rfl
          refine WM_form (n := 0) rfl ?_
          rintro A42 c43 rfl m44
          refine WM_nil ?_
          refine QB_next (fun W hm => (hm.pick [1, 2] (by decide))) ?_
          refine QB_all [3, 8] (by kernel_rfl) (by decide) ?_
          refine QBs_cons (listed' := #[true, true, true, true, false, false, false, false, false, false, false]) (by kernel_rfl) rfl ?_ ?_
          ·
            refine WM_call (χ := List Value) (val := fun x => .agg x.toArray) (js := fun x => [iOwn tyUpdate x (laws_toUpdate_m x1)]) (cl_fn cb44 rfl) (fun W hm => laws_toUpdate_c W _ x1 (tyLUpdate_mk (x := x1) (hm.rdS0 r14)) (smUpdate_wt (by omega))) (Wd_none rfl) (by decide) (fun z46 => ?_)
            refine WM_split (γ := Value) (js := fun g => [iOwn (tSl tInt 3) [g] ((laws_toUpdate_m x1).Row.Values)]) (C := fun g => z46 = [.int .i64 ((laws_toUpdate_m x1).Kind), .int .i64 ((laws_toUpdate_m x1).Row.Id), g, .int .i64 ((laws_toUpdate_m x1).Field), .int .i64 ((laws_toUpdate_m x1).Value)]) (fun _ _ h => tyUpdate_split h) ?_
            rintro v47 rfl
            refine WM_form (n := 0) rfl ?_
            rintro A48 c49 rfl m50
            refine WM_nil ?_
            refine QB_next (fun W hm => (hm.pick [2, 3] (by decide))) ?_
            refine QB_all [4, 8] (by kernel_rfl) (by decide) ?_
            refine QBs_cons (listed' := #[true, true, true, true, true, false, false, false, false, false, false]) (by kernel_rfl) rfl ?_ ?_
            ·
              refine WM_call (χ := List Value) (val := fun x => .tuple #[.agg x.toArray, .bool ((spec_ApplyUpdate_m (laws_toStore_m x0) (laws_toUpdate_m x1)).2)]) (js := fun x => [iOwn tyStore x ((spec_ApplyUpdate_m (laws_toStore_m x0) (laws_toUpdate_m x1)).1)]) (cl_fn cb43 rfl) (fun W hm => spec_ApplyUpdate_c W _ (laws_toStore_m x0) _ (laws_toUpdate_m x1) (tyStore_mk (x := (laws_toStore_m x0)) (hm.rdSI (n := 1) rfl)) (tyUpdate_mk (x := (laws_toUpdate_m x1)) (hm.rdSI (n := 0) rfl)) (by rw [laws_toStore_eq]; exact (smStore_wt (by omega))) (by rw [laws_toUpdate_eq]; exact (smUpdate_wt (by omega)))) (Wd_none rfl) (by decide) (fun z52 => ?_)
              refine WM_split (γ := Value) (js := fun g => [iOwn (tSl (tSl tyVersion 102) 100) [g] (((spec_ApplyUpdate_m (laws_toStore_m x0) (laws_toUpdate_m x1)).1).Segments)]) (C := fun g => z52 = [g, .int .i64 (((spec_ApplyUpdate_m (laws_toStore_m x0) (laws_toUpdate_m x1)).1).Now)]) (fun _ _ h => tyStore_split h) ?_
              rintro v53 rfl
              refine WM_form (n := 0) rfl ?_
              rintro A54 c55 rfl m56
              refine WM_nil ?_
              refine QB_next (fun W hm => (hm.pick [3, 4] (by decide))) ?_
              refine QB_take 5 (listed' := #[true, true, true, true, true, true, false, false, false, false, false]) (by kernel_rfl) rfl (by kernel_rfl) (by kernel_rfl) (by kernel_rfl) (fun _ _ _ h => h) (fun W hm => rv_move rfl) (Wd_none rfl) rfl (by decide) ?_
              refine QB_take 6 (listed' := #[true, true, true, true, true, true, true, false, false, false, false]) (by kernel_rfl) rfl (by kernel_rfl) (by kernel_rfl) (by kernel_rfl) (fun _ _ _ h => h) (fun W hm => rv_extract rfl rfl) (Wd_none rfl) rfl (by decide) ?_
              refine QB_take 7 (listed' := #[true, true, true, true, true, true, true, true, false, false, false]) (by kernel_rfl) rfl (by kernel_rfl) (by kernel_rfl) (by kernel_rfl) (fun _ _ _ h => h) (fun W hm => rv_extract rfl rfl) (Wd_none rfl) rfl (by decide) ?_
              refine QB_one 8 (listed' := #[true, true, true, true, true, true, true, true, true, false, false]) (by kernel_rfl) rfl (by kernel_rfl) ?_
              refine WM_alloc Try.type45 rfl (Wd_none rfl) (by decide) (fun p58 => ?_)
              refine WM_nil ?_
              refine QB_next (fun W hm => (hm.pick [4, 5] (by decide))) ?_
              refine QB_one 9 (listed' := #[true, true, true, true, true, true, true, true, true, true, false]) (by kernel_rfl) rfl (by kernel_rfl) ?_
              refine WM_storeBox (p := p58) (o := 0) (cs := [.slice none 0 0, .int .i64 0]) (cs' := [.slice A54 (((spec_ApplyUpdate_m (laws_toStore_m x0) (laws_toUpdate_m x1)).1).Segments).length c55, .int .i64 (((spec_ApplyUpdate_m (laws_toStore_m x0) (laws_toUpdate_m x1)).1).Now)]) (js := [iOwn (tSl (tSl tyVersion 102) 100) [.slice A54 (((spec_ApplyUpdate_m (laws_toStore_m x0) (laws_toUpdate_m x1)).1).Segments).length c55] (((spec_ApplyUpdate_m (laws_toStore_m x0) (laws_toUpdate_m x1)).1).Segments), iOwn (tSl tInt 3) [.slice A48 ((laws_toUpdate_m x1).Row.Values).length c49] ((laws_toUpdate_m x1).Row.Values), iOwn (tSl (tSl tyVersion 102) 100) [.slice A42 ((laws_toStore_m x0).Segments).length c43] ((laws_toStore_m x0).Segments), iBox p16 65 [.int .i64 x1.Kind, .int .i64 x1.Row.Id, .slice A11 x1.Row.Values.length c12, .int .i64 x1.Field, .int .i64 x1.Value], iBox p15 41 [.slice A4 x0.Segments.length c5, .int .i64 x0.Now]]) (fun W hm => hm) Try.type45 rfl (Nat.le_of_ble_eq_true rfl) rfl rfl rfl rfl (Wd_none rfl) ?_
              refine WM_nil ?_
              refine QB_next (fun W hm => (hm.pick [4, 5] (by decide))) ?_
              refine QB_take 10 (listed' := #[true, true, true, true, true, true, true, true, true, true, true]) (by kernel_rfl) rfl (by kernel_rfl) (by kernel_rfl) (by kernel_rfl) (fun _ _ _ h => h) (fun W hm => rv_assign rfl) (Wd_none rfl) rfl (by decide) ?_
              refine QB_done (by kernel_rfl) ?_
              exact QM_cut_normal (p58, A54, c55, A48, c49, A42, c43) (subL_cons rfl (subL_cons rfl (subL_cons rfl (subL_cons rfl subL_nil)))) (fun W hm => hm) trivial
            refine QBs_cons (listed' := #[true, true, true, true, false, false, false, false, true, false, false]) (by kernel_rfl) rfl ?_ ?_
            ·
              refine WM_alloc Try.type45 rfl (Wd_none rfl) (by decide) (fun p59 => ?_)
              refine WM_nil ?_
              refine QB_next (fun W hm => (hm.pick [3, 4] (by decide))) ?_
              refine QB_one 4 (listed' := #[true, true, true, true, true, false, false, false, true, false, false]) (by kernel_rfl) rfl (by kernel_rfl) ?_
              refine WM_call (χ := List Value) (val := fun x => .tuple #[.agg x.toArray, .bool ((spec_ApplyUpdate_m (laws_toStore_m x0) (laws_toUpdate_m x1)).2)]) (js := fun x => [iOwn tyStore x ((spec_ApplyUpdate_m (laws_toStore_m x0) (laws_toUpdate_m x1)).1)]) (cl_fn cb43 rfl) (fun W hm => spec_ApplyUpdate_c W _ (laws_toStore_m x0) _ (laws_toUpdate_m x1) (tyStore_mk (x := (laws_toStore_m x0)) (hm.rdSI (n := 2) rfl)) (tyUpdate_mk (x := (laws_toUpdate_m x1)) (hm.rdSI (n := 1) rfl)) (by rw [laws_toStore_eq]; exact (smStore_wt (by omega))) (by rw [laws_toUpdate_eq]; exact (smUpdate_wt (by omega)))) (Wd_none rfl) (by decide) (fun z60 => ?_)
              refine WM_split (γ := Value) (js := fun g => [iOwn (tSl (tSl tyVersion 102) 100) [g] (((spec_ApplyUpdate_m (laws_toStore_m x0) (laws_toUpdate_m x1)).1).Segments)]) (C := fun g => z60 = [g, .int .i64 (((spec_ApplyUpdate_m (laws_toStore_m x0) (laws_toUpdate_m x1)).1).Now)]) (fun _ _ h => tyStore_split h) ?_
              rintro v61 rfl
              refine WM_form (n := 0) rfl ?_
              rintro A62 c63 rfl m64
              refine WM_nil ?_
              refine QB_next (fun W hm => (hm.pick [4, 5] (by decide))) ?_
              refine QB_take 5 (listed' := #[true, true, true, true, true, true, false, false, true, false, false]) (by kernel_rfl) rfl (by kernel_rfl) (by kernel_rfl) (by kernel_rfl) (fun _ _ _ h => h) (fun W hm => rv_move rfl) (Wd_none rfl) rfl (by decide) ?_
              refine QB_take 6 (listed' := #[true, true, true, true, true, true, true, false, true, false, false]) (by kernel_rfl) rfl (by kernel_rfl) (by kernel_rfl) (by kernel_rfl) (fun _ _ _ h => h) (fun W hm => rv_extract rfl rfl) (Wd_none rfl) rfl (by decide) ?_
              refine QB_take 7 (listed' := #[true, true, true, true, true, true, true, true, true, false, false]) (by kernel_rfl) rfl (by kernel_rfl) (by kernel_rfl) (by kernel_rfl) (fun _ _ _ h => h) (fun W hm => rv_extract rfl rfl) (Wd_none rfl) rfl (by decide) ?_
              refine QB_one 9 (listed' := #[true, true, true, true, true, true, true, true, true, true, false]) (by kernel_rfl) rfl (by kernel_rfl) ?_
              refine WM_storeBox (p := p59) (o := 0) (cs := [.slice none 0 0, .int .i64 0]) (cs' := [.slice A62 (((spec_ApplyUpdate_m (laws_toStore_m x0) (laws_toUpdate_m x1)).1).Segments).length c63, .int .i64 (((spec_ApplyUpdate_m (laws_toStore_m x0) (laws_toUpdate_m x1)).1).Now)]) (js := [iOwn (tSl (tSl tyVersion 102) 100) [.slice A62 (((spec_ApplyUpdate_m (laws_toStore_m x0) (laws_toUpdate_m x1)).1).Segments).length c63] (((spec_ApplyUpdate_m (laws_toStore_m x0) (laws_toUpdate_m x1)).1).Segments), iOwn (tSl tInt 3) [.slice A48 ((laws_toUpdate_m x1).Row.Values).length c49] ((laws_toUpdate_m x1).Row.Values), iOwn (tSl (tSl tyVersion 102) 100) [.slice A42 ((laws_toStore_m x0).Segments).length c43] ((laws_toStore_m x0).Segments), iBox p16 65 [.int .i64 x1.Kind, .int .i64 x1.Row.Id, .slice A11 x1.Row.Values.length c12, .int .i64 x1.Field, .int .i64 x1.Value], iBox p15 41 [.slice A4 x0.Segments.length c5, .int .i64 x0.Now]]) (fun W hm => (hm.pick [1, 0, 2, 3, 4, 5] (by decide))) Try.type45 rfl (Nat.le_of_ble_eq_true rfl) rfl rfl rfl rfl (Wd_none rfl) ?_
              refine WM_nil ?_
              refine QB_next (fun W hm => (hm.pick [4, 5] (by decide))) ?_
              refine QB_take 10 (listed' := #[true, true, true, true, true, true, true, true, true, true, true]) (by kernel_rfl) rfl (by kernel_rfl) (by kernel_rfl) (by kernel_rfl) (fun _ _ _ h => h) (fun W hm => rv_assign rfl) (Wd_none rfl) rfl (by decide) ?_
              refine QB_done (by kernel_rfl) ?_
              exact QM_cut_normal (p59, A62, c63, A48, c49, A42, c43) (subL_cons rfl (subL_cons rfl (subL_cons rfl (subL_cons rfl subL_nil)))) (fun W hm => hm) trivial
            exact QBs_nil
          refine QBs_cons (listed' := #[true, true, true, false, false, false, false, false, true, false, false]) (by kernel_rfl) rfl ?_ ?_
          ·
            refine WM_alloc Try.type45 rfl (Wd_none rfl) (by decide) (fun p66 => ?_)
            refine WM_nil ?_
            refine QB_next (fun W hm => (hm.pick [2, 3] (by decide))) ?_
            refine QB_one 3 (listed' := #[true, true, true, true, false, false, false, false, true, false, false]) (by kernel_rfl) rfl (by kernel_rfl) ?_
            refine WM_call (χ := List Value) (val := fun x => .agg x.toArray) (js := fun x => [iOwn tyUpdate x (laws_toUpdate_m x1)]) (cl_fn cb44 rfl) (fun W hm => laws_toUpdate_c W _ x1 (tyLUpdate_mk (x := x1) (hm.rdS0 r14)) (smUpdate_wt (by omega))) (Wd_none rfl) (by decide) (fun z67 => ?_)
            refine WM_split (γ := Value) (js := fun g => [iOwn (tSl tInt 3) [g] ((laws_toUpdate_m x1).Row.Values)]) (C := fun g => z67 = [.int .i64 ((laws_toUpdate_m x1).Kind), .int .i64 ((laws_toUpdate_m x1).Row.Id), g, .int .i64 ((laws_toUpdate_m x1).Field), .int .i64 ((laws_toUpdate_m x1).Value)]) (fun _ _ h => tyUpdate_split h) ?_
            rintro v68 rfl
            refine WM_form (n := 0) rfl ?_
            rintro A69 c70 rfl m71
            refine WM_nil ?_
            refine QB_next (fun W hm => (hm.pick [3, 4] (by decide))) ?_
            refine QB_one 4 (listed' := #[true, true, true, true, true, false, false, false, true, false, false]) (by kernel_rfl) rfl (by kernel_rfl) ?_
            refine WM_call (χ := List Value) (val := fun x => .tuple #[.agg x.toArray, .bool ((spec_ApplyUpdate_m (laws_toStore_m x0) (laws_toUpdate_m x1)).2)]) (js := fun x => [iOwn tyStore x ((spec_ApplyUpdate_m (laws_toStore_m x0) (laws_toUpdate_m x1)).1)]) (cl_fn cb43 rfl) (fun W hm => spec_ApplyUpdate_c W _ (laws_toStore_m x0) _ (laws_toUpdate_m x1) (tyStore_mk (x := (laws_toStore_m x0)) (hm.rdSI (n := 2) rfl)) (tyUpdate_mk (x := (laws_toUpdate_m x1)) (hm.rdSI (n := 0) rfl)) (by rw [laws_toStore_eq]; exact (smStore_wt (by omega))) (by rw [laws_toUpdate_eq]; exact (smUpdate_wt (by omega)))) (Wd_none rfl) (by decide) (fun z73 => ?_)
            refine WM_split (γ := Value) (js := fun g => [iOwn (tSl (tSl tyVersion 102) 100) [g] (((spec_ApplyUpdate_m (laws_toStore_m x0) (laws_toUpdate_m x1)).1).Segments)]) (C := fun g => z73 = [g, .int .i64 (((spec_ApplyUpdate_m (laws_toStore_m x0) (laws_toUpdate_m x1)).1).Now)]) (fun _ _ h => tyStore_split h) ?_
            rintro v74 rfl
            refine WM_form (n := 0) rfl ?_
            rintro A75 c76 rfl m77
            refine WM_nil ?_
            refine QB_next (fun W hm => (hm.pick [4, 5] (by decide))) ?_
            refine QB_take 5 (listed' := #[true, true, true, true, true, true, false, false, true, false, false]) (by kernel_rfl) rfl (by kernel_rfl) (by kernel_rfl) (by kernel_rfl) (fun _ _ _ h => h) (fun W hm => rv_move rfl) (Wd_none rfl) rfl (by decide) ?_
            refine QB_take 6 (listed' := #[true, true, true, true, true, true, true, false, true, false, false]) (by kernel_rfl) rfl (by kernel_rfl) (by kernel_rfl) (by kernel_rfl) (fun _ _ _ h => h) (fun W hm => rv_extract rfl rfl) (Wd_none rfl) rfl (by decide) ?_
            refine QB_take 7 (listed' := #[true, true, true, true, true, true, true, true, true, false, false]) (by kernel_rfl) rfl (by kernel_rfl) (by kernel_rfl) (by kernel_rfl) (fun _ _ _ h => h) (fun W hm => rv_extract rfl rfl) (Wd_none rfl) rfl (by decide) ?_
            refine QB_one 9 (listed' := #[true, true, true, true, true, true, true, true, true, true, false]) (by kernel_rfl) rfl (by kernel_rfl) ?_
            refine WM_storeBox (p := p66) (o := 0) (cs := [.slice none 0 0, .int .i64 0]) (cs' := [.slice A75 (((spec_ApplyUpdate_m (laws_toStore_m x0) (laws_toUpdate_m x1)).1).Segments).length c76, .int .i64 (((spec_ApplyUpdate_m (laws_toStore_m x0) (laws_toUpdate_m x1)).1).Now)]) (js := [iOwn (tSl (tSl tyVersion 102) 100) [.slice A75 (((spec_ApplyUpdate_m (laws_toStore_m x0) (laws_toUpdate_m x1)).1).Segments).length c76] (((spec_ApplyUpdate_m (laws_toStore_m x0) (laws_toUpdate_m x1)).1).Segments), iOwn (tSl tInt 3) [.slice A69 ((laws_toUpdate_m x1).Row.Values).length c70] ((laws_toUpdate_m x1).Row.Values), iOwn (tSl (tSl tyVersion 102) 100) [.slice A42 ((laws_toStore_m x0).Segments).length c43] ((laws_toStore_m x0).Segments), iBox p16 65 [.int .i64 x1.Kind, .int .i64 x1.Row.Id, .slice A11 x1.Row.Values.length c12, .int .i64 x1.Field, .int .i64 x1.Value], iBox p15 41 [.slice A4 x0.Segments.length c5, .int .i64 x0.Now]]) (fun W hm => (hm.pick [2, 0, 1, 3, 4, 5] (by decide))) Try.type45 rfl (Nat.le_of_ble_eq_true rfl) rfl rfl rfl rfl (Wd_none rfl) ?_
            refine WM_nil ?_
            refine QB_next (fun W hm => (hm.pick [4, 5] (by decide))) ?_
            refine QB_take 10 (listed' := #[true, true, true, true, true, true, true, true, true, true, true]) (by kernel_rfl) rfl (by kernel_rfl) (by kernel_rfl) (by kernel_rfl) (fun _ _ _ h => h) (fun W hm => rv_assign rfl) (Wd_none rfl) rfl (by decide) ?_
            refine QB_done (by kernel_rfl) ?_
            exact QM_cut_normal (p66, A75, c76, A69, c70, A42, c43) (subL_cons rfl (subL_cons rfl (subL_cons rfl (subL_cons rfl subL_nil)))) (fun W hm => hm) trivial
          exact QBs_nil
        refine QBs_cons (listed' := #[true, false, true, false, false, false, false, false, true, false, false]) (by kernel_rfl) rfl ?_ ?_
        ·
          refine WM_alloc Try.type45 rfl (Wd_none rfl) (by decide) (fun p79 => ?_)
          refine WM_nil ?_
          refine QB_next (fun W hm => (hm.pick [1, 2] (by decide))) ?_
          refine QB_one 1 (listed' := #[true, true, true, false, false, false, false, false, true, false, false]) (by kernel_rfl) rfl (by kernel_rfl) ?_
          refine WM_call (χ := List Value) (val := fun x => .agg x.toArray) (js := fun x => [iOwn tyStore x (laws_toStore_m x0)]) (cl_fn cb28 rfl) (fun W hm => laws_toStore_c W _ x0 (tyLStore_mk (x := x0) (hm.rdS0 r7)) (smStore_wt (by omega))) (Wd_none rfl) (by decide) (fun z80 => ?_)
          refine WM_split (γ := Value) (js := fun g => [iOwn (tSl (tSl tyVersion 102) 100) [g] ((laws_toStore_m x0).Segments)]) (C := fun g => z80 = [g, .int .i64 ((laws_toStore_m x0).Now)]) (fun _ _ h => tyStore_split h) ?_
          rintro v81 rfl
          refine WM_form (n := 0) rfl ?_
          rintro A82 c83 rfl m84
          refine WM_nil ?_
          refine QB_next (fun W hm => (hm.pick [2, 3] (by decide))) ?_
          refine QB_one 3 (listed' := #[true, true, true, true, false, false, false, false, true, false, false]) (by kernel_rfl) rfl (by kernel_rfl) ?_
          refine WM_call (χ := List Value) (val := fun x => .agg x.toArray) (js := fun x => [iOwn tyUpdate x (laws_toUpdate_m x1)]) (cl_fn cb44 rfl) (fun W hm => laws_toUpdate_c W _ x1 (tyLUpdate_mk (x := x1) (hm.rdS0 r14)) (smUpdate_wt (by omega))) (Wd_none rfl) (by decide) (fun z86 => ?_)
          refine WM_split (γ := Value) (js := fun g => [iOwn (tSl tInt 3) [g] ((laws_toUpdate_m x1).Row.Values)]) (C := fun g => z86 = [.int .i64 ((laws_toUpdate_m x1).Kind), .int .i64 ((laws_toUpdate_m x1).Row.Id), g, .int .i64 ((laws_toUpdate_m x1).Field), .int .i64 ((laws_toUpdate_m x1).Value)]) (fun _ _ h => tyUpdate_split h) ?_
          rintro v87 rfl
          refine WM_form (n := 0) rfl ?_
          rintro A88 c89 rfl m90
          refine WM_nil ?_
          refine QB_next (fun W hm => (hm.pick [3, 4] (by decide))) ?_
          refine QB_one 4 (listed' := #[true, true, true, true, true, false, false, false, true, false, false]) (by kernel_rfl) rfl (by kernel_rfl) ?_
          refine WM_call (χ := List Value) (val := fun x => .tuple #[.agg x.toArray, .bool ((spec_ApplyUpdate_m (laws_toStore_m x0) (laws_toUpdate_m x1)).2)]) (js := fun x => [iOwn tyStore x ((spec_ApplyUpdate_m (laws_toStore_m x0) (laws_toUpdate_m x1)).1)]) (cl_fn cb43 rfl) (fun W hm => spec_ApplyUpdate_c W _ (laws_toStore_m x0) _ (laws_toUpdate_m x1) (tyStore_mk (x := (laws_toStore_m x0)) (hm.rdSI (n := 1) rfl)) (tyUpdate_mk (x := (laws_toUpdate_m x1)) (hm.rdSI (n := 0) rfl)) (by rw [laws_toStore_eq]; exact (smStore_wt (by omega))) (by rw [laws_toUpdate_eq]; exact (smUpdate_wt (by omega)))) (Wd_none rfl) (by decide) (fun z92 => ?_)
          refine WM_split (γ := Value) (js := fun g => [iOwn (tSl (tSl tyVersion 102) 100) [g] (((spec_ApplyUpdate_m (laws_toStore_m x0) (laws_toUpdate_m x1)).1).Segments)]) (C := fun g => z92 = [g, .int .i64 (((spec_ApplyUpdate_m (laws_toStore_m x0) (laws_toUpdate_m x1)).1).Now)]) (fun _ _ h => tyStore_split h) ?_
          rintro v93 rfl
          refine WM_form (n := 0) rfl ?_
          rintro A94 c95 rfl m96
          refine WM_nil ?_
          refine QB_next (fun W hm => (hm.pick [4, 5] (by decide))) ?_
          refine QB_take 5 (listed' := #[true, true, true, true, true, true, false, false, true, false, false]) (by kernel_rfl) rfl (by kernel_rfl) (by kernel_rfl) (by kernel_rfl) (fun _ _ _ h => h) (fun W hm => rv_move rfl) (Wd_none rfl) rfl (by decide) ?_
          refine QB_take 6 (listed' := #[true, true, true, true, true, true, true, false, true, false, false]) (by kernel_rfl) rfl (by kernel_rfl) (by kernel_rfl) (by kernel_rfl) (fun _ _ _ h => h) (fun W hm => rv_extract rfl rfl) (Wd_none rfl) rfl (by decide) ?_
          refine QB_take 7 (listed' := #[true, true, true, true, true, true, true, true, true, false, false]) (by kernel_rfl) rfl (by kernel_rfl) (by kernel_rfl) (by kernel_rfl) (fun _ _ _ h => h) (fun W hm => rv_extract rfl rfl) (Wd_none rfl) rfl (by decide) ?_
          refine QB_one 9 (listed' := #[true, true, true, true, true, true, true, true, true, true, false]) (by kernel_rfl) rfl (by kernel_rfl) ?_
          refine WM_storeBox (p := p79) (o := 0) (cs := [.slice none 0 0, .int .i64 0]) (cs' := [.slice A94 (((spec_ApplyUpdate_m (laws_toStore_m x0) (laws_toUpdate_m x1)).1).Segments).length c95, .int .i64 (((spec_ApplyUpdate_m (laws_toStore_m x0) (laws_toUpdate_m x1)).1).Now)]) (js := [iOwn (tSl (tSl tyVersion 102) 100) [.slice A94 (((spec_ApplyUpdate_m (laws_toStore_m x0) (laws_toUpdate_m x1)).1).Segments).length c95] (((spec_ApplyUpdate_m (laws_toStore_m x0) (laws_toUpdate_m x1)).1).Segments), iOwn (tSl tInt 3) [.slice A88 ((laws_toUpdate_m x1).Row.Values).length c89] ((laws_toUpdate_m x1).Row.Values), iOwn (tSl (tSl tyVersion 102) 100) [.slice A82 ((laws_toStore_m x0).Segments).length c83] ((laws_toStore_m x0).Segments), iBox p16 65 [.int .i64 x1.Kind, .int .i64 x1.Row.Id, .slice A11 x1.Row.Values.length c12, .int .i64 x1.Field, .int .i64 x1.Value], iBox p15 41 [.slice A4 x0.Segments.length c5, .int .i64 x0.Now]]) (fun W hm => (hm.pick [3, 0, 1, 2, 4, 5] (by decide))) Try.type45 rfl (Nat.le_of_ble_eq_true rfl) rfl rfl rfl rfl (Wd_none rfl) ?_
          refine WM_nil ?_
          refine QB_next (fun W hm => (hm.pick [4, 5] (by decide))) ?_
          refine QB_take 10 (listed' := #[true, true, true, true, true, true, true, true, true, true, true]) (by kernel_rfl) rfl (by kernel_rfl) (by kernel_rfl) (by kernel_rfl) (fun _ _ _ h => h) (fun W hm => rv_assign rfl) (Wd_none rfl) rfl (by decide) ?_
          refine QB_done (by kernel_rfl) ?_
          exact QM_cut_normal (p79, A94, c95, A88, c89, A82, c83) (subL_cons rfl (subL_cons rfl (subL_cons rfl (subL_cons rfl subL_nil)))) (fun W hm => hm) trivial
        exact QBs_nil
      ·
        rintro ⟨p39, A35, c36, A29, c30, A23, c24⟩ -
        show QM 119 _ _ _ .normal [(2, .pointer (some (⟨p15, 0, none⟩ : Addr))), (3, .pointer (some (⟨p16, 0, none⟩ : Addr))), (6, .pointer (some (⟨p39, 0, none⟩ : Addr))), (7, .bool (spec_ApplyUpdate_m (laws_toStore_m x0) (laws_toUpdate_m x1)).2)] [iBox p39 45 [.slice A35 (((spec_ApplyUpdate_m (laws_toStore_m x0) (laws_toUpdate_m x1)).1).Segments).length c36, .int .i64 (((spec_ApplyUpdate_m (laws_toStore_m x0) (laws_toUpdate_m x1)).1).Now)], iOwn (tSl (tSl tyVersion 102) 100) [.slice A35 (((spec_ApplyUpdate_m (laws_toStore_m x0) (laws_toUpdate_m x1)).1).Segments).length c36] (((spec_ApplyUpdate_m (laws_toStore_m x0) (laws_toUpdate_m x1)).1).Segments), iOwn (tSl tInt 3) [.slice A29 ((laws_toUpdate_m x1).Row.Values).length c30] ((laws_toUpdate_m x1).Row.Values), iOwn (tSl (tSl tyVersion 102) 100) [.slice A23 ((laws_toStore_m x0).Segments).length c24] ((laws_toStore_m x0).Segments), iBox p16 65 [.int .i64 x1.Kind, .int .i64 x1.Row.Id, .slice A11 x1.Row.Values.length c12, .int .i64 x1.Field, .int .i64 x1.Value], iBox p15 41 [.slice A4 x0.Segments.length c5, .int .i64 x0.Now]]
        refine QM_len (n := 1) rfl ?_
        intro m98 m99
        refine QM_len (n := 2) rfl ?_
        intro m100 m101
        refine QM_len (n := 3) rfl ?_
        intro m102 m103
        refine QM_then ?_
        refine sr ?_
        refine wv (fun W hm => rv_loadN (cs := [.slice A4 x0.Segments.length c5, .int .i64 x0.Now]) Try.underlying41 Try.type41 rfl rfl (hm.boxCells (n := 5) rfl)) ?_
        refine WM_call (χ := List Value) (val := fun x => .agg x.toArray) (js := fun x => [iOwn tyStore x (laws_toStore_m x0)]) (cl_fn cb28 rfl) (fun W hm => laws_toStore_c W _ x0 (tyLStore_mk (x := x0) (hm.rdS0 r7)) (smStore_wt (by omega))) (Wd_none rfl) (by decide) (fun z104 => ?_)
        refine WM_split (γ := Value) (js := fun g => [iOwn (tSl (tSl tyVersion 102) 100) [g] ((laws_toStore_m x0).Segments)]) (C := fun g => z104 = [g, .int .i64 ((laws_toStore_m x0).Now)]) (fun _ _ h => tyStore_split h) ?_
        rintro v105 rfl
        refine WM_form (n := 0) rfl ?_
        rintro A106 c107 rfl m108
        refine WM_alloc Try.type45 rfl (Wd_none rfl) (by decide) (fun p110 => ?_)
        refine WM_storeBox (p := p110) (o := 0) (cs := [.slice none 0 0, .int .i64 0]) (cs' := [.slice A106 ((laws_toStore_m x0).Segments).length c107, .int .i64 ((laws_toStore_m x0).Now)]) (js := [iOwn (tSl (tSl tyVersion 102) 100) [.slice A106 ((laws_toStore_m x0).Segments).length c107] ((laws_toStore_m x0).Segments), iBox p39 45 [.slice A35 (((spec_ApplyUpdate_m (laws_toStore_m x0) (laws_toUpdate_m x1)).1).Segments).length c36, .int .i64 (((spec_ApplyUpdate_m (laws_toStore_m x0) (laws_toUpdate_m x1)).1).Now)], iOwn (tSl (tSl tyVersion 102) 100) [.slice A35 (((spec_ApplyUpdate_m (laws_toStore_m x0) (laws_toUpdate_m x1)).1).Segments).length c36] (((spec_ApplyUpdate_m (laws_toStore_m x0) (laws_toUpdate_m x1)).1).Segments), iOwn (tSl tInt 3) [.slice A29 ((laws_toUpdate_m x1).Row.Values).length c30] ((laws_toUpdate_m x1).Row.Values), iOwn (tSl (tSl tyVersion 102) 100) [.slice A23 ((laws_toStore_m x0).Segments).length c24] ((laws_toStore_m x0).Segments), iBox p16 65 [.int .i64 x1.Kind, .int .i64 x1.Row.Id, .slice A11 x1.Row.Values.length c12, .int .i64 x1.Field, .int .i64 x1.Value], iBox p15 41 [.slice A4 x0.Segments.length c5, .int .i64 x0.Now]]) (fun W hm => hm) Try.type45 rfl (Nat.le_of_ble_eq_true rfl) rfl rfl rfl rfl (Wd_none rfl) ?_
        refine nt' ?_
        refine sr ?_
        refine wv (fun W hm => rv_loadN (cs := [.int .i64 x1.Kind, .int .i64 x1.Row.Id, .slice A11 x1.Row.Values.length c12, .int .i64 x1.Field, .int .i64 x1.Value]) Try.underlying65 Try.type65 rfl rfl (hm.boxCells (n := 6) rfl)) ?_
        refine WM_call (χ := List Value) (val := fun x => .agg x.toArray) (js := fun x => [iOwn tyUpdate x (laws_toUpdate_m x1)]) (cl_fn cb44 rfl) (fun W hm => laws_toUpdate_c W _ x1 (tyLUpdate_mk (x := x1) (hm.rdS0 r14)) (smUpdate_wt (by omega))) (Wd_none rfl) (by decide) (fun z111 => ?_)
        refine WM_split (γ := Value) (js := fun g => [iOwn (tSl tInt 3) [g] ((laws_toUpdate_m x1).Row.Values)]) (C := fun g => z111 = [.int .i64 ((laws_toUpdate_m x1).Kind), .int .i64 ((laws_toUpdate_m x1).Row.Id), g, .int .i64 ((laws_toUpdate_m x1).Field), .int .i64 ((laws_toUpdate_m x1).Value)]) (fun _ _ h => tyUpdate_split h) ?_
        rintro v112 rfl
        refine WM_form (n := 0) rfl ?_
        rintro A113 c114 rfl m115
        refine WM_alloc Try.type71 rfl (Wd_none rfl) (by decide) (fun p117 => ?_)
        refine WM_storeBox (p := p117) (o := 0) (cs := [.int .i64 0, .int .i64 0, .slice none 0 0, .int .i64 0, .int .i64 0]) (cs' := [.int .i64 ((laws_toUpdate_m x1).Kind), .int .i64 ((laws_toUpdate_m x1).Row.Id), .slice A113 ((laws_toUpdate_m x1).Row.Values).length c114, .int .i64 ((laws_toUpdate_m x1).Field), .int .i64 ((laws_toUpdate_m x1).Value)]) (js := [iOwn (tSl tInt 3) [.slice A113 ((laws_toUpdate_m x1).Row.Values).length c114] ((laws_toUpdate_m x1).Row.Values), iBox p110 45 [.slice A106 ((laws_toStore_m x0).Segments).length c107, .int .i64 ((laws_toStore_m x0).Now)], iOwn (tSl (tSl tyVersion 102) 100) [.slice A106 ((laws_toStore_m x0).Segments).length c107] ((laws_toStore_m x0).Segments), iBox p39 45 [.slice A35 (((spec_ApplyUpdate_m (laws_toStore_m x0) (laws_toUpdate_m x1)).1).Segments).length c36, .int .i64 (((spec_ApplyUpdate_m (laws_toStore_m x0) (laws_toUpdate_m x1)).1).Now)], iOwn (tSl (tSl tyVersion 102) 100) [.slice A35 (((spec_ApplyUpdate_m (laws_toStore_m x0) (laws_toUpdate_m x1)).1).Segments).length c36] (((spec_ApplyUpdate_m (laws_toStore_m x0) (laws_toUpdate_m x1)).1).Segments), iOwn (tSl tInt 3) [.slice A29 ((laws_toUpdate_m x1).Row.Values).length c30] ((laws_toUpdate_m x1).Row.Values), iOwn (tSl (tSl tyVersion 102) 100) [.slice A23 ((laws_toStore_m x0).Segments).length c24] ((laws_toStore_m x0).Segments), iBox p16 65 [.int .i64 x1.Kind, .int .i64 x1.Row.Id, .slice A11 x1.Row.Values.length c12, .int .i64 x1.Field, .int .i64 x1.Value], iBox p15 41 [.slice A4 x0.Segments.length c5, .int .i64 x0.Now]]) (fun W hm => hm) Try.type71 rfl (Nat.le_of_ble_eq_true rfl) rfl rfl rfl rfl (Wd_none rfl) ?_
        refine nt' ?_
        refine sr ?_
        refine wv (fun W hm => rv_loadN (cs := [.slice A106 ((laws_toStore_m x0).Segments).length c107, .int .i64 ((laws_toStore_m x0).Now)]) Try.underlying45 Try.type45 rfl rfl (hm.boxCells (n := 2) rfl)) ?_
        refine wv (fun W hm => rv_loadN (cs := [.int .i64 ((laws_toUpdate_m x1).Kind), .int .i64 ((laws_toUpdate_m x1).Row.Id), .slice A113 ((laws_toUpdate_m x1).Row.Values).length c114, .int .i64 ((laws_toUpdate_m x1).Field), .int .i64 ((laws_toUpdate_m x1).Value)]) Try.underlying71 Try.type71 rfl rfl (hm.boxCells (n := 0) rfl)) ?_
        refine WM_call (χ := List Value) (val := fun x => .tuple #[.agg x.toArray, .bool ((impl_ApplyUpdate_m (laws_toStore_m x0) (laws_toUpdate_m x1)).2)]) (js := fun x => [iOwn tyStore x ((impl_ApplyUpdate_m (laws_toStore_m x0) (laws_toUpdate_m x1)).1)]) (cl_fn cb45 rfl) (fun W hm => impl_ApplyUpdate_c W _ (laws_toStore_m x0) _ (laws_toUpdate_m x1) (tyStore_mk (x := (laws_toStore_m x0)) (hm.rdSI (n := 3) rfl)) (tyUpdate_mk (x := (laws_toUpdate_m x1)) (hm.rdSI (n := 1) rfl)) (by rw [laws_toStore_eq]; exact (smStore_wt (by omega))) (by rw [laws_toUpdate_eq]; exact (smUpdate_wt (by omega)))) (Wd_none rfl) (by decide) (fun z118 => ?_)
        refine WM_split (γ := Value) (js := fun g => [iOwn (tSl (tSl tyVersion 102) 100) [g] (((impl_ApplyUpdate_m (laws_toStore_m x0) (laws_toUpdate_m x1)).1).Segments)]) (C := fun g => z118 = [g, .int .i64 (((impl_ApplyUpdate_m (laws_toStore_m x0) (laws_toUpdate_m x1)).1).Now)]) (fun _ _ h => tyStore_split h) ?_
        rintro v119 rfl
        refine WM_form (n := 0) rfl ?_
        rintro A120 c121 rfl m122
        refine wm ?_
        refine wv (fun W hm => rv_extract rfl rfl) ?_
        refine wv (fun W hm => rv_extract rfl rfl) ?_
        refine WM_alloc Try.type45 rfl (Wd_none rfl) (by decide) (fun p124 => ?_)
        refine WM_storeBox (p := p124) (o := 0) (cs := [.slice none 0 0, .int .i64 0]) (cs' := [.slice A120 (((impl_ApplyUpdate_m (laws_toStore_m x0) (laws_toUpdate_m x1)).1).Segments).length c121, .int .i64 (((impl_ApplyUpdate_m (laws_toStore_m x0) (laws_toUpdate_m x1)).1).Now)]) (js := [iOwn (tSl (tSl tyVersion 102) 100) [.slice A120 (((impl_ApplyUpdate_m (laws_toStore_m x0) (laws_toUpdate_m x1)).1).Segments).length c121] (((impl_ApplyUpdate_m (laws_toStore_m x0) (laws_toUpdate_m x1)).1).Segments), iBox p117 71 [.int .i64 ((laws_toUpdate_m x1).Kind), .int .i64 ((laws_toUpdate_m x1).Row.Id), .slice A113 ((laws_toUpdate_m x1).Row.Values).length c114, .int .i64 ((laws_toUpdate_m x1).Field), .int .i64 ((laws_toUpdate_m x1).Value)], iOwn (tSl tInt 3) [.slice A113 ((laws_toUpdate_m x1).Row.Values).length c114] ((laws_toUpdate_m x1).Row.Values), iBox p110 45 [.slice A106 ((laws_toStore_m x0).Segments).length c107, .int .i64 ((laws_toStore_m x0).Now)], iOwn (tSl (tSl tyVersion 102) 100) [.slice A106 ((laws_toStore_m x0).Segments).length c107] ((laws_toStore_m x0).Segments), iBox p39 45 [.slice A35 (((spec_ApplyUpdate_m (laws_toStore_m x0) (laws_toUpdate_m x1)).1).Segments).length c36, .int .i64 (((spec_ApplyUpdate_m (laws_toStore_m x0) (laws_toUpdate_m x1)).1).Now)], iOwn (tSl (tSl tyVersion 102) 100) [.slice A35 (((spec_ApplyUpdate_m (laws_toStore_m x0) (laws_toUpdate_m x1)).1).Segments).length c36] (((spec_ApplyUpdate_m (laws_toStore_m x0) (laws_toUpdate_m x1)).1).Segments), iOwn (tSl tInt 3) [.slice A29 ((laws_toUpdate_m x1).Row.Values).length c30] ((laws_toUpdate_m x1).Row.Values), iOwn (tSl (tSl tyVersion 102) 100) [.slice A23 ((laws_toStore_m x0).Segments).length c24] ((laws_toStore_m x0).Segments), iBox p16 65 [.int .i64 x1.Kind, .int .i64 x1.Row.Id, .slice A11 x1.Row.Values.length c12, .int .i64 x1.Field, .int .i64 x1.Value], iBox p15 41 [.slice A4 x0.Segments.length c5, .int .i64 x0.Now]]) (fun W hm => hm) Try.type45 rfl (Nat.le_of_ble_eq_true rfl) rfl rfl rfl rfl (Wd_none rfl) ?_
        refine wa ?_
        refine nt' ?_
        refine CM_seq ?_
        refine sr ?_
        refine wv (fun W hm => rv_loadN (cs := [.slice A120 (((impl_ApplyUpdate_m (laws_toStore_m x0) (laws_toUpdate_m x1)).1).Segments).length c121, .int .i64 (((impl_ApplyUpdate_m (laws_toStore_m x0) (laws_toUpdate_m x1)).1).Now)]) Try.underlying45 Try.type45 rfl rfl (hm.boxCells (n := 0) rfl)) ?_
        refine wv (fun W hm => rv_loadN (cs := [.slice A35 (((spec_ApplyUpdate_m (laws_toStore_m x0) (laws_toUpdate_m x1)).1).Segments).length c36, .int .i64 (((spec_ApplyUpdate_m (laws_toStore_m x0) (laws_toUpdate_m x1)).1).Now)]) Try.underlying45 Try.type45 rfl rfl (hm.boxCells (n := 6) rfl)) ?_
        refine WM_callV (cl_fn cb30 rfl) (fun W hm => laws_eqStore_c W _ ((impl_ApplyUpdate_m (laws_toStore_m x0) (laws_toUpdate_m x1)).1) _ ((spec_ApplyUpdate_m (laws_toStore_m x0) (laws_toUpdate_m x1)).1) (tyStore_mk (x := ((impl_ApplyUpdate_m (laws_toStore_m x0) (laws_toUpdate_m x1)).1)) (hm.rdSI (n := 1) rfl)) (tyStore_mk (x := ((spec_ApplyUpdate_m (laws_toStore_m x0) (laws_toUpdate_m x1)).1)) (hm.rdSI (n := 7) rfl))) (Wd_none rfl) (by decide) ?_
        refine wv (fun W hm => rv_not rfl) ?_
        refine wm ?_
        rcases Bool.eq_false_or_eq_true (laws_eqStore_m ((impl_ApplyUpdate_m (laws_toStore_m x0) (laws_toUpdate_m x1)).1) ((spec_ApplyUpdate_m (laws_toStore_m x0) (laws_toUpdate_m x1)).1)) with g126 | g126
        ·
          refine wg (fun W hm => rv_move rfl) (nt g126) ?_
          refine wg (fun W hm => rv_move rfl) (nt g126) ?_
          refine wg (fun W hm => rv_neqB Try.underlying4 rfl rfl) (nt g126) ?_
          refine wv (fun W hm => rv_pickF rfl (nt g126) rfl) ?_
          refine nt' ?_
          rcases Bool.eq_false_or_eq_true ((impl_ApplyUpdate_m (laws_toStore_m x0) (laws_toUpdate_m x1)).2 != (spec_ApplyUpdate_m (laws_toStore_m x0) (laws_toUpdate_m x1)).2) with g128 | g128
          ·
            refine CM_condT rfl g128 ?_
            refine CM_seq ?_
            refine CM_items (fun W hm => (hm.pick [] (by decide))) ?_
            refine CM_region ?_
            refine wa ?_
            refine nt' ?_
            refine CM_ret ?_
            refine QM_then_ret ?_
            exact QM_ret1 rfl rfl (fun W hm => ⟨ret_b (show laws_FnExactApplyUpdate_m x0 x1 = false from by unfold laws_FnExactApplyUpdate_m; exact cond_f g18 (cond_f g20 (cond_t g126 (cond_t g128 (rfl))))), hm.below⟩)
          ·
            refine CM_condF rfl g128 ?_
            refine CM_skip ?_
            refine QM_then ?_
            refine CM_seq ?_
            refine CM_seq ?_
            refine CM_regionB (n := 5) (listed := #[false, false, false, false, false]) (s := [iBox p124 45 [.slice A120 (((impl_ApplyUpdate_m (laws_toStore_m x0) (laws_toUpdate_m x1)).1).Segments).length c121, .int .i64 (((impl_ApplyUpdate_m (laws_toStore_m x0) (laws_toUpdate_m x1)).1).Now)], iOwn (tSl (tSl tyVersion 102) 100) [.slice A120 (((impl_ApplyUpdate_m (laws_toStore_m x0) (laws_toUpdate_m x1)).1).Segments).length c121] (((impl_ApplyUpdate_m (laws_toStore_m x0) (laws_toUpdate_m x1)).1).Segments), iBox p117 71 [.int .i64 ((laws_toUpdate_m x1).Kind), .int .i64 ((laws_toUpdate_m x1).Row.Id), .slice A113 ((laws_toUpdate_m x1).Row.Values).length c114, .int .i64 ((laws_toUpdate_m x1).Field), .int .i64 ((laws_toUpdate_m x1).Value)], iOwn (tSl tInt 3) [.slice A113 ((laws_toUpdate_m x1).Row.Values).length c114] ((laws_toUpdate_m x1).Row.Values), iBox p110 45 [.slice A106 ((laws_toStore_m x0).Segments).length c107, .int .i64 ((laws_toStore_m x0).Now)], iOwn (tSl (tSl tyVersion 102) 100) [.slice A106 ((laws_toStore_m x0).Segments).length c107] ((laws_toStore_m x0).Segments), iBox p39 45 [.slice A35 (((spec_ApplyUpdate_m (laws_toStore_m x0) (laws_toUpdate_m x1)).1).Segments).length c36, .int .i64 (((spec_ApplyUpdate_m (laws_toStore_m x0) (laws_toUpdate_m x1)).1).Now)], iOwn (tSl (tSl tyVersion 102) 100) [.slice A35 (((spec_ApplyUpdate_m (laws_toStore_m x0) (laws_toUpdate_m x1)).1).Segments).length c36] (((spec_ApplyUpdate_m (laws_toStore_m x0) (laws_toUpdate_m x1)).1).Segments), iOwn (tSl tInt 3) [.slice A29 ((laws_toUpdate_m x1).Row.Values).length c30] ((laws_toUpdate_m x1).Row.Values), iOwn (tSl (tSl tyVersion 102) 100) [.slice A23 ((laws_toStore_m x0).Segments).length c24] ((laws_toStore_m x0).Segments), iBox p16 65 [.int .i64 x1.Kind, .int .i64 x1.Row.Id, .slice A11 x1.Row.Values.length c12, .int .i64 x1.Field, .int .i64 x1.Value], iBox p15 41 [.slice A4 x0.Segments.length c5, .int .i64 x0.Now]]) (by kernel_rfl) rfl (by kernel_rfl) (fun W hm => hm) ?_
            refine QB_take 0 (listed' := #[true, false, false, false, false]) (by kernel_rfl) rfl (by kernel_rfl) (by kernel_rfl) (by kernel_rfl) (fun _ _ _ h => h) (fun W hm => rv_loadN (cs := [.slice A106 ((laws_toStore_m x0).Segments).length c107, .int .i64 ((laws_toStore_m x0).Now)]) Try.underlying45 Try.type45 rfl rfl (hm.boxCells (n := 4) rfl)) (Wd_none rfl) rfl (by decide) ?_
            refine QB_take 1 (listed' := #[true, true, false, false, false]) (by kernel_rfl) rfl (by kernel_rfl) (by kernel_rfl) (by kernel_rfl) (fun _ _ _ h => h) (fun W hm => rv_loadN (cs := [.slice A4 x0.Segments.length c5, .int .i64 x0.Now]) Try.underlying41 Try.type41 rfl rfl (hm.boxCells (n := 11) rfl)) (Wd_none rfl) rfl (by decide) ?_
            refine QB_one 2 (listed' := #[true, true, true, false, false]) (by kernel_rfl) rfl (by kernel_rfl) ?_
            refine WM_call (χ := List Value) (val := fun x => .agg x.toArray) (js := fun x => [iOwn tyStore x (laws_toStore_m x0)]) (cl_fn cb28 rfl) (fun W hm => laws_toStore_c W _ x0 (tyLStore_mk (x := x0) (hm.rdS0 r7)) (smStore_wt (by omega))) (Wd_none rfl) (by decide) (fun z129 => ?_)
            refine WM_split (γ := Value) (js := fun g => [iOwn (tSl (tSl tyVersion 102) 100) [g] ((laws_toStore_m x0).Segments)]) (C := fun g => z129 = [g, .int .i64 ((laws_toStore_m x0).Now)]) (fun _ _ h => tyStore_split h) ?_
            rintro v130 rfl
            refine WM_form (n := 0) rfl ?_
            rintro A131 c132 rfl m133
            refine WM_nil ?_
            refine QB_next (fun W hm => (hm.pick [1, 2, 3, 4, 5, 6, 7, 8, 9, 10, 11, 12] (by decide))) ?_
            refine QB_one 3 (listed' := #[true, true, true, true, false]) (by kernel_rfl) rfl (by kernel_rfl) ?_
            refine WM_callV (cl_fn cb30 rfl) (fun W hm => laws_eqStore_c W _ (laws_toStore_m x0) _ (laws_toStore_m x0) (tyStore_mk (x := (laws_toStore_m x0)) (hm.rdSI (n := 6) rfl)) (tyStore_mk (x := (laws_toStore_m x0)) (hm.rdSI (n := 0) rfl))) (Wd_none rfl) (by decide) ?_
            refine WM_nil ?_
            refine QB_next (fun W hm => (hm.pick [1, 2, 3, 4, 5, 6, 7, 8, 9, 10, 11, 12] (by decide))) ?_
            refine QB_take 4 (listed' := #[true, true, true, true, true]) (by kernel_rfl) rfl (by kernel_rfl) (by kernel_rfl) (by kernel_rfl) (fun _ _ _ h => h) (fun W hm => rv_not rfl) (Wd_none rfl) rfl (by decide) ?_
            refine QB_done (by kernel_rfl) ?_
            refine QM_then ?_
            rcases Bool.eq_false_or_eq_true (laws_eqStore_m (laws_toStore_m x0) (laws_toStore_m x0)) with g136 | g136
            ·
              refine CM_condF rfl (nt g136) ?_
              refine CM_skip ?_
              refine QM_then ?_
              refine CM_seq ?_
              refine CM_seq ?_
              refine CM_items (fun W hm => (hm.pick [1, 2, 3, 4, 5, 6, 7, 8, 11, 12] (by decide))) ?_
              refine CM_regionB (n := 5) (listed := #[false, false, false, false, false]) (s := [iBox p124 45 [.slice A120 (((impl_ApplyUpdate_m (laws_toStore_m x0) (laws_toUpdate_m x1)).1).Segments).length c121, .int .i64 (((impl_ApplyUpdate_m (laws_toStore_m x0) (laws_toUpdate_m x1)).1).Now)], iOwn (tSl (tSl tyVersion 102) 100) [.slice A120 (((impl_ApplyUpdate_m (laws_toStore_m x0) (laws_toUpdate_m x1)).1).Segments).length c121] (((impl_ApplyUpdate_m (laws_toStore_m x0) (laws_toUpdate_m x1)).1).Segments), iBox p117 71 [.int .i64 ((laws_toUpdate_m x1).Kind), .int .i64 ((laws_toUpdate_m x1).Row.Id), .slice A113 ((laws_toUpdate_m x1).Row.Values).length c114, .int .i64 ((laws_toUpdate_m x1).Field), .int .i64 ((laws_toUpdate_m x1).Value)], iOwn (tSl tInt 3) [.slice A113 ((laws_toUpdate_m x1).Row.Values).length c114] ((laws_toUpdate_m x1).Row.Values), iBox p110 45 [.slice A106 ((laws_toStore_m x0).Segments).length c107, .int .i64 ((laws_toStore_m x0).Now)], iOwn (tSl (tSl tyVersion 102) 100) [.slice A106 ((laws_toStore_m x0).Segments).length c107] ((laws_toStore_m x0).Segments), iBox p39 45 [.slice A35 (((spec_ApplyUpdate_m (laws_toStore_m x0) (laws_toUpdate_m x1)).1).Segments).length c36, .int .i64 (((spec_ApplyUpdate_m (laws_toStore_m x0) (laws_toUpdate_m x1)).1).Now)], iOwn (tSl (tSl tyVersion 102) 100) [.slice A35 (((spec_ApplyUpdate_m (laws_toStore_m x0) (laws_toUpdate_m x1)).1).Segments).length c36] (((spec_ApplyUpdate_m (laws_toStore_m x0) (laws_toUpdate_m x1)).1).Segments), iBox p16 65 [.int .i64 x1.Kind, .int .i64 x1.Row.Id, .slice A11 x1.Row.Values.length c12, .int .i64 x1.Field, .int .i64 x1.Value], iBox p15 41 [.slice A4 x0.Segments.length c5, .int .i64 x0.Now]]) (by kernel_rfl) rfl (by kernel_rfl) (fun W hm => hm) ?_
              refine QB_take 0 (listed' := #[true, false, false, false, false]) (by kernel_rfl) rfl (by kernel_rfl) (by kernel_rfl) (by kernel_rfl) (fun _ _ _ h => h) (fun W hm => rv_loadN (cs := [.int .i64 ((laws_toUpdate_m x1).Kind), .int .i64 ((laws_toUpdate_m x1).Row.Id), .slice A113 ((laws_toUpdate_m x1).Row.Values).length c114, .int .i64 ((laws_toUpdate_m x1).Field), .int .i64 ((laws_toUpdate_m x1).Value)]) Try.underlying71 Try.type71 rfl rfl (hm.boxCells (n := 2) rfl)) (Wd_none rfl) rfl (by decide) ?_
              refine QB_take 1 (listed' := #[true, true, false, false, false]) (by kernel_rfl) rfl (by kernel_rfl) (by kernel_rfl) (by kernel_rfl) (fun _ _ _ h => h) (fun W hm => rv_loadN (cs := [.int .i64 x1.Kind, .int .i64 x1.Row.Id, .slice A11 x1.Row.Values.length c12, .int .i64 x1.Field, .int .i64 x1.Value]) Try.underlying65 Try.type65 rfl rfl (hm.boxCells (n := 8) rfl)) (Wd_none rfl) rfl (by decide) ?_
              refine QB_one 2 (listed' := #[true, true, true, false, false]) (by kernel_rfl) rfl (by kernel_rfl) ?_
              refine WM_call (χ := List Value) (val := fun x => .agg x.toArray) (js := fun x => [iOwn tyUpdate x (laws_toUpdate_m x1)]) (cl_fn cb44 rfl) (fun W hm => laws_toUpdate_c W _ x1 (tyLUpdate_mk (x := x1) (hm.rdS0 r14)) (smUpdate_wt (by omega))) (Wd_none rfl) (by decide) (fun z137 => ?_)
              refine WM_split (γ := Value) (js := fun g => [iOwn (tSl tInt 3) [g] ((laws_toUpdate_m x1).Row.Values)]) (C := fun g => z137 = [.int .i64 ((laws_toUpdate_m x1).Kind), .int .i64 ((laws_toUpdate_m x1).Row.Id), g, .int .i64 ((laws_toUpdate_m x1).Field), .int .i64 ((laws_toUpdate_m x1).Value)]) (fun _ _ h => tyUpdate_split h) ?_
              rintro v138 rfl
              refine WM_form (n := 0) rfl ?_
              rintro A139 c140 rfl m141
              refine WM_nil ?_
              refine QB_next (fun W hm => (hm.pick [1, 2, 3, 4, 5, 6, 7, 8, 9, 10] (by decide))) ?_
              refine QB_one 3 (listed' := #[true, true, true, true, false]) (by kernel_rfl) rfl (by kernel_rfl) ?_
              refine WM_callV (cl_fn cb46 rfl) (fun W hm => laws_eqUpdate_c W _ (laws_toUpdate_m x1) _ (laws_toUpdate_m x1) (tyUpdate_mk (x := (laws_toUpdate_m x1)) (hm.rdSI (n := 4) rfl)) (tyUpdate_mk (x := (laws_toUpdate_m x1)) (hm.rdSI (n := 0) rfl))) (Wd_none rfl) (by decide) ?_
              refine WM_nil ?_
              refine QB_next (fun W hm => (hm.pick [1, 2, 3, 4, 5, 6, 7, 8, 9, 10] (by decide))) ?_
              refine QB_take 4 (listed' := #[true, true, true, true, true]) (by kernel_rfl) rfl (by kernel_rfl) (by kernel_rfl) (by kernel_rfl) (fun _ _ _ h => h) (fun W hm => rv_not rfl) (Wd_none rfl) rfl (by decide) ?_
              refine QB_done (by kernel_rfl) ?_
              refine QM_then ?_
              rcases Bool.eq_false_or_eq_true (laws_eqUpdate_m (laws_toUpdate_m x1) (laws_toUpdate_m x1)) with g144 | g144
              ·
                refine CM_condF rfl (nt g144) ?_
                refine CM_skip ?_
                refine QM_then ?_
                refine sr ?_
                refine wa ?_
                refine nt' ?_
                refine sr ?_
                refine wv (fun W hm => rv_loadN (cs := [.slice A106 ((laws_toStore_m x0).Segments).length c107, .int .i64 ((laws_toStore_m x0).Now)]) Try.underlying45 Try.type45 rfl rfl (hm.boxCells (n := 5) rfl)) ?_
                refine wm ?_
                refine WM_items (js := (iOwn tyStore [.slice A106 ((laws_toStore_m x0).Segments).length c107, .int .i64 ((laws_toStore_m x0).Now)] (laws_toStore_m x0) :: [iOwn (tSl tInt 3) [.slice A139 ((laws_toUpdate_m x1).Row.Values).length c140] ((laws_toUpdate_m x1).Row.Values), iBox p124 45 [.slice A120 (((impl_ApplyUpdate_m (laws_toStore_m x0) (laws_toUpdate_m x1)).1).Segments).length c121, .int .i64 (((impl_ApplyUpdate_m (laws_toStore_m x0) (laws_toUpdate_m x1)).1).Now)], iOwn (tSl (tSl tyVersion 102) 100) [.slice A120 (((impl_ApplyUpdate_m (laws_toStore_m x0) (laws_toUpdate_m x1)).1).Segments).length c121] (((impl_ApplyUpdate_m (laws_toStore_m x0) (laws_toUpdate_m x1)).1).Segments), iBox p117 71 [.int .i64 ((laws_toUpdate_m x1).Kind), .int .i64 ((laws_toUpdate_m x1).Row.Id), .slice A113 ((laws_toUpdate_m x1).Row.Values).length c114, .int .i64 ((laws_toUpdate_m x1).Field), .int .i64 ((laws_toUpdate_m x1).Value)], iOwn (tSl tInt 3) [.slice A113 ((laws_toUpdate_m x1).Row.Values).length c114] ((laws_toUpdate_m x1).Row.Values), iBox p110 45 [.slice A106 ((laws_toStore_m x0).Segments).length c107, .int .i64 ((laws_toStore_m x0).Now)], iBox p39 45 [.slice A35 (((spec_ApplyUpdate_m (laws_toStore_m x0) (laws_toUpdate_m x1)).1).Segments).length c36, .int .i64 (((spec_ApplyUpdate_m (laws_toStore_m x0) (laws_toUpdate_m x1)).1).Now)], iOwn (tSl (tSl tyVersion 102) 100) [.slice A35 (((spec_ApplyUpdate_m (laws_toStore_m x0) (laws_toUpdate_m x1)).1).Segments).length c36] (((spec_ApplyUpdate_m (laws_toStore_m x0) (laws_toUpdate_m x1)).1).Segments), iBox p16 65 [.int .i64 x1.Kind, .int .i64 x1.Row.Id, .slice A11 x1.Row.Values.length c12, .int .i64 x1.Field, .int .i64 x1.Value], iBox p15 41 [.slice A4 x0.Segments.length c5, .int .i64 x0.Now]])) (fun W hm => Mem.join (is := [iOwn (tSl (tSl tyVersion 102) 100) [.slice A106 ((laws_toStore_m x0).Segments).length c107] ((laws_toStore_m x0).Segments)]) (js := [iOwn (tSl tInt 3) [.slice A139 ((laws_toUpdate_m x1).Row.Values).length c140] ((laws_toUpdate_m x1).Row.Values), iBox p124 45 [.slice A120 (((impl_ApplyUpdate_m (laws_toStore_m x0) (laws_toUpdate_m x1)).1).Segments).length c121, .int .i64 (((impl_ApplyUpdate_m (laws_toStore_m x0) (laws_toUpdate_m x1)).1).Now)], iOwn (tSl (tSl tyVersion 102) 100) [.slice A120 (((impl_ApplyUpdate_m (laws_toStore_m x0) (laws_toUpdate_m x1)).1).Segments).length c121] (((impl_ApplyUpdate_m (laws_toStore_m x0) (laws_toUpdate_m x1)).1).Segments), iBox p117 71 [.int .i64 ((laws_toUpdate_m x1).Kind), .int .i64 ((laws_toUpdate_m x1).Row.Id), .slice A113 ((laws_toUpdate_m x1).Row.Values).length c114, .int .i64 ((laws_toUpdate_m x1).Field), .int .i64 ((laws_toUpdate_m x1).Value)], iOwn (tSl tInt 3) [.slice A113 ((laws_toUpdate_m x1).Row.Values).length c114] ((laws_toUpdate_m x1).Row.Values), iBox p110 45 [.slice A106 ((laws_toStore_m x0).Segments).length c107, .int .i64 ((laws_toStore_m x0).Now)], iBox p39 45 [.slice A35 (((spec_ApplyUpdate_m (laws_toStore_m x0) (laws_toUpdate_m x1)).1).Segments).length c36, .int .i64 (((spec_ApplyUpdate_m (laws_toStore_m x0) (laws_toUpdate_m x1)).1).Now)], iOwn (tSl (tSl tyVersion 102) 100) [.slice A35 (((spec_ApplyUpdate_m (laws_toStore_m x0) (laws_toUpdate_m x1)).1).Segments).length c36] (((spec_ApplyUpdate_m (laws_toStore_m x0) (laws_toUpdate_m x1)).1).Segments), iBox p16 65 [.int .i64 x1.Kind, .int .i64 x1.Row.Id, .slice A11 x1.Row.Values.length c12, .int .i64 x1.Field, .int .i64 x1.Value], iBox p15 41 [.slice A4 x0.Segments.length c5, .int .i64 x0.Now]]) (fun _ _ hs => tyStore_join (x := (laws_toStore_m x0)) hs) (hm.pick [6, 0, 1, 2, 3, 4, 5, 7, 8, 9, 10] (by decide))) ?_
                refine WM_callW (χ := Unit) (val := fun _ => .int .i64 (laws_markStore_m (laws_toStore_m x0) 1).1) (js := fun _ => (iOwn tyStore [.slice A106 ((laws_toStore_m x0).Segments).length c107, .int .i64 ((laws_toStore_m x0).Now)] (laws_markStore_m (laws_toStore_m x0) 1).2 :: [iOwn (tSl tInt 3) [.slice A139 ((laws_toUpdate_m x1).Row.Values).length c140] ((laws_toUpdate_m x1).Row.Values), iBox p124 45 [.slice A120 (((impl_ApplyUpdate_m (laws_toStore_m x0) (laws_toUpdate_m x1)).1).Segments).length c121, .int .i64 (((impl_ApplyUpdate_m (laws_toStore_m x0) (laws_toUpdate_m x1)).1).Now)], iOwn (tSl (tSl tyVersion 102) 100) [.slice A120 (((impl_ApplyUpdate_m (laws_toStore_m x0) (laws_toUpdate_m x1)).1).Segments).length c121] (((impl_ApplyUpdate_m (laws_toStore_m x0) (laws_toUpdate_m x1)).1).Segments), iBox p117 71 [.int .i64 ((laws_toUpdate_m x1).Kind), .int .i64 ((laws_toUpdate_m x1).Row.Id), .slice A113 ((laws_toUpdate_m x1).Row.Values).length c114, .int .i64 ((laws_toUpdate_m x1).Field), .int .i64 ((laws_toUpdate_m x1).Value)], iOwn (tSl tInt 3) [.slice A113 ((laws_toUpdate_m x1).Row.Values).length c114] ((laws_toUpdate_m x1).Row.Values), iBox p110 45 [.slice A106 ((laws_toStore_m x0).Segments).length c107, .int .i64 ((laws_toStore_m x0).Now)], iBox p39 45 [.slice A35 (((spec_ApplyUpdate_m (laws_toStore_m x0) (laws_toUpdate_m x1)).1).Segments).length c36, .int .i64 (((spec_ApplyUpdate_m (laws_toStore_m x0) (laws_toUpdate_m x1)).1).Now)], iOwn (tSl (tSl tyVersion 102) 100) [.slice A35 (((spec_ApplyUpdate_m (laws_toStore_m x0) (laws_toUpdate_m x1)).1).Segments).length c36] (((spec_ApplyUpdate_m (laws_toStore_m x0) (laws_toUpdate_m x1)).1).Segments), iBox p16 65 [.int .i64 x1.Kind, .int .i64 x1.Row.Id, .slice A11 x1.Row.Values.length c12, .int .i64 x1.Field, .int .i64 x1.Value], iBox p15 41 [.slice A4 x0.Segments.length c5, .int .i64 x0.Now]])) (cl_fn cb31 rfl) (fun W hm => (laws_markStore_c w.heap.size w [iOwn (tSl tInt 3) [.slice A139 ((laws_toUpdate_m x1).Row.Values).length c140] ((laws_toUpdate_m x1).Row.Values), iBox p124 45 [.slice A120 (((impl_ApplyUpdate_m (laws_toStore_m x0) (laws_toUpdate_m x1)).1).Segments).length c121, .int .i64 (((impl_ApplyUpdate_m (laws_toStore_m x0) (laws_toUpdate_m x1)).1).Now)], iOwn (tSl (tSl tyVersion 102) 100) [.slice A120 (((impl_ApplyUpdate_m (laws_toStore_m x0) (laws_toUpdate_m x1)).1).Segments).length c121] (((impl_ApplyUpdate_m (laws_toStore_m x0) (laws_toUpdate_m x1)).1).Segments), iBox p117 71 [.int .i64 ((laws_toUpdate_m x1).Kind), .int .i64 ((laws_toUpdate_m x1).Row.Id), .slice A113 ((laws_toUpdate_m x1).Row.Values).length c114, .int .i64 ((laws_toUpdate_m x1).Field), .int .i64 ((laws_toUpdate_m x1).Value)], iOwn (tSl tInt 3) [.slice A113 ((laws_toUpdate_m x1).Row.Values).length c114] ((laws_toUpdate_m x1).Row.Values), iBox p110 45 [.slice A106 ((laws_toStore_m x0).Segments).length c107, .int .i64 ((laws_toStore_m x0).Now)], iBox p39 45 [.slice A35 (((spec_ApplyUpdate_m (laws_toStore_m x0) (laws_toUpdate_m x1)).1).Segments).length c36, .int .i64 (((spec_ApplyUpdate_m (laws_toStore_m x0) (laws_toUpdate_m x1)).1).Now)], iOwn (tSl (tSl tyVersion 102) 100) [.slice A35 (((spec_ApplyUpdate_m (laws_toStore_m x0) (laws_toUpdate_m x1)).1).Segments).length c36] (((spec_ApplyUpdate_m (laws_toStore_m x0) (laws_toUpdate_m x1)).1).Segments), iBox p16 65 [.int .i64 x1.Kind, .int .i64 x1.Row.Id, .slice A11 x1.Row.Values.length c12, .int .i64 x1.Field, .int .i64 x1.Value], iBox p15 41 [.slice A4 x0.Segments.length c5, .int .i64 x0.Now]] W [.slice A106 ((laws_toStore_m x0).Segments).length c107, .int .i64 ((laws_toStore_m x0).Now)] (laws_toStore_m x0) 1 hm).mono (fun _ _ h => ⟨(), h.1, h.2⟩)) (Wd_none rfl) (by decide) (fun _ => ?_)
                refine WM_split (γ := Value) (js := fun g => [iOwn (tSl (tSl tyVersion 102) 100) [g] ((laws_markStore_m (laws_toStore_m x0) 1).2.Segments)]) (C := fun g => [.slice A106 ((laws_toStore_m x0).Segments).length c107, .int .i64 ((laws_toStore_m x0).Now)] = [g, .int .i64 ((laws_markStore_m (laws_toStore_m x0) 1).2.Now)]) (fun _ _ h => tyStore_split h) ?_
                rintro v146 h145
                simp only [List.cons.injEq] at h145
                obtain ⟨rfl, -, -⟩ := h145
                refine wa ?_
                refine nt' ?_
                refine CM_seq ?_
                refine CM_items (fun W hm => (hm.pick [2, 3, 4, 5, 7, 8, 9, 10] (by decide))) ?_
                refine CM_region ?_
                refine wv (fun W hm => rv_loadN (cs := [.int .i64 ((laws_toUpdate_m x1).Kind), .int .i64 ((laws_toUpdate_m x1).Row.Id), .slice A113 ((laws_toUpdate_m x1).Row.Values).length c114, .int .i64 ((laws_toUpdate_m x1).Field), .int .i64 ((laws_toUpdate_m x1).Value)]) Try.underlying71 Try.type71 rfl rfl (hm.boxCells (n := 2) rfl)) ?_
                refine wm ?_
                refine WM_items (js := (iOwn tyUpdate [.int .i64 ((laws_toUpdate_m x1).Kind), .int .i64 ((laws_toUpdate_m x1).Row.Id), .slice A113 ((laws_toUpdate_m x1).Row.Values).length c114, .int .i64 ((laws_toUpdate_m x1).Field), .int .i64 ((laws_toUpdate_m x1).Value)] (laws_toUpdate_m x1) :: [iBox p124 45 [.slice A120 (((impl_ApplyUpdate_m (laws_toStore_m x0) (laws_toUpdate_m x1)).1).Segments).length c121, .int .i64 (((impl_ApplyUpdate_m (laws_toStore_m x0) (laws_toUpdate_m x1)).1).Now)], iOwn (tSl (tSl tyVersion 102) 100) [.slice A120 (((impl_ApplyUpdate_m (laws_toStore_m x0) (laws_toUpdate_m x1)).1).Segments).length c121] (((impl_ApplyUpdate_m (laws_toStore_m x0) (laws_toUpdate_m x1)).1).Segments), iBox p117 71 [.int .i64 ((laws_toUpdate_m x1).Kind), .int .i64 ((laws_toUpdate_m x1).Row.Id), .slice A113 ((laws_toUpdate_m x1).Row.Values).length c114, .int .i64 ((laws_toUpdate_m x1).Field), .int .i64 ((laws_toUpdate_m x1).Value)], iBox p39 45 [.slice A35 (((spec_ApplyUpdate_m (laws_toStore_m x0) (laws_toUpdate_m x1)).1).Segments).length c36, .int .i64 (((spec_ApplyUpdate_m (laws_toStore_m x0) (laws_toUpdate_m x1)).1).Now)], iOwn (tSl (tSl tyVersion 102) 100) [.slice A35 (((spec_ApplyUpdate_m (laws_toStore_m x0) (laws_toUpdate_m x1)).1).Segments).length c36] (((spec_ApplyUpdate_m (laws_toStore_m x0) (laws_toUpdate_m x1)).1).Segments), iBox p16 65 [.int .i64 x1.Kind, .int .i64 x1.Row.Id, .slice A11 x1.Row.Values.length c12, .int .i64 x1.Field, .int .i64 x1.Value], iBox p15 41 [.slice A4 x0.Segments.length c5, .int .i64 x0.Now]])) (fun W hm => Mem.join (is := [iOwn (tSl tInt 3) [.slice A113 ((laws_toUpdate_m x1).Row.Values).length c114] ((laws_toUpdate_m x1).Row.Values)]) (js := [iBox p124 45 [.slice A120 (((impl_ApplyUpdate_m (laws_toStore_m x0) (laws_toUpdate_m x1)).1).Segments).length c121, .int .i64 (((impl_ApplyUpdate_m (laws_toStore_m x0) (laws_toUpdate_m x1)).1).Now)], iOwn (tSl (tSl tyVersion 102) 100) [.slice A120 (((impl_ApplyUpdate_m (laws_toStore_m x0) (laws_toUpdate_m x1)).1).Segments).length c121] (((impl_ApplyUpdate_m (laws_toStore_m x0) (laws_toUpdate_m x1)).1).Segments), iBox p117 71 [.int .i64 ((laws_toUpdate_m x1).Kind), .int .i64 ((laws_toUpdate_m x1).Row.Id), .slice A113 ((laws_toUpdate_m x1).Row.Values).length c114, .int .i64 ((laws_toUpdate_m x1).Field), .int .i64 ((laws_toUpdate_m x1).Value)], iBox p39 45 [.slice A35 (((spec_ApplyUpdate_m (laws_toStore_m x0) (laws_toUpdate_m x1)).1).Segments).length c36, .int .i64 (((spec_ApplyUpdate_m (laws_toStore_m x0) (laws_toUpdate_m x1)).1).Now)], iOwn (tSl (tSl tyVersion 102) 100) [.slice A35 (((spec_ApplyUpdate_m (laws_toStore_m x0) (laws_toUpdate_m x1)).1).Segments).length c36] (((spec_ApplyUpdate_m (laws_toStore_m x0) (laws_toUpdate_m x1)).1).Segments), iBox p16 65 [.int .i64 x1.Kind, .int .i64 x1.Row.Id, .slice A11 x1.Row.Values.length c12, .int .i64 x1.Field, .int .i64 x1.Value], iBox p15 41 [.slice A4 x0.Segments.length c5, .int .i64 x0.Now]]) (fun _ _ hs => tyUpdate_join (x := (laws_toUpdate_m x1)) hs) (hm.pick [3, 0, 1, 2, 4, 5, 6, 7] (by decide))) ?_
                refine WM_callW (χ := Unit) (val := fun _ => .int .i64 (laws_markUpdate_m (laws_toUpdate_m x1) ((laws_markStore_m (laws_toStore_m x0) 1).1)).1) (js := fun _ => (iOwn tyUpdate [.int .i64 ((laws_toUpdate_m x1).Kind), .int .i64 ((laws_toUpdate_m x1).Row.Id), .slice A113 ((laws_toUpdate_m x1).Row.Values).length c114, .int .i64 ((laws_toUpdate_m x1).Field), .int .i64 ((laws_toUpdate_m x1).Value)] (laws_markUpdate_m (laws_toUpdate_m x1) ((laws_markStore_m (laws_toStore_m x0) 1).1)).2 :: [iBox p124 45 [.slice A120 (((impl_ApplyUpdate_m (laws_toStore_m x0) (laws_toUpdate_m x1)).1).Segments).length c121, .int .i64 (((impl_ApplyUpdate_m (laws_toStore_m x0) (laws_toUpdate_m x1)).1).Now)], iOwn (tSl (tSl tyVersion 102) 100) [.slice A120 (((impl_ApplyUpdate_m (laws_toStore_m x0) (laws_toUpdate_m x1)).1).Segments).length c121] (((impl_ApplyUpdate_m (laws_toStore_m x0) (laws_toUpdate_m x1)).1).Segments), iBox p117 71 [.int .i64 ((laws_toUpdate_m x1).Kind), .int .i64 ((laws_toUpdate_m x1).Row.Id), .slice A113 ((laws_toUpdate_m x1).Row.Values).length c114, .int .i64 ((laws_toUpdate_m x1).Field), .int .i64 ((laws_toUpdate_m x1).Value)], iBox p39 45 [.slice A35 (((spec_ApplyUpdate_m (laws_toStore_m x0) (laws_toUpdate_m x1)).1).Segments).length c36, .int .i64 (((spec_ApplyUpdate_m (laws_toStore_m x0) (laws_toUpdate_m x1)).1).Now)], iOwn (tSl (tSl tyVersion 102) 100) [.slice A35 (((spec_ApplyUpdate_m (laws_toStore_m x0) (laws_toUpdate_m x1)).1).Segments).length c36] (((spec_ApplyUpdate_m (laws_toStore_m x0) (laws_toUpdate_m x1)).1).Segments), iBox p16 65 [.int .i64 x1.Kind, .int .i64 x1.Row.Id, .slice A11 x1.Row.Values.length c12, .int .i64 x1.Field, .int .i64 x1.Value], iBox p15 41 [.slice A4 x0.Segments.length c5, .int .i64 x0.Now]])) (cl_fn cb47 rfl) (fun W hm => (laws_markUpdate_c w.heap.size w [iBox p124 45 [.slice A120 (((impl_ApplyUpdate_m (laws_toStore_m x0) (laws_toUpdate_m x1)).1).Segments).length c121, .int .i64 (((impl_ApplyUpdate_m (laws_toStore_m x0) (laws_toUpdate_m x1)).1).Now)], iOwn (tSl (tSl tyVersion 102) 100) [.slice A120 (((impl_ApplyUpdate_m (laws_toStore_m x0) (laws_toUpdate_m x1)).1).Segments).length c121] (((impl_ApplyUpdate_m (laws_toStore_m x0) (laws_toUpdate_m x1)).1).Segments), iBox p117 71 [.int .i64 ((laws_toUpdate_m x1).Kind), .int .i64 ((laws_toUpdate_m x1).Row.Id), .slice A113 ((laws_toUpdate_m x1).Row.Values).length c114, .int .i64 ((laws_toUpdate_m x1).Field), .int .i64 ((laws_toUpdate_m x1).Value)], iBox p39 45 [.slice A35 (((spec_ApplyUpdate_m (laws_toStore_m x0) (laws_toUpdate_m x1)).1).Segments).length c36, .int .i64 (((spec_ApplyUpdate_m (laws_toStore_m x0) (laws_toUpdate_m x1)).1).Now)], iOwn (tSl (tSl tyVersion 102) 100) [.slice A35 (((spec_ApplyUpdate_m (laws_toStore_m x0) (laws_toUpdate_m x1)).1).Segments).length c36] (((spec_ApplyUpdate_m (laws_toStore_m x0) (laws_toUpdate_m x1)).1).Segments), iBox p16 65 [.int .i64 x1.Kind, .int .i64 x1.Row.Id, .slice A11 x1.Row.Values.length c12, .int .i64 x1.Field, .int .i64 x1.Value], iBox p15 41 [.slice A4 x0.Segments.length c5, .int .i64 x0.Now]] W [.int .i64 ((laws_toUpdate_m x1).Kind), .int .i64 ((laws_toUpdate_m x1).Row.Id), .slice A113 ((laws_toUpdate_m x1).Row.Values).length c114, .int .i64 ((laws_toUpdate_m x1).Field), .int .i64 ((laws_toUpdate_m x1).Value)] (laws_toUpdate_m x1) ((laws_markStore_m (laws_toStore_m x0) 1).1) hm).mono (fun _ _ h => ⟨(), h.1, h.2⟩)) (Wd_none rfl) (by decide) (fun _ => ?_)
                refine WM_split (γ := Value) (js := fun g => [iOwn (tSl tInt 3) [g] ((laws_markUpdate_m (laws_toUpdate_m x1) ((laws_markStore_m (laws_toStore_m x0) 1).1)).2.Row.Values)]) (C := fun g => [.int .i64 ((laws_toUpdate_m x1).Kind), .int .i64 ((laws_toUpdate_m x1).Row.Id), .slice A113 ((laws_toUpdate_m x1).Row.Values).length c114, .int .i64 ((laws_toUpdate_m x1).Field), .int .i64 ((laws_toUpdate_m x1).Value)] = [.int .i64 ((laws_markUpdate_m (laws_toUpdate_m x1) ((laws_markStore_m (laws_toStore_m x0) 1).1)).2.Kind), .int .i64 ((laws_markUpdate_m (laws_toUpdate_m x1) ((laws_markStore_m (laws_toStore_m x0) 1).1)).2.Row.Id), g, .int .i64 ((laws_markUpdate_m (laws_toUpdate_m x1) ((laws_markStore_m (laws_toStore_m x0) 1).1)).2.Field), .int .i64 ((laws_markUpdate_m (laws_toUpdate_m x1) ((laws_markStore_m (laws_toStore_m x0) 1).1)).2.Value)]) (fun _ _ h => tyUpdate_split h) ?_
                rintro v148 h147
                simp only [List.cons.injEq] at h147
                obtain ⟨-, -, rfl, -, -, -⟩ := h147
                refine wa ?_
                refine nt' ?_
                refine CM_seq ?_
                refine sr ?_
                refine wm ?_
                refine wv (fun W hm => rv_lss rfl rfl) ?_
                refine wm ?_
                by_cases h149 : ((laws_markUpdate_m (laws_toUpdate_m x1) ((laws_markStore_m (laws_toStore_m x0) 1).1)).1) < 0
                · have g150 : (decide (((laws_markUpdate_m (laws_toUpdate_m x1) ((laws_markStore_m (laws_toStore_m x0) 1).1)).1) < 0)) = true := decide_eq_true h149
                  refine ws g150 ?_
                  refine ws g150 ?_
                  refine ws g150 ?_
                  refine ws g150 ?_
                  refine wv (fun W hm => rv_pickT rfl g150 rfl) ?_
                  refine wm ?_
                  refine WM_skip (Wd_some rfl rfl rfl rfl) rfl (by decide) ?_
                  refine WM_skip (Wd_some rfl rfl rfl rfl) rfl (by decide) ?_
                  refine WM_skip (Wd_some rfl rfl rfl rfl) rfl (by decide) ?_
                  refine wv (fun W hm => rv_pickT rfl rfl rfl) ?_
                  refine nt' ?_
                  refine CM_condT rfl rfl ?_
                  refine CM_seq ?_
                  refine CM_items (fun W hm => (hm.pick [] (by decide))) ?_
                  refine CM_region ?_
                  refine wa ?_
                  refine nt' ?_
                  refine CM_ret ?_
                  refine QM_then_ret ?_
                  exact QM_ret1 rfl rfl (fun W hm => ⟨ret_b (show laws_FnExactApplyUpdate_m x0 x1 = false from by unfold laws_FnExactApplyUpdate_m; exact cond_f g18 (cond_f g20 (cond_t g126 (cond_f g128 (cond_t g136 (cond_t g144 (cond_t g150 (rfl)))))))), hm.below⟩)
                · have g150 : (decide (((laws_markUpdate_m (laws_toUpdate_m x1) ((laws_markStore_m (laws_toStore_m x0) 1).1)).1) < 0)) = false := decide_eq_false h149
                  refine wg (fun W hm => rv_loadN (cs := [.slice A120 (((impl_ApplyUpdate_m (laws_toStore_m x0) (laws_toUpdate_m x1)).1).Segments).length c121, .int .i64 (((impl_ApplyUpdate_m (laws_toStore_m x0) (laws_toUpdate_m x1)).1).Now)]) Try.underlying45 Try.type45 rfl rfl (hm.boxCells (n := 1) rfl)) g150 ?_
                  refine wg (fun W hm => rv_loadN (cs := [.slice A35 (((spec_ApplyUpdate_m (laws_toStore_m x0) (laws_toUpdate_m x1)).1).Segments).length c36, .int .i64 (((spec_ApplyUpdate_m (laws_toStore_m x0) (laws_toUpdate_m x1)).1).Now)]) Try.underlying45 Try.type45 rfl rfl (hm.boxCells (n := 4) rfl)) g150 ?_
                  refine WM_callV (cl_fn cb30 rfl) (fun W hm => laws_eqStore_c W _ ((impl_ApplyUpdate_m (laws_toStore_m x0) (laws_toUpdate_m x1)).1) _ ((spec_ApplyUpdate_m (laws_toStore_m x0) (laws_toUpdate_m x1)).1) (tyStore_mk (x := ((impl_ApplyUpdate_m (laws_toStore_m x0) (laws_toUpdate_m x1)).1)) (hm.rdSI (n := 2) rfl)) (tyStore_mk (x := ((spec_ApplyUpdate_m (laws_toStore_m x0) (laws_toUpdate_m x1)).1)) (hm.rdSI (n := 5) rfl))) (Wd_some rfl rfl rfl (bw g150 rfl)) (by decide) ?_
                  refine wg (fun W hm => rv_not rfl) g150 ?_
                  refine wv (fun W hm => rv_pickF rfl g150 rfl) ?_
                  refine wm ?_
                  refine wg (fun W hm => rv_move rfl) (nt g126) ?_
                  refine wg (fun W hm => rv_move rfl) (nt g126) ?_
                  refine wg (fun W hm => rv_neqB Try.underlying4 rfl rfl) (nt g126) ?_
                  refine wv (fun W hm => rv_pickF rfl (nt g126) rfl) ?_
                  refine nt' ?_
                  refine CM_condF rfl g128 ?_
                  refine CM_skip ?_
                  refine QM_then ?_
                  refine sr ?_
                  refine wa ?_
                  refine nt' ?_
                  refine sr ?_
                  refine wv (fun W hm => rv_loadN (cs := [.slice A120 (((impl_ApplyUpdate_m (laws_toStore_m x0) (laws_toUpdate_m x1)).1).Segments).length c121, .int .i64 (((impl_ApplyUpdate_m (laws_toStore_m x0) (laws_toUpdate_m x1)).1).Now)]) Try.underlying45 Try.type45 rfl rfl (hm.boxCells (n := 1) rfl)) ?_
                  refine wm ?_
                  refine WM_items (js := (iOwn tyStore [.slice A120 (((impl_ApplyUpdate_m (laws_toStore_m x0) (laws_toUpdate_m x1)).1).Segments).length c121, .int .i64 (((impl_ApplyUpdate_m (laws_toStore_m x0) (laws_toUpdate_m x1)).1).Now)] ((impl_ApplyUpdate_m (laws_toStore_m x0) (laws_toUpdate_m x1)).1) :: [iOwn (tSl tInt 3) [.slice A113 ((laws_toUpdate_m x1).Row.Values).length c114] ((laws_markUpdate_m (laws_toUpdate_m x1) ((laws_markStore_m (laws_toStore_m x0) 1).1)).2.Row.Values), iBox p124 45 [.slice A120 (((impl_ApplyUpdate_m (laws_toStore_m x0) (laws_toUpdate_m x1)).1).Segments).length c121, .int .i64 (((impl_ApplyUpdate_m (laws_toStore_m x0) (laws_toUpdate_m x1)).1).Now)], iBox p117 71 [.int .i64 ((laws_toUpdate_m x1).Kind), .int .i64 ((laws_toUpdate_m x1).Row.Id), .slice A113 ((laws_toUpdate_m x1).Row.Values).length c114, .int .i64 ((laws_toUpdate_m x1).Field), .int .i64 ((laws_toUpdate_m x1).Value)], iBox p39 45 [.slice A35 (((spec_ApplyUpdate_m (laws_toStore_m x0) (laws_toUpdate_m x1)).1).Segments).length c36, .int .i64 (((spec_ApplyUpdate_m (laws_toStore_m x0) (laws_toUpdate_m x1)).1).Now)], iOwn (tSl (tSl tyVersion 102) 100) [.slice A35 (((spec_ApplyUpdate_m (laws_toStore_m x0) (laws_toUpdate_m x1)).1).Segments).length c36] (((spec_ApplyUpdate_m (laws_toStore_m x0) (laws_toUpdate_m x1)).1).Segments), iBox p16 65 [.int .i64 x1.Kind, .int .i64 x1.Row.Id, .slice A11 x1.Row.Values.length c12, .int .i64 x1.Field, .int .i64 x1.Value], iBox p15 41 [.slice A4 x0.Segments.length c5, .int .i64 x0.Now]])) (fun W hm => Mem.join (is := [iOwn (tSl (tSl tyVersion 102) 100) [.slice A120 (((impl_ApplyUpdate_m (laws_toStore_m x0) (laws_toUpdate_m x1)).1).Segments).length c121] (((impl_ApplyUpdate_m (laws_toStore_m x0) (laws_toUpdate_m x1)).1).Segments)]) (js := [iOwn (tSl tInt 3) [.slice A113 ((laws_toUpdate_m x1).Row.Values).length c114] ((laws_markUpdate_m (laws_toUpdate_m x1) ((laws_markStore_m (laws_toStore_m x0) 1).1)).2.Row.Values), iBox p124 45 [.slice A120 (((impl_ApplyUpdate_m (laws_toStore_m x0) (laws_toUpdate_m x1)).1).Segments).length c121, .int .i64 (((impl_ApplyUpdate_m (laws_toStore_m x0) (laws_toUpdate_m x1)).1).Now)], iBox p117 71 [.int .i64 ((laws_toUpdate_m x1).Kind), .int .i64 ((laws_toUpdate_m x1).Row.Id), .slice A113 ((laws_toUpdate_m x1).Row.Values).length c114, .int .i64 ((laws_toUpdate_m x1).Field), .int .i64 ((laws_toUpdate_m x1).Value)], iBox p39 45 [.slice A35 (((spec_ApplyUpdate_m (laws_toStore_m x0) (laws_toUpdate_m x1)).1).Segments).length c36, .int .i64 (((spec_ApplyUpdate_m (laws_toStore_m x0) (laws_toUpdate_m x1)).1).Now)], iOwn (tSl (tSl tyVersion 102) 100) [.slice A35 (((spec_ApplyUpdate_m (laws_toStore_m x0) (laws_toUpdate_m x1)).1).Segments).length c36] (((spec_ApplyUpdate_m (laws_toStore_m x0) (laws_toUpdate_m x1)).1).Segments), iBox p16 65 [.int .i64 x1.Kind, .int .i64 x1.Row.Id, .slice A11 x1.Row.Values.length c12, .int .i64 x1.Field, .int .i64 x1.Value], iBox p15 41 [.slice A4 x0.Segments.length c5, .int .i64 x0.Now]]) (fun _ _ hs => tyStore_join (x := ((impl_ApplyUpdate_m (laws_toStore_m x0) (laws_toUpdate_m x1)).1)) hs) (hm.pick [2, 0, 1, 3, 4, 5, 6, 7] (by decide))) ?_
                  refine WM_callW (χ := Unit) (val := fun _ => .int .i64 (laws_markStore_m ((impl_ApplyUpdate_m (laws_toStore_m x0) (laws_toUpdate_m x1)).1) 1).1) (js := fun _ => (iOwn tyStore [.slice A120 (((impl_ApplyUpdate_m (laws_toStore_m x0) (laws_toUpdate_m x1)).1).Segments).length c121, .int .i64 (((impl_ApplyUpdate_m (laws_toStore_m x0) (laws_toUpdate_m x1)).1).Now)] (laws_markStore_m ((impl_ApplyUpdate_m (laws_toStore_m x0) (laws_toUpdate_m x1)).1) 1).2 :: [iOwn (tSl tInt 3) [.slice A113 ((laws_toUpdate_m x1).Row.Values).length c114] ((laws_markUpdate_m (laws_toUpdate_m x1) ((laws_markStore_m (laws_toStore_m x0) 1).1)).2.Row.Values), iBox p124 45 [.slice A120 (((impl_ApplyUpdate_m (laws_toStore_m x0) (laws_toUpdate_m x1)).1).Segments).length c121, .int .i64 (((impl_ApplyUpdate_m (laws_toStore_m x0) (laws_toUpdate_m x1)).1).Now)], iBox p117 71 [.int .i64 ((laws_toUpdate_m x1).Kind), .int .i64 ((laws_toUpdate_m x1).Row.Id), .slice A113 ((laws_toUpdate_m x1).Row.Values).length c114, .int .i64 ((laws_toUpdate_m x1).Field), .int .i64 ((laws_toUpdate_m x1).Value)], iBox p39 45 [.slice A35 (((spec_ApplyUpdate_m (laws_toStore_m x0) (laws_toUpdate_m x1)).1).Segments).length c36, .int .i64 (((spec_ApplyUpdate_m (laws_toStore_m x0) (laws_toUpdate_m x1)).1).Now)], iOwn (tSl (tSl tyVersion 102) 100) [.slice A35 (((spec_ApplyUpdate_m (laws_toStore_m x0) (laws_toUpdate_m x1)).1).Segments).length c36] (((spec_ApplyUpdate_m (laws_toStore_m x0) (laws_toUpdate_m x1)).1).Segments), iBox p16 65 [.int .i64 x1.Kind, .int .i64 x1.Row.Id, .slice A11 x1.Row.Values.length c12, .int .i64 x1.Field, .int .i64 x1.Value], iBox p15 41 [.slice A4 x0.Segments.length c5, .int .i64 x0.Now]])) (cl_fn cb31 rfl) (fun W hm => (laws_markStore_c w.heap.size w [iOwn (tSl tInt 3) [.slice A113 ((laws_toUpdate_m x1).Row.Values).length c114] ((laws_markUpdate_m (laws_toUpdate_m x1) ((laws_markStore_m (laws_toStore_m x0) 1).1)).2.Row.Values), iBox p124 45 [.slice A120 (((impl_ApplyUpdate_m (laws_toStore_m x0) (laws_toUpdate_m x1)).1).Segments).length c121, .int .i64 (((impl_ApplyUpdate_m (laws_toStore_m x0) (laws_toUpdate_m x1)).1).Now)], iBox p117 71 [.int .i64 ((laws_toUpdate_m x1).Kind), .int .i64 ((laws_toUpdate_m x1).Row.Id), .slice A113 ((laws_toUpdate_m x1).Row.Values).length c114, .int .i64 ((laws_toUpdate_m x1).Field), .int .i64 ((laws_toUpdate_m x1).Value)], iBox p39 45 [.slice A35 (((spec_ApplyUpdate_m (laws_toStore_m x0) (laws_toUpdate_m x1)).1).Segments).length c36, .int .i64 (((spec_ApplyUpdate_m (laws_toStore_m x0) (laws_toUpdate_m x1)).1).Now)], iOwn (tSl (tSl tyVersion 102) 100) [.slice A35 (((spec_ApplyUpdate_m (laws_toStore_m x0) (laws_toUpdate_m x1)).1).Segments).length c36] (((spec_ApplyUpdate_m (laws_toStore_m x0) (laws_toUpdate_m x1)).1).Segments), iBox p16 65 [.int .i64 x1.Kind, .int .i64 x1.Row.Id, .slice A11 x1.Row.Values.length c12, .int .i64 x1.Field, .int .i64 x1.Value], iBox p15 41 [.slice A4 x0.Segments.length c5, .int .i64 x0.Now]] W [.slice A120 (((impl_ApplyUpdate_m (laws_toStore_m x0) (laws_toUpdate_m x1)).1).Segments).length c121, .int .i64 (((impl_ApplyUpdate_m (laws_toStore_m x0) (laws_toUpdate_m x1)).1).Now)] ((impl_ApplyUpdate_m (laws_toStore_m x0) (laws_toUpdate_m x1)).1) 1 hm).mono (fun _ _ h => ⟨(), h.1, h.2⟩)) (Wd_none rfl) (by decide) (fun _ => ?_)
                  refine WM_split (γ := Value) (js := fun g => [iOwn (tSl (tSl tyVersion 102) 100) [g] ((laws_markStore_m ((impl_ApplyUpdate_m (laws_toStore_m x0) (laws_toUpdate_m x1)).1) 1).2.Segments)]) (C := fun g => [.slice A120 (((impl_ApplyUpdate_m (laws_toStore_m x0) (laws_toUpdate_m x1)).1).Segments).length c121, .int .i64 (((impl_ApplyUpdate_m (laws_toStore_m x0) (laws_toUpdate_m x1)).1).Now)] = [g, .int .i64 ((laws_markStore_m ((impl_ApplyUpdate_m (laws_toStore_m x0) (laws_toUpdate_m x1)).1) 1).2.Now)]) (fun _ _ h => tyStore_split h) ?_
                  rintro v152 h151
                  simp only [List.cons.injEq] at h151
                  obtain ⟨rfl, -, -⟩ := h151
                  refine wa ?_
                  refine nt' ?_
                  refine sr ?_
                  refine wa ?_
                  refine nt' ?_
                  refine sr ?_
                  refine wv (fun W hm => rv_loadN (cs := [.slice A120 (((impl_ApplyUpdate_m (laws_toStore_m x0) (laws_toUpdate_m x1)).1).Segments).length c121, .int .i64 (((impl_ApplyUpdate_m (laws_toStore_m x0) (laws_toUpdate_m x1)).1).Now)]) Try.underlying45 Try.type45 rfl rfl (hm.boxCells (n := 2) rfl)) ?_
                  refine wm ?_
                  refine WM_callV (cl_fn cb32 rfl) (fun W hm => laws_heldStore_c W _ (⟨(laws_markStore_m ((impl_ApplyUpdate_m (laws_toStore_m x0) (laws_toUpdate_m x1)).1) 1).2.Segments, ((impl_ApplyUpdate_m (laws_toStore_m x0) (laws_toUpdate_m x1)).1).Now⟩ : DStore) 1 (tyStore_mk (x := (⟨(laws_markStore_m ((impl_ApplyUpdate_m (laws_toStore_m x0) (laws_toUpdate_m x1)).1) 1).2.Segments, ((impl_ApplyUpdate_m (laws_toStore_m x0) (laws_toUpdate_m x1)).1).Now⟩ : DStore)) (hm.rdSI (n := 0) rfl))) (Wd_none rfl) (by decide) ?_
                  refine wa ?_
                  refine nt' ?_
                  refine CM_seq ?_
                  refine sr ?_
                  refine wm ?_
                  refine wv (fun W hm => rv_lss rfl rfl) ?_
                  refine nt' ?_
                  by_cases h153 : (laws_heldStore_m (⟨(laws_markStore_m ((impl_ApplyUpdate_m (laws_toStore_m x0) (laws_toUpdate_m x1)).1) 1).2.Segments, ((impl_ApplyUpdate_m (laws_toStore_m x0) (laws_toUpdate_m x1)).1).Now⟩ : DStore) 1) < 0
                  · have g154 : (decide ((laws_heldStore_m (⟨(laws_markStore_m ((impl_ApplyUpdate_m (laws_toStore_m x0) (laws_toUpdate_m x1)).1) 1).2.Segments, ((impl_ApplyUpdate_m (laws_toStore_m x0) (laws_toUpdate_m x1)).1).Now⟩ : DStore) 1) < 0)) = true := decide_eq_true h153
                    refine CM_condT rfl g154 ?_
                    refine CM_seq ?_
                    refine CM_items (fun W hm => (hm.pick [] (by decide))) ?_
                    refine CM_region ?_
                    refine wa ?_
                    refine nt' ?_
                    refine CM_ret ?_
                    refine QM_then_ret ?_
                    exact QM_ret1 rfl rfl (fun W hm => ⟨ret_b (show laws_FnExactApplyUpdate_m x0 x1 = false from by unfold laws_FnExactApplyUpdate_m; exact cond_f g18 (cond_f g20 (cond_t g126 (cond_f g128 (cond_t g136 (cond_t g144 (cond_f g150 (cond_t g154 (rfl))))))))), hm.below⟩)
                  · have g154 : (decide ((laws_heldStore_m (⟨(laws_markStore_m ((impl_ApplyUpdate_m (laws_toStore_m x0) (laws_toUpdate_m x1)).1) 1).2.Segments, ((impl_ApplyUpdate_m (laws_toStore_m x0) (laws_toUpdate_m x1)).1).Now⟩ : DStore) 1) < 0)) = false := decide_eq_false h153
                    refine CM_condF rfl g154 ?_
                    refine CM_skip ?_
                    refine QM_then ?_
                    refine CM_seq ?_
                    refine sr ?_
                    refine wm ?_
                    refine wm ?_
                    refine wv (fun W hm => rv_neq rfl rfl) ?_
                    refine nt' ?_
                    by_cases h155 : (laws_heldStore_m (⟨(laws_markStore_m ((impl_ApplyUpdate_m (laws_toStore_m x0) (laws_toUpdate_m x1)).1) 1).2.Segments, ((impl_ApplyUpdate_m (laws_toStore_m x0) (laws_toUpdate_m x1)).1).Now⟩ : DStore) 1) = ((laws_markStore_m ((impl_ApplyUpdate_m (laws_toStore_m x0) (laws_toUpdate_m x1)).1) 1).1)
                    · have g156 : ((laws_heldStore_m (⟨(laws_markStore_m ((impl_ApplyUpdate_m (laws_toStore_m x0) (laws_toUpdate_m x1)).1) 1).2.Segments, ((impl_ApplyUpdate_m (laws_toStore_m x0) (laws_toUpdate_m x1)).1).Now⟩ : DStore) 1) != ((laws_markStore_m ((impl_ApplyUpdate_m (laws_toStore_m x0) (laws_toUpdate_m x1)).1) 1).1)) = false := by rw [h155]; exact bne_self_eq_false _
                      refine CM_condF rfl g156 ?_
                      refine CM_skip ?_
                      refine QM_then ?_
                      refine CM_seq ?_
                      refine CM_cut (σ := Nat × Option Addr × Nat × Option Addr × Nat × Option Addr × Nat) (fun s => [(6, .pointer (some (⟨p39, 0, none⟩ : Addr))), (7, .bool (spec_ApplyUpdate_m (laws_toStore_m x0) (laws_toUpdate_m x1)).2), (10, .pointer (some (⟨p124, 0, none⟩ : Addr))), (13, .int .i64 ((laws_markStore_m ((impl_ApplyUpdate_m (laws_toStore_m x0) (laws_toUpdate_m x1)).1) 1).1)), (15, .pointer (some (⟨s.1, 0, none⟩ : Addr))), (16, .bool (impl_ApplyUpdate_m (laws_toStore_m x0) (laws_toUpdate_m x1)).2)]) (fun s => [iBox s.1 45 [.slice s.2.1 (((impl_ApplyUpdate_m (laws_toStore_m x0) (laws_toUpdate_m x1)).1).Segments).length s.2.2.1, .int .i64 (((impl_ApplyUpdate_m (laws_toStore_m x0) (laws_toUpdate_m x1)).1).Now)], iOwn (tSl (tSl tyVersion 102) 100) [.slice s.2.1 (((impl_ApplyUpdate_m (laws_toStore_m x0) (laws_toUpdate_m x1)).1).Segments).length s.2.2.1] (((impl_ApplyUpdate_m (laws_toStore_m x0) (laws_toUpdate_m x1)).1).Segments), iOwn (tSl tInt 3) [.slice s.2.2.2.1 ((laws_toUpdate_m x1).Row.Values).length s.2.2.2.2.1] ((laws_toUpdate_m x1).Row.Values), iOwn (tSl (tSl tyVersion 102) 100) [.slice s.2.2.2.2.2.1 ((laws_toStore_m x0).Segments).length s.2.2.2.2.2.2] ((laws_toStore_m x0).Segments), iOwn (tSl (tSl tyVersion 102) 100) [.slice A120 (((impl_ApplyUpdate_m (laws_toStore_m x0) (laws_toUpdate_m x1)).1).Segments).length c121] ((laws_markStore_m ((impl_ApplyUpdate_m (laws_toStore_m x0) (laws_toUpdate_m x1)).1) 1).2.Segments), iOwn (tSl tInt 3) [.slice A113 ((laws_toUpdate_m x1).Row.Values).length c114] ((laws_markUpdate_m (laws_toUpdate_m x1) ((laws_markStore_m (laws_toStore_m x0) 1).1)).2.Row.Values), iBox p124 45 [.slice A120 (((impl_ApplyUpdate_m (laws_toStore_m x0) (laws_toUpdate_m x1)).1).Segments).length c121, .int .i64 (((impl_ApplyUpdate_m (laws_toStore_m x0) (laws_toUpdate_m x1)).1).Now)], iBox p117 71 [.int .i64 ((laws_toUpdate_m x1).Kind), .int .i64 ((laws_toUpdate_m x1).Row.Id), .slice A113 ((laws_toUpdate_m x1).Row.Values).length c114, .int .i64 ((laws_toUpdate_m x1).Field), .int .i64 ((laws_toUpdate_m x1).Value)], iBox p39 45 [.slice A35 (((spec_ApplyUpdate_m (laws_toStore_m x0) (laws_toUpdate_m x1)).1).Segments).length c36, .int .i64 (((spec_ApplyUpdate_m (laws_toStore_m x0) (laws_toUpdate_m x1)).1).Now)], iOwn (tSl (tSl tyVersion 102) 100) [.slice A35 (((spec_ApplyUpdate_m (laws_toStore_m x0) (laws_toUpdate_m x1)).1).Segments).length c36] (((spec_ApplyUpdate_m (laws_toStore_m x0) (laws_toUpdate_m x1)).1).Segments), iBox p16 65 [.int .i64 x1.Kind, .int .i64 x1.Row.Id, .slice A11 x1.Row.Values.length c12, .int .i64 x1.Field, .int .i64 x1.Value], iBox p15 41 [.slice A4 x0.Segments.length c5, .int .i64 x0.Now]]) (fun _ => True) ?_ ?_
                      ·
                        refine CM_regionB (n := 11) (listed := #[false, false, false, false, false, false, false, false, false, false, false]) (s := [iOwn (tSl (tSl tyVersion 102) 100) [.slice A120 (((impl_ApplyUpdate_m (laws_toStore_m x0) (laws_toUpdate_m x1)).1).Segments).length c121] ((laws_markStore_m ((impl_ApplyUpdate_m (laws_toStore_m x0) (laws_toUpdate_m x1)).1) 1).2.Segments), iOwn (tSl tInt 3) [.slice A113 ((laws_toUpdate_m x1).Row.Values).length c114] ((laws_markUpdate_m (laws_toUpdate_m x1) ((laws_markStore_m (laws_toStore_m x0) 1).1)).2.Row.Values), iBox p124 45 [.slice A120 (((impl_ApplyUpdate_m (laws_toStore_m x0) (laws_toUpdate_m x1)).1).Segments).length c121, .int .i64 (((impl_ApplyUpdate_m (laws_toStore_m x0) (laws_toUpdate_m x1)).1).Now)], iBox p117 71 [.int .i64 ((laws_toUpdate_m x1).Kind), .int .i64 ((laws_toUpdate_m x1).Row.Id), .slice A113 ((laws_toUpdate_m x1).Row.Values).length c114, .int .i64 ((laws_toUpdate_m x1).Field), .int .i64 ((laws_toUpdate_m x1).Value)], iBox p39 45 [.slice A35 (((spec_ApplyUpdate_m (laws_toStore_m x0) (laws_toUpdate_m x1)).1).Segments).length c36, .int .i64 (((spec_ApplyUpdate_m (laws_toStore_m x0) (laws_toUpdate_m x1)).1).Now)], iOwn (tSl (tSl tyVersion 102) 100) [.slice A35 (((spec_ApplyUpdate_m (laws_toStore_m x0) (laws_toUpdate_m x1)).1).Segments).length c36] (((spec_ApplyUpdate_m (laws_toStore_m x0) (laws_toUpdate_m x1)).1).Segments), iBox p16 65 [.int .i64 x1.Kind, .int .i64 x1.Row.Id, .slice A11 x1.Row.Values.length c12, .int .i64 x1.Field, .int .i64 x1.Value], iBox p15 41 [.slice A4 x0.Segments.length c5, .int .i64 x0.Now]]) (by kernel_rfl) rfl (by kernel_rfl) (fun W hm => hm) ?_
                        refine QB_take 0 (listed' := #[true, false, false, false, false, false, false, false, false, false, false]) (by kernel_rfl) rfl (by kernel_rfl) (by kernel_rfl) (by kernel_rfl) (fun _ _ _ h => h) (fun W hm => rv_loadN (cs := [.slice A4 x0.Segments.length c5, .int .i64 x0.Now]) Try.underlying41 Try.type41 rfl rfl (hm.boxCells (n := 7) rfl)) (Wd_none rfl) rfl (by decide) ?_
                        refine QB_take 2 (listed' := #[true, false, true, false, false, false, false, false, false, false, false]) (by kernel_rfl) rfl (by kernel_rfl) (by kernel_rfl) (by kernel_rfl) (fun _ _ _ h => h) (fun W hm => rv_loadN (cs := [.int .i64 x1.Kind, .int .i64 x1.Row.Id, .slice A11 x1.Row.Values.length c12, .int .i64 x1.Field, .int .i64 x1.Value]) Try.underlying65 Try.type65 rfl rfl (hm.boxCells (n := 6) rfl)) (Wd_none rfl) rfl (by decide) ?_
                        refine QB_all [1, 8] (by kernel_rfl) (by decide) ?_
                        refine QBs_cons (listed' := #[true, true, true, false, false, false, false, false, false, false, false]) (by kernel_rfl) rfl ?_ ?_
                        ·
                          refine WM_call (χ := List Value) (val := fun x => .agg x.toArray) (js := fun x => [iOwn tyStore x (laws_toStore_m x0)]) (cl_fn cb28 rfl) (fun W hm => laws_toStore_c W _ x0 (tyLStore_mk (x := x0) (hm.rdS0 r7)) (smStore_wt (by omega))) (Wd_none rfl) (by decide) (fun z176 => ?_)
                          refine WM_split (γ := Value) (js := fun g => [iOwn (tSl (tSl tyVersion 102) 100) [g] ((laws_toStore_m x0).Segments)]) (C := fun g => z176 = [g, .int .i64 ((laws_toStore_m x0).Now)]) (fun _ _ h => tyStore_split h) ?_
                          rintro v177 rfl
                          refine WM_form (n := 0) rfl ?_
                          rintro A178 c179 rfl m180
                          refine WM_nil ?_
                          refine QB_next (fun W hm => (hm.pick [1, 2, 3, 4, 5, 6, 7, 8] (by decide))) ?_
                          refine QB_all [3, 8] (by kernel_rfl) (by decide) ?_
                          refine QBs_cons (listed' := #[true, true, true, true, false, false, false, false, false, false, false]) (by kernel_rfl) rfl ?_ ?_
                          ·
                            refine WM_call (χ := List Value) (val := fun x => .agg x.toArray) (js := fun x => [iOwn tyUpdate x (laws_toUpdate_m x1)]) (cl_fn cb44 rfl) (fun W hm => laws_toUpdate_c W _ x1 (tyLUpdate_mk (x := x1) (hm.rdS0 r14)) (smUpdate_wt (by omega))) (Wd_none rfl) (by decide) (fun z182 => ?_)
                            refine WM_split (γ := Value) (js := fun g => [iOwn (tSl tInt 3) [g] ((laws_toUpdate_m x1).Row.Values)]) (C := fun g => z182 = [.int .i64 ((laws_toUpdate_m x1).Kind), .int .i64 ((laws_toUpdate_m x1).Row.Id), g, .int .i64 ((laws_toUpdate_m x1).Field), .int .i64 ((laws_toUpdate_m x1).Value)]) (fun _ _ h => tyUpdate_split h) ?_
                            rintro v183 rfl
                            refine WM_form (n := 0) rfl ?_
                            rintro A184 c185 rfl m186
                            refine WM_nil ?_
                            refine QB_next (fun W hm => (hm.pick [2, 3, 4, 5, 6, 7, 8, 9] (by decide))) ?_
                            refine QB_all [4, 8] (by kernel_rfl) (by decide) ?_
                            refine QBs_cons (listed' := #[true, true, true, true, true, false, false, false, false, false, false]) (by kernel_rfl) rfl ?_ ?_
                            ·
                              refine WM_call (χ := List Value) (val := fun x => .tuple #[.agg x.toArray, .bool ((impl_ApplyUpdate_m (laws_toStore_m x0) (laws_toUpdate_m x1)).2)]) (js := fun x => [iOwn tyStore x ((impl_ApplyUpdate_m (laws_toStore_m x0) (laws_toUpdate_m x1)).1)]) (cl_fn cb45 rfl) (fun W hm => impl_ApplyUpdate_c W _ (laws_toStore_m x0) _ (laws_toUpdate_m x1) (tyStore_mk (x := (laws_toStore_m x0)) (hm.rdSI (n := 1) rfl)) (tyUpdate_mk (x := (laws_toUpdate_m x1)) (hm.rdSI (n := 0) rfl)) (by rw [laws_toStore_eq]; exact (smStore_wt (by omega))) (by rw [laws_toUpdate_eq]; exact (smUpdate_wt (by omega)))) (Wd_none rfl) (by decide) (fun z188 => ?_)
                              refine WM_split (γ := Value) (js := fun g => [iOwn (tSl (tSl tyVersion 102) 100) [g] (((impl_ApplyUpdate_m (laws_toStore_m x0) (laws_toUpdate_m x1)).1).Segments)]) (C := fun g => z188 = [g, .int .i64 (((impl_ApplyUpdate_m (laws_toStore_m x0) (laws_toUpdate_m x1)).1).Now)]) (fun _ _ h => tyStore_split h) ?_
                              rintro v189 rfl
                              refine WM_form (n := 0) rfl ?_
                              rintro A190 c191 rfl m192
                              refine WM_nil ?_
                              refine QB_next (fun W hm => (hm.pick [3, 4, 5, 6, 7, 8, 9, 10] (by decide))) ?_
                              refine QB_take 5 (listed' := #[true, true, true, true, true, true, false, false, false, false, false]) (by kernel_rfl) rfl (by kernel_rfl) (by kernel_rfl) (by kernel_rfl) (fun _ _ _ h => h) (fun W hm => rv_move rfl) (Wd_none rfl) rfl (by decide) ?_
                              refine QB_take 6 (listed' := #[true, true, true, true, true, true, true, false, false, false, false]) (by kernel_rfl) rfl (by kernel_rfl) (by kernel_rfl) (by kernel_rfl) (fun _ _ _ h => h) (fun W hm => rv_extract rfl rfl) (Wd_none rfl) rfl (by decide) ?_
                              refine QB_take 7 (listed' := #[true, true, true, true, true, true, true, true, false, false, false]) (by kernel_rfl) rfl (by kernel_rfl) (by kernel_rfl) (by kernel_rfl) (fun _ _ _ h => h) (fun W hm => rv_extract rfl rfl) (Wd_none rfl) rfl (by decide) ?_
                              refine QB_one 8 (listed' := #[true, true, true, true, true, true, true, true, true, false, false]) (by kernel_rfl) rfl (by kernel_rfl) ?_
                              refine WM_alloc Try.type45 rfl (Wd_none rfl) (by decide) (fun p194 => ?_)
                              refine WM_nil ?_
                              refine QB_next (fun W hm => (hm.pick [4, 5, 6, 7, 8, 9, 10, 11] (by decide))) ?_
                              refine QB_one 9 (listed' := #[true, true, true, true, true, true, true, true, true, true, false]) (by kernel_rfl) rfl (by kernel_rfl) ?_
                              refine WM_storeBox (p := p194) (o := 0) (cs := [.slice none 0 0, .int .i64 0]) (cs' := [.slice A190 (((impl_ApplyUpdate_m (laws_toStore_m x0) (laws_toUpdate_m x1)).1).Segments).length c191, .int .i64 (((impl_ApplyUpdate_m (laws_toStore_m x0) (laws_toUpdate_m x1)).1).Now)]) (js := [iOwn (tSl (tSl tyVersion 102) 100) [.slice A190 (((impl_ApplyUpdate_m (laws_toStore_m x0) (laws_toUpdate_m x1)).1).Segments).length c191] (((impl_ApplyUpdate_m (laws_toStore_m x0) (laws_toUpdate_m x1)).1).Segments), iOwn (tSl tInt 3) [.slice A184 ((laws_toUpdate_m x1).Row.Values).length c185] ((laws_toUpdate_m x1).Row.Values), iOwn (tSl (tSl tyVersion 102) 100) [.slice A178 ((laws_toStore_m x0).Segments).length c179] ((laws_toStore_m x0).Segments), iOwn (tSl (tSl tyVersion 102) 100) [.slice A120 (((impl_ApplyUpdate_m (laws_toStore_m x0) (laws_toUpdate_m x1)).1).Segments).length c121] ((laws_markStore_m ((impl_ApplyUpdate_m (laws_toStore_m x0) (laws_toUpdate_m x1)).1) 1).2.Segments), iOwn (tSl tInt 3) [.slice A113 ((laws_toUpdate_m x1).Row.Values).length c114] ((laws_markUpdate_m (laws_toUpdate_m x1) ((laws_markStore_m (laws_toStore_m x0) 1).1)).2.Row.Values), iBox p124 45 [.slice A120 (((impl_ApplyUpdate_m (laws_toStore_m x0) (laws_toUpdate_m x1)).1).Segments).length c121, .int .i64 (((impl_ApplyUpdate_m (laws_toStore_m x0) (laws_toUpdate_m x1)).1).Now)], iBox p117 71 [.int .i64 ((laws_toUpdate_m x1).Kind), .int .i64 ((laws_toUpdate_m x1).Row.Id), .slice A113 ((laws_toUpdate_m x1).Row.Values).length c114, .int .i64 ((laws_toUpdate_m x1).Field), .int .i64 ((laws_toUpdate_m x1).Value)], iBox p39 45 [.slice A35 (((spec_ApplyUpdate_m (laws_toStore_m x0) (laws_toUpdate_m x1)).1).Segments).length c36, .int .i64 (((spec_ApplyUpdate_m (laws_toStore_m x0) (laws_toUpdate_m x1)).1).Now)], iOwn (tSl (tSl tyVersion 102) 100) [.slice A35 (((spec_ApplyUpdate_m (laws_toStore_m x0) (laws_toUpdate_m x1)).1).Segments).length c36] (((spec_ApplyUpdate_m (laws_toStore_m x0) (laws_toUpdate_m x1)).1).Segments), iBox p16 65 [.int .i64 x1.Kind, .int .i64 x1.Row.Id, .slice A11 x1.Row.Values.length c12, .int .i64 x1.Field, .int .i64 x1.Value], iBox p15 41 [.slice A4 x0.Segments.length c5, .int .i64 x0.Now]]) (fun W hm => hm) Try.type45 rfl (Nat.le_of_ble_eq_true rfl) rfl rfl rfl rfl (Wd_none rfl) ?_
                              refine WM_nil ?_
                              refine QB_next (fun W hm => (hm.pick [4, 5, 6, 7, 8, 9, 10, 11] (by decide))) ?_
                              refine QB_take 10 (listed' := #[true, true, true, true, true, true, true, true, true, true, true]) (by kernel_rfl) rfl (by kernel_rfl) (by kernel_rfl) (by kernel_rfl) (fun _ _ _ h => h) (fun W hm => rv_assign rfl) (Wd_none rfl) rfl (by decide) ?_
                              refine QB_done (by kernel_rfl) ?_
                              exact QM_cut_normal (p194, A190, c191, A184, c185, A178, c179) (subL_cons rfl (subL_cons rfl (subL_cons rfl (subL_cons rfl (subL_cons rfl (subL_cons rfl subL_nil)))))) (fun W hm => hm) trivial
                            refine QBs_cons (listed' := #[true, true, true, true, false, false, false, false, true, false, false]) (by kernel_rfl) rfl ?_ ?_
                            ·
                              refine WM_alloc Try.type45 rfl (Wd_none rfl) (by decide) (fun p195 => ?_)
                              refine WM_nil ?_
                              refine QB_next (fun W hm => (hm.pick [3, 4, 5, 6, 7, 8, 9, 10] (by decide))) ?_
                              refine QB_one 4 (listed' := #[true, true, true, true, true, false, false, false, true, false, false]) (by kernel_rfl) rfl (by kernel_rfl) ?_
                              refine WM_call (χ := List Value) (val := fun x => .tuple #[.agg x.toArray, .bool ((impl_ApplyUpdate_m (laws_toStore_m x0) (laws_toUpdate_m x1)).2)]) (js := fun x => [iOwn tyStore x ((impl_ApplyUpdate_m (laws_toStore_m x0) (laws_toUpdate_m x1)).1)]) (cl_fn cb45 rfl) (fun W hm => impl_ApplyUpdate_c W _ (laws_toStore_m x0) _ (laws_toUpdate_m x1) (tyStore_mk (x := (laws_toStore_m x0)) (hm.rdSI (n := 2) rfl)) (tyUpdate_mk (x := (laws_toUpdate_m x1)) (hm.rdSI (n := 1) rfl)) (by rw [laws_toStore_eq]; exact (smStore_wt (by omega))) (by rw [laws_toUpdate_eq]; exact (smUpdate_wt (by omega)))) (Wd_none rfl) (by decide) (fun z196 => ?_)
                              refine WM_split (γ := Value) (js := fun g => [iOwn (tSl (tSl tyVersion 102) 100) [g] (((impl_ApplyUpdate_m (laws_toStore_m x0) (laws_toUpdate_m x1)).1).Segments)]) (C := fun g => z196 = [g, .int .i64 (((impl_ApplyUpdate_m (laws_toStore_m x0) (laws_toUpdate_m x1)).1).Now)]) (fun _ _ h => tyStore_split h) ?_
                              rintro v197 rfl
                              refine WM_form (n := 0) rfl ?_
                              rintro A198 c199 rfl m200
                              refine WM_nil ?_
                              refine QB_next (fun W hm => (hm.pick [4, 5, 6, 7, 8, 9, 10, 11] (by decide))) ?_
                              refine QB_take 5 (listed' := #[true, true, true, true, true, true, false, false, true, false, false]) (by kernel_rfl) rfl (by kernel_rfl) (by kernel_rfl) (by kernel_rfl) (fun _ _ _ h => h) (fun W hm => rv_move rfl) (Wd_none rfl) rfl (by decide) ?_
                              refine QB_take 6 (listed' := #[true, true, true, true, true, true, true, false, true, false, false]) (by kernel_rfl) rfl (by kernel_rfl) (by kernel_rfl) (by kernel_rfl) (fun _ _ _ h => h) (fun W hm => rv_extract rfl rfl) (Wd_none rfl) rfl (by decide) ?_
                              refine QB_take 7 (listed' := #[true, true, true, true, true, true, true, true, true, false, false]) (by kernel_rfl) rfl (by kernel_rfl) (by kernel_rfl) (by kernel_rfl) (fun _ _ _ h => h) (fun W hm => rv_extract rfl rfl) (Wd_none rfl) rfl (by decide) ?_
                              refine QB_one 9 (listed' := #[true, true, true, true, true, true, true, true, true, true, false]) (by kernel_rfl) rfl (by kernel_rfl) ?_
                              refine WM_storeBox (p := p195) (o := 0) (cs := [.slice none 0 0, .int .i64 0]) (cs' := [.slice A198 (((impl_ApplyUpdate_m (laws_toStore_m x0) (laws_toUpdate_m x1)).1).Segments).length c199, .int .i64 (((impl_ApplyUpdate_m (laws_toStore_m x0) (laws_toUpdate_m x1)).1).Now)]) (js := [iOwn (tSl (tSl tyVersion 102) 100) [.slice A198 (((impl_ApplyUpdate_m (laws_toStore_m x0) (laws_toUpdate_m x1)).1).Segments).length c199] (((impl_ApplyUpdate_m (laws_toStore_m x0) (laws_toUpdate_m x1)).1).Segments), iOwn (tSl tInt 3) [.slice A184 ((laws_toUpdate_m x1).Row.Values).length c185] ((laws_toUpdate_m x1).Row.Values), iOwn (tSl (tSl tyVersion 102) 100) [.slice A178 ((laws_toStore_m x0).Segments).length c179] ((laws_toStore_m x0).Segments), iOwn (tSl (tSl tyVersion 102) 100) [.slice A120 (((impl_ApplyUpdate_m (laws_toStore_m x0) (laws_toUpdate_m x1)).1).Segments).length c121] ((laws_markStore_m ((impl_ApplyUpdate_m (laws_toStore_m x0) (laws_toUpdate_m x1)).1) 1).2.Segments), iOwn (tSl tInt 3) [.slice A113 ((laws_toUpdate_m x1).Row.Values).length c114] ((laws_markUpdate_m (laws_toUpdate_m x1) ((laws_markStore_m (laws_toStore_m x0) 1).1)).2.Row.Values), iBox p124 45 [.slice A120 (((impl_ApplyUpdate_m (laws_toStore_m x0) (laws_toUpdate_m x1)).1).Segments).length c121, .int .i64 (((impl_ApplyUpdate_m (laws_toStore_m x0) (laws_toUpdate_m x1)).1).Now)], iBox p117 71 [.int .i64 ((laws_toUpdate_m x1).Kind), .int .i64 ((laws_toUpdate_m x1).Row.Id), .slice A113 ((laws_toUpdate_m x1).Row.Values).length c114, .int .i64 ((laws_toUpdate_m x1).Field), .int .i64 ((laws_toUpdate_m x1).Value)], iBox p39 45 [.slice A35 (((spec_ApplyUpdate_m (laws_toStore_m x0) (laws_toUpdate_m x1)).1).Segments).length c36, .int .i64 (((spec_ApplyUpdate_m (laws_toStore_m x0) (laws_toUpdate_m x1)).1).Now)], iOwn (tSl (tSl tyVersion 102) 100) [.slice A35 (((spec_ApplyUpdate_m (laws_toStore_m x0) (laws_toUpdate_m x1)).1).Segments).length c36] (((spec_ApplyUpdate_m (laws_toStore_m x0) (laws_toUpdate_m x1)).1).Segments), iBox p16 65 [.int .i64 x1.Kind, .int .i64 x1.Row.Id, .slice A11 x1.Row.Values.length c12, .int .i64 x1.Field, .int .i64 x1.Value], iBox p15 41 [.slice A4 x0.Segments.length c5, .int .i64 x0.Now]]) (fun W hm => (hm.pick [1, 0, 2, 3, 4, 5, 6, 7, 8, 9, 10, 11] (by decide))) Try.type45 rfl (Nat.le_of_ble_eq_true rfl) rfl rfl rfl rfl (Wd_none rfl) ?_
                              refine WM_nil ?_
                              refine QB_next (fun W hm => (hm.pick [4, 5, 6, 7, 8, 9, 10, 11] (by decide))) ?_
                              refine QB_take 10 (listed' := #[true, true, true, true, true, true, true, true, true, true, true]) (by kernel_rfl) rfl (by kernel_rfl) (by kernel_rfl) (by kernel_rfl) (fun _ _ _ h => h) (fun W hm => rv_assign rfl) (Wd_none rfl) rfl (by decide) ?_
                              refine QB_done (by kernel_rfl) ?_
                              exact QM_cut_normal (p195, A198, c199, A184, c185, A178, c179) (subL_cons rfl (subL_cons rfl (subL_cons rfl (subL_cons rfl (subL_cons rfl (subL_cons rfl subL_nil)))))) (fun W hm => hm) trivial
                            exact QBs_nil
                          refine QBs_cons (listed' := #[true, true, true, false, false, false, false, false, true, false, false]) (by kernel_rfl) rfl ?_ ?_
                          ·
                            refine WM_alloc Try.type45 rfl (Wd_none rfl) (by decide) (fun p202 => ?_)
                            refine WM_nil ?_
                            refine QB_next (fun W hm => (hm.pick [2, 3, 4, 5, 6, 7, 8, 9] (by decide))) ?_
                            refine QB_one 3 (listed' := #[true, true, true, true, false, false, false, false, true, false, false]) (by kernel_rfl) rfl (by kernel_rfl) ?_
                            refine WM_call (χ := List Value) (val := fun x => .agg x.toArray) (js := fun x => [iOwn tyUpdate x (laws_toUpdate_m x1)]) (cl_fn cb44 rfl) (fun W hm => laws_toUpdate_c W _ x1 (tyLUpdate_mk (x := x1) (hm.rdS0 r14)) (smUpdate_wt (by omega))) (Wd_none rfl) (by decide) (fun z203 => ?_)
                            refine WM_split (γ := Value) (js := fun g => [iOwn (tSl tInt 3) [g] ((laws_toUpdate_m x1).Row.Values)]) (C := fun g => z203 = [.int .i64 ((laws_toUpdate_m x1).Kind), .int .i64 ((laws_toUpdate_m x1).Row.Id), g, .int .i64 ((laws_toUpdate_m x1).Field), .int .i64 ((laws_toUpdate_m x1).Value)]) (fun _ _ h => tyUpdate_split h) ?_
                            rintro v204 rfl
                            refine WM_form (n := 0) rfl ?_
                            rintro A205 c206 rfl m207
                            refine WM_nil ?_
                            refine QB_next (fun W hm => (hm.pick [3, 4, 5, 6, 7, 8, 9, 10] (by decide))) ?_
                            refine QB_one 4 (listed' := #[true, true, true, true, true, false, false, false, true, false, false]) (by kernel_rfl) rfl (by kernel_rfl) ?_
                            refine WM_call (χ := List Value) (val := fun x => .tuple #[.agg x.toArray, .bool ((impl_ApplyUpdate_m (laws_toStore_m x0) (laws_toUpdate_m x1)).2)]) (js := fun x => [iOwn tyStore x ((impl_ApplyUpdate_m (laws_toStore_m x0) (laws_toUpdate_m x1)).1)]) (cl_fn cb45 rfl) (fun W hm => impl_ApplyUpdate_c W _ (laws_toStore_m x0) _ (laws_toUpdate_m x1) (tyStore_mk (x := (laws_toStore_m x0)) (hm.rdSI (n := 2) rfl)) (tyUpdate_mk (x := (laws_toUpdate_m x1)) (hm.rdSI (n := 0) rfl)) (by rw [laws_toStore_eq]; exact (smStore_wt (by omega))) (by rw [laws_toUpdate_eq]; exact (smUpdate_wt (by omega)))) (Wd_none rfl) (by decide) (fun z209 => ?_)
                            refine WM_split (γ := Value) (js := fun g => [iOwn (tSl (tSl tyVersion 102) 100) [g] (((impl_ApplyUpdate_m (laws_toStore_m x0) (laws_toUpdate_m x1)).1).Segments)]) (C := fun g => z209 = [g, .int .i64 (((impl_ApplyUpdate_m (laws_toStore_m x0) (laws_toUpdate_m x1)).1).Now)]) (fun _ _ h => tyStore_split h) ?_
                            rintro v210 rfl
                            refine WM_form (n := 0) rfl ?_
                            rintro A211 c212 rfl m213
                            refine WM_nil ?_
                            refine QB_next (fun W hm => (hm.pick [4, 5, 6, 7, 8, 9, 10, 11] (by decide))) ?_
                            refine QB_take 5 (listed' := #[true, true, true, true, true, true, false, false, true, false, false]) (by kernel_rfl) rfl (by kernel_rfl) (by kernel_rfl) (by kernel_rfl) (fun _ _ _ h => h) (fun W hm => rv_move rfl) (Wd_none rfl) rfl (by decide) ?_
                            refine QB_take 6 (listed' := #[true, true, true, true, true, true, true, false, true, false, false]) (by kernel_rfl) rfl (by kernel_rfl) (by kernel_rfl) (by kernel_rfl) (fun _ _ _ h => h) (fun W hm => rv_extract rfl rfl) (Wd_none rfl) rfl (by decide) ?_
                            refine QB_take 7 (listed' := #[true, true, true, true, true, true, true, true, true, false, false]) (by kernel_rfl) rfl (by kernel_rfl) (by kernel_rfl) (by kernel_rfl) (fun _ _ _ h => h) (fun W hm => rv_extract rfl rfl) (Wd_none rfl) rfl (by decide) ?_
                            refine QB_one 9 (listed' := #[true, true, true, true, true, true, true, true, true, true, false]) (by kernel_rfl) rfl (by kernel_rfl) ?_
                            refine WM_storeBox (p := p202) (o := 0) (cs := [.slice none 0 0, .int .i64 0]) (cs' := [.slice A211 (((impl_ApplyUpdate_m (laws_toStore_m x0) (laws_toUpdate_m x1)).1).Segments).length c212, .int .i64 (((impl_ApplyUpdate_m (laws_toStore_m x0) (laws_toUpdate_m x1)).1).Now)]) (js := [iOwn (tSl (tSl tyVersion 102) 100) [.slice A211 (((impl_ApplyUpdate_m (laws_toStore_m x0) (laws_toUpdate_m x1)).1).Segments).length c212] (((impl_ApplyUpdate_m (laws_toStore_m x0) (laws_toUpdate_m x1)).1).Segments), iOwn (tSl tInt 3) [.slice A205 ((laws_toUpdate_m x1).Row.Values).length c206] ((laws_toUpdate_m x1).Row.Values), iOwn (tSl (tSl tyVersion 102) 100) [.slice A178 ((laws_toStore_m x0).Segments).length c179] ((laws_toStore_m x0).Segments), iOwn (tSl (tSl tyVersion 102) 100) [.slice A120 (((impl_ApplyUpdate_m (laws_toStore_m x0) (laws_toUpdate_m x1)).1).Segments).length c121] ((laws_markStore_m ((impl_ApplyUpdate_m (laws_toStore_m x0) (laws_toUpdate_m x1)).1) 1).2.Segments), iOwn (tSl tInt 3) [.slice A113 ((laws_toUpdate_m x1).Row.Values).length c114] ((laws_markUpdate_m (laws_toUpdate_m x1) ((laws_markStore_m (laws_toStore_m x0) 1).1)).2.Row.Values), iBox p124 45 [.slice A120 (((impl_ApplyUpdate_m (laws_toStore_m x0) (laws_toUpdate_m x1)).1).Segments).length c121, .int .i64 (((impl_ApplyUpdate_m (laws_toStore_m x0) (laws_toUpdate_m x1)).1).Now)], iBox p117 71 [.int .i64 ((laws_toUpdate_m x1).Kind), .int .i64 ((laws_toUpdate_m x1).Row.Id), .slice A113 ((laws_toUpdate_m x1).Row.Values).length c114, .int .i64 ((laws_toUpdate_m x1).Field), .int .i64 ((laws_toUpdate_m x1).Value)], iBox p39 45 [.slice A35 (((spec_ApplyUpdate_m (laws_toStore_m x0) (laws_toUpdate_m x1)).1).Segments).length c36, .int .i64 (((spec_ApplyUpdate_m (laws_toStore_m x0) (laws_toUpdate_m x1)).1).Now)], iOwn (tSl (tSl tyVersion 102) 100) [.slice A35 (((spec_ApplyUpdate_m (laws_toStore_m x0) (laws_toUpdate_m x1)).1).Segments).length c36] (((spec_ApplyUpdate_m (laws_toStore_m x0) (laws_toUpdate_m x1)).1).Segments), iBox p16 65 [.int .i64 x1.Kind, .int .i64 x1.Row.Id, .slice A11 x1.Row.Values.length c12, .int .i64 x1.Field, .int .i64 x1.Value], iBox p15 41 [.slice A4 x0.Segments.length c5, .int .i64 x0.Now]]) (fun W hm => (hm.pick [2, 0, 1, 3, 4, 5, 6, 7, 8, 9, 10, 11] (by decide))) Try.type45 rfl (Nat.le_of_ble_eq_true rfl) rfl rfl rfl rfl (Wd_none rfl) ?_
                            refine WM_nil ?_
                            refine QB_next (fun W hm => (hm.pick [4, 5, 6, 7, 8, 9, 10, 11] (by decide))) ?_
                            refine QB_take 10 (listed' := #[true, true, true, true, true, true, true, true, true, true, true]) (by kernel_rfl) rfl (by kernel_rfl) (by kernel_rfl) (by kernel_rfl) (fun _ _ _ h => h) (fun W hm => rv_assign rfl) (Wd_none rfl) rfl (by decide) ?_
                            refine QB_done (by kernel_rfl) ?_
                            exact QM_cut_normal (p202, A211, c212, A205, c206, A178, c179) (subL_cons rfl (subL_cons rfl (subL_cons rfl (subL_cons rfl (subL_cons rfl (subL_cons rfl subL_nil)))))) (fun W hm => hm) trivial
                          exact QBs_nil
                        refine QBs_cons (listed' := #[true, false, true, false, false, false, false, false, true, false, false]) (by kernel_rfl) rfl ?_ ?_
                        ·
                          refine WM_alloc Try.type45 rfl (Wd_none rfl) (by decide) (fun p215 => ?_)
                          refine WM_nil ?_
                          refine QB_next (fun W hm => (hm.pick [1, 2, 3, 4, 5, 6, 7, 8] (by decide))) ?_
                          refine QB_one 1 (listed' := #[true, true, true, false, false, false, false, false, true, false, false]) (by kernel_rfl) rfl (by kernel_rfl) ?_
                          refine WM_call (χ := List Value) (val := fun x => .agg x.toArray) (js := fun x => [iOwn tyStore x (laws_toStore_m x0)]) (cl_fn cb28 rfl) (fun W hm => laws_toStore_c W _ x0 (tyLStore_mk (x := x0) (hm.rdS0 r7)) (smStore_wt (by omega))) (Wd_none rfl) (by decide) (fun z216 => ?_)
                          refine WM_split (γ := Value) (js := fun g => [iOwn (tSl (tSl tyVersion 102) 100) [g] ((laws_toStore_m x0).Segments)]) (C := fun g => z216 = [g, .int .i64 ((laws_toStore_m x0).Now)]) (fun _ _ h => tyStore_split h) ?_
                          rintro v217 rfl
                          refine WM_form (n := 0) rfl ?_
                          rintro A218 c219 rfl m220
                          refine WM_nil ?_
                          refine QB_next (fun W hm => (hm.pick [2, 3, 4, 5, 6, 7, 8, 9] (by decide))) ?_
                          refine QB_one 3 (listed' := #[true, true, true, true, false, false, false, false, true, false, false]) (by kernel_rfl) rfl (by kernel_rfl) ?_
                          refine WM_call (χ := List Value) (val := fun x => .agg x.toArray) (js := fun x => [iOwn tyUpdate x (laws_toUpdate_m x1)]) (cl_fn cb44 rfl) (fun W hm => laws_toUpdate_c W _ x1 (tyLUpdate_mk (x := x1) (hm.rdS0 r14)) (smUpdate_wt (by omega))) (Wd_none rfl) (by decide) (fun z222 => ?_)
                          refine WM_split (γ := Value) (js := fun g => [iOwn (tSl tInt 3) [g] ((laws_toUpdate_m x1).Row.Values)]) (C := fun g => z222 = [.int .i64 ((laws_toUpdate_m x1).Kind), .int .i64 ((laws_toUpdate_m x1).Row.Id), g, .int .i64 ((laws_toUpdate_m x1).Field), .int .i64 ((laws_toUpdate_m x1).Value)]) (fun _ _ h => tyUpdate_split h) ?_
                          rintro v223 rfl
                          refine WM_form (n := 0) rfl ?_
                          rintro A224 c225 rfl m226
                          refine WM_nil ?_
                          refine QB_next (fun W hm => (hm.pick [3, 4, 5, 6, 7, 8, 9, 10] (by decide))) ?_
                          refine QB_one 4 (listed' := #[true, true, true, true, true, false, false, false, true, false, false]) (by kernel_rfl) rfl (by kernel_rfl) ?_
                          refine WM_call (χ := List Value) (val := fun x => .tuple #[.agg x.toArray, .bool ((impl_ApplyUpdate_m (laws_toStore_m x0) (laws_toUpdate_m x1)).2)]) (js := fun x => [iOwn tyStore x ((impl_ApplyUpdate_m (laws_toStore_m x0) (laws_toUpdate_m x1)).1)]) (cl_fn cb45 rfl) (fun W hm => impl_ApplyUpdate_c W _ (laws_toStore_m x0) _ (laws_toUpdate_m x1) (tyStore_mk (x := (laws_toStore_m x0)) (hm.rdSI (n := 1) rfl)) (tyUpdate_mk (x := (laws_toUpdate_m x1)) (hm.rdSI (n := 0) rfl)) (by rw [laws_toStore_eq]; exact (smStore_wt (by omega))) (by rw [laws_toUpdate_eq]; exact (smUpdate_wt (by omega)))) (Wd_none rfl) (by decide) (fun z228 => ?_)
                          refine WM_split (γ := Value) (js := fun g => [iOwn (tSl (tSl tyVersion 102) 100) [g] (((impl_ApplyUpdate_m (laws_toStore_m x0) (laws_toUpdate_m x1)).1).Segments)]) (C := fun g => z228 = [g, .int .i64 (((impl_ApplyUpdate_m (laws_toStore_m x0) (laws_toUpdate_m x1)).1).Now)]) (fun _ _ h => tyStore_split h) ?_
                          rintro v229 rfl
                          refine WM_form (n := 0) rfl ?_
                          rintro A230 c231 rfl m232
                          refine WM_nil ?_
                          refine QB_next (fun W hm => (hm.pick [4, 5, 6, 7, 8, 9, 10, 11] (by decide))) ?_
                          refine QB_take 5 (listed' := #[true, true, true, true, true, true, false, false, true, false, false]) (by kernel_rfl) rfl (by kernel_rfl) (by kernel_rfl) (by kernel_rfl) (fun _ _ _ h => h) (fun W hm => rv_move rfl) (Wd_none rfl) rfl (by decide) ?_
                          refine QB_take 6 (listed' := #[true, true, true, true, true, true, true, false, true, false, false]) (by kernel_rfl) rfl (by kernel_rfl) (by kernel_rfl) (by kernel_rfl) (fun _ _ _ h => h) (fun W hm => rv_extract rfl rfl) (Wd_none rfl) rfl (by decide) ?_
                          refine QB_take 7 (listed' := #[true, true, true, true, true, true, true, true, true, false, false]) (by kernel_rfl) rfl (by kernel_rfl) (by kernel_rfl) (by kernel_rfl) (fun _ _ _ h => h) (fun W hm => rv_extract rfl rfl) (Wd_none rfl) rfl (by decide) ?_
                          refine QB_one 9 (listed' := #[true, true, true, true, true, true, true, true, true, true, false]) (by kernel_rfl) rfl (by kernel_rfl) ?_
                          refine WM_storeBox (p := p215) (o := 0) (cs := [.slice none 0 0, .int .i64 0]) (cs' := [.slice A230 (((impl_ApplyUpdate_m (laws_toStore_m x0) (laws_toUpdate_m x1)).1).Segments).length c231, .int .i64 (((impl_ApplyUpdate_m (laws_toStore_m x0) (laws_toUpdate_m x1)).1).Now)]) (js := [iOwn (tSl (tSl tyVersion 102) 100) [.slice A230 (((impl_ApplyUpdate_m (laws_toStore_m x0) (laws_toUpdate_m x1)).1).Segments).length c231] (((impl_ApplyUpdate_m (laws_toStore_m x0) (laws_toUpdate_m x1)).1).Segments), iOwn (tSl tInt 3) [.slice A224 ((laws_toUpdate_m x1).Row.Values).length c225] ((laws_toUpdate_m x1).Row.Values), iOwn (tSl (tSl tyVersion 102) 100) [.slice A218 ((laws_toStore_m x0).Segments).length c219] ((laws_toStore_m x0).Segments), iOwn (tSl (tSl tyVersion 102) 100) [.slice A120 (((impl_ApplyUpdate_m (laws_toStore_m x0) (laws_toUpdate_m x1)).1).Segments).length c121] ((laws_markStore_m ((impl_ApplyUpdate_m (laws_toStore_m x0) (laws_toUpdate_m x1)).1) 1).2.Segments), iOwn (tSl tInt 3) [.slice A113 ((laws_toUpdate_m x1).Row.Values).length c114] ((laws_markUpdate_m (laws_toUpdate_m x1) ((laws_markStore_m (laws_toStore_m x0) 1).1)).2.Row.Values), iBox p124 45 [.slice A120 (((impl_ApplyUpdate_m (laws_toStore_m x0) (laws_toUpdate_m x1)).1).Segments).length c121, .int .i64 (((impl_ApplyUpdate_m (laws_toStore_m x0) (laws_toUpdate_m x1)).1).Now)], iBox p117 71 [.int .i64 ((laws_toUpdate_m x1).Kind), .int .i64 ((laws_toUpdate_m x1).Row.Id), .slice A113 ((laws_toUpdate_m x1).Row.Values).length c114, .int .i64 ((laws_toUpdate_m x1).Field), .int .i64 ((laws_toUpdate_m x1).Value)], iBox p39 45 [.slice A35 (((spec_ApplyUpdate_m (laws_toStore_m x0) (laws_toUpdate_m x1)).1).Segments).length c36, .int .i64 (((spec_ApplyUpdate_m (laws_toStore_m x0) (laws_toUpdate_m x1)).1).Now)], iOwn (tSl (tSl tyVersion 102) 100) [.slice A35 (((spec_ApplyUpdate_m (laws_toStore_m x0) (laws_toUpdate_m x1)).1).Segments).length c36] (((spec_ApplyUpdate_m (laws_toStore_m x0) (laws_toUpdate_m x1)).1).Segments), iBox p16 65 [.int .i64 x1.Kind, .int .i64 x1.Row.Id, .slice A11 x1.Row.Values.length c12, .int .i64 x1.Field, .int .i64 x1.Value], iBox p15 41 [.slice A4 x0.Segments.length c5, .int .i64 x0.Now]]) (fun W hm => (hm.pick [3, 0, 1, 2, 4, 5, 6, 7, 8, 9, 10, 11] (by decide))) Try.type45 rfl (Nat.le_of_ble_eq_true rfl) rfl rfl rfl rfl (Wd_none rfl) ?_
                          refine WM_nil ?_
                          refine QB_next (fun W hm => (hm.pick [4, 5, 6, 7, 8, 9, 10, 11] (by decide))) ?_
                          refine QB_take 10 (listed' := #[true, true, true, true, true, true, true, true, true, true, true]) (by kernel_rfl) rfl (by kernel_rfl) (by kernel_rfl) (by kernel_rfl) (fun _ _ _ h => h) (fun W hm => rv_assign rfl) (Wd_none rfl) rfl (by decide) ?_
                          refine QB_done (by kernel_rfl) ?_
                          exact QM_cut_normal (p215, A230, c231, A224, c225, A218, c219) (subL_cons rfl (subL_cons rfl (subL_cons rfl (subL_cons rfl (subL_cons rfl (subL_cons rfl subL_nil)))))) (fun W hm => hm) trivial
                        exact QBs_nil
                      ·
                        rintro ⟨p175, A171, c172, A165, c166, A159, c160⟩ -
                        show QM 119 _ _ _ .normal [(6, .pointer (some (⟨p39, 0, none⟩ : Addr))), (7, .bool (spec_ApplyUpdate_m (laws_toStore_m x0) (laws_toUpdate_m x1)).2), (10, .pointer (some (⟨p124, 0, none⟩ : Addr))), (13, .int .i64 ((laws_markStore_m ((impl_ApplyUpdate_m (laws_toStore_m x0) (laws_toUpdate_m x1)).1) 1).1)), (15, .pointer (some (⟨p175, 0, none⟩ : Addr))), (16, .bool (impl_ApplyUpdate_m (laws_toStore_m x0) (laws_toUpdate_m x1)).2)] [iBox p175 45 [.slice A171 (((impl_ApplyUpdate_m (laws_toStore_m x0) (laws_toUpdate_m x1)).1).Segments).length c172, .int .i64 (((impl_ApplyUpdate_m (laws_toStore_m x0) (laws_toUpdate_m x1)).1).Now)], iOwn (tSl (tSl tyVersion 102) 100) [.slice A171 (((impl_ApplyUpdate_m (laws_toStore_m x0) (laws_toUpdate_m x1)).1).Segments).length c172] (((impl_ApplyUpdate_m (laws_toStore_m x0) (laws_toUpdate_m x1)).1).Segments), iOwn (tSl tInt 3) [.slice A165 ((laws_toUpdate_m x1).Row.Values).length c166] ((laws_toUpdate_m x1).Row.Values), iOwn (tSl (tSl tyVersion 102) 100) [.slice A159 ((laws_toStore_m x0).Segments).length c160] ((laws_toStore_m x0).Segments), iOwn (tSl (tSl tyVersion 102) 100) [.slice A120 (((impl_ApplyUpdate_m (laws_toStore_m x0) (laws_toUpdate_m x1)).1).Segments).length c121] ((laws_markStore_m ((impl_ApplyUpdate_m (laws_toStore_m x0) (laws_toUpdate_m x1)).1) 1).2.Segments), iOwn (tSl tInt 3) [.slice A113 ((laws_toUpdate_m x1).Row.Values).length c114] ((laws_markUpdate_m (laws_toUpdate_m x1) ((laws_markStore_m (laws_toStore_m x0) 1).1)).2.Row.Values), iBox p124 45 [.slice A120 (((impl_ApplyUpdate_m (laws_toStore_m x0) (laws_toUpdate_m x1)).1).Segments).length c121, .int .i64 (((impl_ApplyUpdate_m (laws_toStore_m x0) (laws_toUpdate_m x1)).1).Now)], iBox p117 71 [.int .i64 ((laws_toUpdate_m x1).Kind), .int .i64 ((laws_toUpdate_m x1).Row.Id), .slice A113 ((laws_toUpdate_m x1).Row.Values).length c114, .int .i64 ((laws_toUpdate_m x1).Field), .int .i64 ((laws_toUpdate_m x1).Value)], iBox p39 45 [.slice A35 (((spec_ApplyUpdate_m (laws_toStore_m x0) (laws_toUpdate_m x1)).1).Segments).length c36, .int .i64 (((spec_ApplyUpdate_m (laws_toStore_m x0) (laws_toUpdate_m x1)).1).Now)], iOwn (tSl (tSl tyVersion 102) 100) [.slice A35 (((spec_ApplyUpdate_m (laws_toStore_m x0) (laws_toUpdate_m x1)).1).Segments).length c36] (((spec_ApplyUpdate_m (laws_toStore_m x0) (laws_toUpdate_m x1)).1).Segments), iBox p16 65 [.int .i64 x1.Kind, .int .i64 x1.Row.Id, .slice A11 x1.Row.Values.length c12, .int .i64 x1.Field, .int .i64 x1.Value], iBox p15 41 [.slice A4 x0.Segments.length c5, .int .i64 x0.Now]]
                        refine QM_len (n := 1) rfl ?_
                        intro m234 m235
                        refine QM_len (n := 2) rfl ?_
                        intro m236 m237
                        refine QM_len (n := 3) rfl ?_
                        intro m238 m239
                        refine QM_then ?_
                        refine CM_seq ?_
                        refine CM_seq ?_
                        refine CM_items (fun W hm => (hm.pick [0, 1, 4, 6, 8, 9] (by decide))) ?_
                        refine CM_region ?_
                        refine wv (fun W hm => rv_loadN (cs := [.slice A171 (((impl_ApplyUpdate_m (laws_toStore_m x0) (laws_toUpdate_m x1)).1).Segments).length c172, .int .i64 (((impl_ApplyUpdate_m (laws_toStore_m x0) (laws_toUpdate_m x1)).1).Now)]) Try.underlying45 Try.type45 rfl rfl (hm.boxCells (n := 0) rfl)) ?_
                        refine wv (fun W hm => rv_loadN (cs := [.slice A35 (((spec_ApplyUpdate_m (laws_toStore_m x0) (laws_toUpdate_m x1)).1).Segments).length c36, .int .i64 (((spec_ApplyUpdate_m (laws_toStore_m x0) (laws_toUpdate_m x1)).1).Now)]) Try.underlying45 Try.type45 rfl rfl (hm.boxCells (n := 4) rfl)) ?_
                        refine WM_callV (cl_fn cb30 rfl) (fun W hm => laws_eqStore_c W _ ((impl_ApplyUpdate_m (laws_toStore_m x0) (laws_toUpdate_m x1)).1) _ ((spec_ApplyUpdate_m (laws_toStore_m x0) (laws_toUpdate_m x1)).1) (tyStore_mk (x := ((impl_ApplyUpdate_m (laws_toStore_m x0) (laws_toUpdate_m x1)).1)) (hm.rdSI (n := 1) rfl)) (tyStore_mk (x := ((spec_ApplyUpdate_m (laws_toStore_m x0) (laws_toUpdate_m x1)).1)) (hm.rdSI (n := 5) rfl))) (Wd_none rfl) (by decide) ?_
                        refine wv (fun W hm => rv_not rfl) ?_
                        refine wm ?_
                        refine wg (fun W hm => rv_move rfl) (nt g126) ?_
                        refine wg (fun W hm => rv_move rfl) (nt g126) ?_
                        refine wg (fun W hm => rv_neqB Try.underlying4 rfl rfl) (nt g126) ?_
                        refine wv (fun W hm => rv_pickF rfl (nt g126) rfl) ?_
                        refine nt' ?_
                        refine CM_condF rfl g128 ?_
                        refine CM_skip ?_
                        refine QM_then ?_
                        refine CM_seq ?_
                        refine CM_items (fun W hm => (hm.pick [2, 3] (by decide))) ?_
                        refine CM_region ?_
                        refine wa ?_
                        refine nt' ?_
                        refine sr ?_
                        refine wv (fun W hm => rv_loadN (cs := [.slice A120 (((impl_ApplyUpdate_m (laws_toStore_m x0) (laws_toUpdate_m x1)).1).Segments).length c121, .int .i64 (((impl_ApplyUpdate_m (laws_toStore_m x0) (laws_toUpdate_m x1)).1).Now)]) Try.underlying45 Try.type45 rfl rfl (hm.boxCells (n := 1) rfl)) ?_
                        refine wm ?_
                        refine WM_callV (cl_fn cb32 rfl) (fun W hm => laws_heldStore_c W _ (⟨(laws_markStore_m ((impl_ApplyUpdate_m (laws_toStore_m x0) (laws_toUpdate_m x1)).1) 1).2.Segments, ((impl_ApplyUpdate_m (laws_toStore_m x0) (laws_toUpdate_m x1)).1).Now⟩ : DStore) 1 (tyStore_mk (x := (⟨(laws_markStore_m ((impl_ApplyUpdate_m (laws_toStore_m x0) (laws_toUpdate_m x1)).1) 1).2.Segments, ((impl_ApplyUpdate_m (laws_toStore_m x0) (laws_toUpdate_m x1)).1).Now⟩ : DStore)) (hm.rdSI (n := 0) rfl))) (Wd_none rfl) (by decide) ?_
                        refine wa ?_
                        refine nt' ?_
                        refine CM_seq ?_
                        refine sr ?_
                        refine wm ?_
                        refine wv (fun W hm => rv_lss rfl rfl) ?_
                        refine nt' ?_
                        refine CM_condF rfl g154 ?_
                        refine CM_skip ?_
                        refine QM_then ?_
                        refine CM_seq ?_
                        refine sr ?_
                        refine wm ?_
                        refine wm ?_
                        refine wv (fun W hm => rv_neq rfl rfl) ?_
                        refine nt' ?_
                        refine CM_condF rfl g156 ?_
                        refine CM_skip ?_
                        refine QM_then ?_
                        refine sr ?_
                        refine wa ?_
                        refine nt' ?_
                        refine CM_ret ?_
                        exact QM_ret1 rfl rfl (fun W hm => ⟨ret_b (show laws_FnExactApplyUpdate_m x0 x1 = true from by unfold laws_FnExactApplyUpdate_m; exact cond_f g18 (cond_f g20 (cond_t g126 (cond_f g128 (cond_t g136 (cond_t g144 (cond_f g150 (cond_f g154 (cond_f g156 (rfl)))))))))), hm.below⟩)
                    · have g156 : ((laws_heldStore_m (⟨(laws_markStore_m ((impl_ApplyUpdate_m (laws_toStore_m x0) (laws_toUpdate_m x1)).1) 1).2.Segments, ((impl_ApplyUpdate_m (laws_toStore_m x0) (laws_toUpdate_m x1)).1).Now⟩ : DStore) 1) != ((laws_markStore_m ((impl_ApplyUpdate_m (laws_toStore_m x0) (laws_toUpdate_m x1)).1) 1).1)) = true := bne_iff_ne.2 h155
                      refine CM_condT rfl g156 ?_
                      refine CM_seq ?_
                      refine CM_items (fun W hm => (hm.pick [] (by decide))) ?_
                      refine CM_region ?_
                      refine wa ?_
                      refine nt' ?_
                      refine CM_ret ?_
                      refine QM_then_ret ?_
                      exact QM_ret1 rfl rfl (fun W hm => ⟨ret_b (show laws_FnExactApplyUpdate_m x0 x1 = false from by unfold laws_FnExactApplyUpdate_m; exact cond_f g18 (cond_f g20 (cond_t g126 (cond_f g128 (cond_t g136 (cond_t g144 (cond_f g150 (cond_f g154 (cond_t g156 (rfl)))))))))), hm.below⟩)
              ·
                refine CM_condT rfl (nf g144) ?_
                refine CM_seq ?_
                refine CM_items (fun W hm => (hm.pick [] (by decide))) ?_
                refine CM_region ?_
                refine wa ?_
                refine nt' ?_
                refine CM_ret ?_
                refine QM_then_ret ?_
                exact QM_ret1 rfl rfl (fun W hm => ⟨ret_b (show laws_FnExactApplyUpdate_m x0 x1 = false from by unfold laws_FnExactApplyUpdate_m; exact cond_f g18 (cond_f g20 (cond_t g126 (cond_f g128 (cond_t g136 (cond_f g144 (rfl))))))), hm.below⟩)
            ·
              refine CM_condT rfl (nf g136) ?_
              refine CM_seq ?_
              refine CM_items (fun W hm => (hm.pick [] (by decide))) ?_
              refine CM_region ?_
              refine wa ?_
              refine nt' ?_
              refine CM_ret ?_
              refine QM_then_ret ?_
              exact QM_ret1 rfl rfl (fun W hm => ⟨ret_b (show laws_FnExactApplyUpdate_m x0 x1 = false from by unfold laws_FnExactApplyUpdate_m; exact cond_f g18 (cond_f g20 (cond_t g126 (cond_f g128 (cond_f g136 (rfl)))))), hm.below⟩)
        ·
          refine ws (nf g126) ?_
          refine ws (nf g126) ?_
          refine ws (nf g126) ?_
          refine wv (fun W hm => rv_pickT rfl (nf g126) rfl) ?_
          refine nt' ?_
          refine CM_condT rfl rfl ?_
          refine CM_seq ?_
          refine CM_items (fun W hm => (hm.pick [] (by decide))) ?_
          refine CM_region ?_
          refine wa ?_
          refine nt' ?_
          refine CM_ret ?_
          refine QM_then_ret ?_
          exact QM_ret1 rfl rfl (fun W hm => ⟨ret_b (show laws_FnExactApplyUpdate_m x0 x1 = false from by unfold laws_FnExactApplyUpdate_m; exact cond_f g18 (cond_f g20 (cond_f g126 (rfl)))), hm.below⟩)

end Go.Proofs.Ytjcdginailhfmaa
