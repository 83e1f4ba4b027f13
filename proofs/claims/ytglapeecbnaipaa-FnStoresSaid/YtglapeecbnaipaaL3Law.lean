/-
  The contract of the law.
-/
import Derived.Test.YtglapeecbnaipaaL3Pl
namespace Go.Proofs.Ytglapeecbnaipaa
open Go.RowKit
set_option maxRecDepth 100000
set_option maxHeartbeats 4000000
open _root_.Go.Proofs.Try
theorem Room_cases (x : DStore) : (rng (R := Int) (fun k (_ : Unit) => spec_l8Room_b1 x k) (x.Segments.length - 0) 0 () = .inr () ∧ spec_l8Room_m x < 0) ∨ (rng (R := Int) (fun k (_ : Unit) => spec_l8Room_b1 x k) (x.Segments.length - 0) 0 () = .inl (spec_l8Room_m x) ∧ ¬ spec_l8Room_m x < 0) := by
  have hr := spec_Room_fact x
  unfold spec_l8Room_m at hr ⊢
  cases h : rng (R := Int) (fun k (_ : Unit) => spec_l8Room_b1 x k) (x.Segments.length - 0) 0 () with
  | inr s => exact .inl ⟨rfl, by show (-1 : Int) < 0; decide⟩
  | inl r =>
    refine .inr ⟨rfl, ?_⟩
    rw [h] at hr
    have hr' : r < 0 ∨ (0 ≤ r ∧ r.toNat < x.Segments.length ∧ (gt x.Segments r.toNat).length < 4) := hr
    show ¬ r < 0
    rcases hr' with h1 | h1
    · exfalso
      rcases rng_find (P := fun r : Int => 0 ≤ r) (n := x.Segments.length) (b := fun k (_ : Unit) => spec_l8Room_b1 x k) (fun j hj => by
        show (∃ r, spec_l8Room_b1 x j = .inl r ∧ _) ∨ spec_l8Room_b1 x j = .inr ()
        unfold spec_l8Room_b1
        cases decide (((gt x.Segments j).length : Int) < 4) with
        | true => exact .inl ⟨_, rfl, by omega⟩
        | false => exact .inr rfl) (x.Segments.length - 0) 0 (by omega) with ⟨q, e1, e2⟩ | e1
      · rw [h] at e1; cases e1; omega
      · rw [h] at e1; cases e1
    · omega
theorem Room_loop (x : DStore) {segs : List (List DVersion)} (hl : ∀ j, (gt segs j).length = (gt x.Segments j).length) {F : Nat → DStore × Bool} {b : Nat → Unit → (DStore × Bool) ⊕ Unit} (hb : ∀ j, b j () = cond (decide ((((gt segs j).length : Nat) : Int) < 4)) (.inl (F j)) (.inr ())) {y : DStore × Bool} :
    Sum.elim id (fun (_ : Unit) => y) (rng b (x.Segments.length - 0) 0 ()) = cond (decide (spec_l8Room_m x < 0)) y (F (spec_l8Room_m x).toNat) := by
  rw [rng_idx (c := fun j => decide ((((gt segs j).length : Nat) : Int) < 4)) (F := F) (b' := fun k (_ : Unit) => spec_l8Room_b1 x k) hb (fun j => by unfold spec_l8Room_b1; rw [hl])]
  rcases Room_cases x with ⟨h1, h2⟩ | ⟨h1, h2⟩
  · rw [h1, decide_eq_true h2]; rfl
  · rw [h1, decide_eq_false h2]; rfl
theorem ApplyUpdate_same (x : DStore) (u : DUpdate) : impl_ApplyUpdate_m x u = spec_ApplyUpdate_m x u := by
  unfold impl_ApplyUpdate_m spec_ApplyUpdate_m
  rw [IsStore_same, IsUpdate_same]
  cases hs : spec_IsStore_m x with
  | false => rfl
  | true =>
  cases hu : spec_IsUpdate_m u with
  | false => rfl
  | true =>
    obtain ⟨_, hn, _, _⟩ := spec_Store_vers hs
    obtain ⟨hk, _, _, _⟩ := spec_Update_fact hu
    have e0 : impl_findAlive_m x u.Row.Id = spec_l8Find_m x u.Row.Id := rfl
    have e1 : (x.Now == 100000) = decide (100000 ≤ x.Now) := by
      by_cases h : x.Now = 100000
      · rw [beq_iff_eq.2 h, decide_eq_true (by omega)]
      · rw [beq_eq_false_iff_ne.2 h, decide_eq_false (by omega)]
    rw [e0, e1]
    cases decide (100000 ≤ x.Now) with
    | true => rfl
    | false =>
    by_cases hr : (spec_l8Find_m x u.Row.Id).1 < 0
    · rw [decide_eq_true hr, decide_eq_false (show ¬ 0 ≤ (spec_l8Find_m x u.Row.Id).1 by omega)]
      by_cases k1 : u.Kind = 1
      · rw [beq_iff_eq.2 k1, beq_eq_false_iff_ne.2 (show ¬ u.Kind = 3 by omega), beq_eq_false_iff_ne.2 (show ¬ u.Kind = 2 by omega), bne_iff_ne.2 (show u.Kind ≠ 2 by omega)]
        exact Room_loop x (segs := x.Segments) (fun _ => rfl) (b := fun k (_ : Unit) => impl_ApplyUpdate_b4 x u k) (fun j => rfl)
      · rw [beq_eq_false_iff_ne.2 k1]; rfl
    · rw [decide_eq_false hr, decide_eq_true (show 0 ≤ (spec_l8Find_m x u.Row.Id).1 by omega)]
      have hl : ∀ j, (gt (x.Segments.set (impl_findAlive_m x u.Row.Id).1.toNat (impl_ApplyUpdate_v1 x u)) j).length = (gt x.Segments j).length := fun j => gtset_len List.length_set j
      rcases hk with k1 | k2 | k3
      · rw [beq_iff_eq.2 k1]; rfl
      · rw [beq_iff_eq.2 k2, beq_eq_false_iff_ne.2 (show ¬ u.Kind = 1 by omega), beq_eq_false_iff_ne.2 (show ¬ u.Kind = 3 by omega), show (u.Kind != 2) = false from by rw [k2]; rfl]
        rfl
      · rw [beq_iff_eq.2 k3, beq_eq_false_iff_ne.2 (show ¬ u.Kind = 1 by omega), beq_eq_false_iff_ne.2 (show ¬ u.Kind = 2 by omega), bne_iff_ne.2 (show u.Kind ≠ 2 by omega)]
        exact Room_loop x hl (b := fun k (_ : Unit) => impl_ApplyUpdate_b1 x u k) (fun j => rfl)
theorem smP_store {s : List (List DVersion)} {now : Int} (hl : s.length ≤ 8) (h : ∀ z ∈ s, smP 5 z) : smStore 68719476736 ⟨s, now⟩ :=
  ⟨by show s.length ≤ _; omega, fun z hz => ⟨by have := (h z hz).1; omega, fun v hv => by have := (h z hz).2 v hv; show v.Values.length ≤ _; omega⟩⟩
theorem spec_ApplyUpdate_sm {x : DStore} (h : smStore 68719476736 x) (u : DUpdate) : smStore 68719476736 (spec_ApplyUpdate_m x u).1 := by
  rcases spec_ApplyUpdate_key x u with e | ⟨e1, e2⟩
  · rw [e]; exact h
  · exact smP_store (now := (spec_ApplyUpdate_m x u).1.Now) e1 e2
theorem impl_ApplyUpdate_sm {x : DStore} (h : smStore 68719476736 x) (u : DUpdate) : smStore 68719476736 (impl_ApplyUpdate_m x u).1 := by
  rw [ApplyUpdate_same]; exact spec_ApplyUpdate_sm h u
theorem spec_l8Any_sm (b : List Int) (D : Dl1Cur) (s : DStore) : smUpdate 68719476736 (spec_l8Any_m b D s).1 := by
  unfold spec_l8Any_m
  repeat' (first | exact spec_l8Update_sm _ _ _ | apply cond_smU)
theorem spec_DrawApplyUpdate_fact (x : List Int) : stD 21 (spec_DrawApplyUpdate_m x).1 ∧ smUpdate 68719476736 (spec_DrawApplyUpdate_m x).2 := ⟨spec_l7Any_stD _ _, spec_l8Any_sm _ _ _⟩
theorem impl_ApplyUpdate_upd {x : DStore} {u : DUpdate} (h : (impl_ApplyUpdate_m x u).2 = true) : u.Kind = 3 → 0 ≤ u.Field ∧ u.Field ≤ 2 := by
  rw [ApplyUpdate_same] at h
  cases hu : spec_IsUpdate_m u with
  | true => exact (spec_Update_fact hu).2.1
  | false =>
    unfold spec_ApplyUpdate_m at h
    rw [hu] at h
    revert h
    cases spec_IsStore_m x <;> intro h <;> cases h
def laws_FnStores_b2 (x0 : (List Int)) (k87 : Nat) (s88 : Bool) : Bool ⊕ (Bool) :=
 cond (((gt (impl_RowsAt_m (impl_ApplyUpdate_m ((spec_DrawApplyUpdate_m x0).1) ((spec_DrawApplyUpdate_m x0).2)).1 (impl_ApplyUpdate_m ((spec_DrawApplyUpdate_m x0).1) ((spec_DrawApplyUpdate_m x0).2)).1.Now) k87).Id) != (((spec_DrawApplyUpdate_m x0).2).Row.Id)) (Sum.inr s88) (cond (((((gt (impl_RowsAt_m (impl_ApplyUpdate_m ((spec_DrawApplyUpdate_m x0).1) ((spec_DrawApplyUpdate_m x0).2)).1 (impl_ApplyUpdate_m ((spec_DrawApplyUpdate_m x0).1) ((spec_DrawApplyUpdate_m x0).2)).1.Now) k87).Values).length : Nat) : Int) != 3) (Sum.inl false) (cond ((((spec_DrawApplyUpdate_m x0).2).Kind) == 3) (cond ((gt ((gt (impl_RowsAt_m (impl_ApplyUpdate_m ((spec_DrawApplyUpdate_m x0).1) ((spec_DrawApplyUpdate_m x0).2)).1 (impl_ApplyUpdate_m ((spec_DrawApplyUpdate_m x0).1) ((spec_DrawApplyUpdate_m x0).2)).1.Now) k87).Values) ((((spec_DrawApplyUpdate_m x0).2).Field).toNat)) != (((spec_DrawApplyUpdate_m x0).2).Value)) (Sum.inl false) (cond ((((spec_DrawApplyUpdate_m x0).2).Kind) == 1) (cond (laws_sameInts_m ((gt (impl_RowsAt_m (impl_ApplyUpdate_m ((spec_DrawApplyUpdate_m x0).1) ((spec_DrawApplyUpdate_m x0).2)).1 (impl_ApplyUpdate_m ((spec_DrawApplyUpdate_m x0).1) ((spec_DrawApplyUpdate_m x0).2)).1.Now) k87).Values) (((spec_DrawApplyUpdate_m x0).2).Row.Values)) (Sum.inr true) (Sum.inl false)) (Sum.inr true))) (cond ((((spec_DrawApplyUpdate_m x0).2).Kind) == 1) (cond (laws_sameInts_m ((gt (impl_RowsAt_m (impl_ApplyUpdate_m ((spec_DrawApplyUpdate_m x0).1) ((spec_DrawApplyUpdate_m x0).2)).1 (impl_ApplyUpdate_m ((spec_DrawApplyUpdate_m x0).1) ((spec_DrawApplyUpdate_m x0).2)).1.Now) k87).Values) (((spec_DrawApplyUpdate_m x0).2).Row.Values)) (Sum.inr true) (Sum.inl false)) (Sum.inr true))))
def laws_FnStores_b1 (x0 : (List Int)) (k46 : Nat) (s47 : Nat) : Bool ⊕ ((Nat) ⊕ (Nat)) :=
 cond (decide (((s47 : Nat) : Int) ≤ (((spec_DrawApplyUpdate_m x0).1).Now))) (cond (decide (((s47 : Nat) : Int) < 12)) (cond (spec_EqualRows_m (impl_RowsAt_m (impl_ApplyUpdate_m ((spec_DrawApplyUpdate_m x0).1) ((spec_DrawApplyUpdate_m x0).2)).1 ((s47 : Nat) : Int)) (spec_RowsAt_m ((spec_DrawApplyUpdate_m x0).1) ((s47 : Nat) : Int))) (Sum.inr (Sum.inr (s47 + 1))) (Sum.inl false)) (Sum.inr (Sum.inl s47))) (Sum.inr (Sum.inl s47))
def laws_FnStores_m (x0 : (List Int)) : Bool :=
 cond (laws_big_m x0) true (cond ((impl_ApplyUpdate_m ((spec_DrawApplyUpdate_m x0).1) ((spec_DrawApplyUpdate_m x0).2)).2 != (spec_ApplyUpdate_m ((spec_DrawApplyUpdate_m x0).1) ((spec_DrawApplyUpdate_m x0).2)).2) false (cond (spec_EqualStores_m (impl_ApplyUpdate_m ((spec_DrawApplyUpdate_m x0).1) ((spec_DrawApplyUpdate_m x0).2)).1 (spec_ApplyUpdate_m ((spec_DrawApplyUpdate_m x0).1) ((spec_DrawApplyUpdate_m x0).2)).1) (cond ((impl_IsStore_m ((spec_DrawApplyUpdate_m x0).1)) != (spec_IsStore_m ((spec_DrawApplyUpdate_m x0).1))) false (cond (impl_ApplyUpdate_m ((spec_DrawApplyUpdate_m x0).1) ((spec_DrawApplyUpdate_m x0).2)).2 (Sum.elim id (fun (s1_ : Nat) => Sum.elim id (fun (s : Bool) => cond ((impl_ApplyUpdate_m ((spec_DrawApplyUpdate_m x0).1) ((spec_DrawApplyUpdate_m x0).2)).1.Now == (IntKind.i64.wrap ((((spec_DrawApplyUpdate_m x0).1).Now) + 1))) (cond (impl_IsStore_m (impl_ApplyUpdate_m ((spec_DrawApplyUpdate_m x0).1) ((spec_DrawApplyUpdate_m x0).2)).1) (cond ((((impl_RowsAt_m (impl_ApplyUpdate_m ((spec_DrawApplyUpdate_m x0).1) ((spec_DrawApplyUpdate_m x0).2)).1 (impl_ApplyUpdate_m ((spec_DrawApplyUpdate_m x0).1) ((spec_DrawApplyUpdate_m x0).2)).1.Now).length : Nat) : Int) == (IntKind.i64.wrap ((IntKind.i64.wrap ((((spec_RowsAt_m ((spec_DrawApplyUpdate_m x0).1) (((spec_DrawApplyUpdate_m x0).1).Now)).length : Nat) : Int) + (laws_btoi_m ((((spec_DrawApplyUpdate_m x0).2).Kind) == 1)))) - (laws_btoi_m ((((spec_DrawApplyUpdate_m x0).2).Kind) == 2))))) (s == ((((spec_DrawApplyUpdate_m x0).2).Kind) != 2)) false) false) false) (rng (R := Bool) (fun k (s : Bool) => laws_FnStores_b2 x0 k s) ((impl_RowsAt_m (impl_ApplyUpdate_m ((spec_DrawApplyUpdate_m x0).1) ((spec_DrawApplyUpdate_m x0).2)).1 (impl_ApplyUpdate_m ((spec_DrawApplyUpdate_m x0).1) ((spec_DrawApplyUpdate_m x0).2)).1.Now).length - 0) 0 false)) (rngb (R := Bool) (fun k (s : Nat) => laws_FnStores_b1 x0 k s) (13 - 0) 0 0)) (spec_EqualStores_m (impl_ApplyUpdate_m ((spec_DrawApplyUpdate_m x0).1) ((spec_DrawApplyUpdate_m x0).2)).1 ((spec_DrawApplyUpdate_m x0).1)))) false))
theorem cb3 : Cb Try.prog 3 := ⟨f3, _, func3, rfl, by decide⟩
theorem laws_FnStores_c (w : World) (z0 : Value) (x0 : (List Int)) (r_0 : rdS tU8 w w.heap.size z0 x0) :
  Calls Try.prog 3 #[z0] w fun e w' => e = .returned (.bool (laws_FnStores_m x0)) ∧ Below w.heap.size w w' := by
 have ok0 := r_0.1
 obtain ⟨m1, A2, c3, rfl, q4, r5⟩ := rdS_op r_0
 refine ce1 (L := [(0, .slice A2 x0.length c3)]) (N := 172) func3 ?_
 refine sr (wa (nt' (CM_seq (sr (wm ?_)))))
 refine wcv (cl_fn cb6 rfl) (fun W hm => laws_big_c W _ x0 (hm.rdS0 r5)) ?_
 refine nt' ?_
 rcases Bool.eq_false_or_eq_true (laws_big_m x0) with g7 | g7
 ·
  refine CM_condT rfl g7 ?_
  refine sr (wa (nt' (CM_ret (QM_then_ret ?_))))
  exact rtb (h := cond_t g7 (rfl))
 ·
  have hl0 := of_decide_eq_false (p := 1048576 < ((x0.length : Nat) : Int)) g7
  refine CM_condF rfl g7 ?_
  refine CM_skip (QM_then (sr (wm ?_)))
  refine WM_call (χ := List Value × List Value) (val := fun x => .tuple #[.agg x.1.toArray, .agg x.2.toArray]) (js := fun x => [iOwn tyStore x.1 ((spec_DrawApplyUpdate_m x0).1), iOwn tyUpdate x.2 ((spec_DrawApplyUpdate_m x0).2)]) (cl_fn cb7 rfl) (fun W hm => spec_DrawApplyUpdate_c W _ x0 (hm.rdS0 r5) (by omega)) (Wd_none rfl) (by decide) (fun x => ?_)
  obtain ⟨z8, z9⟩ := x
  refine tyStore_sp ?_
  rintro v10 rfl
  refine WM_form (n := 0) rfl ?_
  rintro A11 c12 rfl m13
  let K5 : List Value := [.slice A11 (((spec_DrawApplyUpdate_m x0).1).Segments).length c12]
  let I9 : It := iOwn (tSl (tSl tyVersion 51) 72) K5 (((spec_DrawApplyUpdate_m x0).1).Segments)
  refine WM_items (js := [iOwn tyUpdate z9 ((spec_DrawApplyUpdate_m x0).2), I9]) (pk [1, 0]) ?_
  refine tyUpdate_sp ?_
  rintro v15 rfl
  refine WM_form (n := 0) rfl ?_
  rintro A16 c17 rfl m18
  have hdr := spec_DrawApplyUpdate_fact x0
  refine wm ?_
  refine wv (fun W hm => rv_extract rfl rfl) ?_
  refine wv (fun W hm => rv_extract rfl rfl) ?_
  refine WM_alloc type26 rfl (Wd_none rfl) (by decide) (fun p20 => ?_)
  refine WM_alloc type31 rfl (Wd_none rfl) (by decide) (fun p21 => ?_)
  let K6 : List Value := [.slice A11 (((spec_DrawApplyUpdate_m x0).1).Segments).length c12, .int .i64 (((spec_DrawApplyUpdate_m x0).1).Now)]
  let K7 : List Value := [.slice A16 (((spec_DrawApplyUpdate_m x0).2).Row.Values).length c17]
  let I10 : It := iOwn (tSl tInt 3) K7 (((spec_DrawApplyUpdate_m x0).2).Row.Values)
  refine sb 0 K6 [iBox p21 31 [.int .i64 0, .int .i64 0, .slice none 0 0, .int .i64 0, .int .i64 0], I10, I9] (pk [1, 0, 2, 3]) type26 ?_
  let K8 : List Value := [.int .i64 (((spec_DrawApplyUpdate_m x0).2).Kind), .int .i64 (((spec_DrawApplyUpdate_m x0).2).Row.Id), .slice A16 (((spec_DrawApplyUpdate_m x0).2).Row.Values).length c17, .int .i64 (((spec_DrawApplyUpdate_m x0).2).Field), .int .i64 (((spec_DrawApplyUpdate_m x0).2).Value)]
  refine sb 0 K8 [iBox p20 26 K6, I10, I9] (pk [1, 0, 2, 3]) type31 ?_
  refine nt' (sr ?_)
  refine wv (fun W hm => rv_loadN (cs := K6) underlying26 type26 rfl rfl (hm.boxCells (n := 1) rfl)) ?_
  refine wv (fun W hm => rv_loadN (cs := K8) underlying31 type31 rfl rfl (hm.boxCells (n := 0) rfl)) ?_
  refine WM_call (χ := List Value) (val := fun x => .tuple #[.agg x.toArray, .bool ((impl_ApplyUpdate_m ((spec_DrawApplyUpdate_m x0).1) ((spec_DrawApplyUpdate_m x0).2)).2)]) (js := fun x => [iOwn tyStore x ((impl_ApplyUpdate_m ((spec_DrawApplyUpdate_m x0).1) ((spec_DrawApplyUpdate_m x0).2)).1)]) (cl_fn cb8 rfl) (fun W hm => impl_ApplyUpdate_c W _ ((spec_DrawApplyUpdate_m x0).1) _ ((spec_DrawApplyUpdate_m x0).2) (tyStore_mk (x := ((spec_DrawApplyUpdate_m x0).1)) (hm.rdSI (n := 3) rfl)) (tyUpdate_mk (x := ((spec_DrawApplyUpdate_m x0).2)) (hm.rdSI (n := 2) rfl)) (stD_sm hdr.1) hdr.2) (Wd_none rfl) (by decide) (fun z22 => ?_)
  have hxs := impl_ApplyUpdate_sm (stD_sm hdr.1) (spec_DrawApplyUpdate_m x0).2
  have hxu := @impl_ApplyUpdate_upd (spec_DrawApplyUpdate_m x0).1 (spec_DrawApplyUpdate_m x0).2
  obtain ⟨G23, hG23⟩ : ∃ G, G = (impl_ApplyUpdate_m ((spec_DrawApplyUpdate_m x0).1) ((spec_DrawApplyUpdate_m x0).2)) := ⟨_, rfl⟩
  rw [← hG23]
  rw [← hG23] at hxs
  rw [← hG23] at hxu
  refine tyStore_sp ?_
  rintro v24 rfl
  refine WM_form (n := 0) rfl ?_
  rintro A25 c26 rfl m27
  refine wm ?_
  refine wv (fun W hm => rv_extract rfl rfl) ?_
  refine wv (fun W hm => rv_extract rfl rfl) ?_
  refine WM_alloc type26 rfl (Wd_none rfl) (by decide) (fun p29 => ?_)
  let I11 : It := iOwn (tSl (tSl tyVersion 51) 72) [.slice A25 G23.1.Segments.length c26] G23.1.Segments
  refine sb 0 [.slice A25 G23.1.Segments.length c26, .int .i64 G23.1.Now] [I11, iBox p21 31 K8, iBox p20 26 K6, I10, I9] (fun W hm => hm) type26 ?_
  refine wa (nt' (sr ?_))
  refine wv (fun W hm => rv_loadN (cs := K6) underlying26 type26 rfl rfl (hm.boxCells (n := 3) rfl)) ?_
  refine wv (fun W hm => rv_loadN (cs := K8) underlying31 type31 rfl rfl (hm.boxCells (n := 2) rfl)) ?_
  refine WM_call (χ := List Value) (val := fun x => .tuple #[.agg x.toArray, .bool ((spec_ApplyUpdate_m ((spec_DrawApplyUpdate_m x0).1) ((spec_DrawApplyUpdate_m x0).2)).2)]) (js := fun x => [iOwn tyStore x ((spec_ApplyUpdate_m ((spec_DrawApplyUpdate_m x0).1) ((spec_DrawApplyUpdate_m x0).2)).1)]) (cl_fn cb9 rfl) (fun W hm => spec_ApplyUpdate_c W _ ((spec_DrawApplyUpdate_m x0).1) _ ((spec_DrawApplyUpdate_m x0).2) (tyStore_mk (x := ((spec_DrawApplyUpdate_m x0).1)) (hm.rdSI (n := 5) rfl)) (tyUpdate_mk (x := ((spec_DrawApplyUpdate_m x0).2)) (hm.rdSI (n := 4) rfl)) (stD_sm hdr.1) hdr.2) (Wd_none rfl) (by decide) (fun z30 => ?_)
  have hys := spec_ApplyUpdate_sm (stD_sm hdr.1) (spec_DrawApplyUpdate_m x0).2
  obtain ⟨G31, hG31⟩ : ∃ G, G = (spec_ApplyUpdate_m ((spec_DrawApplyUpdate_m x0).1) ((spec_DrawApplyUpdate_m x0).2)) := ⟨_, rfl⟩
  rw [← hG31]
  rw [← hG31] at hys
  refine tyStore_sp ?_
  rintro v32 rfl
  refine WM_form (n := 0) rfl ?_
  rintro A33 c34 rfl m35
  refine wm ?_
  refine wv (fun W hm => rv_extract rfl rfl) ?_
  refine wv (fun W hm => rv_extract rfl rfl) ?_
  refine WM_alloc type26 rfl (Wd_none rfl) (by decide) (fun p37 => ?_)
  let I12 : It := iOwn (tSl (tSl tyVersion 51) 72) [.slice A33 G31.1.Segments.length c34] G31.1.Segments
  let I13 : It := iBox p29 26 [.slice A25 G23.1.Segments.length c26, .int .i64 G23.1.Now]
  refine sb 0 [.slice A33 G31.1.Segments.length c34, .int .i64 G31.1.Now] [I12, I13, I11, iBox p21 31 K8, iBox p20 26 K6, I10, I9] (fun W hm => hm) type26 ?_
  refine wa (nt' (CM_seq (CM_seq ?_)))
  refine CM_regionD (by kernel_rfl) (by kernel_rfl) ?_
  refine qm (qm ?_)
  refine qv (fun W hm => rv_neqB underlying4 rfl rfl) ?_
  refine qm ?_
  rcases Bool.eq_false_or_eq_true (G23.2 != G31.2) with g39 | g39
  ·
   refine qs g39 ?_
   refine qs g39 ?_
   refine qs g39 ?_
   refine qs g39 ?_
   refine qv (vpT g39) ?_
   refine qm ?_
   refine QR_skip (Wd_some rfl rfl rfl rfl) rfl (by decide) ?_
   refine QR_skip (Wd_some rfl rfl rfl rfl) rfl (by decide) ?_
   refine QR_skip (Wd_some rfl rfl rfl rfl) rfl (by decide) ?_
   refine QR_skip (Wd_some rfl rfl rfl rfl) rfl (by decide) ?_
   refine QR_skip (Wd_some rfl rfl rfl rfl) rfl (by decide) ?_
   refine qv (vpT rfl) ?_
   refine nq' ?_
   refine CM_condT rfl rfl ?_
   refine CM_seq ?_
   refine CM_items (pk []) ?_
   refine CM_region (wa (nt' (CM_ret (QM_then_ret ?_))))
   exact rtb (h := by subst hG23 hG31; exact cond_f g7 (cond_t g39 (rfl)))
  ·
   refine qg (fun W hm => rv_loadN (cs := [.slice A25 G23.1.Segments.length c26, .int .i64 G23.1.Now]) underlying26 type26 rfl rfl (hm.boxCells (n := 2) rfl)) g39 ?_
   refine qg (fun W hm => rv_loadN (cs := [.slice A33 G31.1.Segments.length c34, .int .i64 G31.1.Now]) underlying26 type26 rfl rfl (hm.boxCells (n := 0) rfl)) g39 ?_
   refine QR_callV (cl_fn cb10 rfl) (fun W hm => spec_EqualStores_c W _ G23.1 _ G31.1 (tyStore_mk (x := G23.1) (hm.rdSI (n := 3) rfl)) (tyStore_mk (x := G31.1) (hm.rdSI (n := 1) rfl))) (Wd_some rfl rfl rfl (bw g39 rfl)) (by decide) ?_
   refine qg vnot g39 ?_
   refine qv (vpF g39) ?_
   refine qm ?_
   rcases Bool.eq_false_or_eq_true (spec_EqualStores_m G23.1 G31.1) with g41 | g41
   ·
    refine qg (fun W hm => rv_loadN (cs := K6) underlying26 type26 rfl rfl (hm.boxCells (n := 5) rfl)) (nt g41) ?_
    refine QR_callV (cl_fn cb11 rfl) (fun W hm => impl_IsStore_c W _ ((spec_DrawApplyUpdate_m x0).1) (tyStore_mk (x := ((spec_DrawApplyUpdate_m x0).1)) (hm.rdSI (n := 7) rfl)) (stD_sm hdr.1)) (Wd_some rfl rfl rfl (bw (nt g41) rfl)) (by decide) ?_
    refine qg (fun W hm => rv_loadN (cs := K6) underlying26 type26 rfl rfl (hm.boxCells (n := 5) rfl)) (nt g41) ?_
    refine QR_callV (cl_fn cb12 rfl) (fun W hm => spec_IsStore_c W _ ((spec_DrawApplyUpdate_m x0).1) (tyStore_mk (x := ((spec_DrawApplyUpdate_m x0).1)) (hm.rdSI (n := 7) rfl)) (stD_sm hdr.1)) (Wd_some rfl rfl rfl (bw (nt g41) rfl)) (by decide) ?_
    refine qg (fun W hm => rv_neqB underlying4 rfl rfl) (nt g41) ?_
    refine qv (vpF (nt g41)) ?_
    refine nq' ?_
    rcases Bool.eq_false_or_eq_true ((impl_IsStore_m ((spec_DrawApplyUpdate_m x0).1)) != (spec_IsStore_m ((spec_DrawApplyUpdate_m x0).1))) with g43 | g43
    ·
     refine CM_condT rfl g43 ?_
     refine CM_seq ?_
     refine CM_items (pk []) ?_
     refine CM_region (wa (nt' (CM_ret (QM_then_ret ?_))))
     exact rtb (h := by subst hG23 hG31; exact cond_f g7 (cond_f g39 (cond_t g41 (cond_t g43 (rfl)))))
    ·
     refine CM_condF rfl g43 ?_
     refine CM_skip (QM_then (CM_seq (sr (wm ?_))))
     refine wv vnot ?_
     refine nt' ?_
     rcases Bool.eq_false_or_eq_true G23.2 with g45 | g45
     ·
      have hf := hxu g45
      refine CM_condF rfl (nt g45) ?_
      refine CM_skip (QM_then (CM_seq (sr (wa (nt' ?_)))))
      let F1 := fun k (s : Nat) => laws_FnStores_b1 x0 k s
      let R3 := rngb (R := Bool) F1
      let I14 : It := iBox p37 26 [.slice A33 G31.1.Segments.length c34, .int .i64 G31.1.Now]
      refine CM_cut (σ := (Nat) × (Unit)) (fun s => [(3, .pointer (some (⟨p20, 0, none⟩ : Addr))), (4, .pointer (some (⟨p21, 0, none⟩ : Addr))), (5, .pointer (some (⟨p29, 0, none⟩ : Addr)))]) (fun s => [I14, I12, I13, I11, iBox p21 31 K8, iBox p20 26 K6, I10, I9]) (fun s => R3 (13 - 0) 0 0 = Sum.inr s.1) ?_ ?_
      ·
       refine CM_block ?_
       refine CM_loop (σ := Nat × (Nat) × (Unit)) (fun s => [(3, .pointer (some (⟨p20, 0, none⟩ : Addr))), (4, .pointer (some (⟨p21, 0, none⟩ : Addr))), (5, .pointer (some (⟨p29, 0, none⟩ : Addr))), (9, .int .i64 ((s.2.1 : Nat) : Int))]) (fun s => [I14, I12, I13, I11, iBox p21 31 K8, iBox p20 26 K6, I10, I9]) (fun s => s.1 + (12 - s.2.1) + 1 ≤ 13 ∧ R3 (13 - s.1) s.1 s.2.1 = R3 (13 - 0) 0 0 ∧ s.2.1 ≤ 12) (fun s => 13 - s.1) (0, 0, ()) sl4 (fun W hm => hm) ⟨(show 0 + (12 - 0) + 1 ≤ 13 from by omega), rfl, (show 0 ≤ 12 from by omega)⟩ ?_
       rintro ⟨k46, s47, ⟨⟩⟩ H50
       obtain ⟨hk48, hF49, hi51⟩ : k46 + (12 - s47) + 1 ≤ 13 ∧ R3 (13 - k46) k46 s47 = R3 (13 - 0) 0 0 ∧ s47 ≤ 12 := H50
       show CM Try.prog 172 _ _ _ _ [(3, .pointer (some (⟨p20, 0, none⟩ : Addr))), (4, .pointer (some (⟨p21, 0, none⟩ : Addr))), (5, .pointer (some (⟨p29, 0, none⟩ : Addr))), (9, .int .i64 ((s47 : Nat) : Int))] [I14, I12, I13, I11, iBox p21 31 K8, iBox p20 26 K6, I10, I9]
       refine CM_seq (sr (wm ?_))
       refine wv (vf underlying26 rfl type3) ?_
       refine wv (vl 5 1 underlying3) ?_
       refine wv (fun W hm => rv_leq rfl rfl) ?_
       refine wm ?_
       by_cases h52 : ((s47 : Nat) : Int) ≤ (((spec_DrawApplyUpdate_m x0).1).Now)
       ·have g53 := decide_eq_true h52
        refine wg vmv g53 ?_
        refine wg vlss g53 ?_
        refine wv (vpT g53) ?_
        refine nt' ?_
        by_cases h54 : ((s47 : Nat) : Int) < 12
        ·have g55 := decide_eq_true h54
         refine CM_condT rfl g55 ?_
         refine CM_skip (QM_then (CM_seq (CM_block (CM_seq ?_))))
         refine rb 8 (s := [I14, I12, I13, I11, iBox p21 31 K8, iBox p20 26 K6, I10, I9]) (fun W hm => hm) ?_
         refine qt 8 0 1 rfl (fun W hm => rv_loadN (cs := [.slice A25 G23.1.Segments.length c26, .int .i64 G23.1.Now]) underlying26 type26 rfl rfl (hm.boxCells (n := 2) rfl)) ?_
         refine qt 8 1 3 rfl vmv ?_
         refine qt 8 3 11 rfl (fun W hm => rv_loadN (cs := K6) underlying26 type26 rfl rfl (hm.boxCells (n := 5) rfl)) ?_
         refine qt 8 4 27 rfl vmv ?_
         refine qo 8 2 31 rfl ?_
         refine wcl (tSl tyRow 29) (impl_RowsAt_m G23.1 ((s47 : Nat) : Int)) (cl_fn cb14 rfl) (fun W hm => impl_RowsAt_c W _ G23.1 ((s47 : Nat) : Int) (tyStore_mk (x := G23.1) (hm.rdSI (n := 3) rfl)) (by first | exact hxs | exact hys)) (fun z56 => ?_)
         obtain ⟨G57, hG57⟩ : ∃ G, G = (impl_RowsAt_m G23.1 ((s47 : Nat) : Int)) := ⟨_, rfl⟩
         rw [← hG57]
         refine WM_form (n := 0) rfl ?_
         rintro A58 c59 rfl m60
         refine qn (pk [1, 2, 3, 4, 5, 6, 7, 8]) ?_
         refine qo 8 5 63 rfl ?_
         refine wcl (tSl tyRow 29) (spec_RowsAt_m ((spec_DrawApplyUpdate_m x0).1) ((s47 : Nat) : Int)) (cl_fn cb15 rfl) (fun W hm => spec_RowsAt_c W _ ((spec_DrawApplyUpdate_m x0).1) ((s47 : Nat) : Int) (tyStore_mk (x := ((spec_DrawApplyUpdate_m x0).1)) (hm.rdSI (n := 8) rfl)) (stD_sm hdr.1)) (fun z62 => ?_)
         obtain ⟨G63, hG63⟩ : ∃ G, G = (spec_RowsAt_m ((spec_DrawApplyUpdate_m x0).1) ((s47 : Nat) : Int)) := ⟨_, rfl⟩
         rw [← hG63]
         refine WM_form (n := 0) rfl ?_
         rintro A64 c65 rfl m66
         refine qn (pk [2, 3, 4, 5, 6, 7, 8, 9]) ?_
         refine qo 8 6 127 rfl ?_
         refine wcv (cl_fn cb13 rfl) (fun W hm => spec_EqualRows_c W _ G57 _ G63 (hm.rdSI (n := 1) rfl) (hm.rdSI (n := 0) rfl)) ?_
         refine qn (pk [2, 3, 4, 5, 6, 7, 8, 9]) ?_
         refine qt 8 7 255 rfl vnot ?_
         refine QB_done (by kernel_rfl) ?_
         refine QM_then ?_
         rcases Bool.eq_false_or_eq_true (spec_EqualRows_m G57 G63) with g69 | g69
         ·
          refine CM_condF rfl (nt g69) ?_
          refine CM_skip (QM_block_normal (QM_then (CM_region (wm ?_))))
          refine wv (vadN s47 1 (by omega)) ?_
          refine wa (WM_nil ?_)
          have hn70 := rngb_next (R := Bool) (body := F1) (k := k46) (s := s47) (s' := s47 + 1) (show k46 < 13 from by omega) (by subst hG23 hG31 hG57 hG63; exact cond_t g53 (cond_t g55 (cond_t g69 (rfl)))) hF49
          exact QM_round (k46 + 1, s47 + 1, ()) sl4 (pk [2, 3, 4, 5, 6, 7, 8, 9]) ⟨(show (k46 + 1) + (12 - (s47 + 1)) + 1 ≤ 13 from by omega), hn70, (show (s47 + 1) ≤ 12 from by first | omega | (simp only [List.length_append, List.length_cons, List.length_nil] at *; omega))⟩ (rl (by omega))
         ·
          refine CM_condT rfl (nf g69) ?_
          refine sr (wa (nt' (CM_ret (QM_block_ret (QM_then_ret (QM_then_ret (QM_block_ret (QM_cut_ret (QM_then_ret ?_)))))))))
          exact rtb (h := by subst hG23 hG31 hG57 hG63; exact cond_f g7 (cond_f g39 (cond_t g41 (cond_f g43 (cond_t g45 (fin_inl (rngb_ret (body := F1) (k := k46) (s := s47) (by omega) (cond_t g53 (cond_t g55 (cond_f g69 (rfl)))) hF49) rfl))))))
        ·have g55 := decide_eq_false h54
         refine CM_condF rfl g55 ?_
         refine CM_exit (QM_then_exit (QM_then_exit (QM_block_hit ?_)))
         have hE71 := rngb_brk (R := Bool) (body := F1) (k := k46) (s := s47) (s' := s47) (show k46 < 13 from by omega) (by subst hG23 hG31; exact cond_t g53 (cond_f g55 (rfl))) hF49
         exact QM_cut_normal (s47, ()) sl3 (fun W hm => hm) hE71
       ·have g53 := decide_eq_false h52
        refine ws g53 ?_
        refine ws g53 ?_
        refine wv (vpF g53) ?_
        refine nt' ?_
        refine CM_condF rfl rfl ?_
        refine CM_exit (QM_then_exit (QM_then_exit (QM_block_hit ?_)))
        have hE72 := rngb_brk (R := Bool) (body := F1) (k := k46) (s := s47) (s' := s47) (show k46 < 13 from by omega) (by subst hG23 hG31; exact cond_f g53 (rfl)) hF49
        exact QM_cut_normal (s47, ()) sl3 (fun W hm => hm) hE72
      ·
       rintro ⟨s47, ⟨⟩⟩ H74
       have hE73 : R3 (13 - 0) 0 0 = Sum.inr s47 := H74
       show QM 172 _ _ _ .normal [(3, .pointer (some (⟨p20, 0, none⟩ : Addr))), (4, .pointer (some (⟨p21, 0, none⟩ : Addr))), (5, .pointer (some (⟨p29, 0, none⟩ : Addr)))] [I14, I12, I13, I11, iBox p21 31 K8, iBox p20 26 K6, I10, I9]
       refine QM_then (sr ?_)
       refine wv (fun W hm => rv_loadN (cs := K6) underlying26 type26 rfl rfl (hm.boxCells (n := 5) rfl)) ?_
       refine wv (vf underlying26 rfl type3) ?_
       refine wv (vl 5 1 underlying3) ?_
       refine wcl (tSl tyRow 29) (spec_RowsAt_m ((spec_DrawApplyUpdate_m x0).1) (((spec_DrawApplyUpdate_m x0).1).Now)) (cl_fn cb15 rfl) (fun W hm => spec_RowsAt_c W _ ((spec_DrawApplyUpdate_m x0).1) (((spec_DrawApplyUpdate_m x0).1).Now) (tyStore_mk (x := ((spec_DrawApplyUpdate_m x0).1)) (hm.rdSI (n := 7) rfl)) (stD_sm hdr.1)) (fun z75 => ?_)
       obtain ⟨G76, hG76⟩ : ∃ G, G = (spec_RowsAt_m ((spec_DrawApplyUpdate_m x0).1) (((spec_DrawApplyUpdate_m x0).1).Now)) := ⟨_, rfl⟩
       rw [← hG76]
       refine WM_form (n := 0) rfl ?_
       rintro A77 c78 rfl m79
       refine wa (nt' (sr ?_))
       refine wv (fun W hm => rv_loadN (cs := [.slice A25 G23.1.Segments.length c26, .int .i64 G23.1.Now]) underlying26 type26 rfl rfl (hm.boxCells (n := 3) rfl)) ?_
       refine wv (vf underlying26 rfl type3) ?_
       refine wv (vl 3 1 underlying3) ?_
       refine wcl (tSl tyRow 29) (impl_RowsAt_m G23.1 G23.1.Now) (cl_fn cb14 rfl) (fun W hm => impl_RowsAt_c W _ G23.1 G23.1.Now (tyStore_mk (x := G23.1) (hm.rdSI (n := 4) rfl)) (by first | exact hxs | exact hys)) (fun z81 => ?_)
       obtain ⟨G82, hG82⟩ : ∃ G, G = (impl_RowsAt_m G23.1 G23.1.Now) := ⟨_, rfl⟩
       rw [← hG82]
       refine WM_form (n := 0) rfl ?_
       rintro A83 c84 rfl m85
       refine wa (nt' (CM_seq ?_))
       refine CM_regionD (by kernel_rfl) (by kernel_rfl) ?_
       refine qm ?_
       refine qv (vlen underlying39) ?_
       refine qv (vf underlying31 rfl type3) ?_
       refine qv (vl 6 0 underlying3) ?_
       refine qv (fun W hm => rv_eql rfl rfl) ?_
       refine QR_callV (cl_fn cb16 rfl) (fun W hm => laws_btoi_c W ((((spec_DrawApplyUpdate_m x0).2).Kind) == 1)) (Wd_none rfl) (by decide) ?_
       refine qv vadd ?_
       refine qv (vf underlying31 rfl type3) ?_
       refine qv (vl 6 0 underlying3) ?_
       refine qv (fun W hm => rv_eql rfl rfl) ?_
       refine QR_callV (cl_fn cb16 rfl) (fun W hm => laws_btoi_c W ((((spec_DrawApplyUpdate_m x0).2).Kind) == 2)) (Wd_none rfl) (by decide) ?_
       refine qv (fun W hm => rv_sub rfl rfl) ?_
       refine qv (fun W hm => rv_assign rfl) ?_
       refine nq' (CM_seq ?_)
       refine CM_items (pk [0, 4, 5, 6, 7, 8, 9]) ?_
       refine CM_region (wa (nt' (CM_seq (sr (wa (nt' (CM_block ?_)))))))
       let F2 := fun k (s : Bool) => laws_FnStores_b2 x0 k s
       let R4 := rng (R := Bool) F2
       refine CM_loop (σ := Nat × (Bool) × (Unit)) (fun s => [(3, .pointer (some (⟨p20, 0, none⟩ : Addr))), (4, .pointer (some (⟨p21, 0, none⟩ : Addr))), (5, .pointer (some (⟨p29, 0, none⟩ : Addr))), (11, .slice A83 G82.length c84), (12, .int .i64 (IntKind.i64.wrap ((IntKind.i64.wrap (((G76.length : Nat) : Int) + (laws_btoi_m ((((spec_DrawApplyUpdate_m x0).2).Kind) == 1)))) - (laws_btoi_m ((((spec_DrawApplyUpdate_m x0).2).Kind) == 2))))), (13, .bool s.2.1), (14, .int .i64 ((s.1 : Nat) : Int))]) (fun s => [iOwn (tSl tyRow 29) [.slice A83 G82.length c84] G82, I13, I11, iBox p21 31 K8, iBox p20 26 K6, I10, I9]) (fun s => s.1 ≤ G82.length ∧ R4 (G82.length - s.1) s.1 s.2.1 = R4 (G82.length - 0) 0 false) (fun s => G82.length - s.1) (0, false, ()) sl7 (fun W hm => hm) ⟨(by omega), rfl⟩ ?_
       rintro ⟨k87, s88, ⟨⟩⟩ H91
       obtain ⟨hk89, hF90⟩ : k87 ≤ G82.length ∧ R4 (G82.length - k87) k87 s88 = R4 (G82.length - 0) 0 false := H91
       show CM Try.prog 172 _ _ _ _ [(3, .pointer (some (⟨p20, 0, none⟩ : Addr))), (4, .pointer (some (⟨p21, 0, none⟩ : Addr))), (5, .pointer (some (⟨p29, 0, none⟩ : Addr))), (11, .slice A83 G82.length c84), (12, .int .i64 (IntKind.i64.wrap ((IntKind.i64.wrap (((G76.length : Nat) : Int) + (laws_btoi_m ((((spec_DrawApplyUpdate_m x0).2).Kind) == 1)))) - (laws_btoi_m ((((spec_DrawApplyUpdate_m x0).2).Kind) == 2))))), (13, .bool s88), (14, .int .i64 ((k87 : Nat) : Int))] [iOwn (tSl tyRow 29) [.slice A83 G82.length c84] G82, I13, I11, iBox p21 31 K8, iBox p20 26 K6, I10, I9]
       refine CM_seq (sr (wm (wm ?_)))
       refine wv (vlen underlying39) ?_
       refine wv vlss ?_
       refine nt' ?_
       by_cases hl92 : k87 < G82.length
       ·have g93 := dlT hl92
        refine CM_condT rfl g93 ?_
        refine CM_skip (QM_then (CM_seq (CM_block (CM_seq (CM_seq ?_)))))
        refine CM_formO (n := 0) rfl (by omega) ?_
        rintro g94 rfl
        refine CM_focus (E := tyRow) (e := 29) (A := (some ⟨g94, 0, none⟩)) (n := G82.length) (c := c84) (xs := G82) (k := k87) (js := [I13, I11, iBox p21 31 K8, iBox p20 26 K6, I10, I9]) (by omega) (fun W hm => hm) (fun ck95 => ?_)
        refine CM_split (γ := Value) (js := fun g => [iOwn (tSl tInt 3) [g] ((gt G82 k87).Values)]) (C := fun g => ck95 = [.int .i64 ((gt G82 k87).Id), g]) (fun _ _ h => tyRow_split h) ?_
        rintro v96 rfl
        refine CM_form (n := 0) rfl ?_
        rintro A97 c98 rfl m99
        refine CM_regionD (by kernel_rfl) (by kernel_rfl) ?_
        refine qm (qm ?_)
        refine qv (vix 2 k87 underlying39 type29) ?_
        refine qv (vf underlying29 rfl type3) ?_
        refine qv (fun W hm => rv_load underlying3 rfl rfl (hm.focCells (i := 1) rfl rfl 0 _ rfl)) ?_
        refine qv (vf underlying31 rfl type29) ?_
        refine qv (fun W hm => rv_fieldA (o := 1) underlying29 rfl type3 (by decide) rfl rfl) ?_
        refine qv (vl 4 1 underlying3) ?_
        refine qv vneq ?_
        refine nq' ?_
        by_cases h101 : ((gt G82 k87).Id) = (((spec_DrawApplyUpdate_m x0).2).Row.Id)
        ·have g102 : (((gt G82 k87).Id) != (((spec_DrawApplyUpdate_m x0).2).Row.Id)) = false := by rw [h101]; exact bne_self_eq_false _
         refine CM_condF rfl g102 ?_
         refine CM_skip (QM_then (sr (wa (nt' (CM_seq (sr (wm (wm ?_))))))))
         refine wv (vix 2 k87 underlying39 type29) ?_
         refine wv (vf underlying29 rfl type27) ?_
         refine wv (fun W hm => rv_load underlying27 rfl rfl (hm.focCells (i := 1) rfl rfl 1 _ rfl)) ?_
         refine wv (vlen underlying27) ?_
         refine wv vneq ?_
         refine nt' ?_
         by_cases h103 : ((((gt G82 k87).Values).length : Nat) : Int) = 3
         ·have g104 : (((((gt G82 k87).Values).length : Nat) : Int) != 3) = false := by rw [h103]; exact bne_self_eq_false _
          refine CM_condF rfl g104 ?_
          refine CM_skip (QM_then (CM_seq ?_))
          refine CM_formO (n := 0) rfl (by omega) ?_
          rintro g105 rfl
          refine CM_regionD (by kernel_rfl) (by kernel_rfl) ?_
          refine qv (vf underlying31 rfl type3) ?_
          refine qv (vl 4 0 underlying3) ?_
          refine qv (fun W hm => rv_eql rfl rfl) ?_
          refine qm ?_
          by_cases h106 : (((spec_DrawApplyUpdate_m x0).2).Kind) = 3
          ·have g107 := beq_iff_eq.2 h106
           refine qg vmv g107 ?_
           refine qg vmv g107 ?_
           refine qg (vix 2 k87 underlying39 type29) g107 ?_
           refine qg (vf underlying29 rfl type27) g107 ?_
           refine qg (fun W hm => rv_load underlying27 rfl rfl (hm.focCells (i := 1) rfl rfl 1 _ rfl)) g107 ?_
           refine qg (vf underlying31 rfl type3) g107 ?_
           refine qg (vl 4 3 underlying3) g107 ?_
           refine qg (fun W hm => rv_indexI (sz := 1) (k := ((spec_DrawApplyUpdate_m x0).2).Field) underlying27 type3 rfl rfl rfl (by omega) (by omega)) g107 ?_
           refine qg (fun W hm => rv_load underlying3 rfl rfl (hm.ownInt (i := 0) rfl (by omega))) g107 ?_
           refine qg (vf underlying31 rfl type3) g107 ?_
           refine qg (vl 4 4 underlying3) g107 ?_
           refine qg vneq g107 ?_
           refine qv (vpT g107) ?_
           refine qm ?_
           by_cases h108 : (gt ((gt G82 k87).Values) ((((spec_DrawApplyUpdate_m x0).2).Field).toNat)) = (((spec_DrawApplyUpdate_m x0).2).Value)
           ·have g109 : ((gt ((gt G82 k87).Values) ((((spec_DrawApplyUpdate_m x0).2).Field).toNat)) != (((spec_DrawApplyUpdate_m x0).2).Value)) = false := by rw [h108]; exact bne_self_eq_false _
            refine qg (vf underlying31 rfl type3) g109 ?_
            refine qg (vl 4 0 underlying3) g109 ?_
            refine qg (fun W hm => rv_eql rfl rfl) g109 ?_
            refine qg vmv g109 ?_
            by_cases h110 : (((spec_DrawApplyUpdate_m x0).2).Kind) = 1
            ·have g111 := beq_iff_eq.2 h110
             refine qg vmv g111 ?_
             refine qg vmv g111 ?_
             refine qg (vix 2 k87 underlying39 type29) g111 ?_
             refine qg (vf underlying29 rfl type27) g111 ?_
             refine qg (fun W hm => rv_load underlying27 rfl rfl (hm.focCells (i := 1) rfl rfl 1 _ rfl)) g111 ?_
             refine qg (vf underlying31 rfl type29) g111 ?_
             refine qg (fun W hm => rv_fieldA (o := 2) underlying29 rfl type27 (by decide) rfl rfl) g111 ?_
             refine qg (vl 4 2 underlying27) g111 ?_
             refine QR_callV (cl_fn cb17 rfl) (fun W hm => laws_sameInts_c W _ ((gt G82 k87).Values) _ (((spec_DrawApplyUpdate_m x0).2).Row.Values) (hm.rdSI (n := 0) rfl) (hm.rdSI (n := 6) rfl)) (Wd_some rfl rfl rfl (bw g111 rfl)) (by decide) ?_
             refine qg vnot g111 ?_
             refine qg (vpT g111) g109 ?_
             refine qv (vpF g109) ?_
             refine nq' ?_
             rcases Bool.eq_false_or_eq_true (laws_sameInts_m ((gt G82 k87).Values) (((spec_DrawApplyUpdate_m x0).2).Row.Values)) with g113 | g113
             ·
              refine CM_condF rfl (nt g113) ?_
              refine CM_skip (QM_block_normal (QM_then (CM_region (wm ?_))))
              refine wv (vadN k87 1 (by omega)) ?_
              refine wa (WM_nil ?_)
              refine QM_items (fun W hm => Mem.unfocus0 (Mem.join (is := [iOwn (tSl tInt 3) [.slice (some ⟨g105, 0, none⟩) ((gt G82 k87).Values).length c98] ((gt G82 k87).Values)]) (js := (iFoc tyRow 29 (some ⟨g94, 0, none⟩) G82.length c84 G82 k87 [.int .i64 ((gt G82 k87).Id), .slice (some ⟨g105, 0, none⟩) ((gt G82 k87).Values).length c98] :: [I13, I11, iBox p21 31 K8, iBox p20 26 K6, I10, I9])) (fun _ _ hs => tyRow_join (x := (gt G82 k87)) hs) hm)) ?_
              have hn114 := rng_next (R := Bool) (body := F2) (k := k87) (s := s88) (s' := true) (show k87 < G82.length from by omega) (by subst hG23 hG31 hG76 hG82; exact cond_f g102 (cond_f g104 (cond_t g107 (cond_f g109 (cond_t g111 (cond_t g113 (rfl))))))) hF90
              exact QM_round (k87 + 1, true, ()) sl7 (fun W hm => hm) ⟨(by omega), hn114⟩ (rl (by omega))
             ·
              refine CM_condT rfl (nf g113) ?_
              refine sr (wa (nt' (CM_ret (QM_block_ret (QM_then_ret (QM_then_ret (QM_block_ret (QM_then_ret ?_))))))))
              refine QM_items (fun W hm => Mem.unfocus0 (Mem.join (is := [iOwn (tSl tInt 3) [.slice (some ⟨g105, 0, none⟩) ((gt G82 k87).Values).length c98] ((gt G82 k87).Values)]) (js := (iFoc tyRow 29 (some ⟨g94, 0, none⟩) G82.length c84 G82 k87 [.int .i64 ((gt G82 k87).Id), .slice (some ⟨g105, 0, none⟩) ((gt G82 k87).Values).length c98] :: [I13, I11, iBox p21 31 K8, iBox p20 26 K6, I10, I9])) (fun _ _ hs => tyRow_join (x := (gt G82 k87)) hs) hm)) ?_
              exact rtb (h := by subst hG23 hG31 hG76 hG82; exact cond_f g7 (cond_f g39 (cond_t g41 (cond_f g43 (cond_t g45 (fin_inr hE73 (fin_inl (rng_ret (body := F2) (k := k87) (s := s88) (by omega) (cond_f g102 (cond_f g104 (cond_t g107 (cond_f g109 (cond_t g111 (cond_f g113 (rfl))))))) hF90) rfl)))))))
            ·have g111 := beq_eq_false_iff_ne.2 h110
             refine qs g111 ?_
             refine qs g111 ?_
             refine qs g111 ?_
             refine qs g111 ?_
             refine qs g111 ?_
             refine qs g111 ?_
             refine qs g111 ?_
             refine qs g111 ?_
             refine qs g111 ?_
             refine qs g111 ?_
             refine qg (vpF g111) g109 ?_
             refine qv (vpF g109) ?_
             refine nq' ?_
             refine CM_condF rfl rfl ?_
             refine CM_skip (QM_block_normal (QM_then (CM_region (wm ?_))))
             refine wv (vadN k87 1 (by omega)) ?_
             refine wa (WM_nil ?_)
             refine QM_items (fun W hm => Mem.unfocus0 (Mem.join (is := [iOwn (tSl tInt 3) [.slice (some ⟨g105, 0, none⟩) ((gt G82 k87).Values).length c98] ((gt G82 k87).Values)]) (js := (iFoc tyRow 29 (some ⟨g94, 0, none⟩) G82.length c84 G82 k87 [.int .i64 ((gt G82 k87).Id), .slice (some ⟨g105, 0, none⟩) ((gt G82 k87).Values).length c98] :: [I13, I11, iBox p21 31 K8, iBox p20 26 K6, I10, I9])) (fun _ _ hs => tyRow_join (x := (gt G82 k87)) hs) hm)) ?_
             have hn115 := rng_next (R := Bool) (body := F2) (k := k87) (s := s88) (s' := true) (show k87 < G82.length from by omega) (by subst hG23 hG31 hG76 hG82; exact cond_f g102 (cond_f g104 (cond_t g107 (cond_f g109 (cond_f g111 (rfl)))))) hF90
             exact QM_round (k87 + 1, true, ()) sl7 (fun W hm => hm) ⟨(by omega), hn115⟩ (rl (by omega))
           ·have g109 : ((gt ((gt G82 k87).Values) ((((spec_DrawApplyUpdate_m x0).2).Field).toNat)) != (((spec_DrawApplyUpdate_m x0).2).Value)) = true := bne_iff_ne.2 h108
            refine qs g109 ?_
            refine qs g109 ?_
            refine qs g109 ?_
            refine qs g109 ?_
            refine qu ?_
            refine qu ?_
            refine qu ?_
            refine qu ?_
            refine qu ?_
            refine qu ?_
            refine qu ?_
            refine qu ?_
            refine qu ?_
            refine qu ?_
            refine qs g109 ?_
            refine qv (vpT g109) ?_
            refine nq' ?_
            refine CM_condT rfl rfl ?_
            refine sr (wa (nt' (CM_ret (QM_block_ret (QM_then_ret (QM_then_ret (QM_block_ret (QM_then_ret ?_))))))))
            refine QM_items (fun W hm => Mem.unfocus0 (Mem.join (is := [iOwn (tSl tInt 3) [.slice (some ⟨g105, 0, none⟩) ((gt G82 k87).Values).length c98] ((gt G82 k87).Values)]) (js := (iFoc tyRow 29 (some ⟨g94, 0, none⟩) G82.length c84 G82 k87 [.int .i64 ((gt G82 k87).Id), .slice (some ⟨g105, 0, none⟩) ((gt G82 k87).Values).length c98] :: [I13, I11, iBox p21 31 K8, iBox p20 26 K6, I10, I9])) (fun _ _ hs => tyRow_join (x := (gt G82 k87)) hs) hm)) ?_
            exact rtb (h := by subst hG23 hG31 hG76 hG82; exact cond_f g7 (cond_f g39 (cond_t g41 (cond_f g43 (cond_t g45 (fin_inr hE73 (fin_inl (rng_ret (body := F2) (k := k87) (s := s88) (by omega) (cond_f g102 (cond_f g104 (cond_t g107 (cond_t g109 (rfl))))) hF90) rfl)))))))
          ·have g107 := beq_eq_false_iff_ne.2 h106
           refine qs g107 ?_
           refine qs g107 ?_
           refine qs g107 ?_
           refine qs g107 ?_
           refine qs g107 ?_
           refine qs g107 ?_
           refine qs g107 ?_
           refine qs g107 ?_
           refine qs g107 ?_
           refine qs g107 ?_
           refine qs g107 ?_
           refine qs g107 ?_
           refine qv (vpF g107) ?_
           refine qm ?_
           refine QR_val (vf underlying31 rfl type3) (Wd_some rfl rfl rfl rfl) rfl (by decide) ?_
           refine QR_val (vl 4 0 underlying3) (Wd_some rfl rfl rfl rfl) rfl (by decide) ?_
           refine QR_val (fun W hm => rv_eql rfl rfl) (Wd_some rfl rfl rfl rfl) rfl (by decide) ?_
           refine QR_val vmv (Wd_some rfl rfl rfl rfl) rfl (by decide) ?_
           by_cases h116 : (((spec_DrawApplyUpdate_m x0).2).Kind) = 1
           ·have g117 := beq_iff_eq.2 h116
            refine qg vmv g117 ?_
            refine qg vmv g117 ?_
            refine qg (vix 2 k87 underlying39 type29) g117 ?_
            refine qg (vf underlying29 rfl type27) g117 ?_
            refine qg (fun W hm => rv_load underlying27 rfl rfl (hm.focCells (i := 1) rfl rfl 1 _ rfl)) g117 ?_
            refine qg (vf underlying31 rfl type29) g117 ?_
            refine qg (fun W hm => rv_fieldA (o := 2) underlying29 rfl type27 (by decide) rfl rfl) g117 ?_
            refine qg (vl 4 2 underlying27) g117 ?_
            refine QR_callV (cl_fn cb17 rfl) (fun W hm => laws_sameInts_c W _ ((gt G82 k87).Values) _ (((spec_DrawApplyUpdate_m x0).2).Row.Values) (hm.rdSI (n := 0) rfl) (hm.rdSI (n := 6) rfl)) (Wd_some rfl rfl rfl (bw g117 rfl)) (by decide) ?_
            refine qg vnot g117 ?_
            refine QR_val (vpT g117) (Wd_some rfl rfl rfl rfl) rfl (by decide) ?_
            refine qv (vpF rfl) ?_
            refine nq' ?_
            rcases Bool.eq_false_or_eq_true (laws_sameInts_m ((gt G82 k87).Values) (((spec_DrawApplyUpdate_m x0).2).Row.Values)) with g119 | g119
            ·
             refine CM_condF rfl (nt g119) ?_
             refine CM_skip (QM_block_normal (QM_then (CM_region (wm ?_))))
             refine wv (vadN k87 1 (by omega)) ?_
             refine wa (WM_nil ?_)
             refine QM_items (fun W hm => Mem.unfocus0 (Mem.join (is := [iOwn (tSl tInt 3) [.slice (some ⟨g105, 0, none⟩) ((gt G82 k87).Values).length c98] ((gt G82 k87).Values)]) (js := (iFoc tyRow 29 (some ⟨g94, 0, none⟩) G82.length c84 G82 k87 [.int .i64 ((gt G82 k87).Id), .slice (some ⟨g105, 0, none⟩) ((gt G82 k87).Values).length c98] :: [I13, I11, iBox p21 31 K8, iBox p20 26 K6, I10, I9])) (fun _ _ hs => tyRow_join (x := (gt G82 k87)) hs) hm)) ?_
             have hn120 := rng_next (R := Bool) (body := F2) (k := k87) (s := s88) (s' := true) (show k87 < G82.length from by omega) (by subst hG23 hG31 hG76 hG82; exact cond_f g102 (cond_f g104 (cond_f g107 (cond_t g117 (cond_t g119 (rfl)))))) hF90
             exact QM_round (k87 + 1, true, ()) sl7 (fun W hm => hm) ⟨(by omega), hn120⟩ (rl (by omega))
            ·
             refine CM_condT rfl (nf g119) ?_
             refine sr (wa (nt' (CM_ret (QM_block_ret (QM_then_ret (QM_then_ret (QM_block_ret (QM_then_ret ?_))))))))
             refine QM_items (fun W hm => Mem.unfocus0 (Mem.join (is := [iOwn (tSl tInt 3) [.slice (some ⟨g105, 0, none⟩) ((gt G82 k87).Values).length c98] ((gt G82 k87).Values)]) (js := (iFoc tyRow 29 (some ⟨g94, 0, none⟩) G82.length c84 G82 k87 [.int .i64 ((gt G82 k87).Id), .slice (some ⟨g105, 0, none⟩) ((gt G82 k87).Values).length c98] :: [I13, I11, iBox p21 31 K8, iBox p20 26 K6, I10, I9])) (fun _ _ hs => tyRow_join (x := (gt G82 k87)) hs) hm)) ?_
             exact rtb (h := by subst hG23 hG31 hG76 hG82; exact cond_f g7 (cond_f g39 (cond_t g41 (cond_f g43 (cond_t g45 (fin_inr hE73 (fin_inl (rng_ret (body := F2) (k := k87) (s := s88) (by omega) (cond_f g102 (cond_f g104 (cond_f g107 (cond_t g117 (cond_f g119 (rfl)))))) hF90) rfl)))))))
           ·have g117 := beq_eq_false_iff_ne.2 h116
            refine qs g117 ?_
            refine qs g117 ?_
            refine qs g117 ?_
            refine qs g117 ?_
            refine qs g117 ?_
            refine qs g117 ?_
            refine qs g117 ?_
            refine qs g117 ?_
            refine qs g117 ?_
            refine qs g117 ?_
            refine QR_val (vpF g117) (Wd_some rfl rfl rfl rfl) rfl (by decide) ?_
            refine qv (vpF rfl) ?_
            refine nq' ?_
            refine CM_condF rfl rfl ?_
            refine CM_skip (QM_block_normal (QM_then (CM_region (wm ?_))))
            refine wv (vadN k87 1 (by omega)) ?_
            refine wa (WM_nil ?_)
            refine QM_items (fun W hm => Mem.unfocus0 (Mem.join (is := [iOwn (tSl tInt 3) [.slice (some ⟨g105, 0, none⟩) ((gt G82 k87).Values).length c98] ((gt G82 k87).Values)]) (js := (iFoc tyRow 29 (some ⟨g94, 0, none⟩) G82.length c84 G82 k87 [.int .i64 ((gt G82 k87).Id), .slice (some ⟨g105, 0, none⟩) ((gt G82 k87).Values).length c98] :: [I13, I11, iBox p21 31 K8, iBox p20 26 K6, I10, I9])) (fun _ _ hs => tyRow_join (x := (gt G82 k87)) hs) hm)) ?_
            have hn121 := rng_next (R := Bool) (body := F2) (k := k87) (s := s88) (s' := true) (show k87 < G82.length from by omega) (by subst hG23 hG31 hG76 hG82; exact cond_f g102 (cond_f g104 (cond_f g107 (cond_f g117 (rfl))))) hF90
            exact QM_round (k87 + 1, true, ()) sl7 (fun W hm => hm) ⟨(by omega), hn121⟩ (rl (by omega))
         ·have g104 : (((((gt G82 k87).Values).length : Nat) : Int) != 3) = true := bne_iff_ne.2 h103
          refine CM_condT rfl g104 ?_
          refine sr (wa (nt' (CM_ret (QM_then_ret (QM_block_ret (QM_then_ret (QM_then_ret (QM_block_ret (QM_then_ret ?_)))))))))
          refine QM_items (fun W hm => Mem.unfocus0 (Mem.join (is := [iOwn (tSl tInt 3) [.slice A97 ((gt G82 k87).Values).length c98] ((gt G82 k87).Values)]) (js := (iFoc tyRow 29 (some ⟨g94, 0, none⟩) G82.length c84 G82 k87 [.int .i64 ((gt G82 k87).Id), .slice A97 ((gt G82 k87).Values).length c98] :: [I13, I11, iBox p21 31 K8, iBox p20 26 K6, I10, I9])) (fun _ _ hs => tyRow_join (x := (gt G82 k87)) hs) hm)) ?_
          exact rtb (h := by subst hG23 hG31 hG76 hG82; exact cond_f g7 (cond_f g39 (cond_t g41 (cond_f g43 (cond_t g45 (fin_inr hE73 (fin_inl (rng_ret (body := F2) (k := k87) (s := s88) (by omega) (cond_f g102 (cond_t g104 (rfl))) hF90) rfl)))))))
        ·have g102 : (((gt G82 k87).Id) != (((spec_DrawApplyUpdate_m x0).2).Row.Id)) = true := bne_iff_ne.2 h101
         refine CM_condT rfl g102 ?_
         refine CM_exit (QM_then_exit (QM_block_hit (QM_then (CM_region (wm ?_)))))
         refine wv (vadN k87 1 (by omega)) ?_
         refine wa (WM_nil ?_)
         refine QM_items (fun W hm => Mem.unfocus0 (Mem.join (is := [iOwn (tSl tInt 3) [.slice A97 ((gt G82 k87).Values).length c98] ((gt G82 k87).Values)]) (js := (iFoc tyRow 29 (some ⟨g94, 0, none⟩) G82.length c84 G82 k87 [.int .i64 ((gt G82 k87).Id), .slice A97 ((gt G82 k87).Values).length c98] :: [I13, I11, iBox p21 31 K8, iBox p20 26 K6, I10, I9])) (fun _ _ hs => tyRow_join (x := (gt G82 k87)) hs) hm)) ?_
         have hn122 := rng_next (R := Bool) (body := F2) (k := k87) (s := s88) (s' := s88) (show k87 < G82.length from by omega) (by subst hG23 hG31 hG76 hG82; exact cond_t g102 (rfl)) hF90
         exact QM_round (k87 + 1, s88, ()) sl7 (fun W hm => hm) ⟨(by omega), hn122⟩ (rl (by omega))
       ·have g93 := dlF hl92
        refine CM_condF rfl g93 ?_
        refine CM_exit (QM_then_exit (QM_then_exit ?_))
        have hE123 : R4 (G82.length - 0) 0 false = Sum.inr s88 := rng_end hl92 hF90
        refine QM_block_hit (QM_then (sr ?_))
        refine wv (vf underlying26 rfl type3) ?_
        refine wv (vl 1 1 underlying3) ?_
        refine wv (vf underlying26 rfl type3) ?_
        refine wv (vl 4 1 underlying3) ?_
        refine wv vadd ?_
        refine wv (fun W hm => rv_eql rfl rfl) ?_
        refine wm ?_
        by_cases h124 : G23.1.Now = (IntKind.i64.wrap ((((spec_DrawApplyUpdate_m x0).1).Now) + 1))
        ·have g125 := beq_iff_eq.2 h124
         refine wg (fun W hm => rv_loadN (cs := [.slice A25 G23.1.Segments.length c26, .int .i64 G23.1.Now]) underlying26 type26 rfl rfl (hm.boxCells (n := 1) rfl)) g125 ?_
         refine WM_callV (cl_fn cb11 rfl) (fun W hm => impl_IsStore_c W _ G23.1 (tyStore_mk (x := G23.1) (hm.rdSI (n := 2) rfl)) (by first | exact hxs | exact hys)) (Wd_some rfl rfl rfl (bw g125 rfl)) (by decide) ?_
         refine wv (vpT g125) ?_
         refine wm ?_
         rcases Bool.eq_false_or_eq_true (impl_IsStore_m G23.1) with g127 | g127
         ·
          refine wg vmv g127 ?_
          refine wg (vlen underlying39) g127 ?_
          refine wg vmv g127 ?_
          refine wg (fun W hm => rv_eql rfl rfl) g127 ?_
          refine wv (vpT g127) ?_
          refine wm ?_
          by_cases h128 : ((G82.length : Nat) : Int) = (IntKind.i64.wrap ((IntKind.i64.wrap (((G76.length : Nat) : Int) + (laws_btoi_m ((((spec_DrawApplyUpdate_m x0).2).Kind) == 1)))) - (laws_btoi_m ((((spec_DrawApplyUpdate_m x0).2).Kind) == 2))))
          ·have g129 := beq_iff_eq.2 h128
           refine wg vmv g129 ?_
           refine wg (vf underlying31 rfl type3) g129 ?_
           refine wg (vl 3 0 underlying3) g129 ?_
           refine wg vneq g129 ?_
           refine wg (fun W hm => rv_eqlB underlying4 rfl rfl) g129 ?_
           refine wv (vpT g129) ?_
           refine wa (nt' (CM_ret ?_))
           exact rtb (h := by subst hG23 hG31 hG76 hG82; exact cond_f g7 (cond_f g39 (cond_t g41 (cond_f g43 (cond_t g45 (fin_inr hE73 (fin_inr hE123 (cond_t g125 (cond_t g127 (cond_t g129 (rfl)))))))))))
          ·have g129 := beq_eq_false_iff_ne.2 h128
           refine ws g129 ?_
           refine ws g129 ?_
           refine ws g129 ?_
           refine ws g129 ?_
           refine ws g129 ?_
           refine wv (vpF g129) ?_
           refine wa (nt' (CM_ret ?_))
           exact rtb (h := by subst hG23 hG31 hG76 hG82; exact cond_f g7 (cond_f g39 (cond_t g41 (cond_f g43 (cond_t g45 (fin_inr hE73 (fin_inr hE123 (cond_t g125 (cond_t g127 (cond_f g129 (rfl)))))))))))
         ·
          refine ws g127 ?_
          refine ws g127 ?_
          refine ws g127 ?_
          refine ws g127 ?_
          refine wv (vpF g127) ?_
          refine wm ?_
          refine wk ?_
          refine wk ?_
          refine wk ?_
          refine wk ?_
          refine wk ?_
          refine wv (vpF rfl) ?_
          refine wa (nt' (CM_ret ?_))
          exact rtb (h := by subst hG23 hG31 hG76 hG82; exact cond_f g7 (cond_f g39 (cond_t g41 (cond_f g43 (cond_t g45 (fin_inr hE73 (fin_inr hE123 (cond_t g125 (cond_f g127 (rfl))))))))))
        ·have g125 := beq_eq_false_iff_ne.2 h124
         refine ws g125 ?_
         refine ws g125 ?_
         refine wv (vpF g125) ?_
         refine wm ?_
         refine wk ?_
         refine wk ?_
         refine wk ?_
         refine wk ?_
         refine wv (vpF rfl) ?_
         refine wm ?_
         refine wk ?_
         refine wk ?_
         refine wk ?_
         refine wk ?_
         refine wk ?_
         refine wv (vpF rfl) ?_
         refine wa (nt' (CM_ret ?_))
         exact rtb (h := by subst hG23 hG31 hG76 hG82; exact cond_f g7 (cond_f g39 (cond_t g41 (cond_f g43 (cond_t g45 (fin_inr hE73 (fin_inr hE123 (cond_f g125 (rfl)))))))))
     ·
      refine CM_condT rfl (nf g45) ?_
      refine CM_seq ?_
      refine CM_items (pk [2, 3, 5, 7]) ?_
      refine CM_region ?_
      refine wv (fun W hm => rv_loadN (cs := [.slice A25 G23.1.Segments.length c26, .int .i64 G23.1.Now]) underlying26 type26 rfl rfl (hm.boxCells (n := 0) rfl)) ?_
      refine wv (fun W hm => rv_loadN (cs := K6) underlying26 type26 rfl rfl (hm.boxCells (n := 2) rfl)) ?_
      refine wcv (cl_fn cb10 rfl) (fun W hm => spec_EqualStores_c W _ G23.1 _ ((spec_DrawApplyUpdate_m x0).1) (tyStore_mk (x := G23.1) (hm.rdSI (n := 1) rfl)) (tyStore_mk (x := ((spec_DrawApplyUpdate_m x0).1)) (hm.rdSI (n := 3) rfl))) ?_
      refine wa (nt' (CM_ret (QM_then_ret ?_)))
      exact rtb (h := by subst hG23 hG31; exact cond_f g7 (cond_f g39 (cond_t g41 (cond_f g43 (cond_f g45 (rfl))))))
   ·
    refine qs (nf g41) ?_
    refine qs (nf g41) ?_
    refine qs (nf g41) ?_
    refine qs (nf g41) ?_
    refine qs (nf g41) ?_
    refine qv (vpT (nf g41)) ?_
    refine nq' ?_
    refine CM_condT rfl rfl ?_
    refine CM_seq ?_
    refine CM_items (pk []) ?_
    refine CM_region (wa (nt' (CM_ret (QM_then_ret ?_))))
    exact rtb (h := by subst hG23 hG31; exact cond_f g7 (cond_f g39 (cond_f g41 (rfl))))

end Go.Proofs.Ytglapeecbnaipaa
