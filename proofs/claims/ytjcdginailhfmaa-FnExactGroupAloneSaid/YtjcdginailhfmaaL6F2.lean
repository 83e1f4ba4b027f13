/-
  Contracts of functions, printed by a program of ours.
-/
import Derived.Test.YtjcdginailhfmaaL6F1
namespace Go.Proofs.Ytjcdginailhfmaa
open Go.RowKit
theorem IsRow_same (x : DRow) : impl_IsRow_m x = spec_IsRow_m x := rfl
theorem cmp_int (a b : Int) : cmp_Compare_int_m a b = if a < b then -1 else if b < a then 1 else 0 := by
  unfold cmp_Compare_int_m cmp_isNaN_int_m
  rw [bne_self_eq_false, bne_self_eq_false]
  by_cases h1 : a < b
  · rw [decide_eq_true h1, if_pos h1]; rfl
  · rw [decide_eq_false h1, if_neg h1]
    by_cases h2 : b < a
    · rw [decide_eq_true h2, if_pos h2]; rfl
    · rw [decide_eq_false h2, if_neg h2]; rfl
def keyR (x y : DGroup) : Prop := x.Query < y.Query ∨ (x.Query = y.Query ∧ x.Value < y.Value)
theorem groups_lt (x y : DGroup) : lt0 impl_compareGroups_m x y = true ↔ keyR x y := by
  show decide (impl_compareGroups_m x y < 0) = true ↔ _
  unfold impl_compareGroups_m keyR
  rw [decide_eq_true_eq, cmp_int, cmp_int]
  by_cases h : x.Query = y.Query
  · rw [show (x.Query != y.Query) = false from by rw [h]; exact bne_self_eq_false _]
    show (if x.Value < y.Value then (-1 : Int) else if y.Value < x.Value then 1 else 0) < 0 ↔ _
    by_cases h1 : x.Value < y.Value
    · rw [if_pos h1]; omega
    · rw [if_neg h1]; by_cases h2 : y.Value < x.Value
      · rw [if_pos h2]; omega
      · rw [if_neg h2]; omega
  · rw [bne_iff_ne.2 h]
    show (if x.Query < y.Query then (-1 : Int) else if y.Query < x.Query then 1 else 0) < 0 ↔ _
    by_cases h1 : x.Query < y.Query
    · rw [if_pos h1]; omega
    · rw [if_neg h1, if_pos (by omega)]; omega
theorem impl_compareGroups_ord : Ord (lt0 impl_compareGroups_m) := ord_of groups_lt (fun x y => by unfold keyR; omega) (fun x y z => by unfold keyR; omega)
theorem impl_IsRow_len {r : DRow} (h : impl_IsRow_m r = true) : r.Values.length = 3 := spec_IsRow_len (by rw [← IsRow_same]; exact h)
theorem impl_isField_fact {x : Int} (h : impl_isField_m x = true) : 0 ≤ x ∧ x ≤ 2 := impl_within_fact h
def impl_GroupShared_b2 (x0 : (List DAnnotated)) (x1 : Int) (x2 : Int) (k13 : Nat) (k47 : Nat) (d48 : (List DGroup)) : (List DGroup) ⊕ ((List DGroup)) :=
 Sum.inr (d48 ++ [(⟨(gt ((gt x0 k13).Set) k47), (gt ((gt x0 k13).Row.Values) (x1.toNat)), 1, (gt ((gt x0 k13).Row.Values) (x2.toNat))⟩ : DGroup)])
abbrev impl_GroupShared_v1 (k90 : Nat) (d91 : (List DGroup)) (d94 : (List DGroup)) : (List DGroup) :=
 (d91.set (d91.length - 1) (⟨(gt d91 (d91.length - 1)).Query, (gt d91 (d91.length - 1)).Value, (IntKind.i64.wrap (((gt d91 (d91.length - 1)).Count) + 1)), (IntKind.i64.wrap (((gt d91 (d91.length - 1)).Sum) + ((gt d94 k90).Sum)))⟩ : DGroup))
def impl_GroupShared_b3 (k90 : Nat) (d91 : (List DGroup)) (d94 : (List DGroup)) : (List DGroup) ⊕ ((List DGroup) × (List DGroup)) :=
 cond (decide (0 < ((d91.length : Nat) : Int))) (cond ((impl_compareGroups_m (gt d91 (d91.length - 1)) (gt d94 k90)) == 0) (Sum.inr ((impl_GroupShared_v1 k90 d91 d94), d94)) (Sum.inr ((d91 ++ [(gt d94 k90)]), d94))) (Sum.inr ((d91 ++ [(gt d94 k90)]), d94))
def impl_GroupShared_b1 (x0 : (List DAnnotated)) (x1 : Int) (x2 : Int) (k13 : Nat) (d14 : (List DGroup)) : (List DGroup) ⊕ ((List DGroup)) :=
 cond (impl_IsRow_m ((gt x0 k13).Row)) (Sum.elim Sum.inl (fun (s : (List DGroup)) => Sum.inr s) (rng (R := (List DGroup)) (fun k (s : (List DGroup)) => impl_GroupShared_b2 x0 x1 x2 k13 k s) (((gt x0 k13).Set).length - 0) 0 d14)) (Sum.inr d14)
def impl_GroupShared_m (x0 : (List DAnnotated)) (x1 : Int) (x2 : Int) : (List DGroup) :=
 cond (impl_isField_m x1) (cond (impl_isField_m x2) (Sum.elim id (fun (s1_ : (List DGroup)) => Sum.elim id (fun (s : (List DGroup) × (List DGroup)) => s.1) (rng (R := (List DGroup)) (fun k (s : (List DGroup) × (List DGroup)) => impl_GroupShared_b3 k s.1 s.2) (s1_.length - 0) 0 ([], (stb (lt0 impl_compareGroups_m) s1_)))) (rng (R := (List DGroup)) (fun k (s : (List DGroup)) => impl_GroupShared_b1 x0 x1 x2 k s) (x0.length - 0) 0 [])) []) []
set_option maxRecDepth 100000 in
theorem cb41 : Cb Try.prog 41 := ⟨Try.f41, _, Try.func41, rfl, by decide⟩
set_option maxRecDepth 10000 in
set_option maxHeartbeats 4000000 in
theorem impl_GroupShared_c (w : World) (z0 : Value) (x0 : (List DAnnotated)) (x1 : Int) (x2 : Int) (r_0 : rdS tyAnnotated w w.heap.size z0 x0) (s_0 : (x0.length ≤ 68719476736 ∧ ∀ y ∈ x0, smAnnotated 68719476736 y)) (hq : (x0.map fun (a : DAnnotated) => a.Set.length).sum ≤ 68719476736) :
  Calls Try.prog 41 #[z0, .int .i64 x1, .int .i64 x2] w fun e w' => ∃ v : Value, e = .returned (v) ∧ Mem w.heap.size w [iOwn (tSl tyGroup 117) [v] (impl_GroupShared_m x0 x1 x2)] w' := by
 have r5 := r_0
 obtain ⟨m1, A2, c3, rfl, q4⟩ := r_0
 have l6 : x0.length ≤ 68719476736 := s_0.1
 refine call_enterM (L := [(0, .slice A2 x0.length c3), (1, .int .i64 x1), (2, .int .i64 x2)]) (N := 110) Try.func41 rfl rfl (Nat.le_of_ble_eq_true rfl) (argsL_cons rfl (argsL_cons rfl (argsL_cons rfl argsL_nil))) ?_
 refine sr ?_
 refine wa ?_
 refine nt' ?_
 refine CM_seq ?_
 refine sr ?_
 refine wm ?_
 refine WM_callV (cl_fn cb86 rfl) (fun W hm => impl_isField_c W x1) (Wd_none rfl) (by decide) ?_
 refine wv (fun W hm => rv_not rfl) ?_
 refine wm ?_
 rcases Bool.eq_false_or_eq_true (impl_isField_m x1) with g8 | g8
 ·
  have hf1 := impl_isField_fact g8
  refine wg (fun W hm => rv_move rfl) (nt g8) ?_
  refine WM_callV (cl_fn cb86 rfl) (fun W hm => impl_isField_c W x2) (Wd_some rfl rfl rfl (bw (nt g8) rfl)) (by decide) ?_
  refine wg (fun W hm => rv_not rfl) (nt g8) ?_
  refine wv (fun W hm => rv_pickF rfl (nt g8) rfl) ?_
  refine nt' ?_
  rcases Bool.eq_false_or_eq_true (impl_isField_m x2) with g10 | g10
  ·
   have hf2 := impl_isField_fact g10
   refine CM_condF rfl (nt g10) ?_
   refine CM_skip ?_
   refine QM_then ?_
   refine sr ?_
   refine WM_build0 (E := tyGroup) Try.underlying54 Try.type117 (Wd_none rfl) (by decide) (fun p11 => ?_)
   refine wa ?_
   refine nt' ?_
   refine CM_seq ?_
   refine sr ?_
   refine wm ?_
   refine wv (fun W hm => rv_len Try.underlying26 rfl) ?_
   refine wm ?_
   refine nt' ?_
   refine CM_block ?_
   refine CM_loop (σ := Nat × ((List DGroup)) × (Option Addr × Nat)) (fun s => [(1, .int .i64 x1), (2, .int .i64 x2), (7, .slice s.2.2.1 s.2.1.length s.2.2.2), (25, .slice A2 x0.length c3), (26, .int .i64 ((x0.length : Nat) : Int)), (27, .int .i64 ((s.1 : Nat) : Int))]) (fun s => [iOwn (tSl tyGroup 117) [.slice s.2.2.1 s.2.1.length s.2.2.2] s.2.1]) (fun s => s.1 ≤ x0.length ∧ rng (R := (List DGroup)) (fun k (s : (List DGroup)) => impl_GroupShared_b1 x0 x1 x2 k s) (x0.length - s.1) s.1 s.2.1 = rng (R := (List DGroup)) (fun k (s : (List DGroup)) => impl_GroupShared_b1 x0 x1 x2 k s) (x0.length - 0) 0 [] ∧ s.2.1.length ≤ ((x0.take s.1).map fun (a : DAnnotated) => a.Set.length).sum) (fun s => x0.length - s.1) (0, [], ((some ⟨p11, 0, none⟩), 0)) (subL_cons rfl (subL_cons rfl (subL_cons rfl (subL_cons rfl (subL_cons rfl (subL_cons rfl subL_nil)))))) (fun W hm => hm) ⟨(by omega), rfl, Nat.zero_le _⟩ ?_
   rintro ⟨k13, d14, ⟨A15, c16⟩⟩ H19
   obtain ⟨hk17, hF18, hi20⟩ : k13 ≤ x0.length ∧ rng (R := (List DGroup)) (fun k (s : (List DGroup)) => impl_GroupShared_b1 x0 x1 x2 k s) (x0.length - k13) k13 d14 = rng (R := (List DGroup)) (fun k (s : (List DGroup)) => impl_GroupShared_b1 x0 x1 x2 k s) (x0.length - 0) 0 [] ∧ d14.length ≤ ((x0.take k13).map fun (a : DAnnotated) => a.Set.length).sum := H19
   show CM Try.prog 110 _ _ _ _ [(1, .int .i64 x1), (2, .int .i64 x2), (7, .slice A15 d14.length c16), (25, .slice A2 x0.length c3), (26, .int .i64 ((x0.length : Nat) : Int)), (27, .int .i64 ((k13 : Nat) : Int))] [iOwn (tSl tyGroup 117) [.slice A15 d14.length c16] d14]
   refine sr ?_
   refine wv (fun W hm => rv_lss rfl rfl) ?_
   refine nt' ?_
   refine CM_seq ?_
   by_cases hl21 : k13 < x0.length
   ·have g22 : (decide (((k13 : Nat) : Int) < ((x0.length : Nat) : Int))) = true := decide_eq_true (by omega)
    have hq1 := sum_take_succ (w := fun (a : DAnnotated) => a.Set.length) (xs := x0) (j := k13) (by omega)
    have hq2 := sum_take_le (w := fun (a : DAnnotated) => a.Set.length) (xs := x0) (k13 + 1)
    refine CM_condT rfl g22 ?_
    refine CM_skip ?_
    refine QM_then ?_
    refine CM_seq ?_
    refine CM_block ?_
    refine sr ?_
    obtain ⟨a23, rfl, hb24, he25⟩ := q4 (by omega)
    refine wv (fun W hm => rv_index (sz := 3) (k := k13) Try.underlying26 Try.type91 rfl rfl rfl (by omega)) ?_
    obtain ⟨_, e31, hc26⟩ := he25 k13 _ (gt_some (show k13 < x0.length from by omega))
    obtain ⟨v27, v29, rfl, r28, r30⟩ := tyAnnotated_rd e31
    have l32 : ((gt x0 k13).Row.Values).length ≤ 68719476736 := (s_0.2 _ (gt_mem (show k13 < x0.length from by omega))).1
    have l33 : ((gt x0 k13).Set).length ≤ 68719476736 := (s_0.2 _ (gt_mem (show k13 < x0.length from by omega))).2
    have r38 := r28
    obtain ⟨m34, A35, c36, rfl, q37⟩ := r28
    have r43 := r30
    obtain ⟨m39, A40, c41, rfl, q42⟩ := r30
    refine wv (fun W hm => rv_loadN (cs := [.int .i64 ((gt x0 k13).Row.Id), .slice A35 ((gt x0 k13).Row.Values).length c36, .slice A40 ((gt x0 k13).Set).length c41]) Try.underlying91 Try.type91 rfl rfl (hm.elCells (show (a23.add (k13 * 3)).block < w.heap.size from by rw [add_block]; exact hb24.1) hc26)) ?_
    refine WM_alloc Try.type91 rfl (Wd_none rfl) (by decide) (fun p44 => ?_)
    refine WM_storeBox (p := p44) (o := 0) (cs' := [.int .i64 ((gt x0 k13).Row.Id), .slice A35 ((gt x0 k13).Row.Values).length c36, .slice A40 ((gt x0 k13).Set).length c41]) (js := [iOwn (tSl tyGroup 117) [.slice A15 d14.length c16] d14]) (fun W hm => hm) Try.type91 rfl (Nat.le_of_ble_eq_true rfl) rfl rfl rfl rfl (Wd_none rfl) ?_
    refine nt' ?_
    refine CM_seq ?_
    refine sr ?_
    refine wv (fun W hm => rv_field Try.underlying91 rfl Try.type69 (by decide) rfl rfl) ?_
    refine wv (fun W hm => rv_loadN (cs := [.int .i64 ((gt x0 k13).Row.Id), .slice A35 ((gt x0 k13).Row.Values).length c36]) Try.underlying69 Try.type69 rfl rfl (hm.boxPart (n := 0) rfl rfl)) ?_
    refine WM_callV (cl_fn cb87 rfl) (fun W hm => impl_IsRow_c W _ ((gt x0 k13).Row) (tyRow_mk (x := ((gt x0 k13).Row)) (hm.rdS0 r38))) (Wd_none rfl) (by decide) ?_
    refine wv (fun W hm => rv_not rfl) ?_
    refine nt' ?_
    rcases Bool.eq_false_or_eq_true (impl_IsRow_m ((gt x0 k13).Row)) with g46 | g46
    ·
     have hlr := impl_IsRow_len g46
     refine CM_condF rfl (nt g46) ?_
     refine CM_skip ?_
     refine QM_then ?_
     refine sr ?_
     refine wv (fun W hm => rv_field Try.underlying91 rfl Try.type33 (by decide) rfl rfl) ?_
     refine wv (fun W hm => rv_load Try.underlying33 rfl rfl (hm.boxCell (n := 0) (o := 2) rfl rfl)) ?_
     refine wv (fun W hm => rv_len Try.underlying33 rfl) ?_
     refine wm ?_
     refine nt' ?_
     refine CM_block ?_
     refine CM_loop (σ := Nat × ((List DGroup)) × (Option Addr × Nat)) (fun s => [(1, .int .i64 x1), (2, .int .i64 x2), (7, .slice s.2.2.1 s.2.1.length s.2.2.2), (9, .pointer (some (⟨p44, 0, none⟩ : Addr))), (25, .slice (some a23) x0.length c3), (26, .int .i64 ((x0.length : Nat) : Int)), (27, .int .i64 ((k13 : Nat) : Int)), (36, .slice A40 ((gt x0 k13).Set).length c41), (37, .int .i64 ((((gt x0 k13).Set).length : Nat) : Int)), (38, .int .i64 ((s.1 : Nat) : Int))]) (fun s => [iBox p44 91 [.int .i64 ((gt x0 k13).Row.Id), .slice A35 ((gt x0 k13).Row.Values).length c36, .slice A40 ((gt x0 k13).Set).length c41], iOwn (tSl tyGroup 117) [.slice s.2.2.1 s.2.1.length s.2.2.2] s.2.1]) (fun s => s.1 ≤ ((gt x0 k13).Set).length ∧ rng (R := (List DGroup)) (fun k (s : (List DGroup)) => impl_GroupShared_b2 x0 x1 x2 k13 k s) (((gt x0 k13).Set).length - s.1) s.1 s.2.1 = rng (R := (List DGroup)) (fun k (s : (List DGroup)) => impl_GroupShared_b2 x0 x1 x2 k13 k s) (((gt x0 k13).Set).length - 0) 0 d14 ∧ s.2.1.length ≤ d14.length + s.1) (fun s => ((gt x0 k13).Set).length - s.1) (0, d14, (A15, c16)) (subL_cons rfl (subL_cons rfl (subL_cons rfl (subL_cons rfl (subL_cons rfl (subL_cons rfl (subL_cons rfl (subL_cons rfl (subL_cons rfl (subL_cons rfl subL_nil)))))))))) (fun W hm => hm) ⟨(by omega), rfl, Nat.le_refl _⟩ ?_
     rintro ⟨k47, d48, ⟨A49, c50⟩⟩ H53
     obtain ⟨hk51, hF52, hi54⟩ : k47 ≤ ((gt x0 k13).Set).length ∧ rng (R := (List DGroup)) (fun k (s : (List DGroup)) => impl_GroupShared_b2 x0 x1 x2 k13 k s) (((gt x0 k13).Set).length - k47) k47 d48 = rng (R := (List DGroup)) (fun k (s : (List DGroup)) => impl_GroupShared_b2 x0 x1 x2 k13 k s) (((gt x0 k13).Set).length - 0) 0 d14 ∧ d48.length ≤ d14.length + k47 := H53
     show CM Try.prog 110 _ _ _ _ [(1, .int .i64 x1), (2, .int .i64 x2), (7, .slice A49 d48.length c50), (9, .pointer (some (⟨p44, 0, none⟩ : Addr))), (25, .slice (some a23) x0.length c3), (26, .int .i64 ((x0.length : Nat) : Int)), (27, .int .i64 ((k13 : Nat) : Int)), (36, .slice A40 ((gt x0 k13).Set).length c41), (37, .int .i64 ((((gt x0 k13).Set).length : Nat) : Int)), (38, .int .i64 ((k47 : Nat) : Int))] [iBox p44 91 [.int .i64 ((gt x0 k13).Row.Id), .slice A35 ((gt x0 k13).Row.Values).length c36, .slice A40 ((gt x0 k13).Set).length c41], iOwn (tSl tyGroup 117) [.slice A49 d48.length c50] d48]
     refine sr ?_
     refine wv (fun W hm => rv_lss rfl rfl) ?_
     refine nt' ?_
     refine CM_seq ?_
     by_cases hl55 : k47 < ((gt x0 k13).Set).length
     ·have g56 : (decide (((k47 : Nat) : Int) < ((((gt x0 k13).Set).length : Nat) : Int))) = true := decide_eq_true (by omega)
      refine CM_condT rfl g56 ?_
      refine CM_skip ?_
      refine QM_then ?_
      refine CM_seq ?_
      refine CM_block ?_
      refine sr ?_
      obtain ⟨a57, rfl, hb58, he59⟩ := q42 (by omega)
      refine wv (fun W hm => rv_index (sz := 1) (k := k47) Try.underlying33 Try.type3 rfl rfl rfl (by omega)) ?_
      refine wv (fun W hm => rv_load Try.underlying3 rfl rfl ((hm.cell0 (show (a57.add (k47 * 1)).block < w.heap.size from by rw [add_block]; exact hb58.1)).trans (rdS_int he59 k47 (by omega)))) ?_
      refine wa ?_
      refine nt' ?_
      obtain ⟨a60, rfl, hb61, he62⟩ := q37 (by omega)
      refine CM_cut (σ := Option Addr × Nat) (fun s => [(1, .int .i64 x1), (2, .int .i64 x2), (7, .slice s.1 (d48 ++ [(⟨(gt ((gt x0 k13).Set) k47), (gt ((gt x0 k13).Row.Values) (x1.toNat)), 1, (gt ((gt x0 k13).Row.Values) (x2.toNat))⟩ : DGroup)]).length s.2), (9, .pointer (some (⟨p44, 0, none⟩ : Addr))), (25, .slice (some a23) x0.length c3), (26, .int .i64 ((x0.length : Nat) : Int)), (27, .int .i64 ((k13 : Nat) : Int)), (36, .slice (some a57) ((gt x0 k13).Set).length c41), (37, .int .i64 ((((gt x0 k13).Set).length : Nat) : Int)), (38, .int .i64 ((k47 : Nat) : Int))]) (fun s => [iOwn (tSl tyGroup 117) [.slice s.1 (d48 ++ [(⟨(gt ((gt x0 k13).Set) k47), (gt ((gt x0 k13).Row.Values) (x1.toNat)), 1, (gt ((gt x0 k13).Row.Values) (x2.toNat))⟩ : DGroup)]).length s.2] (d48 ++ [(⟨(gt ((gt x0 k13).Set) k47), (gt ((gt x0 k13).Row.Values) (x1.toNat)), 1, (gt ((gt x0 k13).Row.Values) (x2.toNat))⟩ : DGroup)]), iBox p44 91 [.int .i64 ((gt x0 k13).Row.Id), .slice (some a60) ((gt x0 k13).Row.Values).length c36, .slice (some a57) ((gt x0 k13).Set).length c41]]) (fun _ => True) ?_ ?_
      ·
       refine rb 18 (s := []) (fun W hm => (hm.pick [] (by decide))) ?_
       refine qt 18 0 1 rfl (fun W hm => rv_move rfl) ?_
       refine qt 18 1 3 rfl (fun W hm => rv_move rfl) ?_
       refine qt 18 2 7 rfl (fun W hm => rv_field Try.underlying91 rfl Try.type69 (by decide) rfl rfl) ?_
       refine qt 18 3 15 rfl (fun W hm => rv_fieldA (o := 1) Try.underlying69 rfl Try.type33 (by decide) rfl rfl) ?_
       refine qt 18 5 47 rfl (fun W hm => rv_move rfl) ?_
       refine qt 18 8 303 rfl (fun W hm => rv_field Try.underlying91 rfl Try.type69 (by decide) rfl rfl) ?_
       refine qt 18 9 815 rfl (fun W hm => rv_fieldA (o := 1) Try.underlying69 rfl Try.type33 (by decide) rfl rfl) ?_
       refine qt 18 11 2863 rfl (fun W hm => rv_move rfl) ?_
       refine qa [4, 10] ?_
       refine qc 18 2879 rfl ?_ ?_
       ·
        refine wv (fun W hm => rv_load Try.underlying33 rfl rfl (hm.boxCell (n := 0) (o := 1) rfl rfl)) ?_
        refine qn (fun W hm => (hm.pick [] (by decide))) ?_
        refine qt 18 6 2943 rfl (fun W hm => rv_indexI (sz := 1) (k := x1) Try.underlying33 Try.type3 rfl rfl rfl (by omega) (by omega)) ?_
        refine qt 18 7 3071 rfl (fun W hm => rv_load Try.underlying3 rfl rfl ((hm.cell0 (show (a60.add ((x1.toNat) * 1)).block < w.heap.size from by rw [add_block]; exact hb61.1)).trans (rdS_int he62 (x1.toNat) (by omega)))) ?_
        refine qo 18 10 4095 rfl ?_
        refine wv (fun W hm => rv_load Try.underlying33 rfl rfl (hm.boxCell (n := 0) (o := 1) rfl rfl)) ?_
        refine qn (fun W hm => (hm.pick [] (by decide))) ?_
        refine qt 18 12 8191 rfl (fun W hm => rv_indexI (sz := 1) (k := x2) Try.underlying33 Try.type3 rfl rfl rfl (by omega) (by omega)) ?_
        refine qt 18 13 16383 rfl (fun W hm => rv_load Try.underlying3 rfl rfl ((hm.cell0 (show (a60.add ((x2.toNat) * 1)).block < w.heap.size from by rw [add_block]; exact hb61.1)).trans (rdS_int he62 (x2.toNat) (by omega)))) ?_
        refine qt 18 14 32767 rfl (fun W hm => rv_build (cs := [.int .i64 (gt ((gt x0 k13).Set) k47), .int .i64 (gt ((gt x0 k13).Row.Values) (x1.toNat)), .int .i64 1, .int .i64 (gt ((gt x0 k13).Row.Values) (x2.toNat))]) rfl (by kernel_rfl)) ?_
        refine qo 18 15 65535 rfl ?_
        refine WM_build (cs := [.int .i64 (gt ((gt x0 k13).Set) k47), .int .i64 (gt ((gt x0 k13).Row.Values) (x1.toNat)), .int .i64 1, .int .i64 (gt ((gt x0 k13).Row.Values) (x2.toNat))]) Try.underlying54 Try.type117 rfl (by decide) (by decide) rfl (by kernel_rfl) (Wd_none rfl) (by decide) (fun p69 => ?_)
        refine qn (fun W hm => (hm.pick [] (by decide))) ?_
        refine qo 18 16 131071 rfl ?_
        refine WM_append (E := tyGroup) (e := 117) (v := .slice A49 d48.length c50) (p := p69) (q := 1) (xs := d48) (ys := [(⟨(gt ((gt x0 k13).Set) k47), (gt ((gt x0 k13).Row.Values) (x1.toNat)), 1, (gt ((gt x0 k13).Row.Values) (x2.toNat))⟩ : DGroup)]) (eis := []) (js := [iBox p44 91 [.int .i64 ((gt x0 k13).Row.Id), .slice (some a60) ((gt x0 k13).Row.Values).length c36, .slice (some a57) ((gt x0 k13).Set).length c41]]) (news := [.int .i64 (gt ((gt x0 k13).Set) k47), .int .i64 (gt ((gt x0 k13).Row.Values) (x1.toNat)), .int .i64 1, .int .i64 (gt ((gt x0 k13).Row.Values) (x2.toNat))]) (fun W hm => (hm.pick [0, 2, 1] (by decide))) (fun _ _ hs => by cases (Sep.nil hs); exact (els_cons (tyGroup_join (x := (⟨(gt ((gt x0 k13).Set) k47), (gt ((gt x0 k13).Row.Values) (x1.toNat)), 1, (gt ((gt x0 k13).Row.Values) (x2.toNat))⟩ : DGroup)) (L := []) rfl) els_nil)) Try.underlying54 Try.type117 rfl rfl rfl (Nat.le_of_ble_eq_true rfl) rfl rfl rfl (show (d48.length + 1) * 32 ≤ 140737488355328 from by omega) (show d48.length + 1 ≤ 9223372036854775807 from by omega) (Wd_none rfl) (by decide) (fun v70 => ?_)
        refine WM_form (n := 0) rfl ?_
        rintro A71 c72 rfl m73
        refine qn (fun W hm => (hm.pick [] (by decide))) ?_
        refine qt 18 17 262143 rfl (fun W hm => rv_assign rfl) ?_
        refine QB_done (by kernel_rfl) ?_
        exact QM_cut_normal (A71, c72) (subL_cons rfl (subL_cons rfl (subL_cons rfl (subL_cons rfl (subL_cons rfl (subL_cons rfl (subL_cons rfl (subL_cons rfl (subL_cons rfl (subL_cons rfl subL_nil)))))))))) (fun W hm => hm) trivial
       refine qc 18 3887 rfl ?_ ?_
       ·
        refine wv (fun W hm => rv_load Try.underlying33 rfl rfl (hm.boxCell (n := 0) (o := 1) rfl rfl)) ?_
        refine qn (fun W hm => (hm.pick [] (by decide))) ?_
        refine qt 18 12 7983 rfl (fun W hm => rv_indexI (sz := 1) (k := x2) Try.underlying33 Try.type3 rfl rfl rfl (by omega) (by omega)) ?_
        refine qt 18 13 16175 rfl (fun W hm => rv_load Try.underlying3 rfl rfl ((hm.cell0 (show (a60.add ((x2.toNat) * 1)).block < w.heap.size from by rw [add_block]; exact hb61.1)).trans (rdS_int he62 (x2.toNat) (by omega)))) ?_
        refine qo 18 4 16191 rfl ?_
        refine wv (fun W hm => rv_load Try.underlying33 rfl rfl (hm.boxCell (n := 0) (o := 1) rfl rfl)) ?_
        refine qn (fun W hm => (hm.pick [] (by decide))) ?_
        refine qt 18 6 16255 rfl (fun W hm => rv_indexI (sz := 1) (k := x1) Try.underlying33 Try.type3 rfl rfl rfl (by omega) (by omega)) ?_
        refine qt 18 7 16383 rfl (fun W hm => rv_load Try.underlying3 rfl rfl ((hm.cell0 (show (a60.add ((x1.toNat) * 1)).block < w.heap.size from by rw [add_block]; exact hb61.1)).trans (rdS_int he62 (x1.toNat) (by omega)))) ?_
        refine qt 18 14 32767 rfl (fun W hm => rv_build (cs := [.int .i64 (gt ((gt x0 k13).Set) k47), .int .i64 (gt ((gt x0 k13).Row.Values) (x1.toNat)), .int .i64 1, .int .i64 (gt ((gt x0 k13).Row.Values) (x2.toNat))]) rfl (by kernel_rfl)) ?_
        refine qo 18 15 65535 rfl ?_
        refine WM_build (cs := [.int .i64 (gt ((gt x0 k13).Set) k47), .int .i64 (gt ((gt x0 k13).Row.Values) (x1.toNat)), .int .i64 1, .int .i64 (gt ((gt x0 k13).Row.Values) (x2.toNat))]) Try.underlying54 Try.type117 rfl (by decide) (by decide) rfl (by kernel_rfl) (Wd_none rfl) (by decide) (fun p75 => ?_)
        refine qn (fun W hm => (hm.pick [] (by decide))) ?_
        refine qo 18 16 131071 rfl ?_
        refine WM_append (E := tyGroup) (e := 117) (v := .slice A49 d48.length c50) (p := p75) (q := 1) (xs := d48) (ys := [(⟨(gt ((gt x0 k13).Set) k47), (gt ((gt x0 k13).Row.Values) (x1.toNat)), 1, (gt ((gt x0 k13).Row.Values) (x2.toNat))⟩ : DGroup)]) (eis := []) (js := [iBox p44 91 [.int .i64 ((gt x0 k13).Row.Id), .slice (some a60) ((gt x0 k13).Row.Values).length c36, .slice (some a57) ((gt x0 k13).Set).length c41]]) (news := [.int .i64 (gt ((gt x0 k13).Set) k47), .int .i64 (gt ((gt x0 k13).Row.Values) (x1.toNat)), .int .i64 1, .int .i64 (gt ((gt x0 k13).Row.Values) (x2.toNat))]) (fun W hm => (hm.pick [0, 2, 1] (by decide))) (fun _ _ hs => by cases (Sep.nil hs); exact (els_cons (tyGroup_join (x := (⟨(gt ((gt x0 k13).Set) k47), (gt ((gt x0 k13).Row.Values) (x1.toNat)), 1, (gt ((gt x0 k13).Row.Values) (x2.toNat))⟩ : DGroup)) (L := []) rfl) els_nil)) Try.underlying54 Try.type117 rfl rfl rfl (Nat.le_of_ble_eq_true rfl) rfl rfl rfl (show (d48.length + 1) * 32 ≤ 140737488355328 from by omega) (show d48.length + 1 ≤ 9223372036854775807 from by omega) (Wd_none rfl) (by decide) (fun v76 => ?_)
        refine WM_form (n := 0) rfl ?_
        rintro A77 c78 rfl m79
        refine qn (fun W hm => (hm.pick [] (by decide))) ?_
        refine qt 18 17 262143 rfl (fun W hm => rv_assign rfl) ?_
        refine QB_done (by kernel_rfl) ?_
        exact QM_cut_normal (A77, c78) (subL_cons rfl (subL_cons rfl (subL_cons rfl (subL_cons rfl (subL_cons rfl (subL_cons rfl (subL_cons rfl (subL_cons rfl (subL_cons rfl (subL_cons rfl subL_nil)))))))))) (fun W hm => hm) trivial
       exact QBs_nil
      ·
       rintro ⟨A65, c66⟩ -
       show QM 110 _ _ _ .normal [(1, .int .i64 x1), (2, .int .i64 x2), (7, .slice A65 (d48 ++ [(⟨(gt ((gt x0 k13).Set) k47), (gt ((gt x0 k13).Row.Values) (x1.toNat)), 1, (gt ((gt x0 k13).Row.Values) (x2.toNat))⟩ : DGroup)]).length c66), (9, .pointer (some (⟨p44, 0, none⟩ : Addr))), (25, .slice (some a23) x0.length c3), (26, .int .i64 ((x0.length : Nat) : Int)), (27, .int .i64 ((k13 : Nat) : Int)), (36, .slice (some a57) ((gt x0 k13).Set).length c41), (37, .int .i64 ((((gt x0 k13).Set).length : Nat) : Int)), (38, .int .i64 ((k47 : Nat) : Int))] [iOwn (tSl tyGroup 117) [.slice A65 (d48 ++ [(⟨(gt ((gt x0 k13).Set) k47), (gt ((gt x0 k13).Row.Values) (x1.toNat)), 1, (gt ((gt x0 k13).Row.Values) (x2.toNat))⟩ : DGroup)]).length c66] (d48 ++ [(⟨(gt ((gt x0 k13).Set) k47), (gt ((gt x0 k13).Row.Values) (x1.toNat)), 1, (gt ((gt x0 k13).Row.Values) (x2.toNat))⟩ : DGroup)]), iBox p44 91 [.int .i64 ((gt x0 k13).Row.Id), .slice (some a60) ((gt x0 k13).Row.Values).length c36, .slice (some a57) ((gt x0 k13).Set).length c41]]
       refine QM_len (n := 0) rfl ?_
       intro m81 m82
       refine QM_block_normal ?_
       refine QM_then ?_
       refine CM_region ?_
       refine wv (fun W hm => rv_addN (p := k47) (q := 1) rfl rfl (by omega)) ?_
       refine wm ?_
       refine WM_nil ?_
       have hn83 := rng_next (R := (List DGroup)) (body := (fun k (s : (List DGroup)) => impl_GroupShared_b2 x0 x1 x2 k13 k s)) (k := k47) (s := d48) (s' := (d48 ++ [(⟨(gt ((gt x0 k13).Set) k47), (gt ((gt x0 k13).Row.Values) (x1.toNat)), 1, (gt ((gt x0 k13).Row.Values) (x2.toNat))⟩ : DGroup)])) (show k47 < ((gt x0 k13).Set).length from by omega) (show impl_GroupShared_b2 x0 x1 x2 k13 k47 d48 = Sum.inr (d48 ++ [(⟨(gt ((gt x0 k13).Set) k47), (gt ((gt x0 k13).Row.Values) (x1.toNat)), 1, (gt ((gt x0 k13).Row.Values) (x2.toNat))⟩ : DGroup)]) from by unfold impl_GroupShared_b2; exact rfl) hF52
       exact QM_round (k47 + 1, (d48 ++ [(⟨(gt ((gt x0 k13).Set) k47), (gt ((gt x0 k13).Row.Values) (x1.toNat)), 1, (gt ((gt x0 k13).Row.Values) (x2.toNat))⟩ : DGroup)]), (A65, c66)) (subL_cons rfl (subL_cons rfl (subL_cons rfl (subL_cons rfl (subL_cons rfl (subL_cons rfl (subL_cons rfl (subL_cons rfl (subL_cons rfl (subL_cons rfl subL_nil)))))))))) (fun W hm => (hm.pick [1, 0] (by decide))) ⟨(by omega), hn83, (show (d48 ++ [(⟨(gt ((gt x0 k13).Set) k47), (gt ((gt x0 k13).Row.Values) (x1.toNat)), 1, (gt ((gt x0 k13).Row.Values) (x2.toNat))⟩ : DGroup)]).length ≤ d14.length + (k47 + 1) from by first | omega | (simp only [List.length_append, List.length_cons, List.length_nil] at *; omega))⟩ (show ((gt x0 k13).Set).length - (k47 + 1) < ((gt x0 k13).Set).length - k47 from by omega)
     ·have g56 : (decide (((k47 : Nat) : Int) < ((((gt x0 k13).Set).length : Nat) : Int))) = false := decide_eq_false (by omega)
      refine CM_condF rfl g56 ?_
      refine CM_exit ?_
      refine QM_then_exit ?_
      refine QM_then_exit ?_
      have hE84 : rng (R := (List DGroup)) (fun k (s : (List DGroup)) => impl_GroupShared_b2 x0 x1 x2 k13 k s) (((gt x0 k13).Set).length - 0) 0 d14 = Sum.inr d48 := rng_end hl55 hF52
      refine QM_block_hit ?_
      refine QM_block_normal ?_
      refine QM_then ?_
      refine CM_region ?_
      refine wv (fun W hm => rv_addN (p := k13) (q := 1) rfl rfl (by omega)) ?_
      refine wm ?_
      refine WM_nil ?_
      have hn85 := rng_next (R := (List DGroup)) (body := (fun k (s : (List DGroup)) => impl_GroupShared_b1 x0 x1 x2 k s)) (k := k13) (s := d14) (s' := d48) (show k13 < x0.length from by omega) (show impl_GroupShared_b1 x0 x1 x2 k13 d14 = Sum.inr d48 from by unfold impl_GroupShared_b1; exact cond_t g46 (fin_inr hE84 (rfl))) hF18
      exact QM_round (k13 + 1, d48, (A49, c50)) (subL_cons rfl (subL_cons rfl (subL_cons rfl (subL_cons rfl (subL_cons rfl (subL_cons rfl subL_nil)))))) (fun W hm => (hm.pick [1] (by decide))) ⟨(by omega), hn85, (show d48.length ≤ ((x0.take (k13 + 1)).map fun (a : DAnnotated) => a.Set.length).sum from by omega)⟩ (show x0.length - (k13 + 1) < x0.length - k13 from by omega)
    ·
     refine CM_condT rfl (nf g46) ?_
     refine CM_exit ?_
     refine QM_then_exit ?_
     refine QM_block_hit ?_
     refine QM_then ?_
     refine CM_region ?_
     refine wv (fun W hm => rv_addN (p := k13) (q := 1) rfl rfl (by omega)) ?_
     refine wm ?_
     refine WM_nil ?_
     have hn86 := rng_next (R := (List DGroup)) (body := (fun k (s : (List DGroup)) => impl_GroupShared_b1 x0 x1 x2 k s)) (k := k13) (s := d14) (s' := d14) (show k13 < x0.length from by omega) (show impl_GroupShared_b1 x0 x1 x2 k13 d14 = Sum.inr d14 from by unfold impl_GroupShared_b1; exact cond_f g46 (rfl)) hF18
     exact QM_round (k13 + 1, d14, (A15, c16)) (subL_cons rfl (subL_cons rfl (subL_cons rfl (subL_cons rfl (subL_cons rfl (subL_cons rfl subL_nil)))))) (fun W hm => (hm.pick [1] (by decide))) ⟨(by omega), hn86, (show d14.length ≤ ((x0.take (k13 + 1)).map fun (a : DAnnotated) => a.Set.length).sum from by omega)⟩ (show x0.length - (k13 + 1) < x0.length - k13 from by omega)
   ·have g22 : (decide (((k13 : Nat) : Int) < ((x0.length : Nat) : Int))) = false := decide_eq_false (by omega)
    refine CM_condF rfl g22 ?_
    refine CM_exit ?_
    refine QM_then_exit ?_
    refine QM_then_exit ?_
    have hE87 : rng (R := (List DGroup)) (fun k (s : (List DGroup)) => impl_GroupShared_b1 x0 x1 x2 k s) (x0.length - 0) 0 [] = Sum.inr d14 := rng_end hl21 hF18
    have hq3 := sum_take_le (w := fun (a : DAnnotated) => a.Set.length) (xs := x0) k13
    refine QM_block_hit ?_
    refine QM_then ?_
    refine sr ?_
    refine wm ?_
    refine WM_sort (E := tyGroup) (e := 117) (xs := d14) (cf := impl_compareGroups_m) (js := []) impl_compareGroups_ord (fun W hm => hm) rfl cb89 (cl_fn cb88 rfl) (fun W cs ds x y hx hy => impl_compareGroups_c W cs x ds y hx hy) (fun K hK is H ps W hm => srt88_sort_c K hK _ _ _ _ is H _ _ _ (by omega) ps W hm) (Wd_none rfl) (by decide) ?_
    refine nt' ?_
    refine sr ?_
    refine WM_build0 (E := tyGroup) Try.underlying54 Try.type117 (Wd_none rfl) (by decide) (fun p88 => ?_)
    refine wa ?_
    refine nt' ?_
    refine CM_seq ?_
    refine sr ?_
    refine wm ?_
    refine wv (fun W hm => rv_len Try.underlying54 rfl) ?_
    refine wm ?_
    refine nt' ?_
    refine CM_block ?_
    refine CM_loop (σ := Nat × ((List DGroup) × (List DGroup)) × (Option Addr × Nat)) (fun s => [(12, .slice s.2.2.1 s.2.1.1.length s.2.2.2), (64, .slice A15 d14.length c16), (65, .int .i64 ((d14.length : Nat) : Int)), (66, .int .i64 ((s.1 : Nat) : Int))]) (fun s => [iOwn (tSl tyGroup 117) [.slice s.2.2.1 s.2.1.1.length s.2.2.2] s.2.1.1, iOwn (tSl tyGroup 117) [.slice A15 d14.length c16] s.2.1.2]) (fun s => s.1 ≤ d14.length ∧ rng (R := (List DGroup)) (fun k (s : (List DGroup) × (List DGroup)) => impl_GroupShared_b3 k s.1 s.2) (d14.length - s.1) s.1 s.2.1 = rng (R := (List DGroup)) (fun k (s : (List DGroup) × (List DGroup)) => impl_GroupShared_b3 k s.1 s.2) (d14.length - 0) 0 ([], (stb (lt0 impl_compareGroups_m) d14)) ∧ s.2.1.1.length ≤ 0 + s.1) (fun s => d14.length - s.1) (0, ([], (stb (lt0 impl_compareGroups_m) d14)), ((some ⟨p88, 0, none⟩), 0)) (subL_cons rfl (subL_cons rfl (subL_cons rfl (subL_cons rfl subL_nil)))) (fun W hm => hm) ⟨(by omega), rfl, Nat.le_refl _⟩ ?_
    rintro ⟨k90, ⟨d91, d94⟩, ⟨A92, c93⟩⟩ H97
    obtain ⟨hk95, hF96, hi98⟩ : k90 ≤ d14.length ∧ rng (R := (List DGroup)) (fun k (s : (List DGroup) × (List DGroup)) => impl_GroupShared_b3 k s.1 s.2) (d14.length - k90) k90 (d91, d94) = rng (R := (List DGroup)) (fun k (s : (List DGroup) × (List DGroup)) => impl_GroupShared_b3 k s.1 s.2) (d14.length - 0) 0 ([], (stb (lt0 impl_compareGroups_m) d14)) ∧ d91.length ≤ 0 + k90 := H97
    show CM Try.prog 110 _ _ _ _ [(12, .slice A92 d91.length c93), (64, .slice A15 d14.length c16), (65, .int .i64 ((d14.length : Nat) : Int)), (66, .int .i64 ((k90 : Nat) : Int))] [iOwn (tSl tyGroup 117) [.slice A92 d91.length c93] d91, iOwn (tSl tyGroup 117) [.slice A15 d14.length c16] d94]
    refine sr ?_
    refine wv (fun W hm => rv_lss rfl rfl) ?_
    refine nt' ?_
    refine CM_seq ?_
    by_cases hl99 : k90 < d14.length
    ·have g100 : (decide (((k90 : Nat) : Int) < ((d14.length : Nat) : Int))) = true := decide_eq_true (by omega)
     refine CM_condT rfl g100 ?_
     refine CM_skip ?_
     refine QM_then ?_
     refine CM_seq ?_
     refine CM_block ?_
     refine sr ?_
     refine WM_formO (n := 1) rfl (by omega) ?_
     rintro g101 rfl
     refine wv (fun W hm => rv_index (sz := 4) (k := k90) Try.underlying54 Try.type117 rfl rfl rfl (by omega)) ?_
     refine WM_focus (E := tyGroup) (e := 117) (A := (some ⟨g101, 0, none⟩)) (n := d14.length) (c := c16) (xs := d94) (k := k90) (js := [iOwn (tSl tyGroup 117) [.slice A92 d91.length c93] d91]) (by omega) (fun W hm => (hm.pick [1, 0] (by decide))) (fun ck102 => ?_)
     refine WM_split (γ := Unit) (js := fun _ => []) (C := fun _ => ck102 = [.int .i64 ((gt d94 k90).Query), .int .i64 ((gt d94 k90).Value), .int .i64 ((gt d94 k90).Count), .int .i64 ((gt d94 k90).Sum)]) (fun _ _ h => tyGroup_split h) ?_
     rintro ⟨⟩ rfl
     refine wv (fun W hm => rv_loadN (cs := [.int .i64 ((gt d94 k90).Query), .int .i64 ((gt d94 k90).Value), .int .i64 ((gt d94 k90).Count), .int .i64 ((gt d94 k90).Sum)]) Try.underlying117 Try.type117 rfl rfl (hm.focCells (i := 0) rfl rfl)) ?_
     refine WM_alloc Try.type117 rfl (Wd_none rfl) (by decide) (fun p103 => ?_)
     refine WM_storeBox (p := p103) (o := 0) (cs' := [.int .i64 ((gt d94 k90).Query), .int .i64 ((gt d94 k90).Value), .int .i64 ((gt d94 k90).Count), .int .i64 ((gt d94 k90).Sum)]) (js := [iFoc tyGroup 117 (some ⟨g101, 0, none⟩) d14.length c16 d94 k90 [.int .i64 ((gt d94 k90).Query), .int .i64 ((gt d94 k90).Value), .int .i64 ((gt d94 k90).Count), .int .i64 ((gt d94 k90).Sum)], iOwn (tSl tyGroup 117) [.slice A92 d91.length c93] d91]) (fun W hm => hm) Try.type117 rfl (Nat.le_of_ble_eq_true rfl) rfl rfl rfl rfl (Wd_none rfl) ?_
     refine nt' ?_
     refine sr ?_
     refine wm ?_
     refine wv (fun W hm => rv_len Try.underlying54 rfl) ?_
     refine wa ?_
     refine nt' ?_
     refine CM_seq ?_
     by_cases h104 : 0 < ((d91.length : Nat) : Int)
     ·have g105 : (decide (0 < ((d91.length : Nat) : Int))) = true := decide_eq_true h104
      refine CM_formO (n := 2) rfl (by omega) ?_
      rintro g106 rfl
      refine CM_focus (E := tyGroup) (e := 117) (A := (some ⟨g106, 0, none⟩)) (n := d91.length) (c := c93) (xs := d91) (k := (d91.length - 1)) (js := [iBox p103 117 [.int .i64 ((gt d94 k90).Query), .int .i64 ((gt d94 k90).Value), .int .i64 ((gt d94 k90).Count), .int .i64 ((gt d94 k90).Sum)], iFoc tyGroup 117 (some ⟨g101, 0, none⟩) d14.length c16 d94 k90 [.int .i64 ((gt d94 k90).Query), .int .i64 ((gt d94 k90).Value), .int .i64 ((gt d94 k90).Count), .int .i64 ((gt d94 k90).Sum)]]) (by omega) (fun W hm => (hm.pick [2, 0, 1] (by decide))) (fun ck107 => ?_)
      refine CM_split (γ := Unit) (js := fun _ => []) (C := fun _ => ck107 = [.int .i64 ((gt d91 (d91.length - 1)).Query), .int .i64 ((gt d91 (d91.length - 1)).Value), .int .i64 ((gt d91 (d91.length - 1)).Count), .int .i64 ((gt d91 (d91.length - 1)).Sum)]) (fun _ _ h => tyGroup_split h) ?_
      rintro ⟨⟩ rfl
      refine CM_regionD (by kernel_rfl) (by kernel_rfl) ?_
      refine qm ?_
      refine qv (fun W hm => rv_gtr rfl rfl) ?_
      refine qm ?_
      refine qg (fun W hm => rv_move rfl) g105 ?_
      refine qg (fun W hm => rv_move rfl) g105 ?_
      refine qg (fun W hm => rv_subN (p := d91.length) (q := 1) rfl rfl (by omega) (by omega)) g105 ?_
      refine qg (fun W hm => rv_index (sz := 4) (k := d91.length - 1) Try.underlying54 Try.type117 rfl rfl rfl (by omega)) g105 ?_
      refine qg (fun W hm => rv_loadN (cs := [.int .i64 ((gt d91 (d91.length - 1)).Query), .int .i64 ((gt d91 (d91.length - 1)).Value), .int .i64 ((gt d91 (d91.length - 1)).Count), .int .i64 ((gt d91 (d91.length - 1)).Sum)]) Try.underlying117 Try.type117 rfl rfl (hm.focCells (i := 0) rfl rfl)) g105 ?_
      refine qg (fun W hm => rv_loadN (cs := [.int .i64 ((gt d94 k90).Query), .int .i64 ((gt d94 k90).Value), .int .i64 ((gt d94 k90).Count), .int .i64 ((gt d94 k90).Sum)]) Try.underlying117 Try.type117 rfl rfl (hm.boxCells (n := 1) rfl)) g105 ?_
      refine QR_callV (cl_fn cb89 rfl) (fun W hm => impl_compareGroups_c W _ (gt d91 (d91.length - 1)) _ (gt d94 k90) (tyGroup_mk (x := (gt d91 (d91.length - 1)))) (tyGroup_mk (x := (gt d94 k90)))) (Wd_some rfl rfl rfl (bw g105 rfl)) (by decide) ?_
      refine qg (fun W hm => rv_eql rfl rfl) g105 ?_
      refine qv (fun W hm => rv_pickT rfl g105 rfl) ?_
      refine nq' ?_
      by_cases h108 : (impl_compareGroups_m (gt d91 (d91.length - 1)) (gt d94 k90)) = 0
      ·have g109 : ((impl_compareGroups_m (gt d91 (d91.length - 1)) (gt d94 k90)) == 0) = true := beq_iff_eq.2 h108
       refine CM_condT rfl g109 ?_
       refine sr ?_
       refine wm ?_
       refine wm ?_
       refine wv (fun W hm => rv_subN (p := d91.length) (q := 1) rfl rfl (by omega) (by omega)) ?_
       refine wv (fun W hm => rv_index (sz := 4) (k := d91.length - 1) Try.underlying54 Try.type117 rfl rfl rfl (by omega)) ?_
       refine wv (fun W hm => rv_field Try.underlying117 rfl Try.type3 (by decide) rfl rfl) ?_
       refine wv (fun W hm => rv_load Try.underlying3 rfl rfl (hm.focCells (i := 0) rfl rfl 2 _ rfl)) ?_
       refine wv (fun W hm => rv_add rfl rfl) ?_
       refine wv (fun W hm => rv_index (sz := 4) (k := d91.length - 1) Try.underlying54 Try.type117 rfl rfl rfl (by omega)) ?_
       refine wv (fun W hm => rv_field Try.underlying117 rfl Try.type3 (by decide) rfl rfl) ?_
       refine WM_storeFoc (E := tyGroup) (e := 117) (g := g106) (n := d91.length) (c := c93) (k := (d91.length - 1)) (s := 4) (o := 2) (xs := d91) (ck := [.int .i64 ((gt d91 (d91.length - 1)).Query), .int .i64 ((gt d91 (d91.length - 1)).Value), .int .i64 ((gt d91 (d91.length - 1)).Count), .int .i64 ((gt d91 (d91.length - 1)).Sum)]) (ck' := [.int .i64 ((gt d91 (d91.length - 1)).Query), .int .i64 ((gt d91 (d91.length - 1)).Value), .int .i64 (IntKind.i64.wrap (((gt d91 (d91.length - 1)).Count) + 1)), .int .i64 ((gt d91 (d91.length - 1)).Sum)]) (js := [iBox p103 117 [.int .i64 ((gt d94 k90).Query), .int .i64 ((gt d94 k90).Value), .int .i64 ((gt d94 k90).Count), .int .i64 ((gt d94 k90).Sum)], iFoc tyGroup 117 (some ⟨g101, 0, none⟩) d14.length c16 d94 k90 [.int .i64 ((gt d94 k90).Query), .int .i64 ((gt d94 k90).Value), .int .i64 ((gt d94 k90).Count), .int .i64 ((gt d94 k90).Sum)]]) (fun W hm => hm) rfl rfl Try.type3 rfl (Nat.le_of_ble_eq_true rfl) rfl rfl rfl rfl (Wd_none rfl) ?_
       refine nt' ?_
       refine rb 12 (s := [iBox p103 117 [.int .i64 ((gt d94 k90).Query), .int .i64 ((gt d94 k90).Value), .int .i64 ((gt d94 k90).Count), .int .i64 ((gt d94 k90).Sum)], iFoc tyGroup 117 (some ⟨g101, 0, none⟩) d14.length c16 d94 k90 [.int .i64 ((gt d94 k90).Query), .int .i64 ((gt d94 k90).Value), .int .i64 ((gt d94 k90).Count), .int .i64 ((gt d94 k90).Sum)]]) (fun W hm => (hm.pick [1, 2] (by decide))) ?_
       refine qt 12 0 1 rfl (fun W hm => rv_move rfl) ?_
       refine qt 12 1 3 rfl (fun W hm => rv_move rfl) ?_
       refine qt 12 2 7 rfl (fun W hm => rv_subN (p := d91.length) (q := 1) rfl rfl (by omega) (by omega)) ?_
       refine qt 12 3 15 rfl (fun W hm => rv_index (sz := 4) (k := d91.length - 1) Try.underlying54 Try.type117 rfl rfl rfl (by omega)) ?_
       refine qt 12 4 31 rfl (fun W hm => rv_field Try.underlying117 rfl Try.type3 (by decide) rfl rfl) ?_
       refine qt 12 6 95 rfl (fun W hm => rv_field Try.underlying117 rfl Try.type3 (by decide) rfl rfl) ?_
       refine qt 12 7 223 rfl (fun W hm => rv_load Try.underlying3 rfl rfl (hm.boxCell (n := 0) (o := 3) rfl rfl)) ?_
       refine qo 12 5 255 rfl ?_
       refine wv (fun W hm => rv_load Try.underlying3 rfl rfl (hm.focCells (i := 0) rfl rfl 3 _ rfl)) ?_
       refine qn (fun W hm => (hm.pick [1, 2] (by decide))) ?_
       refine qt 12 8 511 rfl (fun W hm => rv_add rfl rfl) ?_
       refine qt 12 9 1023 rfl (fun W hm => rv_index (sz := 4) (k := d91.length - 1) Try.underlying54 Try.type117 rfl rfl rfl (by omega)) ?_
       refine qt 12 10 2047 rfl (fun W hm => rv_field Try.underlying117 rfl Try.type3 (by decide) rfl rfl) ?_
       refine qo 12 11 4095 rfl ?_
       refine WM_storeFoc (E := tyGroup) (e := 117) (g := g106) (n := d91.length) (c := c93) (k := (d91.length - 1)) (s := 4) (o := 3) (xs := d91) (ck := [.int .i64 ((gt d91 (d91.length - 1)).Query), .int .i64 ((gt d91 (d91.length - 1)).Value), .int .i64 (IntKind.i64.wrap (((gt d91 (d91.length - 1)).Count) + 1)), .int .i64 ((gt d91 (d91.length - 1)).Sum)]) (ck' := [.int .i64 ((gt d91 (d91.length - 1)).Query), .int .i64 ((gt d91 (d91.length - 1)).Value), .int .i64 (IntKind.i64.wrap (((gt d91 (d91.length - 1)).Count) + 1)), .int .i64 (IntKind.i64.wrap (((gt d91 (d91.length - 1)).Sum) + ((gt d94 k90).Sum)))]) (js := [iBox p103 117 [.int .i64 ((gt d94 k90).Query), .int .i64 ((gt d94 k90).Value), .int .i64 ((gt d94 k90).Count), .int .i64 ((gt d94 k90).Sum)], iFoc tyGroup 117 (some ⟨g101, 0, none⟩) d14.length c16 d94 k90 [.int .i64 ((gt d94 k90).Query), .int .i64 ((gt d94 k90).Value), .int .i64 ((gt d94 k90).Count), .int .i64 ((gt d94 k90).Sum)]]) (fun W hm => hm) rfl rfl Try.type3 rfl (Nat.le_of_ble_eq_true rfl) rfl rfl rfl rfl (Wd_none rfl) ?_
       refine qn (fun W hm => (hm.pick [1, 2] (by decide))) ?_
       refine QB_done (by kernel_rfl) ?_
       refine QM_block_normal ?_
       refine QM_then ?_
       refine CM_region ?_
       refine wv (fun W hm => rv_addN (p := k90) (q := 1) rfl rfl (by omega)) ?_
       refine wm ?_
       refine WM_nil ?_
       refine QM_items (fun W hm => Mem.unfocus (Mem.join (is := []) (js := (iFoc tyGroup 117 (some ⟨g106, 0, none⟩) d91.length c93 d91 (d91.length - 1) [.int .i64 ((gt d91 (d91.length - 1)).Query), .int .i64 ((gt d91 (d91.length - 1)).Value), .int .i64 (IntKind.i64.wrap (((gt d91 (d91.length - 1)).Count) + 1)), .int .i64 (IntKind.i64.wrap (((gt d91 (d91.length - 1)).Sum) + ((gt d94 k90).Sum)))] :: [iBox p103 117 [.int .i64 ((gt d94 k90).Query), .int .i64 ((gt d94 k90).Value), .int .i64 ((gt d94 k90).Count), .int .i64 ((gt d94 k90).Sum)], iFoc tyGroup 117 (some ⟨g101, 0, none⟩) d14.length c16 d94 k90 [.int .i64 ((gt d94 k90).Query), .int .i64 ((gt d94 k90).Value), .int .i64 ((gt d94 k90).Count), .int .i64 ((gt d94 k90).Sum)]])) (fun _ _ hs => tyGroup_join (x := (⟨(gt d91 (d91.length - 1)).Query, (gt d91 (d91.length - 1)).Value, (IntKind.i64.wrap (((gt d91 (d91.length - 1)).Count) + 1)), (IntKind.i64.wrap (((gt d91 (d91.length - 1)).Sum) + ((gt d94 k90).Sum)))⟩ : DGroup)) hs) hm)) ?_
       refine QM_items (fun W hm => Mem.unfocus0 (Mem.join (is := []) (js := (iFoc tyGroup 117 (some ⟨g101, 0, none⟩) d14.length c16 d94 k90 [.int .i64 ((gt d94 k90).Query), .int .i64 ((gt d94 k90).Value), .int .i64 ((gt d94 k90).Count), .int .i64 ((gt d94 k90).Sum)] :: [iOwn (tSl tyGroup 117) [.slice (some ⟨g106, 0, none⟩) d91.length c93] (impl_GroupShared_v1 k90 d91 d94), iBox p103 117 [.int .i64 ((gt d94 k90).Query), .int .i64 ((gt d94 k90).Value), .int .i64 ((gt d94 k90).Count), .int .i64 ((gt d94 k90).Sum)]])) (fun _ _ hs => tyGroup_join (x := (gt d94 k90)) hs) (hm.pick [2, 0, 1] (by decide)))) ?_
       have hl110 : d91.length = (impl_GroupShared_v1 k90 d91 d94).length := by first | rfl | exact List.length_set.symm
       rw [hl110]
       have hn111 := rng_next (R := (List DGroup)) (body := (fun k (s : (List DGroup) × (List DGroup)) => impl_GroupShared_b3 k s.1 s.2)) (k := k90) (s := (d91, d94)) (s' := ((impl_GroupShared_v1 k90 d91 d94), d94)) (show k90 < d14.length from by omega) (show impl_GroupShared_b3 k90 d91 d94 = Sum.inr ((impl_GroupShared_v1 k90 d91 d94), d94) from by unfold impl_GroupShared_b3; exact cond_t g105 (cond_t g109 (rfl))) hF96
       exact QM_round (k90 + 1, ((impl_GroupShared_v1 k90 d91 d94), d94), ((some ⟨g106, 0, none⟩), c93)) (subL_cons rfl (subL_cons rfl (subL_cons rfl (subL_cons rfl subL_nil)))) (fun W hm => (hm.pick [1, 0] (by decide))) ⟨(by omega), hn111, (show (impl_GroupShared_v1 k90 d91 d94).length ≤ 0 + (k90 + 1) from by first | omega | (simp only [List.length_append, List.length_cons, List.length_nil] at *; omega))⟩ (show d14.length - (k90 + 1) < d14.length - k90 from by omega)
      ·have g109 : ((impl_compareGroups_m (gt d91 (d91.length - 1)) (gt d94 k90)) == 0) = false := beq_eq_false_iff_ne.2 h108
       refine CM_condF rfl g109 ?_
       refine CM_region ?_
       refine wm ?_
       refine wv (fun W hm => rv_loadN (cs := [.int .i64 ((gt d94 k90).Query), .int .i64 ((gt d94 k90).Value), .int .i64 ((gt d94 k90).Count), .int .i64 ((gt d94 k90).Sum)]) Try.underlying117 Try.type117 rfl rfl (hm.boxCells (n := 1) rfl)) ?_
       refine WM_build (cs := [.int .i64 ((gt d94 k90).Query), .int .i64 ((gt d94 k90).Value), .int .i64 ((gt d94 k90).Count), .int .i64 ((gt d94 k90).Sum)]) Try.underlying54 Try.type117 rfl (by decide) (by decide) rfl (by kernel_rfl) (Wd_none rfl) (by decide) (fun p112 => ?_)
       refine WM_items (fun W hm => Mem.unfocus0 (Mem.join (is := []) (js := (iFoc tyGroup 117 (some ⟨g106, 0, none⟩) d91.length c93 d91 (d91.length - 1) [.int .i64 ((gt d91 (d91.length - 1)).Query), .int .i64 ((gt d91 (d91.length - 1)).Value), .int .i64 ((gt d91 (d91.length - 1)).Count), .int .i64 ((gt d91 (d91.length - 1)).Sum)] :: [iBox p112 117 [.int .i64 ((gt d94 k90).Query), .int .i64 ((gt d94 k90).Value), .int .i64 ((gt d94 k90).Count), .int .i64 ((gt d94 k90).Sum)], iBox p103 117 [.int .i64 ((gt d94 k90).Query), .int .i64 ((gt d94 k90).Value), .int .i64 ((gt d94 k90).Count), .int .i64 ((gt d94 k90).Sum)], iFoc tyGroup 117 (some ⟨g101, 0, none⟩) d14.length c16 d94 k90 [.int .i64 ((gt d94 k90).Query), .int .i64 ((gt d94 k90).Value), .int .i64 ((gt d94 k90).Count), .int .i64 ((gt d94 k90).Sum)]])) (fun _ _ hs => tyGroup_join (x := (gt d91 (d91.length - 1))) hs) (hm.pick [1, 0, 2, 3] (by decide)))) ?_
       refine WM_append (E := tyGroup) (e := 117) (v := .slice (some ⟨g106, 0, none⟩) d91.length c93) (p := p112) (q := 1) (xs := d91) (ys := [(gt d94 k90)]) (eis := []) (js := [iBox p103 117 [.int .i64 ((gt d94 k90).Query), .int .i64 ((gt d94 k90).Value), .int .i64 ((gt d94 k90).Count), .int .i64 ((gt d94 k90).Sum)], iFoc tyGroup 117 (some ⟨g101, 0, none⟩) d14.length c16 d94 k90 [.int .i64 ((gt d94 k90).Query), .int .i64 ((gt d94 k90).Value), .int .i64 ((gt d94 k90).Count), .int .i64 ((gt d94 k90).Sum)]]) (news := [.int .i64 ((gt d94 k90).Query), .int .i64 ((gt d94 k90).Value), .int .i64 ((gt d94 k90).Count), .int .i64 ((gt d94 k90).Sum)]) (fun W hm => (hm.pick [1, 0, 2, 3] (by decide))) (fun _ _ hs => by cases (Sep.nil hs); exact (els_cons (tyGroup_join (x := (gt d94 k90)) (L := []) rfl) els_nil)) Try.underlying54 Try.type117 rfl rfl rfl (Nat.le_of_ble_eq_true rfl) rfl rfl rfl (show (d91.length + 1) * 32 ≤ 140737488355328 from by omega) (show d91.length + 1 ≤ 9223372036854775807 from by omega) (Wd_none rfl) (by decide) (fun v113 => ?_)
       refine WM_form (n := 0) rfl ?_
       rintro A114 c115 rfl m116
       refine wa ?_
       refine WM_nil ?_
       refine QM_block_normal ?_
       refine QM_then ?_
       refine CM_region ?_
       refine wv (fun W hm => rv_addN (p := k90) (q := 1) rfl rfl (by omega)) ?_
       refine wm ?_
       refine WM_nil ?_
       refine QM_items (fun W hm => Mem.unfocus0 (Mem.join (is := []) (js := (iFoc tyGroup 117 (some ⟨g101, 0, none⟩) d14.length c16 d94 k90 [.int .i64 ((gt d94 k90).Query), .int .i64 ((gt d94 k90).Value), .int .i64 ((gt d94 k90).Count), .int .i64 ((gt d94 k90).Sum)] :: [iOwn (tSl tyGroup 117) [.slice A114 (d91 ++ [(gt d94 k90)]).length c115] (d91 ++ [(gt d94 k90)]), iBox p103 117 [.int .i64 ((gt d94 k90).Query), .int .i64 ((gt d94 k90).Value), .int .i64 ((gt d94 k90).Count), .int .i64 ((gt d94 k90).Sum)]])) (fun _ _ hs => tyGroup_join (x := (gt d94 k90)) hs) (hm.pick [2, 0, 1] (by decide)))) ?_
       have hn118 := rng_next (R := (List DGroup)) (body := (fun k (s : (List DGroup) × (List DGroup)) => impl_GroupShared_b3 k s.1 s.2)) (k := k90) (s := (d91, d94)) (s' := ((d91 ++ [(gt d94 k90)]), d94)) (show k90 < d14.length from by omega) (show impl_GroupShared_b3 k90 d91 d94 = Sum.inr ((d91 ++ [(gt d94 k90)]), d94) from by unfold impl_GroupShared_b3; exact cond_t g105 (cond_f g109 (rfl))) hF96
       exact QM_round (k90 + 1, ((d91 ++ [(gt d94 k90)]), d94), (A114, c115)) (subL_cons rfl (subL_cons rfl (subL_cons rfl (subL_cons rfl subL_nil)))) (fun W hm => (hm.pick [1, 0] (by decide))) ⟨(by omega), hn118, (show (d91 ++ [(gt d94 k90)]).length ≤ 0 + (k90 + 1) from by first | omega | (simp only [List.length_append, List.length_cons, List.length_nil] at *; omega))⟩ (show d14.length - (k90 + 1) < d14.length - k90 from by omega)
     ·have g105 : (decide (0 < ((d91.length : Nat) : Int))) = false := decide_eq_false h104
      refine CM_regionD (by kernel_rfl) (by kernel_rfl) ?_
      refine qm ?_
      refine qv (fun W hm => rv_gtr rfl rfl) ?_
      refine qm ?_
      refine qs g105 ?_
      refine qs g105 ?_
      refine qs g105 ?_
      refine qs g105 ?_
      refine qs g105 ?_
      refine qs g105 ?_
      refine qs g105 ?_
      refine qs g105 ?_
      refine qv (fun W hm => rv_pickF rfl g105 rfl) ?_
      refine nq' ?_
      refine CM_condF rfl rfl ?_
      refine CM_region ?_
      refine wm ?_
      refine wv (fun W hm => rv_loadN (cs := [.int .i64 ((gt d94 k90).Query), .int .i64 ((gt d94 k90).Value), .int .i64 ((gt d94 k90).Count), .int .i64 ((gt d94 k90).Sum)]) Try.underlying117 Try.type117 rfl rfl (hm.boxCells (n := 0) rfl)) ?_
      refine WM_build (cs := [.int .i64 ((gt d94 k90).Query), .int .i64 ((gt d94 k90).Value), .int .i64 ((gt d94 k90).Count), .int .i64 ((gt d94 k90).Sum)]) Try.underlying54 Try.type117 rfl (by decide) (by decide) rfl (by kernel_rfl) (Wd_none rfl) (by decide) (fun p119 => ?_)
      refine WM_append (E := tyGroup) (e := 117) (v := .slice A92 d91.length c93) (p := p119) (q := 1) (xs := d91) (ys := [(gt d94 k90)]) (eis := []) (js := [iBox p103 117 [.int .i64 ((gt d94 k90).Query), .int .i64 ((gt d94 k90).Value), .int .i64 ((gt d94 k90).Count), .int .i64 ((gt d94 k90).Sum)], iFoc tyGroup 117 (some ⟨g101, 0, none⟩) d14.length c16 d94 k90 [.int .i64 ((gt d94 k90).Query), .int .i64 ((gt d94 k90).Value), .int .i64 ((gt d94 k90).Count), .int .i64 ((gt d94 k90).Sum)]]) (news := [.int .i64 ((gt d94 k90).Query), .int .i64 ((gt d94 k90).Value), .int .i64 ((gt d94 k90).Count), .int .i64 ((gt d94 k90).Sum)]) (fun W hm => (hm.pick [0, 3, 1, 2] (by decide))) (fun _ _ hs => by cases (Sep.nil hs); exact (els_cons (tyGroup_join (x := (gt d94 k90)) (L := []) rfl) els_nil)) Try.underlying54 Try.type117 rfl rfl rfl (Nat.le_of_ble_eq_true rfl) rfl rfl rfl (show (d91.length + 1) * 32 ≤ 140737488355328 from by omega) (show d91.length + 1 ≤ 9223372036854775807 from by omega) (Wd_none rfl) (by decide) (fun v120 => ?_)
      refine WM_form (n := 0) rfl ?_
      rintro A121 c122 rfl m123
      refine wa ?_
      refine WM_nil ?_
      refine QM_block_normal ?_
      refine QM_then ?_
      refine CM_region ?_
      refine wv (fun W hm => rv_addN (p := k90) (q := 1) rfl rfl (by omega)) ?_
      refine wm ?_
      refine WM_nil ?_
      refine QM_items (fun W hm => Mem.unfocus0 (Mem.join (is := []) (js := (iFoc tyGroup 117 (some ⟨g101, 0, none⟩) d14.length c16 d94 k90 [.int .i64 ((gt d94 k90).Query), .int .i64 ((gt d94 k90).Value), .int .i64 ((gt d94 k90).Count), .int .i64 ((gt d94 k90).Sum)] :: [iOwn (tSl tyGroup 117) [.slice A121 (d91 ++ [(gt d94 k90)]).length c122] (d91 ++ [(gt d94 k90)]), iBox p103 117 [.int .i64 ((gt d94 k90).Query), .int .i64 ((gt d94 k90).Value), .int .i64 ((gt d94 k90).Count), .int .i64 ((gt d94 k90).Sum)]])) (fun _ _ hs => tyGroup_join (x := (gt d94 k90)) hs) (hm.pick [2, 0, 1] (by decide)))) ?_
      have hn125 := rng_next (R := (List DGroup)) (body := (fun k (s : (List DGroup) × (List DGroup)) => impl_GroupShared_b3 k s.1 s.2)) (k := k90) (s := (d91, d94)) (s' := ((d91 ++ [(gt d94 k90)]), d94)) (show k90 < d14.length from by omega) (show impl_GroupShared_b3 k90 d91 d94 = Sum.inr ((d91 ++ [(gt d94 k90)]), d94) from by unfold impl_GroupShared_b3; exact cond_f g105 (rfl)) hF96
      exact QM_round (k90 + 1, ((d91 ++ [(gt d94 k90)]), d94), (A121, c122)) (subL_cons rfl (subL_cons rfl (subL_cons rfl (subL_cons rfl subL_nil)))) (fun W hm => (hm.pick [1, 0] (by decide))) ⟨(by omega), hn125, (show (d91 ++ [(gt d94 k90)]).length ≤ 0 + (k90 + 1) from by first | omega | (simp only [List.length_append, List.length_cons, List.length_nil] at *; omega))⟩ (show d14.length - (k90 + 1) < d14.length - k90 from by omega)
    ·have g100 : (decide (((k90 : Nat) : Int) < ((d14.length : Nat) : Int))) = false := decide_eq_false (by omega)
     refine CM_condF rfl g100 ?_
     refine CM_exit ?_
     refine QM_then_exit ?_
     refine QM_then_exit ?_
     have hE126 : rng (R := (List DGroup)) (fun k (s : (List DGroup) × (List DGroup)) => impl_GroupShared_b3 k s.1 s.2) (d14.length - 0) 0 ([], (stb (lt0 impl_compareGroups_m) d14)) = Sum.inr (d91, d94) := rng_end hl99 hF96
     refine QM_block_hit ?_
     refine QM_then ?_
     refine sr ?_
     refine wm ?_
     refine wa ?_
     refine nt' ?_
     refine CM_ret ?_
     refine QM_r1 rfl (RR_tmp rfl) (fun W hm => ⟨.slice A92 d91.length c93, ?_, ?_⟩)
     ·first | rw [(show impl_GroupShared_m x0 x1 x2 = d91 from by unfold impl_GroupShared_m; exact cond_t g8 (cond_t g10 (fin_inr hE87 (fin_inr hE126 (rfl)))))] | rfl
     ·rw [(show impl_GroupShared_m x0 x1 x2 = d91 from by unfold impl_GroupShared_m; exact cond_t g8 (cond_t g10 (fin_inr hE87 (fin_inr hE126 (rfl)))))]; exact (hm.pick [0] (by decide))
  ·
   refine CM_condT rfl (nf g10) ?_
   refine sr ?_
   refine wa ?_
   refine nt' ?_
   refine CM_ret ?_
   refine QM_then_ret ?_
   refine QM_items (fun W hm => hm.addNil (E := tyGroup) (e := 117)) ?_
   refine QM_r1 rfl (RR_tmp rfl) (fun W hm => ⟨.slice none 0 0, ?_, ?_⟩)
   ·first | rw [(show impl_GroupShared_m x0 x1 x2 = [] from by unfold impl_GroupShared_m; exact cond_t g8 (cond_f g10 (rfl)))] | rfl
   ·rw [(show impl_GroupShared_m x0 x1 x2 = [] from by unfold impl_GroupShared_m; exact cond_t g8 (cond_f g10 (rfl)))]; exact hm
 ·
  refine ws (nf g8) ?_
  refine ws (nf g8) ?_
  refine ws (nf g8) ?_
  refine wv (fun W hm => rv_pickT rfl (nf g8) rfl) ?_
  refine nt' ?_
  refine CM_condT rfl rfl ?_
  refine sr ?_
  refine wa ?_
  refine nt' ?_
  refine CM_ret ?_
  refine QM_then_ret ?_
  refine QM_items (fun W hm => hm.addNil (E := tyGroup) (e := 117)) ?_
  refine QM_r1 rfl (RR_tmp rfl) (fun W hm => ⟨.slice none 0 0, ?_, ?_⟩)
  ·first | rw [(show impl_GroupShared_m x0 x1 x2 = [] from by unfold impl_GroupShared_m; exact cond_f g8 (rfl))] | rfl
  ·rw [(show impl_GroupShared_m x0 x1 x2 = [] from by unfold impl_GroupShared_m; exact cond_f g8 (rfl))]; exact hm

theorem annotateWith_form (x : List DRow) (i : Int) : impl_annotateWith_m x i = x.map fun r => (⟨r, [i]⟩ : DAnnotated) := by
  unfold impl_annotateWith_m
  rw [rng_fold (xs := x) (f := fun d r => d ++ [(⟨r, [i]⟩ : DAnnotated)]) (b := fun k s => impl_annotateWith_b1 x i k s) (fun j s _ => rfl), foldl_map]
  rfl
theorem annotateWith_sm {x : List DRow} (h : x.length ≤ 68719476736 ∧ ∀ y ∈ x, smRow 68719476736 y) (i : Int) : (impl_annotateWith_m x i).length ≤ 68719476736 ∧ ∀ y ∈ impl_annotateWith_m x i, smAnnotated 68719476736 y := by
  rw [annotateWith_form]
  refine ⟨by rw [List.length_map]; exact h.1, fun y hy => ?_⟩
  obtain ⟨r, hr, rfl⟩ := List.mem_map.1 hy
  exact ⟨h.2 r hr, by show ([i] : List Int).length ≤ _; simp⟩
theorem annotateWith_hq {x : List DRow} (h : x.length ≤ 68719476736 ∧ ∀ y ∈ x, smRow 68719476736 y) (i : Int) : ((impl_annotateWith_m x i).map fun (a : DAnnotated) => a.Set.length).sum ≤ 68719476736 := by
  rw [annotateWith_form, List.map_map]
  have e : ∀ l : List DRow, (l.map ((fun (a : DAnnotated) => a.Set.length) ∘ fun r => (⟨r, [i]⟩ : DAnnotated))).sum = l.length := fun l => by
    induction l with
    | nil => rfl
    | cons a l ih => rw [List.map_cons, List.sum_cons, ih, List.length_cons]; show 1 + l.length = _; omega
  rw [e]; exact h.1
def impl_GroupAlone_m (x0 : Int) (x1 : (List DRow)) (x2 : Int) (x3 : Int) : (List DGroup) :=
 (impl_GroupShared_m (impl_annotateWith_m x1 x0) x2 x3)
set_option maxRecDepth 100000 in
theorem cb36 : Cb Try.prog 36 := ⟨Try.f36, _, Try.func36, rfl, by decide⟩
set_option maxRecDepth 10000 in
set_option maxHeartbeats 4000000 in
theorem impl_GroupAlone_c (w : World) (x0 : Int) (z1 : Value) (x1 : (List DRow)) (x2 : Int) (x3 : Int) (r_1 : rdS tyRow w w.heap.size z1 x1) (s_1 : (x1.length ≤ 68719476736 ∧ ∀ y ∈ x1, smRow 68719476736 y)) :
  Calls Try.prog 36 #[.int .i64 x0, z1, .int .i64 x2, .int .i64 x3] w fun e w' => ∃ v : Value, e = .returned (v) ∧ Mem w.heap.size w [iOwn (tSl tyGroup 117) [v] (impl_GroupAlone_m x0 x1 x2 x3)] w' := by
 have r5 := r_1
 obtain ⟨m1, A2, c3, rfl, q4⟩ := r_1
 have l6 : x1.length ≤ 68719476736 := s_1.1
 refine call_enterM (L := [(0, .int .i64 x0), (1, .slice A2 x1.length c3), (2, .int .i64 x2), (3, .int .i64 x3)]) (N := 15) Try.func36 rfl rfl (Nat.le_of_ble_eq_true rfl) (argsL_cons rfl (argsL_cons rfl (argsL_cons rfl (argsL_cons rfl argsL_nil)))) ?_
 refine sr ?_
 refine wa ?_
 refine nt' ?_
 refine sr ?_
 refine wm ?_
 refine wm ?_
 refine WM_call (χ := Value) (val := fun x => x) (js := fun x => [iOwn (tSl tyAnnotated 91) [x] (impl_annotateWith_m x1 x0)]) (cl_fn cb84 rfl) (fun W hm => impl_annotateWith_c W _ x1 x0 (hm.rdS0 r5) s_1) (Wd_none rfl) (by decide) (fun z7 => ?_)
 refine WM_form (n := 0) rfl ?_
 rintro A8 c9 rfl m10
 have HQ := annotateWith_hq s_1 x0
 refine wm ?_
 refine wm ?_
 refine WM_call (χ := Value) (val := fun x => x) (js := fun x => [iOwn (tSl tyGroup 117) [x] (impl_GroupShared_m (impl_annotateWith_m x1 x0) x2 x3)]) (cl_fn cb41 rfl) (fun W hm => impl_GroupShared_c W _ (impl_annotateWith_m x1 x0) x2 x3 (hm.rdSI (n := 0) rfl) (annotateWith_sm s_1 x0) (HQ)) (Wd_none rfl) (by decide) (fun z12 => ?_)
 refine WM_form (n := 0) rfl ?_
 rintro A13 c14 rfl m15
 refine wa ?_
 refine nt' ?_
 refine CM_ret ?_
 refine QM_r1 rfl (RR_tmp rfl) (fun W hm => ⟨.slice A13 (impl_GroupShared_m (impl_annotateWith_m x1 x0) x2 x3).length c14, ?_, ?_⟩)
 ·first | rw [(show impl_GroupAlone_m x0 x1 x2 x3 = (impl_GroupShared_m (impl_annotateWith_m x1 x0) x2 x3) from by unfold impl_GroupAlone_m; exact rfl)] | rfl
 ·rw [(show impl_GroupAlone_m x0 x1 x2 x3 = (impl_GroupShared_m (impl_annotateWith_m x1 x0) x2 x3) from by unfold impl_GroupAlone_m; exact rfl)]; exact (hm.pick [0] (by decide))

def laws_eqGroup_m (x0 : DGroup) (x1 : DGroup) : Bool :=
 cond (x0.Query != x1.Query) false (cond (x0.Value != x1.Value) false (cond (x0.Count != x1.Count) false (cond (x0.Sum != x1.Sum) false true)))
set_option maxRecDepth 100000 in
theorem cb85 : Cb Try.prog 85 := ⟨Try.f85, _, Try.func85, rfl, by decide⟩
set_option maxRecDepth 10000 in
set_option maxHeartbeats 4000000 in
theorem laws_eqGroup_c (w : World) (z0 : List Value) (x0 : DGroup) (z1 : List Value) (x1 : DGroup) (r_0 : tyGroup.rd w w.heap.size z0 x0) (r_1 : tyGroup.rd w w.heap.size z1 x1) :
  Calls Try.prog 85 #[.agg z0.toArray, .agg z1.toArray] w fun e w' => e = .returned (.bool (laws_eqGroup_m x0 x1)) ∧ Below w.heap.size w w' := by
 obtain rfl := tyGroup_rd r_0
 obtain rfl := tyGroup_rd r_1
 refine call_enterM (L := [(0, .agg #[.int .i64 x0.Query, .int .i64 x0.Value, .int .i64 x0.Count, .int .i64 x0.Sum]), (1, .agg #[.int .i64 x1.Query, .int .i64 x1.Value, .int .i64 x1.Count, .int .i64 x1.Sum])]) (N := 25) Try.func85 rfl rfl (Nat.le_of_ble_eq_true rfl) (argsL_cons rfl (argsL_cons rfl argsL_nil)) ?_
 refine sr ?_
 refine WM_box rfl (Wd_none rfl) (by decide) (fun p1 => ?_)
 refine WM_box rfl (Wd_none rfl) (by decide) (fun p2 => ?_)
 refine wa ?_
 refine nt' ?_
 refine CM_seq ?_
 refine sr ?_
 refine wv (fun W hm => rv_field Try.underlying117 rfl Try.type3 (by decide) rfl rfl) ?_
 refine wv (fun W hm => rv_load Try.underlying3 rfl rfl (hm.boxCell (n := 1) (o := 0) rfl rfl)) ?_
 refine wv (fun W hm => rv_field Try.underlying117 rfl Try.type3 (by decide) rfl rfl) ?_
 refine wv (fun W hm => rv_load Try.underlying3 rfl rfl (hm.boxCell (n := 0) (o := 0) rfl rfl)) ?_
 refine wv (fun W hm => rv_neq rfl rfl) ?_
 refine nt' ?_
 by_cases h3 : x0.Query = x1.Query
 ·have g4 : (x0.Query != x1.Query) = false := by rw [h3]; exact bne_self_eq_false _
  refine CM_condF rfl g4 ?_
  refine CM_skip ?_
  refine QM_then ?_
  refine CM_seq ?_
  refine sr ?_
  refine wv (fun W hm => rv_field Try.underlying117 rfl Try.type3 (by decide) rfl rfl) ?_
  refine wv (fun W hm => rv_load Try.underlying3 rfl rfl (hm.boxCell (n := 1) (o := 1) rfl rfl)) ?_
  refine wv (fun W hm => rv_field Try.underlying117 rfl Try.type3 (by decide) rfl rfl) ?_
  refine wv (fun W hm => rv_load Try.underlying3 rfl rfl (hm.boxCell (n := 0) (o := 1) rfl rfl)) ?_
  refine wv (fun W hm => rv_neq rfl rfl) ?_
  refine nt' ?_
  by_cases h5 : x0.Value = x1.Value
  ·have g6 : (x0.Value != x1.Value) = false := by rw [h5]; exact bne_self_eq_false _
   refine CM_condF rfl g6 ?_
   refine CM_skip ?_
   refine QM_then ?_
   refine CM_seq ?_
   refine sr ?_
   refine wv (fun W hm => rv_field Try.underlying117 rfl Try.type3 (by decide) rfl rfl) ?_
   refine wv (fun W hm => rv_load Try.underlying3 rfl rfl (hm.boxCell (n := 1) (o := 2) rfl rfl)) ?_
   refine wv (fun W hm => rv_field Try.underlying117 rfl Try.type3 (by decide) rfl rfl) ?_
   refine wv (fun W hm => rv_load Try.underlying3 rfl rfl (hm.boxCell (n := 0) (o := 2) rfl rfl)) ?_
   refine wv (fun W hm => rv_neq rfl rfl) ?_
   refine nt' ?_
   by_cases h7 : x0.Count = x1.Count
   ·have g8 : (x0.Count != x1.Count) = false := by rw [h7]; exact bne_self_eq_false _
    refine CM_condF rfl g8 ?_
    refine CM_skip ?_
    refine QM_then ?_
    refine CM_seq ?_
    refine sr ?_
    refine wv (fun W hm => rv_field Try.underlying117 rfl Try.type3 (by decide) rfl rfl) ?_
    refine wv (fun W hm => rv_load Try.underlying3 rfl rfl (hm.boxCell (n := 1) (o := 3) rfl rfl)) ?_
    refine wv (fun W hm => rv_field Try.underlying117 rfl Try.type3 (by decide) rfl rfl) ?_
    refine wv (fun W hm => rv_load Try.underlying3 rfl rfl (hm.boxCell (n := 0) (o := 3) rfl rfl)) ?_
    refine wv (fun W hm => rv_neq rfl rfl) ?_
    refine nt' ?_
    by_cases h9 : x0.Sum = x1.Sum
    ·have g10 : (x0.Sum != x1.Sum) = false := by rw [h9]; exact bne_self_eq_false _
     refine CM_condF rfl g10 ?_
     refine CM_skip ?_
     refine QM_then ?_
     refine sr ?_
     refine wa ?_
     refine nt' ?_
     refine CM_ret ?_
     exact QM_ret1 rfl rfl (fun W hm => ⟨ret_b (show laws_eqGroup_m x0 x1 = true from by unfold laws_eqGroup_m; exact cond_f g4 (cond_f g6 (cond_f g8 (cond_f g10 (rfl))))), hm.below⟩)
    ·have g10 : (x0.Sum != x1.Sum) = true := bne_iff_ne.2 h9
     refine CM_condT rfl g10 ?_
     refine sr ?_
     refine wa ?_
     refine nt' ?_
     refine CM_ret ?_
     refine QM_then_ret ?_
     exact QM_ret1 rfl rfl (fun W hm => ⟨ret_b (show laws_eqGroup_m x0 x1 = false from by unfold laws_eqGroup_m; exact cond_f g4 (cond_f g6 (cond_f g8 (cond_t g10 (rfl))))), hm.below⟩)
   ·have g8 : (x0.Count != x1.Count) = true := bne_iff_ne.2 h7
    refine CM_condT rfl g8 ?_
    refine sr ?_
    refine wa ?_
    refine nt' ?_
    refine CM_ret ?_
    refine QM_then_ret ?_
    exact QM_ret1 rfl rfl (fun W hm => ⟨ret_b (show laws_eqGroup_m x0 x1 = false from by unfold laws_eqGroup_m; exact cond_f g4 (cond_f g6 (cond_t g8 (rfl)))), hm.below⟩)
  ·have g6 : (x0.Value != x1.Value) = true := bne_iff_ne.2 h5
   refine CM_condT rfl g6 ?_
   refine sr ?_
   refine wa ?_
   refine nt' ?_
   refine CM_ret ?_
   refine QM_then_ret ?_
   exact QM_ret1 rfl rfl (fun W hm => ⟨ret_b (show laws_eqGroup_m x0 x1 = false from by unfold laws_eqGroup_m; exact cond_f g4 (cond_t g6 (rfl))), hm.below⟩)
 ·have g4 : (x0.Query != x1.Query) = true := bne_iff_ne.2 h3
  refine CM_condT rfl g4 ?_
  refine sr ?_
  refine wa ?_
  refine nt' ?_
  refine CM_ret ?_
  refine QM_then_ret ?_
  exact QM_ret1 rfl rfl (fun W hm => ⟨ret_b (show laws_eqGroup_m x0 x1 = false from by unfold laws_eqGroup_m; exact cond_t g4 (rfl)), hm.below⟩)

def laws_eqGroupS_b1 (x0 : (List DGroup)) (x1 : (List DGroup)) (k13 : Nat) : Bool ⊕ (Unit) :=
 cond (laws_eqGroup_m (gt x0 k13) (gt x1 k13)) (Sum.inr ()) (Sum.inl false)
def laws_eqGroupS_m (x0 : (List DGroup)) (x1 : (List DGroup)) : Bool :=
 cond (((x0.length : Nat) : Int) != ((x1.length : Nat) : Int)) false (Sum.elim id (fun (s : Unit) => true) (rng (R := Bool) (fun k (_ : Unit) => laws_eqGroupS_b1 x0 x1 k) (x0.length - 0) 0 ()))
set_option maxRecDepth 100000 in
theorem cb37 : Cb Try.prog 37 := ⟨Try.f37, _, Try.func37, rfl, by decide⟩
set_option maxRecDepth 10000 in
set_option maxHeartbeats 4000000 in
theorem laws_eqGroupS_c (w : World) (z0 : Value) (x0 : (List DGroup)) (z1 : Value) (x1 : (List DGroup)) (r_0 : rdS tyGroup w w.heap.size z0 x0) (r_1 : rdS tyGroup w w.heap.size z1 x1) :
  Calls Try.prog 37 #[z0, z1] w fun e w' => e = .returned (.bool (laws_eqGroupS_m x0 x1)) ∧ Below w.heap.size w w' := by
 have r5 := r_0
 obtain ⟨m1, A2, c3, rfl, q4⟩ := r_0
 have r10 := r_1
 obtain ⟨m6, A7, c8, rfl, q9⟩ := r_1
 refine call_enterM (L := [(0, .slice A2 x0.length c3), (1, .slice A7 x1.length c8)]) (N := 27) Try.func37 rfl rfl (Nat.le_of_ble_eq_true rfl) (argsL_cons rfl (argsL_cons rfl argsL_nil)) ?_
 refine sr ?_
 refine wa ?_
 refine nt' ?_
 refine CM_seq ?_
 refine sr ?_
 refine wm ?_
 refine wv (fun W hm => rv_len Try.underlying54 rfl) ?_
 refine wm ?_
 refine wv (fun W hm => rv_len Try.underlying54 rfl) ?_
 refine wv (fun W hm => rv_neq rfl rfl) ?_
 refine nt' ?_
 by_cases h11 : ((x0.length : Nat) : Int) = ((x1.length : Nat) : Int)
 ·have g12 : (((x0.length : Nat) : Int) != ((x1.length : Nat) : Int)) = false := by rw [h11]; exact bne_self_eq_false _
  refine CM_condF rfl g12 ?_
  refine CM_skip ?_
  refine QM_then ?_
  refine CM_seq ?_
  refine sr ?_
  refine wa ?_
  refine nt' ?_
  refine CM_block ?_
  refine CM_loop (σ := Nat × (Unit) × (Unit)) (fun s => [(0, .slice A2 x0.length c3), (1, .slice A7 x1.length c8), (5, .int .i64 ((s.1 : Nat) : Int))]) (fun s => []) (fun s => s.1 ≤ x0.length ∧ rng (R := Bool) (fun k (_ : Unit) => laws_eqGroupS_b1 x0 x1 k) (x0.length - s.1) s.1 s.2.1 = rng (R := Bool) (fun k (_ : Unit) => laws_eqGroupS_b1 x0 x1 k) (x0.length - 0) 0 ()) (fun s => x0.length - s.1) (0, (), ()) (subL_cons rfl (subL_cons rfl (subL_cons rfl subL_nil))) (fun W hm => hm) ⟨(by omega), rfl⟩ ?_
  rintro ⟨k13, ⟨⟩, ⟨⟩⟩ H16
  obtain ⟨hk14, hF15⟩ : k13 ≤ x0.length ∧ rng (R := Bool) (fun k (_ : Unit) => laws_eqGroupS_b1 x0 x1 k) (x0.length - k13) k13 () = rng (R := Bool) (fun k (_ : Unit) => laws_eqGroupS_b1 x0 x1 k) (x0.length - 0) 0 () := H16
  show CM Try.prog 27 _ _ _ _ [(0, .slice A2 x0.length c3), (1, .slice A7 x1.length c8), (5, .int .i64 ((k13 : Nat) : Int))] []
  refine CM_seq ?_
  refine sr ?_
  refine wm ?_
  refine wm ?_
  refine wv (fun W hm => rv_len Try.underlying54 rfl) ?_
  refine wv (fun W hm => rv_lss rfl rfl) ?_
  refine nt' ?_
  by_cases hl17 : k13 < x0.length
  ·have g18 : (decide (((k13 : Nat) : Int) < ((x0.length : Nat) : Int))) = true := decide_eq_true (by omega)
   refine CM_condT rfl g18 ?_
   refine CM_skip ?_
   refine QM_then ?_
   refine CM_seq ?_
   refine CM_block ?_
   refine CM_seq ?_
   refine CM_regionD (by kernel_rfl) (by kernel_rfl) ?_
   refine qm ?_
   refine qm ?_
   obtain ⟨a19, rfl, hb20, he21⟩ := q4 (by omega)
   refine qv (fun W hm => rv_index (sz := 4) (k := k13) Try.underlying54 Try.type117 rfl rfl rfl (by omega)) ?_
   obtain ⟨_, e23, hc22⟩ := he21 k13 _ (gt_some (show k13 < x0.length from by omega))
   obtain rfl := tyGroup_rd e23
   refine qv (fun W hm => rv_loadN (cs := [.int .i64 ((gt x0 k13).Query), .int .i64 ((gt x0 k13).Value), .int .i64 ((gt x0 k13).Count), .int .i64 ((gt x0 k13).Sum)]) Try.underlying117 Try.type117 rfl rfl (hm.elCells (show (a19.add (k13 * 4)).block < w.heap.size from by rw [add_block]; exact hb20.1) hc22)) ?_
   refine qm ?_
   refine qm ?_
   obtain ⟨a24, rfl, hb25, he26⟩ := q9 (by omega)
   refine qv (fun W hm => rv_index (sz := 4) (k := k13) Try.underlying54 Try.type117 rfl rfl rfl (by omega)) ?_
   obtain ⟨_, e28, hc27⟩ := he26 k13 _ (gt_some (show k13 < x1.length from by omega))
   obtain rfl := tyGroup_rd e28
   refine qv (fun W hm => rv_loadN (cs := [.int .i64 ((gt x1 k13).Query), .int .i64 ((gt x1 k13).Value), .int .i64 ((gt x1 k13).Count), .int .i64 ((gt x1 k13).Sum)]) Try.underlying117 Try.type117 rfl rfl (hm.elCells (show (a24.add (k13 * 4)).block < w.heap.size from by rw [add_block]; exact hb25.1) hc27)) ?_
   refine QR_callV (cl_fn cb85 rfl) (fun W hm => laws_eqGroup_c W _ (gt x0 k13) _ (gt x1 k13) (tyGroup_mk (x := (gt x0 k13))) (tyGroup_mk (x := (gt x1 k13)))) (Wd_none rfl) (by decide) ?_
   refine qv (fun W hm => rv_not rfl) ?_
   refine nq' ?_
   rcases Bool.eq_false_or_eq_true (laws_eqGroup_m (gt x0 k13) (gt x1 k13)) with g30 | g30
   ·
    refine CM_condF rfl (nt g30) ?_
    refine CM_skip ?_
    refine QM_block_normal ?_
    refine QM_then ?_
    refine CM_region ?_
    refine wm ?_
    refine wv (fun W hm => rv_addN (p := k13) (q := 1) rfl rfl (by omega)) ?_
    refine wa ?_
    refine WM_nil ?_
    have hn31 := rng_next (R := Bool) (body := (fun k (_ : Unit) => laws_eqGroupS_b1 x0 x1 k)) (k := k13) (s := ()) (s' := ()) (show k13 < x0.length from by omega) (show laws_eqGroupS_b1 x0 x1 k13 = Sum.inr () from by unfold laws_eqGroupS_b1; exact cond_t g30 (rfl)) hF15
    exact QM_round (k13 + 1, (), ()) (subL_cons rfl (subL_cons rfl (subL_cons rfl subL_nil))) (fun W hm => hm) ⟨(by omega), hn31⟩ (show x0.length - (k13 + 1) < x0.length - k13 from by omega)
   ·
    refine CM_condT rfl (nf g30) ?_
    refine sr ?_
    refine wa ?_
    refine nt' ?_
    refine CM_ret ?_
    refine QM_block_ret ?_
    refine QM_then_ret ?_
    refine QM_then_ret ?_
    refine QM_block_ret ?_
    refine QM_then_ret ?_
    exact QM_ret1 rfl rfl (fun W hm => ⟨ret_b (show laws_eqGroupS_m x0 x1 = false from by unfold laws_eqGroupS_m; exact cond_f g12 (fin_inl (rng_ret (body := (fun k (_ : Unit) => laws_eqGroupS_b1 x0 x1 k)) (k := k13) (s := ()) (show k13 < x0.length from by omega) (show laws_eqGroupS_b1 x0 x1 k13 = Sum.inl false from by unfold laws_eqGroupS_b1; exact cond_f g30 (rfl)) hF15) rfl)), hm.below⟩)
  ·have g18 : (decide (((k13 : Nat) : Int) < ((x0.length : Nat) : Int))) = false := decide_eq_false (by omega)
   refine CM_condF rfl g18 ?_
   refine CM_exit ?_
   refine QM_then_exit ?_
   refine QM_then_exit ?_
   have hE32 : rng (R := Bool) (fun k (_ : Unit) => laws_eqGroupS_b1 x0 x1 k) (x0.length - 0) 0 () = Sum.inr () := rng_end hl17 hF15
   refine QM_block_hit ?_
   refine QM_then ?_
   refine sr ?_
   refine wa ?_
   refine nt' ?_
   refine CM_ret ?_
   exact QM_ret1 rfl rfl (fun W hm => ⟨ret_b (show laws_eqGroupS_m x0 x1 = true from by unfold laws_eqGroupS_m; exact cond_f g12 (fin_inr hE32 (rfl))), hm.below⟩)
 ·have g12 : (((x0.length : Nat) : Int) != ((x1.length : Nat) : Int)) = true := bne_iff_ne.2 h11
  refine CM_condT rfl g12 ?_
  refine sr ?_
  refine wa ?_
  refine nt' ?_
  refine CM_ret ?_
  refine QM_then_ret ?_
  exact QM_ret1 rfl rfl (fun W hm => ⟨ret_b (show laws_eqGroupS_m x0 x1 = false from by unfold laws_eqGroupS_m; exact cond_t g12 (rfl)), hm.below⟩)

def laws_eqIntS_b1 (x0 : (List Int)) (x1 : (List Int)) (k13 : Nat) : Bool ⊕ (Unit) :=
 cond ((gt x0 k13) != (gt x1 k13)) (Sum.inl false) (Sum.inr ())
def laws_eqIntS_m (x0 : (List Int)) (x1 : (List Int)) : Bool :=
 cond (((x0.length : Nat) : Int) != ((x1.length : Nat) : Int)) false (Sum.elim id (fun (s : Unit) => true) (rng (R := Bool) (fun k (_ : Unit) => laws_eqIntS_b1 x0 x1 k) (x0.length - 0) 0 ()))
set_option maxRecDepth 100000 in
theorem cb23 : Cb Try.prog 23 := ⟨Try.f23, _, Try.func23, rfl, by decide⟩
set_option maxRecDepth 10000 in
set_option maxHeartbeats 4000000 in
theorem laws_eqIntS_c (w : World) (z0 : Value) (x0 : (List Int)) (z1 : Value) (x1 : (List Int)) (r_0 : rdS tInt w w.heap.size z0 x0) (r_1 : rdS tInt w w.heap.size z1 x1) :
  Calls Try.prog 23 #[z0, z1] w fun e w' => e = .returned (.bool (laws_eqIntS_m x0 x1)) ∧ Below w.heap.size w w' := by
 have r5 := r_0
 obtain ⟨m1, A2, c3, rfl, q4⟩ := r_0
 have r10 := r_1
 obtain ⟨m6, A7, c8, rfl, q9⟩ := r_1
 refine call_enterM (L := [(0, .slice A2 x0.length c3), (1, .slice A7 x1.length c8)]) (N := 26) Try.func23 rfl rfl (Nat.le_of_ble_eq_true rfl) (argsL_cons rfl (argsL_cons rfl argsL_nil)) ?_
 refine sr ?_
 refine wa ?_
 refine nt' ?_
 refine CM_seq ?_
 refine sr ?_
 refine wm ?_
 refine wv (fun W hm => rv_len Try.underlying33 rfl) ?_
 refine wm ?_
 refine wv (fun W hm => rv_len Try.underlying33 rfl) ?_
 refine wv (fun W hm => rv_neq rfl rfl) ?_
 refine nt' ?_
 by_cases h11 : ((x0.length : Nat) : Int) = ((x1.length : Nat) : Int)
 ·have g12 : (((x0.length : Nat) : Int) != ((x1.length : Nat) : Int)) = false := by rw [h11]; exact bne_self_eq_false _
  refine CM_condF rfl g12 ?_
  refine CM_skip ?_
  refine QM_then ?_
  refine CM_seq ?_
  refine sr ?_
  refine wa ?_
  refine nt' ?_
  refine CM_block ?_
  refine CM_loop (σ := Nat × (Unit) × (Unit)) (fun s => [(0, .slice A2 x0.length c3), (1, .slice A7 x1.length c8), (5, .int .i64 ((s.1 : Nat) : Int))]) (fun s => []) (fun s => s.1 ≤ x0.length ∧ rng (R := Bool) (fun k (_ : Unit) => laws_eqIntS_b1 x0 x1 k) (x0.length - s.1) s.1 s.2.1 = rng (R := Bool) (fun k (_ : Unit) => laws_eqIntS_b1 x0 x1 k) (x0.length - 0) 0 ()) (fun s => x0.length - s.1) (0, (), ()) (subL_cons rfl (subL_cons rfl (subL_cons rfl subL_nil))) (fun W hm => hm) ⟨(by omega), rfl⟩ ?_
  rintro ⟨k13, ⟨⟩, ⟨⟩⟩ H16
  obtain ⟨hk14, hF15⟩ : k13 ≤ x0.length ∧ rng (R := Bool) (fun k (_ : Unit) => laws_eqIntS_b1 x0 x1 k) (x0.length - k13) k13 () = rng (R := Bool) (fun k (_ : Unit) => laws_eqIntS_b1 x0 x1 k) (x0.length - 0) 0 () := H16
  show CM Try.prog 26 _ _ _ _ [(0, .slice A2 x0.length c3), (1, .slice A7 x1.length c8), (5, .int .i64 ((k13 : Nat) : Int))] []
  refine CM_seq ?_
  refine sr ?_
  refine wm ?_
  refine wm ?_
  refine wv (fun W hm => rv_len Try.underlying33 rfl) ?_
  refine wv (fun W hm => rv_lss rfl rfl) ?_
  refine nt' ?_
  by_cases hl17 : k13 < x0.length
  ·have g18 : (decide (((k13 : Nat) : Int) < ((x0.length : Nat) : Int))) = true := decide_eq_true (by omega)
   refine CM_condT rfl g18 ?_
   refine CM_skip ?_
   refine QM_then ?_
   refine CM_seq ?_
   refine CM_block ?_
   refine CM_seq ?_
   refine CM_regionD (by kernel_rfl) (by kernel_rfl) ?_
   refine qm ?_
   refine qm ?_
   obtain ⟨a19, rfl, hb20, he21⟩ := q4 (by omega)
   refine qv (fun W hm => rv_index (sz := 1) (k := k13) Try.underlying33 Try.type3 rfl rfl rfl (by omega)) ?_
   refine qv (fun W hm => rv_load Try.underlying3 rfl rfl ((hm.cell0 (show (a19.add (k13 * 1)).block < w.heap.size from by rw [add_block]; exact hb20.1)).trans (rdS_int he21 k13 (by omega)))) ?_
   refine qm ?_
   refine qm ?_
   obtain ⟨a22, rfl, hb23, he24⟩ := q9 (by omega)
   refine qv (fun W hm => rv_index (sz := 1) (k := k13) Try.underlying33 Try.type3 rfl rfl rfl (by omega)) ?_
   refine qv (fun W hm => rv_load Try.underlying3 rfl rfl ((hm.cell0 (show (a22.add (k13 * 1)).block < w.heap.size from by rw [add_block]; exact hb23.1)).trans (rdS_int he24 k13 (by omega)))) ?_
   refine qv (fun W hm => rv_neq rfl rfl) ?_
   refine nq' ?_
   by_cases h25 : (gt x0 k13) = (gt x1 k13)
   ·have g26 : ((gt x0 k13) != (gt x1 k13)) = false := by rw [h25]; exact bne_self_eq_false _
    refine CM_condF rfl g26 ?_
    refine CM_skip ?_
    refine QM_block_normal ?_
    refine QM_then ?_
    refine CM_region ?_
    refine wm ?_
    refine wv (fun W hm => rv_addN (p := k13) (q := 1) rfl rfl (by omega)) ?_
    refine wa ?_
    refine WM_nil ?_
    have hn27 := rng_next (R := Bool) (body := (fun k (_ : Unit) => laws_eqIntS_b1 x0 x1 k)) (k := k13) (s := ()) (s' := ()) (show k13 < x0.length from by omega) (show laws_eqIntS_b1 x0 x1 k13 = Sum.inr () from by unfold laws_eqIntS_b1; exact cond_f g26 (rfl)) hF15
    exact QM_round (k13 + 1, (), ()) (subL_cons rfl (subL_cons rfl (subL_cons rfl subL_nil))) (fun W hm => hm) ⟨(by omega), hn27⟩ (show x0.length - (k13 + 1) < x0.length - k13 from by omega)
   ·have g26 : ((gt x0 k13) != (gt x1 k13)) = true := bne_iff_ne.2 h25
    refine CM_condT rfl g26 ?_
    refine sr ?_
    refine wa ?_
    refine nt' ?_
    refine CM_ret ?_
    refine QM_block_ret ?_
    refine QM_then_ret ?_
    refine QM_then_ret ?_
    refine QM_block_ret ?_
    refine QM_then_ret ?_
    exact QM_ret1 rfl rfl (fun W hm => ⟨ret_b (show laws_eqIntS_m x0 x1 = false from by unfold laws_eqIntS_m; exact cond_f g12 (fin_inl (rng_ret (body := (fun k (_ : Unit) => laws_eqIntS_b1 x0 x1 k)) (k := k13) (s := ()) (show k13 < x0.length from by omega) (show laws_eqIntS_b1 x0 x1 k13 = Sum.inl false from by unfold laws_eqIntS_b1; exact cond_t g26 (rfl)) hF15) rfl)), hm.below⟩)
  ·have g18 : (decide (((k13 : Nat) : Int) < ((x0.length : Nat) : Int))) = false := decide_eq_false (by omega)
   refine CM_condF rfl g18 ?_
   refine CM_exit ?_
   refine QM_then_exit ?_
   refine QM_then_exit ?_
   have hE28 : rng (R := Bool) (fun k (_ : Unit) => laws_eqIntS_b1 x0 x1 k) (x0.length - 0) 0 () = Sum.inr () := rng_end hl17 hF15
   refine QM_block_hit ?_
   refine QM_then ?_
   refine sr ?_
   refine wa ?_
   refine nt' ?_
   refine CM_ret ?_
   exact QM_ret1 rfl rfl (fun W hm => ⟨ret_b (show laws_eqIntS_m x0 x1 = true from by unfold laws_eqIntS_m; exact cond_f g12 (fin_inr hE28 (rfl))), hm.below⟩)
 ·have g12 : (((x0.length : Nat) : Int) != ((x1.length : Nat) : Int)) = true := bne_iff_ne.2 h11
  refine CM_condT rfl g12 ?_
  refine sr ?_
  refine wa ?_
  refine nt' ?_
  refine CM_ret ?_
  refine QM_then_ret ?_
  exact QM_ret1 rfl rfl (fun W hm => ⟨ret_b (show laws_eqIntS_m x0 x1 = false from by unfold laws_eqIntS_m; exact cond_t g12 (rfl)), hm.below⟩)

def laws_eqRow_m (x0 : DRow) (x1 : DRow) : Bool :=
 cond (x0.Id != x1.Id) false (cond (laws_eqIntS_m x0.Values x1.Values) true false)
set_option maxRecDepth 100000 in
theorem cb62 : Cb Try.prog 62 := ⟨Try.f62, _, Try.func62, rfl, by decide⟩
set_option maxRecDepth 10000 in
set_option maxHeartbeats 4000000 in
theorem laws_eqRow_c (w : World) (z0 : List Value) (x0 : DRow) (z1 : List Value) (x1 : DRow) (r_0 : tyRow.rd w w.heap.size z0 x0) (r_1 : tyRow.rd w w.heap.size z1 x1) :
  Calls Try.prog 62 #[.agg z0.toArray, .agg z1.toArray] w fun e w' => e = .returned (.bool (laws_eqRow_m x0 x1)) ∧ Below w.heap.size w w' := by
 obtain ⟨v1, rfl, r2⟩ := tyRow_rd r_0
 have r7 := r2
 obtain ⟨m3, A4, c5, rfl, q6⟩ := r2
 obtain ⟨v8, rfl, r9⟩ := tyRow_rd r_1
 have r14 := r9
 obtain ⟨m10, A11, c12, rfl, q13⟩ := r9
 refine call_enterM (L := [(0, .agg #[.int .i64 x0.Id, .slice A4 x0.Values.length c5]), (1, .agg #[.int .i64 x1.Id, .slice A11 x1.Values.length c12])]) (N := 16) Try.func62 rfl rfl (Nat.le_of_ble_eq_true rfl) (argsL_cons rfl (argsL_cons rfl argsL_nil)) ?_
 refine sr ?_
 refine WM_box rfl (Wd_none rfl) (by decide) (fun p15 => ?_)
 refine WM_box rfl (Wd_none rfl) (by decide) (fun p16 => ?_)
 refine wa ?_
 refine nt' ?_
 refine CM_seq ?_
 refine sr ?_
 refine wv (fun W hm => rv_field Try.underlying69 rfl Try.type3 (by decide) rfl rfl) ?_
 refine wv (fun W hm => rv_load Try.underlying3 rfl rfl (hm.boxCell (n := 1) (o := 0) rfl rfl)) ?_
 refine wv (fun W hm => rv_field Try.underlying69 rfl Try.type3 (by decide) rfl rfl) ?_
 refine wv (fun W hm => rv_load Try.underlying3 rfl rfl (hm.boxCell (n := 0) (o := 0) rfl rfl)) ?_
 refine wv (fun W hm => rv_neq rfl rfl) ?_
 refine nt' ?_
 by_cases h17 : x0.Id = x1.Id
 ·have g18 : (x0.Id != x1.Id) = false := by rw [h17]; exact bne_self_eq_false _
  refine CM_condF rfl g18 ?_
  refine CM_skip ?_
  refine QM_then ?_
  refine CM_seq ?_
  refine sr ?_
  refine wv (fun W hm => rv_field Try.underlying69 rfl Try.type33 (by decide) rfl rfl) ?_
  refine wv (fun W hm => rv_load Try.underlying33 rfl rfl (hm.boxCell (n := 1) (o := 1) rfl rfl)) ?_
  refine wv (fun W hm => rv_field Try.underlying69 rfl Try.type33 (by decide) rfl rfl) ?_
  refine wv (fun W hm => rv_load Try.underlying33 rfl rfl (hm.boxCell (n := 0) (o := 1) rfl rfl)) ?_
  refine WM_callV (cl_fn cb23 rfl) (fun W hm => laws_eqIntS_c W _ x0.Values _ x1.Values (hm.rdS0 r7) (hm.rdS0 r14)) (Wd_none rfl) (by decide) ?_
  refine wv (fun W hm => rv_not rfl) ?_
  refine nt' ?_
  rcases Bool.eq_false_or_eq_true (laws_eqIntS_m x0.Values x1.Values) with g20 | g20
  ·
   refine CM_condF rfl (nt g20) ?_
   refine CM_skip ?_
   refine QM_then ?_
   refine sr ?_
   refine wa ?_
   refine nt' ?_
   refine CM_ret ?_
   exact QM_ret1 rfl rfl (fun W hm => ⟨ret_b (show laws_eqRow_m x0 x1 = true from by unfold laws_eqRow_m; exact cond_f g18 (cond_t g20 (rfl))), hm.below⟩)
  ·
   refine CM_condT rfl (nf g20) ?_
   refine sr ?_
   refine wa ?_
   refine nt' ?_
   refine CM_ret ?_
   refine QM_then_ret ?_
   exact QM_ret1 rfl rfl (fun W hm => ⟨ret_b (show laws_eqRow_m x0 x1 = false from by unfold laws_eqRow_m; exact cond_f g18 (cond_f g20 (rfl))), hm.below⟩)
 ·have g18 : (x0.Id != x1.Id) = true := bne_iff_ne.2 h17
  refine CM_condT rfl g18 ?_
  refine sr ?_
  refine wa ?_
  refine nt' ?_
  refine CM_ret ?_
  refine QM_then_ret ?_
  exact QM_ret1 rfl rfl (fun W hm => ⟨ret_b (show laws_eqRow_m x0 x1 = false from by unfold laws_eqRow_m; exact cond_t g18 (rfl)), hm.below⟩)

def laws_eqRowS_b1 (x0 : (List DRow)) (x1 : (List DRow)) (k13 : Nat) : Bool ⊕ (Unit) :=
 cond (laws_eqRow_m (gt x0 k13) (gt x1 k13)) (Sum.inr ()) (Sum.inl false)
def laws_eqRowS_m (x0 : (List DRow)) (x1 : (List DRow)) : Bool :=
 cond (((x0.length : Nat) : Int) != ((x1.length : Nat) : Int)) false (Sum.elim id (fun (s : Unit) => true) (rng (R := Bool) (fun k (_ : Unit) => laws_eqRowS_b1 x0 x1 k) (x0.length - 0) 0 ()))
set_option maxRecDepth 100000 in
theorem cb15 : Cb Try.prog 15 := ⟨Try.f15, _, Try.func15, rfl, by decide⟩
set_option maxRecDepth 10000 in
set_option maxHeartbeats 4000000 in
theorem laws_eqRowS_c (w : World) (z0 : Value) (x0 : (List DRow)) (z1 : Value) (x1 : (List DRow)) (r_0 : rdS tyRow w w.heap.size z0 x0) (r_1 : rdS tyRow w w.heap.size z1 x1) :
  Calls Try.prog 15 #[z0, z1] w fun e w' => e = .returned (.bool (laws_eqRowS_m x0 x1)) ∧ Below w.heap.size w w' := by
 have r5 := r_0
 obtain ⟨m1, A2, c3, rfl, q4⟩ := r_0
 have r10 := r_1
 obtain ⟨m6, A7, c8, rfl, q9⟩ := r_1
 refine call_enterM (L := [(0, .slice A2 x0.length c3), (1, .slice A7 x1.length c8)]) (N := 27) Try.func15 rfl rfl (Nat.le_of_ble_eq_true rfl) (argsL_cons rfl (argsL_cons rfl argsL_nil)) ?_
 refine sr ?_
 refine wa ?_
 refine nt' ?_
 refine CM_seq ?_
 refine sr ?_
 refine wm ?_
 refine wv (fun W hm => rv_len Try.underlying24 rfl) ?_
 refine wm ?_
 refine wv (fun W hm => rv_len Try.underlying24 rfl) ?_
 refine wv (fun W hm => rv_neq rfl rfl) ?_
 refine nt' ?_
 by_cases h11 : ((x0.length : Nat) : Int) = ((x1.length : Nat) : Int)
 ·have g12 : (((x0.length : Nat) : Int) != ((x1.length : Nat) : Int)) = false := by rw [h11]; exact bne_self_eq_false _
  refine CM_condF rfl g12 ?_
  refine CM_skip ?_
  refine QM_then ?_
  refine CM_seq ?_
  refine sr ?_
  refine wa ?_
  refine nt' ?_
  refine CM_block ?_
  refine CM_loop (σ := Nat × (Unit) × (Unit)) (fun s => [(0, .slice A2 x0.length c3), (1, .slice A7 x1.length c8), (5, .int .i64 ((s.1 : Nat) : Int))]) (fun s => []) (fun s => s.1 ≤ x0.length ∧ rng (R := Bool) (fun k (_ : Unit) => laws_eqRowS_b1 x0 x1 k) (x0.length - s.1) s.1 s.2.1 = rng (R := Bool) (fun k (_ : Unit) => laws_eqRowS_b1 x0 x1 k) (x0.length - 0) 0 ()) (fun s => x0.length - s.1) (0, (), ()) (subL_cons rfl (subL_cons rfl (subL_cons rfl subL_nil))) (fun W hm => hm) ⟨(by omega), rfl⟩ ?_
  rintro ⟨k13, ⟨⟩, ⟨⟩⟩ H16
  obtain ⟨hk14, hF15⟩ : k13 ≤ x0.length ∧ rng (R := Bool) (fun k (_ : Unit) => laws_eqRowS_b1 x0 x1 k) (x0.length - k13) k13 () = rng (R := Bool) (fun k (_ : Unit) => laws_eqRowS_b1 x0 x1 k) (x0.length - 0) 0 () := H16
  show CM Try.prog 27 _ _ _ _ [(0, .slice A2 x0.length c3), (1, .slice A7 x1.length c8), (5, .int .i64 ((k13 : Nat) : Int))] []
  refine CM_seq ?_
  refine sr ?_
  refine wm ?_
  refine wm ?_
  refine wv (fun W hm => rv_len Try.underlying24 rfl) ?_
  refine wv (fun W hm => rv_lss rfl rfl) ?_
  refine nt' ?_
  by_cases hl17 : k13 < x0.length
  ·have g18 : (decide (((k13 : Nat) : Int) < ((x0.length : Nat) : Int))) = true := decide_eq_true (by omega)
   refine CM_condT rfl g18 ?_
   refine CM_skip ?_
   refine QM_then ?_
   refine CM_seq ?_
   refine CM_block ?_
   refine CM_seq ?_
   refine CM_regionD (by kernel_rfl) (by kernel_rfl) ?_
   refine qm ?_
   refine qm ?_
   obtain ⟨a19, rfl, hb20, he21⟩ := q4 (by omega)
   refine qv (fun W hm => rv_index (sz := 2) (k := k13) Try.underlying24 Try.type69 rfl rfl rfl (by omega)) ?_
   obtain ⟨_, e25, hc22⟩ := he21 k13 _ (gt_some (show k13 < x0.length from by omega))
   obtain ⟨v23, rfl, r24⟩ := tyRow_rd e25
   have r30 := r24
   obtain ⟨m26, A27, c28, rfl, q29⟩ := r24
   refine qv (fun W hm => rv_loadN (cs := [.int .i64 ((gt x0 k13).Id), .slice A27 ((gt x0 k13).Values).length c28]) Try.underlying69 Try.type69 rfl rfl (hm.elCells (show (a19.add (k13 * 2)).block < w.heap.size from by rw [add_block]; exact hb20.1) hc22)) ?_
   refine qm ?_
   refine qm ?_
   obtain ⟨a31, rfl, hb32, he33⟩ := q9 (by omega)
   refine qv (fun W hm => rv_index (sz := 2) (k := k13) Try.underlying24 Try.type69 rfl rfl rfl (by omega)) ?_
   obtain ⟨_, e37, hc34⟩ := he33 k13 _ (gt_some (show k13 < x1.length from by omega))
   obtain ⟨v35, rfl, r36⟩ := tyRow_rd e37
   have r42 := r36
   obtain ⟨m38, A39, c40, rfl, q41⟩ := r36
   refine qv (fun W hm => rv_loadN (cs := [.int .i64 ((gt x1 k13).Id), .slice A39 ((gt x1 k13).Values).length c40]) Try.underlying69 Try.type69 rfl rfl (hm.elCells (show (a31.add (k13 * 2)).block < w.heap.size from by rw [add_block]; exact hb32.1) hc34)) ?_
   refine QR_callV (cl_fn cb62 rfl) (fun W hm => laws_eqRow_c W _ (gt x0 k13) _ (gt x1 k13) (tyRow_mk (x := (gt x0 k13)) (hm.rdS0 r30)) (tyRow_mk (x := (gt x1 k13)) (hm.rdS0 r42))) (Wd_none rfl) (by decide) ?_
   refine qv (fun W hm => rv_not rfl) ?_
   refine nq' ?_
   rcases Bool.eq_false_or_eq_true (laws_eqRow_m (gt x0 k13) (gt x1 k13)) with g44 | g44
   ·
    refine CM_condF rfl (nt g44) ?_
    refine CM_skip ?_
    refine QM_block_normal ?_
    refine QM_then ?_
    refine CM_region ?_
    refine wm ?_
    refine wv (fun W hm => rv_addN (p := k13) (q := 1) rfl rfl (by omega)) ?_
    refine wa ?_
    refine WM_nil ?_
    have hn45 := rng_next (R := Bool) (body := (fun k (_ : Unit) => laws_eqRowS_b1 x0 x1 k)) (k := k13) (s := ()) (s' := ()) (show k13 < x0.length from by omega) (show laws_eqRowS_b1 x0 x1 k13 = Sum.inr () from by unfold laws_eqRowS_b1; exact cond_t g44 (rfl)) hF15
    exact QM_round (k13 + 1, (), ()) (subL_cons rfl (subL_cons rfl (subL_cons rfl subL_nil))) (fun W hm => hm) ⟨(by omega), hn45⟩ (show x0.length - (k13 + 1) < x0.length - k13 from by omega)
   ·
    refine CM_condT rfl (nf g44) ?_
    refine sr ?_
    refine wa ?_
    refine nt' ?_
    refine CM_ret ?_
    refine QM_block_ret ?_
    refine QM_then_ret ?_
    refine QM_then_ret ?_
    refine QM_block_ret ?_
    refine QM_then_ret ?_
    exact QM_ret1 rfl rfl (fun W hm => ⟨ret_b (show laws_eqRowS_m x0 x1 = false from by unfold laws_eqRowS_m; exact cond_f g12 (fin_inl (rng_ret (body := (fun k (_ : Unit) => laws_eqRowS_b1 x0 x1 k)) (k := k13) (s := ()) (show k13 < x0.length from by omega) (show laws_eqRowS_b1 x0 x1 k13 = Sum.inl false from by unfold laws_eqRowS_b1; exact cond_f g44 (rfl)) hF15) rfl)), hm.below⟩)
  ·have g18 : (decide (((k13 : Nat) : Int) < ((x0.length : Nat) : Int))) = false := decide_eq_false (by omega)
   refine CM_condF rfl g18 ?_
   refine CM_exit ?_
   refine QM_then_exit ?_
   refine QM_then_exit ?_
   have hE46 : rng (R := Bool) (fun k (_ : Unit) => laws_eqRowS_b1 x0 x1 k) (x0.length - 0) 0 () = Sum.inr () := rng_end hl17 hF15
   refine QM_block_hit ?_
   refine QM_then ?_
   refine sr ?_
   refine wa ?_
   refine nt' ?_
   refine CM_ret ?_
   exact QM_ret1 rfl rfl (fun W hm => ⟨ret_b (show laws_eqRowS_m x0 x1 = true from by unfold laws_eqRowS_m; exact cond_f g12 (fin_inr hE46 (rfl))), hm.below⟩)
 ·have g12 : (((x0.length : Nat) : Int) != ((x1.length : Nat) : Int)) = true := bne_iff_ne.2 h11
  refine CM_condT rfl g12 ?_
  refine sr ?_
  refine wa ?_
  refine nt' ?_
  refine CM_ret ?_
  refine QM_then_ret ?_
  exact QM_ret1 rfl rfl (fun W hm => ⟨ret_b (show laws_eqRowS_m x0 x1 = false from by unfold laws_eqRowS_m; exact cond_t g12 (rfl)), hm.below⟩)

def laws_markIntS_b1 (k5 : Nat) (s6 : Int) (d7 : (List Int)) : (Int × (List Int)) ⊕ (Int × (List Int)) :=
 Sum.inr ((IntKind.i64.wrap (s6 + 1)), (d7.set k5 s6))
def laws_markIntS_m (x0 : (List Int)) (x1 : Int) : (Int × (List Int)) :=
 Sum.elim id (fun (s : Int × (List Int)) => (s.1, s.2)) (rng (R := (Int × (List Int))) (fun k (s : Int × (List Int)) => laws_markIntS_b1 k s.1 s.2) (x0.length - 0) 0 (x1, x0))
set_option maxRecDepth 100000 in
theorem cb24 : Cb Try.prog 24 := ⟨Try.f24, _, Try.func24, rfl, by decide⟩
set_option maxRecDepth 10000 in
set_option maxHeartbeats 4000000 in
theorem laws_markIntS_c (B : Nat) (w0 : World) (is : List It) (w : World) (z0 : Value) (x0 : (List Int)) (x1 : Int) (hm : Mem B w0 (iOwn (tSl tInt 3) [z0] x0 :: is) w) :
  Calls Try.prog 24 #[z0, .int .i64 x1] w fun e w' => e = .returned (.int .i64 (laws_markIntS_m x0 x1).1) ∧ Mem B w0 (iOwn (tSl tInt 3) [z0] (laws_markIntS_m x0 x1).2 :: is) w' := by
 refine call_enterW (L := [(0, z0), (1, .int .i64 x1)]) (N := 19) Try.func24 rfl rfl (Nat.le_of_ble_eq_true rfl) (argsL_cons rfl (argsL_cons rfl argsL_nil)) hm ?_
 refine CM_form (n := 0) rfl ?_
 rintro A1 c2 rfl m3
 refine sr ?_
 refine wa ?_
 refine nt' ?_
 refine CM_seq ?_
 refine sr ?_
 refine wa ?_
 refine nt' ?_
 refine CM_block ?_
 refine CM_loop (σ := Nat × (Int × (List Int)) × (Unit)) (fun s => [(0, .slice A1 x0.length c2), (1, .int .i64 s.2.1.1), (5, .int .i64 ((s.1 : Nat) : Int))]) (fun s => (iOwn (tSl tInt 3) [.slice A1 x0.length c2] s.2.1.2 :: is)) (fun s => s.1 ≤ x0.length ∧ rng (R := (Int × (List Int))) (fun k (s : Int × (List Int)) => laws_markIntS_b1 k s.1 s.2) (x0.length - s.1) s.1 s.2.1 = rng (R := (Int × (List Int))) (fun k (s : Int × (List Int)) => laws_markIntS_b1 k s.1 s.2) (x0.length - 0) 0 (x1, x0)) (fun s => x0.length - s.1) (0, (x1, x0), ()) (subL_cons rfl (subL_cons rfl (subL_cons rfl subL_nil))) (fun W hm => hm) ⟨(by omega), rfl⟩ ?_
 rintro ⟨k5, ⟨s6, d7⟩, ⟨⟩⟩ H10
 obtain ⟨hk8, hF9⟩ : k5 ≤ x0.length ∧ rng (R := (Int × (List Int))) (fun k (s : Int × (List Int)) => laws_markIntS_b1 k s.1 s.2) (x0.length - k5) k5 (s6, d7) = rng (R := (Int × (List Int))) (fun k (s : Int × (List Int)) => laws_markIntS_b1 k s.1 s.2) (x0.length - 0) 0 (x1, x0) := H10
 show CM Try.prog 19 _ _ _ _ [(0, .slice A1 x0.length c2), (1, .int .i64 s6), (5, .int .i64 ((k5 : Nat) : Int))] (iOwn (tSl tInt 3) [.slice A1 x0.length c2] d7 :: is)
 refine CM_seq ?_
 refine sr ?_
 refine wm ?_
 refine wm ?_
 refine wv (fun W hm => rv_len Try.underlying33 rfl) ?_
 refine wv (fun W hm => rv_lss rfl rfl) ?_
 refine nt' ?_
 by_cases hl11 : k5 < x0.length
 ·have g12 : (decide (((k5 : Nat) : Int) < ((x0.length : Nat) : Int))) = true := decide_eq_true (by omega)
  refine CM_condT rfl g12 ?_
  refine CM_skip ?_
  refine QM_then ?_
  refine CM_seq ?_
  refine CM_block ?_
  refine sr ?_
  refine wm ?_
  refine wm ?_
  refine wm ?_
  refine WM_formO (n := 0) rfl (by omega) ?_
  rintro g13 rfl
  refine wv (fun W hm => rv_index (sz := 1) (k := k5) Try.underlying33 Try.type3 rfl rfl rfl (by omega)) ?_
  refine WM_setEl (E := tInt) (e := 3) (u := .int .i64 s6) (k := k5) (p := g13) (n := x0.length) (xs := d7) (eis := []) (js := (is)) (yv := s6) (fun W hm => (hm.front (n := 0) rfl)) (fun _ _ hs => (Sep.nil hs ▸ tInt_own)) rfl Try.type3 rfl (by omega) rfl rfl (Wd_none rfl) ?_
  refine nt' ?_
  refine CM_region ?_
  refine wm ?_
  refine wv (fun W hm => rv_add rfl rfl) ?_
  refine wa ?_
  refine WM_nil ?_
  refine QM_block_normal ?_
  refine QM_then ?_
  refine CM_region ?_
  refine wm ?_
  refine wv (fun W hm => rv_addN (p := k5) (q := 1) rfl rfl (by omega)) ?_
  refine wa ?_
  refine WM_nil ?_
  have hn14 := rng_next (R := (Int × (List Int))) (body := (fun k (s : Int × (List Int)) => laws_markIntS_b1 k s.1 s.2)) (k := k5) (s := (s6, d7)) (s' := ((IntKind.i64.wrap (s6 + 1)), (d7.set k5 s6))) (show k5 < x0.length from by omega) (show laws_markIntS_b1 k5 s6 d7 = Sum.inr ((IntKind.i64.wrap (s6 + 1)), (d7.set k5 s6)) from by unfold laws_markIntS_b1; exact rfl) hF9
  exact QM_round (k5 + 1, ((IntKind.i64.wrap (s6 + 1)), (d7.set k5 s6)), ()) (subL_cons rfl (subL_cons rfl (subL_cons rfl subL_nil))) (fun W hm => hm) ⟨(by omega), hn14⟩ (show x0.length - (k5 + 1) < x0.length - k5 from by omega)
 ·have g12 : (decide (((k5 : Nat) : Int) < ((x0.length : Nat) : Int))) = false := decide_eq_false (by omega)
  refine CM_condF rfl g12 ?_
  refine CM_exit ?_
  refine QM_then_exit ?_
  refine QM_then_exit ?_
  have hE15 : rng (R := (Int × (List Int))) (fun k (s : Int × (List Int)) => laws_markIntS_b1 k s.1 s.2) (x0.length - 0) 0 (x1, x0) = Sum.inr (s6, d7) := rng_end hl11 hF9
  refine QM_block_hit ?_
  refine QM_then ?_
  refine sr ?_
  refine wm ?_
  refine wa ?_
  refine nt' ?_
  refine CM_ret ?_
  refine QM_rW rfl rfl (fun W hm => ⟨?_, ?_⟩)
  ·rw [(show laws_markIntS_m x0 x1 = (s6, d7) from by unfold laws_markIntS_m; exact fin_inr hE15 (rfl))]
  ·rw [(show laws_markIntS_m x0 x1 = (s6, d7) from by unfold laws_markIntS_m; exact fin_inr hE15 (rfl))]; exact hm

def laws_markRowS_b1 (k5 : Nat) (s6 : Int) (d7 : (List DRow)) : (Int × (List DRow)) ⊕ (Int × (List DRow)) :=
 Sum.inr ((laws_markIntS_m ((gt d7 k5).Values) (IntKind.i64.wrap (s6 + 1))).1, (d7.set k5 (⟨s6, (laws_markIntS_m ((gt d7 k5).Values) (IntKind.i64.wrap (s6 + 1))).2⟩ : DRow)))
def laws_markRowS_m (x0 : (List DRow)) (x1 : Int) : (Int × (List DRow)) :=
 Sum.elim id (fun (s : Int × (List DRow)) => (s.1, s.2)) (rng (R := (Int × (List DRow))) (fun k (s : Int × (List DRow)) => laws_markRowS_b1 k s.1 s.2) (x0.length - 0) 0 (x1, x0))
set_option maxRecDepth 100000 in
theorem cb18 : Cb Try.prog 18 := ⟨Try.f18, _, Try.func18, rfl, by decide⟩
set_option maxRecDepth 10000 in
set_option maxHeartbeats 4000000 in
theorem laws_markRowS_c (B : Nat) (w0 : World) (is : List It) (w : World) (z0 : Value) (x0 : (List DRow)) (x1 : Int) (hm : Mem B w0 (iOwn (tSl tyRow 69) [z0] x0 :: is) w) :
  Calls Try.prog 18 #[z0, .int .i64 x1] w fun e w' => e = .returned (.int .i64 (laws_markRowS_m x0 x1).1) ∧ Mem B w0 (iOwn (tSl tyRow 69) [z0] (laws_markRowS_m x0 x1).2 :: is) w' := by
 refine call_enterW (L := [(0, z0), (1, .int .i64 x1)]) (N := 27) Try.func18 rfl rfl (Nat.le_of_ble_eq_true rfl) (argsL_cons rfl (argsL_cons rfl argsL_nil)) hm ?_
 refine CM_form (n := 0) rfl ?_
 rintro A1 c2 rfl m3
 refine sr ?_
 refine wa ?_
 refine nt' ?_
 refine CM_seq ?_
 refine sr ?_
 refine wa ?_
 refine nt' ?_
 refine CM_block ?_
 refine CM_loop (σ := Nat × (Int × (List DRow)) × (Unit)) (fun s => [(0, .slice A1 x0.length c2), (1, .int .i64 s.2.1.1), (5, .int .i64 ((s.1 : Nat) : Int))]) (fun s => (iOwn (tSl tyRow 69) [.slice A1 x0.length c2] s.2.1.2 :: is)) (fun s => s.1 ≤ x0.length ∧ rng (R := (Int × (List DRow))) (fun k (s : Int × (List DRow)) => laws_markRowS_b1 k s.1 s.2) (x0.length - s.1) s.1 s.2.1 = rng (R := (Int × (List DRow))) (fun k (s : Int × (List DRow)) => laws_markRowS_b1 k s.1 s.2) (x0.length - 0) 0 (x1, x0)) (fun s => x0.length - s.1) (0, (x1, x0), ()) (subL_cons rfl (subL_cons rfl (subL_cons rfl subL_nil))) (fun W hm => hm) ⟨(by omega), rfl⟩ ?_
 rintro ⟨k5, ⟨s6, d7⟩, ⟨⟩⟩ H10
 obtain ⟨hk8, hF9⟩ : k5 ≤ x0.length ∧ rng (R := (Int × (List DRow))) (fun k (s : Int × (List DRow)) => laws_markRowS_b1 k s.1 s.2) (x0.length - k5) k5 (s6, d7) = rng (R := (Int × (List DRow))) (fun k (s : Int × (List DRow)) => laws_markRowS_b1 k s.1 s.2) (x0.length - 0) 0 (x1, x0) := H10
 show CM Try.prog 27 _ _ _ _ [(0, .slice A1 x0.length c2), (1, .int .i64 s6), (5, .int .i64 ((k5 : Nat) : Int))] (iOwn (tSl tyRow 69) [.slice A1 x0.length c2] d7 :: is)
 refine CM_seq ?_
 refine sr ?_
 refine wm ?_
 refine wm ?_
 refine wv (fun W hm => rv_len Try.underlying24 rfl) ?_
 refine wv (fun W hm => rv_lss rfl rfl) ?_
 refine nt' ?_
 by_cases hl11 : k5 < x0.length
 ·have g12 : (decide (((k5 : Nat) : Int) < ((x0.length : Nat) : Int))) = true := decide_eq_true (by omega)
  refine CM_condT rfl g12 ?_
  refine CM_skip ?_
  refine QM_then ?_
  refine CM_seq ?_
  refine CM_block ?_
  refine sr ?_
  refine wm ?_
  refine wm ?_
  refine wm ?_
  refine WM_formO (n := 0) rfl (by omega) ?_
  rintro g13 rfl
  refine wv (fun W hm => rv_index (sz := 2) (k := k5) Try.underlying24 Try.type69 rfl rfl rfl (by omega)) ?_
  refine wv (fun W hm => rv_field Try.underlying69 rfl Try.type3 (by decide) rfl rfl) ?_
  refine WM_focus (E := tyRow) (e := 69) (A := (some ⟨g13, 0, none⟩)) (n := x0.length) (c := c2) (xs := d7) (k := k5) (js := (is)) (by omega) (fun W hm => (hm.front (n := 0) rfl)) (fun ck14 => ?_)
  refine WM_split (γ := Value) (js := fun g => [iOwn (tSl tInt 3) [g] ((gt d7 k5).Values)]) (C := fun g => ck14 = [.int .i64 ((gt d7 k5).Id), g]) (fun _ _ h => tyRow_split h) ?_
  rintro v15 rfl
  refine WM_form (n := 0) rfl ?_
  rintro A16 c17 rfl m18
  refine WM_storeFoc (E := tyRow) (e := 69) (g := g13) (n := x0.length) (c := c2) (k := k5) (s := 2) (o := 0) (xs := d7) (ck := [.int .i64 ((gt d7 k5).Id), .slice A16 ((gt d7 k5).Values).length c17]) (ck' := [.int .i64 s6, .slice A16 ((gt d7 k5).Values).length c17]) (js := (iOwn (tSl tInt 3) [.slice A16 ((gt d7 k5).Values).length c17] ((gt d7 k5).Values) :: is)) (fun W hm => (hm.front (n := 1) rfl)) rfl rfl Try.type3 rfl (Nat.le_of_ble_eq_true rfl) rfl rfl rfl rfl (Wd_none rfl) ?_
  refine nt' ?_
  refine sr ?_
  refine wm ?_
  refine wv (fun W hm => rv_add rfl rfl) ?_
  refine wa ?_
  refine nt' ?_
  refine CM_region ?_
  refine wm ?_
  refine wm ?_
  refine wv (fun W hm => rv_index (sz := 2) (k := k5) Try.underlying24 Try.type69 rfl rfl rfl (by omega)) ?_
  refine wv (fun W hm => rv_field Try.underlying69 rfl Try.type33 (by decide) rfl rfl) ?_
  refine wv (fun W hm => rv_load Try.underlying33 rfl rfl (hm.focCells (i := 0) rfl rfl 1 _ rfl)) ?_
  refine wm ?_
  refine WM_callW (χ := Unit) (val := fun _ => .int .i64 (laws_markIntS_m ((gt d7 k5).Values) (IntKind.i64.wrap (s6 + 1))).1) (js := fun _ => (iOwn (tSl tInt 3) [.slice A16 ((gt d7 k5).Values).length c17] (laws_markIntS_m ((gt d7 k5).Values) (IntKind.i64.wrap (s6 + 1))).2 :: (iFoc tyRow 69 (some ⟨g13, 0, none⟩) x0.length c2 d7 k5 [.int .i64 s6, .slice A16 ((gt d7 k5).Values).length c17] :: is))) (cl_fn cb24 rfl) (fun W hm => (laws_markIntS_c B w0 (iFoc tyRow 69 (some ⟨g13, 0, none⟩) x0.length c2 d7 k5 [.int .i64 s6, .slice A16 ((gt d7 k5).Values).length c17] :: is) W (.slice A16 ((gt d7 k5).Values).length c17) ((gt d7 k5).Values) (IntKind.i64.wrap (s6 + 1)) (hm.front (n := 1) rfl)).mono (fun _ _ h => ⟨(), h.1, h.2⟩)) (Wd_none rfl) (by decide) (fun _ => ?_)
  refine wa ?_
  refine WM_nil ?_
  refine QM_block_normal ?_
  refine QM_then ?_
  refine CM_region ?_
  refine wm ?_
  refine wv (fun W hm => rv_addN (p := k5) (q := 1) rfl rfl (by omega)) ?_
  refine wa ?_
  refine WM_nil ?_
  refine QM_items (fun W hm => Mem.unfocus (Mem.join (is := [iOwn (tSl tInt 3) [.slice A16 ((gt d7 k5).Values).length c17] ((laws_markIntS_m ((gt d7 k5).Values) (IntKind.i64.wrap (s6 + 1))).2)]) (js := (iFoc tyRow 69 (some ⟨g13, 0, none⟩) x0.length c2 d7 k5 [.int .i64 s6, .slice A16 ((gt d7 k5).Values).length c17] :: (is))) (fun _ _ hs => tyRow_join (x := (⟨s6, (laws_markIntS_m ((gt d7 k5).Values) (IntKind.i64.wrap (s6 + 1))).2⟩ : DRow)) hs) ((hm.front (n := 1) rfl).front (n := 1) rfl))) ?_
  have hn20 := rng_next (R := (Int × (List DRow))) (body := (fun k (s : Int × (List DRow)) => laws_markRowS_b1 k s.1 s.2)) (k := k5) (s := (s6, d7)) (s' := ((laws_markIntS_m ((gt d7 k5).Values) (IntKind.i64.wrap (s6 + 1))).1, (d7.set k5 (⟨s6, (laws_markIntS_m ((gt d7 k5).Values) (IntKind.i64.wrap (s6 + 1))).2⟩ : DRow)))) (show k5 < x0.length from by omega) (show laws_markRowS_b1 k5 s6 d7 = Sum.inr ((laws_markIntS_m ((gt d7 k5).Values) (IntKind.i64.wrap (s6 + 1))).1, (d7.set k5 (⟨s6, (laws_markIntS_m ((gt d7 k5).Values) (IntKind.i64.wrap (s6 + 1))).2⟩ : DRow))) from by unfold laws_markRowS_b1; exact rfl) hF9
  exact QM_round (k5 + 1, ((laws_markIntS_m ((gt d7 k5).Values) (IntKind.i64.wrap (s6 + 1))).1, (d7.set k5 (⟨s6, (laws_markIntS_m ((gt d7 k5).Values) (IntKind.i64.wrap (s6 + 1))).2⟩ : DRow))), ()) (subL_cons rfl (subL_cons rfl (subL_cons rfl subL_nil))) (fun W hm => hm) ⟨(by omega), hn20⟩ (show x0.length - (k5 + 1) < x0.length - k5 from by omega)
 ·have g12 : (decide (((k5 : Nat) : Int) < ((x0.length : Nat) : Int))) = false := decide_eq_false (by omega)
  refine CM_condF rfl g12 ?_
  refine CM_exit ?_
  refine QM_then_exit ?_
  refine QM_then_exit ?_
  have hE21 : rng (R := (Int × (List DRow))) (fun k (s : Int × (List DRow)) => laws_markRowS_b1 k s.1 s.2) (x0.length - 0) 0 (x1, x0) = Sum.inr (s6, d7) := rng_end hl11 hF9
  refine QM_block_hit ?_
  refine QM_then ?_
  refine sr ?_
  refine wm ?_
  refine wa ?_
  refine nt' ?_
  refine CM_ret ?_
  refine QM_rW rfl rfl (fun W hm => ⟨?_, ?_⟩)
  ·rw [(show laws_markRowS_m x0 x1 = (s6, d7) from by unfold laws_markRowS_m; exact fin_inr hE21 (rfl))]
  ·rw [(show laws_markRowS_m x0 x1 = (s6, d7) from by unfold laws_markRowS_m; exact fin_inr hE21 (rfl))]; exact hm

def laws_markGroupS_b1 (k5 : Nat) (s6 : Int) (d7 : (List DGroup)) : (Int × (List DGroup)) ⊕ (Int × (List DGroup)) :=
 Sum.inr ((IntKind.i64.wrap ((IntKind.i64.wrap ((IntKind.i64.wrap ((IntKind.i64.wrap (s6 + 1)) + 1)) + 1)) + 1)), (d7.set k5 (⟨s6, (IntKind.i64.wrap (s6 + 1)), (IntKind.i64.wrap ((IntKind.i64.wrap (s6 + 1)) + 1)), (IntKind.i64.wrap ((IntKind.i64.wrap ((IntKind.i64.wrap (s6 + 1)) + 1)) + 1))⟩ : DGroup)))
def laws_markGroupS_m (x0 : (List DGroup)) (x1 : Int) : (Int × (List DGroup)) :=
 Sum.elim id (fun (s : Int × (List DGroup)) => (s.1, s.2)) (rng (R := (Int × (List DGroup))) (fun k (s : Int × (List DGroup)) => laws_markGroupS_b1 k s.1 s.2) (x0.length - 0) 0 (x1, x0))
set_option maxRecDepth 100000 in
theorem cb38 : Cb Try.prog 38 := ⟨Try.f38, _, Try.func38, rfl, by decide⟩
set_option maxRecDepth 10000 in
set_option maxHeartbeats 4000000 in
theorem laws_markGroupS_c (B : Nat) (w0 : World) (is : List It) (w : World) (z0 : Value) (x0 : (List DGroup)) (x1 : Int) (hm : Mem B w0 (iOwn (tSl tyGroup 117) [z0] x0 :: is) w) :
  Calls Try.prog 38 #[z0, .int .i64 x1] w fun e w' => e = .returned (.int .i64 (laws_markGroupS_m x0 x1).1) ∧ Mem B w0 (iOwn (tSl tyGroup 117) [z0] (laws_markGroupS_m x0 x1).2 :: is) w' := by
 refine call_enterW (L := [(0, z0), (1, .int .i64 x1)]) (N := 41) Try.func38 rfl rfl (Nat.le_of_ble_eq_true rfl) (argsL_cons rfl (argsL_cons rfl argsL_nil)) hm ?_
 refine CM_form (n := 0) rfl ?_
 rintro A1 c2 rfl m3
 refine sr ?_
 refine wa ?_
 refine nt' ?_
 refine CM_seq ?_
 refine sr ?_
 refine wa ?_
 refine nt' ?_
 refine CM_block ?_
 refine CM_loop (σ := Nat × (Int × (List DGroup)) × (Unit)) (fun s => [(0, .slice A1 x0.length c2), (1, .int .i64 s.2.1.1), (5, .int .i64 ((s.1 : Nat) : Int))]) (fun s => (iOwn (tSl tyGroup 117) [.slice A1 x0.length c2] s.2.1.2 :: is)) (fun s => s.1 ≤ x0.length ∧ rng (R := (Int × (List DGroup))) (fun k (s : Int × (List DGroup)) => laws_markGroupS_b1 k s.1 s.2) (x0.length - s.1) s.1 s.2.1 = rng (R := (Int × (List DGroup))) (fun k (s : Int × (List DGroup)) => laws_markGroupS_b1 k s.1 s.2) (x0.length - 0) 0 (x1, x0)) (fun s => x0.length - s.1) (0, (x1, x0), ()) (subL_cons rfl (subL_cons rfl (subL_cons rfl subL_nil))) (fun W hm => hm) ⟨(by omega), rfl⟩ ?_
 rintro ⟨k5, ⟨s6, d7⟩, ⟨⟩⟩ H10
 obtain ⟨hk8, hF9⟩ : k5 ≤ x0.length ∧ rng (R := (Int × (List DGroup))) (fun k (s : Int × (List DGroup)) => laws_markGroupS_b1 k s.1 s.2) (x0.length - k5) k5 (s6, d7) = rng (R := (Int × (List DGroup))) (fun k (s : Int × (List DGroup)) => laws_markGroupS_b1 k s.1 s.2) (x0.length - 0) 0 (x1, x0) := H10
 show CM Try.prog 41 _ _ _ _ [(0, .slice A1 x0.length c2), (1, .int .i64 s6), (5, .int .i64 ((k5 : Nat) : Int))] (iOwn (tSl tyGroup 117) [.slice A1 x0.length c2] d7 :: is)
 refine CM_seq ?_
 refine sr ?_
 refine wm ?_
 refine wm ?_
 refine wv (fun W hm => rv_len Try.underlying54 rfl) ?_
 refine wv (fun W hm => rv_lss rfl rfl) ?_
 refine nt' ?_
 by_cases hl11 : k5 < x0.length
 ·have g12 : (decide (((k5 : Nat) : Int) < ((x0.length : Nat) : Int))) = true := decide_eq_true (by omega)
  refine CM_condT rfl g12 ?_
  refine CM_skip ?_
  refine QM_then ?_
  refine CM_seq ?_
  refine CM_block ?_
  refine sr ?_
  refine wm ?_
  refine wm ?_
  refine wm ?_
  refine WM_formO (n := 0) rfl (by omega) ?_
  rintro g13 rfl
  refine wv (fun W hm => rv_index (sz := 4) (k := k5) Try.underlying54 Try.type117 rfl rfl rfl (by omega)) ?_
  refine wv (fun W hm => rv_field Try.underlying117 rfl Try.type3 (by decide) rfl rfl) ?_
  refine WM_focus (E := tyGroup) (e := 117) (A := (some ⟨g13, 0, none⟩)) (n := x0.length) (c := c2) (xs := d7) (k := k5) (js := (is)) (by omega) (fun W hm => (hm.front (n := 0) rfl)) (fun ck14 => ?_)
  refine WM_split (γ := Unit) (js := fun _ => []) (C := fun _ => ck14 = [.int .i64 ((gt d7 k5).Query), .int .i64 ((gt d7 k5).Value), .int .i64 ((gt d7 k5).Count), .int .i64 ((gt d7 k5).Sum)]) (fun _ _ h => tyGroup_split h) ?_
  rintro ⟨⟩ rfl
  refine WM_storeFoc (E := tyGroup) (e := 117) (g := g13) (n := x0.length) (c := c2) (k := k5) (s := 4) (o := 0) (xs := d7) (ck := [.int .i64 ((gt d7 k5).Query), .int .i64 ((gt d7 k5).Value), .int .i64 ((gt d7 k5).Count), .int .i64 ((gt d7 k5).Sum)]) (ck' := [.int .i64 s6, .int .i64 ((gt d7 k5).Value), .int .i64 ((gt d7 k5).Count), .int .i64 ((gt d7 k5).Sum)]) (js := (is)) (fun W hm => (hm.front (n := 0) rfl)) rfl rfl Try.type3 rfl (Nat.le_of_ble_eq_true rfl) rfl rfl rfl rfl (Wd_none rfl) ?_
  refine nt' ?_
  refine sr ?_
  refine wm ?_
  refine wv (fun W hm => rv_add rfl rfl) ?_
  refine wa ?_
  refine nt' ?_
  refine sr ?_
  refine wm ?_
  refine wm ?_
  refine wm ?_
  refine wv (fun W hm => rv_index (sz := 4) (k := k5) Try.underlying54 Try.type117 rfl rfl rfl (by omega)) ?_
  refine wv (fun W hm => rv_field Try.underlying117 rfl Try.type3 (by decide) rfl rfl) ?_
  refine WM_storeFoc (E := tyGroup) (e := 117) (g := g13) (n := x0.length) (c := c2) (k := k5) (s := 4) (o := 1) (xs := d7) (ck := [.int .i64 s6, .int .i64 ((gt d7 k5).Value), .int .i64 ((gt d7 k5).Count), .int .i64 ((gt d7 k5).Sum)]) (ck' := [.int .i64 s6, .int .i64 (IntKind.i64.wrap (s6 + 1)), .int .i64 ((gt d7 k5).Count), .int .i64 ((gt d7 k5).Sum)]) (js := (is)) (fun W hm => (hm.front (n := 0) rfl)) rfl rfl Try.type3 rfl (Nat.le_of_ble_eq_true rfl) rfl rfl rfl rfl (Wd_none rfl) ?_
  refine nt' ?_
  refine sr ?_
  refine wm ?_
  refine wv (fun W hm => rv_add rfl rfl) ?_
  refine wa ?_
  refine nt' ?_
  refine sr ?_
  refine wm ?_
  refine wm ?_
  refine wm ?_
  refine wv (fun W hm => rv_index (sz := 4) (k := k5) Try.underlying54 Try.type117 rfl rfl rfl (by omega)) ?_
  refine wv (fun W hm => rv_field Try.underlying117 rfl Try.type3 (by decide) rfl rfl) ?_
  refine WM_storeFoc (E := tyGroup) (e := 117) (g := g13) (n := x0.length) (c := c2) (k := k5) (s := 4) (o := 2) (xs := d7) (ck := [.int .i64 s6, .int .i64 (IntKind.i64.wrap (s6 + 1)), .int .i64 ((gt d7 k5).Count), .int .i64 ((gt d7 k5).Sum)]) (ck' := [.int .i64 s6, .int .i64 (IntKind.i64.wrap (s6 + 1)), .int .i64 (IntKind.i64.wrap ((IntKind.i64.wrap (s6 + 1)) + 1)), .int .i64 ((gt d7 k5).Sum)]) (js := (is)) (fun W hm => (hm.front (n := 0) rfl)) rfl rfl Try.type3 rfl (Nat.le_of_ble_eq_true rfl) rfl rfl rfl rfl (Wd_none rfl) ?_
  refine nt' ?_
  refine sr ?_
  refine wm ?_
  refine wv (fun W hm => rv_add rfl rfl) ?_
  refine wa ?_
  refine nt' ?_
  refine sr ?_
  refine wm ?_
  refine wm ?_
  refine wm ?_
  refine wv (fun W hm => rv_index (sz := 4) (k := k5) Try.underlying54 Try.type117 rfl rfl rfl (by omega)) ?_
  refine wv (fun W hm => rv_field Try.underlying117 rfl Try.type3 (by decide) rfl rfl) ?_
  refine WM_storeFoc (E := tyGroup) (e := 117) (g := g13) (n := x0.length) (c := c2) (k := k5) (s := 4) (o := 3) (xs := d7) (ck := [.int .i64 s6, .int .i64 (IntKind.i64.wrap (s6 + 1)), .int .i64 (IntKind.i64.wrap ((IntKind.i64.wrap (s6 + 1)) + 1)), .int .i64 ((gt d7 k5).Sum)]) (ck' := [.int .i64 s6, .int .i64 (IntKind.i64.wrap (s6 + 1)), .int .i64 (IntKind.i64.wrap ((IntKind.i64.wrap (s6 + 1)) + 1)), .int .i64 (IntKind.i64.wrap ((IntKind.i64.wrap ((IntKind.i64.wrap (s6 + 1)) + 1)) + 1))]) (js := (is)) (fun W hm => (hm.front (n := 0) rfl)) rfl rfl Try.type3 rfl (Nat.le_of_ble_eq_true rfl) rfl rfl rfl rfl (Wd_none rfl) ?_
  refine nt' ?_
  refine CM_region ?_
  refine wm ?_
  refine wv (fun W hm => rv_add rfl rfl) ?_
  refine wa ?_
  refine WM_nil ?_
  refine QM_block_normal ?_
  refine QM_then ?_
  refine CM_region ?_
  refine wm ?_
  refine wv (fun W hm => rv_addN (p := k5) (q := 1) rfl rfl (by omega)) ?_
  refine wa ?_
  refine WM_nil ?_
  refine QM_items (fun W hm => Mem.unfocus (Mem.join (is := []) (js := (iFoc tyGroup 117 (some ⟨g13, 0, none⟩) x0.length c2 d7 k5 [.int .i64 s6, .int .i64 (IntKind.i64.wrap (s6 + 1)), .int .i64 (IntKind.i64.wrap ((IntKind.i64.wrap (s6 + 1)) + 1)), .int .i64 (IntKind.i64.wrap ((IntKind.i64.wrap ((IntKind.i64.wrap (s6 + 1)) + 1)) + 1))] :: (is))) (fun _ _ hs => tyGroup_join (x := (⟨s6, (IntKind.i64.wrap (s6 + 1)), (IntKind.i64.wrap ((IntKind.i64.wrap (s6 + 1)) + 1)), (IntKind.i64.wrap ((IntKind.i64.wrap ((IntKind.i64.wrap (s6 + 1)) + 1)) + 1))⟩ : DGroup)) hs) (hm.front (n := 0) rfl))) ?_
  have hn15 := rng_next (R := (Int × (List DGroup))) (body := (fun k (s : Int × (List DGroup)) => laws_markGroupS_b1 k s.1 s.2)) (k := k5) (s := (s6, d7)) (s' := ((IntKind.i64.wrap ((IntKind.i64.wrap ((IntKind.i64.wrap ((IntKind.i64.wrap (s6 + 1)) + 1)) + 1)) + 1)), (d7.set k5 (⟨s6, (IntKind.i64.wrap (s6 + 1)), (IntKind.i64.wrap ((IntKind.i64.wrap (s6 + 1)) + 1)), (IntKind.i64.wrap ((IntKind.i64.wrap ((IntKind.i64.wrap (s6 + 1)) + 1)) + 1))⟩ : DGroup)))) (show k5 < x0.length from by omega) (show laws_markGroupS_b1 k5 s6 d7 = Sum.inr ((IntKind.i64.wrap ((IntKind.i64.wrap ((IntKind.i64.wrap ((IntKind.i64.wrap (s6 + 1)) + 1)) + 1)) + 1)), (d7.set k5 (⟨s6, (IntKind.i64.wrap (s6 + 1)), (IntKind.i64.wrap ((IntKind.i64.wrap (s6 + 1)) + 1)), (IntKind.i64.wrap ((IntKind.i64.wrap ((IntKind.i64.wrap (s6 + 1)) + 1)) + 1))⟩ : DGroup))) from by unfold laws_markGroupS_b1; exact rfl) hF9
  exact QM_round (k5 + 1, ((IntKind.i64.wrap ((IntKind.i64.wrap ((IntKind.i64.wrap ((IntKind.i64.wrap (s6 + 1)) + 1)) + 1)) + 1)), (d7.set k5 (⟨s6, (IntKind.i64.wrap (s6 + 1)), (IntKind.i64.wrap ((IntKind.i64.wrap (s6 + 1)) + 1)), (IntKind.i64.wrap ((IntKind.i64.wrap ((IntKind.i64.wrap (s6 + 1)) + 1)) + 1))⟩ : DGroup))), ()) (subL_cons rfl (subL_cons rfl (subL_cons rfl subL_nil))) (fun W hm => hm) ⟨(by omega), hn15⟩ (show x0.length - (k5 + 1) < x0.length - k5 from by omega)
 ·have g12 : (decide (((k5 : Nat) : Int) < ((x0.length : Nat) : Int))) = false := decide_eq_false (by omega)
  refine CM_condF rfl g12 ?_
  refine CM_exit ?_
  refine QM_then_exit ?_
  refine QM_then_exit ?_
  have hE16 : rng (R := (Int × (List DGroup))) (fun k (s : Int × (List DGroup)) => laws_markGroupS_b1 k s.1 s.2) (x0.length - 0) 0 (x1, x0) = Sum.inr (s6, d7) := rng_end hl11 hF9
  refine QM_block_hit ?_
  refine QM_then ?_
  refine sr ?_
  refine wm ?_
  refine wa ?_
  refine nt' ?_
  refine CM_ret ?_
  refine QM_rW rfl rfl (fun W hm => ⟨?_, ?_⟩)
  ·rw [(show laws_markGroupS_m x0 x1 = (s6, d7) from by unfold laws_markGroupS_m; exact fin_inr hE16 (rfl))]
  ·rw [(show laws_markGroupS_m x0 x1 = (s6, d7) from by unfold laws_markGroupS_m; exact fin_inr hE16 (rfl))]; exact hm

def laws_heldGroupS_b1 (x0 : (List DGroup)) (k6 : Nat) (s7 : Int) : Int ⊕ (Int) :=
 cond (((gt x0 k6).Query) != s7) (Sum.inl (-1)) (cond (((gt x0 k6).Value) != (IntKind.i64.wrap (s7 + 1))) (Sum.inl (-1)) (cond (((gt x0 k6).Count) != (IntKind.i64.wrap ((IntKind.i64.wrap (s7 + 1)) + 1))) (Sum.inl (-1)) (cond (((gt x0 k6).Sum) != (IntKind.i64.wrap ((IntKind.i64.wrap ((IntKind.i64.wrap (s7 + 1)) + 1)) + 1))) (Sum.inl (-1)) (Sum.inr (IntKind.i64.wrap ((IntKind.i64.wrap ((IntKind.i64.wrap ((IntKind.i64.wrap (s7 + 1)) + 1)) + 1)) + 1))))))
def laws_heldGroupS_m (x0 : (List DGroup)) (x1 : Int) : Int :=
 Sum.elim id (fun (s : Int) => s) (rng (R := Int) (fun k (s : Int) => laws_heldGroupS_b1 x0 k s) (x0.length - 0) 0 x1)
set_option maxRecDepth 100000 in
theorem cb39 : Cb Try.prog 39 := ⟨Try.f39, _, Try.func39, rfl, by decide⟩
set_option maxRecDepth 10000 in
set_option maxHeartbeats 4000000 in
theorem laws_heldGroupS_c (w : World) (z0 : Value) (x0 : (List DGroup)) (x1 : Int) (r_0 : rdS tyGroup w w.heap.size z0 x0) :
  Calls Try.prog 39 #[z0, .int .i64 x1] w fun e w' => e = .returned (.int .i64 (laws_heldGroupS_m x0 x1)) ∧ Below w.heap.size w w' := by
 have r5 := r_0
 obtain ⟨m1, A2, c3, rfl, q4⟩ := r_0
 refine call_enterM (L := [(0, .slice A2 x0.length c3), (1, .int .i64 x1)]) (N := 49) Try.func39 rfl rfl (Nat.le_of_ble_eq_true rfl) (argsL_cons rfl (argsL_cons rfl argsL_nil)) ?_
 refine sr ?_
 refine wa ?_
 refine nt' ?_
 refine CM_seq ?_
 refine sr ?_
 refine wa ?_
 refine nt' ?_
 refine CM_block ?_
 refine CM_loop (σ := Nat × (Int) × (Unit)) (fun s => [(0, .slice A2 x0.length c3), (1, .int .i64 s.2.1), (5, .int .i64 ((s.1 : Nat) : Int))]) (fun s => []) (fun s => s.1 ≤ x0.length ∧ rng (R := Int) (fun k (s : Int) => laws_heldGroupS_b1 x0 k s) (x0.length - s.1) s.1 s.2.1 = rng (R := Int) (fun k (s : Int) => laws_heldGroupS_b1 x0 k s) (x0.length - 0) 0 x1) (fun s => x0.length - s.1) (0, x1, ()) (subL_cons rfl (subL_cons rfl (subL_cons rfl subL_nil))) (fun W hm => hm) ⟨(by omega), rfl⟩ ?_
 rintro ⟨k6, s7, ⟨⟩⟩ H10
 obtain ⟨hk8, hF9⟩ : k6 ≤ x0.length ∧ rng (R := Int) (fun k (s : Int) => laws_heldGroupS_b1 x0 k s) (x0.length - k6) k6 s7 = rng (R := Int) (fun k (s : Int) => laws_heldGroupS_b1 x0 k s) (x0.length - 0) 0 x1 := H10
 show CM Try.prog 49 _ _ _ _ [(0, .slice A2 x0.length c3), (1, .int .i64 s7), (5, .int .i64 ((k6 : Nat) : Int))] []
 refine CM_seq ?_
 refine sr ?_
 refine wm ?_
 refine wm ?_
 refine wv (fun W hm => rv_len Try.underlying54 rfl) ?_
 refine wv (fun W hm => rv_lss rfl rfl) ?_
 refine nt' ?_
 by_cases hl11 : k6 < x0.length
 ·have g12 : (decide (((k6 : Nat) : Int) < ((x0.length : Nat) : Int))) = true := decide_eq_true (by omega)
  refine CM_condT rfl g12 ?_
  refine CM_skip ?_
  refine QM_then ?_
  refine CM_seq ?_
  refine CM_block ?_
  refine CM_seq ?_
  refine sr ?_
  refine wm ?_
  refine wm ?_
  obtain ⟨a13, rfl, hb14, he15⟩ := q4 (by omega)
  refine wv (fun W hm => rv_index (sz := 4) (k := k6) Try.underlying54 Try.type117 rfl rfl rfl (by omega)) ?_
  refine wv (fun W hm => rv_field Try.underlying117 rfl Try.type3 (by decide) rfl rfl) ?_
  obtain ⟨_, e17, hc16⟩ := he15 k6 _ (gt_some (show k6 < x0.length from by omega))
  obtain rfl := tyGroup_rd e17
  refine wv (fun W hm => rv_load Try.underlying3 rfl rfl ((hm.cell0 (show ((a13.add (k6 * 4)).add 0).block < w.heap.size from by rw [add_block, add_block]; exact hb14.1)).trans (hc16 0 _ rfl))) ?_
  refine wm ?_
  refine wv (fun W hm => rv_neq rfl rfl) ?_
  refine nt' ?_
  by_cases h18 : ((gt x0 k6).Query) = s7
  ·have g19 : (((gt x0 k6).Query) != s7) = false := by rw [h18]; exact bne_self_eq_false _
   refine CM_condF rfl g19 ?_
   refine CM_skip ?_
   refine QM_then ?_
   refine sr ?_
   refine wm ?_
   refine wv (fun W hm => rv_add rfl rfl) ?_
   refine wa ?_
   refine nt' ?_
   refine CM_seq ?_
   refine sr ?_
   refine wm ?_
   refine wm ?_
   refine wv (fun W hm => rv_index (sz := 4) (k := k6) Try.underlying54 Try.type117 rfl rfl rfl (by omega)) ?_
   refine wv (fun W hm => rv_field Try.underlying117 rfl Try.type3 (by decide) rfl rfl) ?_
   refine wv (fun W hm => rv_load Try.underlying3 rfl rfl ((hm.cell0 (show ((a13.add (k6 * 4)).add 1).block < w.heap.size from by rw [add_block, add_block]; exact hb14.1)).trans (hc16 1 _ rfl))) ?_
   refine wm ?_
   refine wv (fun W hm => rv_neq rfl rfl) ?_
   refine nt' ?_
   by_cases h20 : ((gt x0 k6).Value) = (IntKind.i64.wrap (s7 + 1))
   ·have g21 : (((gt x0 k6).Value) != (IntKind.i64.wrap (s7 + 1))) = false := by rw [h20]; exact bne_self_eq_false _
    refine CM_condF rfl g21 ?_
    refine CM_skip ?_
    refine QM_then ?_
    refine sr ?_
    refine wm ?_
    refine wv (fun W hm => rv_add rfl rfl) ?_
    refine wa ?_
    refine nt' ?_
    refine CM_seq ?_
    refine sr ?_
    refine wm ?_
    refine wm ?_
    refine wv (fun W hm => rv_index (sz := 4) (k := k6) Try.underlying54 Try.type117 rfl rfl rfl (by omega)) ?_
    refine wv (fun W hm => rv_field Try.underlying117 rfl Try.type3 (by decide) rfl rfl) ?_
    refine wv (fun W hm => rv_load Try.underlying3 rfl rfl ((hm.cell0 (show ((a13.add (k6 * 4)).add 2).block < w.heap.size from by rw [add_block, add_block]; exact hb14.1)).trans (hc16 2 _ rfl))) ?_
    refine wm ?_
    refine wv (fun W hm => rv_neq rfl rfl) ?_
    refine nt' ?_
    by_cases h22 : ((gt x0 k6).Count) = (IntKind.i64.wrap ((IntKind.i64.wrap (s7 + 1)) + 1))
    ·have g23 : (((gt x0 k6).Count) != (IntKind.i64.wrap ((IntKind.i64.wrap (s7 + 1)) + 1))) = false := by rw [h22]; exact bne_self_eq_false _
     refine CM_condF rfl g23 ?_
     refine CM_skip ?_
     refine QM_then ?_
     refine sr ?_
     refine wm ?_
     refine wv (fun W hm => rv_add rfl rfl) ?_
     refine wa ?_
     refine nt' ?_
     refine CM_seq ?_
     refine sr ?_
     refine wm ?_
     refine wm ?_
     refine wv (fun W hm => rv_index (sz := 4) (k := k6) Try.underlying54 Try.type117 rfl rfl rfl (by omega)) ?_
     refine wv (fun W hm => rv_field Try.underlying117 rfl Try.type3 (by decide) rfl rfl) ?_
     refine wv (fun W hm => rv_load Try.underlying3 rfl rfl ((hm.cell0 (show ((a13.add (k6 * 4)).add 3).block < w.heap.size from by rw [add_block, add_block]; exact hb14.1)).trans (hc16 3 _ rfl))) ?_
     refine wm ?_
     refine wv (fun W hm => rv_neq rfl rfl) ?_
     refine nt' ?_
     by_cases h24 : ((gt x0 k6).Sum) = (IntKind.i64.wrap ((IntKind.i64.wrap ((IntKind.i64.wrap (s7 + 1)) + 1)) + 1))
     ·have g25 : (((gt x0 k6).Sum) != (IntKind.i64.wrap ((IntKind.i64.wrap ((IntKind.i64.wrap (s7 + 1)) + 1)) + 1))) = false := by rw [h24]; exact bne_self_eq_false _
      refine CM_condF rfl g25 ?_
      refine CM_skip ?_
      refine QM_then ?_
      refine CM_region ?_
      refine wm ?_
      refine wv (fun W hm => rv_add rfl rfl) ?_
      refine wa ?_
      refine WM_nil ?_
      refine QM_block_normal ?_
      refine QM_then ?_
      refine CM_region ?_
      refine wm ?_
      refine wv (fun W hm => rv_addN (p := k6) (q := 1) rfl rfl (by omega)) ?_
      refine wa ?_
      refine WM_nil ?_
      have hn26 := rng_next (R := Int) (body := (fun k (s : Int) => laws_heldGroupS_b1 x0 k s)) (k := k6) (s := s7) (s' := (IntKind.i64.wrap ((IntKind.i64.wrap ((IntKind.i64.wrap ((IntKind.i64.wrap (s7 + 1)) + 1)) + 1)) + 1))) (show k6 < x0.length from by omega) (show laws_heldGroupS_b1 x0 k6 s7 = Sum.inr (IntKind.i64.wrap ((IntKind.i64.wrap ((IntKind.i64.wrap ((IntKind.i64.wrap (s7 + 1)) + 1)) + 1)) + 1)) from by unfold laws_heldGroupS_b1; exact cond_f g19 (cond_f g21 (cond_f g23 (cond_f g25 (rfl))))) hF9
      exact QM_round (k6 + 1, (IntKind.i64.wrap ((IntKind.i64.wrap ((IntKind.i64.wrap ((IntKind.i64.wrap (s7 + 1)) + 1)) + 1)) + 1)), ()) (subL_cons rfl (subL_cons rfl (subL_cons rfl subL_nil))) (fun W hm => hm) ⟨(by omega), hn26⟩ (show x0.length - (k6 + 1) < x0.length - k6 from by omega)
     ·have g25 : (((gt x0 k6).Sum) != (IntKind.i64.wrap ((IntKind.i64.wrap ((IntKind.i64.wrap (s7 + 1)) + 1)) + 1))) = true := bne_iff_ne.2 h24
      refine CM_condT rfl g25 ?_
      refine sr ?_
      refine wa ?_
      refine nt' ?_
      refine CM_ret ?_
      refine QM_then_ret ?_
      refine QM_block_ret ?_
      refine QM_then_ret ?_
      refine QM_then_ret ?_
      refine QM_block_ret ?_
      refine QM_then_ret ?_
      exact QM_ret1 rfl rfl (fun W hm => ⟨ret_i (show laws_heldGroupS_m x0 x1 = (-1) from by unfold laws_heldGroupS_m; exact fin_inl (rng_ret (body := (fun k (s : Int) => laws_heldGroupS_b1 x0 k s)) (k := k6) (s := s7) (show k6 < x0.length from by omega) (show laws_heldGroupS_b1 x0 k6 s7 = Sum.inl (-1) from by unfold laws_heldGroupS_b1; exact cond_f g19 (cond_f g21 (cond_f g23 (cond_t g25 (rfl))))) hF9) rfl), hm.below⟩)
    ·have g23 : (((gt x0 k6).Count) != (IntKind.i64.wrap ((IntKind.i64.wrap (s7 + 1)) + 1))) = true := bne_iff_ne.2 h22
     refine CM_condT rfl g23 ?_
     refine sr ?_
     refine wa ?_
     refine nt' ?_
     refine CM_ret ?_
     refine QM_then_ret ?_
     refine QM_block_ret ?_
     refine QM_then_ret ?_
     refine QM_then_ret ?_
     refine QM_block_ret ?_
     refine QM_then_ret ?_
     exact QM_ret1 rfl rfl (fun W hm => ⟨ret_i (show laws_heldGroupS_m x0 x1 = (-1) from by unfold laws_heldGroupS_m; exact fin_inl (rng_ret (body := (fun k (s : Int) => laws_heldGroupS_b1 x0 k s)) (k := k6) (s := s7) (show k6 < x0.length from by omega) (show laws_heldGroupS_b1 x0 k6 s7 = Sum.inl (-1) from by unfold laws_heldGroupS_b1; exact cond_f g19 (cond_f g21 (cond_t g23 (rfl)))) hF9) rfl), hm.below⟩)
   ·have g21 : (((gt x0 k6).Value) != (IntKind.i64.wrap (s7 + 1))) = true := bne_iff_ne.2 h20
    refine CM_condT rfl g21 ?_
    refine sr ?_
    refine wa ?_
    refine nt' ?_
    refine CM_ret ?_
    refine QM_then_ret ?_
    refine QM_block_ret ?_
    refine QM_then_ret ?_
    refine QM_then_ret ?_
    refine QM_block_ret ?_
    refine QM_then_ret ?_
    exact QM_ret1 rfl rfl (fun W hm => ⟨ret_i (show laws_heldGroupS_m x0 x1 = (-1) from by unfold laws_heldGroupS_m; exact fin_inl (rng_ret (body := (fun k (s : Int) => laws_heldGroupS_b1 x0 k s)) (k := k6) (s := s7) (show k6 < x0.length from by omega) (show laws_heldGroupS_b1 x0 k6 s7 = Sum.inl (-1) from by unfold laws_heldGroupS_b1; exact cond_f g19 (cond_t g21 (rfl))) hF9) rfl), hm.below⟩)
  ·have g19 : (((gt x0 k6).Query) != s7) = true := bne_iff_ne.2 h18
   refine CM_condT rfl g19 ?_
   refine sr ?_
   refine wa ?_
   refine nt' ?_
   refine CM_ret ?_
   refine QM_then_ret ?_
   refine QM_block_ret ?_
   refine QM_then_ret ?_
   refine QM_then_ret ?_
   refine QM_block_ret ?_
   refine QM_then_ret ?_
   exact QM_ret1 rfl rfl (fun W hm => ⟨ret_i (show laws_heldGroupS_m x0 x1 = (-1) from by unfold laws_heldGroupS_m; exact fin_inl (rng_ret (body := (fun k (s : Int) => laws_heldGroupS_b1 x0 k s)) (k := k6) (s := s7) (show k6 < x0.length from by omega) (show laws_heldGroupS_b1 x0 k6 s7 = Sum.inl (-1) from by unfold laws_heldGroupS_b1; exact cond_t g19 (rfl)) hF9) rfl), hm.below⟩)
 ·have g12 : (decide (((k6 : Nat) : Int) < ((x0.length : Nat) : Int))) = false := decide_eq_false (by omega)
  refine CM_condF rfl g12 ?_
  refine CM_exit ?_
  refine QM_then_exit ?_
  refine QM_then_exit ?_
  have hE27 : rng (R := Int) (fun k (s : Int) => laws_heldGroupS_b1 x0 k s) (x0.length - 0) 0 x1 = Sum.inr s7 := rng_end hl11 hF9
  refine QM_block_hit ?_
  refine QM_then ?_
  refine sr ?_
  refine wm ?_
  refine wa ?_
  refine nt' ?_
  refine CM_ret ?_
  exact QM_ret1 rfl rfl (fun W hm => ⟨ret_i (show laws_heldGroupS_m x0 x1 = s7 from by unfold laws_heldGroupS_m; exact fin_inr hE27 (rfl)), hm.below⟩)

end Go.Proofs.Ytjcdginailhfmaa
