/-
  Contracts of functions, printed by a program of ours.
-/
import Derived.Test.YtcjelfdpekbbkaaDoorL7F2
namespace Go.Proofs.YtcjelfdpekbbkaaDoor
open Go.RowKit
set_option maxRecDepth 100000
set_option maxHeartbeats 4000000
open _root_.Go.Proofs.Tryd
theorem IsRow_same (x : DRow) : impl_IsRow_m x = spec_IsRow_m x := rfl
theorem cmp_int (a b : Int) : cmp_Compare_int_m a b = if a < b then -1 else if b < a then 1 else 0 := by
  unfold cmp_Compare_int_m cmp_isNaN_int_m
  rw [bne_self_eq_false, bne_self_eq_false]
  by_cases h1 : a < b
  · rw [decide_eq_true h1, if_pos h1]; rfl
  · rw [decide_eq_false h1, if_neg h1]
    by_cases h2 : b < a
    · rw [decide_eq_true h2, if_pos h2]; rfl
    · rw [decide_eq_false h2, if_neg h2]; rfl
def keyR (x y : DGroup) : Prop := x.Query < y.Query ∨ (x.Query = y.Query ∧ x.Value < y.Value)
theorem groups_lt (x y : DGroup) : lt0 impl_compareGroups_m x y = true ↔ keyR x y := by
  show decide (impl_compareGroups_m x y < 0) = true ↔ _
  unfold impl_compareGroups_m keyR
  rw [decide_eq_true_eq, cmp_int, cmp_int]
  by_cases h : x.Query = y.Query
  · rw [show (x.Query != y.Query) = false from by rw [h]; exact bne_self_eq_false _]
    show (if x.Value < y.Value then (-1 : Int) else if y.Value < x.Value then 1 else 0) < 0 ↔ _
    by_cases h1 : x.Value < y.Value
    · rw [if_pos h1]; omega
    · rw [if_neg h1]; by_cases h2 : y.Value < x.Value
      · rw [if_pos h2]; omega
      · rw [if_neg h2]; omega
  · rw [bne_iff_ne.2 h]
    show (if x.Query < y.Query then (-1 : Int) else if y.Query < x.Query then 1 else 0) < 0 ↔ _
    by_cases h1 : x.Query < y.Query
    · rw [if_pos h1]; omega
    · rw [if_neg h1, if_pos (by omega)]; omega
theorem impl_compareGroups_ord : Ord (lt0 impl_compareGroups_m) := ord_of groups_lt (fun x y => by unfold keyR; omega) (fun x y z => by unfold keyR; omega)
theorem impl_IsRow_len {r : DRow} (h : impl_IsRow_m r = true) : r.Values.length = 3 := spec_IsRow_len (by rw [← IsRow_same]; exact h)
theorem impl_isField_fact {x : Int} (h : impl_isField_m x = true) : 0 ≤ x ∧ x ≤ 2 := impl_within_fact h
def impl_GroupShared_b2 (x0 : (List DAnnotated)) (x1 : Int) (x2 : Int) (k13 : Nat) (k47 : Nat) (d48 : (List DGroup)) : (List DGroup) ⊕ ((List DGroup)) :=
 Sum.inr (d48 ++ [(⟨(gt ((gt x0 k13).Set) k47), (gt ((gt x0 k13).Row.Values) (x1.toNat)), 1, (gt ((gt x0 k13).Row.Values) (x2.toNat))⟩ : DGroup)])
abbrev impl_GroupShared_v1 (k90 : Nat) (d91 : (List DGroup)) (d94 : (List DGroup)) : (List DGroup) :=
 (d91.set (d91.length - 1) (⟨(gt d91 (d91.length - 1)).Query, (gt d91 (d91.length - 1)).Value, (IntKind.i64.wrap (((gt d91 (d91.length - 1)).Count) + 1)), (IntKind.i64.wrap (((gt d91 (d91.length - 1)).Sum) + ((gt d94 k90).Sum)))⟩ : DGroup))
def impl_GroupShared_b3 (k90 : Nat) (d91 : (List DGroup)) (d94 : (List DGroup)) : (List DGroup) ⊕ ((List DGroup) × (List DGroup)) :=
 cond (decide (0 < ((d91.length : Nat) : Int))) (cond ((impl_compareGroups_m (gt d91 (d91.length - 1)) (gt d94 k90)) == 0) (Sum.inr ((impl_GroupShared_v1 k90 d91 d94), d94)) (Sum.inr ((d91 ++ [(gt d94 k90)]), d94))) (Sum.inr ((d91 ++ [(gt d94 k90)]), d94))
def impl_GroupShared_b1 (x0 : (List DAnnotated)) (x1 : Int) (x2 : Int) (k13 : Nat) (d14 : (List DGroup)) : (List DGroup) ⊕ ((List DGroup)) :=
 cond (impl_IsRow_m ((gt x0 k13).Row)) (Sum.elim Sum.inl (fun (s : (List DGroup)) => Sum.inr s) (rng (R := (List DGroup)) (fun k (s : (List DGroup)) => impl_GroupShared_b2 x0 x1 x2 k13 k s) (((gt x0 k13).Set).length - 0) 0 d14)) (Sum.inr d14)
def impl_GroupShared_m (x0 : (List DAnnotated)) (x1 : Int) (x2 : Int) : (List DGroup) :=
 cond (impl_isField_m x1) (cond (impl_isField_m x2) (Sum.elim id (fun (s1_ : (List DGroup)) => Sum.elim id (fun (s : (List DGroup) × (List DGroup)) => s.1) (rng (R := (List DGroup)) (fun k (s : (List DGroup) × (List DGroup)) => impl_GroupShared_b3 k s.1 s.2) (s1_.length - 0) 0 ([], (stb (lt0 impl_compareGroups_m) s1_)))) (rng (R := (List DGroup)) (fun k (s : (List DGroup)) => impl_GroupShared_b1 x0 x1 x2 k s) (x0.length - 0) 0 [])) []) []
theorem cb42 : Cb Tryd.prog 42 := ⟨f42, _, func42, rfl, by decide⟩
theorem impl_GroupShared_c (w : World) (z0 : Value) (x0 : (List DAnnotated)) (x1 : Int) (x2 : Int) (r_0 : rdS tyAnnotated w w.heap.size z0 x0) (s_0 : (x0.length ≤ 68719476736 ∧ ∀ y ∈ x0, smAnnotated 68719476736 y)) (hq : (x0.map fun (a : DAnnotated) => a.Set.length).sum ≤ 68719476736) :
  Calls Tryd.prog 42 #[z0, .int .i64 x1, .int .i64 x2] w fun e w' => ∃ v : Value, e = .returned (v) ∧ Mem w.heap.size w [iOwn (tSl tyGroup 25) [v] (impl_GroupShared_m x0 x1 x2)] w' := by
 obtain ⟨m1, A2, c3, rfl, q4, r5⟩ := rdS_op r_0
 have l6 : x0.length ≤ 68719476736 := s_0.1
 refine ce3 (L := [(0, .slice A2 x0.length c3), (1, .int .i64 x1), (2, .int .i64 x2)]) (N := 110) func42 ?_
 refine sr (wa (nt' (CM_seq (sr (wm ?_)))))
 refine wcv (cl_fn cb71 rfl) (fun W hm => impl_isField_c W x1) ?_
 refine wv vnot ?_
 refine wm ?_
 rcases Bool.eq_false_or_eq_true (impl_isField_m x1) with g8 | g8
 ·
  have hf1 := impl_isField_fact g8
  refine wg vmv (nt g8) ?_
  refine WM_callV (cl_fn cb71 rfl) (fun W hm => impl_isField_c W x2) (Wd_some rfl rfl rfl (bw (nt g8) rfl)) (by decide) ?_
  refine wg vnot (nt g8) ?_
  refine wv (vpF (nt g8)) ?_
  refine nt' ?_
  rcases Bool.eq_false_or_eq_true (impl_isField_m x2) with g10 | g10
  ·
   have hf2 := impl_isField_fact g10
   refine CM_condF rfl (nt g10) ?_
   refine CM_skip (QM_then (sr ?_))
   refine WM_build0 (E := tyGroup) underlying68 type25 (Wd_none rfl) (by decide) (fun p11 => ?_)
   refine wa (nt' (CM_seq (sr (wm ?_))))
   refine wv (vlen underlying65) ?_
   refine wm (nt' (CM_block ?_))
   let F1 := fun k (s : (List DGroup)) => impl_GroupShared_b1 x0 x1 x2 k s
   let R4 := rng (R := (List DGroup)) F1
   refine CM_loop (σ := Nat × ((List DGroup)) × (Option Addr × Nat)) (fun s => [(1, .int .i64 x1), (2, .int .i64 x2), (7, .slice s.2.2.1 s.2.1.length s.2.2.2), (25, .slice A2 x0.length c3), (26, .int .i64 ((x0.length : Nat) : Int)), (27, .int .i64 ((s.1 : Nat) : Int))]) (fun s => [iOwn (tSl tyGroup 25) [.slice s.2.2.1 s.2.1.length s.2.2.2] s.2.1]) (fun s => s.1 ≤ x0.length ∧ R4 (x0.length - s.1) s.1 s.2.1 = R4 (x0.length - 0) 0 [] ∧ s.2.1.length ≤ ((x0.take s.1).map fun (a : DAnnotated) => a.Set.length).sum) (fun s => x0.length - s.1) (0, [], ((some ⟨p11, 0, none⟩), 0)) sl6 (fun W hm => hm) ⟨(by omega), rfl, Nat.zero_le _⟩ ?_
   rintro ⟨k13, d14, ⟨A15, c16⟩⟩ H19
   obtain ⟨hk17, hF18, hi20⟩ : k13 ≤ x0.length ∧ R4 (x0.length - k13) k13 d14 = R4 (x0.length - 0) 0 [] ∧ d14.length ≤ ((x0.take k13).map fun (a : DAnnotated) => a.Set.length).sum := H19
   let I14 : It := iOwn (tSl tyGroup 25) [.slice A15 d14.length c16] d14
   show CM Tryd.prog 110 _ _ _ _ [(1, .int .i64 x1), (2, .int .i64 x2), (7, .slice A15 d14.length c16), (25, .slice A2 x0.length c3), (26, .int .i64 ((x0.length : Nat) : Int)), (27, .int .i64 ((k13 : Nat) : Int))] [I14]
   refine sr ?_
   refine wv vlss ?_
   refine nt' (CM_seq ?_)
   by_cases hl21 : k13 < x0.length
   ·have g22 := dlT hl21
    have hq1 := sum_take_succ (w := fun (a : DAnnotated) => a.Set.length) (xs := x0) (j := k13) (by omega)
    have hq2 := sum_take_le (w := fun (a : DAnnotated) => a.Set.length) (xs := x0) (k13 + 1)
    refine CM_condT rfl g22 ?_
    refine CM_skip (QM_then (CM_seq (CM_block (sr ?_))))
    obtain ⟨a23, rfl, hb24, he25⟩ := q4 (by omega)
    refine wv (vix 3 k13 underlying65 type72) ?_
    obtain ⟨_, e31, hc26⟩ := he25 k13 _ (gt_some (show k13 < x0.length from by omega))
    obtain ⟨v27, v29, rfl, r28, r30⟩ := tyAnnotated_rd e31
    have l32 : ((gt x0 k13).Row.Values).length ≤ 68719476736 := (s_0.2 _ (gt_mem (show k13 < x0.length from by omega))).1
    have l33 : ((gt x0 k13).Set).length ≤ 68719476736 := (s_0.2 _ (gt_mem (show k13 < x0.length from by omega))).2
    obtain ⟨m34, A35, c36, rfl, q37, r38⟩ := rdS_op r28
    obtain ⟨m39, A40, c41, rfl, q42, r43⟩ := rdS_op r30
    let K7 : List Value := [.int .i64 ((gt x0 k13).Row.Id), .slice A35 ((gt x0 k13).Row.Values).length c36, .slice A40 ((gt x0 k13).Set).length c41]
    refine wv (fun W hm => rv_loadN (cs := K7) underlying72 type72 rfl rfl (hm.elCells (show (a23.add (k13 * 3)).block < w.heap.size from by rw [add_block]; exact hb24.1) hc26)) ?_
    refine WM_alloc type72 rfl (Wd_none rfl) (by decide) (fun p44 => ?_)
    refine sb 0 K7 [I14] (fun W hm => hm) type72 ?_
    refine nt' (CM_seq (sr ?_))
    refine wv (vf underlying72 rfl type43) ?_
    refine wv (fun W hm => rv_loadN (cs := [.int .i64 ((gt x0 k13).Row.Id), .slice A35 ((gt x0 k13).Row.Values).length c36]) underlying43 type43 rfl rfl (hm.boxPart (n := 0) rfl rfl)) ?_
    refine wcv (cl_fn cb72 rfl) (fun W hm => impl_IsRow_c W _ ((gt x0 k13).Row) (tyRow_mk (x := ((gt x0 k13).Row)) (hm.rdS0 r38))) ?_
    refine wv vnot ?_
    refine nt' ?_
    rcases Bool.eq_false_or_eq_true (impl_IsRow_m ((gt x0 k13).Row)) with g46 | g46
    ·
     have hlr := impl_IsRow_len g46
     refine CM_condF rfl (nt g46) ?_
     refine CM_skip (QM_then (sr ?_))
     refine wv (vf underlying72 rfl type28) ?_
     refine wv (vl 0 2 underlying28) ?_
     refine wv (vlen underlying28) ?_
     refine wm (nt' (CM_block ?_))
     let F2 := fun k (s : (List DGroup)) => impl_GroupShared_b2 x0 x1 x2 k13 k s
     let R5 := rng (R := (List DGroup)) F2
     refine CM_loop (σ := Nat × ((List DGroup)) × (Option Addr × Nat)) (fun s => [(1, .int .i64 x1), (2, .int .i64 x2), (7, .slice s.2.2.1 s.2.1.length s.2.2.2), (9, .pointer (some (⟨p44, 0, none⟩ : Addr))), (25, .slice (some a23) x0.length c3), (26, .int .i64 ((x0.length : Nat) : Int)), (27, .int .i64 ((k13 : Nat) : Int)), (36, .slice A40 ((gt x0 k13).Set).length c41), (37, .int .i64 ((((gt x0 k13).Set).length : Nat) : Int)), (38, .int .i64 ((s.1 : Nat) : Int))]) (fun s => [iBox p44 72 K7, iOwn (tSl tyGroup 25) [.slice s.2.2.1 s.2.1.length s.2.2.2] s.2.1]) (fun s => s.1 ≤ ((gt x0 k13).Set).length ∧ R5 (((gt x0 k13).Set).length - s.1) s.1 s.2.1 = R5 (((gt x0 k13).Set).length - 0) 0 d14 ∧ s.2.1.length ≤ d14.length + s.1) (fun s => ((gt x0 k13).Set).length - s.1) (0, d14, (A15, c16)) sl10 (fun W hm => hm) ⟨(by omega), rfl, Nat.le_refl _⟩ ?_
     rintro ⟨k47, d48, ⟨A49, c50⟩⟩ H53
     obtain ⟨hk51, hF52, hi54⟩ : k47 ≤ ((gt x0 k13).Set).length ∧ R5 (((gt x0 k13).Set).length - k47) k47 d48 = R5 (((gt x0 k13).Set).length - 0) 0 d14 ∧ d48.length ≤ d14.length + k47 := H53
     show CM Tryd.prog 110 _ _ _ _ [(1, .int .i64 x1), (2, .int .i64 x2), (7, .slice A49 d48.length c50), (9, .pointer (some (⟨p44, 0, none⟩ : Addr))), (25, .slice (some a23) x0.length c3), (26, .int .i64 ((x0.length : Nat) : Int)), (27, .int .i64 ((k13 : Nat) : Int)), (36, .slice A40 ((gt x0 k13).Set).length c41), (37, .int .i64 ((((gt x0 k13).Set).length : Nat) : Int)), (38, .int .i64 ((k47 : Nat) : Int))] [iBox p44 72 K7, iOwn (tSl tyGroup 25) [.slice A49 d48.length c50] d48]
     refine sr ?_
     refine wv vlss ?_
     refine nt' (CM_seq ?_)
     by_cases hl55 : k47 < ((gt x0 k13).Set).length
     ·have g56 := dlT hl55
      refine CM_condT rfl g56 ?_
      refine CM_skip (QM_then (CM_seq (CM_block (sr ?_))))
      obtain ⟨a57, rfl, hb58, he59⟩ := q42 (by omega)
      refine wv (vix 1 k47 underlying28 type3) ?_
      refine wv (fun W hm => rv_load underlying3 rfl rfl ((hm.cell0 (show (a57.add (k47 * 1)).block < w.heap.size from by rw [add_block]; exact hb58.1)).trans (rdS_int he59 k47 (by omega)))) ?_
      refine wa (nt' ?_)
      obtain ⟨a60, rfl, hb61, he62⟩ := q37 (by omega)
      let K8 : List Value := [.int .i64 ((gt x0 k13).Row.Id), .slice (some a60) ((gt x0 k13).Row.Values).length c36, .slice (some a57) ((gt x0 k13).Set).length c41]
      refine CM_cut (σ := Option Addr × Nat) (fun s => [(1, .int .i64 x1), (2, .int .i64 x2), (7, .slice s.1 (d48 ++ [(⟨(gt ((gt x0 k13).Set) k47), (gt ((gt x0 k13).Row.Values) (x1.toNat)), 1, (gt ((gt x0 k13).Row.Values) (x2.toNat))⟩ : DGroup)]).length s.2), (9, .pointer (some (⟨p44, 0, none⟩ : Addr))), (25, .slice (some a23) x0.length c3), (26, .int .i64 ((x0.length : Nat) : Int)), (27, .int .i64 ((k13 : Nat) : Int)), (36, .slice (some a57) ((gt x0 k13).Set).length c41), (37, .int .i64 ((((gt x0 k13).Set).length : Nat) : Int)), (38, .int .i64 ((k47 : Nat) : Int))]) (fun s => [iOwn (tSl tyGroup 25) [.slice s.1 (d48 ++ [(⟨(gt ((gt x0 k13).Set) k47), (gt ((gt x0 k13).Row.Values) (x1.toNat)), 1, (gt ((gt x0 k13).Row.Values) (x2.toNat))⟩ : DGroup)]).length s.2] (d48 ++ [(⟨(gt ((gt x0 k13).Set) k47), (gt ((gt x0 k13).Row.Values) (x1.toNat)), 1, (gt ((gt x0 k13).Row.Values) (x2.toNat))⟩ : DGroup)]), iBox p44 72 K8]) (fun _ => True) ?_ ?_
      ·
       refine rb 18 (s := []) (pk []) ?_
       refine qt 18 0 1 rfl vmv ?_
       refine qt 18 1 3 rfl vmv ?_
       refine qt 18 2 7 rfl (vf underlying72 rfl type43) ?_
       refine qt 18 3 15 rfl (fun W hm => rv_fieldA (o := 1) underlying43 rfl type28 (by decide) rfl rfl) ?_
       refine qt 18 5 47 rfl vmv ?_
       refine qt 18 8 303 rfl (vf underlying72 rfl type43) ?_
       refine qt 18 9 815 rfl (fun W hm => rv_fieldA (o := 1) underlying43 rfl type28 (by decide) rfl rfl) ?_
       refine qt 18 11 2863 rfl vmv ?_
       refine qa [4, 10] ?_
       refine qc 18 2879 rfl ?_ ?_
       ·
        refine wv (vl 0 1 underlying28) ?_
        refine qn (pk []) ?_
        refine qt 18 6 2943 rfl (fun W hm => rv_indexI (sz := 1) (k := x1) underlying28 type3 rfl rfl rfl (by omega) (by omega)) ?_
        refine qt 18 7 3071 rfl (fun W hm => rv_load underlying3 rfl rfl ((hm.cell0 (show (a60.add ((x1.toNat) * 1)).block < w.heap.size from by rw [add_block]; exact hb61.1)).trans (rdS_int he62 (x1.toNat) (by omega)))) ?_
        refine qo 18 10 4095 rfl ?_
        refine wv (vl 0 1 underlying28) ?_
        refine qn (pk []) ?_
        refine qt 18 12 8191 rfl (fun W hm => rv_indexI (sz := 1) (k := x2) underlying28 type3 rfl rfl rfl (by omega) (by omega)) ?_
        refine qt 18 13 16383 rfl (fun W hm => rv_load underlying3 rfl rfl ((hm.cell0 (show (a60.add ((x2.toNat) * 1)).block < w.heap.size from by rw [add_block]; exact hb61.1)).trans (rdS_int he62 (x2.toNat) (by omega)))) ?_
        let K9 : List Value := [.int .i64 (gt ((gt x0 k13).Set) k47), .int .i64 (gt ((gt x0 k13).Row.Values) (x1.toNat)), .int .i64 1, .int .i64 (gt ((gt x0 k13).Row.Values) (x2.toNat))]
        refine qt 18 14 32767 rfl (fun W hm => rv_build (cs := K9) rfl (by kernel_rfl)) ?_
        refine qo 18 15 65535 rfl ?_
        refine WM_build (cs := K9) underlying68 type25 rfl (by decide) (by decide) rfl (by kernel_rfl) (Wd_none rfl) (by decide) (fun p69 => ?_)
        refine qn (pk []) ?_
        refine qo 18 16 131071 rfl ?_
        refine ap1 tyGroup 25 (.slice A49 d48.length c50) d48 (⟨(gt ((gt x0 k13).Set) k47), (gt ((gt x0 k13).Row.Values) (x1.toNat)), 1, (gt ((gt x0 k13).Row.Values) (x2.toNat))⟩ : DGroup) [] [iBox p44 72 K8] K9 (pk [0, 2, 1]) (fun _ _ hs => by cases (Sep.nil hs); exact (els_cons (tyGroup_join (x := (⟨(gt ((gt x0 k13).Set) k47), (gt ((gt x0 k13).Row.Values) (x1.toNat)), 1, (gt ((gt x0 k13).Row.Values) (x2.toNat))⟩ : DGroup)) (L := []) rfl) els_nil)) underlying68 type25 (show (d48.length + 1) * 32 ≤ 140737488355328 from by omega) (fun v70 => ?_)
        refine WM_form (n := 0) rfl ?_
        rintro A71 c72 rfl m73
        refine qn (pk []) ?_
        refine qt 18 17 262143 rfl (fun W hm => rv_assign rfl) ?_
        refine QB_done (by kernel_rfl) ?_
        exact QM_cut_normal (A71, c72) sl10 (fun W hm => hm) trivial
       refine qc 18 3887 rfl ?_ ?_
       ·
        refine wv (vl 0 1 underlying28) ?_
        refine qn (pk []) ?_
        refine qt 18 12 7983 rfl (fun W hm => rv_indexI (sz := 1) (k := x2) underlying28 type3 rfl rfl rfl (by omega) (by omega)) ?_
        refine qt 18 13 16175 rfl (fun W hm => rv_load underlying3 rfl rfl ((hm.cell0 (show (a60.add ((x2.toNat) * 1)).block < w.heap.size from by rw [add_block]; exact hb61.1)).trans (rdS_int he62 (x2.toNat) (by omega)))) ?_
        refine qo 18 4 16191 rfl ?_
        refine wv (vl 0 1 underlying28) ?_
        refine qn (pk []) ?_
        refine qt 18 6 16255 rfl (fun W hm => rv_indexI (sz := 1) (k := x1) underlying28 type3 rfl rfl rfl (by omega) (by omega)) ?_
        refine qt 18 7 16383 rfl (fun W hm => rv_load underlying3 rfl rfl ((hm.cell0 (show (a60.add ((x1.toNat) * 1)).block < w.heap.size from by rw [add_block]; exact hb61.1)).trans (rdS_int he62 (x1.toNat) (by omega)))) ?_
        let K10 : List Value := [.int .i64 (gt ((gt x0 k13).Set) k47), .int .i64 (gt ((gt x0 k13).Row.Values) (x1.toNat)), .int .i64 1, .int .i64 (gt ((gt x0 k13).Row.Values) (x2.toNat))]
        refine qt 18 14 32767 rfl (fun W hm => rv_build (cs := K10) rfl (by kernel_rfl)) ?_
        refine qo 18 15 65535 rfl ?_
        refine WM_build (cs := K10) underlying68 type25 rfl (by decide) (by decide) rfl (by kernel_rfl) (Wd_none rfl) (by decide) (fun p75 => ?_)
        refine qn (pk []) ?_
        refine qo 18 16 131071 rfl ?_
        refine ap1 tyGroup 25 (.slice A49 d48.length c50) d48 (⟨(gt ((gt x0 k13).Set) k47), (gt ((gt x0 k13).Row.Values) (x1.toNat)), 1, (gt ((gt x0 k13).Row.Values) (x2.toNat))⟩ : DGroup) [] [iBox p44 72 K8] K10 (pk [0, 2, 1]) (fun _ _ hs => by cases (Sep.nil hs); exact (els_cons (tyGroup_join (x := (⟨(gt ((gt x0 k13).Set) k47), (gt ((gt x0 k13).Row.Values) (x1.toNat)), 1, (gt ((gt x0 k13).Row.Values) (x2.toNat))⟩ : DGroup)) (L := []) rfl) els_nil)) underlying68 type25 (show (d48.length + 1) * 32 ≤ 140737488355328 from by omega) (fun v76 => ?_)
        refine WM_form (n := 0) rfl ?_
        rintro A77 c78 rfl m79
        refine qn (pk []) ?_
        refine qt 18 17 262143 rfl (fun W hm => rv_assign rfl) ?_
        refine QB_done (by kernel_rfl) ?_
        exact QM_cut_normal (A77, c78) sl10 (fun W hm => hm) trivial
       exact QBs_nil
      ·
       rintro ⟨A65, c66⟩ -
       show QM 110 _ _ _ .normal [(1, .int .i64 x1), (2, .int .i64 x2), (7, .slice A65 (d48 ++ [(⟨(gt ((gt x0 k13).Set) k47), (gt ((gt x0 k13).Row.Values) (x1.toNat)), 1, (gt ((gt x0 k13).Row.Values) (x2.toNat))⟩ : DGroup)]).length c66), (9, .pointer (some (⟨p44, 0, none⟩ : Addr))), (25, .slice (some a23) x0.length c3), (26, .int .i64 ((x0.length : Nat) : Int)), (27, .int .i64 ((k13 : Nat) : Int)), (36, .slice (some a57) ((gt x0 k13).Set).length c41), (37, .int .i64 ((((gt x0 k13).Set).length : Nat) : Int)), (38, .int .i64 ((k47 : Nat) : Int))] [iOwn (tSl tyGroup 25) [.slice A65 (d48 ++ [(⟨(gt ((gt x0 k13).Set) k47), (gt ((gt x0 k13).Row.Values) (x1.toNat)), 1, (gt ((gt x0 k13).Row.Values) (x2.toNat))⟩ : DGroup)]).length c66] (d48 ++ [(⟨(gt ((gt x0 k13).Set) k47), (gt ((gt x0 k13).Row.Values) (x1.toNat)), 1, (gt ((gt x0 k13).Row.Values) (x2.toNat))⟩ : DGroup)]), iBox p44 72 K8]
       refine QM_len (n := 0) rfl ?_
       intro m81 m82
       refine QM_block_normal (QM_then (CM_region ?_))
       refine wv (vadN k47 1 (by omega)) ?_
       refine wm (WM_nil ?_)
       have hn83 := rng_next (R := (List DGroup)) (body := F2) (k := k47) (s := d48) (s' := (d48 ++ [(⟨(gt ((gt x0 k13).Set) k47), (gt ((gt x0 k13).Row.Values) (x1.toNat)), 1, (gt ((gt x0 k13).Row.Values) (x2.toNat))⟩ : DGroup)])) (show k47 < ((gt x0 k13).Set).length from by omega) (rfl) hF52
       exact QM_round (k47 + 1, (d48 ++ [(⟨(gt ((gt x0 k13).Set) k47), (gt ((gt x0 k13).Row.Values) (x1.toNat)), 1, (gt ((gt x0 k13).Row.Values) (x2.toNat))⟩ : DGroup)]), (A65, c66)) sl10 (pk [1, 0]) ⟨(by omega), hn83, (show (d48 ++ [(⟨(gt ((gt x0 k13).Set) k47), (gt ((gt x0 k13).Row.Values) (x1.toNat)), 1, (gt ((gt x0 k13).Row.Values) (x2.toNat))⟩ : DGroup)]).length ≤ d14.length + (k47 + 1) from by first | omega | (simp only [List.length_append, List.length_cons, List.length_nil] at *; omega))⟩ (show ((gt x0 k13).Set).length - (k47 + 1) < ((gt x0 k13).Set).length - k47 from by omega)
     ·have g56 := dlF hl55
      refine CM_condF rfl g56 ?_
      refine CM_exit (QM_then_exit (QM_then_exit ?_))
      have hE84 : R5 (((gt x0 k13).Set).length - 0) 0 d14 = Sum.inr d48 := rng_end hl55 hF52
      refine QM_block_hit (QM_block_normal (QM_then (CM_region ?_)))
      refine wv (vadN k13 1 (by omega)) ?_
      refine wm (WM_nil ?_)
      have hn85 := rng_next (R := (List DGroup)) (body := F1) (k := k13) (s := d14) (s' := d48) (show k13 < x0.length from by omega) (cond_t g46 (fin_inr hE84 (rfl))) hF18
      exact QM_round (k13 + 1, d48, (A49, c50)) sl6 (pk [1]) ⟨(by omega), hn85, (show d48.length ≤ ((x0.take (k13 + 1)).map fun (a : DAnnotated) => a.Set.length).sum from by omega)⟩ (rl (by omega))
    ·
     refine CM_condT rfl (nf g46) ?_
     refine CM_exit (QM_then_exit (QM_block_hit (QM_then (CM_region ?_))))
     refine wv (vadN k13 1 (by omega)) ?_
     refine wm (WM_nil ?_)
     have hn86 := rng_next (R := (List DGroup)) (body := F1) (k := k13) (s := d14) (s' := d14) (show k13 < x0.length from by omega) (cond_f g46 (rfl)) hF18
     exact QM_round (k13 + 1, d14, (A15, c16)) sl6 (pk [1]) ⟨(by omega), hn86, (show d14.length ≤ ((x0.take (k13 + 1)).map fun (a : DAnnotated) => a.Set.length).sum from by omega)⟩ (rl (by omega))
   ·have g22 := dlF hl21
    refine CM_condF rfl g22 ?_
    refine CM_exit (QM_then_exit (QM_then_exit ?_))
    have hE87 : R4 (x0.length - 0) 0 [] = Sum.inr d14 := rng_end hl21 hF18
    have hq3 := sum_take_le (w := fun (a : DAnnotated) => a.Set.length) (xs := x0) k13
    refine QM_block_hit (QM_then (sr (wm ?_)))
    refine WM_sort (E := tyGroup) (e := 25) (xs := d14) (cf := impl_compareGroups_m) (js := []) impl_compareGroups_ord (fun W hm => hm) rfl cb74 (cl_fn cb73 rfl) (fun W cs ds x y hx hy => impl_compareGroups_c W cs x ds y hx hy) (fun K hK is H ps W hm => srt73_sort_c K hK _ _ _ _ is H _ _ _ (by omega) ps W hm) (Wd_none rfl) (by decide) ?_
    refine nt' (sr ?_)
    refine WM_build0 (E := tyGroup) underlying68 type25 (Wd_none rfl) (by decide) (fun p88 => ?_)
    refine wa (nt' (CM_seq (sr (wm ?_))))
    refine wv (vlen underlying68) ?_
    refine wm (nt' (CM_block ?_))
    let F3 := fun k (s : (List DGroup) × (List DGroup)) => impl_GroupShared_b3 k s.1 s.2
    let R6 := rng (R := (List DGroup)) F3
    refine CM_loop (σ := Nat × ((List DGroup) × (List DGroup)) × (Option Addr × Nat)) (fun s => [(12, .slice s.2.2.1 s.2.1.1.length s.2.2.2), (64, .slice A15 d14.length c16), (65, .int .i64 ((d14.length : Nat) : Int)), (66, .int .i64 ((s.1 : Nat) : Int))]) (fun s => [iOwn (tSl tyGroup 25) [.slice s.2.2.1 s.2.1.1.length s.2.2.2] s.2.1.1, iOwn (tSl tyGroup 25) [.slice A15 d14.length c16] s.2.1.2]) (fun s => s.1 ≤ d14.length ∧ R6 (d14.length - s.1) s.1 s.2.1 = R6 (d14.length - 0) 0 ([], (stb (lt0 impl_compareGroups_m) d14)) ∧ s.2.1.1.length ≤ 0 + s.1) (fun s => d14.length - s.1) (0, ([], (stb (lt0 impl_compareGroups_m) d14)), ((some ⟨p88, 0, none⟩), 0)) sl4 (fun W hm => hm) ⟨(by omega), rfl, Nat.le_refl _⟩ ?_
    rintro ⟨k90, ⟨d91, d94⟩, ⟨A92, c93⟩⟩ H97
    obtain ⟨hk95, hF96, hi98⟩ : k90 ≤ d14.length ∧ R6 (d14.length - k90) k90 (d91, d94) = R6 (d14.length - 0) 0 ([], (stb (lt0 impl_compareGroups_m) d14)) ∧ d91.length ≤ 0 + k90 := H97
    let I15 : It := iOwn (tSl tyGroup 25) [.slice A92 d91.length c93] d91
    show CM Tryd.prog 110 _ _ _ _ [(12, .slice A92 d91.length c93), (64, .slice A15 d14.length c16), (65, .int .i64 ((d14.length : Nat) : Int)), (66, .int .i64 ((k90 : Nat) : Int))] [I15, iOwn (tSl tyGroup 25) [.slice A15 d14.length c16] d94]
    refine sr ?_
    refine wv vlss ?_
    refine nt' (CM_seq ?_)
    by_cases hl99 : k90 < d14.length
    ·have g100 := dlT hl99
     refine CM_condT rfl g100 ?_
     refine CM_skip (QM_then (CM_seq (CM_block (sr ?_))))
     refine WM_formO (n := 1) rfl (by omega) ?_
     rintro g101 rfl
     refine wv (vix 4 k90 underlying68 type25) ?_
     refine WM_focus (E := tyGroup) (e := 25) (A := (some ⟨g101, 0, none⟩)) (n := d14.length) (c := c16) (xs := d94) (k := k90) (js := [I15]) (by omega) (pk [1, 0]) (fun ck102 => ?_)
     refine tyGroup_sp ?_
     rintro ⟨⟩ rfl
     let K11 : List Value := [.int .i64 ((gt d94 k90).Query), .int .i64 ((gt d94 k90).Value), .int .i64 ((gt d94 k90).Count), .int .i64 ((gt d94 k90).Sum)]
     refine wv (fun W hm => rv_loadN (cs := K11) underlying25 type25 rfl rfl (hm.focCells (i := 0) rfl rfl)) ?_
     refine WM_alloc type25 rfl (Wd_none rfl) (by decide) (fun p103 => ?_)
     refine sb 0 K11 [iFoc tyGroup 25 (some ⟨g101, 0, none⟩) d14.length c16 d94 k90 K11, I15] (fun W hm => hm) type25 ?_
     refine nt' (sr (wm ?_))
     refine wv (vlen underlying68) ?_
     refine wa (nt' (CM_seq ?_))
     by_cases h104 : 0 < ((d91.length : Nat) : Int)
     ·have g105 := decide_eq_true h104
      refine CM_formO (n := 2) rfl (by omega) ?_
      rintro g106 rfl
      refine CM_focus (E := tyGroup) (e := 25) (A := (some ⟨g106, 0, none⟩)) (n := d91.length) (c := c93) (xs := d91) (k := (d91.length - 1)) (js := [iBox p103 25 K11, iFoc tyGroup 25 (some ⟨g101, 0, none⟩) d14.length c16 d94 k90 K11]) (by omega) (pk [2, 0, 1]) (fun ck107 => ?_)
      let K12 : List Value := [.int .i64 ((gt d91 (d91.length - 1)).Query), .int .i64 ((gt d91 (d91.length - 1)).Value), .int .i64 ((gt d91 (d91.length - 1)).Count), .int .i64 ((gt d91 (d91.length - 1)).Sum)]
      refine CM_split (γ := Unit) (js := fun _ => []) (C := fun _ => ck107 = K12) (fun _ _ h => tyGroup_split h) ?_
      rintro ⟨⟩ rfl
      refine CM_regionD (by kernel_rfl) (by kernel_rfl) ?_
      refine qm ?_
      refine qv (fun W hm => rv_gtr rfl rfl) ?_
      refine qm ?_
      refine qg vmv g105 ?_
      refine qg vmv g105 ?_
      refine qg (fun W hm => rv_subN (p := d91.length) (q := 1) rfl rfl (by omega) (by omega)) g105 ?_
      refine qg (fun W hm => rv_index (sz := 4) (k := d91.length - 1) underlying68 type25 rfl rfl rfl (by omega)) g105 ?_
      refine qg (fun W hm => rv_loadN (cs := K12) underlying25 type25 rfl rfl (hm.focCells (i := 0) rfl rfl)) g105 ?_
      refine qg (fun W hm => rv_loadN (cs := K11) underlying25 type25 rfl rfl (hm.boxCells (n := 1) rfl)) g105 ?_
      refine QR_callV (cl_fn cb74 rfl) (fun W hm => impl_compareGroups_c W _ (gt d91 (d91.length - 1)) _ (gt d94 k90) (tyGroup_mk (x := (gt d91 (d91.length - 1)))) (tyGroup_mk (x := (gt d94 k90)))) (Wd_some rfl rfl rfl (bw g105 rfl)) (by decide) ?_
      refine qg (fun W hm => rv_eql rfl rfl) g105 ?_
      refine qv (vpT g105) ?_
      refine nq' ?_
      by_cases h108 : (impl_compareGroups_m (gt d91 (d91.length - 1)) (gt d94 k90)) = 0
      ·have g109 := beq_iff_eq.2 h108
       refine CM_condT rfl g109 ?_
       refine sr (wm (wm ?_))
       refine wv (fun W hm => rv_subN (p := d91.length) (q := 1) rfl rfl (by omega) (by omega)) ?_
       refine wv (fun W hm => rv_index (sz := 4) (k := d91.length - 1) underlying68 type25 rfl rfl rfl (by omega)) ?_
       refine wv (vf underlying25 rfl type3) ?_
       refine wv (fun W hm => rv_load underlying3 rfl rfl (hm.focCells (i := 0) rfl rfl 2 _ rfl)) ?_
       refine wv vadd ?_
       refine wv (fun W hm => rv_index (sz := 4) (k := d91.length - 1) underlying68 type25 rfl rfl rfl (by omega)) ?_
       refine wv (vf underlying25 rfl type3) ?_
       refine sf 2 4 [.int .i64 ((gt d91 (d91.length - 1)).Query), .int .i64 ((gt d91 (d91.length - 1)).Value), .int .i64 (IntKind.i64.wrap (((gt d91 (d91.length - 1)).Count) + 1)), .int .i64 ((gt d91 (d91.length - 1)).Sum)] [iBox p103 25 K11, iFoc tyGroup 25 (some ⟨g101, 0, none⟩) d14.length c16 d94 k90 K11] (fun W hm => hm) type3 ?_
       refine nt' ?_
       refine rb 12 (s := [iBox p103 25 K11, iFoc tyGroup 25 (some ⟨g101, 0, none⟩) d14.length c16 d94 k90 K11]) (pk [1, 2]) ?_
       refine qt 12 0 1 rfl vmv ?_
       refine qt 12 1 3 rfl vmv ?_
       refine qt 12 2 7 rfl (fun W hm => rv_subN (p := d91.length) (q := 1) rfl rfl (by omega) (by omega)) ?_
       refine qt 12 3 15 rfl (fun W hm => rv_index (sz := 4) (k := d91.length - 1) underlying68 type25 rfl rfl rfl (by omega)) ?_
       refine qt 12 4 31 rfl (vf underlying25 rfl type3) ?_
       refine qt 12 6 95 rfl (vf underlying25 rfl type3) ?_
       refine qt 12 7 223 rfl (vl 0 3 underlying3) ?_
       refine qo 12 5 255 rfl ?_
       refine wv (fun W hm => rv_load underlying3 rfl rfl (hm.focCells (i := 0) rfl rfl 3 _ rfl)) ?_
       refine qn (pk [1, 2]) ?_
       refine qt 12 8 511 rfl vadd ?_
       refine qt 12 9 1023 rfl (fun W hm => rv_index (sz := 4) (k := d91.length - 1) underlying68 type25 rfl rfl rfl (by omega)) ?_
       refine qt 12 10 2047 rfl (vf underlying25 rfl type3) ?_
       refine qo 12 11 4095 rfl ?_
       let K13 : List Value := [.int .i64 ((gt d91 (d91.length - 1)).Query), .int .i64 ((gt d91 (d91.length - 1)).Value), .int .i64 (IntKind.i64.wrap (((gt d91 (d91.length - 1)).Count) + 1)), .int .i64 (IntKind.i64.wrap (((gt d91 (d91.length - 1)).Sum) + ((gt d94 k90).Sum)))]
       refine sf 3 4 K13 [iBox p103 25 K11, iFoc tyGroup 25 (some ⟨g101, 0, none⟩) d14.length c16 d94 k90 K11] (fun W hm => hm) type3 ?_
       refine qn (pk [1, 2]) ?_
       refine QB_done (by kernel_rfl) ?_
       refine QM_block_normal (QM_then (CM_region ?_))
       refine wv (vadN k90 1 (by omega)) ?_
       refine wm (WM_nil ?_)
       refine QM_items (fun W hm => Mem.unfocus (Mem.join (is := []) (js := (iFoc tyGroup 25 (some ⟨g106, 0, none⟩) d91.length c93 d91 (d91.length - 1) K13 :: [iBox p103 25 K11, iFoc tyGroup 25 (some ⟨g101, 0, none⟩) d14.length c16 d94 k90 K11])) (fun _ _ hs => tyGroup_join (x := (⟨(gt d91 (d91.length - 1)).Query, (gt d91 (d91.length - 1)).Value, (IntKind.i64.wrap (((gt d91 (d91.length - 1)).Count) + 1)), (IntKind.i64.wrap (((gt d91 (d91.length - 1)).Sum) + ((gt d94 k90).Sum)))⟩ : DGroup)) hs) hm)) ?_
       refine QM_items (fun W hm => Mem.unfocus0 (Mem.join (is := []) (js := (iFoc tyGroup 25 (some ⟨g101, 0, none⟩) d14.length c16 d94 k90 K11 :: [iOwn (tSl tyGroup 25) [.slice (some ⟨g106, 0, none⟩) d91.length c93] (impl_GroupShared_v1 k90 d91 d94), iBox p103 25 K11])) (fun _ _ hs => tyGroup_join (x := (gt d94 k90)) hs) (hm.pick [2, 0, 1] (by decide)))) ?_
       have hl110 : d91.length = (impl_GroupShared_v1 k90 d91 d94).length := by first | rfl | exact List.length_set.symm
       rw [hl110]
       have hn111 := rng_next (R := (List DGroup)) (body := F3) (k := k90) (s := (d91, d94)) (s' := ((impl_GroupShared_v1 k90 d91 d94), d94)) (show k90 < d14.length from by omega) (cond_t g105 (cond_t g109 (rfl))) hF96
       exact QM_round (k90 + 1, ((impl_GroupShared_v1 k90 d91 d94), d94), ((some ⟨g106, 0, none⟩), c93)) sl4 (pk [1, 0]) ⟨(by omega), hn111, (show (impl_GroupShared_v1 k90 d91 d94).length ≤ 0 + (k90 + 1) from by first | omega | (simp only [List.length_append, List.length_cons, List.length_nil] at *; omega))⟩ (rl (by omega))
      ·have g109 := beq_eq_false_iff_ne.2 h108
       refine CM_condF rfl g109 ?_
       refine CM_region (wm ?_)
       refine wv (fun W hm => rv_loadN (cs := K11) underlying25 type25 rfl rfl (hm.boxCells (n := 1) rfl)) ?_
       refine WM_build (cs := K11) underlying68 type25 rfl (by decide) (by decide) rfl (by kernel_rfl) (Wd_none rfl) (by decide) (fun p112 => ?_)
       refine WM_items (fun W hm => Mem.unfocus0 (Mem.join (is := []) (js := (iFoc tyGroup 25 (some ⟨g106, 0, none⟩) d91.length c93 d91 (d91.length - 1) K12 :: [iBox p112 25 K11, iBox p103 25 K11, iFoc tyGroup 25 (some ⟨g101, 0, none⟩) d14.length c16 d94 k90 K11])) (fun _ _ hs => tyGroup_join (x := (gt d91 (d91.length - 1))) hs) (hm.pick [1, 0, 2, 3] (by decide)))) ?_
       refine ap1 tyGroup 25 (.slice (some ⟨g106, 0, none⟩) d91.length c93) d91 (gt d94 k90) [] [iBox p103 25 K11, iFoc tyGroup 25 (some ⟨g101, 0, none⟩) d14.length c16 d94 k90 K11] K11 (pk [1, 0, 2, 3]) (fun _ _ hs => by cases (Sep.nil hs); exact (els_cons (tyGroup_join (x := (gt d94 k90)) (L := []) rfl) els_nil)) underlying68 type25 (show (d91.length + 1) * 32 ≤ 140737488355328 from by omega) (fun v113 => ?_)
       refine WM_form (n := 0) rfl ?_
       rintro A114 c115 rfl m116
       refine wa (WM_nil (QM_block_normal (QM_then (CM_region ?_))))
       refine wv (vadN k90 1 (by omega)) ?_
       refine wm (WM_nil ?_)
       refine QM_items (fun W hm => Mem.unfocus0 (Mem.join (is := []) (js := (iFoc tyGroup 25 (some ⟨g101, 0, none⟩) d14.length c16 d94 k90 K11 :: [iOwn (tSl tyGroup 25) [.slice A114 (d91 ++ [(gt d94 k90)]).length c115] (d91 ++ [(gt d94 k90)]), iBox p103 25 K11])) (fun _ _ hs => tyGroup_join (x := (gt d94 k90)) hs) (hm.pick [2, 0, 1] (by decide)))) ?_
       have hn118 := rng_next (R := (List DGroup)) (body := F3) (k := k90) (s := (d91, d94)) (s' := ((d91 ++ [(gt d94 k90)]), d94)) (show k90 < d14.length from by omega) (cond_t g105 (cond_f g109 (rfl))) hF96
       exact QM_round (k90 + 1, ((d91 ++ [(gt d94 k90)]), d94), (A114, c115)) sl4 (pk [1, 0]) ⟨(by omega), hn118, (show (d91 ++ [(gt d94 k90)]).length ≤ 0 + (k90 + 1) from by first | omega | (simp only [List.length_append, List.length_cons, List.length_nil] at *; omega))⟩ (rl (by omega))
     ·have g105 := decide_eq_false h104
      refine CM_regionD (by kernel_rfl) (by kernel_rfl) ?_
      refine qm ?_
      refine qv (fun W hm => rv_gtr rfl rfl) ?_
      refine qm ?_
      refine qs g105 ?_
      refine qs g105 ?_
      refine qs g105 ?_
      refine qs g105 ?_
      refine qs g105 ?_
      refine qs g105 ?_
      refine qs g105 ?_
      refine qs g105 ?_
      refine qv (vpF g105) ?_
      refine nq' ?_
      refine CM_condF rfl rfl ?_
      refine CM_region (wm ?_)
      refine wv (fun W hm => rv_loadN (cs := K11) underlying25 type25 rfl rfl (hm.boxCells (n := 0) rfl)) ?_
      refine WM_build (cs := K11) underlying68 type25 rfl (by decide) (by decide) rfl (by kernel_rfl) (Wd_none rfl) (by decide) (fun p119 => ?_)
      refine ap1 tyGroup 25 (.slice A92 d91.length c93) d91 (gt d94 k90) [] [iBox p103 25 K11, iFoc tyGroup 25 (some ⟨g101, 0, none⟩) d14.length c16 d94 k90 K11] K11 (pk [0, 3, 1, 2]) (fun _ _ hs => by cases (Sep.nil hs); exact (els_cons (tyGroup_join (x := (gt d94 k90)) (L := []) rfl) els_nil)) underlying68 type25 (show (d91.length + 1) * 32 ≤ 140737488355328 from by omega) (fun v120 => ?_)
      refine WM_form (n := 0) rfl ?_
      rintro A121 c122 rfl m123
      refine wa (WM_nil (QM_block_normal (QM_then (CM_region ?_))))
      refine wv (vadN k90 1 (by omega)) ?_
      refine wm (WM_nil ?_)
      refine QM_items (fun W hm => Mem.unfocus0 (Mem.join (is := []) (js := (iFoc tyGroup 25 (some ⟨g101, 0, none⟩) d14.length c16 d94 k90 K11 :: [iOwn (tSl tyGroup 25) [.slice A121 (d91 ++ [(gt d94 k90)]).length c122] (d91 ++ [(gt d94 k90)]), iBox p103 25 K11])) (fun _ _ hs => tyGroup_join (x := (gt d94 k90)) hs) (hm.pick [2, 0, 1] (by decide)))) ?_
      have hn125 := rng_next (R := (List DGroup)) (body := F3) (k := k90) (s := (d91, d94)) (s' := ((d91 ++ [(gt d94 k90)]), d94)) (show k90 < d14.length from by omega) (cond_f g105 (rfl)) hF96
      exact QM_round (k90 + 1, ((d91 ++ [(gt d94 k90)]), d94), (A121, c122)) sl4 (pk [1, 0]) ⟨(by omega), hn125, (show (d91 ++ [(gt d94 k90)]).length ≤ 0 + (k90 + 1) from by first | omega | (simp only [List.length_append, List.length_cons, List.length_nil] at *; omega))⟩ (rl (by omega))
    ·have g100 := dlF hl99
     refine CM_condF rfl g100 ?_
     refine CM_exit (QM_then_exit (QM_then_exit ?_))
     have hE126 : R6 (d14.length - 0) 0 ([], (stb (lt0 impl_compareGroups_m) d14)) = Sum.inr (d91, d94) := rng_end hl99 hF96
     refine QM_block_hit (QM_then (sr (wm (wa (nt' (CM_ret ?_))))))
     have he127 := (show impl_GroupShared_m x0 x1 x2 = d91 from cond_t g8 (cond_t g10 (fin_inr hE87 (fin_inr hE126 (rfl)))))
     refine QM_r1 rfl (RR_tmp rfl) (fun W hm => ⟨.slice A92 d91.length c93, ?_, ?_⟩)
     ·first | rw [he127] | rfl
     ·rw [he127]; exact (hm.pick [0] (by decide))
  ·
   refine CM_condT rfl (nf g10) ?_
   refine sr (wa (nt' (CM_ret (QM_then_ret ?_))))
   refine QM_items (fun W hm => hm.addNil (E := tyGroup) (e := 25)) ?_
   have he129 := (show impl_GroupShared_m x0 x1 x2 = [] from cond_t g8 (cond_f g10 (rfl)))
   refine QM_r1 rfl (RR_tmp rfl) (fun W hm => ⟨.slice none 0 0, ?_, ?_⟩)
   ·first | rw [he129] | rfl
   ·rw [he129]; exact hm
 ·
  refine ws (nf g8) ?_
  refine ws (nf g8) ?_
  refine ws (nf g8) ?_
  refine wv (vpT (nf g8)) ?_
  refine nt' ?_
  refine CM_condT rfl rfl ?_
  refine sr (wa (nt' (CM_ret (QM_then_ret ?_))))
  refine QM_items (fun W hm => hm.addNil (E := tyGroup) (e := 25)) ?_
  have he131 := (show impl_GroupShared_m x0 x1 x2 = [] from cond_f g8 (rfl))
  refine QM_r1 rfl (RR_tmp rfl) (fun W hm => ⟨.slice none 0 0, ?_, ?_⟩)
  ·first | rw [he131] | rfl
  ·rw [he131]; exact hm

def spec_l14Fine_m (x0 : Int) (x1 : Int) : Bool :=
 cond (spec_l1In_m x0 0 2) (spec_l1In_m x1 0 2) false
theorem cb75 : Cb Tryd.prog 75 := ⟨f75, _, func75, rfl, by decide⟩
theorem spec_l14Fine_c (w : World) (x0 : Int) (x1 : Int) :
  Calls Tryd.prog 75 #[.int .i64 x0, .int .i64 x1] w fun e w' => e = .returned (.bool (spec_l14Fine_m x0 x1)) ∧ Below w.heap.size w w' := by
 refine ce2 (L := [(0, .int .i64 x0), (1, .int .i64 x1)]) (N := 11) func75 ?_
 refine sr (wa (nt' (sr (wm ?_))))
 refine wcv (cl_fn cb48 rfl) (fun W hm => spec_l1In_c W x0 0 2) ?_
 refine wm ?_
 rcases Bool.eq_false_or_eq_true (spec_l1In_m x0 0 2) with g2 | g2
 ·
  have hw := spec_l1In_fact g2
  refine wg vmv g2 ?_
  refine WM_callV (cl_fn cb48 rfl) (fun W hm => spec_l1In_c W x1 0 2) (Wd_some rfl rfl rfl (bw g2 rfl)) (by decide) ?_
  refine wv (vpT g2) ?_
  refine wa (nt' (CM_ret ?_))
  exact rtb (h := cond_t g2 (rfl))
 ·
  refine ws g2 ?_
  refine ws g2 ?_
  refine wv (vpF g2) ?_
  refine wa (nt' (CM_ret ?_))
  exact rtb (h := cond_f g2 (rfl))

def spec_l14Put_b2 (x0 : (List DGroup)) (x1 : Int) (x2 : Int) (k22 : Nat) (s23 : Nat) : (List DGroup) ⊕ ((Nat) ⊕ (Nat)) :=
 cond (decide (((s23 : Nat) : Int) < ((x0.length : Nat) : Int))) (cond (decide (((gt x0 s23).Query) < x1)) (Sum.inr (Sum.inr (s23 + 1))) (cond (((gt x0 s23).Query) == x1) (cond (decide (((gt x0 s23).Value) < x2)) (Sum.inr (Sum.inr (s23 + 1))) (Sum.inr (Sum.inl s23))) (Sum.inr (Sum.inl s23)))) (Sum.inr (Sum.inl s23))
def spec_l14Put_b1 (x0 : (List DGroup)) (x1 : Int) (x2 : Int) (x3 : Int) (k6 : Nat) : (List DGroup) ⊕ (Unit) :=
 cond (((gt x0 k6).Query) == x1) (cond (((gt x0 k6).Value) == x2) (Sum.inl (x0.set k6 (⟨(gt x0 k6).Query, (gt x0 k6).Value, (IntKind.i64.wrap (((gt x0 k6).Count) + 1)), (IntKind.i64.wrap (((gt x0 k6).Sum) + x3))⟩ : DGroup))) (Sum.inr ())) (Sum.inr ())
def spec_l14Put_m (x0 : (List DGroup)) (x1 : Int) (x2 : Int) (x3 : Int) : (List DGroup) :=
 Sum.elim id (fun (s1_ : Unit) => Sum.elim id (fun (s : Nat) => (((List.take s x0) ++ [(⟨x1, x2, 1, x3⟩ : DGroup)]) ++ (List.drop s x0))) (rngb (R := (List DGroup)) (fun k (s : Nat) => spec_l14Put_b2 x0 x1 x2 k s) (x0.length + 1 - 0) 0 0)) (rng (R := (List DGroup)) (fun k (_ : Unit) => spec_l14Put_b1 x0 x1 x2 x3 k) (x0.length - 0) 0 ())
theorem cb77 : Cb Tryd.prog 77 := ⟨f77, _, func77, rfl, by decide⟩
theorem spec_l14Put_c (B : Nat) (w0 : World) (is : List It) (w : World) (z0 : Value) (x0 : (List DGroup)) (x1 : Int) (x2 : Int) (x3 : Int) (s_0 : x0.length ≤ 68719476736) (hm : Mem B w0 (iOwn (tSl tyGroup 25) [z0] x0 :: is) w) :
  Calls Tryd.prog 77 #[z0, .int .i64 x1, .int .i64 x2, .int .i64 x3] w fun e w' => ∃ v : Value, e = .returned (v) ∧ Mem B w0 (iOwn (tSl tyGroup 25) [v] (spec_l14Put_m x0 x1 x2 x3) :: is) w' := by
 refine call_enterW (L := [(0, z0), (1, .int .i64 x1), (2, .int .i64 x2), (3, .int .i64 x3)]) (N := 106) func77 rfl rfl (Nat.le_of_ble_eq_true rfl) (argsL_cons rfl (argsL_cons rfl (argsL_cons rfl (argsL_cons rfl argsL_nil)))) hm ?_
 refine CM_form (n := 0) rfl ?_
 rintro A1 c2 rfl m3
 have l5 : x0.length ≤ 68719476736 := s_0
 refine sr (wa (nt' (CM_seq (sr (wa (nt' (CM_block ?_)))))))
 let F1 := fun k (_ : Unit) => spec_l14Put_b1 x0 x1 x2 x3 k
 let R3 := rng (R := (List DGroup)) F1
 let I6 : It := iOwn (tSl tyGroup 25) [.slice A1 x0.length c2] x0
 refine CM_loop (σ := Nat × (Unit) × (Unit)) (fun s => [(0, .slice A1 x0.length c2), (1, .int .i64 x1), (2, .int .i64 x2), (3, .int .i64 x3), (9, .int .i64 ((s.1 : Nat) : Int))]) (fun s => (I6 :: is)) (fun s => s.1 ≤ x0.length ∧ R3 (x0.length - s.1) s.1 s.2.1 = R3 (x0.length - 0) 0 ()) (fun s => x0.length - s.1) (0, (), ()) sl5 (fun W hm => hm) ⟨(by omega), rfl⟩ ?_
 rintro ⟨k6, ⟨⟩, ⟨⟩⟩ H9
 obtain ⟨hk7, hF8⟩ : k6 ≤ x0.length ∧ R3 (x0.length - k6) k6 () = R3 (x0.length - 0) 0 () := H9
 show CM Tryd.prog 106 _ _ _ _ [(0, .slice A1 x0.length c2), (1, .int .i64 x1), (2, .int .i64 x2), (3, .int .i64 x3), (9, .int .i64 ((k6 : Nat) : Int))] (I6 :: is)
 refine CM_seq (sr (wm (wm ?_)))
 refine wv (vlen underlying68) ?_
 refine wv vlss ?_
 refine nt' ?_
 by_cases hl10 : k6 < x0.length
 ·have g11 := dlT hl10
  refine CM_condT rfl g11 ?_
  refine CM_skip (QM_then (CM_seq (CM_block (sr (wm (wm ?_))))))
  refine WM_formO (n := 0) rfl (by omega) ?_
  rintro g12 rfl
  refine wv (vix 4 k6 underlying68 type25) ?_
  refine wv (vf underlying25 rfl type3) ?_
  refine WM_focus (E := tyGroup) (e := 25) (A := (some ⟨g12, 0, none⟩)) (n := x0.length) (c := c2) (xs := x0) (k := k6) (js := (is)) (by omega) (fun W hm => (hm.front (n := 0) rfl)) (fun ck13 => ?_)
  refine tyGroup_sp ?_
  rintro ⟨⟩ rfl
  refine wv (fun W hm => rv_load underlying3 rfl rfl (hm.focCells (i := 0) rfl rfl 0 _ rfl)) ?_
  refine wm ?_
  refine wv (fun W hm => rv_eql rfl rfl) ?_
  refine wm ?_
  by_cases h14 : ((gt x0 k6).Query) = x1
  ·have g15 := beq_iff_eq.2 h14
   refine wg vmv g15 ?_
   refine wg vmv g15 ?_
   refine wg (vix 4 k6 underlying68 type25) g15 ?_
   refine wg (vf underlying25 rfl type3) g15 ?_
   refine wg (fun W hm => rv_load underlying3 rfl rfl (hm.focCells (i := 0) rfl rfl 1 _ rfl)) g15 ?_
   refine wg vmv g15 ?_
   refine wg (fun W hm => rv_eql rfl rfl) g15 ?_
   refine wv (vpT g15) ?_
   refine nt' ?_
   by_cases h16 : ((gt x0 k6).Value) = x2
   ·have g17 := beq_iff_eq.2 h16
    refine CM_condT rfl g17 ?_
    refine sr (wm (wm (wm (wm ?_))))
    refine wv (vix 4 k6 underlying68 type25) ?_
    refine wv (vf underlying25 rfl type3) ?_
    refine wv (fun W hm => rv_load underlying3 rfl rfl (hm.focCells (i := 0) rfl rfl 2 _ rfl)) ?_
    refine wv vadd ?_
    refine wv (vix 4 k6 underlying68 type25) ?_
    refine wv (vf underlying25 rfl type3) ?_
    refine sf 2 4 [.int .i64 ((gt x0 k6).Query), .int .i64 ((gt x0 k6).Value), .int .i64 (IntKind.i64.wrap (((gt x0 k6).Count) + 1)), .int .i64 ((gt x0 k6).Sum)] (is) (fun W hm => (hm.front (n := 0) rfl)) type3 ?_
    refine nt' (sr (wm (wm (wm (wm ?_)))))
    refine wv (vix 4 k6 underlying68 type25) ?_
    refine wv (vf underlying25 rfl type3) ?_
    refine wv (fun W hm => rv_load underlying3 rfl rfl (hm.focCells (i := 0) rfl rfl 3 _ rfl)) ?_
    refine wm ?_
    refine wv vadd ?_
    refine wv (vix 4 k6 underlying68 type25) ?_
    refine wv (vf underlying25 rfl type3) ?_
    let K5 : List Value := [.int .i64 ((gt x0 k6).Query), .int .i64 ((gt x0 k6).Value), .int .i64 (IntKind.i64.wrap (((gt x0 k6).Count) + 1)), .int .i64 (IntKind.i64.wrap (((gt x0 k6).Sum) + x3))]
    refine sf 3 4 K5 (is) (fun W hm => (hm.front (n := 0) rfl)) type3 ?_
    refine nt' (sr (wm (wa (nt' (CM_ret (QM_block_ret (QM_then_ret (QM_then_ret (QM_block_ret (QM_then_ret ?_))))))))))
    refine QM_items (fun W hm => Mem.unfocus (Mem.join (is := []) (js := (iFoc tyGroup 25 (some ⟨g12, 0, none⟩) x0.length c2 x0 k6 K5 :: (is))) (fun _ _ hs => tyGroup_join (x := (⟨(gt x0 k6).Query, (gt x0 k6).Value, (IntKind.i64.wrap (((gt x0 k6).Count) + 1)), (IntKind.i64.wrap (((gt x0 k6).Sum) + x3))⟩ : DGroup)) hs) (hm.front (n := 0) rfl))) ?_
    have he18 := (show spec_l14Put_m x0 x1 x2 x3 = (x0.set k6 (⟨(gt x0 k6).Query, (gt x0 k6).Value, (IntKind.i64.wrap (((gt x0 k6).Count) + 1)), (IntKind.i64.wrap (((gt x0 k6).Sum) + x3))⟩ : DGroup)) from fin_inl (rng_ret (body := F1) (k := k6) (s := ()) (show k6 < x0.length from by omega) (cond_t g15 (cond_t g17 (rfl))) hF8) rfl)
    refine QM_r1 rfl (RR_tmp rfl) (fun W hm => ⟨.slice (some ⟨g12, 0, none⟩) x0.length c2, ?_, ?_⟩)
    ·first | rw [he18] | rfl
    ·rw [he18]; exact hm
   ·have g17 := beq_eq_false_iff_ne.2 h16
    refine CM_condF rfl g17 ?_
    refine CM_skip (QM_block_normal (QM_then (CM_region (wm ?_))))
    refine wv (vadN k6 1 (by omega)) ?_
    refine wa (WM_nil ?_)
    refine QM_items (fun W hm => Mem.unfocus0 (Mem.join (is := []) (js := (iFoc tyGroup 25 (some ⟨g12, 0, none⟩) x0.length c2 x0 k6 [.int .i64 ((gt x0 k6).Query), .int .i64 ((gt x0 k6).Value), .int .i64 ((gt x0 k6).Count), .int .i64 ((gt x0 k6).Sum)] :: (is))) (fun _ _ hs => tyGroup_join (x := (gt x0 k6)) hs) (hm.front (n := 0) rfl))) ?_
    have hn19 := rng_next (R := (List DGroup)) (body := F1) (k := k6) (s := ()) (s' := ()) (show k6 < x0.length from by omega) (cond_t g15 (cond_f g17 (rfl))) hF8
    exact QM_round (k6 + 1, (), ()) sl5 (fun W hm => hm) ⟨(by omega), hn19⟩ (rl (by omega))
  ·have g15 := beq_eq_false_iff_ne.2 h14
   refine ws g15 ?_
   refine ws g15 ?_
   refine ws g15 ?_
   refine ws g15 ?_
   refine ws g15 ?_
   refine ws g15 ?_
   refine ws g15 ?_
   refine wv (vpF g15) ?_
   refine nt' ?_
   refine CM_condF rfl rfl ?_
   refine CM_skip (QM_block_normal (QM_then (CM_region (wm ?_))))
   refine wv (vadN k6 1 (by omega)) ?_
   refine wa (WM_nil ?_)
   refine QM_items (fun W hm => Mem.unfocus0 (Mem.join (is := []) (js := (iFoc tyGroup 25 (some ⟨g12, 0, none⟩) x0.length c2 x0 k6 [.int .i64 ((gt x0 k6).Query), .int .i64 ((gt x0 k6).Value), .int .i64 ((gt x0 k6).Count), .int .i64 ((gt x0 k6).Sum)] :: (is))) (fun _ _ hs => tyGroup_join (x := (gt x0 k6)) hs) (hm.front (n := 0) rfl))) ?_
   have hn20 := rng_next (R := (List DGroup)) (body := F1) (k := k6) (s := ()) (s' := ()) (show k6 < x0.length from by omega) (cond_f g15 (rfl)) hF8
   exact QM_round (k6 + 1, (), ()) sl5 (fun W hm => hm) ⟨(by omega), hn20⟩ (rl (by omega))
 ·have g11 := dlF hl10
  refine CM_condF rfl g11 ?_
  refine CM_exit (QM_then_exit (QM_then_exit ?_))
  have hE21 : R3 (x0.length - 0) 0 () = Sum.inr () := rng_end hl10 hF8
  refine QM_block_hit (QM_then (sr (wa (nt' (CM_seq ?_)))))
  let F2 := fun k (s : Nat) => spec_l14Put_b2 x0 x1 x2 k s
  let R4 := rngb (R := (List DGroup)) F2
  refine CM_cut (σ := (Nat) × (Unit)) (fun s => [(0, .slice A1 x0.length c2), (1, .int .i64 x1), (2, .int .i64 x2), (3, .int .i64 x3), (10, .int .i64 ((s.1 : Nat) : Int))]) (fun s => (I6 :: is)) (fun s => R4 (x0.length + 1 - 0) 0 0 = Sum.inr s.1 ∧ s.1 ≤ x0.length) ?_ ?_
  ·
   refine CM_block ?_
   refine CM_loop (σ := Nat × (Nat) × (Unit)) (fun s => [(0, .slice A1 x0.length c2), (1, .int .i64 x1), (2, .int .i64 x2), (3, .int .i64 x3), (10, .int .i64 ((s.2.1 : Nat) : Int))]) (fun s => (I6 :: is)) (fun s => s.1 + (x0.length - s.2.1) + 1 ≤ x0.length + 1 ∧ R4 (x0.length + 1 - s.1) s.1 s.2.1 = R4 (x0.length + 1 - 0) 0 0 ∧ s.2.1 ≤ x0.length) (fun s => x0.length + 1 - s.1) (0, 0, ()) sl5 (fun W hm => hm) ⟨(show 0 + (x0.length - 0) + 1 ≤ x0.length + 1 from by omega), rfl, (show 0 ≤ x0.length from by omega)⟩ ?_
   rintro ⟨k22, s23, ⟨⟩⟩ H26
   obtain ⟨hk24, hF25, hi27⟩ : k22 + (x0.length - s23) + 1 ≤ x0.length + 1 ∧ R4 (x0.length + 1 - k22) k22 s23 = R4 (x0.length + 1 - 0) 0 0 ∧ s23 ≤ x0.length := H26
   show CM Tryd.prog 106 _ _ _ _ [(0, .slice A1 x0.length c2), (1, .int .i64 x1), (2, .int .i64 x2), (3, .int .i64 x3), (10, .int .i64 ((s23 : Nat) : Int))] (I6 :: is)
   refine CM_seq (sr (wm (wm ?_)))
   refine wv (vlen underlying68) ?_
   refine wv vlss ?_
   refine wm ?_
   by_cases h28 : ((s23 : Nat) : Int) < ((x0.length : Nat) : Int)
   ·have g29 := decide_eq_true h28
    refine wg vmv g29 ?_
    refine wg vmv g29 ?_
    refine WM_formO (n := 0) rfl (by omega) ?_
    rintro g30 rfl
    refine wg (vix 4 s23 underlying68 type25) g29 ?_
    refine wg (vf underlying25 rfl type3) g29 ?_
    refine WM_focus (E := tyGroup) (e := 25) (A := (some ⟨g30, 0, none⟩)) (n := x0.length) (c := c2) (xs := x0) (k := s23) (js := (is)) (by omega) (fun W hm => (hm.front (n := 0) rfl)) (fun ck31 => ?_)
    refine tyGroup_sp ?_
    rintro ⟨⟩ rfl
    refine wg (fun W hm => rv_load underlying3 rfl rfl (hm.focCells (i := 0) rfl rfl 0 _ rfl)) g29 ?_
    refine wg vmv g29 ?_
    refine wg vlss g29 ?_
    refine wg vmv g29 ?_
    by_cases h32 : ((gt x0 s23).Query) < x1
    ·have g33 := decide_eq_true h32
     refine ws g33 ?_
     refine ws g33 ?_
     refine ws g33 ?_
     refine ws g33 ?_
     refine ws g33 ?_
     refine ws g33 ?_
     refine ws g33 ?_
     refine ws g33 ?_
     refine wu ?_
     refine wu ?_
     refine wu ?_
     refine wu ?_
     refine wu ?_
     refine wu ?_
     refine wu ?_
     refine ws g33 ?_
     refine wg (vpT g33) g29 ?_
     refine wv (vpT g29) ?_
     refine nt' ?_
     refine CM_condT rfl rfl ?_
     refine CM_skip (QM_then (CM_block (CM_region (wm ?_))))
     refine wv (vadN s23 1 (by omega)) ?_
     refine wa (WM_nil (QM_block_normal ?_))
     refine QM_items (fun W hm => Mem.unfocus0 (Mem.join (is := []) (js := (iFoc tyGroup 25 (some ⟨g30, 0, none⟩) x0.length c2 x0 s23 [.int .i64 ((gt x0 s23).Query), .int .i64 ((gt x0 s23).Value), .int .i64 ((gt x0 s23).Count), .int .i64 ((gt x0 s23).Sum)] :: (is))) (fun _ _ hs => tyGroup_join (x := (gt x0 s23)) hs) (hm.front (n := 0) rfl))) ?_
     have hn34 := rngb_next (R := (List DGroup)) (body := F2) (k := k22) (s := s23) (s' := s23 + 1) (show k22 < x0.length + 1 from by omega) (cond_t g29 (cond_t g33 (rfl))) hF25
     exact QM_round (k22 + 1, s23 + 1, ()) sl5 (fun W hm => hm) ⟨(show (k22 + 1) + (x0.length - (s23 + 1)) + 1 ≤ x0.length + 1 from by omega), hn34, (show (s23 + 1) ≤ x0.length from by first | omega | (simp only [List.length_append, List.length_cons, List.length_nil] at *; omega))⟩ (show x0.length + 1 - (k22 + 1) < x0.length + 1 - k22 from by omega)
    ·have g33 := decide_eq_false h32
     refine wg vmv g33 ?_
     refine wg vmv g33 ?_
     refine wg (vix 4 s23 underlying68 type25) g33 ?_
     refine wg (vf underlying25 rfl type3) g33 ?_
     refine wg (fun W hm => rv_load underlying3 rfl rfl (hm.focCells (i := 0) rfl rfl 0 _ rfl)) g33 ?_
     refine wg vmv g33 ?_
     refine wg (fun W hm => rv_eql rfl rfl) g33 ?_
     refine wg vmv g33 ?_
     by_cases h35 : ((gt x0 s23).Query) = x1
     ·have g36 := beq_iff_eq.2 h35
      refine wg vmv g36 ?_
      refine wg vmv g36 ?_
      refine wg (vix 4 s23 underlying68 type25) g36 ?_
      refine wg (vf underlying25 rfl type3) g36 ?_
      refine wg (fun W hm => rv_load underlying3 rfl rfl (hm.focCells (i := 0) rfl rfl 1 _ rfl)) g36 ?_
      refine wg vmv g36 ?_
      refine wg vlss g36 ?_
      refine wg (vpT g36) g33 ?_
      refine wg (vpF g33) g29 ?_
      refine wv (vpT g29) ?_
      refine nt' ?_
      by_cases h37 : ((gt x0 s23).Value) < x2
      ·have g38 := decide_eq_true h37
       refine CM_condT rfl g38 ?_
       refine CM_skip (QM_then (CM_block (CM_region (wm ?_))))
       refine wv (vadN s23 1 (by omega)) ?_
       refine wa (WM_nil (QM_block_normal ?_))
       refine QM_items (fun W hm => Mem.unfocus0 (Mem.join (is := []) (js := (iFoc tyGroup 25 (some ⟨g30, 0, none⟩) x0.length c2 x0 s23 [.int .i64 ((gt x0 s23).Query), .int .i64 ((gt x0 s23).Value), .int .i64 ((gt x0 s23).Count), .int .i64 ((gt x0 s23).Sum)] :: (is))) (fun _ _ hs => tyGroup_join (x := (gt x0 s23)) hs) (hm.front (n := 0) rfl))) ?_
       have hn39 := rngb_next (R := (List DGroup)) (body := F2) (k := k22) (s := s23) (s' := s23 + 1) (show k22 < x0.length + 1 from by omega) (cond_t g29 (cond_f g33 (cond_t g36 (cond_t g38 (rfl))))) hF25
       exact QM_round (k22 + 1, s23 + 1, ()) sl5 (fun W hm => hm) ⟨(show (k22 + 1) + (x0.length - (s23 + 1)) + 1 ≤ x0.length + 1 from by omega), hn39, (show (s23 + 1) ≤ x0.length from by first | omega | (simp only [List.length_append, List.length_cons, List.length_nil] at *; omega))⟩ (show x0.length + 1 - (k22 + 1) < x0.length + 1 - k22 from by omega)
      ·have g38 := decide_eq_false h37
       refine CM_condF rfl g38 ?_
       refine CM_exit (QM_then_exit (QM_then_exit (QM_block_hit ?_)))
       refine QM_items (fun W hm => Mem.unfocus0 (Mem.join (is := []) (js := (iFoc tyGroup 25 (some ⟨g30, 0, none⟩) x0.length c2 x0 s23 [.int .i64 ((gt x0 s23).Query), .int .i64 ((gt x0 s23).Value), .int .i64 ((gt x0 s23).Count), .int .i64 ((gt x0 s23).Sum)] :: (is))) (fun _ _ hs => tyGroup_join (x := (gt x0 s23)) hs) (hm.front (n := 0) rfl))) ?_
       have hE40 := rngb_brk (R := (List DGroup)) (body := F2) (k := k22) (s := s23) (s' := s23) (show k22 < x0.length + 1 from by omega) (cond_t g29 (cond_f g33 (cond_t g36 (cond_f g38 (rfl))))) hF25
       exact QM_cut_normal (s23, ()) sl5 (fun W hm => hm) ⟨hE40, (show s23 ≤ x0.length from by first | omega | (simp only [List.length_append, List.length_cons, List.length_nil] at *; omega))⟩
     ·have g36 := beq_eq_false_iff_ne.2 h35
      refine ws g36 ?_
      refine ws g36 ?_
      refine ws g36 ?_
      refine ws g36 ?_
      refine ws g36 ?_
      refine ws g36 ?_
      refine ws g36 ?_
      refine wg (vpF g36) g33 ?_
      refine wg (vpF g33) g29 ?_
      refine wv (vpT g29) ?_
      refine nt' ?_
      refine CM_condF rfl rfl ?_
      refine CM_exit (QM_then_exit (QM_then_exit (QM_block_hit ?_)))
      refine QM_items (fun W hm => Mem.unfocus0 (Mem.join (is := []) (js := (iFoc tyGroup 25 (some ⟨g30, 0, none⟩) x0.length c2 x0 s23 [.int .i64 ((gt x0 s23).Query), .int .i64 ((gt x0 s23).Value), .int .i64 ((gt x0 s23).Count), .int .i64 ((gt x0 s23).Sum)] :: (is))) (fun _ _ hs => tyGroup_join (x := (gt x0 s23)) hs) (hm.front (n := 0) rfl))) ?_
      have hE41 := rngb_brk (R := (List DGroup)) (body := F2) (k := k22) (s := s23) (s' := s23) (show k22 < x0.length + 1 from by omega) (cond_t g29 (cond_f g33 (cond_f g36 (rfl)))) hF25
      exact QM_cut_normal (s23, ()) sl5 (fun W hm => hm) ⟨hE41, (show s23 ≤ x0.length from by first | omega | (simp only [List.length_append, List.length_cons, List.length_nil] at *; omega))⟩
   ·have g29 := decide_eq_false h28
    refine ws g29 ?_
    refine ws g29 ?_
    refine ws g29 ?_
    refine ws g29 ?_
    refine ws g29 ?_
    refine ws g29 ?_
    refine ws g29 ?_
    refine ws g29 ?_
    refine wu ?_
    refine wu ?_
    refine wu ?_
    refine wu ?_
    refine wu ?_
    refine wu ?_
    refine wu ?_
    refine wu ?_
    refine wu ?_
    refine wu ?_
    refine wu ?_
    refine wu ?_
    refine wu ?_
    refine wu ?_
    refine wu ?_
    refine wu ?_
    refine ws g29 ?_
    refine wv (vpF g29) ?_
    refine nt' ?_
    refine CM_condF rfl rfl ?_
    refine CM_exit (QM_then_exit (QM_then_exit (QM_block_hit ?_)))
    have hE42 := rngb_brk (R := (List DGroup)) (body := F2) (k := k22) (s := s23) (s' := s23) (show k22 < x0.length + 1 from by omega) (cond_f g29 (rfl)) hF25
    exact QM_cut_normal (s23, ()) sl5 (fun W hm => hm) ⟨hE42, (show s23 ≤ x0.length from by first | omega | (simp only [List.length_append, List.length_cons, List.length_nil] at *; omega))⟩
  ·
   rintro ⟨s23, ⟨⟩⟩ H44
   obtain ⟨hE43, hx45⟩ : R4 (x0.length + 1 - 0) 0 0 = Sum.inr s23 ∧ s23 ≤ x0.length := H44
   show QM 106 _ _ _ .normal [(0, .slice A1 x0.length c2), (1, .int .i64 x1), (2, .int .i64 x2), (3, .int .i64 x3), (10, .int .i64 ((s23 : Nat) : Int))] (I6 :: is)
   refine QM_then (sr ?_)
   refine WM_build0 (E := tyGroup) underlying68 type25 (Wd_none rfl) (by decide) (fun p46 => ?_)
   refine wm (wm ?_)
   refine wv (fun W hm => rv_sliceHi (k := s23) underlying68 type25 rfl rfl (by have := rdS_cap (hm.rdSI (n := 1) rfl); omega)) ?_
   refine apR tyGroup tyGroup 25 (.slice (some ⟨p46, 0, none⟩) 0 0) [] (List.take s23 x0) (I6 :: is) (fun W hm => (hm.front (n := 0) rfl)) (fun W hm => src_flat (flat_map (flat_pair flat_int (flat_pair flat_int (flat_pair flat_int flat_int)))) (rdS_take (k := s23) (by omega) (hm.rdSI (n := 1) rfl))) underlying68 type25 (show ([].length + (List.take s23 x0).length) * 32 ≤ 140737488355328 from by first | omega | (simp only [List.length_append, List.length_cons, List.length_nil, List.length_take, List.length_drop] at *; omega)) (fun v48 => ?_)
   refine WM_form (n := 0) rfl ?_
   rintro A49 c50 rfl m51
   refine wa (nt' (sr (wm (wm (wm (wm ?_))))))
   refine wv (fun W hm => rv_build (cs := [.int .i64 x1, .int .i64 x2, .int .i64 1, .int .i64 x3]) rfl (by kernel_rfl)) ?_
   refine WM_build (cs := [.int .i64 x1, .int .i64 x2, .int .i64 1, .int .i64 x3]) underlying68 type25 rfl (by decide) (by decide) rfl (by kernel_rfl) (Wd_none rfl) (by decide) (fun p53 => ?_)
   refine ap1 tyGroup 25 (.slice A49 (List.take s23 x0).length c50) (List.take s23 x0) (⟨x1, x2, 1, x3⟩ : DGroup) [] (I6 :: is) [.int .i64 x1, .int .i64 x2, .int .i64 1, .int .i64 x3] (fun W hm => ((hm.front (n := 1) rfl).front (n := 1) rfl)) (fun _ _ hs => by cases (Sep.nil hs); exact (els_cons (tyGroup_join (x := (⟨x1, x2, 1, x3⟩ : DGroup)) (L := []) rfl) els_nil)) underlying68 type25 (show ((List.take s23 x0).length + 1) * 32 ≤ 140737488355328 from by first | omega | (simp only [List.length_append, List.length_cons, List.length_nil, List.length_take, List.length_drop] at *; omega)) (fun v54 => ?_)
   refine WM_form (n := 0) rfl ?_
   rintro A55 c56 rfl m57
   refine wa (nt' (sr (wm (wm (wm ?_)))))
   refine wv (fun W hm => rv_sliceLo (k := s23) (s := 4) underlying68 type25 rfl rfl rfl (by omega)) ?_
   refine apR tyGroup tyGroup 25 (.slice A55 ((List.take s23 x0) ++ [(⟨x1, x2, 1, x3⟩ : DGroup)]).length c56) ((List.take s23 x0) ++ [(⟨x1, x2, 1, x3⟩ : DGroup)]) (List.drop s23 x0) (I6 :: is) (fun W hm => (hm.front (n := 0) rfl)) (fun W hm => src_flat (flat_map (flat_pair flat_int (flat_pair flat_int (flat_pair flat_int flat_int)))) (rdS_drop (k := s23) (by omega) (hm.rdSI (n := 1) rfl))) underlying68 type25 (show (((List.take s23 x0) ++ [(⟨x1, x2, 1, x3⟩ : DGroup)]).length + (List.drop s23 x0).length) * 32 ≤ 140737488355328 from by first | omega | (simp only [List.length_append, List.length_cons, List.length_nil, List.length_take, List.length_drop] at *; omega)) (fun v59 => ?_)
   refine WM_form (n := 0) rfl ?_
   rintro A60 c61 rfl m62
   refine wa (nt' (CM_ret ?_))
   have he64 := (show spec_l14Put_m x0 x1 x2 x3 = (((List.take s23 x0) ++ [(⟨x1, x2, 1, x3⟩ : DGroup)]) ++ (List.drop s23 x0)) from fin_inr hE21 (fin_inr hE43 (rfl)))
   refine QM_r1 rfl (RR_tmp rfl) (fun W hm => ⟨.slice A60 (((List.take s23 x0) ++ [(⟨x1, x2, 1, x3⟩ : DGroup)]) ++ (List.drop s23 x0)).length c61, ?_, ?_⟩)
   ·first | rw [he64] | rfl
   ·rw [he64]; exact ((hm.front (n := 0) rfl).front (n := 1) rfl).tail

theorem spec_Fine_fact {x y : Int} (h : spec_l14Fine_m x y = true) : (0 ≤ x ∧ x ≤ 2) ∧ (0 ≤ y ∧ y ≤ 2) := by
  unfold spec_l14Fine_m at h
  cases h1 : spec_l1In_m x 0 2 with
  | false => rw [h1] at h; cases h
  | true => rw [h1] at h; exact ⟨spec_l1In_fact h1, spec_l1In_fact h⟩
theorem spec_Put_len (l : List DGroup) (i v n : Int) : (spec_l14Put_m l i v n).length ≤ l.length + 1 := by
  unfold spec_l14Put_m
  rcases rng_find (P := fun r : List DGroup => r.length = l.length) (n := l.length) (b := fun k (_ : Unit) => spec_l14Put_b1 l i v n k) (fun j _ => by
    show (∃ r, spec_l14Put_b1 l i v n j = .inl r ∧ _) ∨ spec_l14Put_b1 l i v n j = .inr ()
    unfold spec_l14Put_b1
    cases (gt l j).Query == i <;> cases (gt l j).Value == v <;> first | exact .inr rfl | exact .inl ⟨_, rfl, List.length_set⟩) (l.length - 0) 0 (by omega) with ⟨r, h1, h2⟩ | h1
  · rw [h1]; show r.length ≤ _; omega
  · rw [h1]
    obtain ⟨s, h2⟩ := rngb_inr (R := List DGroup) (b := fun k (s : Nat) => spec_l14Put_b2 l i v k s) (fun j s => by
      unfold spec_l14Put_b2
      cases decide (((s : Nat) : Int) < ((l.length : Nat) : Int)) <;> cases decide ((gt l s).Query < i) <;> cases (gt l s).Query == i <;> cases decide ((gt l s).Value < v) <;> exact ⟨_, rfl⟩) (l.length + 1 - 0) 0 0
    rw [h2]
    show ((List.take s l ++ [_]) ++ List.drop s l).length ≤ _
    simp only [List.length_append, List.length_take, List.length_drop, List.length_cons, List.length_nil]
    omega
def spec_GroupShared_b2 (x0 : (List DAnnotated)) (x1 : Int) (x2 : Int) (k9 : Nat) (k42 : Nat) (d43 : (List DGroup)) : (List DGroup) ⊕ (((List DGroup)) ⊕ ((List DGroup))) :=
 cond (spec_IsRow_m ((gt x0 k9).Row)) (Sum.inr (Sum.inr (spec_l14Put_m d43 (gt ((gt x0 k9).Set) k42) (gt ((gt x0 k9).Row.Values) (x1.toNat)) (gt ((gt x0 k9).Row.Values) (x2.toNat))))) (Sum.inr (Sum.inl d43))
def spec_GroupShared_b1 (x0 : (List DAnnotated)) (x1 : Int) (x2 : Int) (k9 : Nat) (d10 : (List DGroup)) : (List DGroup) ⊕ (((List DGroup)) ⊕ ((List DGroup))) :=
 cond (spec_l14Fine_m x1 x2) (Sum.elim Sum.inl (fun (s : (List DGroup)) => Sum.inr (Sum.inr s)) (rngb (R := (List DGroup)) (fun k (s : (List DGroup)) => spec_GroupShared_b2 x0 x1 x2 k9 k s) (((gt x0 k9).Set).length - 0) 0 d10)) (Sum.inr (Sum.inl d10))
def spec_GroupShared_m (x0 : (List DAnnotated)) (x1 : Int) (x2 : Int) : (List DGroup) :=
 Sum.elim id (fun (s : (List DGroup)) => s) (rngb (R := (List DGroup)) (fun k (s : (List DGroup)) => spec_GroupShared_b1 x0 x1 x2 k s) (x0.length - 0) 0 [])
theorem cb43 : Cb Tryd.prog 43 := ⟨f43, _, func43, rfl, by decide⟩
theorem spec_GroupShared_c (w : World) (z0 : Value) (x0 : (List DAnnotated)) (x1 : Int) (x2 : Int) (r_0 : rdS tyAnnotated w w.heap.size z0 x0) (s_0 : (x0.length ≤ 68719476736 ∧ ∀ y ∈ x0, smAnnotated 68719476736 y)) (hq : (x0.map fun (a : DAnnotated) => a.Set.length).sum ≤ 68719476736) :
  Calls Tryd.prog 43 #[z0, .int .i64 x1, .int .i64 x2] w fun e w' => ∃ v : Value, e = .returned (v) ∧ Mem w.heap.size w [iOwn (tSl tyGroup 25) [v] (spec_GroupShared_m x0 x1 x2)] w' := by
 obtain ⟨m1, A2, c3, rfl, q4, r5⟩ := rdS_op r_0
 have l6 : x0.length ≤ 68719476736 := s_0.1
 refine ce3 (L := [(0, .slice A2 x0.length c3), (1, .int .i64 x1), (2, .int .i64 x2)]) (N := 69) func43 ?_
 refine sr (wa (nt' (sr ?_)))
 refine WM_build0 (E := tyGroup) underlying68 type25 (Wd_none rfl) (by decide) (fun p7 => ?_)
 refine wa (nt' (CM_seq (sr (wa (nt' ?_)))))
 let F1 := fun k (s : (List DGroup)) => spec_GroupShared_b1 x0 x1 x2 k s
 let R3 := rngb (R := (List DGroup)) F1
 refine CM_cut (σ := ((List DGroup)) × (Option Addr × Nat)) (fun s => [(7, .slice s.2.1 s.1.length s.2.2)]) (fun s => [iOwn (tSl tyGroup 25) [.slice s.2.1 s.1.length s.2.2] s.1]) (fun s => R3 (x0.length - 0) 0 [] = Sum.inr s.1) ?_ ?_
 ·
  refine CM_block ?_
  refine CM_loop (σ := Nat × ((List DGroup)) × (Option Addr × Nat)) (fun s => [(0, .slice A2 x0.length c3), (1, .int .i64 x1), (2, .int .i64 x2), (7, .slice s.2.2.1 s.2.1.length s.2.2.2), (8, .int .i64 ((s.1 : Nat) : Int))]) (fun s => [iOwn (tSl tyGroup 25) [.slice s.2.2.1 s.2.1.length s.2.2.2] s.2.1]) (fun s => s.1 ≤ x0.length ∧ R3 (x0.length - s.1) s.1 s.2.1 = R3 (x0.length - 0) 0 [] ∧ s.2.1.length ≤ ((x0.take s.1).map fun (a : DAnnotated) => a.Set.length).sum) (fun s => x0.length - s.1) (0, [], ((some ⟨p7, 0, none⟩), 0)) sl5 (fun W hm => hm) ⟨(by omega), rfl, Nat.zero_le _⟩ ?_
  rintro ⟨k9, d10, ⟨A11, c12⟩⟩ H15
  obtain ⟨hk13, hF14, hi16⟩ : k9 ≤ x0.length ∧ R3 (x0.length - k9) k9 d10 = R3 (x0.length - 0) 0 [] ∧ d10.length ≤ ((x0.take k9).map fun (a : DAnnotated) => a.Set.length).sum := H15
  show CM Tryd.prog 69 _ _ _ _ [(0, .slice A2 x0.length c3), (1, .int .i64 x1), (2, .int .i64 x2), (7, .slice A11 d10.length c12), (8, .int .i64 ((k9 : Nat) : Int))] [iOwn (tSl tyGroup 25) [.slice A11 d10.length c12] d10]
  refine CM_seq (sr (wm (wm ?_)))
  refine wv (vlen underlying65) ?_
  refine wv vlss ?_
  refine wm ?_
  by_cases hl17 : k9 < x0.length
  ·have g18 := dlT hl17
   have hq1 := sum_take_succ (w := fun (a : DAnnotated) => a.Set.length) (xs := x0) (j := k9) (by omega)
   have hq2 := sum_take_le (w := fun (a : DAnnotated) => a.Set.length) (xs := x0) (k9 + 1)
   refine wg vmv g18 ?_
   refine wg vmv g18 ?_
   refine WM_callV (cl_fn cb75 rfl) (fun W hm => spec_l14Fine_c W x1 x2) (Wd_some rfl rfl rfl (bw g18 rfl)) (by decide) ?_
   refine wv (vpT g18) ?_
   refine nt' ?_
   rcases Bool.eq_false_or_eq_true (spec_l14Fine_m x1 x2) with g20 | g20
   ·
    have hfi := spec_Fine_fact g20
    refine CM_condT rfl g20 ?_
    refine CM_skip (QM_then (CM_seq (CM_block (sr (wa (nt' ?_))))))
    obtain ⟨a21, rfl, hb22, he23⟩ := q4 (by omega)
    obtain ⟨_, e29, hc24⟩ := he23 k9 _ (gt_some (show k9 < x0.length from by omega))
    obtain ⟨v25, v27, rfl, r26, r28⟩ := tyAnnotated_rd e29
    have l30 : ((gt x0 k9).Row.Values).length ≤ 68719476736 := (s_0.2 _ (gt_mem (show k9 < x0.length from by omega))).1
    have l31 : ((gt x0 k9).Set).length ≤ 68719476736 := (s_0.2 _ (gt_mem (show k9 < x0.length from by omega))).2
    obtain ⟨m32, A33, c34, rfl, q35, r36⟩ := rdS_op r26
    obtain ⟨m37, A38, c39, rfl, q40, r41⟩ := rdS_op r28
    let F2 := fun k (s : (List DGroup)) => spec_GroupShared_b2 x0 x1 x2 k9 k s
    let R4 := rngb (R := (List DGroup)) F2
    refine CM_cut (σ := ((List DGroup)) × (Option Addr × Nat)) (fun s => [(0, .slice (some a21) x0.length c3), (1, .int .i64 x1), (2, .int .i64 x2), (7, .slice s.2.1 s.1.length s.2.2), (8, .int .i64 ((k9 : Nat) : Int))]) (fun s => [iOwn (tSl tyGroup 25) [.slice s.2.1 s.1.length s.2.2] s.1]) (fun s => R4 (((gt x0 k9).Set).length - 0) 0 d10 = Sum.inr s.1 ∧ s.1.length ≤ d10.length + ((gt x0 k9).Set).length) ?_ ?_
    ·
     refine CM_block ?_
     refine CM_loop (σ := Nat × ((List DGroup)) × (Option Addr × Nat)) (fun s => [(0, .slice (some a21) x0.length c3), (1, .int .i64 x1), (2, .int .i64 x2), (7, .slice s.2.2.1 s.2.1.length s.2.2.2), (8, .int .i64 ((k9 : Nat) : Int)), (9, .int .i64 ((s.1 : Nat) : Int))]) (fun s => [iOwn (tSl tyGroup 25) [.slice s.2.2.1 s.2.1.length s.2.2.2] s.2.1]) (fun s => s.1 ≤ ((gt x0 k9).Set).length ∧ R4 (((gt x0 k9).Set).length - s.1) s.1 s.2.1 = R4 (((gt x0 k9).Set).length - 0) 0 d10 ∧ s.2.1.length ≤ d10.length + s.1) (fun s => ((gt x0 k9).Set).length - s.1) (0, d10, (A11, c12)) sl6 (fun W hm => hm) ⟨(by omega), rfl, Nat.le_refl _⟩ ?_
     rintro ⟨k42, d43, ⟨A44, c45⟩⟩ H48
     obtain ⟨hk46, hF47, hi49⟩ : k42 ≤ ((gt x0 k9).Set).length ∧ R4 (((gt x0 k9).Set).length - k42) k42 d43 = R4 (((gt x0 k9).Set).length - 0) 0 d10 ∧ d43.length ≤ d10.length + k42 := H48
     show CM Tryd.prog 69 _ _ _ _ [(0, .slice (some a21) x0.length c3), (1, .int .i64 x1), (2, .int .i64 x2), (7, .slice A44 d43.length c45), (8, .int .i64 ((k9 : Nat) : Int)), (9, .int .i64 ((k42 : Nat) : Int))] [iOwn (tSl tyGroup 25) [.slice A44 d43.length c45] d43]
     refine CM_seq (sr (wm (wm (wm ?_))))
     refine wv (vix 3 k9 underlying65 type72) ?_
     refine wv (vf underlying72 rfl type28) ?_
     refine wv (fun W hm => rv_load underlying28 rfl rfl ((hm.cell0 (show ((a21.add (k9 * 3)).add 2).block < w.heap.size from by rw [add_block, add_block]; exact hb22.1)).trans (hc24 2 _ rfl))) ?_
     refine wv (vlen underlying28) ?_
     refine wv vlss ?_
     refine wm ?_
     by_cases hl50 : k42 < ((gt x0 k9).Set).length
     ·have g51 := dlT hl50
      refine wg vmv g51 ?_
      refine wg vmv g51 ?_
      refine wg (vix 3 k9 underlying65 type72) g51 ?_
      refine wg (vf underlying72 rfl type43) g51 ?_
      refine wg (fun W hm => rv_loadN (cs := [.int .i64 ((gt x0 k9).Row.Id), .slice A33 ((gt x0 k9).Row.Values).length c34]) underlying43 type43 rfl rfl (hm.elPart (show (a21.add (k9 * 3)).block < w.heap.size from by rw [add_block]; exact hb22.1) hc24 rfl)) g51 ?_
      refine WM_callV (cl_fn cb76 rfl) (fun W hm => spec_IsRow_c W _ ((gt x0 k9).Row) (tyRow_mk (x := ((gt x0 k9).Row)) (hm.rdS0 r36))) (Wd_some rfl rfl rfl (bw g51 rfl)) (by decide) ?_
      refine wv (vpT g51) ?_
      refine nt' ?_
      rcases Bool.eq_false_or_eq_true (spec_IsRow_m ((gt x0 k9).Row)) with g53 | g53
      ·
       have hlr := spec_IsRow_len g53
       refine CM_condT rfl g53 ?_
       refine CM_skip (QM_then (CM_seq (CM_block ?_)))
       refine rb 29 (s := []) (pk []) ?_
       refine qt 29 0 1 rfl vmv ?_
       refine qt 29 1 3 rfl vmv ?_
       refine qt 29 2 7 rfl vmv ?_
       refine qt 29 3 15 rfl (vix 3 k9 underlying65 type72) ?_
       refine qt 29 4 31 rfl (vf underlying72 rfl type28) ?_
       refine qt 29 5 63 rfl (fun W hm => rv_load underlying28 rfl rfl ((hm.cell0 (show ((a21.add (k9 * 3)).add 2).block < w.heap.size from by rw [add_block, add_block]; exact hb22.1)).trans (hc24 2 _ rfl))) ?_
       refine qt 29 6 127 rfl vmv ?_
       obtain ⟨a54, rfl, hb55, he56⟩ := q40 (by omega)
       refine qt 29 7 255 rfl (vix 1 k42 underlying28 type3) ?_
       refine qt 29 8 511 rfl (fun W hm => rv_load underlying3 rfl rfl ((hm.cell0 (show (a54.add (k42 * 1)).block < w.heap.size from by rw [add_block]; exact hb55.1)).trans (rdS_int he56 k42 (by omega)))) ?_
       refine qt 29 9 1023 rfl vmv ?_
       refine qt 29 10 2047 rfl vmv ?_
       refine qt 29 11 4095 rfl (vix 3 k9 underlying65 type72) ?_
       refine qt 29 12 8191 rfl (vf underlying72 rfl type43) ?_
       refine qt 29 13 16383 rfl (fun W hm => rv_fieldA (o := 1) underlying43 rfl type28 (by decide) rfl rfl) ?_
       refine qt 29 14 32767 rfl (fun W hm => rv_load underlying28 rfl rfl ((hm.cell0 (show ((a21.add (k9 * 3)).add 1).block < w.heap.size from by rw [add_block, add_block]; exact hb22.1)).trans (hc24 1 _ rfl))) ?_
       refine qt 29 15 65535 rfl vmv ?_
       obtain ⟨a57, rfl, hb58, he59⟩ := q35 (by omega)
       refine qt 29 16 131071 rfl (fun W hm => rv_indexI (sz := 1) (k := x1) underlying28 type3 rfl rfl rfl (by omega) (by omega)) ?_
       refine qt 29 17 262143 rfl (fun W hm => rv_load underlying3 rfl rfl ((hm.cell0 (show (a57.add ((x1.toNat) * 1)).block < w.heap.size from by rw [add_block]; exact hb58.1)).trans (rdS_int he59 (x1.toNat) (by omega)))) ?_
       refine qt 29 18 524287 rfl vmv ?_
       refine qt 29 19 1048575 rfl vmv ?_
       refine qt 29 20 2097151 rfl (vix 3 k9 underlying65 type72) ?_
       refine qt 29 21 4194303 rfl (vf underlying72 rfl type43) ?_
       refine qt 29 22 8388607 rfl (fun W hm => rv_fieldA (o := 1) underlying43 rfl type28 (by decide) rfl rfl) ?_
       refine qt 29 23 16777215 rfl (fun W hm => rv_load underlying28 rfl rfl ((hm.cell0 (show ((a21.add (k9 * 3)).add 1).block < w.heap.size from by rw [add_block, add_block]; exact hb22.1)).trans (hc24 1 _ rfl))) ?_
       refine qt 29 24 33554431 rfl vmv ?_
       refine qt 29 25 67108863 rfl (fun W hm => rv_indexI (sz := 1) (k := x2) underlying28 type3 rfl rfl rfl (by omega) (by omega)) ?_
       refine qt 29 26 134217727 rfl (fun W hm => rv_load underlying3 rfl rfl ((hm.cell0 (show (a57.add ((x2.toNat) * 1)).block < w.heap.size from by rw [add_block]; exact hb58.1)).trans (rdS_int he59 (x2.toNat) (by omega)))) ?_
       refine qo 29 27 268435455 rfl ?_
       refine WM_callW (χ := Value) (val := fun x => x) (js := fun x => (iOwn (tSl tyGroup 25) [x] (spec_l14Put_m d43 (gt ((gt x0 k9).Set) k42) (gt ((gt x0 k9).Row.Values) (x1.toNat)) (gt ((gt x0 k9).Row.Values) (x2.toNat))) :: [])) (cl_fn cb77 rfl) (fun W hm => spec_l14Put_c w.heap.size w [] W (.slice A44 d43.length c45) d43 (gt ((gt x0 k9).Set) k42) (gt ((gt x0 k9).Row.Values) (x1.toNat)) (gt ((gt x0 k9).Row.Values) (x2.toNat)) (show _ ≤ 68719476736 from by omega) hm) (Wd_none rfl) (by decide) (fun z60 => ?_)
       refine WM_form (n := 0) rfl ?_
       rintro A61 c62 rfl m63
       have hp := spec_Put_len d43 (gt ((gt x0 k9).Set) k42) (gt ((gt x0 k9).Row.Values) (x1.toNat)) (gt ((gt x0 k9).Row.Values) (x2.toNat))
       refine qn (pk []) ?_
       refine qt 29 28 536870911 rfl (fun W hm => rv_assign rfl) ?_
       refine QB_done (by kernel_rfl) ?_
       refine QM_block_normal (QM_then (CM_region (wm ?_)))
       refine wv (vadN k42 1 (by omega)) ?_
       refine wa (WM_nil ?_)
       have hn65 := rngb_next (R := (List DGroup)) (body := F2) (k := k42) (s := d43) (s' := (spec_l14Put_m d43 (gt ((gt x0 k9).Set) k42) (gt ((gt x0 k9).Row.Values) (x1.toNat)) (gt ((gt x0 k9).Row.Values) (x2.toNat)))) (show k42 < ((gt x0 k9).Set).length from by omega) (cond_t g53 (rfl)) hF47
       exact QM_round (k42 + 1, (spec_l14Put_m d43 (gt ((gt x0 k9).Set) k42) (gt ((gt x0 k9).Row.Values) (x1.toNat)) (gt ((gt x0 k9).Row.Values) (x2.toNat))), (A61, c62)) sl6 (fun W hm => hm) ⟨(by omega), hn65, (show (spec_l14Put_m d43 (gt ((gt x0 k9).Set) k42) (gt ((gt x0 k9).Row.Values) (x1.toNat)) (gt ((gt x0 k9).Row.Values) (x2.toNat))).length ≤ d10.length + (k42 + 1) from by first | omega | (simp only [List.length_append, List.length_cons, List.length_nil] at *; omega))⟩ (show ((gt x0 k9).Set).length - (k42 + 1) < ((gt x0 k9).Set).length - k42 from by omega)
      ·
       refine CM_condF rfl g53 ?_
       refine CM_exit (QM_then_exit (QM_then_exit (QM_block_hit ?_)))
       have hE66 := rngb_brk (R := (List DGroup)) (body := F2) (k := k42) (s := d43) (s' := d43) (show k42 < ((gt x0 k9).Set).length from by omega) (cond_f g53 (rfl)) hF47
       exact QM_cut_normal (d43, (A44, c45)) sl5 (fun W hm => hm) ⟨hE66, (show d43.length ≤ d10.length + ((gt x0 k9).Set).length from by first | omega | (simp only [List.length_append, List.length_cons, List.length_nil] at *; omega))⟩
     ·have g51 := dlF hl50
      refine ws g51 ?_
      refine ws g51 ?_
      refine ws g51 ?_
      refine ws g51 ?_
      refine ws g51 ?_
      refine ws g51 ?_
      refine wv (vpF g51) ?_
      refine nt' ?_
      refine CM_condF rfl rfl ?_
      refine CM_exit (QM_then_exit (QM_then_exit (QM_block_hit ?_)))
      have hE67 : R4 (((gt x0 k9).Set).length - 0) 0 d10 = Sum.inr d43 := rngb_end hl50 hF47
      exact QM_cut_normal (d43, (A44, c45)) sl5 (fun W hm => hm) ⟨hE67, (show d43.length ≤ d10.length + ((gt x0 k9).Set).length from by first | omega | (simp only [List.length_append, List.length_cons, List.length_nil] at *; omega))⟩
    ·
     rintro ⟨d43, ⟨A44, c45⟩⟩ H69
     obtain ⟨hE68, hx70⟩ : R4 (((gt x0 k9).Set).length - 0) 0 d10 = Sum.inr d43 ∧ d43.length ≤ d10.length + ((gt x0 k9).Set).length := H69
     show QM 69 _ _ _ .normal [(0, .slice (some a21) x0.length c3), (1, .int .i64 x1), (2, .int .i64 x2), (7, .slice A44 d43.length c45), (8, .int .i64 ((k9 : Nat) : Int))] [iOwn (tSl tyGroup 25) [.slice A44 d43.length c45] d43]
     refine QM_block_normal (QM_then (CM_region (wm ?_)))
     refine wv (vadN k9 1 (by omega)) ?_
     refine wa (WM_nil ?_)
     have hn71 := rngb_next (R := (List DGroup)) (body := F1) (k := k9) (s := d10) (s' := d43) (show k9 < x0.length from by omega) (cond_t g20 (fin_inr hE68 (rfl))) hF14
     exact QM_round (k9 + 1, d43, (A44, c45)) sl5 (fun W hm => hm) ⟨(by omega), hn71, (show d43.length ≤ ((x0.take (k9 + 1)).map fun (a : DAnnotated) => a.Set.length).sum from by omega)⟩ (rl (by omega))
   ·
    refine CM_condF rfl g20 ?_
    refine CM_exit (QM_then_exit (QM_then_exit (QM_block_hit ?_)))
    have hE72 := rngb_brk (R := (List DGroup)) (body := F1) (k := k9) (s := d10) (s' := d10) (show k9 < x0.length from by omega) (cond_f g20 (rfl)) hF14
    exact QM_cut_normal (d10, (A11, c12)) (subL_cons rfl subL_nil) (fun W hm => hm) hE72
  ·have g18 := dlF hl17
   refine ws g18 ?_
   refine ws g18 ?_
   refine ws g18 ?_
   refine wv (vpF g18) ?_
   refine nt' ?_
   refine CM_condF rfl rfl ?_
   refine CM_exit (QM_then_exit (QM_then_exit (QM_block_hit ?_)))
   have hE73 : R3 (x0.length - 0) 0 [] = Sum.inr d10 := rngb_end hl17 hF14
   exact QM_cut_normal (d10, (A11, c12)) (subL_cons rfl subL_nil) (fun W hm => hm) hE73
 ·
  rintro ⟨d10, ⟨A11, c12⟩⟩ H75
  have hE74 : R3 (x0.length - 0) 0 [] = Sum.inr d10 := H75
  show QM 69 _ _ _ .normal [(7, .slice A11 d10.length c12)] [iOwn (tSl tyGroup 25) [.slice A11 d10.length c12] d10]
  refine QM_then (sr (wm (wa (nt' (CM_ret ?_)))))
  have he76 := (show spec_GroupShared_m x0 x1 x2 = d10 from fin_inr hE74 (rfl))
  refine QM_r1 rfl (RR_tmp rfl) (fun W hm => ⟨.slice A11 d10.length c12, ?_, ?_⟩)
  ·first | rw [he76] | rfl
  ·rw [he76]; exact hm

def impl_FormatInt_m (x0 : Int) : ByteArray :=
 (itoaB x0)
theorem cb52 : Cb Tryd.prog 52 := ⟨f52, _, func52, rfl, by decide⟩
theorem impl_FormatInt_c (w : World) (x0 : Int) (hr : -9223372036854775808 ≤ x0 ∧ x0 ≤ 9223372036854775807) (hT : TabOK w.heap.size w) :
  Calls Tryd.prog 52 #[.int .i64 x0] w fun e w' => e = .returned (.string (impl_FormatInt_m x0)) ∧ Below w.heap.size w w' := by
 refine ce1 (L := [(0, .int .i64 x0)]) (N := 5) func52 ?_
 refine sr (wa (nt' (sr (wm ?_))))
 refine wcv (cl_fn ⟨f83, _, func83, rfl, by decide⟩ rfl) (fun W hm => itoa_c W x0 (by omega) (hT.mem hm)) ?_
 have hz1 := itoaB_sz x0 (by omega)
 refine wa (nt' (CM_ret ?_))
 exact QM_ret1 rfl rfl (fun W hm => ⟨ret_s (show impl_FormatInt_m x0 = (itoaB x0) from rfl), hm.below⟩)
theorem impl_FormatInt_sz (x : Int) (h : -9223372036854775808 ≤ x ∧ x ≤ 9223372036854775807) : (impl_FormatInt_m x).size ≤ 21 := itoaB_sz x h

def impl_FormatGroup_m (x0 : DGroup) : ByteArray :=
 cond (impl_within_m x0.Query 0 23) (cond (impl_within_m x0.Value 0 99) (cond (decide (x0.Count < 1)) (sB []) (cond (decide (x0.Sum < 0)) (sB []) (joinB [((sB [113]) ++ (impl_FormatInt_m x0.Query)), (impl_FormatInt_m x0.Value), (sB [99, 111, 117, 110, 116]), (impl_FormatInt_m x0.Count), (sB [115, 117, 109]), (impl_FormatInt_m x0.Sum)] (sB [32])))) (sB [])) (sB [])
theorem cb10 : Cb Tryd.prog 10 := ⟨f10, _, func10, rfl, by decide⟩
theorem impl_FormatGroup_c (w : World) (z0 : List Value) (x0 : DGroup) (r_0 : tyGroup.rd w w.heap.size z0 x0) (hc : (-9223372036854775808 ≤ x0.Count ∧ x0.Count ≤ 9223372036854775807) ∧ (-9223372036854775808 ≤ x0.Sum ∧ x0.Sum ≤ 9223372036854775807)) (hT : TabOK w.heap.size w) :
  Calls Tryd.prog 10 #[.agg z0.toArray] w fun e w' => e = .returned (.string (impl_FormatGroup_m x0)) ∧ Below w.heap.size w w' := by
 obtain rfl := tyGroup_rd r_0
 refine ce1 (L := [(0, .agg #[.int .i64 x0.Query, .int .i64 x0.Value, .int .i64 x0.Count, .int .i64 x0.Sum])]) (N := 38) func10 ?_
 refine sr ?_
 refine WM_box rfl (Wd_none rfl) (by decide) (fun p1 => ?_)
 refine wa (nt' (CM_seq (sr ?_)))
 refine wv (vf underlying25 rfl type3) ?_
 refine wv (vl 0 0 underlying3) ?_
 refine wcv (cl_fn cb50 rfl) (fun W hm => impl_within_c W x0.Query 0 23) ?_
 refine wv vnot ?_
 refine wm ?_
 rcases Bool.eq_false_or_eq_true (impl_within_m x0.Query 0 23) with g3 | g3
 ·
  have hw := impl_within_fact g3
  refine wg (vf underlying25 rfl type3) (nt g3) ?_
  refine wg (vl 0 1 underlying3) (nt g3) ?_
  refine WM_callV (cl_fn cb50 rfl) (fun W hm => impl_within_c W x0.Value 0 99) (Wd_some rfl rfl rfl (bw (nt g3) rfl)) (by decide) ?_
  refine wg vnot (nt g3) ?_
  refine wv (vpF (nt g3)) ?_
  refine wm ?_
  rcases Bool.eq_false_or_eq_true (impl_within_m x0.Value 0 99) with g5 | g5
  ·
   have hw := impl_within_fact g5
   refine wg (vf underlying25 rfl type3) (nt g5) ?_
   refine wg (vl 0 2 underlying3) (nt g5) ?_
   refine wg vlss (nt g5) ?_
   refine wv (vpF (nt g5)) ?_
   refine wm ?_
   by_cases h6 : x0.Count < 1
   ·have g7 := decide_eq_true h6
    refine ws g7 ?_
    refine ws g7 ?_
    refine ws g7 ?_
    refine wv (vpT g7) ?_
    refine nt' ?_
    refine CM_condT rfl rfl ?_
    refine sr (wa (nt' (CM_ret (QM_then_ret ?_))))
    exact QM_ret1 rfl rfl (fun W hm => ⟨ret_s (show impl_FormatGroup_m x0 = (sB []) from cond_t g3 (cond_t g5 (cond_t g7 (rfl)))), hm.below⟩)
   ·have g7 := decide_eq_false h6
    refine wg (vf underlying25 rfl type3) g7 ?_
    refine wg (vl 0 3 underlying3) g7 ?_
    refine wg vlss g7 ?_
    refine wv (vpF g7) ?_
    refine nt' ?_
    by_cases h8 : x0.Sum < 0
    ·have g9 := decide_eq_true h8
     refine CM_condT rfl g9 ?_
     refine sr (wa (nt' (CM_ret (QM_then_ret ?_))))
     exact QM_ret1 rfl rfl (fun W hm => ⟨ret_s (show impl_FormatGroup_m x0 = (sB []) from cond_t g3 (cond_t g5 (cond_f g7 (cond_t g9 (rfl))))), hm.below⟩)
    ·have g9 := decide_eq_false h8
     refine CM_condF rfl g9 ?_
     refine CM_skip (QM_then (CM_seq ?_))
     refine rb 16 (s := [iBox p1 25 [.int .i64 x0.Query, .int .i64 x0.Value, .int .i64 x0.Count, .int .i64 x0.Sum]]) (fun W hm => hm) ?_
     refine qt 16 0 1 rfl (vf underlying25 rfl type3) ?_
     refine qt 16 1 3 rfl (vl 0 0 underlying3) ?_
     refine qt 16 4 19 rfl (vf underlying25 rfl type3) ?_
     refine qt 16 5 51 rfl (vl 0 1 underlying3) ?_
     refine qt 16 7 179 rfl (vf underlying25 rfl type3) ?_
     refine qt 16 8 435 rfl (vl 0 2 underlying3) ?_
     refine qt 16 10 1459 rfl (vf underlying25 rfl type3) ?_
     refine qt 16 11 3507 rfl (vl 0 3 underlying3) ?_
     refine qo 16 2 3511 rfl ?_
     refine wcv (cl_fn cb52 rfl) (fun W hm => impl_FormatInt_c W x0.Query (⟨by omega, by omega⟩) (hT.mem hm)) ?_
     have hz10 := impl_FormatInt_sz x0.Query (by omega)
     refine qn (fun W hm => hm) ?_
     have hz11 : ByteArray.size (sB [113]) = 1 := rfl
     refine qt 16 3 3519 rfl (fun W hm => rv_addS (p := (sB [113])) (q := (impl_FormatInt_m x0.Query)) rfl rfl (by omega)) ?_
     have hz12 := sz_app (sB [113]) (impl_FormatInt_m x0.Query)
     refine qo 16 6 3583 rfl ?_
     refine wcv (cl_fn cb52 rfl) (fun W hm => impl_FormatInt_c W x0.Value (⟨by omega, by omega⟩) (hT.mem hm)) ?_
     have hz13 := impl_FormatInt_sz x0.Value (by omega)
     refine qn (fun W hm => hm) ?_
     refine qo 16 9 4095 rfl ?_
     refine wcv (cl_fn cb52 rfl) (fun W hm => impl_FormatInt_c W x0.Count (⟨by omega, by omega⟩) (hT.mem hm)) ?_
     have hz14 := impl_FormatInt_sz x0.Count (by omega)
     refine qn (fun W hm => hm) ?_
     refine qo 16 12 8191 rfl ?_
     refine wcv (cl_fn cb52 rfl) (fun W hm => impl_FormatInt_c W x0.Sum (⟨by omega, by omega⟩) (hT.mem hm)) ?_
     have hz15 := impl_FormatInt_sz x0.Sum (by omega)
     refine qn (fun W hm => hm) ?_
     refine qo 16 13 16383 rfl ?_
     refine WM_build (cs := [.string ((sB [113]) ++ (impl_FormatInt_m x0.Query)), .string (impl_FormatInt_m x0.Value), .string (sB [99, 111, 117, 110, 116]), .string (impl_FormatInt_m x0.Count), .string (sB [115, 117, 109]), .string (impl_FormatInt_m x0.Sum)]) underlying80 type9 rfl (by decide) (by decide) rfl (by kernel_rfl) (Wd_none rfl) (by decide) (fun p16 => ?_)
     refine qn (pk [1]) ?_
     refine qo 16 14 32767 rfl ?_
     have hz17 : ByteArray.size (sB [99, 111, 117, 110, 116]) = 5 := rfl
     have hz18 : ByteArray.size (sB [115, 117, 109]) = 3 := rfl
     refine WM_items (fun W hm => Mem.litOwn (E := tStr) (xs := [((sB [113]) ++ (impl_FormatInt_m x0.Query)), (impl_FormatInt_m x0.Value), (sB [99, 111, 117, 110, 116]), (impl_FormatInt_m x0.Count), (sB [115, 117, 109]), (impl_FormatInt_m x0.Sum)]) rfl (show 6 ≤ maxLen from by decide) (fun _ => (els_cons (E := tStr) (L1 := []) (tStr_own (by omega)) (els_cons (E := tStr) (L1 := []) (tStr_own (by omega)) (els_cons (E := tStr) (L1 := []) (tStr_own (by omega)) (els_cons (E := tStr) (L1 := []) (tStr_own (by omega)) (els_cons (E := tStr) (L1 := []) (tStr_own (by omega)) (els_cons (E := tStr) (L1 := []) (tStr_own (by omega)) els_nil))))))) hm) ?_
     have hz20 : ByteArray.size (sB [32]) = 1 := rfl
     refine wcv (cl_fn ⟨f51, _, func51, rfl, by decide⟩ rfl) (fun W hm => join_c W p16 _ [((sB [113]) ++ (impl_FormatInt_m x0.Query)), (impl_FormatInt_m x0.Value), (sB [99, 111, 117, 110, 116]), (impl_FormatInt_m x0.Count), (sB [115, 117, 109]), (impl_FormatInt_m x0.Sum)] (sB [32]) (hm.rdSI (n := 0) rfl) (show 1 ≤ List.length [((sB [113]) ++ (impl_FormatInt_m x0.Query)), (impl_FormatInt_m x0.Value), (sB [99, 111, 117, 110, 116]), (impl_FormatInt_m x0.Count), (sB [115, 117, 109]), (impl_FormatInt_m x0.Sum)] ∧ List.length [((sB [113]) ++ (impl_FormatInt_m x0.Query)), (impl_FormatInt_m x0.Value), (sB [99, 111, 117, 110, 116]), (impl_FormatInt_m x0.Count), (sB [115, 117, 109]), (impl_FormatInt_m x0.Sum)] ≤ 1000 from ⟨Nat.le_of_ble_eq_true rfl, Nat.le_of_ble_eq_true rfl⟩) (by intro z hz; simp only [List.mem_cons, List.not_mem_nil, or_false] at hz; rcases hz with rfl | rfl | rfl | rfl | rfl | rfl <;> omega) (by omega)) ?_
     have hz21 := joinB_sz (show 1 ≤ List.length [((sB [113]) ++ (impl_FormatInt_m x0.Query)), (impl_FormatInt_m x0.Value), (sB [99, 111, 117, 110, 116]), (impl_FormatInt_m x0.Count), (sB [115, 117, 109]), (impl_FormatInt_m x0.Sum)] ∧ List.length [((sB [113]) ++ (impl_FormatInt_m x0.Query)), (impl_FormatInt_m x0.Value), (sB [99, 111, 117, 110, 116]), (impl_FormatInt_m x0.Count), (sB [115, 117, 109]), (impl_FormatInt_m x0.Sum)] ≤ 1000 from ⟨Nat.le_of_ble_eq_true rfl, Nat.le_of_ble_eq_true rfl⟩).2 (by intro z hz; simp only [List.mem_cons, List.not_mem_nil, or_false] at hz; rcases hz with rfl | rfl | rfl | rfl | rfl | rfl <;> omega) (show ByteArray.size (sB [32]) ≤ 1000 by omega)
     refine qn (pk [1]) ?_
     refine qt 16 15 65535 rfl (fun W hm => rv_assign rfl) ?_
     refine QB_done (by kernel_rfl) ?_
     refine QM_then (CM_ret ?_)
     exact QM_ret1 rfl rfl (fun W hm => ⟨ret_s (show impl_FormatGroup_m x0 = (joinB [((sB [113]) ++ (impl_FormatInt_m x0.Query)), (impl_FormatInt_m x0.Value), (sB [99, 111, 117, 110, 116]), (impl_FormatInt_m x0.Count), (sB [115, 117, 109]), (impl_FormatInt_m x0.Sum)] (sB [32])) from cond_t g3 (cond_t g5 (cond_f g7 (cond_f g9 (rfl))))), hm.below⟩)
  ·
   refine ws (nf g5) ?_
   refine ws (nf g5) ?_
   refine ws (nf g5) ?_
   refine wv (vpT (nf g5)) ?_
   refine wm ?_
   refine wk ?_
   refine wk ?_
   refine wk ?_
   refine wv (vpT rfl) ?_
   refine nt' ?_
   refine CM_condT rfl rfl ?_
   refine sr (wa (nt' (CM_ret (QM_then_ret ?_))))
   exact QM_ret1 rfl rfl (fun W hm => ⟨ret_s (show impl_FormatGroup_m x0 = (sB []) from cond_t g3 (cond_f g5 (rfl))), hm.below⟩)
 ·
  refine ws (nf g3) ?_
  refine ws (nf g3) ?_
  refine ws (nf g3) ?_
  refine ws (nf g3) ?_
  refine wv (vpT (nf g3)) ?_
  refine wm ?_
  refine wk ?_
  refine wk ?_
  refine wk ?_
  refine wv (vpT rfl) ?_
  refine wm ?_
  refine wk ?_
  refine wk ?_
  refine wk ?_
  refine wv (vpT rfl) ?_
  refine nt' ?_
  refine CM_condT rfl rfl ?_
  refine sr (wa (nt' (CM_ret (QM_then_ret ?_))))
  exact QM_ret1 rfl rfl (fun W hm => ⟨ret_s (show impl_FormatGroup_m x0 = (sB []) from cond_f g3 (rfl)), hm.below⟩)

def spec_FormatInt_b1 (k3 : Nat) (s4 : Int) (s5 : ByteArray) : ByteArray ⊕ ((Int × ByteArray) ⊕ (Int × ByteArray)) :=
 cond (s4 != 0) (cond (decide ((Int.tmod s4 10) < 0)) (Sum.inr (Sum.inr ((IntKind.i64.wrap (Int.tdiv s4 10)), ((sB [u8c (IntKind.u8.wrap (IntKind.i64.wrap (48 + (IntKind.i64.wrap (-(Int.tmod s4 10))))))]) ++ s5)))) (Sum.inr (Sum.inr ((IntKind.i64.wrap (Int.tdiv s4 10)), ((sB [u8c (IntKind.u8.wrap (IntKind.i64.wrap (48 + (Int.tmod s4 10))))]) ++ s5))))) (Sum.inr (Sum.inl (s4, s5)))
def spec_FormatInt_m (x0 : Int) : ByteArray :=
 cond (x0 == 0) (sB [48]) (Sum.elim id (fun (s : Int × ByteArray) => cond (decide (x0 < 0)) ((sB [45]) ++ s.2) s.2) (rngb (R := ByteArray) (fun k (s : Int × ByteArray) => spec_FormatInt_b1 k s.1 s.2) ((x0).natAbs + 1 - 0) 0 (x0, (sB []))))
def digN (n : Nat) : List UInt8 :=
 if h : n = 0 then [] else digN (n / 10) ++ [UInt8.ofNat (48 + n % 10)]
termination_by n
decreasing_by omega
theorem digN_pos {n : Nat} (h : 0 < n) : digN n = Lib.decDigits n := by
 induction n using Nat.strongRecOn with
 | _ n ih =>
  rw [digN, dif_neg (by omega), Lib.decDigits]
  by_cases h10 : n < 10
  ·rw [dif_pos h10, show n / 10 = 0 by omega, digN, dif_pos rfl, Nat.mod_eq_of_lt h10]
   rfl
  ·rw [dif_neg h10, ih (n / 10) (by omega) (by omega)]
theorem u8c_dig {d : Int} {m : Nat} (hm : m < 10) (h : d = ((m : Nat) : Int)) : u8c (IntKind.u8.wrap (IntKind.i64.wrap (48 + d))) = UInt8.ofNat (48 + m) := by
 subst h
 have h1 : IntKind.i64.wrap (48 + ((m : Nat) : Int)) = 48 + ((m : Nat) : Int) := wrap_id (by omega) (by omega)
 have h2 : IntKind.u8.wrap (48 + ((m : Nat) : Int)) = 48 + ((m : Nat) : Int) := by simp only [IntKind.wrap_u8]; omega
 rw [h1, h2]
 unfold u8c
 rw [show (48 + ((m : Nat) : Int)).toNat = 48 + m by omega]
theorem spec_FormatInt_step (n : Int) (out : List UInt8) (k : Nat) (h0 : n ≠ 0) (hr : -9223372036854775808 ≤ n ∧ n ≤ 9223372036854775807) : spec_FormatInt_b1 k n (sB out) = .inr (.inr (Int.tdiv n 10, sB (UInt8.ofNat (48 + n.natAbs % 10) :: out))) := by
 unfold spec_FormatInt_b1
 rw [bne_iff_ne.2 h0, cond_true, (tdv10 hr).1]
 have hm : (Int.tmod n 10).natAbs = n.natAbs % 10 := by rw [Int.natAbs_tmod]; rfl
 by_cases hn : Int.tmod n 10 < 0
 ·rw [decide_eq_true hn, cond_true, sB_app, wrap_id (n := -(Int.tmod n 10)) (by omega) (by omega), u8c_dig (m := n.natAbs % 10) (by omega) (by omega)]
  rfl
 ·rw [decide_eq_false hn, cond_false, sB_app, u8c_dig (m := n.natAbs % 10) (by omega) (by omega)]
  rfl
theorem spec_FormatInt_loop : ∀ (m k : Nat) (n : Int) (out : List UInt8), n.natAbs < m → (-9223372036854775808 ≤ n ∧ n ≤ 9223372036854775807) → rngb (R := ByteArray) (fun k (s : Int × ByteArray) => spec_FormatInt_b1 k s.1 s.2) m k (n, sB out) = .inr (0, sB (digN n.natAbs ++ out))
 | 0, _, n, _, h, _ => by omega
 | m + 1, k, n, out, h, hr => by
  rw [rngb]
  by_cases h0 : n = 0
  ·subst h0
   rw [show (0 : Int).natAbs = 0 from rfl, digN, dif_pos rfl]
   rfl
  ·show Sum.elim _ _ (spec_FormatInt_b1 k n (sB out)) = _
   rw [spec_FormatInt_step n out k h0 hr]
   have h2 := (tdv10 hr).2
   have ih := spec_FormatInt_loop m (k + 1) (Int.tdiv n 10) (UInt8.ofNat (48 + n.natAbs % 10) :: out) (by omega) (by omega)
   show rngb _ m (k + 1) (Int.tdiv n 10, sB (UInt8.ofNat (48 + n.natAbs % 10) :: out)) = _
   rw [ih, h2]
   have e : digN n.natAbs = digN (n.natAbs / 10) ++ [UInt8.ofNat (48 + n.natAbs % 10)] := by rw [digN, dif_neg (by omega)]
   rw [e, List.append_assoc]
   rfl
theorem spec_FormatInt_out {x : Int} (h : -9223372036854775808 ≤ x ∧ x ≤ 9223372036854775807) {a : Int} {b : ByteArray} (hE : rngb (R := ByteArray) (fun k (s : Int × ByteArray) => spec_FormatInt_b1 k s.1 s.2) (x.natAbs + 1 - 0) 0 (x, sB []) = .inr (a, b)) : b.size ≤ 20 := by
 rw [spec_FormatInt_loop (x.natAbs + 1 - 0) 0 x [] (by omega) h, List.append_nil] at hE
 cases hE
 show (sB (digN x.natAbs)).size ≤ 20
 rw [sB_size]
 by_cases h0 : 0 < x.natAbs
 ·rw [digN_pos h0, Lib.decDigits_length]
  exact Lib.nDigits_le20 _ (by omega)
 ·rw [show x.natAbs = 0 by omega, digN, dif_pos rfl]
  exact Nat.zero_le _
theorem cb49 : Cb Tryd.prog 49 := ⟨f49, _, func49, rfl, by decide⟩
theorem spec_FormatInt_c (w : World) (x0 : Int) (hr : -9223372036854775808 ≤ x0 ∧ x0 ≤ 9223372036854775807) :
  Calls Tryd.prog 49 #[.int .i64 x0] w fun e w' => e = .returned (.string (spec_FormatInt_m x0)) ∧ Below w.heap.size w w' := by
 refine ce1 (L := [(0, .int .i64 x0)]) (N := 31) func49 ?_
 refine sr (wa (nt' (CM_seq (sr (wm ?_)))))
 refine wv (fun W hm => rv_eql rfl rfl) ?_
 refine nt' ?_
 by_cases h1 : x0 = 0
 ·have g2 := beq_iff_eq.2 h1
  refine CM_condT rfl g2 ?_
  refine sr (wa (nt' (CM_ret (QM_then_ret ?_))))
  exact QM_ret1 rfl rfl (fun W hm => ⟨ret_s (show spec_FormatInt_m x0 = (sB [48]) from cond_t g2 (rfl)), hm.below⟩)
 ·have g2 := beq_eq_false_iff_ne.2 h1
  refine CM_condF rfl g2 ?_
  refine CM_skip (QM_then (sr (wa (nt' (sr (wm ?_))))))
  refine wv vlss ?_
  refine wa (nt' (CM_seq ?_))
  let F1 := fun k (s : Int × ByteArray) => spec_FormatInt_b1 k s.1 s.2
  let R2 := rngb (R := ByteArray) F1
  refine CM_cut (σ := (Int × ByteArray) × (Unit)) (fun s => [(3, .string s.1.2), (4, .bool (decide (x0 < 0)))]) (fun s => []) (fun s => R2 ((x0).natAbs + 1 - 0) 0 (x0, (sB [])) = Sum.inr s.1) ?_ ?_
  ·
   refine CM_block ?_
   refine CM_loop (σ := Nat × (Int × ByteArray) × (Unit)) (fun s => [(0, .int .i64 s.2.1.1), (3, .string s.2.1.2), (4, .bool (decide (x0 < 0)))]) (fun s => []) (fun s => s.1 + ((s.2.1.1).natAbs) + 1 ≤ (x0).natAbs + 1 ∧ R2 ((x0).natAbs + 1 - s.1) s.1 s.2.1 = R2 ((x0).natAbs + 1 - 0) 0 (x0, (sB [])) ∧ -9223372036854775808 ≤ s.2.1.1 ∧ s.2.1.1 ≤ 9223372036854775807 ∧ (s.2.1.2.size = 0 ∨ s.2.1.2.size + (s.2.1.1).natAbs ≤ 922337203685477582)) (fun s => (x0).natAbs + 1 - s.1) (0, (x0, (sB [])), ()) sl3 (fun W hm => hm) ⟨(show 0 + ((x0).natAbs) + 1 ≤ (x0).natAbs + 1 from by omega), rfl, (show -9223372036854775808 ≤ x0 from by omega), (show x0 ≤ 9223372036854775807 from by omega), (show ((sB []).size = 0 ∨ (sB []).size + (x0).natAbs ≤ 922337203685477582) from by (left; rfl))⟩ ?_
   rintro ⟨k3, ⟨s4, s5⟩, ⟨⟩⟩ H8
   obtain ⟨hk6, hF7, hi9, hi10, hi11⟩ : k3 + ((s4).natAbs) + 1 ≤ (x0).natAbs + 1 ∧ R2 ((x0).natAbs + 1 - k3) k3 (s4, s5) = R2 ((x0).natAbs + 1 - 0) 0 (x0, (sB [])) ∧ -9223372036854775808 ≤ s4 ∧ s4 ≤ 9223372036854775807 ∧ (s5.size = 0 ∨ s5.size + (s4).natAbs ≤ 922337203685477582) := H8
   show CM Tryd.prog 31 _ _ _ _ [(0, .int .i64 s4), (3, .string s5), (4, .bool (decide (x0 < 0)))] []
   refine CM_seq (sr (wm ?_))
   refine wv vneq ?_
   refine nt' ?_
   by_cases h12 : s4 = 0
   ·have g13 : (s4 != 0) = false := by rw [h12]; exact bne_self_eq_false _
    refine CM_condF rfl g13 ?_
    refine CM_exit (QM_then_exit (QM_then_exit (QM_block_hit ?_)))
    have hE14 := rngb_brk (R := ByteArray) (body := F1) (k := k3) (s := (s4, s5)) (s' := (s4, s5)) (show k3 < (x0).natAbs + 1 from by omega) (cond_f g13 (rfl)) hF7
    exact QM_cut_normal ((s4, s5), ()) sl2 (fun W hm => hm) hE14
   ·have g13 : (s4 != 0) = true := bne_iff_ne.2 h12
    refine CM_condT rfl g13 ?_
    refine CM_skip (QM_then (CM_block (sr (wm ?_))))
    refine wv (fun W hm => rv_rem rfl rfl (by omega)) ?_
    refine wa (nt' (CM_seq (sr (wm ?_))))
    refine wv vlss ?_
    refine nt' ?_
    by_cases h15 : (Int.tmod s4 10) < 0
    ·have g16 := decide_eq_true h15
     refine CM_condT rfl g16 ?_
     refine CM_region (wm ?_)
     refine wv (fun W hm => rv_neg rfl) ?_
     refine wa (nt' (sr (wm ?_)))
     refine wv vadd ?_
     refine wv (fun W hm => rv_convU8 underlying3 underlying5 rfl) ?_
     refine WM_build (cs := [.int .u8 (IntKind.u8.wrap (IntKind.i64.wrap (48 + (IntKind.i64.wrap (-(Int.tmod s4 10))))))]) underlying49 type5 rfl (by decide) (by decide) rfl (by kernel_rfl) (Wd_none rfl) (by decide) (fun p17 => ?_)
     refine wv (fun W hm => rv_byteS hm (i := 0) rfl underlying49 underlying5 underlying9 rfl) ?_
     refine wm ?_
     have hz18 : ByteArray.size (sB [u8c (IntKind.u8.wrap (IntKind.i64.wrap (48 + (IntKind.i64.wrap (-(Int.tmod s4 10))))))]) = 1 := rfl
     refine wv (fun W hm => rv_addS (p := (sB [u8c (IntKind.u8.wrap (IntKind.i64.wrap (48 + (IntKind.i64.wrap (-(Int.tmod s4 10))))))])) (q := s5) rfl rfl (by omega)) ?_
     have hz19 := sz_app (sB [u8c (IntKind.u8.wrap (IntKind.i64.wrap (48 + (IntKind.i64.wrap (-(Int.tmod s4 10))))))]) s5
     refine wa (nt' (CM_region (wm ?_)))
     have ht20 := tdv10 (n := s4) (by omega)
     refine wv (fun W hm => rv_quo rfl rfl (by omega)) ?_
     refine wa (WM_nil (QM_block_normal ?_))
     have hn21 := rngb_next (R := ByteArray) (body := F1) (k := k3) (s := (s4, s5)) (s' := ((IntKind.i64.wrap (Int.tdiv s4 10)), ((sB [u8c (IntKind.u8.wrap (IntKind.i64.wrap (48 + (IntKind.i64.wrap (-(Int.tmod s4 10))))))]) ++ s5))) (show k3 < (x0).natAbs + 1 from by omega) (cond_t g13 (cond_t g16 (rfl))) hF7
     exact QM_round (k3 + 1, ((IntKind.i64.wrap (Int.tdiv s4 10)), ((sB [u8c (IntKind.u8.wrap (IntKind.i64.wrap (48 + (IntKind.i64.wrap (-(Int.tmod s4 10))))))]) ++ s5)), ()) sl3 (pk []) ⟨(show (k3 + 1) + (((IntKind.i64.wrap (Int.tdiv s4 10))).natAbs) + 1 ≤ (x0).natAbs + 1 from by omega), hn21, (show -9223372036854775808 ≤ (IntKind.i64.wrap (Int.tdiv s4 10)) from by first | omega | (simp only [List.length_append, List.length_cons, List.length_nil] at *; omega)), (show (IntKind.i64.wrap (Int.tdiv s4 10)) ≤ 9223372036854775807 from by first | omega | (simp only [List.length_append, List.length_cons, List.length_nil] at *; omega)), (show (((sB [u8c (IntKind.u8.wrap (IntKind.i64.wrap (48 + (IntKind.i64.wrap (-(Int.tmod s4 10))))))]) ++ s5).size = 0 ∨ ((sB [u8c (IntKind.u8.wrap (IntKind.i64.wrap (48 + (IntKind.i64.wrap (-(Int.tmod s4 10))))))]) ++ s5).size + ((IntKind.i64.wrap (Int.tdiv s4 10))).natAbs ≤ 922337203685477582) from by first | omega | (simp only [List.length_append, List.length_cons, List.length_nil] at *; omega))⟩ (show (x0).natAbs + 1 - (k3 + 1) < (x0).natAbs + 1 - k3 from by omega)
    ·have g16 := decide_eq_false h15
     refine CM_condF rfl g16 ?_
     refine CM_skip (QM_then (sr (wm ?_)))
     refine wv vadd ?_
     refine wv (fun W hm => rv_convU8 underlying3 underlying5 rfl) ?_
     refine WM_build (cs := [.int .u8 (IntKind.u8.wrap (IntKind.i64.wrap (48 + (Int.tmod s4 10))))]) underlying49 type5 rfl (by decide) (by decide) rfl (by kernel_rfl) (Wd_none rfl) (by decide) (fun p22 => ?_)
     refine wv (fun W hm => rv_byteS hm (i := 0) rfl underlying49 underlying5 underlying9 rfl) ?_
     refine wm ?_
     have hz23 : ByteArray.size (sB [u8c (IntKind.u8.wrap (IntKind.i64.wrap (48 + (Int.tmod s4 10))))]) = 1 := rfl
     refine wv (fun W hm => rv_addS (p := (sB [u8c (IntKind.u8.wrap (IntKind.i64.wrap (48 + (Int.tmod s4 10))))])) (q := s5) rfl rfl (by omega)) ?_
     have hz24 := sz_app (sB [u8c (IntKind.u8.wrap (IntKind.i64.wrap (48 + (Int.tmod s4 10))))]) s5
     refine wa (nt' (CM_region (wm ?_)))
     have ht25 := tdv10 (n := s4) (by omega)
     refine wv (fun W hm => rv_quo rfl rfl (by omega)) ?_
     refine wa (WM_nil (QM_block_normal ?_))
     have hn26 := rngb_next (R := ByteArray) (body := F1) (k := k3) (s := (s4, s5)) (s' := ((IntKind.i64.wrap (Int.tdiv s4 10)), ((sB [u8c (IntKind.u8.wrap (IntKind.i64.wrap (48 + (Int.tmod s4 10))))]) ++ s5))) (show k3 < (x0).natAbs + 1 from by omega) (cond_t g13 (cond_f g16 (rfl))) hF7
     exact QM_round (k3 + 1, ((IntKind.i64.wrap (Int.tdiv s4 10)), ((sB [u8c (IntKind.u8.wrap (IntKind.i64.wrap (48 + (Int.tmod s4 10))))]) ++ s5)), ()) sl3 (pk []) ⟨(show (k3 + 1) + (((IntKind.i64.wrap (Int.tdiv s4 10))).natAbs) + 1 ≤ (x0).natAbs + 1 from by omega), hn26, (show -9223372036854775808 ≤ (IntKind.i64.wrap (Int.tdiv s4 10)) from by first | omega | (simp only [List.length_append, List.length_cons, List.length_nil] at *; omega)), (show (IntKind.i64.wrap (Int.tdiv s4 10)) ≤ 9223372036854775807 from by first | omega | (simp only [List.length_append, List.length_cons, List.length_nil] at *; omega)), (show (((sB [u8c (IntKind.u8.wrap (IntKind.i64.wrap (48 + (Int.tmod s4 10))))]) ++ s5).size = 0 ∨ ((sB [u8c (IntKind.u8.wrap (IntKind.i64.wrap (48 + (Int.tmod s4 10))))]) ++ s5).size + ((IntKind.i64.wrap (Int.tdiv s4 10))).natAbs ≤ 922337203685477582) from by first | omega | (simp only [List.length_append, List.length_cons, List.length_nil] at *; omega))⟩ (show (x0).natAbs + 1 - (k3 + 1) < (x0).natAbs + 1 - k3 from by omega)
  ·
   rintro ⟨⟨s4, s5⟩, ⟨⟩⟩ H28
   have hE27 : R2 ((x0).natAbs + 1 - 0) 0 (x0, (sB [])) = Sum.inr (s4, s5) := H28
   have hzo := spec_FormatInt_out hr hE27
   show QM 31 _ _ _ .normal [(3, .string s5), (4, .bool (decide (x0 < 0)))] []
   refine QM_then (CM_seq (sr (wm (nt' ?_))))
   by_cases h29 : x0 < 0
   ·have g30 := decide_eq_true h29
    refine CM_condT rfl g30 ?_
    refine sr (wm ?_)
    have hz31 : ByteArray.size (sB [45]) = 1 := rfl
    refine wv (fun W hm => rv_addS (p := (sB [45])) (q := s5) rfl rfl (by omega)) ?_
    have hz32 := sz_app (sB [45]) s5
    refine wa (nt' (CM_ret (QM_then_ret ?_)))
    exact QM_ret1 rfl rfl (fun W hm => ⟨ret_s (show spec_FormatInt_m x0 = ((sB [45]) ++ s5) from cond_f g2 (fin_inr hE27 (cond_t g30 (rfl)))), hm.below⟩)
   ·have g30 := decide_eq_false h29
    refine CM_condF rfl g30 ?_
    refine CM_skip (QM_then (sr (wm (wa (nt' (CM_ret ?_))))))
    exact QM_ret1 rfl rfl (fun W hm => ⟨ret_s (show spec_FormatInt_m x0 = s5 from cond_f g2 (fin_inr hE27 (cond_f g30 (rfl)))), hm.below⟩)
theorem spec_FormatInt_is (x : Int) (h : -9223372036854775808 ≤ x ∧ x ≤ 9223372036854775807) : spec_FormatInt_m x = itoaB x := by
  unfold spec_FormatInt_m itoaB
  by_cases h0 : x = 0
  · subst h0
    rw [show Lib.itoa 0 = [48] by rw [show (0 : Int) = ((0 : Nat) : Int) from rfl, Lib.itoa_nonneg, Lib.decDigits_one (by omega)]; rfl]
    rfl
  · rw [beq_eq_false_iff_ne.2 h0, cond_false, spec_FormatInt_loop (x.natAbs + 1 - 0) 0 x [] (by omega) h, List.append_nil, digN_pos (by omega)]
    show cond (decide (x < 0)) (sB [45] ++ sB (Lib.decDigits x.natAbs)) (sB (Lib.decDigits x.natAbs)) = _
    by_cases hn : x < 0
    · rw [decide_eq_true hn, cond_true, sB_app, Lib.itoa, if_pos hn]
      rfl
    · rw [decide_eq_false hn, cond_false, Lib.itoa, if_neg hn, show x.natAbs = x.toNat by omega]
theorem spec_FormatInt_sz (x : Int) (h : -9223372036854775808 ≤ x ∧ x ≤ 9223372036854775807) : (spec_FormatInt_m x).size ≤ 21 := by
  rw [spec_FormatInt_is x h]; exact itoaB_sz x h

def spec_FormatGroup_m (x0 : DGroup) : ByteArray :=
 cond (spec_l1In_m x0.Query 0 23) (cond (spec_l1In_m x0.Value 0 99) (cond (decide (x0.Count < 1)) (sB []) (cond (decide (x0.Sum < 0)) (sB []) ((((((((sB [113]) ++ (spec_FormatInt_m x0.Query)) ++ (sB [32])) ++ (spec_FormatInt_m x0.Value)) ++ (sB [32, 99, 111, 117, 110, 116, 32])) ++ (spec_FormatInt_m x0.Count)) ++ (sB [32, 115, 117, 109, 32])) ++ (spec_FormatInt_m x0.Sum)))) (sB [])) (sB [])
theorem cb8 : Cb Tryd.prog 8 := ⟨f8, _, func8, rfl, by decide⟩
theorem spec_FormatGroup_c (w : World) (z0 : List Value) (x0 : DGroup) (r_0 : tyGroup.rd w w.heap.size z0 x0) (hc : (-9223372036854775808 ≤ x0.Count ∧ x0.Count ≤ 9223372036854775807) ∧ (-9223372036854775808 ≤ x0.Sum ∧ x0.Sum ≤ 9223372036854775807)) :
  Calls Tryd.prog 8 #[.agg z0.toArray] w fun e w' => e = .returned (.string (spec_FormatGroup_m x0)) ∧ Below w.heap.size w w' := by
 obtain rfl := tyGroup_rd r_0
 refine ce1 (L := [(0, .agg #[.int .i64 x0.Query, .int .i64 x0.Value, .int .i64 x0.Count, .int .i64 x0.Sum])]) (N := 42) func8 ?_
 refine sr ?_
 refine WM_box rfl (Wd_none rfl) (by decide) (fun p1 => ?_)
 refine wa (nt' (CM_seq (sr ?_)))
 refine wv (vf underlying25 rfl type3) ?_
 refine wv (vl 0 0 underlying3) ?_
 refine wcv (cl_fn cb48 rfl) (fun W hm => spec_l1In_c W x0.Query 0 23) ?_
 refine wv vnot ?_
 refine wm ?_
 rcases Bool.eq_false_or_eq_true (spec_l1In_m x0.Query 0 23) with g3 | g3
 ·
  have hw := spec_l1In_fact g3
  refine wg (vf underlying25 rfl type3) (nt g3) ?_
  refine wg (vl 0 1 underlying3) (nt g3) ?_
  refine WM_callV (cl_fn cb48 rfl) (fun W hm => spec_l1In_c W x0.Value 0 99) (Wd_some rfl rfl rfl (bw (nt g3) rfl)) (by decide) ?_
  refine wg vnot (nt g3) ?_
  refine wv (vpF (nt g3)) ?_
  refine wm ?_
  rcases Bool.eq_false_or_eq_true (spec_l1In_m x0.Value 0 99) with g5 | g5
  ·
   have hw := spec_l1In_fact g5
   refine wg (vf underlying25 rfl type3) (nt g5) ?_
   refine wg (vl 0 2 underlying3) (nt g5) ?_
   refine wg vlss (nt g5) ?_
   refine wv (vpF (nt g5)) ?_
   refine wm ?_
   by_cases h6 : x0.Count < 1
   ·have g7 := decide_eq_true h6
    refine ws g7 ?_
    refine ws g7 ?_
    refine ws g7 ?_
    refine wv (vpT g7) ?_
    refine nt' ?_
    refine CM_condT rfl rfl ?_
    refine sr (wa (nt' (CM_ret (QM_then_ret ?_))))
    exact QM_ret1 rfl rfl (fun W hm => ⟨ret_s (show spec_FormatGroup_m x0 = (sB []) from cond_t g3 (cond_t g5 (cond_t g7 (rfl)))), hm.below⟩)
   ·have g7 := decide_eq_false h6
    refine wg (vf underlying25 rfl type3) g7 ?_
    refine wg (vl 0 3 underlying3) g7 ?_
    refine wg vlss g7 ?_
    refine wv (vpF g7) ?_
    refine nt' ?_
    by_cases h8 : x0.Sum < 0
    ·have g9 := decide_eq_true h8
     refine CM_condT rfl g9 ?_
     refine sr (wa (nt' (CM_ret (QM_then_ret ?_))))
     exact QM_ret1 rfl rfl (fun W hm => ⟨ret_s (show spec_FormatGroup_m x0 = (sB []) from cond_t g3 (cond_t g5 (cond_f g7 (cond_t g9 (rfl))))), hm.below⟩)
    ·have g9 := decide_eq_false h8
     refine CM_condF rfl g9 ?_
     refine CM_skip (QM_then (CM_seq ?_))
     refine CM_regionD (by kernel_rfl) (by kernel_rfl) ?_
     refine qv (vf underlying25 rfl type3) ?_
     refine qv (vl 0 0 underlying3) ?_
     refine QR_callV (cl_fn cb49 rfl) (fun W hm => spec_FormatInt_c W x0.Query (⟨by omega, by omega⟩)) (Wd_none rfl) (by decide) ?_
     have hz10 := spec_FormatInt_sz x0.Query (by omega)
     have hz11 : ByteArray.size (sB [113]) = 1 := rfl
     refine qv (fun W hm => rv_addS (p := (sB [113])) (q := (spec_FormatInt_m x0.Query)) rfl rfl (by omega)) ?_
     have hz12 := sz_app (sB [113]) (spec_FormatInt_m x0.Query)
     have hz13 : ByteArray.size (sB [32]) = 1 := rfl
     refine qv (fun W hm => rv_addS (p := ((sB [113]) ++ (spec_FormatInt_m x0.Query))) (q := (sB [32])) rfl rfl (by omega)) ?_
     have hz14 := sz_app ((sB [113]) ++ (spec_FormatInt_m x0.Query)) (sB [32])
     refine qv (vf underlying25 rfl type3) ?_
     refine qv (vl 0 1 underlying3) ?_
     refine QR_callV (cl_fn cb49 rfl) (fun W hm => spec_FormatInt_c W x0.Value (⟨by omega, by omega⟩)) (Wd_none rfl) (by decide) ?_
     have hz15 := spec_FormatInt_sz x0.Value (by omega)
     refine qv (fun W hm => rv_addS (p := (((sB [113]) ++ (spec_FormatInt_m x0.Query)) ++ (sB [32]))) (q := (spec_FormatInt_m x0.Value)) rfl rfl (by omega)) ?_
     have hz16 := sz_app (((sB [113]) ++ (spec_FormatInt_m x0.Query)) ++ (sB [32])) (spec_FormatInt_m x0.Value)
     have hz17 : ByteArray.size (sB [32, 99, 111, 117, 110, 116, 32]) = 7 := rfl
     refine qv (fun W hm => rv_addS (p := ((((sB [113]) ++ (spec_FormatInt_m x0.Query)) ++ (sB [32])) ++ (spec_FormatInt_m x0.Value))) (q := (sB [32, 99, 111, 117, 110, 116, 32])) rfl rfl (by omega)) ?_
     have hz18 := sz_app ((((sB [113]) ++ (spec_FormatInt_m x0.Query)) ++ (sB [32])) ++ (spec_FormatInt_m x0.Value)) (sB [32, 99, 111, 117, 110, 116, 32])
     refine qv (vf underlying25 rfl type3) ?_
     refine qv (vl 0 2 underlying3) ?_
     refine QR_callV (cl_fn cb49 rfl) (fun W hm => spec_FormatInt_c W x0.Count (⟨by omega, by omega⟩)) (Wd_none rfl) (by decide) ?_
     have hz19 := spec_FormatInt_sz x0.Count (by omega)
     refine qv (fun W hm => rv_addS (p := (((((sB [113]) ++ (spec_FormatInt_m x0.Query)) ++ (sB [32])) ++ (spec_FormatInt_m x0.Value)) ++ (sB [32, 99, 111, 117, 110, 116, 32]))) (q := (spec_FormatInt_m x0.Count)) rfl rfl (by omega)) ?_
     have hz20 := sz_app (((((sB [113]) ++ (spec_FormatInt_m x0.Query)) ++ (sB [32])) ++ (spec_FormatInt_m x0.Value)) ++ (sB [32, 99, 111, 117, 110, 116, 32])) (spec_FormatInt_m x0.Count)
     have hz21 : ByteArray.size (sB [32, 115, 117, 109, 32]) = 5 := rfl
     refine qv (fun W hm => rv_addS (p := ((((((sB [113]) ++ (spec_FormatInt_m x0.Query)) ++ (sB [32])) ++ (spec_FormatInt_m x0.Value)) ++ (sB [32, 99, 111, 117, 110, 116, 32])) ++ (spec_FormatInt_m x0.Count))) (q := (sB [32, 115, 117, 109, 32])) rfl rfl (by omega)) ?_
     have hz22 := sz_app ((((((sB [113]) ++ (spec_FormatInt_m x0.Query)) ++ (sB [32])) ++ (spec_FormatInt_m x0.Value)) ++ (sB [32, 99, 111, 117, 110, 116, 32])) ++ (spec_FormatInt_m x0.Count)) (sB [32, 115, 117, 109, 32])
     refine qv (vf underlying25 rfl type3) ?_
     refine qv (vl 0 3 underlying3) ?_
     refine QR_callV (cl_fn cb49 rfl) (fun W hm => spec_FormatInt_c W x0.Sum (⟨by omega, by omega⟩)) (Wd_none rfl) (by decide) ?_
     have hz23 := spec_FormatInt_sz x0.Sum (by omega)
     refine qv (fun W hm => rv_addS (p := (((((((sB [113]) ++ (spec_FormatInt_m x0.Query)) ++ (sB [32])) ++ (spec_FormatInt_m x0.Value)) ++ (sB [32, 99, 111, 117, 110, 116, 32])) ++ (spec_FormatInt_m x0.Count)) ++ (sB [32, 115, 117, 109, 32]))) (q := (spec_FormatInt_m x0.Sum)) rfl rfl (by omega)) ?_
     have hz24 := sz_app (((((((sB [113]) ++ (spec_FormatInt_m x0.Query)) ++ (sB [32])) ++ (spec_FormatInt_m x0.Value)) ++ (sB [32, 99, 111, 117, 110, 116, 32])) ++ (spec_FormatInt_m x0.Count)) ++ (sB [32, 115, 117, 109, 32])) (spec_FormatInt_m x0.Sum)
     refine qv (fun W hm => rv_assign rfl) ?_
     refine nq' (CM_ret ?_)
     exact QM_ret1 rfl rfl (fun W hm => ⟨ret_s (show spec_FormatGroup_m x0 = ((((((((sB [113]) ++ (spec_FormatInt_m x0.Query)) ++ (sB [32])) ++ (spec_FormatInt_m x0.Value)) ++ (sB [32, 99, 111, 117, 110, 116, 32])) ++ (spec_FormatInt_m x0.Count)) ++ (sB [32, 115, 117, 109, 32])) ++ (spec_FormatInt_m x0.Sum)) from cond_t g3 (cond_t g5 (cond_f g7 (cond_f g9 (rfl))))), hm.below⟩)
  ·
   refine ws (nf g5) ?_
   refine ws (nf g5) ?_
   refine ws (nf g5) ?_
   refine wv (vpT (nf g5)) ?_
   refine wm ?_
   refine wk ?_
   refine wk ?_
   refine wk ?_
   refine wv (vpT rfl) ?_
   refine nt' ?_
   refine CM_condT rfl rfl ?_
   refine sr (wa (nt' (CM_ret (QM_then_ret ?_))))
   exact QM_ret1 rfl rfl (fun W hm => ⟨ret_s (show spec_FormatGroup_m x0 = (sB []) from cond_t g3 (cond_f g5 (rfl))), hm.below⟩)
 ·
  refine ws (nf g3) ?_
  refine ws (nf g3) ?_
  refine ws (nf g3) ?_
  refine ws (nf g3) ?_
  refine wv (vpT (nf g3)) ?_
  refine wm ?_
  refine wk ?_
  refine wk ?_
  refine wk ?_
  refine wv (vpT rfl) ?_
  refine wm ?_
  refine wk ?_
  refine wk ?_
  refine wk ?_
  refine wv (vpT rfl) ?_
  refine nt' ?_
  refine CM_condT rfl rfl ?_
  refine sr (wa (nt' (CM_ret (QM_then_ret ?_))))
  exact QM_ret1 rfl rfl (fun W hm => ⟨ret_s (show spec_FormatGroup_m x0 = (sB []) from cond_f g3 (rfl)), hm.below⟩)

def impl_GroupsOf_b1 (x0 : (List DGroup)) (x1 : Int) (k9 : Nat) (d10 : (List DGroup)) : (List DGroup) ⊕ ((List DGroup)) :=
 cond (((gt x0 k9).Query) == x1) (Sum.inr (d10 ++ [(gt x0 k9)])) (Sum.inr d10)
def impl_GroupsOf_m (x0 : (List DGroup)) (x1 : Int) : (List DGroup) :=
 Sum.elim id (fun (s : (List DGroup)) => s) (rng (R := (List DGroup)) (fun k (s : (List DGroup)) => impl_GroupsOf_b1 x0 x1 k s) (x0.length - 0) 0 [])
theorem cb45 : Cb Tryd.prog 45 := ⟨f45, _, func45, rfl, by decide⟩
theorem impl_GroupsOf_c (w : World) (z0 : Value) (x0 : (List DGroup)) (x1 : Int) (r_0 : rdS tyGroup w w.heap.size z0 x0) (s_0 : x0.length ≤ 68719476736) :
  Calls Tryd.prog 45 #[z0, .int .i64 x1] w fun e w' => ∃ v : Value, e = .returned (v) ∧ Mem w.heap.size w [iOwn (tSl tyGroup 25) [v] (impl_GroupsOf_m x0 x1)] w' := by
 obtain ⟨m1, A2, c3, rfl, q4, r5⟩ := rdS_op r_0
 have l6 : x0.length ≤ 68719476736 := s_0
 refine ce2 (L := [(0, .slice A2 x0.length c3), (1, .int .i64 x1)]) (N := 25) func45 ?_
 refine sr (wa (nt' (sr ?_)))
 refine WM_build0 (E := tyGroup) underlying68 type25 (Wd_none rfl) (by decide) (fun p7 => ?_)
 refine wa (nt' (CM_seq (sr (wm ?_))))
 refine wv (vlen underlying68) ?_
 refine wm (nt' (CM_block ?_))
 let F1 := fun k (s : (List DGroup)) => impl_GroupsOf_b1 x0 x1 k s
 let R2 := rng (R := (List DGroup)) F1
 refine CM_loop (σ := Nat × ((List DGroup)) × (Option Addr × Nat)) (fun s => [(1, .int .i64 x1), (5, .slice s.2.2.1 s.2.1.length s.2.2.2), (9, .slice A2 x0.length c3), (10, .int .i64 ((x0.length : Nat) : Int)), (11, .int .i64 ((s.1 : Nat) : Int))]) (fun s => [iOwn (tSl tyGroup 25) [.slice s.2.2.1 s.2.1.length s.2.2.2] s.2.1]) (fun s => s.1 ≤ x0.length ∧ R2 (x0.length - s.1) s.1 s.2.1 = R2 (x0.length - 0) 0 [] ∧ s.2.1.length ≤ 0 + s.1) (fun s => x0.length - s.1) (0, [], ((some ⟨p7, 0, none⟩), 0)) sl5 (fun W hm => hm) ⟨(by omega), rfl, Nat.le_refl _⟩ ?_
 rintro ⟨k9, d10, ⟨A11, c12⟩⟩ H15
 obtain ⟨hk13, hF14, hi16⟩ : k9 ≤ x0.length ∧ R2 (x0.length - k9) k9 d10 = R2 (x0.length - 0) 0 [] ∧ d10.length ≤ 0 + k9 := H15
 let I4 : It := iOwn (tSl tyGroup 25) [.slice A11 d10.length c12] d10
 show CM Tryd.prog 25 _ _ _ _ [(1, .int .i64 x1), (5, .slice A11 d10.length c12), (9, .slice A2 x0.length c3), (10, .int .i64 ((x0.length : Nat) : Int)), (11, .int .i64 ((k9 : Nat) : Int))] [I4]
 refine sr ?_
 refine wv vlss ?_
 refine nt' (CM_seq ?_)
 by_cases hl17 : k9 < x0.length
 ·have g18 := dlT hl17
  refine CM_condT rfl g18 ?_
  refine CM_skip (QM_then (CM_seq (CM_block (sr ?_))))
  obtain ⟨a19, rfl, hb20, he21⟩ := q4 (by omega)
  refine wv (vix 4 k9 underlying68 type25) ?_
  obtain ⟨_, e23, hc22⟩ := he21 k9 _ (gt_some (show k9 < x0.length from by omega))
  obtain rfl := tyGroup_rd e23
  let K3 : List Value := [.int .i64 ((gt x0 k9).Query), .int .i64 ((gt x0 k9).Value), .int .i64 ((gt x0 k9).Count), .int .i64 ((gt x0 k9).Sum)]
  refine wv (fun W hm => rv_loadN (cs := K3) underlying25 type25 rfl rfl (hm.elCells (show (a19.add (k9 * 4)).block < w.heap.size from by rw [add_block]; exact hb20.1) hc22)) ?_
  refine WM_alloc type25 rfl (Wd_none rfl) (by decide) (fun p24 => ?_)
  refine sb 0 K3 [I4] (fun W hm => hm) type25 ?_
  refine nt' (sr ?_)
  refine wv (vf underlying25 rfl type3) ?_
  refine wv (vl 0 0 underlying3) ?_
  refine wm ?_
  refine wv (fun W hm => rv_eql rfl rfl) ?_
  refine nt' ?_
  by_cases h25 : ((gt x0 k9).Query) = x1
  ·have g26 := beq_iff_eq.2 h25
   refine CM_condT rfl g26 ?_
   refine CM_region (wm ?_)
   refine wv (fun W hm => rv_loadN (cs := K3) underlying25 type25 rfl rfl (hm.boxCells (n := 0) rfl)) ?_
   refine WM_build (cs := K3) underlying68 type25 rfl (by decide) (by decide) rfl (by kernel_rfl) (Wd_none rfl) (by decide) (fun p27 => ?_)
   refine ap1 tyGroup 25 (.slice A11 d10.length c12) d10 (gt x0 k9) [] [iBox p24 25 K3] K3 (pk [0, 2, 1]) (fun _ _ hs => by cases (Sep.nil hs); exact (els_cons (tyGroup_join (x := (gt x0 k9)) (L := []) rfl) els_nil)) underlying68 type25 (show (d10.length + 1) * 32 ≤ 140737488355328 from by omega) (fun v28 => ?_)
   refine WM_form (n := 0) rfl ?_
   rintro A29 c30 rfl m31
   refine wa (WM_nil (QM_block_normal (QM_then (CM_region ?_))))
   refine wv (vadN k9 1 (by omega)) ?_
   refine wm (WM_nil ?_)
   have hn33 := rng_next (R := (List DGroup)) (body := F1) (k := k9) (s := d10) (s' := (d10 ++ [(gt x0 k9)])) (show k9 < x0.length from by omega) (cond_t g26 (rfl)) hF14
   exact QM_round (k9 + 1, (d10 ++ [(gt x0 k9)]), (A29, c30)) sl5 (pk [0]) ⟨(by omega), hn33, (show (d10 ++ [(gt x0 k9)]).length ≤ 0 + (k9 + 1) from by first | omega | (simp only [List.length_append, List.length_cons, List.length_nil] at *; omega))⟩ (rl (by omega))
  ·have g26 := beq_eq_false_iff_ne.2 h25
   refine CM_condF rfl g26 ?_
   refine CM_skip (QM_block_normal (QM_then (CM_region ?_)))
   refine wv (vadN k9 1 (by omega)) ?_
   refine wm (WM_nil ?_)
   have hn34 := rng_next (R := (List DGroup)) (body := F1) (k := k9) (s := d10) (s' := d10) (show k9 < x0.length from by omega) (cond_f g26 (rfl)) hF14
   exact QM_round (k9 + 1, d10, (A11, c12)) sl5 (pk [1]) ⟨(by omega), hn34, (show d10.length ≤ 0 + (k9 + 1) from by first | omega | (simp only [List.length_append, List.length_cons, List.length_nil] at *; omega))⟩ (rl (by omega))
 ·have g18 := dlF hl17
  refine CM_condF rfl g18 ?_
  refine CM_exit (QM_then_exit (QM_then_exit ?_))
  have hE35 : R2 (x0.length - 0) 0 [] = Sum.inr d10 := rng_end hl17 hF14
  refine QM_block_hit (QM_then (sr (wm (wa (nt' (CM_ret ?_))))))
  have he36 := (show impl_GroupsOf_m x0 x1 = d10 from fin_inr hE35 (rfl))
  refine QM_r1 rfl (RR_tmp rfl) (fun W hm => ⟨.slice A11 d10.length c12, ?_, ?_⟩)
  ·first | rw [he36] | rfl
  ·rw [he36]; exact hm

def spec_RouteRows_b1 (x0 : (List DAnnotated)) (x1 : Int) (k9 : Nat) (d10 : (List DRow)) : (List DRow) ⊕ ((List DRow)) :=
 cond (spec_HasMember_m ((gt x0 k9).Set) x1) (Sum.inr (d10 ++ [((gt x0 k9).Row)])) (Sum.inr d10)
def spec_RouteRows_m (x0 : (List DAnnotated)) (x1 : Int) : (List DRow) :=
 Sum.elim id (fun (s : (List DRow)) => s) (rng (R := (List DRow)) (fun k (s : (List DRow)) => spec_RouteRows_b1 x0 x1 k s) (x0.length - 0) 0 [])
theorem cb47 : Cb Tryd.prog 47 := ⟨f47, _, func47, rfl, by decide⟩
theorem spec_RouteRows_c (w : World) (z0 : Value) (x0 : (List DAnnotated)) (x1 : Int) (r_0 : rdS tyAnnotated w w.heap.size z0 x0) (s_0 : (x0.length ≤ 68719476736 ∧ ∀ y ∈ x0, smAnnotated 68719476736 y)) :
  Calls Tryd.prog 47 #[z0, .int .i64 x1] w fun e w' => ∃ v : Value, e = .returned (v) ∧ Mem w.heap.size w [iOwn (tSl tyRow 43) [v] (spec_RouteRows_m x0 x1)] w' := by
 obtain ⟨m1, A2, c3, rfl, q4, r5⟩ := rdS_op r_0
 have l6 : x0.length ≤ 68719476736 := s_0.1
 refine ce2 (L := [(0, .slice A2 x0.length c3), (1, .int .i64 x1)]) (N := 31) func47 ?_
 refine sr (wa (nt' (sr ?_)))
 refine WM_build0 (E := tyRow) underlying75 type43 (Wd_none rfl) (by decide) (fun p7 => ?_)
 refine wa (nt' (CM_seq (sr (wa (nt' (CM_block ?_))))))
 let F1 := fun k (s : (List DRow)) => spec_RouteRows_b1 x0 x1 k s
 let R2 := rng (R := (List DRow)) F1
 refine CM_loop (σ := Nat × ((List DRow)) × (Option Addr × Nat)) (fun s => [(0, .slice A2 x0.length c3), (1, .int .i64 x1), (5, .slice s.2.2.1 s.2.1.length s.2.2.2), (6, .int .i64 ((s.1 : Nat) : Int))]) (fun s => [iOwn (tSl tyRow 43) [.slice s.2.2.1 s.2.1.length s.2.2.2] s.2.1]) (fun s => s.1 ≤ x0.length ∧ R2 (x0.length - s.1) s.1 s.2.1 = R2 (x0.length - 0) 0 [] ∧ s.2.1.length ≤ 0 + s.1) (fun s => x0.length - s.1) (0, [], ((some ⟨p7, 0, none⟩), 0)) sl4 (fun W hm => hm) ⟨(by omega), rfl, Nat.le_refl _⟩ ?_
 rintro ⟨k9, d10, ⟨A11, c12⟩⟩ H15
 obtain ⟨hk13, hF14, hi16⟩ : k9 ≤ x0.length ∧ R2 (x0.length - k9) k9 d10 = R2 (x0.length - 0) 0 [] ∧ d10.length ≤ 0 + k9 := H15
 show CM Tryd.prog 31 _ _ _ _ [(0, .slice A2 x0.length c3), (1, .int .i64 x1), (5, .slice A11 d10.length c12), (6, .int .i64 ((k9 : Nat) : Int))] [iOwn (tSl tyRow 43) [.slice A11 d10.length c12] d10]
 refine CM_seq (sr (wm (wm ?_)))
 refine wv (vlen underlying65) ?_
 refine wv vlss ?_
 refine nt' ?_
 by_cases hl17 : k9 < x0.length
 ·have g18 := dlT hl17
  refine CM_condT rfl g18 ?_
  refine CM_skip (QM_then (CM_seq (CM_block (sr (wm (wm ?_))))))
  obtain ⟨a19, rfl, hb20, he21⟩ := q4 (by omega)
  refine wv (vix 3 k9 underlying65 type72) ?_
  refine wv (vf underlying72 rfl type28) ?_
  obtain ⟨_, e27, hc22⟩ := he21 k9 _ (gt_some (show k9 < x0.length from by omega))
  obtain ⟨v23, v25, rfl, r24, r26⟩ := tyAnnotated_rd e27
  have l28 : ((gt x0 k9).Row.Values).length ≤ 68719476736 := (s_0.2 _ (gt_mem (show k9 < x0.length from by omega))).1
  have l29 : ((gt x0 k9).Set).length ≤ 68719476736 := (s_0.2 _ (gt_mem (show k9 < x0.length from by omega))).2
  obtain ⟨m30, A31, c32, rfl, q33, r34⟩ := rdS_op r24
  obtain ⟨m35, A36, c37, rfl, q38, r39⟩ := rdS_op r26
  refine wv (fun W hm => rv_load underlying28 rfl rfl ((hm.cell0 (show ((a19.add (k9 * 3)).add 2).block < w.heap.size from by rw [add_block, add_block]; exact hb20.1)).trans (hc22 2 _ rfl))) ?_
  refine wm ?_
  refine wcv (cl_fn cb69 rfl) (fun W hm => spec_HasMember_c W _ ((gt x0 k9).Set) x1 (hm.rdS0 r39)) ?_
  refine nt' ?_
  rcases Bool.eq_false_or_eq_true (spec_HasMember_m ((gt x0 k9).Set) x1) with g41 | g41
  ·
   refine CM_condT rfl g41 ?_
   refine CM_region (wm (wm (wm ?_)))
   refine wv (vix 3 k9 underlying65 type72) ?_
   refine wv (vf underlying72 rfl type43) ?_
   refine wv (fun W hm => rv_loadN (cs := [.int .i64 ((gt x0 k9).Row.Id), .slice A31 ((gt x0 k9).Row.Values).length c32]) underlying43 type43 rfl rfl (hm.elPart (show (a19.add (k9 * 3)).block < w.heap.size from by rw [add_block]; exact hb20.1) hc22 rfl)) ?_
   refine wcs tyRow ((gt x0 k9).Row) (cl_fn cb79 rfl) (fun W hm => spec_l3Copy_c2 W _ ((gt x0 k9).Row) (tyRow_mk (x := ((gt x0 k9).Row)) (hm.rdS0 r34)) (s_0.2 _ (gt_mem (show k9 < x0.length from by omega))).1) (fun z42 => ?_)
   refine tyRow_sp ?_
   rintro v43 rfl
   refine WM_form (n := 0) rfl ?_
   rintro A44 c45 rfl m46
   let K3 : List Value := [.int .i64 (((gt x0 k9).Row).Id), .slice A44 (((gt x0 k9).Row).Values).length c45]
   refine WM_build (cs := K3) underlying75 type43 rfl (by decide) (by decide) rfl (by kernel_rfl) (Wd_none rfl) (by decide) (fun p48 => ?_)
   refine ap1 tyRow 43 (.slice A11 d10.length c12) d10 ((gt x0 k9).Row) [iOwn (tSl tInt 3) [.slice A44 (((gt x0 k9).Row).Values).length c45] (((gt x0 k9).Row).Values)] [] K3 (pk [0, 2, 1]) (fun _ _ hs => Els.single (tyRow_join (x := ((gt x0 k9).Row)) hs)) underlying75 type43 (show (d10.length + 1) * 32 ≤ 140737488355328 from by omega) (fun v49 => ?_)
   refine WM_form (n := 0) rfl ?_
   rintro A50 c51 rfl m52
   refine wa (WM_nil (QM_block_normal (QM_then (CM_region (wm ?_)))))
   refine wv (vadN k9 1 (by omega)) ?_
   refine wa (WM_nil ?_)
   have hn54 := rng_next (R := (List DRow)) (body := F1) (k := k9) (s := d10) (s' := (d10 ++ [((gt x0 k9).Row)])) (show k9 < x0.length from by omega) (cond_t g41 (rfl)) hF14
   exact QM_round (k9 + 1, (d10 ++ [((gt x0 k9).Row)]), (A50, c51)) sl4 (fun W hm => hm) ⟨(by omega), hn54, (show (d10 ++ [((gt x0 k9).Row)]).length ≤ 0 + (k9 + 1) from by first | omega | (simp only [List.length_append, List.length_cons, List.length_nil] at *; omega))⟩ (rl (by omega))
  ·
   refine CM_condF rfl g41 ?_
   refine CM_skip (QM_block_normal (QM_then (CM_region (wm ?_))))
   refine wv (vadN k9 1 (by omega)) ?_
   refine wa (WM_nil ?_)
   have hn55 := rng_next (R := (List DRow)) (body := F1) (k := k9) (s := d10) (s' := d10) (show k9 < x0.length from by omega) (cond_f g41 (rfl)) hF14
   exact QM_round (k9 + 1, d10, (A11, c12)) sl4 (fun W hm => hm) ⟨(by omega), hn55, (show d10.length ≤ 0 + (k9 + 1) from by first | omega | (simp only [List.length_append, List.length_cons, List.length_nil] at *; omega))⟩ (rl (by omega))
 ·have g18 := dlF hl17
  refine CM_condF rfl g18 ?_
  refine CM_exit (QM_then_exit (QM_then_exit ?_))
  have hE56 : R2 (x0.length - 0) 0 [] = Sum.inr d10 := rng_end hl17 hF14
  refine QM_block_hit (QM_then (sr (wm (wa (nt' (CM_ret ?_))))))
  have he57 := (show spec_RouteRows_m x0 x1 = d10 from fin_inr hE56 (rfl))
  refine QM_r1 rfl (RR_tmp rfl) (fun W hm => ⟨.slice A11 d10.length c12, ?_, ?_⟩)
  ·first | rw [he57] | rfl
  ·rw [he57]; exact hm

def impl_copyInts_m (x0 : (List Int)) : (List Int) :=
 x0
theorem cb102 : Cb Tryd.prog 102 := ⟨f102, _, func102, rfl, by decide⟩
theorem impl_copyInts_c (w : World) (z0 : Value) (x0 : (List Int)) (r_0 : rdS tInt w w.heap.size z0 x0) (s_0 : x0.length ≤ 68719476736) :
  Calls Tryd.prog 102 #[z0] w fun e w' => ∃ v : Value, e = .returned (v) ∧ Mem w.heap.size w [iOwn (tSl tInt 3) [v] (impl_copyInts_m x0)] w' := by
 obtain ⟨m1, A2, c3, rfl, q4, r5⟩ := rdS_op r_0
 have l6 : x0.length ≤ 68719476736 := s_0
 refine ce1 (L := [(0, .slice A2 x0.length c3)]) (N := 6) func102 ?_
 refine sr (wa (nt' (sr ?_)))
 refine WM_build0 (E := tInt) underlying28 type3 (Wd_none rfl) (by decide) (fun p7 => ?_)
 refine wm ?_
 refine apR tInt tInt 3 (.slice (some ⟨p7, 0, none⟩) 0 0) [] x0 [] (fun W hm => hm) (fun W hm => src_flat flat_int (hm.rdS0 r5)) underlying28 type3 (show (0 + x0.length) * 8 ≤ 140737488355328 from by omega) (fun v9 => ?_)
 refine WM_form (n := 0) rfl ?_
 rintro A10 c11 rfl m12
 refine wa (nt' (CM_ret ?_))
 have he14 := (show impl_copyInts_m x0 = x0 from rfl)
 refine QM_r1 rfl (RR_tmp rfl) (fun W hm => ⟨.slice A10 x0.length c11, ?_, ?_⟩)
 ·first | rw [he14] | rfl
 ·rw [he14]; exact hm
theorem impl_copyInts_eq (x0 : (List Int)) : impl_copyInts_m x0 = x0 := by
 rfl
theorem impl_copyInts_c2 (w : World) (z0 : Value) (x0 : (List Int)) (r_0 : rdS tInt w w.heap.size z0 x0) (s_0 : x0.length ≤ 68719476736) :
  Calls Tryd.prog 102 #[z0] w fun e w' => ∃ v : Value, e = .returned (v) ∧ Mem w.heap.size w [iOwn (tSl tInt 3) [v] x0] w' := by
 have h := impl_copyInts_c w z0 x0 r_0 s_0
 rw [impl_copyInts_eq] at h
 exact h

def impl_copyRow_m (x0 : DRow) : DRow :=
 x0
theorem cb92 : Cb Tryd.prog 92 := ⟨f92, _, func92, rfl, by decide⟩
theorem impl_copyRow_c (w : World) (z0 : List Value) (x0 : DRow) (r_0 : tyRow.rd w w.heap.size z0 x0) (s_0 : smRow 68719476736 x0) :
  Calls Tryd.prog 92 #[.agg z0.toArray] w fun e w' => ∃ v : List Value, e = .returned (.agg v.toArray) ∧ Mem w.heap.size w [iOwn tyRow v (impl_copyRow_m x0)] w' := by
 obtain ⟨v1, rfl, r2⟩ := tyRow_rd r_0
 obtain ⟨m3, A4, c5, rfl, q6, r7⟩ := rdS_op r2
 have l8 : x0.Values.length ≤ 68719476736 := s_0
 refine ce1 (L := [(0, .agg #[.int .i64 x0.Id, .slice A4 x0.Values.length c5])]) (N := 9) func92 ?_
 refine sr ?_
 refine WM_box rfl (Wd_none rfl) (by decide) (fun p9 => ?_)
 refine WM_alloc type43 rfl (Wd_none rfl) (by decide) (fun p10 => ?_)
 refine nt' (CM_seq ?_)
 let I1 : It := iBox p9 43 [.int .i64 x0.Id, .slice A4 x0.Values.length c5]
 refine rd2 7 [6] (s := [I1]) (s2 := [iBox p10 43 [.int .i64 0, .slice none 0 0], I1]) (pk [1]) (fun W hm => hm) ?_
 refine qtD 7 0 1 rfl (vf underlying43 rfl type3) ?_
 refine qtD 7 1 3 rfl (vl 1 0 underlying3) ?_
 refine qtD 7 2 7 rfl (vf underlying43 rfl type28) ?_
 refine qtD 7 3 15 rfl (vl 1 1 underlying28) ?_
 refine qoD 7 4 31 rfl ?_
 refine wcl (tSl tInt 3) x0.Values (cl_fn cb102 rfl) (fun W hm => impl_copyInts_c2 W _ x0.Values (hm.rdS0 r7) s_0) (fun z11 => ?_)
 refine WM_form (n := 0) rfl ?_
 rintro A12 c13 rfl m14
 refine qnD (pk [2]) (pk [1, 2]) ?_
 refine qtD 7 5 63 rfl (fun W hm => rv_build (cs := [.int .i64 x0.Id, .slice A12 x0.Values.length c13]) rfl (by kernel_rfl)) ?_
 refine qoD 7 6 127 rfl ?_
 let I2 : It := iOwn (tSl tInt 3) [.slice A12 x0.Values.length c13] x0.Values
 refine sb 0 [.int .i64 x0.Id, .slice A12 x0.Values.length c13] [I2, I1] (pk [1, 0, 2]) type43 ?_
 refine qxD (pk [2]) ?_
 refine QB_done (by kernel_rfl) ?_
 refine QM_then (CM_ret ?_)
 have he16 := (show impl_copyRow_m x0 = x0 from rfl)
 refine QM_r1 rfl (RR_cell (n := 0) rfl rfl underlying43 type43 rfl) (fun W hm => ⟨[.int .i64 x0.Id, .slice A12 x0.Values.length c13], ?_, ?_⟩)
 ·first | rw [he16] | rfl
 ·rw [he16]; exact Mem.join (is := [I2]) (js := []) (fun _ _ hs => tyRow_join (x := x0) hs) (hm.pick [1] (by decide))
theorem impl_copyRow_eq (x0 : DRow) : impl_copyRow_m x0 = x0 := by
 rfl
theorem impl_copyRow_c2 (w : World) (z0 : List Value) (x0 : DRow) (r_0 : tyRow.rd w w.heap.size z0 x0) (s_0 : smRow 68719476736 x0) :
  Calls Tryd.prog 92 #[.agg z0.toArray] w fun e w' => ∃ v : List Value, e = .returned (.agg v.toArray) ∧ Mem w.heap.size w [iOwn tyRow v x0] w' := by
 have h := impl_copyRow_c w z0 x0 r_0 s_0
 rw [impl_copyRow_eq] at h
 exact h

def impl_annotateWith_b1 (x0 : (List DRow)) (x1 : Int) (k9 : Nat) (d10 : (List DAnnotated)) : (List DAnnotated) ⊕ ((List DAnnotated)) :=
 Sum.inr (d10 ++ [(⟨(gt x0 k9), [x1]⟩ : DAnnotated)])
def impl_annotateWith_m (x0 : (List DRow)) (x1 : Int) : (List DAnnotated) :=
 Sum.elim id (fun (s : (List DAnnotated)) => s) (rng (R := (List DAnnotated)) (fun k (s : (List DAnnotated)) => impl_annotateWith_b1 x0 x1 k s) (x0.length - 0) 0 [])
theorem cb78 : Cb Tryd.prog 78 := ⟨f78, _, func78, rfl, by decide⟩
theorem impl_annotateWith_c (w : World) (z0 : Value) (x0 : (List DRow)) (x1 : Int) (r_0 : rdS tyRow w w.heap.size z0 x0) (s_0 : (x0.length ≤ 68719476736 ∧ ∀ y ∈ x0, smRow 68719476736 y)) :
  Calls Tryd.prog 78 #[z0, .int .i64 x1] w fun e w' => ∃ v : Value, e = .returned (v) ∧ Mem w.heap.size w [iOwn (tSl tyAnnotated 72) [v] (impl_annotateWith_m x0 x1)] w' := by
 obtain ⟨m1, A2, c3, rfl, q4, r5⟩ := rdS_op r_0
 have l6 : x0.length ≤ 68719476736 := s_0.1
 refine ce2 (L := [(0, .slice A2 x0.length c3), (1, .int .i64 x1)]) (N := 25) func78 ?_
 refine sr (wa (nt' (sr ?_)))
 refine WM_build0 (E := tyAnnotated) underlying65 type72 (Wd_none rfl) (by decide) (fun p7 => ?_)
 refine wa (nt' (CM_seq (sr (wm ?_))))
 refine wv (vlen underlying75) ?_
 refine wm (nt' (CM_block ?_))
 let F1 := fun k (s : (List DAnnotated)) => impl_annotateWith_b1 x0 x1 k s
 let R2 := rng (R := (List DAnnotated)) F1
 refine CM_loop (σ := Nat × ((List DAnnotated)) × (Option Addr × Nat)) (fun s => [(1, .int .i64 x1), (5, .slice s.2.2.1 s.2.1.length s.2.2.2), (9, .slice A2 x0.length c3), (10, .int .i64 ((x0.length : Nat) : Int)), (11, .int .i64 ((s.1 : Nat) : Int))]) (fun s => [iOwn (tSl tyAnnotated 72) [.slice s.2.2.1 s.2.1.length s.2.2.2] s.2.1]) (fun s => s.1 ≤ x0.length ∧ R2 (x0.length - s.1) s.1 s.2.1 = R2 (x0.length - 0) 0 [] ∧ s.2.1.length ≤ 0 + s.1) (fun s => x0.length - s.1) (0, [], ((some ⟨p7, 0, none⟩), 0)) sl5 (fun W hm => hm) ⟨(by omega), rfl, Nat.le_refl _⟩ ?_
 rintro ⟨k9, d10, ⟨A11, c12⟩⟩ H15
 obtain ⟨hk13, hF14, hi16⟩ : k9 ≤ x0.length ∧ R2 (x0.length - k9) k9 d10 = R2 (x0.length - 0) 0 [] ∧ d10.length ≤ 0 + k9 := H15
 let I5 : It := iOwn (tSl tyAnnotated 72) [.slice A11 d10.length c12] d10
 show CM Tryd.prog 25 _ _ _ _ [(1, .int .i64 x1), (5, .slice A11 d10.length c12), (9, .slice A2 x0.length c3), (10, .int .i64 ((x0.length : Nat) : Int)), (11, .int .i64 ((k9 : Nat) : Int))] [I5]
 refine sr ?_
 refine wv vlss ?_
 refine nt' (CM_seq ?_)
 by_cases hl17 : k9 < x0.length
 ·have g18 := dlT hl17
  refine CM_condT rfl g18 ?_
  refine CM_skip (QM_then (CM_seq (CM_block (sr ?_))))
  obtain ⟨a19, rfl, hb20, he21⟩ := q4 (by omega)
  refine wv (vix 2 k9 underlying75 type43) ?_
  obtain ⟨_, e25, hc22⟩ := he21 k9 _ (gt_some (show k9 < x0.length from by omega))
  obtain ⟨v23, rfl, r24⟩ := tyRow_rd e25
  have l26 : ((gt x0 k9).Values).length ≤ 68719476736 := (s_0.2 _ (gt_mem (show k9 < x0.length from by omega)))
  obtain ⟨m27, A28, c29, rfl, q30, r31⟩ := rdS_op r24
  let K3 : List Value := [.int .i64 ((gt x0 k9).Id), .slice A28 ((gt x0 k9).Values).length c29]
  refine wv (fun W hm => rv_loadN (cs := K3) underlying43 type43 rfl rfl (hm.elCells (show (a19.add (k9 * 2)).block < w.heap.size from by rw [add_block]; exact hb20.1) hc22)) ?_
  refine WM_alloc type43 rfl (Wd_none rfl) (by decide) (fun p32 => ?_)
  refine sb 0 K3 [I5] (fun W hm => hm) type43 ?_
  refine nt' (CM_region (wm ?_))
  refine wv (fun W hm => rv_loadN (cs := K3) underlying43 type43 rfl rfl (hm.boxCells (n := 0) rfl)) ?_
  refine wcs tyRow (gt x0 k9) (cl_fn cb92 rfl) (fun W hm => impl_copyRow_c2 W _ (gt x0 k9) (tyRow_mk (x := (gt x0 k9)) (hm.rdS0 r31)) (s_0.2 _ (gt_mem (show k9 < x0.length from by omega)))) (fun z33 => ?_)
  refine tyRow_sp ?_
  rintro v34 rfl
  refine WM_form (n := 0) rfl ?_
  rintro A35 c36 rfl m37
  refine wm ?_
  refine WM_build (cs := [.int .i64 x1]) underlying28 type3 rfl (by decide) (by decide) rfl (by kernel_rfl) (Wd_none rfl) (by decide) (fun p39 => ?_)
  let K4 : List Value := [.int .i64 ((gt x0 k9).Id), .slice A35 ((gt x0 k9).Values).length c36, .slice (some ⟨p39, 0, none⟩) 1 1]
  refine wv (fun W hm => rv_build (cs := K4) rfl (by kernel_rfl)) ?_
  refine WM_build (cs := K4) underlying65 type72 rfl (by decide) (by decide) rfl (by kernel_rfl) (Wd_none rfl) (by decide) (fun p40 => ?_)
  refine WM_items (fun W hm => Mem.litOwn (E := tInt) (xs := [x1]) rfl (show 1 ≤ maxLen from by decide) (fun _ => (els_cons (E := tInt) (L1 := []) tInt_own els_nil)) (hm.pick [1, 0, 2, 3, 4] (by decide))) ?_
  refine ap1 tyAnnotated 72 (.slice A11 d10.length c12) d10 (⟨(gt x0 k9), [x1]⟩ : DAnnotated) [iOwn (tSl tInt 3) [.slice A35 ((gt x0 k9).Values).length c36] ((gt x0 k9).Values), iOwn (tSl tInt 3) [.slice (some ⟨p39, 0, none⟩) 1 1] [x1]] [iBox p32 43 K3] K4 (pk [1, 4, 2, 0, 3]) (fun _ _ hs => Els.single (tyAnnotated_join (x := (⟨(gt x0 k9), [x1]⟩ : DAnnotated)) hs)) underlying65 type72 (show (d10.length + 1) * 56 ≤ 140737488355328 from by omega) (fun v42 => ?_)
  refine WM_form (n := 0) rfl ?_
  rintro A43 c44 rfl m45
  refine wa (WM_nil (QM_block_normal (QM_then (CM_region ?_))))
  refine wv (vadN k9 1 (by omega)) ?_
  refine wm (WM_nil ?_)
  have hn47 := rng_next (R := (List DAnnotated)) (body := F1) (k := k9) (s := d10) (s' := (d10 ++ [(⟨(gt x0 k9), [x1]⟩ : DAnnotated)])) (show k9 < x0.length from by omega) (rfl) hF14
  exact QM_round (k9 + 1, (d10 ++ [(⟨(gt x0 k9), [x1]⟩ : DAnnotated)]), (A43, c44)) sl5 (pk [0]) ⟨(by omega), hn47, (show (d10 ++ [(⟨(gt x0 k9), [x1]⟩ : DAnnotated)]).length ≤ 0 + (k9 + 1) from by first | omega | (simp only [List.length_append, List.length_cons, List.length_nil] at *; omega))⟩ (rl (by omega))
 ·have g18 := dlF hl17
  refine CM_condF rfl g18 ?_
  refine CM_exit (QM_then_exit (QM_then_exit ?_))
  have hE48 : R2 (x0.length - 0) 0 [] = Sum.inr d10 := rng_end hl17 hF14
  refine QM_block_hit (QM_then (sr (wm (wa (nt' (CM_ret ?_))))))
  have he49 := (show impl_annotateWith_m x0 x1 = d10 from fin_inr hE48 (rfl))
  refine QM_r1 rfl (RR_tmp rfl) (fun W hm => ⟨.slice A11 d10.length c12, ?_, ?_⟩)
  ·first | rw [he49] | rfl
  ·rw [he49]; exact hm

theorem annotateWith_form (x : List DRow) (i : Int) : impl_annotateWith_m x i = x.map fun r => (⟨r, [i]⟩ : DAnnotated) := by
  unfold impl_annotateWith_m
  rw [rng_fold (xs := x) (f := fun d r => d ++ [(⟨r, [i]⟩ : DAnnotated)]) (b := fun k s => impl_annotateWith_b1 x i k s) (fun j s _ => rfl), foldl_map]
  rfl
theorem annotateWith_sm {x : List DRow} (h : x.length ≤ 68719476736 ∧ ∀ y ∈ x, smRow 68719476736 y) (i : Int) : (impl_annotateWith_m x i).length ≤ 68719476736 ∧ ∀ y ∈ impl_annotateWith_m x i, smAnnotated 68719476736 y := by
  rw [annotateWith_form]
  refine ⟨by rw [List.length_map]; exact h.1, fun y hy => ?_⟩
  obtain ⟨r, hr, rfl⟩ := List.mem_map.1 hy
  exact ⟨h.2 r hr, by show ([i] : List Int).length ≤ _; simp⟩
theorem annotateWith_hq {x : List DRow} (h : x.length ≤ 68719476736 ∧ ∀ y ∈ x, smRow 68719476736 y) (i : Int) : ((impl_annotateWith_m x i).map fun (a : DAnnotated) => a.Set.length).sum ≤ 68719476736 := by
  rw [annotateWith_form, List.map_map]
  have e : ∀ l : List DRow, (l.map ((fun (a : DAnnotated) => a.Set.length) ∘ fun r => (⟨r, [i]⟩ : DAnnotated))).sum = l.length := fun l => by
    induction l with
    | nil => rfl
    | cons a l ih => rw [List.map_cons, List.sum_cons, ih, List.length_cons]; show 1 + l.length = _; omega
  rw [e]; exact h.1
def impl_GroupAlone_m (x0 : Int) (x1 : (List DRow)) (x2 : Int) (x3 : Int) : (List DGroup) :=
 (impl_GroupShared_m (impl_annotateWith_m x1 x0) x2 x3)
theorem cb46 : Cb Tryd.prog 46 := ⟨f46, _, func46, rfl, by decide⟩
theorem impl_GroupAlone_c (w : World) (x0 : Int) (z1 : Value) (x1 : (List DRow)) (x2 : Int) (x3 : Int) (r_1 : rdS tyRow w w.heap.size z1 x1) (s_1 : (x1.length ≤ 68719476736 ∧ ∀ y ∈ x1, smRow 68719476736 y)) :
  Calls Tryd.prog 46 #[.int .i64 x0, z1, .int .i64 x2, .int .i64 x3] w fun e w' => ∃ v : Value, e = .returned (v) ∧ Mem w.heap.size w [iOwn (tSl tyGroup 25) [v] (impl_GroupAlone_m x0 x1 x2 x3)] w' := by
 obtain ⟨m1, A2, c3, rfl, q4, r5⟩ := rdS_op r_1
 have l6 : x1.length ≤ 68719476736 := s_1.1
 refine ce4 (L := [(0, .int .i64 x0), (1, .slice A2 x1.length c3), (2, .int .i64 x2), (3, .int .i64 x3)]) (N := 15) func46 ?_
 refine sr (wa (nt' (sr (wm (wm ?_)))))
 refine wcl (tSl tyAnnotated 72) (impl_annotateWith_m x1 x0) (cl_fn cb78 rfl) (fun W hm => impl_annotateWith_c W _ x1 x0 (hm.rdS0 r5) s_1) (fun z7 => ?_)
 have HQ := annotateWith_hq s_1 x0
 refine WM_form (n := 0) rfl ?_
 rintro A8 c9 rfl m10
 refine wm (wm ?_)
 refine wcl (tSl tyGroup 25) (impl_GroupShared_m (impl_annotateWith_m x1 x0) x2 x3) (cl_fn cb42 rfl) (fun W hm => impl_GroupShared_c W _ (impl_annotateWith_m x1 x0) x2 x3 (hm.rdSI (n := 0) rfl) (annotateWith_sm s_1 x0) (HQ)) (fun z12 => ?_)
 refine WM_form (n := 0) rfl ?_
 rintro A13 c14 rfl m15
 refine wa (nt' (CM_ret ?_))
 have he17 := (show impl_GroupAlone_m x0 x1 x2 x3 = (impl_GroupShared_m (impl_annotateWith_m x1 x0) x2 x3) from rfl)
 refine QM_r1 rfl (RR_tmp rfl) (fun W hm => ⟨.slice A13 (impl_GroupShared_m (impl_annotateWith_m x1 x0) x2 x3).length c14, ?_, ?_⟩)
 ·first | rw [he17] | rfl
 ·rw [he17]; exact (hm.pick [0] (by decide))

end Go.Proofs.YtcjelfdpekbbkaaDoor
