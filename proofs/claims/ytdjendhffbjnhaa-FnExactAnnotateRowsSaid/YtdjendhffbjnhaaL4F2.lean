/-
  Contracts of functions, printed by a program of ours.
-/
import Derived.Test.YtdjendhffbjnhaaL4F1
namespace Go.Proofs.Ytdjendhffbjnhaa
open Go.RowKit
set_option maxRecDepth 100000
set_option maxHeartbeats 4000000
open _root_.Go.Proofs.Try
def spec_MatchSet_m (x0 : DIndex) (x1 : DRow) : (List Int) :=
 (spec_ProbeSet_m x0 x1 [0, 1, 2]).1
theorem cb42 : Cb Try.prog 42 := ⟨f42, _, func42, rfl, by decide⟩
theorem spec_MatchSet_c (w : World) (z0 : List Value) (x0 : DIndex) (z1 : List Value) (x1 : DRow) (r_0 : tyIndex.rd w w.heap.size z0 x0) (r_1 : tyRow.rd w w.heap.size z1 x1) (s_0 : smIndex 68719476736 x0) (s_1 : smRow 68719476736 x1) :
  Calls Try.prog 42 #[.agg z0.toArray, .agg z1.toArray] w fun e w' => ∃ v : Value, e = .returned (v) ∧ Mem w.heap.size w [iOwn (tSl tInt 3) [v] (spec_MatchSet_m x0 x1)] w' := by
 obtain ⟨v1, v3, rfl, r2, r4⟩ := tyIndex_rd r_0
 have r9 := r2
 obtain ⟨m5, A6, c7, rfl, q8⟩ := r2
 have r14 := r4
 obtain ⟨m10, A11, c12, rfl, q13⟩ := r4
 obtain ⟨v15, rfl, r16⟩ := tyRow_rd r_1
 have r21 := r16
 obtain ⟨m17, A18, c19, rfl, q20⟩ := r16
 have l22 : x0.Queries.length ≤ 68719476736 := s_0.1.1
 have l23 : x0.Fields.length ≤ 68719476736 := s_0.2.1
 have l24 : x1.Values.length ≤ 68719476736 := s_1
 refine ce2 (L := [(0, .agg #[.slice A6 x0.Queries.length c7, .slice A11 x0.Fields.length c12]), (1, .agg #[.int .i64 x1.Id, .slice A18 x1.Values.length c19])]) (N := 15) func42 ?_
 refine sr ?_
 refine WM_box rfl (Wd_none rfl) (by decide) (fun p25 => ?_)
 refine WM_box rfl (Wd_none rfl) (by decide) (fun p26 => ?_)
 refine wa (nt' (sr ?_))
 refine wv (fun W hm => rv_loadN (cs := [.slice A6 x0.Queries.length c7, .slice A11 x0.Fields.length c12]) underlying27 type27 rfl rfl (hm.boxCells (n := 1) rfl)) ?_
 refine wv (fun W hm => rv_loadN (cs := [.int .i64 x1.Id, .slice A18 x1.Values.length c19]) underlying50 type50 rfl rfl (hm.boxCells (n := 0) rfl)) ?_
 refine WM_build (cs := [.int .i64 0, .int .i64 1, .int .i64 2]) underlying37 type3 rfl (by decide) (by decide) rfl (by kernel_rfl) (Wd_none rfl) (by decide) (fun p27 => ?_)
 refine WM_items (fun W hm => Mem.litOwn (E := tInt) (xs := [0, 1, 2]) rfl (show 3 ≤ maxLen from by decide) (fun _ => (els_cons (E := tInt) (L1 := []) tInt_own (els_cons (E := tInt) (L1 := []) tInt_own (els_cons (E := tInt) (L1 := []) tInt_own els_nil)))) hm) ?_
 refine WM_call (χ := Value) (val := fun x => .tuple #[x, .int .i64 ((spec_ProbeSet_m x0 x1 [0, 1, 2]).2)]) (js := fun x => [iOwn (tSl tInt 3) [x] ((spec_ProbeSet_m x0 x1 [0, 1, 2]).1)]) (cl_fn cb84 rfl) (fun W hm => spec_ProbeSet_c W _ x0 _ x1 _ [0, 1, 2] (tyIndex_mk (x := x0) (hm.rdS0 r9) (hm.rdS0 r14)) (tyRow_mk (x := x1) (hm.rdS0 r21)) (hm.rdSI (n := 0) rfl) s_0 s_1 (show (3 : Nat) ≤ 68719476736 from by decide)) (Wd_none rfl) (by decide) (fun z29 => ?_)
 refine WM_form (n := 0) rfl ?_
 rintro A30 c31 rfl m32
 refine wm ?_
 refine wv (fun W hm => rv_extract rfl rfl) ?_
 refine wv (fun W hm => rv_extract rfl rfl) ?_
 refine wa (wa (nt' (sr (wm (wa (nt' (CM_ret ?_)))))))
 refine QM_r1 rfl (RR_tmp rfl) (fun W hm => ⟨.slice A30 ((spec_ProbeSet_m x0 x1 [0, 1, 2]).1).length c31, ?_, ?_⟩)
 ·first | rw [(show spec_MatchSet_m x0 x1 = (spec_ProbeSet_m x0 x1 [0, 1, 2]).1 from by unfold spec_MatchSet_m; exact rfl)] | rfl
 ·rw [(show spec_MatchSet_m x0 x1 = (spec_ProbeSet_m x0 x1 [0, 1, 2]).1 from by unfold spec_MatchSet_m; exact rfl)]; exact (hm.pick [0] (by decide))

def spec_l3Copy_m (x0 : DRow) : DRow :=
 x0
theorem cb43 : Cb Try.prog 43 := ⟨f43, _, func43, rfl, by decide⟩
theorem spec_l3Copy_c (w : World) (z0 : List Value) (x0 : DRow) (r_0 : tyRow.rd w w.heap.size z0 x0) (s_0 : smRow 68719476736 x0) :
  Calls Try.prog 43 #[.agg z0.toArray] w fun e w' => ∃ v : List Value, e = .returned (.agg v.toArray) ∧ Mem w.heap.size w [iOwn tyRow v (spec_l3Copy_m x0)] w' := by
 obtain ⟨v1, rfl, r2⟩ := tyRow_rd r_0
 have r7 := r2
 obtain ⟨m3, A4, c5, rfl, q6⟩ := r2
 have l8 : x0.Values.length ≤ 68719476736 := s_0
 refine ce1 (L := [(0, .agg #[.int .i64 x0.Id, .slice A4 x0.Values.length c5])]) (N := 10) func43 ?_
 refine sr ?_
 refine WM_box rfl (Wd_none rfl) (by decide) (fun p9 => ?_)
 refine WM_alloc type50 rfl (Wd_none rfl) (by decide) (fun p10 => ?_)
 refine nt' (CM_seq ?_)
 let I1 : It := iBox p9 50 [.int .i64 x0.Id, .slice A4 x0.Values.length c5]
 refine rb 8 (s := [I1]) (pk [1]) ?_
 refine qt 8 0 1 rfl (vf underlying50 rfl type3) ?_
 refine qt 8 1 3 rfl (vl 0 0 underlying3) ?_
 refine qt 8 3 11 rfl (vf underlying50 rfl type37) ?_
 refine qt 8 4 27 rfl (vl 0 1 underlying37) ?_
 refine qo 8 2 31 rfl ?_
 refine WM_build0 (E := tInt) underlying37 type3 (Wd_none rfl) (by decide) (fun p11 => ?_)
 refine qn (pk [2]) ?_
 refine qo 8 5 63 rfl ?_
 refine apR tInt tInt 3 (.slice (some ⟨p11, 0, none⟩) 0 0) [] x0.Values [iBox p10 50 [.int .i64 0, .slice none 0 0], I1] (fun W hm => hm) (fun W hm => src_flat flat_int (hm.rdS0 r7)) underlying37 type3 (show (0 + x0.Values.length) * 8 ≤ 140737488355328 from by omega) (fun v13 => ?_)
 refine WM_form (n := 0) rfl ?_
 rintro A14 c15 rfl m16
 refine qn (pk [2]) ?_
 refine qt 8 6 127 rfl (fun W hm => rv_build (cs := [.int .i64 x0.Id, .slice A14 x0.Values.length c15]) rfl (by kernel_rfl)) ?_
 refine qo 8 7 255 rfl ?_
 let I2 : It := iOwn (tSl tInt 3) [.slice A14 x0.Values.length c15] x0.Values
 refine sb 0 [.int .i64 x0.Id, .slice A14 x0.Values.length c15] [I2, I1] (pk [1, 0, 2]) type50 ?_
 refine qn (pk [2]) ?_
 refine QB_done (by kernel_rfl) ?_
 refine QM_then (CM_ret ?_)
 refine QM_r1 rfl (RR_cell (n := 0) rfl rfl underlying50 type50 rfl) (fun W hm => ⟨[.int .i64 x0.Id, .slice A14 x0.Values.length c15], ?_, ?_⟩)
 ·first | rw [(show spec_l3Copy_m x0 = x0 from by unfold spec_l3Copy_m; exact rfl)] | rfl
 ·rw [(show spec_l3Copy_m x0 = x0 from by unfold spec_l3Copy_m; exact rfl)]; exact Mem.join (is := [I2]) (js := []) (fun _ _ hs => tyRow_join (x := x0) hs) (hm.pick [1] (by decide))
theorem spec_l3Copy_eq (x0 : DRow) : spec_l3Copy_m x0 = x0 := by
 rfl
theorem spec_l3Copy_c2 (w : World) (z0 : List Value) (x0 : DRow) (r_0 : tyRow.rd w w.heap.size z0 x0) (s_0 : smRow 68719476736 x0) :
  Calls Try.prog 43 #[.agg z0.toArray] w fun e w' => ∃ v : List Value, e = .returned (.agg v.toArray) ∧ Mem w.heap.size w [iOwn tyRow v x0] w' := by
 have h := spec_l3Copy_c w z0 x0 r_0 s_0
 rw [spec_l3Copy_eq] at h
 exact h

def spec_AnnotateRows_b1 (x0 : DIndex) (x1 : (List DRow)) (k26 : Nat) (d27 : (List DAnnotated)) : (List DAnnotated) ⊕ (((List DAnnotated)) ⊕ ((List DAnnotated))) :=
 cond (spec_IsIndex_m x0) (cond (decide (0 < (((spec_MatchSet_m x0 (gt x1 k26)).length : Nat) : Int))) (Sum.inr (Sum.inr (d27 ++ [(⟨(gt x1 k26), (spec_MatchSet_m x0 (gt x1 k26))⟩ : DAnnotated)]))) (Sum.inr (Sum.inr d27))) (Sum.inr (Sum.inl d27))
def spec_AnnotateRows_m (x0 : DIndex) (x1 : (List DRow)) : (List DAnnotated) :=
 Sum.elim id (fun (s : (List DAnnotated)) => s) (rngb (R := (List DAnnotated)) (fun k (s : (List DAnnotated)) => spec_AnnotateRows_b1 x0 x1 k s) (x1.length - 0) 0 [])
theorem cb9 : Cb Try.prog 9 := ⟨f9, _, func9, rfl, by decide⟩
theorem spec_AnnotateRows_c (w : World) (z0 : List Value) (x0 : DIndex) (z1 : Value) (x1 : (List DRow)) (r_0 : tyIndex.rd w w.heap.size z0 x0) (r_1 : rdS tyRow w w.heap.size z1 x1) (s_0 : smIndex 68719476736 x0) (s_1 : (x1.length ≤ 68719476736 ∧ ∀ y ∈ x1, smRow 68719476736 y)) :
  Calls Try.prog 9 #[.agg z0.toArray, z1] w fun e w' => ∃ v : Value, e = .returned (v) ∧ Mem w.heap.size w [iOwn (tSl tyAnnotated 52) [v] (spec_AnnotateRows_m x0 x1)] w' := by
 obtain ⟨v1, v3, rfl, r2, r4⟩ := tyIndex_rd r_0
 have r9 := r2
 obtain ⟨m5, A6, c7, rfl, q8⟩ := r2
 have r14 := r4
 obtain ⟨m10, A11, c12, rfl, q13⟩ := r4
 have r19 := r_1
 obtain ⟨m15, A16, c17, rfl, q18⟩ := r_1
 have l20 : x0.Queries.length ≤ 68719476736 := s_0.1.1
 have l21 : x0.Fields.length ≤ 68719476736 := s_0.2.1
 have l22 : x1.length ≤ 68719476736 := s_1.1
 refine ce2 (L := [(0, .agg #[.slice A6 x0.Queries.length c7, .slice A11 x0.Fields.length c12]), (1, .slice A16 x1.length c17)]) (N := 39) func9 ?_
 refine sr ?_
 refine WM_box rfl (Wd_none rfl) (by decide) (fun p23 => ?_)
 refine wa (nt' (sr ?_))
 refine WM_build0 (E := tyAnnotated) underlying31 type52 (Wd_none rfl) (by decide) (fun p24 => ?_)
 refine wa (nt' (CM_seq (sr (wa (nt' ?_)))))
 let F1 := fun k (s : (List DAnnotated)) => spec_AnnotateRows_b1 x0 x1 k s
 let R2 := rngb (R := (List DAnnotated)) F1
 let K3 : List Value := [.slice A6 x0.Queries.length c7, .slice A11 x0.Fields.length c12]
 refine CM_cut (σ := ((List DAnnotated)) × (Option Addr × Nat)) (fun s => [(5, .slice s.2.1 s.1.length s.2.2)]) (fun s => [iOwn (tSl tyAnnotated 52) [.slice s.2.1 s.1.length s.2.2] s.1, iBox p23 27 K3]) (fun s => R2 (x1.length - 0) 0 [] = Sum.inr s.1) ?_ ?_
 ·
  refine CM_block ?_
  refine CM_loop (σ := Nat × ((List DAnnotated)) × (Option Addr × Nat)) (fun s => [(1, .slice A16 x1.length c17), (2, .pointer (some (⟨p23, 0, none⟩ : Addr))), (5, .slice s.2.2.1 s.2.1.length s.2.2.2), (6, .int .i64 ((s.1 : Nat) : Int))]) (fun s => [iOwn (tSl tyAnnotated 52) [.slice s.2.2.1 s.2.1.length s.2.2.2] s.2.1, iBox p23 27 K3]) (fun s => s.1 ≤ x1.length ∧ R2 (x1.length - s.1) s.1 s.2.1 = R2 (x1.length - 0) 0 [] ∧ s.2.1.length ≤ 0 + s.1) (fun s => x1.length - s.1) (0, [], ((some ⟨p24, 0, none⟩), 0)) sl4 (fun W hm => hm) ⟨(by omega), rfl, Nat.le_refl _⟩ ?_
  rintro ⟨k26, d27, ⟨A28, c29⟩⟩ H32
  obtain ⟨hk30, hF31, hi33⟩ : k26 ≤ x1.length ∧ R2 (x1.length - k26) k26 d27 = R2 (x1.length - 0) 0 [] ∧ d27.length ≤ 0 + k26 := H32
  let I6 : It := iOwn (tSl tyAnnotated 52) [.slice A28 d27.length c29] d27
  show CM Try.prog 39 _ _ _ _ [(1, .slice A16 x1.length c17), (2, .pointer (some (⟨p23, 0, none⟩ : Addr))), (5, .slice A28 d27.length c29), (6, .int .i64 ((k26 : Nat) : Int))] [I6, iBox p23 27 K3]
  refine CM_seq (sr (wm (wm ?_)))
  refine wv (vlen underlying28) ?_
  refine wv vlss ?_
  refine wm ?_
  by_cases hl34 : k26 < x1.length
  ·have g35 : (decide (((k26 : Nat) : Int) < ((x1.length : Nat) : Int))) = true := decide_eq_true (by omega)
   refine wg (fun W hm => rv_loadN (cs := K3) underlying27 type27 rfl rfl (hm.boxCells (n := 1) rfl)) g35 ?_
   refine WM_callV (cl_fn cb10 rfl) (fun W hm => spec_IsIndex_c W _ x0 (tyIndex_mk (x := x0) (hm.rdS0 r9) (hm.rdS0 r14)) s_0) (Wd_some rfl rfl rfl (bw g35 rfl)) (by decide) ?_
   refine wv (vpT g35) ?_
   refine nt' ?_
   rcases Bool.eq_false_or_eq_true (spec_IsIndex_m x0) with g37 | g37
   ·
    refine CM_condT rfl g37 ?_
    refine CM_skip (QM_then (CM_seq (CM_block (CM_seq ?_))))
    refine rb 7 (s := [I6, iBox p23 27 K3]) (fun W hm => hm) ?_
    refine qt 7 0 1 rfl (fun W hm => rv_loadN (cs := K3) underlying27 type27 rfl rfl (hm.boxCells (n := 1) rfl)) ?_
    refine qt 7 1 3 rfl vmv ?_
    refine qt 7 2 7 rfl vmv ?_
    obtain ⟨a38, rfl, hb39, he40⟩ := q18 (by omega)
    refine qt 7 3 15 rfl (vix 2 k26 underlying28 type50) ?_
    obtain ⟨_, e44, hc41⟩ := he40 k26 _ (gt_some (show k26 < x1.length from by omega))
    obtain ⟨v42, rfl, r43⟩ := tyRow_rd e44
    have l45 : ((gt x1 k26).Values).length ≤ 68719476736 := (s_1.2 _ (gt_mem (show k26 < x1.length from by omega)))
    have r50 := r43
    obtain ⟨m46, A47, c48, rfl, q49⟩ := r43
    let K4 : List Value := [.int .i64 ((gt x1 k26).Id), .slice A47 ((gt x1 k26).Values).length c48]
    refine qt 7 4 31 rfl (fun W hm => rv_loadN (cs := K4) underlying50 type50 rfl rfl (hm.elCells (show (a38.add (k26 * 2)).block < w.heap.size from by rw [add_block]; exact hb39.1) hc41)) ?_
    refine qo 7 5 63 rfl ?_
    refine wcl (tSl tInt 3) (spec_MatchSet_m x0 (gt x1 k26)) (cl_fn cb42 rfl) (fun W hm => spec_MatchSet_c W _ x0 _ (gt x1 k26) (tyIndex_mk (x := x0) (hm.rdS0 r9) (hm.rdS0 r14)) (tyRow_mk (x := (gt x1 k26)) (hm.rdS0 r50)) s_0 (s_1.2 _ (gt_mem (show k26 < x1.length from by omega)))) (fun z51 => ?_)
    refine WM_form (n := 0) rfl ?_
    rintro A52 c53 rfl m54
    refine qn (pk [1, 2]) ?_
    refine qt 7 6 127 rfl (fun W hm => rv_assign rfl) ?_
    refine QB_done (by kernel_rfl) ?_
    refine QM_then (sr (wm ?_))
    refine wv (vlen underlying37) ?_
    refine wv (fun W hm => rv_gtr rfl rfl) ?_
    refine nt' ?_
    by_cases h56 : 0 < (((spec_MatchSet_m x0 (gt x1 k26)).length : Nat) : Int)
    ·have g57 : (decide (0 < (((spec_MatchSet_m x0 (gt x1 k26)).length : Nat) : Int))) = true := decide_eq_true h56
     refine CM_condT rfl g57 ?_
     refine CM_region (wm (wm (wm ?_)))
     refine wv (vix 2 k26 underlying28 type50) ?_
     refine wv (fun W hm => rv_loadN (cs := K4) underlying50 type50 rfl rfl (hm.elCells (show (a38.add (k26 * 2)).block < w.heap.size from by rw [add_block]; exact hb39.1) hc41)) ?_
     refine wcs tyRow (gt x1 k26) (cl_fn cb43 rfl) (fun W hm => spec_l3Copy_c2 W _ (gt x1 k26) (tyRow_mk (x := (gt x1 k26)) (hm.rdS0 r50)) (s_1.2 _ (gt_mem (show k26 < x1.length from by omega)))) (fun z58 => ?_)
     refine tyRow_sp ?_
     rintro v59 rfl
     refine WM_form (n := 0) rfl ?_
     rintro A60 c61 rfl m62
     refine wm ?_
     let K5 : List Value := [.int .i64 ((gt x1 k26).Id), .slice A60 ((gt x1 k26).Values).length c61, .slice A52 (spec_MatchSet_m x0 (gt x1 k26)).length c53]
     refine wv (fun W hm => rv_build (cs := K5) rfl (by kernel_rfl)) ?_
     refine WM_build (cs := K5) underlying31 type52 rfl (by decide) (by decide) rfl (by kernel_rfl) (Wd_none rfl) (by decide) (fun p64 => ?_)
     refine ap1 tyAnnotated 52 (.slice A28 d27.length c29) d27 (⟨(gt x1 k26), (spec_MatchSet_m x0 (gt x1 k26))⟩ : DAnnotated) [iOwn (tSl tInt 3) [.slice A60 ((gt x1 k26).Values).length c61] ((gt x1 k26).Values), iOwn (tSl tInt 3) [.slice A52 (spec_MatchSet_m x0 (gt x1 k26)).length c53] (spec_MatchSet_m x0 (gt x1 k26))] [iBox p23 27 K3] K5 (pk [0, 3, 1, 2, 4]) (fun _ _ hs => Els.single (tyAnnotated_join (x := (⟨(gt x1 k26), (spec_MatchSet_m x0 (gt x1 k26))⟩ : DAnnotated)) hs)) underlying31 type52 (show (d27.length + 1) * 56 ≤ 140737488355328 from by omega) (fun v65 => ?_)
     refine WM_form (n := 0) rfl ?_
     rintro A66 c67 rfl m68
     refine wa (WM_nil (QM_block_normal (QM_then (CM_region (wm ?_)))))
     refine wv (vadN k26 1 (by omega)) ?_
     refine wa (WM_nil ?_)
     have hn70 := rngb_next (R := (List DAnnotated)) (body := F1) (k := k26) (s := d27) (s' := (d27 ++ [(⟨(gt x1 k26), (spec_MatchSet_m x0 (gt x1 k26))⟩ : DAnnotated)])) (show k26 < x1.length from by omega) (show spec_AnnotateRows_b1 x0 x1 k26 d27 = Sum.inr (Sum.inr (d27 ++ [(⟨(gt x1 k26), (spec_MatchSet_m x0 (gt x1 k26))⟩ : DAnnotated)])) from by unfold spec_AnnotateRows_b1; exact cond_t g37 (cond_t g57 (rfl))) hF31
     exact QM_round (k26 + 1, (d27 ++ [(⟨(gt x1 k26), (spec_MatchSet_m x0 (gt x1 k26))⟩ : DAnnotated)]), (A66, c67)) sl4 (fun W hm => hm) ⟨(by omega), hn70, (show (d27 ++ [(⟨(gt x1 k26), (spec_MatchSet_m x0 (gt x1 k26))⟩ : DAnnotated)]).length ≤ 0 + (k26 + 1) from by first | omega | (simp only [List.length_append, List.length_cons, List.length_nil] at *; omega))⟩ (rl (by omega))
    ·have g57 : (decide (0 < (((spec_MatchSet_m x0 (gt x1 k26)).length : Nat) : Int))) = false := decide_eq_false h56
     refine CM_condF rfl g57 ?_
     refine CM_skip (QM_block_normal (QM_then (CM_region (wm ?_))))
     refine wv (vadN k26 1 (by omega)) ?_
     refine wa (WM_nil ?_)
     have hn71 := rngb_next (R := (List DAnnotated)) (body := F1) (k := k26) (s := d27) (s' := d27) (show k26 < x1.length from by omega) (show spec_AnnotateRows_b1 x0 x1 k26 d27 = Sum.inr (Sum.inr d27) from by unfold spec_AnnotateRows_b1; exact cond_t g37 (cond_f g57 (rfl))) hF31
     exact QM_round (k26 + 1, d27, (A28, c29)) sl4 (pk [1, 2]) ⟨(by omega), hn71, (show d27.length ≤ 0 + (k26 + 1) from by first | omega | (simp only [List.length_append, List.length_cons, List.length_nil] at *; omega))⟩ (rl (by omega))
   ·
    refine CM_condF rfl g37 ?_
    refine CM_exit (QM_then_exit (QM_then_exit (QM_block_hit ?_)))
    have hE72 := rngb_brk (R := (List DAnnotated)) (body := F1) (k := k26) (s := d27) (s' := d27) (show k26 < x1.length from by omega) (show spec_AnnotateRows_b1 x0 x1 k26 d27 = Sum.inr (Sum.inl d27) from by unfold spec_AnnotateRows_b1; exact cond_f g37 (rfl)) hF31
    exact QM_cut_normal (d27, (A28, c29)) (subL_cons rfl subL_nil) (fun W hm => hm) hE72
  ·have g35 : (decide (((k26 : Nat) : Int) < ((x1.length : Nat) : Int))) = false := decide_eq_false (by omega)
   refine ws g35 ?_
   refine ws g35 ?_
   refine wv (vpF g35) ?_
   refine nt' ?_
   refine CM_condF rfl rfl ?_
   refine CM_exit (QM_then_exit (QM_then_exit (QM_block_hit ?_)))
   have hE73 : R2 (x1.length - 0) 0 [] = Sum.inr d27 := rngb_end hl34 hF31
   exact QM_cut_normal (d27, (A28, c29)) (subL_cons rfl subL_nil) (fun W hm => hm) hE73
 ·
  rintro ⟨d27, ⟨A28, c29⟩⟩ H75
  have hE74 : R2 (x1.length - 0) 0 [] = Sum.inr d27 := H75
  show QM 39 _ _ _ .normal [(5, .slice A28 d27.length c29)] [iOwn (tSl tyAnnotated 52) [.slice A28 d27.length c29] d27, iBox p23 27 K3]
  refine QM_then (sr (wm (wa (nt' (CM_ret ?_)))))
  refine QM_r1 rfl (RR_tmp rfl) (fun W hm => ⟨.slice A28 d27.length c29, ?_, ?_⟩)
  ·first | rw [(show spec_AnnotateRows_m x0 x1 = d27 from by unfold spec_AnnotateRows_m; exact fin_inr hE74 (rfl))] | rfl
  ·rw [(show spec_AnnotateRows_m x0 x1 = d27 from by unfold spec_AnnotateRows_m; exact fin_inr hE74 (rfl))]; exact (hm.pick [0] (by decide))

def impl_within_m (x0 : Int) (x1 : Int) (x2 : Int) : Bool :=
 cond (decide (x1 ≤ x0)) (decide (x0 ≤ x2)) false
theorem cb129 : Cb Try.prog 129 := ⟨f129, _, func129, rfl, by decide⟩
theorem impl_within_c (w : World) (x0 : Int) (x1 : Int) (x2 : Int) :
  Calls Try.prog 129 #[.int .i64 x0, .int .i64 x1, .int .i64 x2] w fun e w' => e = .returned (.bool (impl_within_m x0 x1 x2)) ∧ Below w.heap.size w w' := by
 refine ce3 (L := [(0, .int .i64 x0), (1, .int .i64 x1), (2, .int .i64 x2)]) (N := 15) func129 ?_
 refine sr (wa (nt' (sr (wm (wm ?_)))))
 refine wv (fun W hm => rv_geq rfl rfl) ?_
 refine wm ?_
 by_cases h1 : x1 ≤ x0
 ·have g2 : (decide (x1 ≤ x0)) = true := decide_eq_true h1
  refine wg vmv g2 ?_
  refine wg vmv g2 ?_
  refine wg (fun W hm => rv_leq rfl rfl) g2 ?_
  refine wv (vpT g2) ?_
  refine wa (nt' (CM_ret ?_))
  exact rtb (h := by unfold impl_within_m; exact cond_t g2 (rfl))
 ·have g2 : (decide (x1 ≤ x0)) = false := decide_eq_false h1
  refine ws g2 ?_
  refine ws g2 ?_
  refine ws g2 ?_
  refine wv (vpF g2) ?_
  refine wa (nt' (CM_ret ?_))
  exact rtb (h := by unfold impl_within_m; exact cond_f g2 (rfl))

theorem impl_within_fact {x a b : Int} (h : impl_within_m x a b = true) : a ≤ x ∧ x ≤ b := by
  unfold impl_within_m at h
  by_cases h1 : a ≤ x
  · rw [decide_eq_true h1] at h
    exact ⟨h1, of_decide_eq_true h⟩
  · rw [decide_eq_false h1] at h
    cases h
theorem impl_within_iff (x a b : Int) : impl_within_m x a b = decide (a ≤ x ∧ x ≤ b) := by
  unfold impl_within_m
  by_cases h1 : a ≤ x
  · by_cases h2 : x ≤ b
    · simp [h1, h2]
    · simp [h1, h2]
  · simp [h1]

def impl_isField_m (x0 : Int) : Bool :=
 (impl_within_m x0 0 2)
theorem cb112 : Cb Try.prog 112 := ⟨f112, _, func112, rfl, by decide⟩
theorem impl_isField_c (w : World) (x0 : Int) :
  Calls Try.prog 112 #[.int .i64 x0] w fun e w' => e = .returned (.bool (impl_isField_m x0)) ∧ Below w.heap.size w w' := by
 refine ce1 (L := [(0, .int .i64 x0)]) (N := 5) func112 ?_
 refine sr (wa (nt' (sr (wm ?_))))
 refine wcv (cl_fn cb129 rfl) (fun W hm => impl_within_c W x0 0 2) ?_
 refine wa (nt' (CM_ret ?_))
 exact rtb (h := by unfold impl_isField_m; exact rfl)

def impl_IsCond_m (x0 : DCond) : Bool :=
 cond (impl_isField_m x0.Field) (cond (decide (0 ≤ x0.Low)) (cond (decide (x0.Low ≤ x0.High)) (decide (x0.High ≤ 99)) false) false) false
theorem cb130 : Cb Try.prog 130 := ⟨f130, _, func130, rfl, by decide⟩
theorem impl_IsCond_c (w : World) (z0 : List Value) (x0 : DCond) (r_0 : tyCond.rd w w.heap.size z0 x0) :
  Calls Try.prog 130 #[.agg z0.toArray] w fun e w' => e = .returned (.bool (impl_IsCond_m x0)) ∧ Below w.heap.size w w' := by
 obtain rfl := tyCond_rd r_0
 refine ce1 (L := [(0, .agg #[.int .i64 x0.Field, .int .i64 x0.Low, .int .i64 x0.High])]) (N := 23) func130 ?_
 refine sr ?_
 refine WM_box rfl (Wd_none rfl) (by decide) (fun p1 => ?_)
 refine wa (nt' (sr ?_))
 refine wv (vf underlying117 rfl type3) ?_
 refine wv (vl 0 0 underlying3) ?_
 refine wcv (cl_fn cb112 rfl) (fun W hm => impl_isField_c W x0.Field) ?_
 refine wm ?_
 rcases Bool.eq_false_or_eq_true (impl_isField_m x0.Field) with g3 | g3
 ·
  refine wg (vf underlying117 rfl type3) g3 ?_
  refine wg (vl 0 1 underlying3) g3 ?_
  refine wg (fun W hm => rv_geq rfl rfl) g3 ?_
  refine wv (vpT g3) ?_
  refine wm ?_
  by_cases h4 : 0 ≤ x0.Low
  ·have g5 : (decide (0 ≤ x0.Low)) = true := decide_eq_true h4
   refine wg (vf underlying117 rfl type3) g5 ?_
   refine wg (vl 0 1 underlying3) g5 ?_
   refine wg (vf underlying117 rfl type3) g5 ?_
   refine wg (vl 0 2 underlying3) g5 ?_
   refine wg (fun W hm => rv_leq rfl rfl) g5 ?_
   refine wv (vpT g5) ?_
   refine wm ?_
   by_cases h6 : x0.Low ≤ x0.High
   ·have g7 : (decide (x0.Low ≤ x0.High)) = true := decide_eq_true h6
    refine wg (vf underlying117 rfl type3) g7 ?_
    refine wg (vl 0 2 underlying3) g7 ?_
    refine wg (fun W hm => rv_leq rfl rfl) g7 ?_
    refine wv (vpT g7) ?_
    refine wa (nt' (CM_ret ?_))
    exact rtb (h := by unfold impl_IsCond_m; exact cond_t g3 (cond_t g5 (cond_t g7 (rfl))))
   ·have g7 : (decide (x0.Low ≤ x0.High)) = false := decide_eq_false h6
    refine ws g7 ?_
    refine ws g7 ?_
    refine ws g7 ?_
    refine wv (vpF g7) ?_
    refine wa (nt' (CM_ret ?_))
    exact rtb (h := by unfold impl_IsCond_m; exact cond_t g3 (cond_t g5 (cond_f g7 (rfl))))
  ·have g5 : (decide (0 ≤ x0.Low)) = false := decide_eq_false h4
   refine ws g5 ?_
   refine ws g5 ?_
   refine ws g5 ?_
   refine ws g5 ?_
   refine ws g5 ?_
   refine wv (vpF g5) ?_
   refine wm ?_
   refine wk ?_
   refine wk ?_
   refine wk ?_
   refine wv (vpF rfl) ?_
   refine wa (nt' (CM_ret ?_))
   exact rtb (h := by unfold impl_IsCond_m; exact cond_t g3 (cond_f g5 (rfl)))
 ·
  refine ws g3 ?_
  refine ws g3 ?_
  refine ws g3 ?_
  refine wv (vpF g3) ?_
  refine wm ?_
  refine wk ?_
  refine wk ?_
  refine wk ?_
  refine wk ?_
  refine wk ?_
  refine wv (vpF rfl) ?_
  refine wm ?_
  refine wk ?_
  refine wk ?_
  refine wk ?_
  refine wv (vpF rfl) ?_
  refine wa (nt' (CM_ret ?_))
  exact rtb (h := by unfold impl_IsCond_m; exact cond_f g3 (rfl))

def impl_IsQuery_b2 (x0 : DQuery) (k45 : Nat) : Bool ⊕ (Unit) :=
 cond (impl_isField_m (gt x0.Out k45)) (Sum.inr ()) (Sum.inl false)
def impl_IsQuery_b1 (x0 : DQuery) (k22 : Nat) : Bool ⊕ (Unit) :=
 cond (impl_IsCond_m (gt x0.Conds k22)) (cond (decide (0 < ((k22 : Nat) : Int))) (cond (decide (((gt x0.Conds k22).Field) ≤ ((gt x0.Conds (k22 - 1)).Field))) (Sum.inl false) (Sum.inr ())) (Sum.inr ())) (Sum.inl false)
def impl_IsQuery_m (x0 : DQuery) : Bool :=
 cond (impl_within_m x0.Id 0 23) (cond (impl_within_m x0.Tenant 0 3) (cond (decide (3 < ((x0.Conds.length : Nat) : Int))) false (Sum.elim id (fun (s1_ : Unit) => Sum.elim id (fun (s : Unit) => (impl_within_m ((x0.Out.length : Nat) : Int) 1 3)) (rng (R := Bool) (fun k (_ : Unit) => impl_IsQuery_b2 x0 k) (x0.Out.length - 0) 0 ())) (rng (R := Bool) (fun k (_ : Unit) => impl_IsQuery_b1 x0 k) (x0.Conds.length - 0) 0 ()))) false) false
theorem cb111 : Cb Try.prog 111 := ⟨f111, _, func111, rfl, by decide⟩
theorem impl_IsQuery_c (w : World) (z0 : List Value) (x0 : DQuery) (r_0 : tyQuery.rd w w.heap.size z0 x0) :
  Calls Try.prog 111 #[.agg z0.toArray] w fun e w' => e = .returned (.bool (impl_IsQuery_m x0)) ∧ Below w.heap.size w w' := by
 obtain ⟨v1, v3, rfl, r2, r4⟩ := tyQuery_rd r_0
 have r9 := r2
 obtain ⟨m5, A6, c7, rfl, q8⟩ := r2
 have r14 := r4
 obtain ⟨m10, A11, c12, rfl, q13⟩ := r4
 refine ce1 (L := [(0, .agg #[.int .i64 x0.Id, .int .i64 x0.Tenant, .slice A6 x0.Conds.length c7, .slice A11 x0.Out.length c12])]) (N := 66) func111 ?_
 refine sr ?_
 refine WM_box rfl (Wd_none rfl) (by decide) (fun p15 => ?_)
 refine wa (nt' (CM_seq (sr ?_)))
 refine wv (vf underlying39 rfl type3) ?_
 refine wv (vl 0 0 underlying3) ?_
 refine wcv (cl_fn cb129 rfl) (fun W hm => impl_within_c W x0.Id 0 23) ?_
 refine wv vnot ?_
 refine wm ?_
 rcases Bool.eq_false_or_eq_true (impl_within_m x0.Id 0 23) with g17 | g17
 ·
  have hw := impl_within_fact g17
  refine wg (vf underlying39 rfl type3) (nt g17) ?_
  refine wg (vl 0 1 underlying3) (nt g17) ?_
  refine WM_callV (cl_fn cb129 rfl) (fun W hm => impl_within_c W x0.Tenant 0 3) (Wd_some rfl rfl rfl (bw (nt g17) rfl)) (by decide) ?_
  refine wg vnot (nt g17) ?_
  refine wv (vpF (nt g17)) ?_
  refine wm ?_
  rcases Bool.eq_false_or_eq_true (impl_within_m x0.Tenant 0 3) with g19 | g19
  ·
   have hw := impl_within_fact g19
   refine wg (vf underlying39 rfl type36) (nt g19) ?_
   refine wg (vl 0 2 underlying36) (nt g19) ?_
   refine wg (vlen underlying36) (nt g19) ?_
   refine wg (fun W hm => rv_gtr rfl rfl) (nt g19) ?_
   refine wv (vpF (nt g19)) ?_
   refine nt' ?_
   by_cases h20 : 3 < ((x0.Conds.length : Nat) : Int)
   ·have g21 : (decide (3 < ((x0.Conds.length : Nat) : Int))) = true := decide_eq_true h20
    refine CM_condT rfl g21 ?_
    refine sr (wa (nt' (CM_ret (QM_then_ret ?_))))
    exact rtb (h := by unfold impl_IsQuery_m; exact cond_t g17 (cond_t g19 (cond_t g21 (rfl))))
   ·have g21 : (decide (3 < ((x0.Conds.length : Nat) : Int))) = false := decide_eq_false h20
    refine CM_condF rfl g21 ?_
    refine CM_skip (QM_then (CM_seq (sr ?_)))
    refine wv (vf underlying39 rfl type36) ?_
    refine wv (vl 0 2 underlying36) ?_
    refine wv (vlen underlying36) ?_
    refine wm (nt' (CM_block ?_))
    let F1 := fun k (_ : Unit) => impl_IsQuery_b1 x0 k
    let R3 := rng (R := Bool) F1
    let K5 : List Value := [.int .i64 x0.Id, .int .i64 x0.Tenant, .slice A6 x0.Conds.length c7, .slice A11 x0.Out.length c12]
    refine CM_loop (σ := Nat × (Unit) × (Unit)) (fun s => [(1, .pointer (some (⟨p15, 0, none⟩ : Addr))), (24, .slice A6 x0.Conds.length c7), (25, .int .i64 ((x0.Conds.length : Nat) : Int)), (26, .int .i64 ((s.1 : Nat) : Int))]) (fun s => [iBox p15 39 K5]) (fun s => s.1 ≤ x0.Conds.length ∧ R3 (x0.Conds.length - s.1) s.1 s.2.1 = R3 (x0.Conds.length - 0) 0 ()) (fun s => x0.Conds.length - s.1) (0, (), ()) sl4 (fun W hm => hm) ⟨(by omega), rfl⟩ ?_
    rintro ⟨k22, ⟨⟩, ⟨⟩⟩ H25
    obtain ⟨hk23, hF24⟩ : k22 ≤ x0.Conds.length ∧ R3 (x0.Conds.length - k22) k22 () = R3 (x0.Conds.length - 0) 0 () := H25
    show CM Try.prog 66 _ _ _ _ [(1, .pointer (some (⟨p15, 0, none⟩ : Addr))), (24, .slice A6 x0.Conds.length c7), (25, .int .i64 ((x0.Conds.length : Nat) : Int)), (26, .int .i64 ((k22 : Nat) : Int))] [iBox p15 39 K5]
    refine sr ?_
    refine wv vlss ?_
    refine nt' (CM_seq ?_)
    by_cases hl26 : k22 < x0.Conds.length
    ·have g27 : (decide (((k22 : Nat) : Int) < ((x0.Conds.length : Nat) : Int))) = true := decide_eq_true (by omega)
     refine CM_condT rfl g27 ?_
     refine CM_skip (QM_then (CM_seq (CM_block (sr (wm ?_)))))
     obtain ⟨a28, rfl, hb29, he30⟩ := q8 (by omega)
     refine wv (vix 3 k22 underlying36 type117) ?_
     obtain ⟨_, e32, hc31⟩ := he30 k22 _ (gt_some (show k22 < x0.Conds.length from by omega))
     obtain rfl := tyCond_rd e32
     let K6 : List Value := [.int .i64 ((gt x0.Conds k22).Field), .int .i64 ((gt x0.Conds k22).Low), .int .i64 ((gt x0.Conds k22).High)]
     refine wv (fun W hm => rv_loadN (cs := K6) underlying117 type117 rfl rfl (hm.elCells (show (a28.add (k22 * 3)).block < w.heap.size from by rw [add_block]; exact hb29.1) hc31)) ?_
     refine WM_alloc type117 rfl (Wd_none rfl) (by decide) (fun p33 => ?_)
     refine wa ?_
     refine sb 0 K6 [iBox p15 39 [.int .i64 x0.Id, .int .i64 x0.Tenant, .slice (some a28) x0.Conds.length c7, .slice A11 x0.Out.length c12]] (fun W hm => hm) type117 ?_
     refine nt' (CM_seq ?_)
     refine CM_regionD (by kernel_rfl) (by kernel_rfl) ?_
     refine qv (fun W hm => rv_loadN (cs := K6) underlying117 type117 rfl rfl (hm.boxCells (n := 0) rfl)) ?_
     refine QR_callV (cl_fn cb130 rfl) (fun W hm => impl_IsCond_c W _ (gt x0.Conds k22) (tyCond_mk (x := (gt x0.Conds k22)))) (Wd_none rfl) (by decide) ?_
     refine qv vnot ?_
     refine qm ?_
     rcases Bool.eq_false_or_eq_true (impl_IsCond_m (gt x0.Conds k22)) with g35 | g35
     ·
      refine qg vmv (nt g35) ?_
      refine qg (fun W hm => rv_gtr rfl rfl) (nt g35) ?_
      refine qg vmv (nt g35) ?_
      by_cases h36 : 0 < ((k22 : Nat) : Int)
      ·have g37 : (decide (0 < ((k22 : Nat) : Int))) = true := decide_eq_true h36
       refine qg (vf underlying39 rfl type36) g37 ?_
       refine qg (vl 1 2 underlying36) g37 ?_
       refine qg vmv g37 ?_
       refine qg (fun W hm => rv_subN (p := k22) (q := 1) rfl rfl (by omega) (by omega)) g37 ?_
       refine qg (fun W hm => rv_index (sz := 3) (k := k22 - 1) underlying36 type117 rfl rfl rfl (by omega)) g37 ?_
       refine qg (vf underlying117 rfl type3) g37 ?_
       obtain ⟨_, e39, hc38⟩ := he30 (k22 - 1) _ (gt_some (show (k22 - 1) < x0.Conds.length from by omega))
       obtain rfl := tyCond_rd e39
       refine qg (fun W hm => rv_load underlying3 rfl rfl ((hm.cell0 (show ((a28.add ((k22 - 1) * 3)).add 0).block < w.heap.size from by rw [add_block, add_block]; exact hb29.1)).trans (hc38 0 _ rfl))) g37 ?_
       refine qg (vf underlying117 rfl type3) g37 ?_
       refine qg (vl 0 0 underlying3) g37 ?_
       refine qg (fun W hm => rv_geq rfl rfl) g37 ?_
       refine qg (vpT g37) (nt g35) ?_
       refine qv (vpF (nt g35)) ?_
       refine nq' ?_
       by_cases h40 : ((gt x0.Conds k22).Field) ≤ ((gt x0.Conds (k22 - 1)).Field)
       ·have g41 : (decide (((gt x0.Conds k22).Field) ≤ ((gt x0.Conds (k22 - 1)).Field))) = true := decide_eq_true h40
        refine CM_condT rfl g41 ?_
        refine sr (wa (nt' (CM_ret (QM_block_ret (QM_then_ret (QM_then_ret (QM_block_ret (QM_then_ret ?_))))))))
        exact rtb (h := by unfold impl_IsQuery_m; exact cond_t g17 (cond_t g19 (cond_f g21 (fin_inl (rng_ret (body := F1) (k := k22) (s := ()) (show k22 < x0.Conds.length from by omega) (show impl_IsQuery_b1 x0 k22 = Sum.inl false from by unfold impl_IsQuery_b1; exact cond_t g35 (cond_t g37 (cond_t g41 (rfl)))) hF24) rfl))))
       ·have g41 : (decide (((gt x0.Conds k22).Field) ≤ ((gt x0.Conds (k22 - 1)).Field))) = false := decide_eq_false h40
        refine CM_condF rfl g41 ?_
        refine CM_skip (QM_block_normal (QM_then (CM_region ?_)))
        refine wv (vadN k22 1 (by omega)) ?_
        refine wm (WM_nil ?_)
        have hn42 := rng_next (R := Bool) (body := F1) (k := k22) (s := ()) (s' := ()) (show k22 < x0.Conds.length from by omega) (show impl_IsQuery_b1 x0 k22 = Sum.inr () from by unfold impl_IsQuery_b1; exact cond_t g35 (cond_t g37 (cond_f g41 (rfl)))) hF24
        exact QM_round (k22 + 1, (), ()) sl4 (pk [1]) ⟨(by omega), hn42⟩ (rl (by omega))
      ·have g37 : (decide (0 < ((k22 : Nat) : Int))) = false := decide_eq_false h36
       refine qs g37 ?_
       refine qs g37 ?_
       refine qs g37 ?_
       refine qs g37 ?_
       refine qs g37 ?_
       refine qs g37 ?_
       refine qs g37 ?_
       refine qs g37 ?_
       refine qs g37 ?_
       refine qs g37 ?_
       refine qg (vpF g37) (nt g35) ?_
       refine qv (vpF (nt g35)) ?_
       refine nq' ?_
       refine CM_condF rfl rfl ?_
       refine CM_skip (QM_block_normal (QM_then (CM_region ?_)))
       refine wv (vadN k22 1 (by omega)) ?_
       refine wm (WM_nil ?_)
       have hn43 := rng_next (R := Bool) (body := F1) (k := k22) (s := ()) (s' := ()) (show k22 < x0.Conds.length from by omega) (show impl_IsQuery_b1 x0 k22 = Sum.inr () from by unfold impl_IsQuery_b1; exact cond_t g35 (cond_f g37 (rfl))) hF24
       exact QM_round (k22 + 1, (), ()) sl4 (pk [1]) ⟨(by omega), hn43⟩ (rl (by omega))
     ·
      refine qs (nf g35) ?_
      refine qs (nf g35) ?_
      refine qs (nf g35) ?_
      refine qu ?_
      refine qu ?_
      refine qu ?_
      refine qu ?_
      refine qu ?_
      refine qu ?_
      refine qu ?_
      refine qu ?_
      refine qu ?_
      refine qu ?_
      refine qs (nf g35) ?_
      refine qv (vpT (nf g35)) ?_
      refine nq' ?_
      refine CM_condT rfl rfl ?_
      refine sr (wa (nt' (CM_ret (QM_block_ret (QM_then_ret (QM_then_ret (QM_block_ret (QM_then_ret ?_))))))))
      exact rtb (h := by unfold impl_IsQuery_m; exact cond_t g17 (cond_t g19 (cond_f g21 (fin_inl (rng_ret (body := F1) (k := k22) (s := ()) (show k22 < x0.Conds.length from by omega) (show impl_IsQuery_b1 x0 k22 = Sum.inl false from by unfold impl_IsQuery_b1; exact cond_f g35 (rfl)) hF24) rfl))))
    ·have g27 : (decide (((k22 : Nat) : Int) < ((x0.Conds.length : Nat) : Int))) = false := decide_eq_false (by omega)
     refine CM_condF rfl g27 ?_
     refine CM_exit (QM_then_exit (QM_then_exit ?_))
     have hE44 : R3 (x0.Conds.length - 0) 0 () = Sum.inr () := rng_end hl26 hF24
     refine QM_block_hit (QM_then (CM_seq (sr ?_)))
     refine wv (vf underlying39 rfl type37) ?_
     refine wv (vl 0 3 underlying37) ?_
     refine wv (vlen underlying37) ?_
     refine wm (nt' (CM_block ?_))
     let F2 := fun k (_ : Unit) => impl_IsQuery_b2 x0 k
     let R4 := rng (R := Bool) F2
     refine CM_loop (σ := Nat × (Unit) × (Unit)) (fun s => [(1, .pointer (some (⟨p15, 0, none⟩ : Addr))), (52, .slice A11 x0.Out.length c12), (53, .int .i64 ((x0.Out.length : Nat) : Int)), (54, .int .i64 ((s.1 : Nat) : Int))]) (fun s => [iBox p15 39 K5]) (fun s => s.1 ≤ x0.Out.length ∧ R4 (x0.Out.length - s.1) s.1 s.2.1 = R4 (x0.Out.length - 0) 0 ()) (fun s => x0.Out.length - s.1) (0, (), ()) sl4 (fun W hm => hm) ⟨(by omega), rfl⟩ ?_
     rintro ⟨k45, ⟨⟩, ⟨⟩⟩ H48
     obtain ⟨hk46, hF47⟩ : k45 ≤ x0.Out.length ∧ R4 (x0.Out.length - k45) k45 () = R4 (x0.Out.length - 0) 0 () := H48
     show CM Try.prog 66 _ _ _ _ [(1, .pointer (some (⟨p15, 0, none⟩ : Addr))), (52, .slice A11 x0.Out.length c12), (53, .int .i64 ((x0.Out.length : Nat) : Int)), (54, .int .i64 ((k45 : Nat) : Int))] [iBox p15 39 K5]
     refine sr ?_
     refine wv vlss ?_
     refine nt' (CM_seq ?_)
     by_cases hl49 : k45 < x0.Out.length
     ·have g50 : (decide (((k45 : Nat) : Int) < ((x0.Out.length : Nat) : Int))) = true := decide_eq_true (by omega)
      refine CM_condT rfl g50 ?_
      refine CM_skip (QM_then (CM_seq (CM_block (sr ?_))))
      obtain ⟨a51, rfl, hb52, he53⟩ := q13 (by omega)
      refine wv (vix 1 k45 underlying37 type3) ?_
      refine wv (fun W hm => rv_load underlying3 rfl rfl ((hm.cell0 (show (a51.add (k45 * 1)).block < w.heap.size from by rw [add_block]; exact hb52.1)).trans (rdS_int he53 k45 (by omega)))) ?_
      refine wa (nt' (sr (wm ?_)))
      refine wcv (cl_fn cb112 rfl) (fun W hm => impl_isField_c W (gt x0.Out k45)) ?_
      refine wv vnot ?_
      refine nt' ?_
      rcases Bool.eq_false_or_eq_true (impl_isField_m (gt x0.Out k45)) with g55 | g55
      ·
       refine CM_condF rfl (nt g55) ?_
       refine CM_skip (QM_block_normal (QM_then (CM_region ?_)))
       refine wv (vadN k45 1 (by omega)) ?_
       refine wm (WM_nil ?_)
       have hn56 := rng_next (R := Bool) (body := F2) (k := k45) (s := ()) (s' := ()) (show k45 < x0.Out.length from by omega) (show impl_IsQuery_b2 x0 k45 = Sum.inr () from by unfold impl_IsQuery_b2; exact cond_t g55 (rfl)) hF47
       exact QM_round (k45 + 1, (), ()) sl4 (fun W hm => hm) ⟨(by omega), hn56⟩ (rl (by omega))
      ·
       refine CM_condT rfl (nf g55) ?_
       refine sr (wa (nt' (CM_ret (QM_block_ret (QM_then_ret (QM_then_ret (QM_block_ret (QM_then_ret ?_))))))))
       exact rtb (h := by unfold impl_IsQuery_m; exact cond_t g17 (cond_t g19 (cond_f g21 (fin_inr hE44 (fin_inl (rng_ret (body := F2) (k := k45) (s := ()) (show k45 < x0.Out.length from by omega) (show impl_IsQuery_b2 x0 k45 = Sum.inl false from by unfold impl_IsQuery_b2; exact cond_f g55 (rfl)) hF47) rfl)))))
     ·have g50 : (decide (((k45 : Nat) : Int) < ((x0.Out.length : Nat) : Int))) = false := decide_eq_false (by omega)
      refine CM_condF rfl g50 ?_
      refine CM_exit (QM_then_exit (QM_then_exit ?_))
      have hE57 : R4 (x0.Out.length - 0) 0 () = Sum.inr () := rng_end hl49 hF47
      refine QM_block_hit (QM_then (sr ?_))
      refine wv (vf underlying39 rfl type37) ?_
      refine wv (vl 0 3 underlying37) ?_
      refine wv (vlen underlying37) ?_
      refine wcv (cl_fn cb129 rfl) (fun W hm => impl_within_c W ((x0.Out.length : Nat) : Int) 1 3) ?_
      refine wa (nt' (CM_ret ?_))
      exact rtb (h := by unfold impl_IsQuery_m; exact cond_t g17 (cond_t g19 (cond_f g21 (fin_inr hE44 (fin_inr hE57 (rfl))))))
  ·
   refine ws (nf g19) ?_
   refine ws (nf g19) ?_
   refine ws (nf g19) ?_
   refine ws (nf g19) ?_
   refine wv (vpT (nf g19)) ?_
   refine nt' ?_
   refine CM_condT rfl rfl ?_
   refine sr (wa (nt' (CM_ret (QM_then_ret ?_))))
   exact rtb (h := by unfold impl_IsQuery_m; exact cond_t g17 (cond_f g19 (rfl)))
 ·
  refine ws (nf g17) ?_
  refine ws (nf g17) ?_
  refine ws (nf g17) ?_
  refine ws (nf g17) ?_
  refine wv (vpT (nf g17)) ?_
  refine wm ?_
  refine wk ?_
  refine wk ?_
  refine wk ?_
  refine wk ?_
  refine wv (vpT rfl) ?_
  refine nt' ?_
  refine CM_condT rfl rfl ?_
  refine sr (wa (nt' (CM_ret (QM_then_ret ?_))))
  exact rtb (h := by unfold impl_IsQuery_m; exact cond_f g17 (rfl))

def impl_AreQueries_b1 (x0 : (List DQuery)) (k6 : Nat) : Bool ⊕ (Unit) :=
 cond (impl_IsQuery_m (gt x0 k6)) (cond (decide (0 < ((k6 : Nat) : Int))) (cond (decide (((gt x0 k6).Id) ≤ ((gt x0 (k6 - 1)).Id))) (Sum.inl false) (Sum.inr ())) (Sum.inr ())) (Sum.inl false)
def impl_AreQueries_m (x0 : (List DQuery)) : Bool :=
 Sum.elim id (fun (s : Unit) => (decide (((x0.length : Nat) : Int) ≤ 24))) (rng (R := Bool) (fun k (_ : Unit) => impl_AreQueries_b1 x0 k) (x0.length - 0) 0 ())
theorem cb79 : Cb Try.prog 79 := ⟨f79, _, func79, rfl, by decide⟩
theorem impl_AreQueries_c (w : World) (z0 : Value) (x0 : (List DQuery)) (r_0 : rdS tyQuery w w.heap.size z0 x0) :
  Calls Try.prog 79 #[z0] w fun e w' => e = .returned (.bool (impl_AreQueries_m x0)) ∧ Below w.heap.size w w' := by
 have r5 := r_0
 obtain ⟨m1, A2, c3, rfl, q4⟩ := r_0
 refine ce1 (L := [(0, .slice A2 x0.length c3)]) (N := 34) func79 ?_
 refine sr (wa (nt' (CM_seq (sr (wm ?_)))))
 refine wv (vlen underlying24) ?_
 refine wm (nt' (CM_block ?_))
 let F1 := fun k (_ : Unit) => impl_AreQueries_b1 x0 k
 let R2 := rng (R := Bool) F1
 refine CM_loop (σ := Nat × (Unit) × (Unit)) (fun s => [(0, .slice A2 x0.length c3), (5, .slice A2 x0.length c3), (6, .int .i64 ((x0.length : Nat) : Int)), (7, .int .i64 ((s.1 : Nat) : Int))]) (fun s => []) (fun s => s.1 ≤ x0.length ∧ R2 (x0.length - s.1) s.1 s.2.1 = R2 (x0.length - 0) 0 ()) (fun s => x0.length - s.1) (0, (), ()) sl4 (fun W hm => hm) ⟨(by omega), rfl⟩ ?_
 rintro ⟨k6, ⟨⟩, ⟨⟩⟩ H9
 obtain ⟨hk7, hF8⟩ : k6 ≤ x0.length ∧ R2 (x0.length - k6) k6 () = R2 (x0.length - 0) 0 () := H9
 show CM Try.prog 34 _ _ _ _ [(0, .slice A2 x0.length c3), (5, .slice A2 x0.length c3), (6, .int .i64 ((x0.length : Nat) : Int)), (7, .int .i64 ((k6 : Nat) : Int))] []
 refine sr ?_
 refine wv vlss ?_
 refine nt' (CM_seq ?_)
 by_cases hl10 : k6 < x0.length
 ·have g11 : (decide (((k6 : Nat) : Int) < ((x0.length : Nat) : Int))) = true := decide_eq_true (by omega)
  refine CM_condT rfl g11 ?_
  refine CM_skip (QM_then (CM_seq (CM_block (sr (wm ?_)))))
  obtain ⟨a12, rfl, hb13, he14⟩ := q4 (by omega)
  refine wv (vix 4 k6 underlying24 type39) ?_
  obtain ⟨_, e20, hc15⟩ := he14 k6 _ (gt_some (show k6 < x0.length from by omega))
  obtain ⟨v16, v18, rfl, r17, r19⟩ := tyQuery_rd e20
  have r25 := r17
  obtain ⟨m21, A22, c23, rfl, q24⟩ := r17
  have r30 := r19
  obtain ⟨m26, A27, c28, rfl, q29⟩ := r19
  let K3 : List Value := [.int .i64 ((gt x0 k6).Id), .int .i64 ((gt x0 k6).Tenant), .slice A22 ((gt x0 k6).Conds).length c23, .slice A27 ((gt x0 k6).Out).length c28]
  refine wv (fun W hm => rv_loadN (cs := K3) underlying39 type39 rfl rfl (hm.elCells (show (a12.add (k6 * 4)).block < w.heap.size from by rw [add_block]; exact hb13.1) hc15)) ?_
  refine WM_alloc type39 rfl (Wd_none rfl) (by decide) (fun p31 => ?_)
  refine wa ?_
  refine sb 0 K3 [] (fun W hm => hm) type39 ?_
  refine nt' (CM_seq ?_)
  refine CM_regionD (by kernel_rfl) (by kernel_rfl) ?_
  refine qv (fun W hm => rv_loadN (cs := K3) underlying39 type39 rfl rfl (hm.boxCells (n := 0) rfl)) ?_
  refine QR_callV (cl_fn cb111 rfl) (fun W hm => impl_IsQuery_c W _ (gt x0 k6) (tyQuery_mk (x := (gt x0 k6)) (hm.rdS0 r25) (hm.rdS0 r30))) (Wd_none rfl) (by decide) ?_
  refine qv vnot ?_
  refine qm ?_
  rcases Bool.eq_false_or_eq_true (impl_IsQuery_m (gt x0 k6)) with g33 | g33
  ·
   refine qg vmv (nt g33) ?_
   refine qg (fun W hm => rv_gtr rfl rfl) (nt g33) ?_
   refine qg vmv (nt g33) ?_
   by_cases h34 : 0 < ((k6 : Nat) : Int)
   ·have g35 : (decide (0 < ((k6 : Nat) : Int))) = true := decide_eq_true h34
    refine qg vmv g35 ?_
    refine qg vmv g35 ?_
    refine qg (fun W hm => rv_subN (p := k6) (q := 1) rfl rfl (by omega) (by omega)) g35 ?_
    refine qg (fun W hm => rv_index (sz := 4) (k := k6 - 1) underlying24 type39 rfl rfl rfl (by omega)) g35 ?_
    refine qg (vf underlying39 rfl type3) g35 ?_
    obtain ⟨_, e41, hc36⟩ := he14 (k6 - 1) _ (gt_some (show (k6 - 1) < x0.length from by omega))
    obtain ⟨v37, v39, rfl, r38, r40⟩ := tyQuery_rd e41
    have r46 := r38
    obtain ⟨m42, A43, c44, rfl, q45⟩ := r38
    have r51 := r40
    obtain ⟨m47, A48, c49, rfl, q50⟩ := r40
    refine qg (fun W hm => rv_load underlying3 rfl rfl ((hm.cell0 (show ((a12.add ((k6 - 1) * 4)).add 0).block < w.heap.size from by rw [add_block, add_block]; exact hb13.1)).trans (hc36 0 _ rfl))) g35 ?_
    refine qg (vf underlying39 rfl type3) g35 ?_
    refine qg (vl 0 0 underlying3) g35 ?_
    refine qg (fun W hm => rv_geq rfl rfl) g35 ?_
    refine qg (vpT g35) (nt g33) ?_
    refine qv (vpF (nt g33)) ?_
    refine nq' ?_
    by_cases h52 : ((gt x0 k6).Id) ≤ ((gt x0 (k6 - 1)).Id)
    ·have g53 : (decide (((gt x0 k6).Id) ≤ ((gt x0 (k6 - 1)).Id))) = true := decide_eq_true h52
     refine CM_condT rfl g53 ?_
     refine sr (wa (nt' (CM_ret (QM_block_ret (QM_then_ret (QM_then_ret (QM_block_ret (QM_then_ret ?_))))))))
     exact rtb (h := by unfold impl_AreQueries_m; exact fin_inl (rng_ret (body := F1) (k := k6) (s := ()) (show k6 < x0.length from by omega) (show impl_AreQueries_b1 x0 k6 = Sum.inl false from by unfold impl_AreQueries_b1; exact cond_t g33 (cond_t g35 (cond_t g53 (rfl)))) hF8) rfl)
    ·have g53 : (decide (((gt x0 k6).Id) ≤ ((gt x0 (k6 - 1)).Id))) = false := decide_eq_false h52
     refine CM_condF rfl g53 ?_
     refine CM_skip (QM_block_normal (QM_then (CM_region ?_)))
     refine wv (vadN k6 1 (by omega)) ?_
     refine wm (WM_nil ?_)
     have hn54 := rng_next (R := Bool) (body := F1) (k := k6) (s := ()) (s' := ()) (show k6 < x0.length from by omega) (show impl_AreQueries_b1 x0 k6 = Sum.inr () from by unfold impl_AreQueries_b1; exact cond_t g33 (cond_t g35 (cond_f g53 (rfl)))) hF8
     exact QM_round (k6 + 1, (), ()) sl4 (pk []) ⟨(by omega), hn54⟩ (rl (by omega))
   ·have g35 : (decide (0 < ((k6 : Nat) : Int))) = false := decide_eq_false h34
    refine qs g35 ?_
    refine qs g35 ?_
    refine qs g35 ?_
    refine qs g35 ?_
    refine qs g35 ?_
    refine qs g35 ?_
    refine qs g35 ?_
    refine qs g35 ?_
    refine qs g35 ?_
    refine qg (vpF g35) (nt g33) ?_
    refine qv (vpF (nt g33)) ?_
    refine nq' ?_
    refine CM_condF rfl rfl ?_
    refine CM_skip (QM_block_normal (QM_then (CM_region ?_)))
    refine wv (vadN k6 1 (by omega)) ?_
    refine wm (WM_nil ?_)
    have hn55 := rng_next (R := Bool) (body := F1) (k := k6) (s := ()) (s' := ()) (show k6 < x0.length from by omega) (show impl_AreQueries_b1 x0 k6 = Sum.inr () from by unfold impl_AreQueries_b1; exact cond_t g33 (cond_f g35 (rfl))) hF8
    exact QM_round (k6 + 1, (), ()) sl4 (pk []) ⟨(by omega), hn55⟩ (rl (by omega))
  ·
   refine qs (nf g33) ?_
   refine qs (nf g33) ?_
   refine qs (nf g33) ?_
   refine qu ?_
   refine qu ?_
   refine qu ?_
   refine qu ?_
   refine qu ?_
   refine qu ?_
   refine qu ?_
   refine qu ?_
   refine qu ?_
   refine qs (nf g33) ?_
   refine qv (vpT (nf g33)) ?_
   refine nq' ?_
   refine CM_condT rfl rfl ?_
   refine sr (wa (nt' (CM_ret (QM_block_ret (QM_then_ret (QM_then_ret (QM_block_ret (QM_then_ret ?_))))))))
   exact rtb (h := by unfold impl_AreQueries_m; exact fin_inl (rng_ret (body := F1) (k := k6) (s := ()) (show k6 < x0.length from by omega) (show impl_AreQueries_b1 x0 k6 = Sum.inl false from by unfold impl_AreQueries_b1; exact cond_f g33 (rfl)) hF8) rfl)
 ·have g11 : (decide (((k6 : Nat) : Int) < ((x0.length : Nat) : Int))) = false := decide_eq_false (by omega)
  refine CM_condF rfl g11 ?_
  refine CM_exit (QM_then_exit (QM_then_exit ?_))
  have hE56 : R2 (x0.length - 0) 0 () = Sum.inr () := rng_end hl10 hF8
  refine QM_block_hit (QM_then (sr (wm ?_)))
  refine wv (vlen underlying24) ?_
  refine wv (fun W hm => rv_leq rfl rfl) ?_
  refine wa (nt' (CM_ret ?_))
  exact rtb (h := by unfold impl_AreQueries_m; exact fin_inr hE56 (rfl))

def impl_admits_b1 (x0 : DQuery) (x1 : Int) (x2 : Int) (k16 : Nat) : Bool ⊕ (Unit) :=
 cond (((gt x0.Conds k16).Field) == x1) (cond (impl_within_m x2 ((gt x0.Conds k16).Low) ((gt x0.Conds k16).High)) (Sum.inr ()) (Sum.inl false)) (Sum.inr ())
def impl_admits_m (x0 : DQuery) (x1 : Int) (x2 : Int) : Bool :=
 Sum.elim id (fun (s : Unit) => true) (rng (R := Bool) (fun k (_ : Unit) => impl_admits_b1 x0 x1 x2 k) (x0.Conds.length - 0) 0 ())
theorem cb131 : Cb Try.prog 131 := ⟨f131, _, func131, rfl, by decide⟩
theorem impl_admits_c (w : World) (z0 : List Value) (x0 : DQuery) (x1 : Int) (x2 : Int) (r_0 : tyQuery.rd w w.heap.size z0 x0) :
  Calls Try.prog 131 #[.agg z0.toArray, .int .i64 x1, .int .i64 x2] w fun e w' => e = .returned (.bool (impl_admits_m x0 x1 x2)) ∧ Below w.heap.size w w' := by
 obtain ⟨v1, v3, rfl, r2, r4⟩ := tyQuery_rd r_0
 have r9 := r2
 obtain ⟨m5, A6, c7, rfl, q8⟩ := r2
 have r14 := r4
 obtain ⟨m10, A11, c12, rfl, q13⟩ := r4
 refine ce3 (L := [(0, .agg #[.int .i64 x0.Id, .int .i64 x0.Tenant, .slice A6 x0.Conds.length c7, .slice A11 x0.Out.length c12]), (1, .int .i64 x1), (2, .int .i64 x2)]) (N := 30) func131 ?_
 refine sr ?_
 refine WM_box rfl (Wd_none rfl) (by decide) (fun p15 => ?_)
 refine wa (nt' (CM_seq (sr ?_)))
 refine wv (vf underlying39 rfl type36) ?_
 refine wv (vl 0 2 underlying36) ?_
 refine wv (vlen underlying36) ?_
 refine wm (nt' (CM_block ?_))
 let F1 := fun k (_ : Unit) => impl_admits_b1 x0 x1 x2 k
 let R2 := rng (R := Bool) F1
 let K3 : List Value := [.int .i64 x0.Id, .int .i64 x0.Tenant, .slice A6 x0.Conds.length c7, .slice A11 x0.Out.length c12]
 refine CM_loop (σ := Nat × (Unit) × (Unit)) (fun s => [(1, .int .i64 x1), (2, .int .i64 x2), (10, .slice A6 x0.Conds.length c7), (11, .int .i64 ((x0.Conds.length : Nat) : Int)), (12, .int .i64 ((s.1 : Nat) : Int))]) (fun s => [iBox p15 39 K3]) (fun s => s.1 ≤ x0.Conds.length ∧ R2 (x0.Conds.length - s.1) s.1 s.2.1 = R2 (x0.Conds.length - 0) 0 ()) (fun s => x0.Conds.length - s.1) (0, (), ()) sl5 (fun W hm => hm) ⟨(by omega), rfl⟩ ?_
 rintro ⟨k16, ⟨⟩, ⟨⟩⟩ H19
 obtain ⟨hk17, hF18⟩ : k16 ≤ x0.Conds.length ∧ R2 (x0.Conds.length - k16) k16 () = R2 (x0.Conds.length - 0) 0 () := H19
 show CM Try.prog 30 _ _ _ _ [(1, .int .i64 x1), (2, .int .i64 x2), (10, .slice A6 x0.Conds.length c7), (11, .int .i64 ((x0.Conds.length : Nat) : Int)), (12, .int .i64 ((k16 : Nat) : Int))] [iBox p15 39 K3]
 refine sr ?_
 refine wv vlss ?_
 refine nt' (CM_seq ?_)
 by_cases hl20 : k16 < x0.Conds.length
 ·have g21 : (decide (((k16 : Nat) : Int) < ((x0.Conds.length : Nat) : Int))) = true := decide_eq_true (by omega)
  refine CM_condT rfl g21 ?_
  refine CM_skip (QM_then (CM_seq (CM_block (sr ?_))))
  obtain ⟨a22, rfl, hb23, he24⟩ := q8 (by omega)
  refine wv (vix 3 k16 underlying36 type117) ?_
  obtain ⟨_, e26, hc25⟩ := he24 k16 _ (gt_some (show k16 < x0.Conds.length from by omega))
  obtain rfl := tyCond_rd e26
  let K4 : List Value := [.int .i64 ((gt x0.Conds k16).Field), .int .i64 ((gt x0.Conds k16).Low), .int .i64 ((gt x0.Conds k16).High)]
  refine wv (fun W hm => rv_loadN (cs := K4) underlying117 type117 rfl rfl (hm.elCells (show (a22.add (k16 * 3)).block < w.heap.size from by rw [add_block]; exact hb23.1) hc25)) ?_
  refine WM_alloc type117 rfl (Wd_none rfl) (by decide) (fun p27 => ?_)
  refine sb 0 K4 [iBox p15 39 [.int .i64 x0.Id, .int .i64 x0.Tenant, .slice (some a22) x0.Conds.length c7, .slice A11 x0.Out.length c12]] (fun W hm => hm) type117 ?_
  refine nt' (sr ?_)
  refine wv (vf underlying117 rfl type3) ?_
  refine wv (vl 0 0 underlying3) ?_
  refine wm ?_
  refine wv (fun W hm => rv_eql rfl rfl) ?_
  refine wm ?_
  by_cases h28 : ((gt x0.Conds k16).Field) = x1
  ·have g29 : (((gt x0.Conds k16).Field) == x1) = true := beq_iff_eq.2 h28
   refine wg vmv g29 ?_
   refine wg (vf underlying117 rfl type3) g29 ?_
   refine wg (vl 0 1 underlying3) g29 ?_
   refine wg (vf underlying117 rfl type3) g29 ?_
   refine wg (vl 0 2 underlying3) g29 ?_
   refine WM_callV (cl_fn cb129 rfl) (fun W hm => impl_within_c W x2 ((gt x0.Conds k16).Low) ((gt x0.Conds k16).High)) (Wd_some rfl rfl rfl (bw g29 rfl)) (by decide) ?_
   refine wg vnot g29 ?_
   refine wv (vpT g29) ?_
   refine nt' ?_
   rcases Bool.eq_false_or_eq_true (impl_within_m x2 ((gt x0.Conds k16).Low) ((gt x0.Conds k16).High)) with g31 | g31
   ·
    have hw := impl_within_fact g31
    refine CM_condF rfl (nt g31) ?_
    refine CM_skip (QM_block_normal (QM_then (CM_region ?_)))
    refine wv (vadN k16 1 (by omega)) ?_
    refine wm (WM_nil ?_)
    have hn32 := rng_next (R := Bool) (body := F1) (k := k16) (s := ()) (s' := ()) (show k16 < x0.Conds.length from by omega) (show impl_admits_b1 x0 x1 x2 k16 = Sum.inr () from by unfold impl_admits_b1; exact cond_t g29 (cond_t g31 (rfl))) hF18
    exact QM_round (k16 + 1, (), ()) sl5 (pk [1]) ⟨(by omega), hn32⟩ (rl (by omega))
   ·
    refine CM_condT rfl (nf g31) ?_
    refine sr (wa (nt' (CM_ret (QM_block_ret (QM_then_ret (QM_then_ret (QM_block_ret (QM_then_ret ?_))))))))
    exact rtb (h := by unfold impl_admits_m; exact fin_inl (rng_ret (body := F1) (k := k16) (s := ()) (show k16 < x0.Conds.length from by omega) (show impl_admits_b1 x0 x1 x2 k16 = Sum.inl false from by unfold impl_admits_b1; exact cond_t g29 (cond_f g31 (rfl))) hF18) rfl)
  ·have g29 : (((gt x0.Conds k16).Field) == x1) = false := beq_eq_false_iff_ne.2 h28
   refine ws g29 ?_
   refine ws g29 ?_
   refine ws g29 ?_
   refine ws g29 ?_
   refine ws g29 ?_
   refine ws g29 ?_
   refine ws g29 ?_
   refine wv (vpF g29) ?_
   refine nt' ?_
   refine CM_condF rfl rfl ?_
   refine CM_skip (QM_block_normal (QM_then (CM_region ?_)))
   refine wv (vadN k16 1 (by omega)) ?_
   refine wm (WM_nil ?_)
   have hn33 := rng_next (R := Bool) (body := F1) (k := k16) (s := ()) (s' := ()) (show k16 < x0.Conds.length from by omega) (show impl_admits_b1 x0 x1 x2 k16 = Sum.inr () from by unfold impl_admits_b1; exact cond_f g29 (rfl)) hF18
   exact QM_round (k16 + 1, (), ()) sl5 (pk [1]) ⟨(by omega), hn33⟩ (rl (by omega))
 ·have g21 : (decide (((k16 : Nat) : Int) < ((x0.Conds.length : Nat) : Int))) = false := decide_eq_false (by omega)
  refine CM_condF rfl g21 ?_
  refine CM_exit (QM_then_exit (QM_then_exit ?_))
  have hE34 : R2 (x0.Conds.length - 0) 0 () = Sum.inr () := rng_end hl20 hF18
  refine QM_block_hit (QM_then (sr (wa (nt' (CM_ret ?_)))))
  exact rtb (h := by unfold impl_admits_m; exact fin_inr hE34 (rfl))

def impl_stab_b1 (x0 : (List DQuery)) (x1 : Int) (x2 : Int) (k9 : Nat) (d10 : (List Int)) : (List Int) ⊕ ((List Int)) :=
 cond (impl_admits_m (gt x0 k9) x1 x2) (Sum.inr (d10 ++ [(gt x0 k9).Id])) (Sum.inr d10)
def impl_stab_m (x0 : (List DQuery)) (x1 : Int) (x2 : Int) : (List Int) :=
 Sum.elim id (fun (s : (List Int)) => s) (rng (R := (List Int)) (fun k (s : (List Int)) => impl_stab_b1 x0 x1 x2 k s) (x0.length - 0) 0 [])
theorem cb113 : Cb Try.prog 113 := ⟨f113, _, func113, rfl, by decide⟩
theorem impl_stab_c (w : World) (z0 : Value) (x0 : (List DQuery)) (x1 : Int) (x2 : Int) (r_0 : rdS tyQuery w w.heap.size z0 x0) (s_0 : (x0.length ≤ 68719476736 ∧ ∀ y ∈ x0, smQuery 68719476736 y)) :
  Calls Try.prog 113 #[z0, .int .i64 x1, .int .i64 x2] w fun e w' => ∃ v : Value, e = .returned (v) ∧ Mem w.heap.size w [iOwn (tSl tInt 3) [v] (impl_stab_m x0 x1 x2)] w' := by
 have r5 := r_0
 obtain ⟨m1, A2, c3, rfl, q4⟩ := r_0
 have l6 : x0.length ≤ 68719476736 := s_0.1
 refine ce3 (L := [(0, .slice A2 x0.length c3), (1, .int .i64 x1), (2, .int .i64 x2)]) (N := 28) func113 ?_
 refine sr (wa (nt' (sr ?_)))
 refine WM_build0 (E := tInt) underlying37 type3 (Wd_none rfl) (by decide) (fun p7 => ?_)
 refine wa (nt' (CM_seq (sr (wm ?_))))
 refine wv (vlen underlying24) ?_
 refine wm (nt' (CM_block ?_))
 let F1 := fun k (s : (List Int)) => impl_stab_b1 x0 x1 x2 k s
 let R2 := rng (R := (List Int)) F1
 refine CM_loop (σ := Nat × ((List Int)) × (Option Addr × Nat)) (fun s => [(1, .int .i64 x1), (2, .int .i64 x2), (7, .slice s.2.2.1 s.2.1.length s.2.2.2), (11, .slice A2 x0.length c3), (12, .int .i64 ((x0.length : Nat) : Int)), (13, .int .i64 ((s.1 : Nat) : Int))]) (fun s => [iOwn (tSl tInt 3) [.slice s.2.2.1 s.2.1.length s.2.2.2] s.2.1]) (fun s => s.1 ≤ x0.length ∧ R2 (x0.length - s.1) s.1 s.2.1 = R2 (x0.length - 0) 0 [] ∧ s.2.1.length ≤ 0 + s.1) (fun s => x0.length - s.1) (0, [], ((some ⟨p7, 0, none⟩), 0)) sl6 (fun W hm => hm) ⟨(by omega), rfl, Nat.le_refl _⟩ ?_
 rintro ⟨k9, d10, ⟨A11, c12⟩⟩ H15
 obtain ⟨hk13, hF14, hi16⟩ : k9 ≤ x0.length ∧ R2 (x0.length - k9) k9 d10 = R2 (x0.length - 0) 0 [] ∧ d10.length ≤ 0 + k9 := H15
 let I4 : It := iOwn (tSl tInt 3) [.slice A11 d10.length c12] d10
 show CM Try.prog 28 _ _ _ _ [(1, .int .i64 x1), (2, .int .i64 x2), (7, .slice A11 d10.length c12), (11, .slice A2 x0.length c3), (12, .int .i64 ((x0.length : Nat) : Int)), (13, .int .i64 ((k9 : Nat) : Int))] [I4]
 refine sr ?_
 refine wv vlss ?_
 refine nt' (CM_seq ?_)
 by_cases hl17 : k9 < x0.length
 ·have g18 : (decide (((k9 : Nat) : Int) < ((x0.length : Nat) : Int))) = true := decide_eq_true (by omega)
  refine CM_condT rfl g18 ?_
  refine CM_skip (QM_then (CM_seq (CM_block (sr ?_))))
  obtain ⟨a19, rfl, hb20, he21⟩ := q4 (by omega)
  refine wv (vix 4 k9 underlying24 type39) ?_
  obtain ⟨_, e27, hc22⟩ := he21 k9 _ (gt_some (show k9 < x0.length from by omega))
  obtain ⟨v23, v25, rfl, r24, r26⟩ := tyQuery_rd e27
  have l28 : ((gt x0 k9).Conds).length ≤ 68719476736 := (s_0.2 _ (gt_mem (show k9 < x0.length from by omega))).1
  have l29 : ((gt x0 k9).Out).length ≤ 68719476736 := (s_0.2 _ (gt_mem (show k9 < x0.length from by omega))).2
  have r34 := r24
  obtain ⟨m30, A31, c32, rfl, q33⟩ := r24
  have r39 := r26
  obtain ⟨m35, A36, c37, rfl, q38⟩ := r26
  let K3 : List Value := [.int .i64 ((gt x0 k9).Id), .int .i64 ((gt x0 k9).Tenant), .slice A31 ((gt x0 k9).Conds).length c32, .slice A36 ((gt x0 k9).Out).length c37]
  refine wv (fun W hm => rv_loadN (cs := K3) underlying39 type39 rfl rfl (hm.elCells (show (a19.add (k9 * 4)).block < w.heap.size from by rw [add_block]; exact hb20.1) hc22)) ?_
  refine WM_alloc type39 rfl (Wd_none rfl) (by decide) (fun p40 => ?_)
  refine sb 0 K3 [I4] (fun W hm => hm) type39 ?_
  refine nt' (sr ?_)
  refine wv (fun W hm => rv_loadN (cs := K3) underlying39 type39 rfl rfl (hm.boxCells (n := 0) rfl)) ?_
  refine wm (wm ?_)
  refine wcv (cl_fn cb131 rfl) (fun W hm => impl_admits_c W _ (gt x0 k9) x1 x2 (tyQuery_mk (x := (gt x0 k9)) (hm.rdS0 r34) (hm.rdS0 r39))) ?_
  refine nt' ?_
  rcases Bool.eq_false_or_eq_true (impl_admits_m (gt x0 k9) x1 x2) with g42 | g42
  ·
   refine CM_condT rfl g42 ?_
   refine CM_region (wm ?_)
   refine wv (vf underlying39 rfl type3) ?_
   refine wv (vl 0 0 underlying3) ?_
   refine WM_build (cs := [.int .i64 ((gt x0 k9).Id)]) underlying37 type3 rfl (by decide) (by decide) rfl (by kernel_rfl) (Wd_none rfl) (by decide) (fun p43 => ?_)
   refine ap1 tInt 3 (.slice A11 d10.length c12) d10 ((gt x0 k9).Id) [] [iBox p40 39 K3] [.int .i64 ((gt x0 k9).Id)] (pk [0, 2, 1]) (fun _ _ hs => by cases (Sep.nil hs); exact (els_cons tInt_own els_nil)) underlying37 type3 (show (d10.length + 1) * 8 ≤ 140737488355328 from by omega) (fun v44 => ?_)
   refine WM_form (n := 0) rfl ?_
   rintro A45 c46 rfl m47
   refine wa (WM_nil (QM_block_normal (QM_then (CM_region ?_))))
   refine wv (vadN k9 1 (by omega)) ?_
   refine wm (WM_nil ?_)
   have hn49 := rng_next (R := (List Int)) (body := F1) (k := k9) (s := d10) (s' := (d10 ++ [(gt x0 k9).Id])) (show k9 < x0.length from by omega) (show impl_stab_b1 x0 x1 x2 k9 d10 = Sum.inr (d10 ++ [(gt x0 k9).Id]) from by unfold impl_stab_b1; exact cond_t g42 (rfl)) hF14
   exact QM_round (k9 + 1, (d10 ++ [(gt x0 k9).Id]), (A45, c46)) sl6 (pk [0]) ⟨(by omega), hn49, (show (d10 ++ [(gt x0 k9).Id]).length ≤ 0 + (k9 + 1) from by first | omega | (simp only [List.length_append, List.length_cons, List.length_nil] at *; omega))⟩ (rl (by omega))
  ·
   refine CM_condF rfl g42 ?_
   refine CM_skip (QM_block_normal (QM_then (CM_region ?_)))
   refine wv (vadN k9 1 (by omega)) ?_
   refine wm (WM_nil ?_)
   have hn50 := rng_next (R := (List Int)) (body := F1) (k := k9) (s := d10) (s' := d10) (show k9 < x0.length from by omega) (show impl_stab_b1 x0 x1 x2 k9 d10 = Sum.inr d10 from by unfold impl_stab_b1; exact cond_f g42 (rfl)) hF14
   exact QM_round (k9 + 1, d10, (A11, c12)) sl6 (pk [1]) ⟨(by omega), hn50, (show d10.length ≤ 0 + (k9 + 1) from by first | omega | (simp only [List.length_append, List.length_cons, List.length_nil] at *; omega))⟩ (rl (by omega))
 ·have g18 : (decide (((k9 : Nat) : Int) < ((x0.length : Nat) : Int))) = false := decide_eq_false (by omega)
  refine CM_condF rfl g18 ?_
  refine CM_exit (QM_then_exit (QM_then_exit ?_))
  have hE51 : R2 (x0.length - 0) 0 [] = Sum.inr d10 := rng_end hl17 hF14
  refine QM_block_hit (QM_then (sr (wm (wa (nt' (CM_ret ?_))))))
  refine QM_r1 rfl (RR_tmp rfl) (fun W hm => ⟨.slice A11 d10.length c12, ?_, ?_⟩)
  ·first | rw [(show impl_stab_m x0 x1 x2 = d10 from by unfold impl_stab_m; exact fin_inr hE51 (rfl))] | rfl
  ·rw [(show impl_stab_m x0 x1 x2 = d10 from by unfold impl_stab_m; exact fin_inr hE51 (rfl))]; exact hm

def impl_sameInts_b1 (x0 : (List Int)) (x1 : (List Int)) (k13 : Nat) : Bool ⊕ (Unit) :=
 cond ((gt x0 k13) != (gt x1 k13)) (Sum.inl false) (Sum.inr ())
def impl_sameInts_m (x0 : (List Int)) (x1 : (List Int)) : Bool :=
 cond (((x0.length : Nat) : Int) != ((x1.length : Nat) : Int)) false (Sum.elim id (fun (s : Unit) => true) (rng (R := Bool) (fun k (_ : Unit) => impl_sameInts_b1 x0 x1 k) (x0.length - 0) 0 ()))
theorem cb58 : Cb Try.prog 58 := ⟨f58, _, func58, rfl, by decide⟩
theorem impl_sameInts_c (w : World) (z0 : Value) (x0 : (List Int)) (z1 : Value) (x1 : (List Int)) (r_0 : rdS tInt w w.heap.size z0 x0) (r_1 : rdS tInt w w.heap.size z1 x1) :
  Calls Try.prog 58 #[z0, z1] w fun e w' => e = .returned (.bool (impl_sameInts_m x0 x1)) ∧ Below w.heap.size w w' := by
 have r5 := r_0
 obtain ⟨m1, A2, c3, rfl, q4⟩ := r_0
 have r10 := r_1
 obtain ⟨m6, A7, c8, rfl, q9⟩ := r_1
 refine ce2 (L := [(0, .slice A2 x0.length c3), (1, .slice A7 x1.length c8)]) (N := 26) func58 ?_
 refine sr (wa (nt' (CM_seq (sr (wm ?_)))))
 refine wv (vlen underlying37) ?_
 refine wm ?_
 refine wv (vlen underlying37) ?_
 refine wv vneq ?_
 refine nt' ?_
 by_cases h11 : ((x0.length : Nat) : Int) = ((x1.length : Nat) : Int)
 ·have g12 : (((x0.length : Nat) : Int) != ((x1.length : Nat) : Int)) = false := by rw [h11]; exact bne_self_eq_false _
  refine CM_condF rfl g12 ?_
  refine CM_skip (QM_then (CM_seq (sr (wm ?_))))
  refine wv (vlen underlying37) ?_
  refine wm (nt' (CM_block ?_))
  let F1 := fun k (_ : Unit) => impl_sameInts_b1 x0 x1 k
  let R2 := rng (R := Bool) F1
  refine CM_loop (σ := Nat × (Unit) × (Unit)) (fun s => [(0, .slice A2 x0.length c3), (1, .slice A7 x1.length c8), (12, .int .i64 ((x0.length : Nat) : Int)), (13, .int .i64 ((s.1 : Nat) : Int))]) (fun s => []) (fun s => s.1 ≤ x0.length ∧ R2 (x0.length - s.1) s.1 s.2.1 = R2 (x0.length - 0) 0 ()) (fun s => x0.length - s.1) (0, (), ()) sl4 (fun W hm => hm) ⟨(by omega), rfl⟩ ?_
  rintro ⟨k13, ⟨⟩, ⟨⟩⟩ H16
  obtain ⟨hk14, hF15⟩ : k13 ≤ x0.length ∧ R2 (x0.length - k13) k13 () = R2 (x0.length - 0) 0 () := H16
  show CM Try.prog 26 _ _ _ _ [(0, .slice A2 x0.length c3), (1, .slice A7 x1.length c8), (12, .int .i64 ((x0.length : Nat) : Int)), (13, .int .i64 ((k13 : Nat) : Int))] []
  refine sr ?_
  refine wv vlss ?_
  refine nt' (CM_seq ?_)
  by_cases hl17 : k13 < x0.length
  ·have g18 : (decide (((k13 : Nat) : Int) < ((x0.length : Nat) : Int))) = true := decide_eq_true (by omega)
   refine CM_condT rfl g18 ?_
   refine CM_skip (QM_then (CM_seq (CM_block (sr (wm (wa (nt' (CM_seq ?_))))))))
   refine CM_regionD (by kernel_rfl) (by kernel_rfl) ?_
   refine qm (qm ?_)
   obtain ⟨a19, rfl, hb20, he21⟩ := q4 (by omega)
   refine qv (vix 1 k13 underlying37 type3) ?_
   refine qv (fun W hm => rv_load underlying3 rfl rfl ((hm.cell0 (show (a19.add (k13 * 1)).block < w.heap.size from by rw [add_block]; exact hb20.1)).trans (rdS_int he21 k13 (by omega)))) ?_
   refine qm (qm ?_)
   obtain ⟨a22, rfl, hb23, he24⟩ := q9 (by omega)
   refine qv (vix 1 k13 underlying37 type3) ?_
   refine qv (fun W hm => rv_load underlying3 rfl rfl ((hm.cell0 (show (a22.add (k13 * 1)).block < w.heap.size from by rw [add_block]; exact hb23.1)).trans (rdS_int he24 k13 (by omega)))) ?_
   refine qv vneq ?_
   refine nq' ?_
   by_cases h25 : (gt x0 k13) = (gt x1 k13)
   ·have g26 : ((gt x0 k13) != (gt x1 k13)) = false := by rw [h25]; exact bne_self_eq_false _
    refine CM_condF rfl g26 ?_
    refine CM_skip (QM_block_normal (QM_then (CM_region ?_)))
    refine wv (vadN k13 1 (by omega)) ?_
    refine wm (WM_nil ?_)
    have hn27 := rng_next (R := Bool) (body := F1) (k := k13) (s := ()) (s' := ()) (show k13 < x0.length from by omega) (show impl_sameInts_b1 x0 x1 k13 = Sum.inr () from by unfold impl_sameInts_b1; exact cond_f g26 (rfl)) hF15
    exact QM_round (k13 + 1, (), ()) sl4 (fun W hm => hm) ⟨(by omega), hn27⟩ (rl (by omega))
   ·have g26 : ((gt x0 k13) != (gt x1 k13)) = true := bne_iff_ne.2 h25
    refine CM_condT rfl g26 ?_
    refine sr (wa (nt' (CM_ret (QM_block_ret (QM_then_ret (QM_then_ret (QM_block_ret (QM_then_ret ?_))))))))
    exact rtb (h := by unfold impl_sameInts_m; exact cond_f g12 (fin_inl (rng_ret (body := F1) (k := k13) (s := ()) (show k13 < x0.length from by omega) (show impl_sameInts_b1 x0 x1 k13 = Sum.inl false from by unfold impl_sameInts_b1; exact cond_t g26 (rfl)) hF15) rfl))
  ·have g18 : (decide (((k13 : Nat) : Int) < ((x0.length : Nat) : Int))) = false := decide_eq_false (by omega)
   refine CM_condF rfl g18 ?_
   refine CM_exit (QM_then_exit (QM_then_exit ?_))
   have hE28 : R2 (x0.length - 0) 0 () = Sum.inr () := rng_end hl17 hF15
   refine QM_block_hit (QM_then (sr (wa (nt' (CM_ret ?_)))))
   exact rtb (h := by unfold impl_sameInts_m; exact cond_f g12 (fin_inr hE28 (rfl)))
 ·have g12 : (((x0.length : Nat) : Int) != ((x1.length : Nat) : Int)) = true := bne_iff_ne.2 h11
  refine CM_condT rfl g12 ?_
  refine sr (wa (nt' (CM_ret (QM_then_ret ?_))))
  exact rtb (h := by unfold impl_sameInts_m; exact cond_t g12 (rfl))

def impl_StabIndex_b1 (x0 : (List DQuery)) (x1 : Int) (k13 : Nat) (d14 : (List DSpan)) : (List DSpan) ⊕ ((List DSpan)) :=
 cond (decide (0 < ((d14.length : Nat) : Int))) (cond (impl_sameInts_m ((gt d14 (d14.length - 1)).Set) (impl_stab_m x0 x1 ((k13 : Nat) : Int))) (Sum.inr (d14.set (d14.length - 1) (⟨(gt d14 (d14.length - 1)).From, ((k13 : Nat) : Int), (gt d14 (d14.length - 1)).Set⟩ : DSpan))) (Sum.inr (d14 ++ [(⟨((k13 : Nat) : Int), ((k13 : Nat) : Int), (impl_stab_m x0 x1 ((k13 : Nat) : Int))⟩ : DSpan)]))) (Sum.inr (d14 ++ [(⟨((k13 : Nat) : Int), ((k13 : Nat) : Int), (impl_stab_m x0 x1 ((k13 : Nat) : Int))⟩ : DSpan)]))
def impl_StabIndex_m (x0 : (List DQuery)) (x1 : Int) : (List DSpan) :=
 cond (impl_AreQueries_m x0) (cond (impl_isField_m x1) (Sum.elim id (fun (s : (List DSpan)) => s) (rng (R := (List DSpan)) (fun k (s : (List DSpan)) => impl_StabIndex_b1 x0 x1 k s) (100 - 0) 0 [])) []) []
theorem cb81 : Cb Try.prog 81 := ⟨f81, _, func81, rfl, by decide⟩
theorem impl_StabIndex_c (w : World) (z0 : Value) (x0 : (List DQuery)) (x1 : Int) (r_0 : rdS tyQuery w w.heap.size z0 x0) (s_0 : (x0.length ≤ 68719476736 ∧ ∀ y ∈ x0, smQuery 68719476736 y)) :
  Calls Try.prog 81 #[z0, .int .i64 x1] w fun e w' => ∃ v : Value, e = .returned (v) ∧ Mem w.heap.size w [iOwn (tSl tySpan 113) [v] (impl_StabIndex_m x0 x1)] w' := by
 have r5 := r_0
 obtain ⟨m1, A2, c3, rfl, q4⟩ := r_0
 have l6 : x0.length ≤ 68719476736 := s_0.1
 refine ce2 (L := [(0, .slice A2 x0.length c3), (1, .int .i64 x1)]) (N := 55) func81 ?_
 refine sr (wa (nt' (sr ?_)))
 refine WM_build0 (E := tySpan) underlying78 type113 (Wd_none rfl) (by decide) (fun p7 => ?_)
 refine wa (nt' (CM_seq (sr (wm ?_))))
 refine wcv (cl_fn cb79 rfl) (fun W hm => impl_AreQueries_c W _ x0 (hm.rdS0 r5)) ?_
 refine wv vnot ?_
 refine wm ?_
 rcases Bool.eq_false_or_eq_true (impl_AreQueries_m x0) with g10 | g10
 ·
  refine wg vmv (nt g10) ?_
  refine WM_callV (cl_fn cb112 rfl) (fun W hm => impl_isField_c W x1) (Wd_some rfl rfl rfl (bw (nt g10) rfl)) (by decide) ?_
  refine wg vnot (nt g10) ?_
  refine wv (vpF (nt g10)) ?_
  refine nt' ?_
  rcases Bool.eq_false_or_eq_true (impl_isField_m x1) with g12 | g12
  ·
   refine CM_condF rfl (nt g12) ?_
   refine CM_skip (QM_then (CM_seq (sr (wa (nt' (CM_block ?_))))))
   let F1 := fun k (s : (List DSpan)) => impl_StabIndex_b1 x0 x1 k s
   let R2 := rng (R := (List DSpan)) F1
   refine CM_loop (σ := Nat × ((List DSpan)) × (Option Addr × Nat)) (fun s => [(0, .slice A2 x0.length c3), (1, .int .i64 x1), (5, .slice s.2.2.1 s.2.1.length s.2.2.2), (6, .int .i64 ((s.1 : Nat) : Int))]) (fun s => [iOwn (tSl tySpan 113) [.slice s.2.2.1 s.2.1.length s.2.2.2] s.2.1]) (fun s => s.1 ≤ 100 ∧ R2 (100 - s.1) s.1 s.2.1 = R2 (100 - 0) 0 [] ∧ s.2.1.length ≤ 0 + s.1) (fun s => 100 - s.1) (0, [], ((some ⟨p7, 0, none⟩), 0)) sl4 (fun W hm => hm) ⟨(by omega), rfl, Nat.le_refl _⟩ ?_
   rintro ⟨k13, d14, ⟨A15, c16⟩⟩ H19
   obtain ⟨hk17, hF18, hi20⟩ : k13 ≤ 100 ∧ R2 (100 - k13) k13 d14 = R2 (100 - 0) 0 [] ∧ d14.length ≤ 0 + k13 := H19
   show CM Try.prog 55 _ _ _ _ [(0, .slice A2 x0.length c3), (1, .int .i64 x1), (5, .slice A15 d14.length c16), (6, .int .i64 ((k13 : Nat) : Int))] [iOwn (tSl tySpan 113) [.slice A15 d14.length c16] d14]
   refine CM_seq (sr (wm ?_))
   refine wv (fun W hm => rv_leq rfl rfl) ?_
   refine nt' ?_
   by_cases hl21 : k13 < 100
   ·have g22 : (decide (((k13 : Nat) : Int) ≤ 99)) = true := decide_eq_true (by omega)
    refine CM_condT rfl g22 ?_
    refine CM_skip (QM_then (CM_seq (CM_block (sr (wm (wm (wm ?_)))))))
    refine wcl (tSl tInt 3) (impl_stab_m x0 x1 ((k13 : Nat) : Int)) (cl_fn cb113 rfl) (fun W hm => impl_stab_c W _ x0 x1 ((k13 : Nat) : Int) (hm.rdS0 r5) s_0) (fun z23 => ?_)
    refine WM_form (n := 0) rfl ?_
    rintro A24 c25 rfl m26
    refine wa (nt' (sr (wm ?_)))
    refine wv (vlen underlying78) ?_
    refine wa (nt' (sr (wm ?_)))
    refine wv (fun W hm => rv_gtr rfl rfl) ?_
    refine wm ?_
    by_cases h28 : 0 < ((d14.length : Nat) : Int)
    ·have g29 : (decide (0 < ((d14.length : Nat) : Int))) = true := decide_eq_true h28
     refine wg vmv g29 ?_
     refine wg vmv g29 ?_
     refine wg (fun W hm => rv_subN (p := d14.length) (q := 1) rfl rfl (by omega) (by omega)) g29 ?_
     refine WM_formO (n := 1) rfl (by omega) ?_
     rintro g30 rfl
     refine wg (fun W hm => rv_index (sz := 3) (k := d14.length - 1) underlying78 type113 rfl rfl rfl (by omega)) g29 ?_
     refine wg (vf underlying113 rfl type37) g29 ?_
     let K3 : List Value := [.slice A24 (impl_stab_m x0 x1 ((k13 : Nat) : Int)).length c25]
     let I7 : It := iOwn (tSl tInt 3) K3 (impl_stab_m x0 x1 ((k13 : Nat) : Int))
     refine WM_focus (E := tySpan) (e := 113) (A := (some ⟨g30, 0, none⟩)) (n := d14.length) (c := c16) (xs := d14) (k := (d14.length - 1)) (js := [I7]) (by omega) (pk [1, 0]) (fun ck31 => ?_)
     refine tySpan_sp ?_
     rintro v32 rfl
     refine WM_form (n := 0) rfl ?_
     rintro A33 c34 rfl m35
     refine wg (fun W hm => rv_load underlying37 rfl rfl (hm.focCells (i := 1) rfl rfl 2 _ rfl)) g29 ?_
     refine wg vmv g29 ?_
     refine WM_callV (cl_fn cb58 rfl) (fun W hm => impl_sameInts_c W _ ((gt d14 (d14.length - 1)).Set) _ (impl_stab_m x0 x1 ((k13 : Nat) : Int)) (hm.rdSI (n := 0) rfl) (hm.rdSI (n := 2) rfl)) (Wd_some rfl rfl rfl (bw g29 rfl)) (by decide) ?_
     refine wv (vpT g29) ?_
     refine nt' ?_
     rcases Bool.eq_false_or_eq_true (impl_sameInts_m ((gt d14 (d14.length - 1)).Set) (impl_stab_m x0 x1 ((k13 : Nat) : Int))) with g38 | g38
     ·
      refine CM_condT rfl g38 ?_
      refine CM_region (wm (wm ?_))
      refine wv (fun W hm => rv_subN (p := d14.length) (q := 1) rfl rfl (by omega) (by omega)) ?_
      refine wm ?_
      refine wv (fun W hm => rv_index (sz := 3) (k := d14.length - 1) underlying78 type113 rfl rfl rfl (by omega)) ?_
      refine wv (vf underlying113 rfl type3) ?_
      let K4 : List Value := [.int .i64 ((gt d14 (d14.length - 1)).From), .int .i64 ((k13 : Nat) : Int), .slice A33 ((gt d14 (d14.length - 1)).Set).length c34]
      let I8 : It := iOwn (tSl tInt 3) [.slice A33 ((gt d14 (d14.length - 1)).Set).length c34] ((gt d14 (d14.length - 1)).Set)
      refine WM_storeFoc (E := tySpan) (e := 113) (g := g30) (n := d14.length) (c := c16) (k := (d14.length - 1)) (s := 3) (o := 1) (xs := d14) (ck := [.int .i64 ((gt d14 (d14.length - 1)).From), .int .i64 ((gt d14 (d14.length - 1)).To), .slice A33 ((gt d14 (d14.length - 1)).Set).length c34]) (ck' := K4) (js := [I8, I7]) (pk [1, 0, 2]) rfl rfl type3 rfl (Nat.le_of_ble_eq_true rfl) rfl rfl rfl rfl (Wd_none rfl) ?_
      refine WM_nil (QM_block_normal (QM_then (CM_region (wm ?_))))
      refine wv (vadN k13 1 (by omega)) ?_
      refine wa (WM_nil ?_)
      refine QM_items (fun W hm => Mem.unfocus (Mem.join (is := [I8]) (js := (iFoc tySpan 113 (some ⟨g30, 0, none⟩) d14.length c16 d14 (d14.length - 1) K4 :: [I7])) (fun _ _ hs => tySpan_join (x := (⟨(gt d14 (d14.length - 1)).From, ((k13 : Nat) : Int), (gt d14 (d14.length - 1)).Set⟩ : DSpan)) hs) (hm.pick [1, 0, 2] (by decide)))) ?_
      have hl39 : d14.length = (d14.set (d14.length - 1) (⟨(gt d14 (d14.length - 1)).From, ((k13 : Nat) : Int), (gt d14 (d14.length - 1)).Set⟩ : DSpan)).length := by first | rfl | exact List.length_set.symm
      generalize ix40h : d14.length - 1 = ix40
      rw [show d14.length = (d14.set ix40 (⟨(gt d14 ix40).From, ((k13 : Nat) : Int), (gt d14 ix40).Set⟩ : DSpan)).length from List.length_set.symm]
      subst ix40h
      have hn41 := rng_next (R := (List DSpan)) (body := F1) (k := k13) (s := d14) (s' := (d14.set (d14.length - 1) (⟨(gt d14 (d14.length - 1)).From, ((k13 : Nat) : Int), (gt d14 (d14.length - 1)).Set⟩ : DSpan))) (show k13 < 100 from by omega) (show impl_StabIndex_b1 x0 x1 k13 d14 = Sum.inr (d14.set (d14.length - 1) (⟨(gt d14 (d14.length - 1)).From, ((k13 : Nat) : Int), (gt d14 (d14.length - 1)).Set⟩ : DSpan)) from by unfold impl_StabIndex_b1; exact cond_t g29 (cond_t g38 (rfl))) hF18
      exact QM_round (k13 + 1, (d14.set (d14.length - 1) (⟨(gt d14 (d14.length - 1)).From, ((k13 : Nat) : Int), (gt d14 (d14.length - 1)).Set⟩ : DSpan)), ((some ⟨g30, 0, none⟩), c16)) sl4 (pk [0]) ⟨(by omega), hn41, (show (d14.set (d14.length - 1) (⟨(gt d14 (d14.length - 1)).From, ((k13 : Nat) : Int), (gt d14 (d14.length - 1)).Set⟩ : DSpan)).length ≤ 0 + (k13 + 1) from by first | omega | (simp only [List.length_append, List.length_cons, List.length_nil] at *; omega))⟩ (rl (by omega))
     ·
      refine CM_condF rfl g38 ?_
      refine CM_region (wm (wm (wm (wm ?_))))
      let K5 : List Value := [.int .i64 ((k13 : Nat) : Int), .int .i64 ((k13 : Nat) : Int), .slice A24 (impl_stab_m x0 x1 ((k13 : Nat) : Int)).length c25]
      refine wv (fun W hm => rv_build (cs := K5) rfl (by kernel_rfl)) ?_
      refine WM_build (cs := K5) underlying78 type113 rfl (by decide) (by decide) rfl (by kernel_rfl) (Wd_none rfl) (by decide) (fun p42 => ?_)
      refine WM_items (fun W hm => Mem.unfocus0 (Mem.join (is := [iOwn (tSl tInt 3) [.slice A33 ((gt d14 (d14.length - 1)).Set).length c34] ((gt d14 (d14.length - 1)).Set)]) (js := (iFoc tySpan 113 (some ⟨g30, 0, none⟩) d14.length c16 d14 (d14.length - 1) [.int .i64 ((gt d14 (d14.length - 1)).From), .int .i64 ((gt d14 (d14.length - 1)).To), .slice A33 ((gt d14 (d14.length - 1)).Set).length c34] :: [iBox p42 113 K5, I7])) (fun _ _ hs => tySpan_join (x := (gt d14 (d14.length - 1))) hs) (hm.pick [1, 2, 0, 3] (by decide)))) ?_
      refine ap1 tySpan 113 (.slice (some ⟨g30, 0, none⟩) d14.length c16) d14 (⟨((k13 : Nat) : Int), ((k13 : Nat) : Int), (impl_stab_m x0 x1 ((k13 : Nat) : Int))⟩ : DSpan) [I7] [] K5 (pk [1, 0, 2]) (fun _ _ hs => Els.single (tySpan_join (x := (⟨((k13 : Nat) : Int), ((k13 : Nat) : Int), (impl_stab_m x0 x1 ((k13 : Nat) : Int))⟩ : DSpan)) hs)) underlying78 type113 (show (d14.length + 1) * 40 ≤ 140737488355328 from by omega) (fun v43 => ?_)
      refine WM_form (n := 0) rfl ?_
      rintro A44 c45 rfl m46
      refine wa (WM_nil (QM_block_normal (QM_then (CM_region (wm ?_)))))
      refine wv (vadN k13 1 (by omega)) ?_
      refine wa (WM_nil ?_)
      have hn48 := rng_next (R := (List DSpan)) (body := F1) (k := k13) (s := d14) (s' := (d14 ++ [(⟨((k13 : Nat) : Int), ((k13 : Nat) : Int), (impl_stab_m x0 x1 ((k13 : Nat) : Int))⟩ : DSpan)])) (show k13 < 100 from by omega) (show impl_StabIndex_b1 x0 x1 k13 d14 = Sum.inr (d14 ++ [(⟨((k13 : Nat) : Int), ((k13 : Nat) : Int), (impl_stab_m x0 x1 ((k13 : Nat) : Int))⟩ : DSpan)]) from by unfold impl_StabIndex_b1; exact cond_t g29 (cond_f g38 (rfl))) hF18
      exact QM_round (k13 + 1, (d14 ++ [(⟨((k13 : Nat) : Int), ((k13 : Nat) : Int), (impl_stab_m x0 x1 ((k13 : Nat) : Int))⟩ : DSpan)]), (A44, c45)) sl4 (fun W hm => hm) ⟨(by omega), hn48, (show (d14 ++ [(⟨((k13 : Nat) : Int), ((k13 : Nat) : Int), (impl_stab_m x0 x1 ((k13 : Nat) : Int))⟩ : DSpan)]).length ≤ 0 + (k13 + 1) from by first | omega | (simp only [List.length_append, List.length_cons, List.length_nil] at *; omega))⟩ (rl (by omega))
    ·have g29 : (decide (0 < ((d14.length : Nat) : Int))) = false := decide_eq_false h28
     refine ws g29 ?_
     refine ws g29 ?_
     refine ws g29 ?_
     refine ws g29 ?_
     refine ws g29 ?_
     refine ws g29 ?_
     refine ws g29 ?_
     refine ws g29 ?_
     refine wv (vpF g29) ?_
     refine nt' ?_
     refine CM_condF rfl rfl ?_
     refine CM_region (wm (wm (wm (wm ?_))))
     let K6 : List Value := [.int .i64 ((k13 : Nat) : Int), .int .i64 ((k13 : Nat) : Int), .slice A24 (impl_stab_m x0 x1 ((k13 : Nat) : Int)).length c25]
     refine wv (fun W hm => rv_build (cs := K6) rfl (by kernel_rfl)) ?_
     refine WM_build (cs := K6) underlying78 type113 rfl (by decide) (by decide) rfl (by kernel_rfl) (Wd_none rfl) (by decide) (fun p49 => ?_)
     refine ap1 tySpan 113 (.slice A15 d14.length c16) d14 (⟨((k13 : Nat) : Int), ((k13 : Nat) : Int), (impl_stab_m x0 x1 ((k13 : Nat) : Int))⟩ : DSpan) [iOwn (tSl tInt 3) [.slice A24 (impl_stab_m x0 x1 ((k13 : Nat) : Int)).length c25] (impl_stab_m x0 x1 ((k13 : Nat) : Int))] [] K6 (pk [0, 2, 1]) (fun _ _ hs => Els.single (tySpan_join (x := (⟨((k13 : Nat) : Int), ((k13 : Nat) : Int), (impl_stab_m x0 x1 ((k13 : Nat) : Int))⟩ : DSpan)) hs)) underlying78 type113 (show (d14.length + 1) * 40 ≤ 140737488355328 from by omega) (fun v50 => ?_)
     refine WM_form (n := 0) rfl ?_
     rintro A51 c52 rfl m53
     refine wa (WM_nil (QM_block_normal (QM_then (CM_region (wm ?_)))))
     refine wv (vadN k13 1 (by omega)) ?_
     refine wa (WM_nil ?_)
     have hn55 := rng_next (R := (List DSpan)) (body := F1) (k := k13) (s := d14) (s' := (d14 ++ [(⟨((k13 : Nat) : Int), ((k13 : Nat) : Int), (impl_stab_m x0 x1 ((k13 : Nat) : Int))⟩ : DSpan)])) (show k13 < 100 from by omega) (show impl_StabIndex_b1 x0 x1 k13 d14 = Sum.inr (d14 ++ [(⟨((k13 : Nat) : Int), ((k13 : Nat) : Int), (impl_stab_m x0 x1 ((k13 : Nat) : Int))⟩ : DSpan)]) from by unfold impl_StabIndex_b1; exact cond_f g29 (rfl)) hF18
     exact QM_round (k13 + 1, (d14 ++ [(⟨((k13 : Nat) : Int), ((k13 : Nat) : Int), (impl_stab_m x0 x1 ((k13 : Nat) : Int))⟩ : DSpan)]), (A51, c52)) sl4 (fun W hm => hm) ⟨(by omega), hn55, (show (d14 ++ [(⟨((k13 : Nat) : Int), ((k13 : Nat) : Int), (impl_stab_m x0 x1 ((k13 : Nat) : Int))⟩ : DSpan)]).length ≤ 0 + (k13 + 1) from by first | omega | (simp only [List.length_append, List.length_cons, List.length_nil] at *; omega))⟩ (rl (by omega))
   ·have g22 : (decide (((k13 : Nat) : Int) ≤ 99)) = false := decide_eq_false (by omega)
    refine CM_condF rfl g22 ?_
    refine CM_exit (QM_then_exit (QM_then_exit ?_))
    have hE56 : R2 (100 - 0) 0 [] = Sum.inr d14 := rng_end hl21 hF18
    refine QM_block_hit (QM_then (sr (wm (wa (nt' (CM_ret ?_))))))
    refine QM_r1 rfl (RR_tmp rfl) (fun W hm => ⟨.slice A15 d14.length c16, ?_, ?_⟩)
    ·first | rw [(show impl_StabIndex_m x0 x1 = d14 from by unfold impl_StabIndex_m; exact cond_t g10 (cond_t g12 (fin_inr hE56 (rfl))))] | rfl
    ·rw [(show impl_StabIndex_m x0 x1 = d14 from by unfold impl_StabIndex_m; exact cond_t g10 (cond_t g12 (fin_inr hE56 (rfl))))]; exact hm
  ·
   refine CM_condT rfl (nf g12) ?_
   refine sr (wm (wa (nt' (CM_ret (QM_then_ret ?_)))))
   refine QM_r1 rfl (RR_tmp rfl) (fun W hm => ⟨.slice (some ⟨p7, 0, none⟩) 0 0, ?_, ?_⟩)
   ·first | rw [(show impl_StabIndex_m x0 x1 = [] from by unfold impl_StabIndex_m; exact cond_t g10 (cond_f g12 (rfl)))] | rfl
   ·rw [(show impl_StabIndex_m x0 x1 = [] from by unfold impl_StabIndex_m; exact cond_t g10 (cond_f g12 (rfl)))]; exact hm
 ·
  refine ws (nf g10) ?_
  refine ws (nf g10) ?_
  refine ws (nf g10) ?_
  refine wv (vpT (nf g10)) ?_
  refine nt' ?_
  refine CM_condT rfl rfl ?_
  refine sr (wm (wa (nt' (CM_ret (QM_then_ret ?_)))))
  refine QM_r1 rfl (RR_tmp rfl) (fun W hm => ⟨.slice (some ⟨p7, 0, none⟩) 0 0, ?_, ?_⟩)
  ·first | rw [(show impl_StabIndex_m x0 x1 = [] from by unfold impl_StabIndex_m; exact cond_f g10 (rfl))] | rfl
  ·rw [(show impl_StabIndex_m x0 x1 = [] from by unfold impl_StabIndex_m; exact cond_f g10 (rfl))]; exact hm

def impl_EqualSpans_b1 (x0 : (List DSpan)) (x1 : (List DSpan)) (k13 : Nat) : Bool ⊕ (Unit) :=
 cond (((gt x0 k13).From) != ((gt x1 k13).From)) (Sum.inl false) (cond (((gt x0 k13).To) != ((gt x1 k13).To)) (Sum.inl false) (cond (impl_sameInts_m ((gt x0 k13).Set) ((gt x1 k13).Set)) (Sum.inr ()) (Sum.inl false)))
def impl_EqualSpans_m (x0 : (List DSpan)) (x1 : (List DSpan)) : Bool :=
 cond (((x0.length : Nat) : Int) != ((x1.length : Nat) : Int)) false (Sum.elim id (fun (s : Unit) => true) (rng (R := Bool) (fun k (_ : Unit) => impl_EqualSpans_b1 x0 x1 k) (x0.length - 0) 0 ()))
theorem cb80 : Cb Try.prog 80 := ⟨f80, _, func80, rfl, by decide⟩
theorem impl_EqualSpans_c (w : World) (z0 : Value) (x0 : (List DSpan)) (z1 : Value) (x1 : (List DSpan)) (r_0 : rdS tySpan w w.heap.size z0 x0) (r_1 : rdS tySpan w w.heap.size z1 x1) :
  Calls Try.prog 80 #[z0, z1] w fun e w' => e = .returned (.bool (impl_EqualSpans_m x0 x1)) ∧ Below w.heap.size w w' := by
 have r5 := r_0
 obtain ⟨m1, A2, c3, rfl, q4⟩ := r_0
 have r10 := r_1
 obtain ⟨m6, A7, c8, rfl, q9⟩ := r_1
 refine ce2 (L := [(0, .slice A2 x0.length c3), (1, .slice A7 x1.length c8)]) (N := 49) func80 ?_
 refine sr (wa (nt' (CM_seq (sr (wm ?_)))))
 refine wv (vlen underlying78) ?_
 refine wm ?_
 refine wv (vlen underlying78) ?_
 refine wv vneq ?_
 refine nt' ?_
 by_cases h11 : ((x0.length : Nat) : Int) = ((x1.length : Nat) : Int)
 ·have g12 : (((x0.length : Nat) : Int) != ((x1.length : Nat) : Int)) = false := by rw [h11]; exact bne_self_eq_false _
  refine CM_condF rfl g12 ?_
  refine CM_skip (QM_then (CM_seq (sr (wm ?_))))
  refine wv (vlen underlying78) ?_
  refine wm (nt' (CM_block ?_))
  let F1 := fun k (_ : Unit) => impl_EqualSpans_b1 x0 x1 k
  let R2 := rng (R := Bool) F1
  refine CM_loop (σ := Nat × (Unit) × (Unit)) (fun s => [(1, .slice A7 x1.length c8), (12, .slice A2 x0.length c3), (13, .int .i64 ((x0.length : Nat) : Int)), (14, .int .i64 ((s.1 : Nat) : Int))]) (fun s => []) (fun s => s.1 ≤ x0.length ∧ R2 (x0.length - s.1) s.1 s.2.1 = R2 (x0.length - 0) 0 ()) (fun s => x0.length - s.1) (0, (), ()) sl4 (fun W hm => hm) ⟨(by omega), rfl⟩ ?_
  rintro ⟨k13, ⟨⟩, ⟨⟩⟩ H16
  obtain ⟨hk14, hF15⟩ : k13 ≤ x0.length ∧ R2 (x0.length - k13) k13 () = R2 (x0.length - 0) 0 () := H16
  show CM Try.prog 49 _ _ _ _ [(1, .slice A7 x1.length c8), (12, .slice A2 x0.length c3), (13, .int .i64 ((x0.length : Nat) : Int)), (14, .int .i64 ((k13 : Nat) : Int))] []
  refine sr ?_
  refine wv vlss ?_
  refine nt' (CM_seq ?_)
  by_cases hl17 : k13 < x0.length
  ·have g18 : (decide (((k13 : Nat) : Int) < ((x0.length : Nat) : Int))) = true := decide_eq_true (by omega)
   refine CM_condT rfl g18 ?_
   refine CM_skip (QM_then (CM_seq (CM_block (sr (wm ?_)))))
   obtain ⟨a19, rfl, hb20, he21⟩ := q4 (by omega)
   refine wv (vix 3 k13 underlying78 type113) ?_
   obtain ⟨_, e25, hc22⟩ := he21 k13 _ (gt_some (show k13 < x0.length from by omega))
   obtain ⟨v23, rfl, r24⟩ := tySpan_rd e25
   have r30 := r24
   obtain ⟨m26, A27, c28, rfl, q29⟩ := r24
   let K3 : List Value := [.int .i64 ((gt x0 k13).From), .int .i64 ((gt x0 k13).To), .slice A27 ((gt x0 k13).Set).length c28]
   refine wv (fun W hm => rv_loadN (cs := K3) underlying113 type113 rfl rfl (hm.elCells (show (a19.add (k13 * 3)).block < w.heap.size from by rw [add_block]; exact hb20.1) hc22)) ?_
   refine WM_alloc type113 rfl (Wd_none rfl) (by decide) (fun p31 => ?_)
   refine wa ?_
   refine sb 0 K3 [] (fun W hm => hm) type113 ?_
   refine nt' (CM_seq ?_)
   refine CM_regionD (by kernel_rfl) (by kernel_rfl) ?_
   refine qv (vf underlying113 rfl type3) ?_
   refine qv (vl 0 0 underlying3) ?_
   refine qm (qm ?_)
   obtain ⟨a32, rfl, hb33, he34⟩ := q9 (by omega)
   refine qv (vix 3 k13 underlying78 type113) ?_
   refine qv (vf underlying113 rfl type3) ?_
   obtain ⟨_, e38, hc35⟩ := he34 k13 _ (gt_some (show k13 < x1.length from by omega))
   obtain ⟨v36, rfl, r37⟩ := tySpan_rd e38
   have r43 := r37
   obtain ⟨m39, A40, c41, rfl, q42⟩ := r37
   refine qv (fun W hm => rv_load underlying3 rfl rfl ((hm.cell0 (show ((a32.add (k13 * 3)).add 0).block < w.heap.size from by rw [add_block, add_block]; exact hb33.1)).trans (hc35 0 _ rfl))) ?_
   refine qv vneq ?_
   refine qm ?_
   by_cases h44 : ((gt x0 k13).From) = ((gt x1 k13).From)
   ·have g45 : (((gt x0 k13).From) != ((gt x1 k13).From)) = false := by rw [h44]; exact bne_self_eq_false _
    refine qg (vf underlying113 rfl type3) g45 ?_
    refine qg (vl 0 1 underlying3) g45 ?_
    refine qg vmv g45 ?_
    refine qg vmv g45 ?_
    refine qg (vix 3 k13 underlying78 type113) g45 ?_
    refine qg (vf underlying113 rfl type3) g45 ?_
    refine qg (fun W hm => rv_load underlying3 rfl rfl ((hm.cell0 (show ((a32.add (k13 * 3)).add 1).block < w.heap.size from by rw [add_block, add_block]; exact hb33.1)).trans (hc35 1 _ rfl))) g45 ?_
    refine qg vneq g45 ?_
    refine qv (vpF g45) ?_
    refine qm ?_
    by_cases h46 : ((gt x0 k13).To) = ((gt x1 k13).To)
    ·have g47 : (((gt x0 k13).To) != ((gt x1 k13).To)) = false := by rw [h46]; exact bne_self_eq_false _
     refine qg (vf underlying113 rfl type37) g47 ?_
     refine qg (vl 0 2 underlying37) g47 ?_
     refine qg vmv g47 ?_
     refine qg vmv g47 ?_
     refine qg (vix 3 k13 underlying78 type113) g47 ?_
     refine qg (vf underlying113 rfl type37) g47 ?_
     refine qg (fun W hm => rv_load underlying37 rfl rfl ((hm.cell0 (show ((a32.add (k13 * 3)).add 2).block < w.heap.size from by rw [add_block, add_block]; exact hb33.1)).trans (hc35 2 _ rfl))) g47 ?_
     refine QR_callV (cl_fn cb58 rfl) (fun W hm => impl_sameInts_c W _ ((gt x0 k13).Set) _ ((gt x1 k13).Set) (hm.rdS0 r30) (hm.rdS0 r43)) (Wd_some rfl rfl rfl (bw g47 rfl)) (by decide) ?_
     refine qg vnot g47 ?_
     refine qv (vpF g47) ?_
     refine nq' ?_
     rcases Bool.eq_false_or_eq_true (impl_sameInts_m ((gt x0 k13).Set) ((gt x1 k13).Set)) with g49 | g49
     ·
      refine CM_condF rfl (nt g49) ?_
      refine CM_skip (QM_block_normal (QM_then (CM_region ?_)))
      refine wv (vadN k13 1 (by omega)) ?_
      refine wm (WM_nil ?_)
      have hn50 := rng_next (R := Bool) (body := F1) (k := k13) (s := ()) (s' := ()) (show k13 < x0.length from by omega) (show impl_EqualSpans_b1 x0 x1 k13 = Sum.inr () from by unfold impl_EqualSpans_b1; exact cond_f g45 (cond_f g47 (cond_t g49 (rfl)))) hF15
      exact QM_round (k13 + 1, (), ()) sl4 (pk []) ⟨(by omega), hn50⟩ (rl (by omega))
     ·
      refine CM_condT rfl (nf g49) ?_
      refine sr (wa (nt' (CM_ret (QM_block_ret (QM_then_ret (QM_then_ret (QM_block_ret (QM_then_ret ?_))))))))
      exact rtb (h := by unfold impl_EqualSpans_m; exact cond_f g12 (fin_inl (rng_ret (body := F1) (k := k13) (s := ()) (show k13 < x0.length from by omega) (show impl_EqualSpans_b1 x0 x1 k13 = Sum.inl false from by unfold impl_EqualSpans_b1; exact cond_f g45 (cond_f g47 (cond_f g49 (rfl)))) hF15) rfl))
    ·have g47 : (((gt x0 k13).To) != ((gt x1 k13).To)) = true := bne_iff_ne.2 h46
     refine qs g47 ?_
     refine qs g47 ?_
     refine qs g47 ?_
     refine qs g47 ?_
     refine qs g47 ?_
     refine qs g47 ?_
     refine qs g47 ?_
     refine qs g47 ?_
     refine qs g47 ?_
     refine qv (vpT g47) ?_
     refine nq' ?_
     refine CM_condT rfl rfl ?_
     refine sr (wa (nt' (CM_ret (QM_block_ret (QM_then_ret (QM_then_ret (QM_block_ret (QM_then_ret ?_))))))))
     exact rtb (h := by unfold impl_EqualSpans_m; exact cond_f g12 (fin_inl (rng_ret (body := F1) (k := k13) (s := ()) (show k13 < x0.length from by omega) (show impl_EqualSpans_b1 x0 x1 k13 = Sum.inl false from by unfold impl_EqualSpans_b1; exact cond_f g45 (cond_t g47 (rfl))) hF15) rfl))
   ·have g45 : (((gt x0 k13).From) != ((gt x1 k13).From)) = true := bne_iff_ne.2 h44
    refine qs g45 ?_
    refine qs g45 ?_
    refine qs g45 ?_
    refine qs g45 ?_
    refine qs g45 ?_
    refine qs g45 ?_
    refine qs g45 ?_
    refine qs g45 ?_
    refine qv (vpT g45) ?_
    refine qm ?_
    refine QR_skip (Wd_some rfl rfl rfl rfl) rfl (by decide) ?_
    refine QR_skip (Wd_some rfl rfl rfl rfl) rfl (by decide) ?_
    refine QR_skip (Wd_some rfl rfl rfl rfl) rfl (by decide) ?_
    refine QR_skip (Wd_some rfl rfl rfl rfl) rfl (by decide) ?_
    refine QR_skip (Wd_some rfl rfl rfl rfl) rfl (by decide) ?_
    refine QR_skip (Wd_some rfl rfl rfl rfl) rfl (by decide) ?_
    refine QR_skip (Wd_some rfl rfl rfl rfl) rfl (by decide) ?_
    refine QR_skip (Wd_some rfl rfl rfl rfl) rfl (by decide) ?_
    refine QR_skip (Wd_some rfl rfl rfl rfl) rfl (by decide) ?_
    refine qv (vpT rfl) ?_
    refine nq' ?_
    refine CM_condT rfl rfl ?_
    refine sr (wa (nt' (CM_ret (QM_block_ret (QM_then_ret (QM_then_ret (QM_block_ret (QM_then_ret ?_))))))))
    exact rtb (h := by unfold impl_EqualSpans_m; exact cond_f g12 (fin_inl (rng_ret (body := F1) (k := k13) (s := ()) (show k13 < x0.length from by omega) (show impl_EqualSpans_b1 x0 x1 k13 = Sum.inl false from by unfold impl_EqualSpans_b1; exact cond_t g45 (rfl)) hF15) rfl))
  ·have g18 : (decide (((k13 : Nat) : Int) < ((x0.length : Nat) : Int))) = false := decide_eq_false (by omega)
   refine CM_condF rfl g18 ?_
   refine CM_exit (QM_then_exit (QM_then_exit ?_))
   have hE51 : R2 (x0.length - 0) 0 () = Sum.inr () := rng_end hl17 hF15
   refine QM_block_hit (QM_then (sr (wa (nt' (CM_ret ?_)))))
   exact rtb (h := by unfold impl_EqualSpans_m; exact cond_f g12 (fin_inr hE51 (rfl)))
 ·have g12 : (((x0.length : Nat) : Int) != ((x1.length : Nat) : Int)) = true := bne_iff_ne.2 h11
  refine CM_condT rfl g12 ?_
  refine sr (wa (nt' (CM_ret (QM_then_ret ?_))))
  exact rtb (h := by unfold impl_EqualSpans_m; exact cond_t g12 (rfl))

def impl_IsIndex_b1 (x0 : DIndex) (k22 : Nat) : Bool ⊕ (Unit) :=
 cond (impl_EqualSpans_m (gt x0.Fields k22) (impl_StabIndex_m x0.Queries ((k22 : Nat) : Int))) (Sum.inr ()) (Sum.inl false)
def impl_IsIndex_m (x0 : DIndex) : Bool :=
 cond (impl_AreQueries_m x0.Queries) (cond (((x0.Fields.length : Nat) : Int) != 3) false (Sum.elim id (fun (s : Unit) => true) (rng (R := Bool) (fun k (_ : Unit) => impl_IsIndex_b1 x0 k) (x0.Fields.length - 0) 0 ()))) false
theorem cb37 : Cb Try.prog 37 := ⟨f37, _, func37, rfl, by decide⟩
theorem impl_IsIndex_c (w : World) (z0 : List Value) (x0 : DIndex) (r_0 : tyIndex.rd w w.heap.size z0 x0) (s_0 : smIndex 68719476736 x0) :
  Calls Try.prog 37 #[.agg z0.toArray] w fun e w' => e = .returned (.bool (impl_IsIndex_m x0)) ∧ Below w.heap.size w w' := by
 obtain ⟨v1, v3, rfl, r2, r4⟩ := tyIndex_rd r_0
 have r9 := r2
 obtain ⟨m5, A6, c7, rfl, q8⟩ := r2
 have r14 := r4
 obtain ⟨m10, A11, c12, rfl, q13⟩ := r4
 have l15 : x0.Queries.length ≤ 68719476736 := s_0.1.1
 have l16 : x0.Fields.length ≤ 68719476736 := s_0.2.1
 refine ce1 (L := [(0, .agg #[.slice A6 x0.Queries.length c7, .slice A11 x0.Fields.length c12])]) (N := 31) func37 ?_
 refine sr ?_
 refine WM_box rfl (Wd_none rfl) (by decide) (fun p17 => ?_)
 refine wa (nt' (CM_seq (sr ?_)))
 refine wv (vf underlying27 rfl type24) ?_
 refine wv (vl 0 0 underlying24) ?_
 refine wcv (cl_fn cb79 rfl) (fun W hm => impl_AreQueries_c W _ x0.Queries (hm.rdS0 r9)) ?_
 refine wv vnot ?_
 refine wm ?_
 rcases Bool.eq_false_or_eq_true (impl_AreQueries_m x0.Queries) with g19 | g19
 ·
  refine wg (vf underlying27 rfl type25) (nt g19) ?_
  refine wg (vl 0 1 underlying25) (nt g19) ?_
  refine wg (vlen underlying25) (nt g19) ?_
  refine wg vneq (nt g19) ?_
  refine wv (vpF (nt g19)) ?_
  refine nt' ?_
  by_cases h20 : ((x0.Fields.length : Nat) : Int) = 3
  ·have g21 : (((x0.Fields.length : Nat) : Int) != 3) = false := by rw [h20]; exact bne_self_eq_false _
   refine CM_condF rfl g21 ?_
   refine CM_skip (QM_then (CM_seq (sr ?_)))
   refine wv (vf underlying27 rfl type25) ?_
   refine wv (vl 0 1 underlying25) ?_
   refine wv (vlen underlying25) ?_
   refine wm (nt' (CM_block ?_))
   let F1 := fun k (_ : Unit) => impl_IsIndex_b1 x0 k
   let R2 := rng (R := Bool) F1
   let K3 : List Value := [.slice A6 x0.Queries.length c7, .slice A11 x0.Fields.length c12]
   refine CM_loop (σ := Nat × (Unit) × (Unit)) (fun s => [(1, .pointer (some (⟨p17, 0, none⟩ : Addr))), (16, .slice A11 x0.Fields.length c12), (17, .int .i64 ((x0.Fields.length : Nat) : Int)), (18, .int .i64 ((s.1 : Nat) : Int))]) (fun s => [iBox p17 27 K3]) (fun s => s.1 ≤ x0.Fields.length ∧ R2 (x0.Fields.length - s.1) s.1 s.2.1 = R2 (x0.Fields.length - 0) 0 ()) (fun s => x0.Fields.length - s.1) (0, (), ()) sl4 (fun W hm => hm) ⟨(by omega), rfl⟩ ?_
   rintro ⟨k22, ⟨⟩, ⟨⟩⟩ H25
   obtain ⟨hk23, hF24⟩ : k22 ≤ x0.Fields.length ∧ R2 (x0.Fields.length - k22) k22 () = R2 (x0.Fields.length - 0) 0 () := H25
   show CM Try.prog 31 _ _ _ _ [(1, .pointer (some (⟨p17, 0, none⟩ : Addr))), (16, .slice A11 x0.Fields.length c12), (17, .int .i64 ((x0.Fields.length : Nat) : Int)), (18, .int .i64 ((k22 : Nat) : Int))] [iBox p17 27 K3]
   refine sr ?_
   refine wv vlss ?_
   refine nt' (CM_seq ?_)
   by_cases hl26 : k22 < x0.Fields.length
   ·have g27 : (decide (((k22 : Nat) : Int) < ((x0.Fields.length : Nat) : Int))) = true := decide_eq_true (by omega)
    refine CM_condT rfl g27 ?_
    refine CM_skip (QM_then (CM_seq (CM_block (sr (wm ?_)))))
    obtain ⟨a28, rfl, hb29, he30⟩ := q13 (by omega)
    refine wv (vix 1 k22 underlying25 type78) ?_
    obtain ⟨_, e32, hc31⟩ := he30 k22 _ (gt_some (show k22 < x0.Fields.length from by omega))
    have l33 : (gt x0.Fields k22).length ≤ 68719476736 := (s_0.2.2 _ (gt_mem (show k22 < x0.Fields.length from by omega))).1
    obtain ⟨v34, rfl, r35⟩ := e32
    have r40 := r35
    obtain ⟨m36, A37, c38, rfl, q39⟩ := r35
    refine wv (fun W hm => rv_load underlying78 rfl rfl ((hm.cell0 (show (a28.add (k22 * 1)).block < w.heap.size from by rw [add_block]; exact hb29.1)).trans (hc31 0 _ rfl))) ?_
    refine wa (wa (nt' (sr (wm ?_))))
    refine wv (vf underlying27 rfl type24) ?_
    refine wv (vl 0 0 underlying24) ?_
    refine wm ?_
    refine wcl (tSl tySpan 113) (impl_StabIndex_m x0.Queries ((k22 : Nat) : Int)) (cl_fn cb81 rfl) (fun W hm => impl_StabIndex_c W _ x0.Queries ((k22 : Nat) : Int) (hm.rdS0 r9) s_0.1) (fun z41 => ?_)
    refine WM_form (n := 0) rfl ?_
    rintro A42 c43 rfl m44
    refine wcv (cl_fn cb80 rfl) (fun W hm => impl_EqualSpans_c W _ (gt x0.Fields k22) _ (impl_StabIndex_m x0.Queries ((k22 : Nat) : Int)) (hm.rdS0 r40) (hm.rdSI (n := 0) rfl)) ?_
    refine wv vnot ?_
    refine nt' ?_
    rcases Bool.eq_false_or_eq_true (impl_EqualSpans_m (gt x0.Fields k22) (impl_StabIndex_m x0.Queries ((k22 : Nat) : Int))) with g47 | g47
    ·
     refine CM_condF rfl (nt g47) ?_
     refine CM_skip (QM_block_normal (QM_then (CM_region ?_)))
     refine wv (vadN k22 1 (by omega)) ?_
     refine wm (WM_nil ?_)
     have hn48 := rng_next (R := Bool) (body := F1) (k := k22) (s := ()) (s' := ()) (show k22 < x0.Fields.length from by omega) (show impl_IsIndex_b1 x0 k22 = Sum.inr () from by unfold impl_IsIndex_b1; exact cond_t g47 (rfl)) hF24
     exact QM_round (k22 + 1, (), ()) sl4 (pk [1]) ⟨(by omega), hn48⟩ (rl (by omega))
    ·
     refine CM_condT rfl (nf g47) ?_
     refine sr (wa (nt' (CM_ret (QM_block_ret (QM_then_ret (QM_then_ret (QM_block_ret (QM_then_ret ?_))))))))
     exact rtb (h := by unfold impl_IsIndex_m; exact cond_t g19 (cond_f g21 (fin_inl (rng_ret (body := F1) (k := k22) (s := ()) (show k22 < x0.Fields.length from by omega) (show impl_IsIndex_b1 x0 k22 = Sum.inl false from by unfold impl_IsIndex_b1; exact cond_f g47 (rfl)) hF24) rfl)))
   ·have g27 : (decide (((k22 : Nat) : Int) < ((x0.Fields.length : Nat) : Int))) = false := decide_eq_false (by omega)
    refine CM_condF rfl g27 ?_
    refine CM_exit (QM_then_exit (QM_then_exit ?_))
    have hE49 : R2 (x0.Fields.length - 0) 0 () = Sum.inr () := rng_end hl26 hF24
    refine QM_block_hit (QM_then (sr (wa (nt' (CM_ret ?_)))))
    exact rtb (h := by unfold impl_IsIndex_m; exact cond_t g19 (cond_f g21 (fin_inr hE49 (rfl))))
  ·have g21 : (((x0.Fields.length : Nat) : Int) != 3) = true := bne_iff_ne.2 h20
   refine CM_condT rfl g21 ?_
   refine sr (wa (nt' (CM_ret (QM_then_ret ?_))))
   exact rtb (h := by unfold impl_IsIndex_m; exact cond_t g19 (cond_t g21 (rfl)))
 ·
  refine ws (nf g19) ?_
  refine ws (nf g19) ?_
  refine ws (nf g19) ?_
  refine ws (nf g19) ?_
  refine wv (vpT (nf g19)) ?_
  refine nt' ?_
  refine CM_condT rfl rfl ?_
  refine sr (wa (nt' (CM_ret (QM_then_ret ?_))))
  exact rtb (h := by unfold impl_IsIndex_m; exact cond_f g19 (rfl))

def impl_IsRow_b1 (x0 : DRow) (k9 : Nat) : Bool ⊕ (Unit) :=
 cond (impl_within_m (gt x0.Values k9) 0 99) (Sum.inr ()) (Sum.inl false)
def impl_IsRow_m (x0 : DRow) : Bool :=
 Sum.elim id (fun (s : Unit) => cond (impl_within_m x0.Id 0 999) (((x0.Values.length : Nat) : Int) == 3) false) (rng (R := Bool) (fun k (_ : Unit) => impl_IsRow_b1 x0 k) (x0.Values.length - 0) 0 ())
theorem cb114 : Cb Try.prog 114 := ⟨f114, _, func114, rfl, by decide⟩
theorem impl_IsRow_c (w : World) (z0 : List Value) (x0 : DRow) (r_0 : tyRow.rd w w.heap.size z0 x0) :
  Calls Try.prog 114 #[.agg z0.toArray] w fun e w' => e = .returned (.bool (impl_IsRow_m x0)) ∧ Below w.heap.size w w' := by
 obtain ⟨v1, rfl, r2⟩ := tyRow_rd r_0
 have r7 := r2
 obtain ⟨m3, A4, c5, rfl, q6⟩ := r2
 refine ce1 (L := [(0, .agg #[.int .i64 x0.Id, .slice A4 x0.Values.length c5])]) (N := 25) func114 ?_
 refine sr ?_
 refine WM_box rfl (Wd_none rfl) (by decide) (fun p8 => ?_)
 refine wa (nt' (CM_seq (sr ?_)))
 refine wv (vf underlying50 rfl type37) ?_
 refine wv (vl 0 1 underlying37) ?_
 refine wv (vlen underlying37) ?_
 refine wm (nt' (CM_block ?_))
 let F1 := fun k (_ : Unit) => impl_IsRow_b1 x0 k
 let R2 := rng (R := Bool) F1
 let I3 : It := iBox p8 50 [.int .i64 x0.Id, .slice A4 x0.Values.length c5]
 refine CM_loop (σ := Nat × (Unit) × (Unit)) (fun s => [(1, .pointer (some (⟨p8, 0, none⟩ : Addr))), (6, .slice A4 x0.Values.length c5), (7, .int .i64 ((x0.Values.length : Nat) : Int)), (8, .int .i64 ((s.1 : Nat) : Int))]) (fun s => [I3]) (fun s => s.1 ≤ x0.Values.length ∧ R2 (x0.Values.length - s.1) s.1 s.2.1 = R2 (x0.Values.length - 0) 0 ()) (fun s => x0.Values.length - s.1) (0, (), ()) sl4 (fun W hm => hm) ⟨(by omega), rfl⟩ ?_
 rintro ⟨k9, ⟨⟩, ⟨⟩⟩ H12
 obtain ⟨hk10, hF11⟩ : k9 ≤ x0.Values.length ∧ R2 (x0.Values.length - k9) k9 () = R2 (x0.Values.length - 0) 0 () := H12
 show CM Try.prog 25 _ _ _ _ [(1, .pointer (some (⟨p8, 0, none⟩ : Addr))), (6, .slice A4 x0.Values.length c5), (7, .int .i64 ((x0.Values.length : Nat) : Int)), (8, .int .i64 ((k9 : Nat) : Int))] [I3]
 refine sr ?_
 refine wv vlss ?_
 refine nt' (CM_seq ?_)
 by_cases hl13 : k9 < x0.Values.length
 ·have g14 : (decide (((k9 : Nat) : Int) < ((x0.Values.length : Nat) : Int))) = true := decide_eq_true (by omega)
  refine CM_condT rfl g14 ?_
  refine CM_skip (QM_then (CM_seq (CM_block (sr ?_))))
  obtain ⟨a15, rfl, hb16, he17⟩ := q6 (by omega)
  refine wv (vix 1 k9 underlying37 type3) ?_
  refine wv (fun W hm => rv_load underlying3 rfl rfl ((hm.cell0 (show (a15.add (k9 * 1)).block < w.heap.size from by rw [add_block]; exact hb16.1)).trans (rdS_int he17 k9 (by omega)))) ?_
  refine wa (nt' (sr (wm ?_)))
  refine wcv (cl_fn cb129 rfl) (fun W hm => impl_within_c W (gt x0.Values k9) 0 99) ?_
  refine wv vnot ?_
  refine nt' ?_
  rcases Bool.eq_false_or_eq_true (impl_within_m (gt x0.Values k9) 0 99) with g19 | g19
  ·
   have hw := impl_within_fact g19
   refine CM_condF rfl (nt g19) ?_
   refine CM_skip (QM_block_normal (QM_then (CM_region ?_)))
   refine wv (vadN k9 1 (by omega)) ?_
   refine wm (WM_nil ?_)
   have hn20 := rng_next (R := Bool) (body := F1) (k := k9) (s := ()) (s' := ()) (show k9 < x0.Values.length from by omega) (show impl_IsRow_b1 x0 k9 = Sum.inr () from by unfold impl_IsRow_b1; exact cond_t g19 (rfl)) hF11
   exact QM_round (k9 + 1, (), ()) sl4 (fun W hm => hm) ⟨(by omega), hn20⟩ (rl (by omega))
  ·
   refine CM_condT rfl (nf g19) ?_
   refine sr (wa (nt' (CM_ret (QM_block_ret (QM_then_ret (QM_then_ret (QM_block_ret (QM_then_ret ?_))))))))
   exact rtb (h := by unfold impl_IsRow_m; exact fin_inl (rng_ret (body := F1) (k := k9) (s := ()) (show k9 < x0.Values.length from by omega) (show impl_IsRow_b1 x0 k9 = Sum.inl false from by unfold impl_IsRow_b1; exact cond_f g19 (rfl)) hF11) rfl)
 ·have g14 : (decide (((k9 : Nat) : Int) < ((x0.Values.length : Nat) : Int))) = false := decide_eq_false (by omega)
  refine CM_condF rfl g14 ?_
  refine CM_exit (QM_then_exit (QM_then_exit ?_))
  have hE21 : R2 (x0.Values.length - 0) 0 () = Sum.inr () := rng_end hl13 hF11
  refine QM_block_hit (QM_then (sr ?_))
  refine wv (vf underlying50 rfl type3) ?_
  refine wv (vl 0 0 underlying3) ?_
  refine wcv (cl_fn cb129 rfl) (fun W hm => impl_within_c W x0.Id 0 999) ?_
  refine wm ?_
  rcases Bool.eq_false_or_eq_true (impl_within_m x0.Id 0 999) with g23 | g23
  ·
   have hw := impl_within_fact g23
   refine wg (vf underlying50 rfl type37) g23 ?_
   refine wg (vl 0 1 underlying37) g23 ?_
   refine wg (vlen underlying37) g23 ?_
   refine wg (fun W hm => rv_eql rfl rfl) g23 ?_
   refine wv (vpT g23) ?_
   refine wa (nt' (CM_ret ?_))
   exact rtb (h := by unfold impl_IsRow_m; exact fin_inr hE21 (cond_t g23 (rfl)))
  ·
   refine ws g23 ?_
   refine ws g23 ?_
   refine ws g23 ?_
   refine ws g23 ?_
   refine wv (vpF g23) ?_
   refine wa (nt' (CM_ret ?_))
   exact rtb (h := by unfold impl_IsRow_m; exact fin_inr hE21 (cond_f g23 (rfl)))

def impl_hasInt_b1 (x0 : (List Int)) (x1 : Int) (k6 : Nat) : Bool ⊕ (Unit) :=
 cond ((gt x0 k6) == x1) (Sum.inl true) (Sum.inr ())
def impl_hasInt_m (x0 : (List Int)) (x1 : Int) : Bool :=
 Sum.elim id (fun (s : Unit) => false) (rng (R := Bool) (fun k (_ : Unit) => impl_hasInt_b1 x0 x1 k) (x0.length - 0) 0 ())
theorem cb87 : Cb Try.prog 87 := ⟨f87, _, func87, rfl, by decide⟩
theorem impl_hasInt_c (w : World) (z0 : Value) (x0 : (List Int)) (x1 : Int) (r_0 : rdS tInt w w.heap.size z0 x0) :
  Calls Try.prog 87 #[z0, .int .i64 x1] w fun e w' => e = .returned (.bool (impl_hasInt_m x0 x1)) ∧ Below w.heap.size w w' := by
 have r5 := r_0
 obtain ⟨m1, A2, c3, rfl, q4⟩ := r_0
 refine ce2 (L := [(0, .slice A2 x0.length c3), (1, .int .i64 x1)]) (N := 17) func87 ?_
 refine sr (wa (nt' (CM_seq (sr (wm ?_)))))
 refine wv (vlen underlying37) ?_
 refine wm (nt' (CM_block ?_))
 let F1 := fun k (_ : Unit) => impl_hasInt_b1 x0 x1 k
 let R2 := rng (R := Bool) F1
 refine CM_loop (σ := Nat × (Unit) × (Unit)) (fun s => [(1, .int .i64 x1), (7, .slice A2 x0.length c3), (8, .int .i64 ((x0.length : Nat) : Int)), (9, .int .i64 ((s.1 : Nat) : Int))]) (fun s => []) (fun s => s.1 ≤ x0.length ∧ R2 (x0.length - s.1) s.1 s.2.1 = R2 (x0.length - 0) 0 ()) (fun s => x0.length - s.1) (0, (), ()) sl4 (fun W hm => hm) ⟨(by omega), rfl⟩ ?_
 rintro ⟨k6, ⟨⟩, ⟨⟩⟩ H9
 obtain ⟨hk7, hF8⟩ : k6 ≤ x0.length ∧ R2 (x0.length - k6) k6 () = R2 (x0.length - 0) 0 () := H9
 show CM Try.prog 17 _ _ _ _ [(1, .int .i64 x1), (7, .slice A2 x0.length c3), (8, .int .i64 ((x0.length : Nat) : Int)), (9, .int .i64 ((k6 : Nat) : Int))] []
 refine sr ?_
 refine wv vlss ?_
 refine nt' (CM_seq ?_)
 by_cases hl10 : k6 < x0.length
 ·have g11 : (decide (((k6 : Nat) : Int) < ((x0.length : Nat) : Int))) = true := decide_eq_true (by omega)
  refine CM_condT rfl g11 ?_
  refine CM_skip (QM_then (CM_seq (CM_block (sr ?_))))
  obtain ⟨a12, rfl, hb13, he14⟩ := q4 (by omega)
  refine wv (vix 1 k6 underlying37 type3) ?_
  refine wv (fun W hm => rv_load underlying3 rfl rfl ((hm.cell0 (show (a12.add (k6 * 1)).block < w.heap.size from by rw [add_block]; exact hb13.1)).trans (rdS_int he14 k6 (by omega)))) ?_
  refine wa (nt' (sr (wm (wm ?_))))
  refine wv (fun W hm => rv_eql rfl rfl) ?_
  refine nt' ?_
  by_cases h15 : (gt x0 k6) = x1
  ·have g16 : ((gt x0 k6) == x1) = true := beq_iff_eq.2 h15
   refine CM_condT rfl g16 ?_
   refine sr (wa (nt' (CM_ret (QM_block_ret (QM_then_ret (QM_then_ret (QM_block_ret (QM_then_ret ?_))))))))
   exact rtb (h := by unfold impl_hasInt_m; exact fin_inl (rng_ret (body := F1) (k := k6) (s := ()) (show k6 < x0.length from by omega) (show impl_hasInt_b1 x0 x1 k6 = Sum.inl true from by unfold impl_hasInt_b1; exact cond_t g16 (rfl)) hF8) rfl)
  ·have g16 : ((gt x0 k6) == x1) = false := beq_eq_false_iff_ne.2 h15
   refine CM_condF rfl g16 ?_
   refine CM_skip (QM_block_normal (QM_then (CM_region ?_)))
   refine wv (vadN k6 1 (by omega)) ?_
   refine wm (WM_nil ?_)
   have hn17 := rng_next (R := Bool) (body := F1) (k := k6) (s := ()) (s' := ()) (show k6 < x0.length from by omega) (show impl_hasInt_b1 x0 x1 k6 = Sum.inr () from by unfold impl_hasInt_b1; exact cond_f g16 (rfl)) hF8
   exact QM_round (k6 + 1, (), ()) sl4 (fun W hm => hm) ⟨(by omega), hn17⟩ (rl (by omega))
 ·have g11 : (decide (((k6 : Nat) : Int) < ((x0.length : Nat) : Int))) = false := decide_eq_false (by omega)
  refine CM_condF rfl g11 ?_
  refine CM_exit (QM_then_exit (QM_then_exit ?_))
  have hE18 : R2 (x0.length - 0) 0 () = Sum.inr () := rng_end hl10 hF8
  refine QM_block_hit (QM_then (sr (wa (nt' (CM_ret ?_)))))
  exact rtb (h := by unfold impl_hasInt_m; exact fin_inr hE18 (rfl))

def impl_isOrder_b1 (x0 : (List Int)) (k6 : Nat) : Bool ⊕ (Unit) :=
 cond (impl_hasInt_m x0 ((k6 : Nat) : Int)) (Sum.inr ()) (Sum.inl false)
def impl_isOrder_m (x0 : (List Int)) : Bool :=
 Sum.elim id (fun (s : Unit) => (((x0.length : Nat) : Int) == 3)) (rng (R := Bool) (fun k (_ : Unit) => impl_isOrder_b1 x0 k) (3 - 0) 0 ())
theorem cb115 : Cb Try.prog 115 := ⟨f115, _, func115, rfl, by decide⟩
theorem impl_isOrder_c (w : World) (z0 : Value) (x0 : (List Int)) (r_0 : rdS tInt w w.heap.size z0 x0) :
  Calls Try.prog 115 #[z0] w fun e w' => e = .returned (.bool (impl_isOrder_m x0)) ∧ Below w.heap.size w w' := by
 have r5 := r_0
 obtain ⟨m1, A2, c3, rfl, q4⟩ := r_0
 refine ce1 (L := [(0, .slice A2 x0.length c3)]) (N := 15) func115 ?_
 refine sr (wa (nt' (CM_seq (sr (wa (nt' (CM_block ?_)))))))
 let F1 := fun k (_ : Unit) => impl_isOrder_b1 x0 k
 let R2 := rng (R := Bool) F1
 refine CM_loop (σ := Nat × (Unit) × (Unit)) (fun s => [(0, .slice A2 x0.length c3), (3, .int .i64 ((s.1 : Nat) : Int))]) (fun s => []) (fun s => s.1 ≤ 3 ∧ R2 (3 - s.1) s.1 s.2.1 = R2 (3 - 0) 0 ()) (fun s => 3 - s.1) (0, (), ()) sl2 (fun W hm => hm) ⟨(by omega), rfl⟩ ?_
 rintro ⟨k6, ⟨⟩, ⟨⟩⟩ H9
 obtain ⟨hk7, hF8⟩ : k6 ≤ 3 ∧ R2 (3 - k6) k6 () = R2 (3 - 0) 0 () := H9
 show CM Try.prog 15 _ _ _ _ [(0, .slice A2 x0.length c3), (3, .int .i64 ((k6 : Nat) : Int))] []
 refine CM_seq (sr (wm ?_))
 refine wv vlss ?_
 refine nt' ?_
 by_cases hl10 : k6 < 3
 ·have g11 : (decide (((k6 : Nat) : Int) < 3)) = true := decide_eq_true (by omega)
  refine CM_condT rfl g11 ?_
  refine CM_skip (QM_then (CM_seq (CM_block (sr (wm (wm ?_))))))
  refine wcv (cl_fn cb87 rfl) (fun W hm => impl_hasInt_c W _ x0 ((k6 : Nat) : Int) (hm.rdS0 r5)) ?_
  refine wv vnot ?_
  refine nt' ?_
  rcases Bool.eq_false_or_eq_true (impl_hasInt_m x0 ((k6 : Nat) : Int)) with g13 | g13
  ·
   refine CM_condF rfl (nt g13) ?_
   refine CM_skip (QM_block_normal (QM_then (CM_region (wm ?_))))
   refine wv (vadN k6 1 (by omega)) ?_
   refine wa (WM_nil ?_)
   have hn14 := rng_next (R := Bool) (body := F1) (k := k6) (s := ()) (s' := ()) (show k6 < 3 from by omega) (show impl_isOrder_b1 x0 k6 = Sum.inr () from by unfold impl_isOrder_b1; exact cond_t g13 (rfl)) hF8
   exact QM_round (k6 + 1, (), ()) sl2 (fun W hm => hm) ⟨(by omega), hn14⟩ (rl (by omega))
  ·
   refine CM_condT rfl (nf g13) ?_
   refine sr (wa (nt' (CM_ret (QM_block_ret (QM_then_ret (QM_then_ret (QM_block_ret (QM_then_ret ?_))))))))
   exact rtb (h := by unfold impl_isOrder_m; exact fin_inl (rng_ret (body := F1) (k := k6) (s := ()) (show k6 < 3 from by omega) (show impl_isOrder_b1 x0 k6 = Sum.inl false from by unfold impl_isOrder_b1; exact cond_f g13 (rfl)) hF8) rfl)
 ·have g11 : (decide (((k6 : Nat) : Int) < 3)) = false := decide_eq_false (by omega)
  refine CM_condF rfl g11 ?_
  refine CM_exit (QM_then_exit (QM_then_exit ?_))
  have hE15 : R2 (3 - 0) 0 () = Sum.inr () := rng_end hl10 hF8
  refine QM_block_hit (QM_then (sr (wm ?_)))
  refine wv (vlen underlying37) ?_
  refine wv (fun W hm => rv_eql rfl rfl) ?_
  refine wa (nt' (CM_ret ?_))
  exact rtb (h := by unfold impl_isOrder_m; exact fin_inr hE15 (rfl))

def impl_copyInts_m (x0 : (List Int)) : (List Int) :=
 x0
theorem cb83 : Cb Try.prog 83 := ⟨f83, _, func83, rfl, by decide⟩
theorem impl_copyInts_c (w : World) (z0 : Value) (x0 : (List Int)) (r_0 : rdS tInt w w.heap.size z0 x0) (s_0 : x0.length ≤ 68719476736) :
  Calls Try.prog 83 #[z0] w fun e w' => ∃ v : Value, e = .returned (v) ∧ Mem w.heap.size w [iOwn (tSl tInt 3) [v] (impl_copyInts_m x0)] w' := by
 have r5 := r_0
 obtain ⟨m1, A2, c3, rfl, q4⟩ := r_0
 have l6 : x0.length ≤ 68719476736 := s_0
 refine ce1 (L := [(0, .slice A2 x0.length c3)]) (N := 6) func83 ?_
 refine sr (wa (nt' (sr ?_)))
 refine WM_build0 (E := tInt) underlying37 type3 (Wd_none rfl) (by decide) (fun p7 => ?_)
 refine wm ?_
 refine apR tInt tInt 3 (.slice (some ⟨p7, 0, none⟩) 0 0) [] x0 [] (fun W hm => hm) (fun W hm => src_flat flat_int (hm.rdS0 r5)) underlying37 type3 (show (0 + x0.length) * 8 ≤ 140737488355328 from by omega) (fun v9 => ?_)
 refine WM_form (n := 0) rfl ?_
 rintro A10 c11 rfl m12
 refine wa (nt' (CM_ret ?_))
 refine QM_r1 rfl (RR_tmp rfl) (fun W hm => ⟨.slice A10 x0.length c11, ?_, ?_⟩)
 ·first | rw [(show impl_copyInts_m x0 = x0 from by unfold impl_copyInts_m; exact rfl)] | rfl
 ·rw [(show impl_copyInts_m x0 = x0 from by unfold impl_copyInts_m; exact rfl)]; exact hm
theorem impl_copyInts_eq (x0 : (List Int)) : impl_copyInts_m x0 = x0 := by
 rfl
theorem impl_copyInts_c2 (w : World) (z0 : Value) (x0 : (List Int)) (r_0 : rdS tInt w w.heap.size z0 x0) (s_0 : x0.length ≤ 68719476736) :
  Calls Try.prog 83 #[z0] w fun e w' => ∃ v : Value, e = .returned (v) ∧ Mem w.heap.size w [iOwn (tSl tInt 3) [v] x0] w' := by
 have h := impl_copyInts_c w z0 x0 r_0 s_0
 rw [impl_copyInts_eq] at h
 exact h

def impl_FindSpan_b1 (x0 : (List DSpan)) (x1 : Int) (k7 : Nat) : (List Int) ⊕ (Unit) :=
 cond (impl_within_m x1 ((gt x0 k7).From) ((gt x0 k7).To)) (Sum.inl ((gt x0 k7).Set)) (Sum.inr ())
def impl_FindSpan_m (x0 : (List DSpan)) (x1 : Int) : (List Int) :=
 Sum.elim id (fun (s : Unit) => []) (rng (R := (List Int)) (fun k (_ : Unit) => impl_FindSpan_b1 x0 x1 k) (x0.length - 0) 0 ())
theorem cb132 : Cb Try.prog 132 := ⟨f132, _, func132, rfl, by decide⟩
theorem impl_FindSpan_c (w : World) (z0 : Value) (x0 : (List DSpan)) (x1 : Int) (r_0 : rdS tySpan w w.heap.size z0 x0) (s_0 : (x0.length ≤ 68719476736 ∧ ∀ y ∈ x0, smSpan 68719476736 y)) :
  Calls Try.prog 132 #[z0, .int .i64 x1] w fun e w' => ∃ v : Value, e = .returned (v) ∧ Mem w.heap.size w [iOwn (tSl tInt 3) [v] (impl_FindSpan_m x0 x1)] w' := by
 have r5 := r_0
 obtain ⟨m1, A2, c3, rfl, q4⟩ := r_0
 have l6 : x0.length ≤ 68719476736 := s_0.1
 refine ce2 (L := [(0, .slice A2 x0.length c3), (1, .int .i64 x1)]) (N := 23) func132 ?_
 refine sr (wa (nt' (CM_seq (sr (wm ?_)))))
 refine wv (vlen underlying78) ?_
 refine wm (nt' (CM_block ?_))
 let F1 := fun k (_ : Unit) => impl_FindSpan_b1 x0 x1 k
 let R2 := rng (R := (List Int)) F1
 refine CM_loop (σ := Nat × (Unit) × (Unit)) (fun s => [(1, .int .i64 x1), (7, .slice A2 x0.length c3), (8, .int .i64 ((x0.length : Nat) : Int)), (9, .int .i64 ((s.1 : Nat) : Int))]) (fun s => []) (fun s => s.1 ≤ x0.length ∧ R2 (x0.length - s.1) s.1 s.2.1 = R2 (x0.length - 0) 0 ()) (fun s => x0.length - s.1) (0, (), ()) sl4 (fun W hm => hm) ⟨(by omega), rfl⟩ ?_
 rintro ⟨k7, ⟨⟩, ⟨⟩⟩ H10
 obtain ⟨hk8, hF9⟩ : k7 ≤ x0.length ∧ R2 (x0.length - k7) k7 () = R2 (x0.length - 0) 0 () := H10
 show CM Try.prog 23 _ _ _ _ [(1, .int .i64 x1), (7, .slice A2 x0.length c3), (8, .int .i64 ((x0.length : Nat) : Int)), (9, .int .i64 ((k7 : Nat) : Int))] []
 refine sr ?_
 refine wv vlss ?_
 refine nt' (CM_seq ?_)
 by_cases hl11 : k7 < x0.length
 ·have g12 : (decide (((k7 : Nat) : Int) < ((x0.length : Nat) : Int))) = true := decide_eq_true (by omega)
  refine CM_condT rfl g12 ?_
  refine CM_skip (QM_then (CM_seq (CM_block (sr ?_))))
  obtain ⟨a13, rfl, hb14, he15⟩ := q4 (by omega)
  refine wv (vix 3 k7 underlying78 type113) ?_
  obtain ⟨_, e19, hc16⟩ := he15 k7 _ (gt_some (show k7 < x0.length from by omega))
  obtain ⟨v17, rfl, r18⟩ := tySpan_rd e19
  have l20 : ((gt x0 k7).Set).length ≤ 68719476736 := (s_0.2 _ (gt_mem (show k7 < x0.length from by omega)))
  have r25 := r18
  obtain ⟨m21, A22, c23, rfl, q24⟩ := r18
  let K3 : List Value := [.int .i64 ((gt x0 k7).From), .int .i64 ((gt x0 k7).To), .slice A22 ((gt x0 k7).Set).length c23]
  refine wv (fun W hm => rv_loadN (cs := K3) underlying113 type113 rfl rfl (hm.elCells (show (a13.add (k7 * 3)).block < w.heap.size from by rw [add_block]; exact hb14.1) hc16)) ?_
  refine WM_alloc type113 rfl (Wd_none rfl) (by decide) (fun p26 => ?_)
  refine sb 0 K3 [] (fun W hm => hm) type113 ?_
  refine nt' (sr (wm ?_))
  refine wv (vf underlying113 rfl type3) ?_
  refine wv (vl 0 0 underlying3) ?_
  refine wv (vf underlying113 rfl type3) ?_
  refine wv (vl 0 1 underlying3) ?_
  refine wcv (cl_fn cb129 rfl) (fun W hm => impl_within_c W x1 ((gt x0 k7).From) ((gt x0 k7).To)) ?_
  refine nt' ?_
  rcases Bool.eq_false_or_eq_true (impl_within_m x1 ((gt x0 k7).From) ((gt x0 k7).To)) with g28 | g28
  ·
   have hw := impl_within_fact g28
   refine CM_condT rfl g28 ?_
   refine sr ?_
   refine wv (vf underlying113 rfl type37) ?_
   refine wv (vl 0 2 underlying37) ?_
   refine wcl (tSl tInt 3) ((gt x0 k7).Set) (cl_fn cb83 rfl) (fun W hm => impl_copyInts_c2 W _ ((gt x0 k7).Set) (hm.rdS0 r25) (s_0.2 _ (gt_mem (show k7 < x0.length from by omega)))) (fun z29 => ?_)
   refine WM_form (n := 0) rfl ?_
   rintro A30 c31 rfl m32
   refine wa (nt' (CM_ret (QM_block_ret (QM_then_ret (QM_then_ret (QM_block_ret (QM_then_ret ?_)))))))
   refine QM_r1 rfl (RR_tmp rfl) (fun W hm => ⟨.slice A30 ((gt x0 k7).Set).length c31, ?_, ?_⟩)
   ·first | rw [(show impl_FindSpan_m x0 x1 = ((gt x0 k7).Set) from by unfold impl_FindSpan_m; exact fin_inl (rng_ret (body := F1) (k := k7) (s := ()) (show k7 < x0.length from by omega) (show impl_FindSpan_b1 x0 x1 k7 = Sum.inl ((gt x0 k7).Set) from by unfold impl_FindSpan_b1; exact cond_t g28 (rfl)) hF9) rfl)] | rfl
   ·rw [(show impl_FindSpan_m x0 x1 = ((gt x0 k7).Set) from by unfold impl_FindSpan_m; exact fin_inl (rng_ret (body := F1) (k := k7) (s := ()) (show k7 < x0.length from by omega) (show impl_FindSpan_b1 x0 x1 k7 = Sum.inl ((gt x0 k7).Set) from by unfold impl_FindSpan_b1; exact cond_t g28 (rfl)) hF9) rfl)]; exact (hm.pick [0] (by decide))
  ·
   refine CM_condF rfl g28 ?_
   refine CM_skip (QM_block_normal (QM_then (CM_region ?_)))
   refine wv (vadN k7 1 (by omega)) ?_
   refine wm (WM_nil ?_)
   have hn34 := rng_next (R := (List Int)) (body := F1) (k := k7) (s := ()) (s' := ()) (show k7 < x0.length from by omega) (show impl_FindSpan_b1 x0 x1 k7 = Sum.inr () from by unfold impl_FindSpan_b1; exact cond_f g28 (rfl)) hF9
   exact QM_round (k7 + 1, (), ()) sl4 (pk []) ⟨(by omega), hn34⟩ (rl (by omega))
 ·have g12 : (decide (((k7 : Nat) : Int) < ((x0.length : Nat) : Int))) = false := decide_eq_false (by omega)
  refine CM_condF rfl g12 ?_
  refine CM_exit (QM_then_exit (QM_then_exit ?_))
  have hE35 : R2 (x0.length - 0) 0 () = Sum.inr () := rng_end hl11 hF9
  refine QM_block_hit (QM_then (sr (wa (nt' (CM_ret ?_)))))
  refine QM_items (fun W hm => hm.addNil (E := tInt) (e := 3)) ?_
  refine QM_r1 rfl (RR_tmp rfl) (fun W hm => ⟨.slice none 0 0, ?_, ?_⟩)
  ·first | rw [(show impl_FindSpan_m x0 x1 = [] from by unfold impl_FindSpan_m; exact fin_inr hE35 (rfl))] | rfl
  ·rw [(show impl_FindSpan_m x0 x1 = [] from by unfold impl_FindSpan_m; exact fin_inr hE35 (rfl))]; exact hm

def impl_IsSet_b1 (x0 : (List Int)) (k6 : Nat) : Bool ⊕ (Unit) :=
 cond (decide ((gt x0 k6) < 0)) (Sum.inl false) (cond (decide (24 ≤ (gt x0 k6))) (Sum.inl false) (cond (decide (0 < ((k6 : Nat) : Int))) (cond (decide ((gt x0 k6) ≤ (gt x0 (k6 - 1)))) (Sum.inl false) (Sum.inr ())) (Sum.inr ())))
def impl_IsSet_m (x0 : (List Int)) : Bool :=
 Sum.elim id (fun (s : Unit) => true) (rng (R := Bool) (fun k (_ : Unit) => impl_IsSet_b1 x0 k) (x0.length - 0) 0 ())
theorem cb93 : Cb Try.prog 93 := ⟨f93, _, func93, rfl, by decide⟩
theorem impl_IsSet_c (w : World) (z0 : Value) (x0 : (List Int)) (r_0 : rdS tInt w w.heap.size z0 x0) :
  Calls Try.prog 93 #[z0] w fun e w' => e = .returned (.bool (impl_IsSet_m x0)) ∧ Below w.heap.size w w' := by
 have r5 := r_0
 obtain ⟨m1, A2, c3, rfl, q4⟩ := r_0
 refine ce1 (L := [(0, .slice A2 x0.length c3)]) (N := 32) func93 ?_
 refine sr (wa (nt' (CM_seq (sr (wm ?_)))))
 refine wv (vlen underlying37) ?_
 refine wm (nt' (CM_block ?_))
 let F1 := fun k (_ : Unit) => impl_IsSet_b1 x0 k
 let R2 := rng (R := Bool) F1
 refine CM_loop (σ := Nat × (Unit) × (Unit)) (fun s => [(0, .slice A2 x0.length c3), (5, .slice A2 x0.length c3), (6, .int .i64 ((x0.length : Nat) : Int)), (7, .int .i64 ((s.1 : Nat) : Int))]) (fun s => []) (fun s => s.1 ≤ x0.length ∧ R2 (x0.length - s.1) s.1 s.2.1 = R2 (x0.length - 0) 0 ()) (fun s => x0.length - s.1) (0, (), ()) sl4 (fun W hm => hm) ⟨(by omega), rfl⟩ ?_
 rintro ⟨k6, ⟨⟩, ⟨⟩⟩ H9
 obtain ⟨hk7, hF8⟩ : k6 ≤ x0.length ∧ R2 (x0.length - k6) k6 () = R2 (x0.length - 0) 0 () := H9
 show CM Try.prog 32 _ _ _ _ [(0, .slice A2 x0.length c3), (5, .slice A2 x0.length c3), (6, .int .i64 ((x0.length : Nat) : Int)), (7, .int .i64 ((k6 : Nat) : Int))] []
 refine sr ?_
 refine wv vlss ?_
 refine nt' (CM_seq ?_)
 by_cases hl10 : k6 < x0.length
 ·have g11 : (decide (((k6 : Nat) : Int) < ((x0.length : Nat) : Int))) = true := decide_eq_true (by omega)
  refine CM_condT rfl g11 ?_
  refine CM_skip (QM_then (CM_seq (CM_block (sr (wm ?_)))))
  obtain ⟨a12, rfl, hb13, he14⟩ := q4 (by omega)
  refine wv (vix 1 k6 underlying37 type3) ?_
  refine wv (fun W hm => rv_load underlying3 rfl rfl ((hm.cell0 (show (a12.add (k6 * 1)).block < w.heap.size from by rw [add_block]; exact hb13.1)).trans (rdS_int he14 k6 (by omega)))) ?_
  refine wa (wa (nt' (sr (wm ?_))))
  refine wv vlss ?_
  refine wm ?_
  by_cases h15 : (gt x0 k6) < 0
  ·have g16 : (decide ((gt x0 k6) < 0)) = true := decide_eq_true h15
   refine ws g16 ?_
   refine ws g16 ?_
   refine wv (vpT g16) ?_
   refine wm ?_
   refine wk ?_
   refine wk ?_
   refine wk ?_
   refine wu ?_
   refine wu ?_
   refine wu ?_
   refine wu ?_
   refine wu ?_
   refine wu ?_
   refine wu ?_
   refine wk ?_
   refine wv (vpT rfl) ?_
   refine nt' ?_
   refine CM_condT rfl rfl ?_
   refine sr (wa (nt' (CM_ret (QM_block_ret (QM_then_ret (QM_then_ret (QM_block_ret (QM_then_ret ?_))))))))
   exact rtb (h := by unfold impl_IsSet_m; exact fin_inl (rng_ret (body := F1) (k := k6) (s := ()) (show k6 < x0.length from by omega) (show impl_IsSet_b1 x0 k6 = Sum.inl false from by unfold impl_IsSet_b1; exact cond_t g16 (rfl)) hF8) rfl)
  ·have g16 : (decide ((gt x0 k6) < 0)) = false := decide_eq_false h15
   refine wg vmv g16 ?_
   refine wg (fun W hm => rv_geq rfl rfl) g16 ?_
   refine wv (vpF g16) ?_
   refine wm ?_
   by_cases h17 : 24 ≤ (gt x0 k6)
   ·have g18 : (decide (24 ≤ (gt x0 k6))) = true := decide_eq_true h17
    refine ws g18 ?_
    refine ws g18 ?_
    refine ws g18 ?_
    refine wu ?_
    refine wu ?_
    refine wu ?_
    refine wu ?_
    refine wu ?_
    refine wu ?_
    refine wu ?_
    refine ws g18 ?_
    refine wv (vpT g18) ?_
    refine nt' ?_
    refine CM_condT rfl rfl ?_
    refine sr (wa (nt' (CM_ret (QM_block_ret (QM_then_ret (QM_then_ret (QM_block_ret (QM_then_ret ?_))))))))
    exact rtb (h := by unfold impl_IsSet_m; exact fin_inl (rng_ret (body := F1) (k := k6) (s := ()) (show k6 < x0.length from by omega) (show impl_IsSet_b1 x0 k6 = Sum.inl false from by unfold impl_IsSet_b1; exact cond_f g16 (cond_t g18 (rfl))) hF8) rfl)
   ·have g18 : (decide (24 ≤ (gt x0 k6))) = false := decide_eq_false h17
    refine wg vmv g18 ?_
    refine wg (fun W hm => rv_gtr rfl rfl) g18 ?_
    refine wg vmv g18 ?_
    by_cases h19 : 0 < ((k6 : Nat) : Int)
    ·have g20 : (decide (0 < ((k6 : Nat) : Int))) = true := decide_eq_true h19
     refine wg vmv g20 ?_
     refine wg vmv g20 ?_
     refine wg (fun W hm => rv_subN (p := k6) (q := 1) rfl rfl (by omega) (by omega)) g20 ?_
     refine wg (fun W hm => rv_index (sz := 1) (k := k6 - 1) underlying37 type3 rfl rfl rfl (by omega)) g20 ?_
     refine wg (fun W hm => rv_load underlying3 rfl rfl ((hm.cell0 (show (a12.add ((k6 - 1) * 1)).block < w.heap.size from by rw [add_block]; exact hb13.1)).trans (rdS_int he14 (k6 - 1) (by omega)))) g20 ?_
     refine wg vmv g20 ?_
     refine wg (fun W hm => rv_geq rfl rfl) g20 ?_
     refine wg (vpT g20) g18 ?_
     refine wv (vpF g18) ?_
     refine nt' ?_
     by_cases h21 : (gt x0 k6) ≤ (gt x0 (k6 - 1))
     ·have g22 : (decide ((gt x0 k6) ≤ (gt x0 (k6 - 1)))) = true := decide_eq_true h21
      refine CM_condT rfl g22 ?_
      refine sr (wa (nt' (CM_ret (QM_block_ret (QM_then_ret (QM_then_ret (QM_block_ret (QM_then_ret ?_))))))))
      exact rtb (h := by unfold impl_IsSet_m; exact fin_inl (rng_ret (body := F1) (k := k6) (s := ()) (show k6 < x0.length from by omega) (show impl_IsSet_b1 x0 k6 = Sum.inl false from by unfold impl_IsSet_b1; exact cond_f g16 (cond_f g18 (cond_t g20 (cond_t g22 (rfl))))) hF8) rfl)
     ·have g22 : (decide ((gt x0 k6) ≤ (gt x0 (k6 - 1)))) = false := decide_eq_false h21
      refine CM_condF rfl g22 ?_
      refine CM_skip (QM_block_normal (QM_then (CM_region ?_)))
      refine wv (vadN k6 1 (by omega)) ?_
      refine wm (WM_nil ?_)
      have hn23 := rng_next (R := Bool) (body := F1) (k := k6) (s := ()) (s' := ()) (show k6 < x0.length from by omega) (show impl_IsSet_b1 x0 k6 = Sum.inr () from by unfold impl_IsSet_b1; exact cond_f g16 (cond_f g18 (cond_t g20 (cond_f g22 (rfl))))) hF8
      exact QM_round (k6 + 1, (), ()) sl4 (fun W hm => hm) ⟨(by omega), hn23⟩ (rl (by omega))
    ·have g20 : (decide (0 < ((k6 : Nat) : Int))) = false := decide_eq_false h19
     refine ws g20 ?_
     refine ws g20 ?_
     refine ws g20 ?_
     refine ws g20 ?_
     refine ws g20 ?_
     refine ws g20 ?_
     refine ws g20 ?_
     refine wg (vpF g20) g18 ?_
     refine wv (vpF g18) ?_
     refine nt' ?_
     refine CM_condF rfl rfl ?_
     refine CM_skip (QM_block_normal (QM_then (CM_region ?_)))
     refine wv (vadN k6 1 (by omega)) ?_
     refine wm (WM_nil ?_)
     have hn24 := rng_next (R := Bool) (body := F1) (k := k6) (s := ()) (s' := ()) (show k6 < x0.length from by omega) (show impl_IsSet_b1 x0 k6 = Sum.inr () from by unfold impl_IsSet_b1; exact cond_f g16 (cond_f g18 (cond_f g20 (rfl)))) hF8
     exact QM_round (k6 + 1, (), ()) sl4 (fun W hm => hm) ⟨(by omega), hn24⟩ (rl (by omega))
 ·have g11 : (decide (((k6 : Nat) : Int) < ((x0.length : Nat) : Int))) = false := decide_eq_false (by omega)
  refine CM_condF rfl g11 ?_
  refine CM_exit (QM_then_exit (QM_then_exit ?_))
  have hE25 : R2 (x0.length - 0) 0 () = Sum.inr () := rng_end hl10 hF8
  refine QM_block_hit (QM_then (sr (wa (nt' (CM_ret ?_)))))
  exact rtb (h := by unfold impl_IsSet_m; exact fin_inr hE25 (rfl))

def impl_HasMember_m (x0 : (List Int)) (x1 : Int) : Bool :=
 (impl_hasInt_m x0 x1)
theorem cb47 : Cb Try.prog 47 := ⟨f47, _, func47, rfl, by decide⟩
theorem impl_HasMember_c (w : World) (z0 : Value) (x0 : (List Int)) (x1 : Int) (r_0 : rdS tInt w w.heap.size z0 x0) :
  Calls Try.prog 47 #[z0, .int .i64 x1] w fun e w' => e = .returned (.bool (impl_HasMember_m x0 x1)) ∧ Below w.heap.size w w' := by
 have r5 := r_0
 obtain ⟨m1, A2, c3, rfl, q4⟩ := r_0
 refine ce2 (L := [(0, .slice A2 x0.length c3), (1, .int .i64 x1)]) (N := 8) func47 ?_
 refine sr (wa (nt' (sr (wm (wm ?_)))))
 refine wcv (cl_fn cb87 rfl) (fun W hm => impl_hasInt_c W _ x0 x1 (hm.rdS0 r5)) ?_
 refine wa (nt' (CM_ret ?_))
 exact rtb (h := by unfold impl_HasMember_m; exact rfl)

def impl_MeetSets_1_m (x0 : Int) (y0 : (List Int)) (y1 : (List Int)) : Bool :=
 cond (impl_HasMember_m y0 x0) (impl_HasMember_m y1 x0) false
theorem cb95 : Cb Try.prog 95 := ⟨f95, _, func95, rfl, by decide⟩
theorem impl_MeetSets_1_c (w : World) (x0 : Int) (p_0 : Nat) (zc0 : List Value) (y0 : (List Int)) (p_1 : Nat) (zc1 : List Value) (y1 : (List Int)) (rc_0 : rdP (tSl tInt 3) w w.heap.size p_0 zc0 y0) (rc_1 : rdP (tSl tInt 3) w w.heap.size p_1 zc1 y1) :
  Calls Try.prog 95 #[.int .i64 x0, .pointer (some ⟨p_0, 0, none⟩), .pointer (some ⟨p_1, 0, none⟩)] w fun e w' => e = .returned (.bool (impl_MeetSets_1_m x0 y0 y1)) ∧ Below w.heap.size w w' := by
 have e1 := rc_0.2.2
 obtain ⟨v2, rfl, r3⟩ := e1
 have r8 := r3
 obtain ⟨m4, A5, c6, rfl, q7⟩ := r3
 have e9 := rc_1.2.2
 obtain ⟨v10, rfl, r11⟩ := e9
 have r16 := r11
 obtain ⟨m12, A13, c14, rfl, q15⟩ := r11
 refine ce3 (L := [(0, .int .i64 x0), (1, .pointer (some (⟨p_0, 0, none⟩ : Addr))), (2, .pointer (some (⟨p_1, 0, none⟩ : Addr)))]) (N := 13) func95 ?_
 refine sr (wa (nt' (sr ?_)))
 refine wv (fun W hm => rv_load underlying37 rfl rfl (capCell rc_0 rfl rfl hm (o := 0) rfl)) ?_
 refine wm ?_
 refine wcv (cl_fn cb47 rfl) (fun W hm => impl_HasMember_c W _ y0 x0 (hm.rdS0 r8)) ?_
 refine wm ?_
 rcases Bool.eq_false_or_eq_true (impl_HasMember_m y0 x0) with g18 | g18
 ·
  refine wg (fun W hm => rv_load underlying37 rfl rfl (capCell rc_1 rfl rfl hm (o := 0) rfl)) g18 ?_
  refine wg vmv g18 ?_
  refine WM_callV (cl_fn cb47 rfl) (fun W hm => impl_HasMember_c W _ y1 x0 (hm.rdS0 r16)) (Wd_some rfl rfl rfl (bw g18 rfl)) (by decide) ?_
  refine wv (vpT g18) ?_
  refine wa (nt' (CM_ret ?_))
  exact rtb (h := by unfold impl_MeetSets_1_m; exact cond_t g18 (rfl))
 ·
  refine ws g18 ?_
  refine ws g18 ?_
  refine ws g18 ?_
  refine wv (vpF g18) ?_
  refine wa (nt' (CM_ret ?_))
  exact rtb (h := by unfold impl_MeetSets_1_m; exact cond_f g18 (rfl))

def impl_pick_impl_MeetSets_1_b1 (y0 : (List Int)) (y1 : (List Int)) (k19 : Nat) (d20 : (List Int)) : (List Int) ⊕ ((List Int)) :=
 cond (impl_MeetSets_1_m ((k19 : Nat) : Int) y0 y1) (Sum.inr (d20 ++ [((k19 : Nat) : Int)])) (Sum.inr d20)
def impl_pick_impl_MeetSets_1_m (y0 : (List Int)) (y1 : (List Int)) : (List Int) :=
 Sum.elim id (fun (s : (List Int)) => s) (rng (R := (List Int)) (fun k (s : (List Int)) => impl_pick_impl_MeetSets_1_b1 y0 y1 k s) (24 - 0) 0 [])
theorem cb94 : Cb Try.prog 94 := ⟨f94, _, func94, rfl, by decide⟩
theorem impl_pick_impl_MeetSets_1_c (w : World) (p_0 : Nat) (zc0 : List Value) (y0 : (List Int)) (p_1 : Nat) (zc1 : List Value) (y1 : (List Int)) (rc_0 : rdP (tSl tInt 3) w w.heap.size p_0 zc0 y0) (rc_1 : rdP (tSl tInt 3) w w.heap.size p_1 zc1 y1) :
  Calls Try.prog 94 #[.func (.func 95) #[] #[.pointer (some (⟨p_0, 0, none⟩ : Addr)), .pointer (some (⟨p_1, 0, none⟩ : Addr))]] w fun e w' => ∃ v : Value, e = .returned (v) ∧ Mem w.heap.size w [iOwn (tSl tInt 3) [v] (impl_pick_impl_MeetSets_1_m y0 y1)] w' := by
 have e1 := rc_0.2.2
 obtain ⟨v2, rfl, r3⟩ := e1
 have r8 := r3
 obtain ⟨m4, A5, c6, rfl, q7⟩ := r3
 have e9 := rc_1.2.2
 obtain ⟨v10, rfl, r11⟩ := e9
 have r16 := r11
 obtain ⟨m12, A13, c14, rfl, q15⟩ := r11
 refine ce1 (L := [(0, .func (.func 95) #[] #[.pointer (some (⟨p_0, 0, none⟩ : Addr)), .pointer (some (⟨p_1, 0, none⟩ : Addr))])]) (N := 18) func94 ?_
 refine sr (wa (nt' (sr ?_)))
 refine WM_build0 (E := tInt) underlying37 type3 (Wd_none rfl) (by decide) (fun p17 => ?_)
 refine wa (nt' (CM_seq (sr (wa (nt' (CM_block ?_))))))
 let F1 := fun k (s : (List Int)) => impl_pick_impl_MeetSets_1_b1 y0 y1 k s
 let R2 := rng (R := (List Int)) F1
 refine CM_loop (σ := Nat × ((List Int)) × (Option Addr × Nat)) (fun s => [(0, .func (.func 95) #[] #[.pointer (some (⟨p_0, 0, none⟩ : Addr)), .pointer (some (⟨p_1, 0, none⟩ : Addr))]), (3, .slice s.2.2.1 s.2.1.length s.2.2.2), (4, .int .i64 ((s.1 : Nat) : Int))]) (fun s => [iOwn (tSl tInt 3) [.slice s.2.2.1 s.2.1.length s.2.2.2] s.2.1]) (fun s => s.1 ≤ 24 ∧ R2 (24 - s.1) s.1 s.2.1 = R2 (24 - 0) 0 [] ∧ s.2.1.length ≤ 0 + s.1) (fun s => 24 - s.1) (0, [], ((some ⟨p17, 0, none⟩), 0)) sl3 (fun W hm => hm) ⟨(by omega), rfl, Nat.le_refl _⟩ ?_
 rintro ⟨k19, d20, ⟨A21, c22⟩⟩ H25
 obtain ⟨hk23, hF24, hi26⟩ : k19 ≤ 24 ∧ R2 (24 - k19) k19 d20 = R2 (24 - 0) 0 [] ∧ d20.length ≤ 0 + k19 := H25
 show CM Try.prog 18 _ _ _ _ [(0, .func (.func 95) #[] #[.pointer (some (⟨p_0, 0, none⟩ : Addr)), .pointer (some (⟨p_1, 0, none⟩ : Addr))]), (3, .slice A21 d20.length c22), (4, .int .i64 ((k19 : Nat) : Int))] [iOwn (tSl tInt 3) [.slice A21 d20.length c22] d20]
 refine CM_seq (sr (wm ?_))
 refine wv vlss ?_
 refine nt' ?_
 by_cases hl27 : k19 < 24
 ·have g28 : (decide (((k19 : Nat) : Int) < 24)) = true := decide_eq_true (by omega)
  refine CM_condT rfl g28 ?_
  refine CM_skip (QM_then (CM_seq (CM_block (sr (wm (wm ?_))))))
  refine wcv (cl_val (first := []) (caps := [.pointer (some (⟨p_0, 0, none⟩ : Addr)), .pointer (some (⟨p_1, 0, none⟩ : Addr))]) (vs := [.int .i64 ((k19 : Nat) : Int)]) (args := [.int .i64 ((k19 : Nat) : Int), .pointer (some (⟨p_0, 0, none⟩ : Addr)), .pointer (some (⟨p_1, 0, none⟩ : Addr))]) cb95 rfl rfl rfl) (fun W hm => impl_MeetSets_1_c W ((k19 : Nat) : Int) _ _ y0 _ _ y1 (hm.rdP0 rc_0) (hm.rdP0 rc_1)) ?_
  refine nt' ?_
  rcases Bool.eq_false_or_eq_true (impl_MeetSets_1_m ((k19 : Nat) : Int) y0 y1) with g30 | g30
  ·
   refine CM_condT rfl g30 ?_
   refine CM_region (wm (wm ?_))
   refine WM_build (cs := [.int .i64 ((k19 : Nat) : Int)]) underlying37 type3 rfl (by decide) (by decide) rfl (by kernel_rfl) (Wd_none rfl) (by decide) (fun p31 => ?_)
   refine ap1 tInt 3 (.slice A21 d20.length c22) d20 ((k19 : Nat) : Int) [] [] [.int .i64 ((k19 : Nat) : Int)] (fun W hm => hm) (fun _ _ hs => by cases (Sep.nil hs); exact (els_cons tInt_own els_nil)) underlying37 type3 (show (d20.length + 1) * 8 ≤ 140737488355328 from by omega) (fun v32 => ?_)
   refine WM_form (n := 0) rfl ?_
   rintro A33 c34 rfl m35
   refine wa (WM_nil (QM_block_normal (QM_then (CM_region (wm ?_)))))
   refine wv (vadN k19 1 (by omega)) ?_
   refine wa (WM_nil ?_)
   have hn37 := rng_next (R := (List Int)) (body := F1) (k := k19) (s := d20) (s' := (d20 ++ [((k19 : Nat) : Int)])) (show k19 < 24 from by omega) (show impl_pick_impl_MeetSets_1_b1 y0 y1 k19 d20 = Sum.inr (d20 ++ [((k19 : Nat) : Int)]) from by unfold impl_pick_impl_MeetSets_1_b1; exact cond_t g30 (rfl)) hF24
   exact QM_round (k19 + 1, (d20 ++ [((k19 : Nat) : Int)]), (A33, c34)) sl3 (fun W hm => hm) ⟨(by omega), hn37, (show (d20 ++ [((k19 : Nat) : Int)]).length ≤ 0 + (k19 + 1) from by first | omega | (simp only [List.length_append, List.length_cons, List.length_nil] at *; omega))⟩ (rl (by omega))
  ·
   refine CM_condF rfl g30 ?_
   refine CM_skip (QM_block_normal (QM_then (CM_region (wm ?_))))
   refine wv (vadN k19 1 (by omega)) ?_
   refine wa (WM_nil ?_)
   have hn38 := rng_next (R := (List Int)) (body := F1) (k := k19) (s := d20) (s' := d20) (show k19 < 24 from by omega) (show impl_pick_impl_MeetSets_1_b1 y0 y1 k19 d20 = Sum.inr d20 from by unfold impl_pick_impl_MeetSets_1_b1; exact cond_f g30 (rfl)) hF24
   exact QM_round (k19 + 1, d20, (A21, c22)) sl3 (fun W hm => hm) ⟨(by omega), hn38, (show d20.length ≤ 0 + (k19 + 1) from by first | omega | (simp only [List.length_append, List.length_cons, List.length_nil] at *; omega))⟩ (rl (by omega))
 ·have g28 : (decide (((k19 : Nat) : Int) < 24)) = false := decide_eq_false (by omega)
  refine CM_condF rfl g28 ?_
  refine CM_exit (QM_then_exit (QM_then_exit ?_))
  have hE39 : R2 (24 - 0) 0 [] = Sum.inr d20 := rng_end hl27 hF24
  refine QM_block_hit (QM_then (sr (wm (wa (nt' (CM_ret ?_))))))
  refine QM_r1 rfl (RR_tmp rfl) (fun W hm => ⟨.slice A21 d20.length c22, ?_, ?_⟩)
  ·first | rw [(show impl_pick_impl_MeetSets_1_m y0 y1 = d20 from by unfold impl_pick_impl_MeetSets_1_m; exact fin_inr hE39 (rfl))] | rfl
  ·rw [(show impl_pick_impl_MeetSets_1_m y0 y1 = d20 from by unfold impl_pick_impl_MeetSets_1_m; exact fin_inr hE39 (rfl))]; exact hm

def impl_MeetSets_m (x0 : (List Int)) (x1 : (List Int)) : (List Int) :=
 cond (impl_IsSet_m x0) (cond (impl_IsSet_m x1) (impl_pick_impl_MeetSets_1_m x0 x1) []) []
theorem cb52 : Cb Try.prog 52 := ⟨f52, _, func52, rfl, by decide⟩
theorem impl_MeetSets_c (w : World) (z0 : Value) (x0 : (List Int)) (z1 : Value) (x1 : (List Int)) (r_0 : rdS tInt w w.heap.size z0 x0) (r_1 : rdS tInt w w.heap.size z1 x1) (s_0 : x0.length ≤ 68719476736) (s_1 : x1.length ≤ 68719476736) :
  Calls Try.prog 52 #[z0, z1] w fun e w' => ∃ v : Value, e = .returned (v) ∧ Mem w.heap.size w [iOwn (tSl tInt 3) [v] (impl_MeetSets_m x0 x1)] w' := by
 have r5 := r_0
 obtain ⟨m1, A2, c3, rfl, q4⟩ := r_0
 have r10 := r_1
 obtain ⟨m6, A7, c8, rfl, q9⟩ := r_1
 have l11 : x0.length ≤ 68719476736 := s_0
 have l12 : x1.length ≤ 68719476736 := s_1
 refine ce2 (L := [(0, .slice A2 x0.length c3), (1, .slice A7 x1.length c8)]) (N := 15) func52 ?_
 refine sr ?_
 refine WM_box rfl (Wd_none rfl) (by decide) (fun p13 => ?_)
 refine WM_box rfl (Wd_none rfl) (by decide) (fun p14 => ?_)
 refine wa (nt' (CM_seq (sr ?_)))
 refine wv (vl 1 0 underlying37) ?_
 refine wcv (cl_fn cb93 rfl) (fun W hm => impl_IsSet_c W _ x0 (hm.rdS0 r5)) ?_
 refine wv vnot ?_
 refine wm ?_
 rcases Bool.eq_false_or_eq_true (impl_IsSet_m x0) with g16 | g16
 ·
  refine wg (vl 0 0 underlying37) (nt g16) ?_
  refine WM_callV (cl_fn cb93 rfl) (fun W hm => impl_IsSet_c W _ x1 (hm.rdS0 r10)) (Wd_some rfl rfl rfl (bw (nt g16) rfl)) (by decide) ?_
  refine wg vnot (nt g16) ?_
  refine wv (vpF (nt g16)) ?_
  refine nt' ?_
  rcases Bool.eq_false_or_eq_true (impl_IsSet_m x1) with g18 | g18
  ·
   refine CM_condF rfl (nt g18) ?_
   refine CM_skip (QM_then (sr ?_))
   refine wv (fun W hm => rv_makeFunc rfl) ?_
   refine wcl (tSl tInt 3) (impl_pick_impl_MeetSets_1_m x0 x1) (cl_fn cb94 rfl) (fun W hm => impl_pick_impl_MeetSets_1_c W _ _ x0 _ _ x1 (hm.rdPBox (T := (tSl tInt 3)) (n := 1) rfl ⟨_, rfl, (hm.rdS0 r5)⟩) (hm.rdPBox (T := (tSl tInt 3)) (n := 0) rfl ⟨_, rfl, (hm.rdS0 r10)⟩)) (fun z19 => ?_)
   refine WM_form (n := 0) rfl ?_
   rintro A20 c21 rfl m22
   refine wa (nt' (CM_ret ?_))
   refine QM_r1 rfl (RR_tmp rfl) (fun W hm => ⟨.slice A20 (impl_pick_impl_MeetSets_1_m x0 x1).length c21, ?_, ?_⟩)
   ·first | rw [(show impl_MeetSets_m x0 x1 = (impl_pick_impl_MeetSets_1_m x0 x1) from by unfold impl_MeetSets_m; exact cond_t g16 (cond_t g18 (rfl)))] | rfl
   ·rw [(show impl_MeetSets_m x0 x1 = (impl_pick_impl_MeetSets_1_m x0 x1) from by unfold impl_MeetSets_m; exact cond_t g16 (cond_t g18 (rfl)))]; exact (hm.pick [0] (by decide))
  ·
   refine CM_condT rfl (nf g18) ?_
   refine sr (wa (nt' (CM_ret (QM_then_ret ?_))))
   refine QM_items (fun W hm => hm.addNil (E := tInt) (e := 3)) ?_
   refine QM_r1 rfl (RR_tmp rfl) (fun W hm => ⟨.slice none 0 0, ?_, ?_⟩)
   ·first | rw [(show impl_MeetSets_m x0 x1 = [] from by unfold impl_MeetSets_m; exact cond_t g16 (cond_f g18 (rfl)))] | rfl
   ·rw [(show impl_MeetSets_m x0 x1 = [] from by unfold impl_MeetSets_m; exact cond_t g16 (cond_f g18 (rfl)))]; exact (hm.pick [0] (by decide))
 ·
  refine ws (nf g16) ?_
  refine ws (nf g16) ?_
  refine ws (nf g16) ?_
  refine wv (vpT (nf g16)) ?_
  refine nt' ?_
  refine CM_condT rfl rfl ?_
  refine sr (wa (nt' (CM_ret (QM_then_ret ?_))))
  refine QM_items (fun W hm => hm.addNil (E := tInt) (e := 3)) ?_
  refine QM_r1 rfl (RR_tmp rfl) (fun W hm => ⟨.slice none 0 0, ?_, ?_⟩)
  ·first | rw [(show impl_MeetSets_m x0 x1 = [] from by unfold impl_MeetSets_m; exact cond_f g16 (rfl))] | rfl
  ·rw [(show impl_MeetSets_m x0 x1 = [] from by unfold impl_MeetSets_m; exact cond_f g16 (rfl))]; exact (hm.pick [0] (by decide))

theorem IsSet_b_same (x : List Int) (k : Nat) : impl_IsSet_b1 x k = spec_IsSet_b1 x k := by
  unfold impl_IsSet_b1 spec_IsSet_b1 spec_l1In_m
  by_cases h1 : gt x k < 0
  · have h2 : ¬ 0 ≤ gt x k := by omega
    simp only [decide_eq_true h1, decide_eq_false h2, cond_true, cond_false]
  · have h2 : 0 ≤ gt x k := by omega
    by_cases h3 : 24 ≤ gt x k
    · have h4 : ¬ gt x k ≤ 23 := by omega
      simp only [decide_eq_false h1, decide_eq_true h2, decide_eq_true h3, decide_eq_false h4, cond_true, cond_false]
    · have h4 : gt x k ≤ 23 := by omega
      simp only [decide_eq_false h1, decide_eq_true h2, decide_eq_false h3, decide_eq_true h4, cond_true, cond_false]
theorem IsSet_same (x : List Int) : impl_IsSet_m x = spec_IsSet_m x := by
  unfold impl_IsSet_m spec_IsSet_m
  simp only [IsSet_b_same]
theorem HasMember_same (x : List Int) (i : Int) : impl_hasInt_m x i = spec_HasMember_m x i := rfl
theorem hasInt_any (x : List Int) (i : Int) : impl_hasInt_m x i = x.any fun y => y == i := by
  unfold impl_hasInt_m
  rw [rng_any (p := fun y => y == i) (r := true) (fun j _ => rfl)]
  cases x.any fun y => y == i <;> rfl
theorem IsSet_facts {x : List Int} (h : spec_IsSet_m x = true) : x.Pairwise (· < ·) ∧ ∀ y ∈ x, 0 ≤ y ∧ y < 24 := by
  unfold spec_IsSet_m at h
  rw [rng_allN (p := fun k => spec_IsSet_b1 x k == .inr ()) (r := false) (fun k _ => by
    unfold spec_IsSet_b1
    cases spec_l1In_m (gt x k) 0 23 <;> cases decide (0 < ((k : Nat) : Int)) <;> cases decide (gt x k ≤ gt x (k - 1)) <;> rfl), cb_rng, Bool.and_true, List.all_eq_true] at h
  have h1 : ∀ k, k < x.length → (0 ≤ gt x k ∧ gt x k < 24) ∧ (0 < k → gt x (k - 1) < gt x k) := by
    intro k hk
    have h2 := h k (List.mem_range.2 hk)
    unfold spec_IsSet_b1 at h2
    cases h3 : spec_l1In_m (gt x k) 0 23 with
    | false => rw [h3] at h2; cases h2
    | true =>
      have h4 := spec_l1In_fact h3
      refine ⟨by omega, fun hp => ?_⟩
      rw [h3, decide_eq_true (show 0 < ((k : Nat) : Int) by omega)] at h2
      by_cases h5 : gt x k ≤ gt x (k - 1)
      · rw [decide_eq_true h5] at h2; cases h2
      · omega
  refine ⟨adj_rise fun k hp hk => (h1 k hk).2 hp, fun y hy => ?_⟩
  obtain ⟨k, hk, rfl⟩ := List.getElem_of_mem hy
  rw [← gt_at hk]
  exact (h1 k hk).1
theorem MeetSets_same (x y : List Int) : impl_MeetSets_m x y = spec_MeetSets_m x y := by
  rw [spec_MeetSets_form]
  unfold impl_MeetSets_m
  rw [IsSet_same, IsSet_same]
  cases hx : spec_IsSet_m x with
  | false => rfl
  | true =>
    cases hy : spec_IsSet_m y with
    | false => rfl
    | true =>
      obtain ⟨h1, h2⟩ := IsSet_facts hx
      show impl_pick_impl_MeetSets_1_m x y = List.filter _ x
      unfold impl_pick_impl_MeetSets_1_m
      rw [rng_rangeFM (n := 24) (c := fun k => x.any (fun z => z == ((k : Nat) : Int)) && spec_HasMember_m y ((k : Nat) : Int)) (g := fun k => ((k : Nat) : Int)) (fun j d _ => by
        unfold impl_pick_impl_MeetSets_1_b1 impl_MeetSets_1_m impl_HasMember_m
        rw [hasInt_any, HasMember_same]
        cases x.any (fun z => z == ((j : Nat) : Int)) <;> cases spec_HasMember_m y ((j : Nat) : Int) <;> rfl), List.range_eq_range']
      exact set_filter (fun z => spec_HasMember_m y z) 24 0 x h1 (fun z hz => by have := h2 z hz; omega)
theorem MeetSets_len (x y : List Int) : (impl_MeetSets_m x y).length ≤ x.length := by
  rw [MeetSets_same, spec_MeetSets_form]
  cases (spec_IsSet_m x && spec_IsSet_m y)
  · exact Nat.zero_le _
  · exact List.length_filter_le _ _
theorem impl_FindSpan_sm {B : Nat} {l : List DSpan} (h : ∀ z ∈ l, smSpan B z) (v : Int) : (impl_FindSpan_m l v).length ≤ B := by
  unfold impl_FindSpan_m
  rcases rng_find (P := fun (r : List Int) => r.length ≤ B) (n := l.length) (b := fun k (_ : Unit) => impl_FindSpan_b1 l v k) (fun j hj => by
    show (∃ r, impl_FindSpan_b1 l v j = _ ∧ _) ∨ impl_FindSpan_b1 l v j = _
    unfold impl_FindSpan_b1
    cases impl_within_m v (gt l j).From (gt l j).To
    · exact .inr rfl
    · exact .inl ⟨_, rfl, h _ (gt_mem hj)⟩) (l.length - 0) 0 (by omega) with ⟨r, h1, h2⟩ | h1
  · rw [h1]; exact h2
  · rw [h1]; exact Nat.zero_le _
def impl_probe_b2 (x0 : DIndex) (x1 : DRow) (x2 : (List Int)) (k75 : Nat) (d76 : (List Int)) (s79 : Int) : ((List Int) × Int) ⊕ (((List Int) × Int) ⊕ ((List Int) × Int)) :=
 cond (((d76.length : Nat) : Int) == 0) (Sum.inr (Sum.inl (d76, s79))) (Sum.inr (Sum.inr ((impl_MeetSets_m d76 (impl_FindSpan_m (gt x0.Fields ((gt x2 k75).toNat)) (gt x1.Values ((gt x2 k75).toNat)))), (IntKind.i64.wrap (s79 + (IntKind.i64.wrap (1 + (if (((impl_FindSpan_m (gt x0.Fields ((gt x2 k75).toNat)) (gt x1.Values ((gt x2 k75).toNat))).length : Nat) : Int) < ((d76.length : Nat) : Int) then (((impl_FindSpan_m (gt x0.Fields ((gt x2 k75).toNat)) (gt x1.Values ((gt x2 k75).toNat))).length : Nat) : Int) else ((d76.length : Nat) : Int)))))))))
def impl_probe_b1 (x0 : DIndex) (k35 : Nat) (d36 : (List Int)) : ((List Int) × Int) ⊕ ((List Int)) :=
 Sum.inr (d36 ++ [(gt x0.Queries k35).Id])
def impl_probe_m (x0 : DIndex) (x1 : DRow) (x2 : (List Int)) : ((List Int) × Int) :=
 Sum.elim id (fun (s1_ : (List Int)) => Sum.elim id (fun (s : (List Int) × Int) => (s.1, s.2)) (rngb (R := ((List Int) × Int)) (fun k (s : (List Int) × Int) => impl_probe_b2 x0 x1 x2 k s.1 s.2) (x2.length - 0) 0 (s1_, 0))) (rng (R := ((List Int) × Int)) (fun k (s : (List Int)) => impl_probe_b1 x0 k s) (x0.Queries.length - 0) 0 [])
theorem cb116 : Cb Try.prog 116 := ⟨f116, _, func116, rfl, by decide⟩
theorem impl_probe_c (w : World) (z0 : List Value) (x0 : DIndex) (z1 : List Value) (x1 : DRow) (z2 : Value) (x2 : (List Int)) (r_0 : tyIndex.rd w w.heap.size z0 x0) (r_1 : tyRow.rd w w.heap.size z1 x1) (r_2 : rdS tInt w w.heap.size z2 x2) (s_0 : smIndex 68719476736 x0) (s_1 : smRow 68719476736 x1) (s_2 : x2.length ≤ 68719476736) (hf : x0.Fields.length = 3) (hv : x1.Values.length = 3) (ho : ∀ y ∈ x2, 0 ≤ y ∧ y ≤ 2) :
  Calls Try.prog 116 #[.agg z0.toArray, .agg z1.toArray, z2] w fun e w' => ∃ v : Value, e = .returned (.tuple #[v, .int .i64 ((impl_probe_m x0 x1 x2).2)]) ∧ Mem w.heap.size w [iOwn (tSl tInt 3) [v] (impl_probe_m x0 x1 x2).1] w' := by
 obtain ⟨v1, v3, rfl, r2, r4⟩ := tyIndex_rd r_0
 have r9 := r2
 obtain ⟨m5, A6, c7, rfl, q8⟩ := r2
 have r14 := r4
 obtain ⟨m10, A11, c12, rfl, q13⟩ := r4
 obtain ⟨v15, rfl, r16⟩ := tyRow_rd r_1
 have r21 := r16
 obtain ⟨m17, A18, c19, rfl, q20⟩ := r16
 have r26 := r_2
 obtain ⟨m22, A23, c24, rfl, q25⟩ := r_2
 have l27 : x0.Queries.length ≤ 68719476736 := s_0.1.1
 have l28 : x0.Fields.length ≤ 68719476736 := s_0.2.1
 have l29 : x1.Values.length ≤ 68719476736 := s_1
 have l30 : x2.length ≤ 68719476736 := s_2
 refine ce3 (L := [(0, .agg #[.slice A6 x0.Queries.length c7, .slice A11 x0.Fields.length c12]), (1, .agg #[.int .i64 x1.Id, .slice A18 x1.Values.length c19]), (2, .slice A23 x2.length c24)]) (N := 63) func116 ?_
 refine sr ?_
 refine WM_box rfl (Wd_none rfl) (by decide) (fun p31 => ?_)
 refine WM_box rfl (Wd_none rfl) (by decide) (fun p32 => ?_)
 refine wa (wa (nt' (sr ?_)))
 refine WM_build0 (E := tInt) underlying37 type3 (Wd_none rfl) (by decide) (fun p33 => ?_)
 refine wa (nt' (CM_seq (sr ?_)))
 refine wv (vf underlying27 rfl type24) ?_
 refine wv (vl 2 0 underlying24) ?_
 refine wv (vlen underlying24) ?_
 refine wm (nt' (CM_block ?_))
 let F1 := fun k (s : (List Int)) => impl_probe_b1 x0 k s
 let R3 := rng (R := ((List Int) × Int)) F1
 let K5 : List Value := [.slice A6 x0.Queries.length c7, .slice A11 x0.Fields.length c12]
 let I9 : It := iBox p32 50 [.int .i64 x1.Id, .slice A18 x1.Values.length c19]
 refine CM_loop (σ := Nat × ((List Int)) × (Option Addr × Nat)) (fun s => [(2, .slice A23 x2.length c24), (3, .pointer (some (⟨p31, 0, none⟩ : Addr))), (4, .pointer (some (⟨p32, 0, none⟩ : Addr))), (8, .slice s.2.2.1 s.2.1.length s.2.2.2), (17, .slice A6 x0.Queries.length c7), (18, .int .i64 ((x0.Queries.length : Nat) : Int)), (19, .int .i64 ((s.1 : Nat) : Int))]) (fun s => [iOwn (tSl tInt 3) [.slice s.2.2.1 s.2.1.length s.2.2.2] s.2.1, I9, iBox p31 27 K5]) (fun s => s.1 ≤ x0.Queries.length ∧ R3 (x0.Queries.length - s.1) s.1 s.2.1 = R3 (x0.Queries.length - 0) 0 [] ∧ s.2.1.length ≤ 0 + s.1) (fun s => x0.Queries.length - s.1) (0, [], ((some ⟨p33, 0, none⟩), 0)) sl7 (fun W hm => hm) ⟨(by omega), rfl, Nat.le_refl _⟩ ?_
 rintro ⟨k35, d36, ⟨A37, c38⟩⟩ H41
 obtain ⟨hk39, hF40, hi42⟩ : k35 ≤ x0.Queries.length ∧ R3 (x0.Queries.length - k35) k35 d36 = R3 (x0.Queries.length - 0) 0 [] ∧ d36.length ≤ 0 + k35 := H41
 let I10 : It := iOwn (tSl tInt 3) [.slice A37 d36.length c38] d36
 show CM Try.prog 63 _ _ _ _ [(2, .slice A23 x2.length c24), (3, .pointer (some (⟨p31, 0, none⟩ : Addr))), (4, .pointer (some (⟨p32, 0, none⟩ : Addr))), (8, .slice A37 d36.length c38), (17, .slice A6 x0.Queries.length c7), (18, .int .i64 ((x0.Queries.length : Nat) : Int)), (19, .int .i64 ((k35 : Nat) : Int))] [I10, I9, iBox p31 27 K5]
 refine sr ?_
 refine wv vlss ?_
 refine nt' (CM_seq ?_)
 by_cases hl43 : k35 < x0.Queries.length
 ·have g44 : (decide (((k35 : Nat) : Int) < ((x0.Queries.length : Nat) : Int))) = true := decide_eq_true (by omega)
  refine CM_condT rfl g44 ?_
  refine CM_skip (QM_then (CM_seq (CM_block (sr ?_))))
  obtain ⟨a45, rfl, hb46, he47⟩ := q8 (by omega)
  refine wv (vix 4 k35 underlying24 type39) ?_
  obtain ⟨_, e53, hc48⟩ := he47 k35 _ (gt_some (show k35 < x0.Queries.length from by omega))
  obtain ⟨v49, v51, rfl, r50, r52⟩ := tyQuery_rd e53
  have l54 : ((gt x0.Queries k35).Conds).length ≤ 68719476736 := (s_0.1.2 _ (gt_mem (show k35 < x0.Queries.length from by omega))).1
  have l55 : ((gt x0.Queries k35).Out).length ≤ 68719476736 := (s_0.1.2 _ (gt_mem (show k35 < x0.Queries.length from by omega))).2
  have r60 := r50
  obtain ⟨m56, A57, c58, rfl, q59⟩ := r50
  have r65 := r52
  obtain ⟨m61, A62, c63, rfl, q64⟩ := r52
  let K6 : List Value := [.int .i64 ((gt x0.Queries k35).Id), .int .i64 ((gt x0.Queries k35).Tenant), .slice A57 ((gt x0.Queries k35).Conds).length c58, .slice A62 ((gt x0.Queries k35).Out).length c63]
  refine wv (fun W hm => rv_loadN (cs := K6) underlying39 type39 rfl rfl (hm.elCells (show (a45.add (k35 * 4)).block < w.heap.size from by rw [add_block]; exact hb46.1) hc48)) ?_
  refine WM_alloc type39 rfl (Wd_none rfl) (by decide) (fun p66 => ?_)
  let K7 : List Value := [.slice (some a45) x0.Queries.length c7, .slice A11 x0.Fields.length c12]
  refine sb 0 K6 [I10, I9, iBox p31 27 K7] (fun W hm => hm) type39 ?_
  refine nt' (CM_region (wm ?_))
  refine wv (vf underlying39 rfl type3) ?_
  refine wv (vl 0 0 underlying3) ?_
  refine WM_build (cs := [.int .i64 ((gt x0.Queries k35).Id)]) underlying37 type3 rfl (by decide) (by decide) rfl (by kernel_rfl) (Wd_none rfl) (by decide) (fun p67 => ?_)
  refine ap1 tInt 3 (.slice A37 d36.length c38) d36 ((gt x0.Queries k35).Id) [] [iBox p66 39 K6, I9, iBox p31 27 K7] [.int .i64 ((gt x0.Queries k35).Id)] (pk [0, 2, 1, 3, 4]) (fun _ _ hs => by cases (Sep.nil hs); exact (els_cons tInt_own els_nil)) underlying37 type3 (show (d36.length + 1) * 8 ≤ 140737488355328 from by omega) (fun v68 => ?_)
  refine WM_form (n := 0) rfl ?_
  rintro A69 c70 rfl m71
  refine wa (WM_nil (QM_block_normal (QM_then (CM_region ?_))))
  refine wv (vadN k35 1 (by omega)) ?_
  refine wm (WM_nil ?_)
  have hn73 := rng_next (R := ((List Int) × Int)) (body := F1) (k := k35) (s := d36) (s' := (d36 ++ [(gt x0.Queries k35).Id])) (show k35 < x0.Queries.length from by omega) (show impl_probe_b1 x0 k35 d36 = Sum.inr (d36 ++ [(gt x0.Queries k35).Id]) from by unfold impl_probe_b1; exact rfl) hF40
  exact QM_round (k35 + 1, (d36 ++ [(gt x0.Queries k35).Id]), (A69, c70)) sl7 (pk [0, 2, 3]) ⟨(by omega), hn73, (show (d36 ++ [(gt x0.Queries k35).Id]).length ≤ 0 + (k35 + 1) from by first | omega | (simp only [List.length_append, List.length_cons, List.length_nil] at *; omega))⟩ (rl (by omega))
 ·have g44 : (decide (((k35 : Nat) : Int) < ((x0.Queries.length : Nat) : Int))) = false := decide_eq_false (by omega)
  refine CM_condF rfl g44 ?_
  refine CM_exit (QM_then_exit (QM_then_exit ?_))
  have hE74 : R3 (x0.Queries.length - 0) 0 [] = Sum.inr d36 := rng_end hl43 hF40
  refine QM_block_hit (QM_then (sr (wa (nt' (CM_seq (sr (wm ?_)))))))
  refine wv (vlen underlying37) ?_
  refine wm (nt' ?_)
  let F2 := fun k (s : (List Int) × Int) => impl_probe_b2 x0 x1 x2 k s.1 s.2
  let R4 := rngb (R := ((List Int) × Int)) F2
  refine CM_cut (σ := ((List Int) × Int) × (Option Addr × Nat)) (fun s => [(8, .slice s.2.1 s.1.1.length s.2.2), (11, .int .i64 s.1.2)]) (fun s => [iOwn (tSl tInt 3) [.slice s.2.1 s.1.1.length s.2.2] s.1.1, I9, iBox p31 27 K5]) (fun s => R4 (x2.length - 0) 0 (d36, 0) = Sum.inr s.1) ?_ ?_
  ·
   refine CM_block ?_
   refine CM_loop (σ := Nat × ((List Int) × Int) × (Option Addr × Nat)) (fun s => [(3, .pointer (some (⟨p31, 0, none⟩ : Addr))), (4, .pointer (some (⟨p32, 0, none⟩ : Addr))), (8, .slice s.2.2.1 s.2.1.1.length s.2.2.2), (11, .int .i64 s.2.1.2), (29, .slice A23 x2.length c24), (30, .int .i64 ((x2.length : Nat) : Int)), (31, .int .i64 ((s.1 : Nat) : Int))]) (fun s => [iOwn (tSl tInt 3) [.slice s.2.2.1 s.2.1.1.length s.2.2.2] s.2.1.1, I9, iBox p31 27 K5]) (fun s => s.1 ≤ x2.length ∧ R4 (x2.length - s.1) s.1 s.2.1 = R4 (x2.length - 0) 0 (d36, 0) ∧ s.2.1.1.length ≤ 68719476736) (fun s => x2.length - s.1) (0, (d36, 0), (A37, c38)) sl7 (fun W hm => hm) ⟨(by omega), rfl, (by have := s_0.1.1; dsimp only; omega)⟩ ?_
   rintro ⟨k75, ⟨d76, s79⟩, ⟨A77, c78⟩⟩ H82
   obtain ⟨hk80, hF81, hi83⟩ : k75 ≤ x2.length ∧ R4 (x2.length - k75) k75 (d76, s79) = R4 (x2.length - 0) 0 (d36, 0) ∧ d76.length ≤ 68719476736 := H82
   let I11 : It := iOwn (tSl tInt 3) [.slice A77 d76.length c78] d76
   show CM Try.prog 63 _ _ _ _ [(3, .pointer (some (⟨p31, 0, none⟩ : Addr))), (4, .pointer (some (⟨p32, 0, none⟩ : Addr))), (8, .slice A77 d76.length c78), (11, .int .i64 s79), (29, .slice A23 x2.length c24), (30, .int .i64 ((x2.length : Nat) : Int)), (31, .int .i64 ((k75 : Nat) : Int))] [I11, I9, iBox p31 27 K5]
   refine sr ?_
   refine wv vlss ?_
   refine nt' (CM_seq ?_)
   by_cases hl84 : k75 < x2.length
   ·have g85 : (decide (((k75 : Nat) : Int) < ((x2.length : Nat) : Int))) = true := decide_eq_true (by omega)
    have hq := ho _ (gt_mem (show k75 < x2.length from by omega))
    refine CM_condT rfl g85 ?_
    refine CM_skip (QM_then (CM_seq (CM_block (sr ?_))))
    obtain ⟨a86, rfl, hb87, he88⟩ := q25 (by omega)
    refine wv (vix 1 k75 underlying37 type3) ?_
    refine wv (fun W hm => rv_load underlying3 rfl rfl ((hm.cell0 (show (a86.add (k75 * 1)).block < w.heap.size from by rw [add_block]; exact hb87.1)).trans (rdS_int he88 k75 (by omega)))) ?_
    refine wa (nt' (CM_seq (sr (wm ?_))))
    refine wv (vlen underlying37) ?_
    refine wv (fun W hm => rv_eql rfl rfl) ?_
    refine nt' ?_
    by_cases h89 : ((d76.length : Nat) : Int) = 0
    ·have g90 : (((d76.length : Nat) : Int) == 0) = true := beq_iff_eq.2 h89
     refine CM_condT rfl g90 ?_
     refine CM_exit (QM_then_exit ?_)
     refine QM_block_miss (by decide) ?_
     refine QM_then_exit (QM_then_exit (QM_block_hit ?_))
     have hE91 := rngb_brk (R := ((List Int) × Int)) (body := F2) (k := k75) (s := (d76, s79)) (s' := (d76, s79)) (show k75 < x2.length from by omega) (show impl_probe_b2 x0 x1 x2 k75 d76 s79 = Sum.inr (Sum.inl (d76, s79)) from by unfold impl_probe_b2; exact cond_t g90 (rfl)) hF81
     exact QM_cut_normal ((d76, s79), (A77, c78)) sl2 (fun W hm => hm) hE91
    ·have g90 : (((d76.length : Nat) : Int) == 0) = false := beq_eq_false_iff_ne.2 h89
     refine CM_condF rfl g90 ?_
     refine CM_skip (QM_then (CM_seq ?_))
     obtain ⟨a92, rfl, hb93, he94⟩ := q13 (by omega)
     obtain ⟨_, e96, hc95⟩ := he94 ((gt x2 k75).toNat) _ (gt_some (show ((gt x2 k75).toNat) < x0.Fields.length from by omega))
     have l97 : (gt x0.Fields ((gt x2 k75).toNat)).length ≤ 68719476736 := (s_0.2.2 _ (gt_mem (show ((gt x2 k75).toNat) < x0.Fields.length from by omega))).1
     obtain ⟨v98, rfl, r99⟩ := e96
     have r104 := r99
     obtain ⟨m100, A101, c102, rfl, q103⟩ := r99
     obtain ⟨a105, rfl, hb106, he107⟩ := q20 (by omega)
     let K8 : List Value := [.slice A6 x0.Queries.length c7, .slice (some a92) x0.Fields.length c12]
     let I12 : It := iBox p32 50 [.int .i64 x1.Id, .slice (some a105) x1.Values.length c19]
     refine CM_cut (σ := Option Addr × Nat) (fun s => [(3, .pointer (some (⟨p31, 0, none⟩ : Addr))), (4, .pointer (some (⟨p32, 0, none⟩ : Addr))), (8, .slice A77 d76.length c78), (11, .int .i64 s79), (29, .slice (some a86) x2.length c24), (30, .int .i64 ((x2.length : Nat) : Int)), (31, .int .i64 ((k75 : Nat) : Int)), (14, .slice s.1 (impl_FindSpan_m (gt x0.Fields ((gt x2 k75).toNat)) (gt x1.Values ((gt x2 k75).toNat))).length s.2)]) (fun s => [iOwn (tSl tInt 3) [.slice s.1 (impl_FindSpan_m (gt x0.Fields ((gt x2 k75).toNat)) (gt x1.Values ((gt x2 k75).toNat))).length s.2] (impl_FindSpan_m (gt x0.Fields ((gt x2 k75).toNat)) (gt x1.Values ((gt x2 k75).toNat))), I11, I12, iBox p31 27 K8]) (fun _ => True) ?_ ?_
     ·
      refine rb 12 (s := [I11]) (pk [0]) ?_
      refine qt 12 0 1 rfl (vf underlying27 rfl type25) ?_
      refine qt 12 2 5 rfl vmv ?_
      refine qt 12 5 37 rfl (vf underlying50 rfl type37) ?_
      refine qt 12 7 165 rfl vmv ?_
      refine qa [1, 6] ?_
      refine qc 12 167 rfl ?_ ?_
      ·
       refine wv (vl 2 1 underlying25) ?_
       refine qn (pk [0]) ?_
       refine qt 12 3 175 rfl (fun W hm => rv_indexI (sz := 1) (k := (gt x2 k75)) underlying25 type78 rfl rfl rfl (by omega) (by omega)) ?_
       refine qt 12 4 191 rfl (fun W hm => rv_load underlying78 rfl rfl ((hm.cell0 (show (a92.add (((gt x2 k75).toNat) * 1)).block < w.heap.size from by rw [add_block]; exact hb93.1)).trans (hc95 0 _ rfl))) ?_
       refine qo 12 6 255 rfl ?_
       refine wv (vl 1 1 underlying37) ?_
       refine qn (pk [0]) ?_
       refine qt 12 8 511 rfl (fun W hm => rv_indexI (sz := 1) (k := (gt x2 k75)) underlying37 type3 rfl rfl rfl (by omega) (by omega)) ?_
       refine qt 12 9 1023 rfl (fun W hm => rv_load underlying3 rfl rfl ((hm.cell0 (show (a105.add (((gt x2 k75).toNat) * 1)).block < w.heap.size from by rw [add_block]; exact hb106.1)).trans (rdS_int he107 ((gt x2 k75).toNat) (by omega)))) ?_
       refine qo 12 10 2047 rfl ?_
       refine wcl (tSl tInt 3) (impl_FindSpan_m (gt x0.Fields ((gt x2 k75).toNat)) (gt x1.Values ((gt x2 k75).toNat))) (cl_fn cb132 rfl) (fun W hm => impl_FindSpan_c W _ (gt x0.Fields ((gt x2 k75).toNat)) (gt x1.Values ((gt x2 k75).toNat)) (hm.rdS0 r104) (s_0.2.2 _ (gt_mem (show ((gt x2 k75).toNat) < x0.Fields.length from by omega)))) (fun z113 => ?_)
       refine WM_form (n := 0) rfl ?_
       rintro A114 c115 rfl m116
       refine qn (pk [1]) ?_
       refine qt 12 11 4095 rfl (fun W hm => rv_assign rfl) ?_
       refine QB_done (by kernel_rfl) ?_
       exact QM_cut_normal (A114, c115) sl8 (fun W hm => hm) trivial
      refine qc 12 229 rfl ?_ ?_
      ·
       refine wv (vl 1 1 underlying37) ?_
       refine qn (pk [0]) ?_
       refine qt 12 8 485 rfl (fun W hm => rv_indexI (sz := 1) (k := (gt x2 k75)) underlying37 type3 rfl rfl rfl (by omega) (by omega)) ?_
       refine qt 12 9 997 rfl (fun W hm => rv_load underlying3 rfl rfl ((hm.cell0 (show (a105.add (((gt x2 k75).toNat) * 1)).block < w.heap.size from by rw [add_block]; exact hb106.1)).trans (rdS_int he107 ((gt x2 k75).toNat) (by omega)))) ?_
       refine qo 12 1 999 rfl ?_
       refine wv (vl 2 1 underlying25) ?_
       refine qn (pk [0]) ?_
       refine qt 12 3 1007 rfl (fun W hm => rv_indexI (sz := 1) (k := (gt x2 k75)) underlying25 type78 rfl rfl rfl (by omega) (by omega)) ?_
       refine qt 12 4 1023 rfl (fun W hm => rv_load underlying78 rfl rfl ((hm.cell0 (show (a92.add (((gt x2 k75).toNat) * 1)).block < w.heap.size from by rw [add_block]; exact hb93.1)).trans (hc95 0 _ rfl))) ?_
       refine qo 12 10 2047 rfl ?_
       refine wcl (tSl tInt 3) (impl_FindSpan_m (gt x0.Fields ((gt x2 k75).toNat)) (gt x1.Values ((gt x2 k75).toNat))) (cl_fn cb132 rfl) (fun W hm => impl_FindSpan_c W _ (gt x0.Fields ((gt x2 k75).toNat)) (gt x1.Values ((gt x2 k75).toNat)) (hm.rdS0 r104) (s_0.2.2 _ (gt_mem (show ((gt x2 k75).toNat) < x0.Fields.length from by omega)))) (fun z118 => ?_)
       refine WM_form (n := 0) rfl ?_
       rintro A119 c120 rfl m121
       refine qn (pk [1]) ?_
       refine qt 12 11 4095 rfl (fun W hm => rv_assign rfl) ?_
       refine QB_done (by kernel_rfl) ?_
       exact QM_cut_normal (A119, c120) sl8 (fun W hm => hm) trivial
      exact QBs_nil
     ·
      rintro ⟨A109, c110⟩ -
      show QM 63 _ _ _ .normal [(3, .pointer (some (⟨p31, 0, none⟩ : Addr))), (4, .pointer (some (⟨p32, 0, none⟩ : Addr))), (8, .slice A77 d76.length c78), (11, .int .i64 s79), (29, .slice (some a86) x2.length c24), (30, .int .i64 ((x2.length : Nat) : Int)), (31, .int .i64 ((k75 : Nat) : Int)), (14, .slice A109 (impl_FindSpan_m (gt x0.Fields ((gt x2 k75).toNat)) (gt x1.Values ((gt x2 k75).toNat))).length c110)] [iOwn (tSl tInt 3) [.slice A109 (impl_FindSpan_m (gt x0.Fields ((gt x2 k75).toNat)) (gt x1.Values ((gt x2 k75).toNat))).length c110] (impl_FindSpan_m (gt x0.Fields ((gt x2 k75).toNat)) (gt x1.Values ((gt x2 k75).toNat))), I11, I12, iBox p31 27 K8]
      refine QM_len (n := 0) rfl ?_
      intro m123 m124
      refine QM_then (sr (wm (wm ?_)))
      refine wv (vlen underlying37) ?_
      refine wm ?_
      refine wv (vlen underlying37) ?_
      refine wv (fun W hm => rv_min rfl rfl) ?_
      refine wv vadd ?_
      refine wv vadd ?_
      refine wa (nt' (CM_region (wm (wm ?_))))
      refine wcl (tSl tInt 3) (impl_MeetSets_m d76 (impl_FindSpan_m (gt x0.Fields ((gt x2 k75).toNat)) (gt x1.Values ((gt x2 k75).toNat)))) (cl_fn cb52 rfl) (fun W hm => impl_MeetSets_c W _ d76 _ (impl_FindSpan_m (gt x0.Fields ((gt x2 k75).toNat)) (gt x1.Values ((gt x2 k75).toNat))) (hm.rdSI (n := 1) rfl) (hm.rdSI (n := 0) rfl) (show _ ≤ 68719476736 from by omega) (impl_FindSpan_sm (s_0.2.2 _ (gt_mem (by omega))).2 _)) (fun z125 => ?_)
      refine WM_form (n := 0) rfl ?_
      rintro A126 c127 rfl m128
      refine wa (WM_nil (QM_block_normal (QM_then (CM_region ?_))))
      refine wv (vadN k75 1 (by omega)) ?_
      refine wm (WM_nil ?_)
      have hn130 := rngb_next (R := ((List Int) × Int)) (body := F2) (k := k75) (s := (d76, s79)) (s' := ((impl_MeetSets_m d76 (impl_FindSpan_m (gt x0.Fields ((gt x2 k75).toNat)) (gt x1.Values ((gt x2 k75).toNat)))), (IntKind.i64.wrap (s79 + (IntKind.i64.wrap (1 + (if (((impl_FindSpan_m (gt x0.Fields ((gt x2 k75).toNat)) (gt x1.Values ((gt x2 k75).toNat))).length : Nat) : Int) < ((d76.length : Nat) : Int) then (((impl_FindSpan_m (gt x0.Fields ((gt x2 k75).toNat)) (gt x1.Values ((gt x2 k75).toNat))).length : Nat) : Int) else ((d76.length : Nat) : Int)))))))) (show k75 < x2.length from by omega) (show impl_probe_b2 x0 x1 x2 k75 d76 s79 = Sum.inr (Sum.inr ((impl_MeetSets_m d76 (impl_FindSpan_m (gt x0.Fields ((gt x2 k75).toNat)) (gt x1.Values ((gt x2 k75).toNat)))), (IntKind.i64.wrap (s79 + (IntKind.i64.wrap (1 + (if (((impl_FindSpan_m (gt x0.Fields ((gt x2 k75).toNat)) (gt x1.Values ((gt x2 k75).toNat))).length : Nat) : Int) < ((d76.length : Nat) : Int) then (((impl_FindSpan_m (gt x0.Fields ((gt x2 k75).toNat)) (gt x1.Values ((gt x2 k75).toNat))).length : Nat) : Int) else ((d76.length : Nat) : Int)))))))) from by unfold impl_probe_b2; exact cond_f g90 (rfl)) hF81
      exact QM_round (k75 + 1, ((impl_MeetSets_m d76 (impl_FindSpan_m (gt x0.Fields ((gt x2 k75).toNat)) (gt x1.Values ((gt x2 k75).toNat)))), (IntKind.i64.wrap (s79 + (IntKind.i64.wrap (1 + (if (((impl_FindSpan_m (gt x0.Fields ((gt x2 k75).toNat)) (gt x1.Values ((gt x2 k75).toNat))).length : Nat) : Int) < ((d76.length : Nat) : Int) then (((impl_FindSpan_m (gt x0.Fields ((gt x2 k75).toNat)) (gt x1.Values ((gt x2 k75).toNat))).length : Nat) : Int) else ((d76.length : Nat) : Int))))))), (A126, c127)) sl7 (pk [0, 3, 4]) ⟨(by omega), hn130, (show (impl_MeetSets_m d76 (impl_FindSpan_m (gt x0.Fields ((gt x2 k75).toNat)) (gt x1.Values ((gt x2 k75).toNat)))).length ≤ 68719476736 from by exact Nat.le_trans (MeetSets_len _ _) hi83)⟩ (rl (by omega))
   ·have g85 : (decide (((k75 : Nat) : Int) < ((x2.length : Nat) : Int))) = false := decide_eq_false (by omega)
    refine CM_condF rfl g85 ?_
    refine CM_exit (QM_then_exit (QM_then_exit (QM_block_hit ?_)))
    have hE131 : R4 (x2.length - 0) 0 (d36, 0) = Sum.inr (d76, s79) := rngb_end hl84 hF81
    exact QM_cut_normal ((d76, s79), (A77, c78)) sl2 (fun W hm => hm) hE131
  ·
   rintro ⟨⟨d76, s79⟩, ⟨A77, c78⟩⟩ H133
   have hE132 : R4 (x2.length - 0) 0 (d36, 0) = Sum.inr (d76, s79) := H133
   show QM 63 _ _ _ .normal [(8, .slice A77 d76.length c78), (11, .int .i64 s79)] [iOwn (tSl tInt 3) [.slice A77 d76.length c78] d76, I9, iBox p31 27 K5]
   refine QM_then (sr (wm (wm (wa (wa (nt' (CM_ret ?_)))))))
   refine QM_r2 rfl (RR_tmp rfl) (RR_tmp rfl) (fun W hm => ⟨.slice A77 d76.length c78, ?_, ?_⟩)
   ·first | rw [(show impl_probe_m x0 x1 x2 = (d76, s79) from by unfold impl_probe_m; exact fin_inr hE74 (fin_inr hE132 (rfl)))] | rfl
    try rfl
   ·rw [(show impl_probe_m x0 x1 x2 = (d76, s79) from by unfold impl_probe_m; exact fin_inr hE74 (fin_inr hE132 (rfl)))]; exact (hm.pick [0] (by decide))

theorem IsRow_same (x : DRow) : impl_IsRow_m x = spec_IsRow_m x := rfl
theorem l1In_and (x a b : Int) : spec_l1In_m x a b = (decide (a ≤ x) && decide (x ≤ b)) := by
  unfold spec_l1In_m
  rw [cb_and]
theorem isOrder_same (x : List Int) : impl_isOrder_m x = spec_l6Order_m x := by
  unfold impl_isOrder_m spec_l6Order_m
  rw [rng_allN (n := 3) (p := fun k => impl_hasInt_m x k) (r := false) (fun k _ => rfl)]
  rw [rng_allN (p := fun k => spec_l1In_m (gt x k) 0 2 && !spec_HasMember_m (List.take k x) (gt x k)) (r := false) (fun k _ => by
    unfold spec_l6Order_b1
    cases spec_l1In_m (gt x k) 0 2 <;> cases spec_HasMember_m (List.take k x) (gt x k) <;> rfl)]
  have hm : ∀ (y : List Int) (i : Int), spec_HasMember_m y i = y.any fun z => z == i := hasInt_any
  by_cases h : x.length = 3
  · match x, h with
    | [a, b, c], _ =>
      simp only [hasInt_any, hm, l1In_and]
      have h3 : List.range 3 = [0, 1, 2] := rfl
      have h8 : [a, b, c].length = 3 := rfl
      have e0 : gt [a, b, c] 0 = a := rfl
      have e1 : gt [a, b, c] 1 = b := rfl
      have e2 : gt [a, b, c] 2 = c := rfl
      rw [h8, h3]
      simp only [List.all_cons, List.all_nil]
      rw [e0, e1, e2]
      simp only [List.any_cons, List.any_nil, List.take]
      simp only [cb_rng, cb_nand, Bool.and_true, Bool.or_false, Bool.not_false]
      rw [Bool.eq_iff_iff]
      simp only [Bool.and_eq_true, Bool.or_eq_true, beq_iff_eq, decide_eq_true_eq, Bool.not_eq_true', Bool.or_eq_false_iff, beq_eq_false_iff_ne, bne, ne_eq]
      have h4 : ((3 : Nat) : Int) = 3 := rfl
      have h5 : ((0 : Nat) : Int) = 0 := rfl
      have h6 : ((1 : Nat) : Int) = 1 := rfl
      have h7 : ((2 : Nat) : Int) = 2 := rfl
      simp only [h4, h5, h6, h7, beq_self_eq_true, Bool.not_true, and_true, true_and]
      constructor <;> intro h <;> omega
  · have h1 : (((x.length : Nat) : Int) == 3) = false := beq_eq_false_iff_ne.2 (by omega)
    have h2 : (((x.length : Nat) : Int) != 3) = true := bne_iff_ne.2 (by omega)
    rw [h1, h2]
    cases (List.range 3).all fun k => impl_hasInt_m x k <;> rfl
theorem impl_IsRow_len {r : DRow} (h : impl_IsRow_m r = true) : r.Values.length = 3 := spec_IsRow_len (by rw [← IsRow_same]; exact h)
theorem impl_IsIndex_fact {x : DIndex} (h : impl_IsIndex_m x = true) : x.Fields.length = 3 := by
  unfold impl_IsIndex_m at h
  cases h1 : impl_AreQueries_m x.Queries <;> rw [h1] at h
  · cases h
  · by_cases h2 : ((x.Fields.length : Nat) : Int) = 3
    · omega
    · rw [bne_iff_ne.2 h2] at h
      cases h
theorem impl_Order_fact {x : List Int} (h : impl_isOrder_m x = true) : ∀ y ∈ x, 0 ≤ y ∧ y ≤ 2 := spec_Order_fact (by rw [← isOrder_same]; exact h)
def impl_ProbeSet_m (x0 : DIndex) (x1 : DRow) (x2 : (List Int)) : ((List Int) × Int) :=
 cond (impl_IsIndex_m x0) (cond (impl_IsRow_m x1) (cond (impl_isOrder_m x2) ((impl_probe_m x0 x1 x2).1, (impl_probe_m x0 x1 x2).2) ([], 0)) ([], 0)) ([], 0)
theorem cb82 : Cb Try.prog 82 := ⟨f82, _, func82, rfl, by decide⟩
theorem impl_ProbeSet_c (w : World) (z0 : List Value) (x0 : DIndex) (z1 : List Value) (x1 : DRow) (z2 : Value) (x2 : (List Int)) (r_0 : tyIndex.rd w w.heap.size z0 x0) (r_1 : tyRow.rd w w.heap.size z1 x1) (r_2 : rdS tInt w w.heap.size z2 x2) (s_0 : smIndex 68719476736 x0) (s_1 : smRow 68719476736 x1) (s_2 : x2.length ≤ 68719476736) :
  Calls Try.prog 82 #[.agg z0.toArray, .agg z1.toArray, z2] w fun e w' => ∃ v : Value, e = .returned (.tuple #[v, .int .i64 ((impl_ProbeSet_m x0 x1 x2).2)]) ∧ Mem w.heap.size w [iOwn (tSl tInt 3) [v] (impl_ProbeSet_m x0 x1 x2).1] w' := by
 obtain ⟨v1, v3, rfl, r2, r4⟩ := tyIndex_rd r_0
 have r9 := r2
 obtain ⟨m5, A6, c7, rfl, q8⟩ := r2
 have r14 := r4
 obtain ⟨m10, A11, c12, rfl, q13⟩ := r4
 obtain ⟨v15, rfl, r16⟩ := tyRow_rd r_1
 have r21 := r16
 obtain ⟨m17, A18, c19, rfl, q20⟩ := r16
 have r26 := r_2
 obtain ⟨m22, A23, c24, rfl, q25⟩ := r_2
 have l27 : x0.Queries.length ≤ 68719476736 := s_0.1.1
 have l28 : x0.Fields.length ≤ 68719476736 := s_0.2.1
 have l29 : x1.Values.length ≤ 68719476736 := s_1
 have l30 : x2.length ≤ 68719476736 := s_2
 refine ce3 (L := [(0, .agg #[.slice A6 x0.Queries.length c7, .slice A11 x0.Fields.length c12]), (1, .agg #[.int .i64 x1.Id, .slice A18 x1.Values.length c19]), (2, .slice A23 x2.length c24)]) (N := 27) func82 ?_
 refine sr ?_
 refine WM_box rfl (Wd_none rfl) (by decide) (fun p31 => ?_)
 refine WM_box rfl (Wd_none rfl) (by decide) (fun p32 => ?_)
 refine wa (wa (nt' (CM_seq (sr ?_))))
 let K1 : List Value := [.slice A6 x0.Queries.length c7, .slice A11 x0.Fields.length c12]
 refine wv (fun W hm => rv_loadN (cs := K1) underlying27 type27 rfl rfl (hm.boxCells (n := 1) rfl)) ?_
 refine wcv (cl_fn cb37 rfl) (fun W hm => impl_IsIndex_c W _ x0 (tyIndex_mk (x := x0) (hm.rdS0 r9) (hm.rdS0 r14)) s_0) ?_
 refine wv vnot ?_
 refine wm ?_
 rcases Bool.eq_false_or_eq_true (impl_IsIndex_m x0) with g34 | g34
 ·
  have hf := impl_IsIndex_fact g34
  refine wg (fun W hm => rv_loadN (cs := [.int .i64 x1.Id, .slice A18 x1.Values.length c19]) underlying50 type50 rfl rfl (hm.boxCells (n := 0) rfl)) (nt g34) ?_
  refine WM_callV (cl_fn cb114 rfl) (fun W hm => impl_IsRow_c W _ x1 (tyRow_mk (x := x1) (hm.rdS0 r21))) (Wd_some rfl rfl rfl (bw (nt g34) rfl)) (by decide) ?_
  refine wg vnot (nt g34) ?_
  refine wv (vpF (nt g34)) ?_
  refine wm ?_
  rcases Bool.eq_false_or_eq_true (impl_IsRow_m x1) with g36 | g36
  ·
   have hv := impl_IsRow_len g36
   refine wg vmv (nt g36) ?_
   refine WM_callV (cl_fn cb115 rfl) (fun W hm => impl_isOrder_c W _ x2 (hm.rdS0 r26)) (Wd_some rfl rfl rfl (bw (nt g36) rfl)) (by decide) ?_
   refine wg vnot (nt g36) ?_
   refine wv (vpF (nt g36)) ?_
   refine nt' ?_
   rcases Bool.eq_false_or_eq_true (impl_isOrder_m x2) with g38 | g38
   ·
    have ho := impl_Order_fact g38
    refine CM_condF rfl (nt g38) ?_
    refine CM_skip (QM_then (sr ?_))
    refine wv (fun W hm => rv_loadN (cs := K1) underlying27 type27 rfl rfl (hm.boxCells (n := 1) rfl)) ?_
    refine wv (fun W hm => rv_loadN (cs := [.int .i64 x1.Id, .slice A18 x1.Values.length c19]) underlying50 type50 rfl rfl (hm.boxCells (n := 0) rfl)) ?_
    refine wm ?_
    refine WM_call (χ := Value) (val := fun x => .tuple #[x, .int .i64 ((impl_probe_m x0 x1 x2).2)]) (js := fun x => [iOwn (tSl tInt 3) [x] ((impl_probe_m x0 x1 x2).1)]) (cl_fn cb116 rfl) (fun W hm => impl_probe_c W _ x0 _ x1 _ x2 (tyIndex_mk (x := x0) (hm.rdS0 r9) (hm.rdS0 r14)) (tyRow_mk (x := x1) (hm.rdS0 r21)) (hm.rdS0 r26) s_0 s_1 s_2 (hf) (hv) (ho)) (Wd_none rfl) (by decide) (fun z39 => ?_)
    refine WM_form (n := 0) rfl ?_
    rintro A40 c41 rfl m42
    refine wv (fun W hm => rv_extract rfl rfl) ?_
    refine wv (fun W hm => rv_extract rfl rfl) ?_
    refine wa (wa (nt' (CM_ret ?_)))
    refine QM_r2 rfl (RR_tmp rfl) (RR_tmp rfl) (fun W hm => ⟨.slice A40 ((impl_probe_m x0 x1 x2).1).length c41, ?_, ?_⟩)
    ·first | rw [(show impl_ProbeSet_m x0 x1 x2 = ((impl_probe_m x0 x1 x2).1, (impl_probe_m x0 x1 x2).2) from by unfold impl_ProbeSet_m; exact cond_t g34 (cond_t g36 (cond_t g38 (rfl))))] | rfl
     try rfl
    ·rw [(show impl_ProbeSet_m x0 x1 x2 = ((impl_probe_m x0 x1 x2).1, (impl_probe_m x0 x1 x2).2) from by unfold impl_ProbeSet_m; exact cond_t g34 (cond_t g36 (cond_t g38 (rfl))))]; exact (hm.pick [0] (by decide))
   ·
    refine CM_condT rfl (nf g38) ?_
    refine sr (wa (wa (nt' (CM_ret (QM_then_ret ?_)))))
    refine QM_items (fun W hm => hm.addNil (E := tInt) (e := 3)) ?_
    refine QM_r2 rfl (RR_tmp rfl) (RR_tmp rfl) (fun W hm => ⟨.slice none 0 0, ?_, ?_⟩)
    ·first | rw [(show impl_ProbeSet_m x0 x1 x2 = ([], 0) from by unfold impl_ProbeSet_m; exact cond_t g34 (cond_t g36 (cond_f g38 (rfl))))] | rfl
     try rfl
    ·rw [(show impl_ProbeSet_m x0 x1 x2 = ([], 0) from by unfold impl_ProbeSet_m; exact cond_t g34 (cond_t g36 (cond_f g38 (rfl))))]; exact (hm.pick [0] (by decide))
  ·
   refine ws (nf g36) ?_
   refine ws (nf g36) ?_
   refine ws (nf g36) ?_
   refine wv (vpT (nf g36)) ?_
   refine nt' ?_
   refine CM_condT rfl rfl ?_
   refine sr (wa (wa (nt' (CM_ret (QM_then_ret ?_)))))
   refine QM_items (fun W hm => hm.addNil (E := tInt) (e := 3)) ?_
   refine QM_r2 rfl (RR_tmp rfl) (RR_tmp rfl) (fun W hm => ⟨.slice none 0 0, ?_, ?_⟩)
   ·first | rw [(show impl_ProbeSet_m x0 x1 x2 = ([], 0) from by unfold impl_ProbeSet_m; exact cond_t g34 (cond_f g36 (rfl)))] | rfl
    try rfl
   ·rw [(show impl_ProbeSet_m x0 x1 x2 = ([], 0) from by unfold impl_ProbeSet_m; exact cond_t g34 (cond_f g36 (rfl)))]; exact (hm.pick [0] (by decide))
 ·
  refine ws (nf g34) ?_
  refine ws (nf g34) ?_
  refine ws (nf g34) ?_
  refine wv (vpT (nf g34)) ?_
  refine wm ?_
  refine wk ?_
  refine wk ?_
  refine wk ?_
  refine wv (vpT rfl) ?_
  refine nt' ?_
  refine CM_condT rfl rfl ?_
  refine sr (wa (wa (nt' (CM_ret (QM_then_ret ?_)))))
  refine QM_items (fun W hm => hm.addNil (E := tInt) (e := 3)) ?_
  refine QM_r2 rfl (RR_tmp rfl) (RR_tmp rfl) (fun W hm => ⟨.slice none 0 0, ?_, ?_⟩)
  ·first | rw [(show impl_ProbeSet_m x0 x1 x2 = ([], 0) from by unfold impl_ProbeSet_m; exact cond_f g34 (rfl))] | rfl
   try rfl
  ·rw [(show impl_ProbeSet_m x0 x1 x2 = ([], 0) from by unfold impl_ProbeSet_m; exact cond_f g34 (rfl))]; exact (hm.pick [0] (by decide))

def impl_MatchSet_m (x0 : DIndex) (x1 : DRow) : (List Int) :=
 (impl_ProbeSet_m x0 x1 [0, 1, 2]).1
theorem cb38 : Cb Try.prog 38 := ⟨f38, _, func38, rfl, by decide⟩
theorem impl_MatchSet_c (w : World) (z0 : List Value) (x0 : DIndex) (z1 : List Value) (x1 : DRow) (r_0 : tyIndex.rd w w.heap.size z0 x0) (r_1 : tyRow.rd w w.heap.size z1 x1) (s_0 : smIndex 68719476736 x0) (s_1 : smRow 68719476736 x1) :
  Calls Try.prog 38 #[.agg z0.toArray, .agg z1.toArray] w fun e w' => ∃ v : Value, e = .returned (v) ∧ Mem w.heap.size w [iOwn (tSl tInt 3) [v] (impl_MatchSet_m x0 x1)] w' := by
 obtain ⟨v1, v3, rfl, r2, r4⟩ := tyIndex_rd r_0
 have r9 := r2
 obtain ⟨m5, A6, c7, rfl, q8⟩ := r2
 have r14 := r4
 obtain ⟨m10, A11, c12, rfl, q13⟩ := r4
 obtain ⟨v15, rfl, r16⟩ := tyRow_rd r_1
 have r21 := r16
 obtain ⟨m17, A18, c19, rfl, q20⟩ := r16
 have l22 : x0.Queries.length ≤ 68719476736 := s_0.1.1
 have l23 : x0.Fields.length ≤ 68719476736 := s_0.2.1
 have l24 : x1.Values.length ≤ 68719476736 := s_1
 refine ce2 (L := [(0, .agg #[.slice A6 x0.Queries.length c7, .slice A11 x0.Fields.length c12]), (1, .agg #[.int .i64 x1.Id, .slice A18 x1.Values.length c19])]) (N := 15) func38 ?_
 refine sr ?_
 refine WM_box rfl (Wd_none rfl) (by decide) (fun p25 => ?_)
 refine WM_box rfl (Wd_none rfl) (by decide) (fun p26 => ?_)
 refine wa (nt' (sr ?_))
 refine wv (fun W hm => rv_loadN (cs := [.slice A6 x0.Queries.length c7, .slice A11 x0.Fields.length c12]) underlying27 type27 rfl rfl (hm.boxCells (n := 1) rfl)) ?_
 refine wv (fun W hm => rv_loadN (cs := [.int .i64 x1.Id, .slice A18 x1.Values.length c19]) underlying50 type50 rfl rfl (hm.boxCells (n := 0) rfl)) ?_
 refine WM_build (cs := [.int .i64 0, .int .i64 1, .int .i64 2]) underlying37 type3 rfl (by decide) (by decide) rfl (by kernel_rfl) (Wd_none rfl) (by decide) (fun p27 => ?_)
 refine WM_items (fun W hm => Mem.litOwn (E := tInt) (xs := [0, 1, 2]) rfl (show 3 ≤ maxLen from by decide) (fun _ => (els_cons (E := tInt) (L1 := []) tInt_own (els_cons (E := tInt) (L1 := []) tInt_own (els_cons (E := tInt) (L1 := []) tInt_own els_nil)))) hm) ?_
 refine WM_call (χ := Value) (val := fun x => .tuple #[x, .int .i64 ((impl_ProbeSet_m x0 x1 [0, 1, 2]).2)]) (js := fun x => [iOwn (tSl tInt 3) [x] ((impl_ProbeSet_m x0 x1 [0, 1, 2]).1)]) (cl_fn cb82 rfl) (fun W hm => impl_ProbeSet_c W _ x0 _ x1 _ [0, 1, 2] (tyIndex_mk (x := x0) (hm.rdS0 r9) (hm.rdS0 r14)) (tyRow_mk (x := x1) (hm.rdS0 r21)) (hm.rdSI (n := 0) rfl) s_0 s_1 (show (3 : Nat) ≤ 68719476736 from by decide)) (Wd_none rfl) (by decide) (fun z29 => ?_)
 refine WM_form (n := 0) rfl ?_
 rintro A30 c31 rfl m32
 refine wm ?_
 refine wv (fun W hm => rv_extract rfl rfl) ?_
 refine wv (fun W hm => rv_extract rfl rfl) ?_
 refine wa (wa (nt' (sr (wm (wa (nt' (CM_ret ?_)))))))
 refine QM_r1 rfl (RR_tmp rfl) (fun W hm => ⟨.slice A30 ((impl_ProbeSet_m x0 x1 [0, 1, 2]).1).length c31, ?_, ?_⟩)
 ·first | rw [(show impl_MatchSet_m x0 x1 = (impl_ProbeSet_m x0 x1 [0, 1, 2]).1 from by unfold impl_MatchSet_m; exact rfl)] | rfl
 ·rw [(show impl_MatchSet_m x0 x1 = (impl_ProbeSet_m x0 x1 [0, 1, 2]).1 from by unfold impl_MatchSet_m; exact rfl)]; exact (hm.pick [0] (by decide))

def impl_copyRow_m (x0 : DRow) : DRow :=
 x0
theorem cb39 : Cb Try.prog 39 := ⟨f39, _, func39, rfl, by decide⟩
theorem impl_copyRow_c (w : World) (z0 : List Value) (x0 : DRow) (r_0 : tyRow.rd w w.heap.size z0 x0) (s_0 : smRow 68719476736 x0) :
  Calls Try.prog 39 #[.agg z0.toArray] w fun e w' => ∃ v : List Value, e = .returned (.agg v.toArray) ∧ Mem w.heap.size w [iOwn tyRow v (impl_copyRow_m x0)] w' := by
 obtain ⟨v1, rfl, r2⟩ := tyRow_rd r_0
 have r7 := r2
 obtain ⟨m3, A4, c5, rfl, q6⟩ := r2
 have l8 : x0.Values.length ≤ 68719476736 := s_0
 refine ce1 (L := [(0, .agg #[.int .i64 x0.Id, .slice A4 x0.Values.length c5])]) (N := 9) func39 ?_
 refine sr ?_
 refine WM_box rfl (Wd_none rfl) (by decide) (fun p9 => ?_)
 refine WM_alloc type50 rfl (Wd_none rfl) (by decide) (fun p10 => ?_)
 refine nt' (CM_seq ?_)
 let I1 : It := iBox p9 50 [.int .i64 x0.Id, .slice A4 x0.Values.length c5]
 refine rb 7 (s := [I1]) (pk [1]) ?_
 refine qt 7 0 1 rfl (vf underlying50 rfl type3) ?_
 refine qt 7 1 3 rfl (vl 0 0 underlying3) ?_
 refine qt 7 2 7 rfl (vf underlying50 rfl type37) ?_
 refine qt 7 3 15 rfl (vl 0 1 underlying37) ?_
 refine qo 7 4 31 rfl ?_
 refine wcl (tSl tInt 3) x0.Values (cl_fn cb83 rfl) (fun W hm => impl_copyInts_c2 W _ x0.Values (hm.rdS0 r7) s_0) (fun z11 => ?_)
 refine WM_form (n := 0) rfl ?_
 rintro A12 c13 rfl m14
 refine qn (pk [2]) ?_
 refine qt 7 5 63 rfl (fun W hm => rv_build (cs := [.int .i64 x0.Id, .slice A12 x0.Values.length c13]) rfl (by kernel_rfl)) ?_
 refine qo 7 6 127 rfl ?_
 let I2 : It := iOwn (tSl tInt 3) [.slice A12 x0.Values.length c13] x0.Values
 refine sb 0 [.int .i64 x0.Id, .slice A12 x0.Values.length c13] [I2, I1] (pk [1, 0, 2]) type50 ?_
 refine qn (pk [2]) ?_
 refine QB_done (by kernel_rfl) ?_
 refine QM_then (CM_ret ?_)
 refine QM_r1 rfl (RR_cell (n := 0) rfl rfl underlying50 type50 rfl) (fun W hm => ⟨[.int .i64 x0.Id, .slice A12 x0.Values.length c13], ?_, ?_⟩)
 ·first | rw [(show impl_copyRow_m x0 = x0 from by unfold impl_copyRow_m; exact rfl)] | rfl
 ·rw [(show impl_copyRow_m x0 = x0 from by unfold impl_copyRow_m; exact rfl)]; exact Mem.join (is := [I2]) (js := []) (fun _ _ hs => tyRow_join (x := x0) hs) (hm.pick [1] (by decide))
theorem impl_copyRow_eq (x0 : DRow) : impl_copyRow_m x0 = x0 := by
 rfl
theorem impl_copyRow_c2 (w : World) (z0 : List Value) (x0 : DRow) (r_0 : tyRow.rd w w.heap.size z0 x0) (s_0 : smRow 68719476736 x0) :
  Calls Try.prog 39 #[.agg z0.toArray] w fun e w' => ∃ v : List Value, e = .returned (.agg v.toArray) ∧ Mem w.heap.size w [iOwn tyRow v x0] w' := by
 have h := impl_copyRow_c w z0 x0 r_0 s_0
 rw [impl_copyRow_eq] at h
 exact h

def impl_AnnotateRows_b1 (x0 : DIndex) (x1 : (List DRow)) (k28 : Nat) (d29 : (List DAnnotated)) : (List DAnnotated) ⊕ ((List DAnnotated)) :=
 cond (decide (0 < (((impl_MatchSet_m x0 (gt x1 k28)).length : Nat) : Int))) (Sum.inr (d29 ++ [(⟨(gt x1 k28), (impl_MatchSet_m x0 (gt x1 k28))⟩ : DAnnotated)])) (Sum.inr d29)
def impl_AnnotateRows_m (x0 : DIndex) (x1 : (List DRow)) : (List DAnnotated) :=
 cond (impl_IsIndex_m x0) (Sum.elim id (fun (s : (List DAnnotated)) => s) (rng (R := (List DAnnotated)) (fun k (s : (List DAnnotated)) => impl_AnnotateRows_b1 x0 x1 k s) (x1.length - 0) 0 [])) []
theorem cb7 : Cb Try.prog 7 := ⟨f7, _, func7, rfl, by decide⟩
theorem impl_AnnotateRows_c (w : World) (z0 : List Value) (x0 : DIndex) (z1 : Value) (x1 : (List DRow)) (r_0 : tyIndex.rd w w.heap.size z0 x0) (r_1 : rdS tyRow w w.heap.size z1 x1) (s_0 : smIndex 68719476736 x0) (s_1 : (x1.length ≤ 68719476736 ∧ ∀ y ∈ x1, smRow 68719476736 y)) :
  Calls Try.prog 7 #[.agg z0.toArray, z1] w fun e w' => ∃ v : Value, e = .returned (v) ∧ Mem w.heap.size w [iOwn (tSl tyAnnotated 52) [v] (impl_AnnotateRows_m x0 x1)] w' := by
 obtain ⟨v1, v3, rfl, r2, r4⟩ := tyIndex_rd r_0
 have r9 := r2
 obtain ⟨m5, A6, c7, rfl, q8⟩ := r2
 have r14 := r4
 obtain ⟨m10, A11, c12, rfl, q13⟩ := r4
 have r19 := r_1
 obtain ⟨m15, A16, c17, rfl, q18⟩ := r_1
 have l20 : x0.Queries.length ≤ 68719476736 := s_0.1.1
 have l21 : x0.Fields.length ≤ 68719476736 := s_0.2.1
 have l22 : x1.length ≤ 68719476736 := s_1.1
 refine ce2 (L := [(0, .agg #[.slice A6 x0.Queries.length c7, .slice A11 x0.Fields.length c12]), (1, .slice A16 x1.length c17)]) (N := 35) func7 ?_
 refine sr ?_
 refine WM_box rfl (Wd_none rfl) (by decide) (fun p23 => ?_)
 refine wa (nt' (sr ?_))
 refine WM_build0 (E := tyAnnotated) underlying31 type52 (Wd_none rfl) (by decide) (fun p24 => ?_)
 refine wa (nt' (CM_seq (sr ?_)))
 let K3 : List Value := [.slice A6 x0.Queries.length c7, .slice A11 x0.Fields.length c12]
 refine wv (fun W hm => rv_loadN (cs := K3) underlying27 type27 rfl rfl (hm.boxCells (n := 1) rfl)) ?_
 refine wcv (cl_fn cb37 rfl) (fun W hm => impl_IsIndex_c W _ x0 (tyIndex_mk (x := x0) (hm.rdS0 r9) (hm.rdS0 r14)) s_0) ?_
 refine wv vnot ?_
 refine nt' ?_
 rcases Bool.eq_false_or_eq_true (impl_IsIndex_m x0) with g27 | g27
 ·
  refine CM_condF rfl (nt g27) ?_
  refine CM_skip (QM_then (CM_seq (sr (wm ?_))))
  refine wv (vlen underlying28) ?_
  refine wm (nt' (CM_block ?_))
  let F1 := fun k (s : (List DAnnotated)) => impl_AnnotateRows_b1 x0 x1 k s
  let R2 := rng (R := (List DAnnotated)) F1
  refine CM_loop (σ := Nat × ((List DAnnotated)) × (Option Addr × Nat)) (fun s => [(2, .pointer (some (⟨p23, 0, none⟩ : Addr))), (5, .slice s.2.2.1 s.2.1.length s.2.2.2), (14, .slice A16 x1.length c17), (15, .int .i64 ((x1.length : Nat) : Int)), (16, .int .i64 ((s.1 : Nat) : Int))]) (fun s => [iOwn (tSl tyAnnotated 52) [.slice s.2.2.1 s.2.1.length s.2.2.2] s.2.1, iBox p23 27 K3]) (fun s => s.1 ≤ x1.length ∧ R2 (x1.length - s.1) s.1 s.2.1 = R2 (x1.length - 0) 0 [] ∧ s.2.1.length ≤ 0 + s.1) (fun s => x1.length - s.1) (0, [], ((some ⟨p24, 0, none⟩), 0)) sl5 (fun W hm => hm) ⟨(by omega), rfl, Nat.le_refl _⟩ ?_
  rintro ⟨k28, d29, ⟨A30, c31⟩⟩ H34
  obtain ⟨hk32, hF33, hi35⟩ : k28 ≤ x1.length ∧ R2 (x1.length - k28) k28 d29 = R2 (x1.length - 0) 0 [] ∧ d29.length ≤ 0 + k28 := H34
  let I6 : It := iOwn (tSl tyAnnotated 52) [.slice A30 d29.length c31] d29
  show CM Try.prog 35 _ _ _ _ [(2, .pointer (some (⟨p23, 0, none⟩ : Addr))), (5, .slice A30 d29.length c31), (14, .slice A16 x1.length c17), (15, .int .i64 ((x1.length : Nat) : Int)), (16, .int .i64 ((k28 : Nat) : Int))] [I6, iBox p23 27 K3]
  refine sr ?_
  refine wv vlss ?_
  refine nt' (CM_seq ?_)
  by_cases hl36 : k28 < x1.length
  ·have g37 : (decide (((k28 : Nat) : Int) < ((x1.length : Nat) : Int))) = true := decide_eq_true (by omega)
   refine CM_condT rfl g37 ?_
   refine CM_skip (QM_then (CM_seq (CM_block (sr ?_))))
   obtain ⟨a38, rfl, hb39, he40⟩ := q18 (by omega)
   refine wv (vix 2 k28 underlying28 type50) ?_
   obtain ⟨_, e44, hc41⟩ := he40 k28 _ (gt_some (show k28 < x1.length from by omega))
   obtain ⟨v42, rfl, r43⟩ := tyRow_rd e44
   have l45 : ((gt x1 k28).Values).length ≤ 68719476736 := (s_1.2 _ (gt_mem (show k28 < x1.length from by omega)))
   have r50 := r43
   obtain ⟨m46, A47, c48, rfl, q49⟩ := r43
   let K4 : List Value := [.int .i64 ((gt x1 k28).Id), .slice A47 ((gt x1 k28).Values).length c48]
   refine wv (fun W hm => rv_loadN (cs := K4) underlying50 type50 rfl rfl (hm.elCells (show (a38.add (k28 * 2)).block < w.heap.size from by rw [add_block]; exact hb39.1) hc41)) ?_
   refine WM_alloc type50 rfl (Wd_none rfl) (by decide) (fun p51 => ?_)
   refine sb 0 K4 [I6, iBox p23 27 K3] (fun W hm => hm) type50 ?_
   refine nt' (sr ?_)
   refine wv (fun W hm => rv_loadN (cs := K3) underlying27 type27 rfl rfl (hm.boxCells (n := 2) rfl)) ?_
   refine wv (fun W hm => rv_loadN (cs := K4) underlying50 type50 rfl rfl (hm.boxCells (n := 0) rfl)) ?_
   refine wcl (tSl tInt 3) (impl_MatchSet_m x0 (gt x1 k28)) (cl_fn cb38 rfl) (fun W hm => impl_MatchSet_c W _ x0 _ (gt x1 k28) (tyIndex_mk (x := x0) (hm.rdS0 r9) (hm.rdS0 r14)) (tyRow_mk (x := (gt x1 k28)) (hm.rdS0 r50)) s_0 (s_1.2 _ (gt_mem (show k28 < x1.length from by omega)))) (fun z52 => ?_)
   refine WM_form (n := 0) rfl ?_
   rintro A53 c54 rfl m55
   refine wa (nt' (sr (wm ?_)))
   refine wv (vlen underlying37) ?_
   refine wv (fun W hm => rv_gtr rfl rfl) ?_
   refine nt' ?_
   by_cases h57 : 0 < (((impl_MatchSet_m x0 (gt x1 k28)).length : Nat) : Int)
   ·have g58 : (decide (0 < (((impl_MatchSet_m x0 (gt x1 k28)).length : Nat) : Int))) = true := decide_eq_true h57
    refine CM_condT rfl g58 ?_
    refine CM_region (wm ?_)
    refine wv (fun W hm => rv_loadN (cs := K4) underlying50 type50 rfl rfl (hm.boxCells (n := 1) rfl)) ?_
    refine wcs tyRow (gt x1 k28) (cl_fn cb39 rfl) (fun W hm => impl_copyRow_c2 W _ (gt x1 k28) (tyRow_mk (x := (gt x1 k28)) (hm.rdS0 r50)) (s_1.2 _ (gt_mem (show k28 < x1.length from by omega)))) (fun z59 => ?_)
    refine tyRow_sp ?_
    rintro v60 rfl
    refine WM_form (n := 0) rfl ?_
    rintro A61 c62 rfl m63
    refine wm ?_
    let K5 : List Value := [.int .i64 ((gt x1 k28).Id), .slice A61 ((gt x1 k28).Values).length c62, .slice A53 (impl_MatchSet_m x0 (gt x1 k28)).length c54]
    refine wv (fun W hm => rv_build (cs := K5) rfl (by kernel_rfl)) ?_
    refine WM_build (cs := K5) underlying31 type52 rfl (by decide) (by decide) rfl (by kernel_rfl) (Wd_none rfl) (by decide) (fun p65 => ?_)
    refine ap1 tyAnnotated 52 (.slice A30 d29.length c31) d29 (⟨(gt x1 k28), (impl_MatchSet_m x0 (gt x1 k28))⟩ : DAnnotated) [iOwn (tSl tInt 3) [.slice A61 ((gt x1 k28).Values).length c62] ((gt x1 k28).Values), iOwn (tSl tInt 3) [.slice A53 (impl_MatchSet_m x0 (gt x1 k28)).length c54] (impl_MatchSet_m x0 (gt x1 k28))] [iBox p51 50 K4, iBox p23 27 K3] K5 (pk [0, 4, 1, 2, 3, 5]) (fun _ _ hs => Els.single (tyAnnotated_join (x := (⟨(gt x1 k28), (impl_MatchSet_m x0 (gt x1 k28))⟩ : DAnnotated)) hs)) underlying31 type52 (show (d29.length + 1) * 56 ≤ 140737488355328 from by omega) (fun v66 => ?_)
    refine WM_form (n := 0) rfl ?_
    rintro A67 c68 rfl m69
    refine wa (WM_nil (QM_block_normal (QM_then (CM_region ?_))))
    refine wv (vadN k28 1 (by omega)) ?_
    refine wm (WM_nil ?_)
    have hn71 := rng_next (R := (List DAnnotated)) (body := F1) (k := k28) (s := d29) (s' := (d29 ++ [(⟨(gt x1 k28), (impl_MatchSet_m x0 (gt x1 k28))⟩ : DAnnotated)])) (show k28 < x1.length from by omega) (show impl_AnnotateRows_b1 x0 x1 k28 d29 = Sum.inr (d29 ++ [(⟨(gt x1 k28), (impl_MatchSet_m x0 (gt x1 k28))⟩ : DAnnotated)]) from by unfold impl_AnnotateRows_b1; exact cond_t g58 (rfl)) hF33
    exact QM_round (k28 + 1, (d29 ++ [(⟨(gt x1 k28), (impl_MatchSet_m x0 (gt x1 k28))⟩ : DAnnotated)]), (A67, c68)) sl5 (pk [0, 2]) ⟨(by omega), hn71, (show (d29 ++ [(⟨(gt x1 k28), (impl_MatchSet_m x0 (gt x1 k28))⟩ : DAnnotated)]).length ≤ 0 + (k28 + 1) from by first | omega | (simp only [List.length_append, List.length_cons, List.length_nil] at *; omega))⟩ (rl (by omega))
   ·have g58 : (decide (0 < (((impl_MatchSet_m x0 (gt x1 k28)).length : Nat) : Int))) = false := decide_eq_false h57
    refine CM_condF rfl g58 ?_
    refine CM_skip (QM_block_normal (QM_then (CM_region ?_)))
    refine wv (vadN k28 1 (by omega)) ?_
    refine wm (WM_nil ?_)
    have hn72 := rng_next (R := (List DAnnotated)) (body := F1) (k := k28) (s := d29) (s' := d29) (show k28 < x1.length from by omega) (show impl_AnnotateRows_b1 x0 x1 k28 d29 = Sum.inr d29 from by unfold impl_AnnotateRows_b1; exact cond_f g58 (rfl)) hF33
    exact QM_round (k28 + 1, d29, (A30, c31)) sl5 (pk [2, 3]) ⟨(by omega), hn72, (show d29.length ≤ 0 + (k28 + 1) from by first | omega | (simp only [List.length_append, List.length_cons, List.length_nil] at *; omega))⟩ (rl (by omega))
  ·have g37 : (decide (((k28 : Nat) : Int) < ((x1.length : Nat) : Int))) = false := decide_eq_false (by omega)
   refine CM_condF rfl g37 ?_
   refine CM_exit (QM_then_exit (QM_then_exit ?_))
   have hE73 : R2 (x1.length - 0) 0 [] = Sum.inr d29 := rng_end hl36 hF33
   refine QM_block_hit (QM_then (sr (wm (wa (nt' (CM_ret ?_))))))
   refine QM_r1 rfl (RR_tmp rfl) (fun W hm => ⟨.slice A30 d29.length c31, ?_, ?_⟩)
   ·first | rw [(show impl_AnnotateRows_m x0 x1 = d29 from by unfold impl_AnnotateRows_m; exact cond_t g27 (fin_inr hE73 (rfl)))] | rfl
   ·rw [(show impl_AnnotateRows_m x0 x1 = d29 from by unfold impl_AnnotateRows_m; exact cond_t g27 (fin_inr hE73 (rfl)))]; exact (hm.pick [0] (by decide))
 ·
  refine CM_condT rfl (nf g27) ?_
  refine sr (wm (wa (nt' (CM_ret (QM_then_ret ?_)))))
  refine QM_r1 rfl (RR_tmp rfl) (fun W hm => ⟨.slice (some ⟨p24, 0, none⟩) 0 0, ?_, ?_⟩)
  ·first | rw [(show impl_AnnotateRows_m x0 x1 = [] from by unfold impl_AnnotateRows_m; exact cond_f g27 (rfl))] | rfl
  ·rw [(show impl_AnnotateRows_m x0 x1 = [] from by unfold impl_AnnotateRows_m; exact cond_f g27 (rfl))]; exact (hm.pick [0] (by decide))

def laws_eqIntS_b1 (x0 : (List Int)) (x1 : (List Int)) (k13 : Nat) : Bool ⊕ (Unit) :=
 cond ((gt x0 k13) != (gt x1 k13)) (Sum.inl false) (Sum.inr ())
def laws_eqIntS_m (x0 : (List Int)) (x1 : (List Int)) : Bool :=
 cond (((x0.length : Nat) : Int) != ((x1.length : Nat) : Int)) false (Sum.elim id (fun (s : Unit) => true) (rng (R := Bool) (fun k (_ : Unit) => laws_eqIntS_b1 x0 x1 k) (x0.length - 0) 0 ()))
theorem cb103 : Cb Try.prog 103 := ⟨f103, _, func103, rfl, by decide⟩
theorem laws_eqIntS_c (w : World) (z0 : Value) (x0 : (List Int)) (z1 : Value) (x1 : (List Int)) (r_0 : rdS tInt w w.heap.size z0 x0) (r_1 : rdS tInt w w.heap.size z1 x1) :
  Calls Try.prog 103 #[z0, z1] w fun e w' => e = .returned (.bool (laws_eqIntS_m x0 x1)) ∧ Below w.heap.size w w' := by
 have r5 := r_0
 obtain ⟨m1, A2, c3, rfl, q4⟩ := r_0
 have r10 := r_1
 obtain ⟨m6, A7, c8, rfl, q9⟩ := r_1
 refine ce2 (L := [(0, .slice A2 x0.length c3), (1, .slice A7 x1.length c8)]) (N := 26) func103 ?_
 refine sr (wa (nt' (CM_seq (sr (wm ?_)))))
 refine wv (vlen underlying37) ?_
 refine wm ?_
 refine wv (vlen underlying37) ?_
 refine wv vneq ?_
 refine nt' ?_
 by_cases h11 : ((x0.length : Nat) : Int) = ((x1.length : Nat) : Int)
 ·have g12 : (((x0.length : Nat) : Int) != ((x1.length : Nat) : Int)) = false := by rw [h11]; exact bne_self_eq_false _
  refine CM_condF rfl g12 ?_
  refine CM_skip (QM_then (CM_seq (sr (wa (nt' (CM_block ?_))))))
  let F1 := fun k (_ : Unit) => laws_eqIntS_b1 x0 x1 k
  let R2 := rng (R := Bool) F1
  refine CM_loop (σ := Nat × (Unit) × (Unit)) (fun s => [(0, .slice A2 x0.length c3), (1, .slice A7 x1.length c8), (5, .int .i64 ((s.1 : Nat) : Int))]) (fun s => []) (fun s => s.1 ≤ x0.length ∧ R2 (x0.length - s.1) s.1 s.2.1 = R2 (x0.length - 0) 0 ()) (fun s => x0.length - s.1) (0, (), ()) sl3 (fun W hm => hm) ⟨(by omega), rfl⟩ ?_
  rintro ⟨k13, ⟨⟩, ⟨⟩⟩ H16
  obtain ⟨hk14, hF15⟩ : k13 ≤ x0.length ∧ R2 (x0.length - k13) k13 () = R2 (x0.length - 0) 0 () := H16
  show CM Try.prog 26 _ _ _ _ [(0, .slice A2 x0.length c3), (1, .slice A7 x1.length c8), (5, .int .i64 ((k13 : Nat) : Int))] []
  refine CM_seq (sr (wm (wm ?_)))
  refine wv (vlen underlying37) ?_
  refine wv vlss ?_
  refine nt' ?_
  by_cases hl17 : k13 < x0.length
  ·have g18 : (decide (((k13 : Nat) : Int) < ((x0.length : Nat) : Int))) = true := decide_eq_true (by omega)
   refine CM_condT rfl g18 ?_
   refine CM_skip (QM_then (CM_seq (CM_block (CM_seq ?_))))
   refine CM_regionD (by kernel_rfl) (by kernel_rfl) ?_
   refine qm (qm ?_)
   obtain ⟨a19, rfl, hb20, he21⟩ := q4 (by omega)
   refine qv (vix 1 k13 underlying37 type3) ?_
   refine qv (fun W hm => rv_load underlying3 rfl rfl ((hm.cell0 (show (a19.add (k13 * 1)).block < w.heap.size from by rw [add_block]; exact hb20.1)).trans (rdS_int he21 k13 (by omega)))) ?_
   refine qm (qm ?_)
   obtain ⟨a22, rfl, hb23, he24⟩ := q9 (by omega)
   refine qv (vix 1 k13 underlying37 type3) ?_
   refine qv (fun W hm => rv_load underlying3 rfl rfl ((hm.cell0 (show (a22.add (k13 * 1)).block < w.heap.size from by rw [add_block]; exact hb23.1)).trans (rdS_int he24 k13 (by omega)))) ?_
   refine qv vneq ?_
   refine nq' ?_
   by_cases h25 : (gt x0 k13) = (gt x1 k13)
   ·have g26 : ((gt x0 k13) != (gt x1 k13)) = false := by rw [h25]; exact bne_self_eq_false _
    refine CM_condF rfl g26 ?_
    refine CM_skip (QM_block_normal (QM_then (CM_region (wm ?_))))
    refine wv (vadN k13 1 (by omega)) ?_
    refine wa (WM_nil ?_)
    have hn27 := rng_next (R := Bool) (body := F1) (k := k13) (s := ()) (s' := ()) (show k13 < x0.length from by omega) (show laws_eqIntS_b1 x0 x1 k13 = Sum.inr () from by unfold laws_eqIntS_b1; exact cond_f g26 (rfl)) hF15
    exact QM_round (k13 + 1, (), ()) sl3 (fun W hm => hm) ⟨(by omega), hn27⟩ (rl (by omega))
   ·have g26 : ((gt x0 k13) != (gt x1 k13)) = true := bne_iff_ne.2 h25
    refine CM_condT rfl g26 ?_
    refine sr (wa (nt' (CM_ret (QM_block_ret (QM_then_ret (QM_then_ret (QM_block_ret (QM_then_ret ?_))))))))
    exact rtb (h := by unfold laws_eqIntS_m; exact cond_f g12 (fin_inl (rng_ret (body := F1) (k := k13) (s := ()) (show k13 < x0.length from by omega) (show laws_eqIntS_b1 x0 x1 k13 = Sum.inl false from by unfold laws_eqIntS_b1; exact cond_t g26 (rfl)) hF15) rfl))
  ·have g18 : (decide (((k13 : Nat) : Int) < ((x0.length : Nat) : Int))) = false := decide_eq_false (by omega)
   refine CM_condF rfl g18 ?_
   refine CM_exit (QM_then_exit (QM_then_exit ?_))
   have hE28 : R2 (x0.length - 0) 0 () = Sum.inr () := rng_end hl17 hF15
   refine QM_block_hit (QM_then (sr (wa (nt' (CM_ret ?_)))))
   exact rtb (h := by unfold laws_eqIntS_m; exact cond_f g12 (fin_inr hE28 (rfl)))
 ·have g12 : (((x0.length : Nat) : Int) != ((x1.length : Nat) : Int)) = true := bne_iff_ne.2 h11
  refine CM_condT rfl g12 ?_
  refine sr (wa (nt' (CM_ret (QM_then_ret ?_))))
  exact rtb (h := by unfold laws_eqIntS_m; exact cond_t g12 (rfl))

def laws_eqRow_m (x0 : DRow) (x1 : DRow) : Bool :=
 cond (x0.Id != x1.Id) false (cond (laws_eqIntS_m x0.Values x1.Values) true false)
theorem cb68 : Cb Try.prog 68 := ⟨f68, _, func68, rfl, by decide⟩
theorem laws_eqRow_c (w : World) (z0 : List Value) (x0 : DRow) (z1 : List Value) (x1 : DRow) (r_0 : tyRow.rd w w.heap.size z0 x0) (r_1 : tyRow.rd w w.heap.size z1 x1) :
  Calls Try.prog 68 #[.agg z0.toArray, .agg z1.toArray] w fun e w' => e = .returned (.bool (laws_eqRow_m x0 x1)) ∧ Below w.heap.size w w' := by
 obtain ⟨v1, rfl, r2⟩ := tyRow_rd r_0
 have r7 := r2
 obtain ⟨m3, A4, c5, rfl, q6⟩ := r2
 obtain ⟨v8, rfl, r9⟩ := tyRow_rd r_1
 have r14 := r9
 obtain ⟨m10, A11, c12, rfl, q13⟩ := r9
 refine ce2 (L := [(0, .agg #[.int .i64 x0.Id, .slice A4 x0.Values.length c5]), (1, .agg #[.int .i64 x1.Id, .slice A11 x1.Values.length c12])]) (N := 16) func68 ?_
 refine sr ?_
 refine WM_box rfl (Wd_none rfl) (by decide) (fun p15 => ?_)
 refine WM_box rfl (Wd_none rfl) (by decide) (fun p16 => ?_)
 refine wa (nt' (CM_seq (sr ?_)))
 refine wv (vf underlying50 rfl type3) ?_
 refine wv (vl 1 0 underlying3) ?_
 refine wv (vf underlying50 rfl type3) ?_
 refine wv (vl 0 0 underlying3) ?_
 refine wv vneq ?_
 refine nt' ?_
 by_cases h17 : x0.Id = x1.Id
 ·have g18 : (x0.Id != x1.Id) = false := by rw [h17]; exact bne_self_eq_false _
  refine CM_condF rfl g18 ?_
  refine CM_skip (QM_then (CM_seq (sr ?_)))
  refine wv (vf underlying50 rfl type37) ?_
  refine wv (vl 1 1 underlying37) ?_
  refine wv (vf underlying50 rfl type37) ?_
  refine wv (vl 0 1 underlying37) ?_
  refine wcv (cl_fn cb103 rfl) (fun W hm => laws_eqIntS_c W _ x0.Values _ x1.Values (hm.rdS0 r7) (hm.rdS0 r14)) ?_
  refine wv vnot ?_
  refine nt' ?_
  rcases Bool.eq_false_or_eq_true (laws_eqIntS_m x0.Values x1.Values) with g20 | g20
  ·
   refine CM_condF rfl (nt g20) ?_
   refine CM_skip (QM_then (sr (wa (nt' (CM_ret ?_)))))
   exact rtb (h := by unfold laws_eqRow_m; exact cond_f g18 (cond_t g20 (rfl)))
  ·
   refine CM_condT rfl (nf g20) ?_
   refine sr (wa (nt' (CM_ret (QM_then_ret ?_))))
   exact rtb (h := by unfold laws_eqRow_m; exact cond_f g18 (cond_f g20 (rfl)))
 ·have g18 : (x0.Id != x1.Id) = true := bne_iff_ne.2 h17
  refine CM_condT rfl g18 ?_
  refine sr (wa (nt' (CM_ret (QM_then_ret ?_))))
  exact rtb (h := by unfold laws_eqRow_m; exact cond_t g18 (rfl))

def laws_eqAnnotated_m (x0 : DAnnotated) (x1 : DAnnotated) : Bool :=
 cond (laws_eqRow_m x0.Row x1.Row) (cond (laws_eqIntS_m x0.Set x1.Set) true false) false
theorem cb65 : Cb Try.prog 65 := ⟨f65, _, func65, rfl, by decide⟩
theorem laws_eqAnnotated_c (w : World) (z0 : List Value) (x0 : DAnnotated) (z1 : List Value) (x1 : DAnnotated) (r_0 : tyAnnotated.rd w w.heap.size z0 x0) (r_1 : tyAnnotated.rd w w.heap.size z1 x1) :
  Calls Try.prog 65 #[.agg z0.toArray, .agg z1.toArray] w fun e w' => e = .returned (.bool (laws_eqAnnotated_m x0 x1)) ∧ Below w.heap.size w w' := by
 obtain ⟨v1, v3, rfl, r2, r4⟩ := tyAnnotated_rd r_0
 have r9 := r2
 obtain ⟨m5, A6, c7, rfl, q8⟩ := r2
 have r14 := r4
 obtain ⟨m10, A11, c12, rfl, q13⟩ := r4
 obtain ⟨v15, v17, rfl, r16, r18⟩ := tyAnnotated_rd r_1
 have r23 := r16
 obtain ⟨m19, A20, c21, rfl, q22⟩ := r16
 have r28 := r18
 obtain ⟨m24, A25, c26, rfl, q27⟩ := r18
 refine ce2 (L := [(0, .agg #[.int .i64 x0.Row.Id, .slice A6 x0.Row.Values.length c7, .slice A11 x0.Set.length c12]), (1, .agg #[.int .i64 x1.Row.Id, .slice A20 x1.Row.Values.length c21, .slice A25 x1.Set.length c26])]) (N := 17) func65 ?_
 refine sr ?_
 refine WM_box rfl (Wd_none rfl) (by decide) (fun p29 => ?_)
 refine WM_box rfl (Wd_none rfl) (by decide) (fun p30 => ?_)
 refine wa (nt' (CM_seq (sr ?_)))
 refine wv (vf underlying52 rfl type50) ?_
 refine wv (fun W hm => rv_loadN (cs := [.int .i64 x0.Row.Id, .slice A6 x0.Row.Values.length c7]) underlying50 type50 rfl rfl (hm.boxPart (n := 1) rfl rfl)) ?_
 refine wv (vf underlying52 rfl type50) ?_
 refine wv (fun W hm => rv_loadN (cs := [.int .i64 x1.Row.Id, .slice A20 x1.Row.Values.length c21]) underlying50 type50 rfl rfl (hm.boxPart (n := 0) rfl rfl)) ?_
 refine wcv (cl_fn cb68 rfl) (fun W hm => laws_eqRow_c W _ x0.Row _ x1.Row (tyRow_mk (x := x0.Row) (hm.rdS0 r9)) (tyRow_mk (x := x1.Row) (hm.rdS0 r23))) ?_
 refine wv vnot ?_
 refine nt' ?_
 rcases Bool.eq_false_or_eq_true (laws_eqRow_m x0.Row x1.Row) with g32 | g32
 ·
  refine CM_condF rfl (nt g32) ?_
  refine CM_skip (QM_then (CM_seq (sr ?_)))
  refine wv (vf underlying52 rfl type37) ?_
  refine wv (vl 1 2 underlying37) ?_
  refine wv (vf underlying52 rfl type37) ?_
  refine wv (vl 0 2 underlying37) ?_
  refine wcv (cl_fn cb103 rfl) (fun W hm => laws_eqIntS_c W _ x0.Set _ x1.Set (hm.rdS0 r14) (hm.rdS0 r28)) ?_
  refine wv vnot ?_
  refine nt' ?_
  rcases Bool.eq_false_or_eq_true (laws_eqIntS_m x0.Set x1.Set) with g34 | g34
  ·
   refine CM_condF rfl (nt g34) ?_
   refine CM_skip (QM_then (sr (wa (nt' (CM_ret ?_)))))
   exact rtb (h := by unfold laws_eqAnnotated_m; exact cond_t g32 (cond_t g34 (rfl)))
  ·
   refine CM_condT rfl (nf g34) ?_
   refine sr (wa (nt' (CM_ret (QM_then_ret ?_))))
   exact rtb (h := by unfold laws_eqAnnotated_m; exact cond_t g32 (cond_f g34 (rfl)))
 ·
  refine CM_condT rfl (nf g32) ?_
  refine sr (wa (nt' (CM_ret (QM_then_ret ?_))))
  exact rtb (h := by unfold laws_eqAnnotated_m; exact cond_f g32 (rfl))

def laws_eqAnnotatedS_b1 (x0 : (List DAnnotated)) (x1 : (List DAnnotated)) (k13 : Nat) : Bool ⊕ (Unit) :=
 cond (laws_eqAnnotated_m (gt x0 k13) (gt x1 k13)) (Sum.inr ()) (Sum.inl false)
def laws_eqAnnotatedS_m (x0 : (List DAnnotated)) (x1 : (List DAnnotated)) : Bool :=
 cond (((x0.length : Nat) : Int) != ((x1.length : Nat) : Int)) false (Sum.elim id (fun (s : Unit) => true) (rng (R := Bool) (fun k (_ : Unit) => laws_eqAnnotatedS_b1 x0 x1 k) (x0.length - 0) 0 ()))
theorem cb27 : Cb Try.prog 27 := ⟨f27, _, func27, rfl, by decide⟩
theorem laws_eqAnnotatedS_c (w : World) (z0 : Value) (x0 : (List DAnnotated)) (z1 : Value) (x1 : (List DAnnotated)) (r_0 : rdS tyAnnotated w w.heap.size z0 x0) (r_1 : rdS tyAnnotated w w.heap.size z1 x1) :
  Calls Try.prog 27 #[z0, z1] w fun e w' => e = .returned (.bool (laws_eqAnnotatedS_m x0 x1)) ∧ Below w.heap.size w w' := by
 have r5 := r_0
 obtain ⟨m1, A2, c3, rfl, q4⟩ := r_0
 have r10 := r_1
 obtain ⟨m6, A7, c8, rfl, q9⟩ := r_1
 refine ce2 (L := [(0, .slice A2 x0.length c3), (1, .slice A7 x1.length c8)]) (N := 27) func27 ?_
 refine sr (wa (nt' (CM_seq (sr (wm ?_)))))
 refine wv (vlen underlying31) ?_
 refine wm ?_
 refine wv (vlen underlying31) ?_
 refine wv vneq ?_
 refine nt' ?_
 by_cases h11 : ((x0.length : Nat) : Int) = ((x1.length : Nat) : Int)
 ·have g12 : (((x0.length : Nat) : Int) != ((x1.length : Nat) : Int)) = false := by rw [h11]; exact bne_self_eq_false _
  refine CM_condF rfl g12 ?_
  refine CM_skip (QM_then (CM_seq (sr (wa (nt' (CM_block ?_))))))
  let F1 := fun k (_ : Unit) => laws_eqAnnotatedS_b1 x0 x1 k
  let R2 := rng (R := Bool) F1
  refine CM_loop (σ := Nat × (Unit) × (Unit)) (fun s => [(0, .slice A2 x0.length c3), (1, .slice A7 x1.length c8), (5, .int .i64 ((s.1 : Nat) : Int))]) (fun s => []) (fun s => s.1 ≤ x0.length ∧ R2 (x0.length - s.1) s.1 s.2.1 = R2 (x0.length - 0) 0 ()) (fun s => x0.length - s.1) (0, (), ()) sl3 (fun W hm => hm) ⟨(by omega), rfl⟩ ?_
  rintro ⟨k13, ⟨⟩, ⟨⟩⟩ H16
  obtain ⟨hk14, hF15⟩ : k13 ≤ x0.length ∧ R2 (x0.length - k13) k13 () = R2 (x0.length - 0) 0 () := H16
  show CM Try.prog 27 _ _ _ _ [(0, .slice A2 x0.length c3), (1, .slice A7 x1.length c8), (5, .int .i64 ((k13 : Nat) : Int))] []
  refine CM_seq (sr (wm (wm ?_)))
  refine wv (vlen underlying31) ?_
  refine wv vlss ?_
  refine nt' ?_
  by_cases hl17 : k13 < x0.length
  ·have g18 : (decide (((k13 : Nat) : Int) < ((x0.length : Nat) : Int))) = true := decide_eq_true (by omega)
   refine CM_condT rfl g18 ?_
   refine CM_skip (QM_then (CM_seq (CM_block (CM_seq ?_))))
   refine CM_regionD (by kernel_rfl) (by kernel_rfl) ?_
   refine qm (qm ?_)
   obtain ⟨a19, rfl, hb20, he21⟩ := q4 (by omega)
   refine qv (vix 3 k13 underlying31 type52) ?_
   obtain ⟨_, e27, hc22⟩ := he21 k13 _ (gt_some (show k13 < x0.length from by omega))
   obtain ⟨v23, v25, rfl, r24, r26⟩ := tyAnnotated_rd e27
   have r32 := r24
   obtain ⟨m28, A29, c30, rfl, q31⟩ := r24
   have r37 := r26
   obtain ⟨m33, A34, c35, rfl, q36⟩ := r26
   refine qv (fun W hm => rv_loadN (cs := [.int .i64 ((gt x0 k13).Row.Id), .slice A29 ((gt x0 k13).Row.Values).length c30, .slice A34 ((gt x0 k13).Set).length c35]) underlying52 type52 rfl rfl (hm.elCells (show (a19.add (k13 * 3)).block < w.heap.size from by rw [add_block]; exact hb20.1) hc22)) ?_
   refine qm (qm ?_)
   obtain ⟨a38, rfl, hb39, he40⟩ := q9 (by omega)
   refine qv (vix 3 k13 underlying31 type52) ?_
   obtain ⟨_, e46, hc41⟩ := he40 k13 _ (gt_some (show k13 < x1.length from by omega))
   obtain ⟨v42, v44, rfl, r43, r45⟩ := tyAnnotated_rd e46
   have r51 := r43
   obtain ⟨m47, A48, c49, rfl, q50⟩ := r43
   have r56 := r45
   obtain ⟨m52, A53, c54, rfl, q55⟩ := r45
   refine qv (fun W hm => rv_loadN (cs := [.int .i64 ((gt x1 k13).Row.Id), .slice A48 ((gt x1 k13).Row.Values).length c49, .slice A53 ((gt x1 k13).Set).length c54]) underlying52 type52 rfl rfl (hm.elCells (show (a38.add (k13 * 3)).block < w.heap.size from by rw [add_block]; exact hb39.1) hc41)) ?_
   refine QR_callV (cl_fn cb65 rfl) (fun W hm => laws_eqAnnotated_c W _ (gt x0 k13) _ (gt x1 k13) (tyAnnotated_mk (x := (gt x0 k13)) (hm.rdS0 r32) (hm.rdS0 r37)) (tyAnnotated_mk (x := (gt x1 k13)) (hm.rdS0 r51) (hm.rdS0 r56))) (Wd_none rfl) (by decide) ?_
   refine qv vnot ?_
   refine nq' ?_
   rcases Bool.eq_false_or_eq_true (laws_eqAnnotated_m (gt x0 k13) (gt x1 k13)) with g58 | g58
   ·
    refine CM_condF rfl (nt g58) ?_
    refine CM_skip (QM_block_normal (QM_then (CM_region (wm ?_))))
    refine wv (vadN k13 1 (by omega)) ?_
    refine wa (WM_nil ?_)
    have hn59 := rng_next (R := Bool) (body := F1) (k := k13) (s := ()) (s' := ()) (show k13 < x0.length from by omega) (show laws_eqAnnotatedS_b1 x0 x1 k13 = Sum.inr () from by unfold laws_eqAnnotatedS_b1; exact cond_t g58 (rfl)) hF15
    exact QM_round (k13 + 1, (), ()) sl3 (fun W hm => hm) ⟨(by omega), hn59⟩ (rl (by omega))
   ·
    refine CM_condT rfl (nf g58) ?_
    refine sr (wa (nt' (CM_ret (QM_block_ret (QM_then_ret (QM_then_ret (QM_block_ret (QM_then_ret ?_))))))))
    exact rtb (h := by unfold laws_eqAnnotatedS_m; exact cond_f g12 (fin_inl (rng_ret (body := F1) (k := k13) (s := ()) (show k13 < x0.length from by omega) (show laws_eqAnnotatedS_b1 x0 x1 k13 = Sum.inl false from by unfold laws_eqAnnotatedS_b1; exact cond_f g58 (rfl)) hF15) rfl))
  ·have g18 : (decide (((k13 : Nat) : Int) < ((x0.length : Nat) : Int))) = false := decide_eq_false (by omega)
   refine CM_condF rfl g18 ?_
   refine CM_exit (QM_then_exit (QM_then_exit ?_))
   have hE60 : R2 (x0.length - 0) 0 () = Sum.inr () := rng_end hl17 hF15
   refine QM_block_hit (QM_then (sr (wa (nt' (CM_ret ?_)))))
   exact rtb (h := by unfold laws_eqAnnotatedS_m; exact cond_f g12 (fin_inr hE60 (rfl)))
 ·have g12 : (((x0.length : Nat) : Int) != ((x1.length : Nat) : Int)) = true := bne_iff_ne.2 h11
  refine CM_condT rfl g12 ?_
  refine sr (wa (nt' (CM_ret (QM_then_ret ?_))))
  exact rtb (h := by unfold laws_eqAnnotatedS_m; exact cond_t g12 (rfl))

def laws_eqCond_m (x0 : DCond) (x1 : DCond) : Bool :=
 cond (x0.Field != x1.Field) false (cond (x0.Low != x1.Low) false (cond (x0.High != x1.High) false true))
theorem cb136 : Cb Try.prog 136 := ⟨f136, _, func136, rfl, by decide⟩
theorem laws_eqCond_c (w : World) (z0 : List Value) (x0 : DCond) (z1 : List Value) (x1 : DCond) (r_0 : tyCond.rd w w.heap.size z0 x0) (r_1 : tyCond.rd w w.heap.size z1 x1) :
  Calls Try.prog 136 #[.agg z0.toArray, .agg z1.toArray] w fun e w' => e = .returned (.bool (laws_eqCond_m x0 x1)) ∧ Below w.heap.size w w' := by
 obtain rfl := tyCond_rd r_0
 obtain rfl := tyCond_rd r_1
 refine ce2 (L := [(0, .agg #[.int .i64 x0.Field, .int .i64 x0.Low, .int .i64 x0.High]), (1, .agg #[.int .i64 x1.Field, .int .i64 x1.Low, .int .i64 x1.High])]) (N := 20) func136 ?_
 refine sr ?_
 refine WM_box rfl (Wd_none rfl) (by decide) (fun p1 => ?_)
 refine WM_box rfl (Wd_none rfl) (by decide) (fun p2 => ?_)
 refine wa (nt' (CM_seq (sr ?_)))
 refine wv (vf underlying117 rfl type3) ?_
 refine wv (vl 1 0 underlying3) ?_
 refine wv (vf underlying117 rfl type3) ?_
 refine wv (vl 0 0 underlying3) ?_
 refine wv vneq ?_
 refine nt' ?_
 by_cases h3 : x0.Field = x1.Field
 ·have g4 : (x0.Field != x1.Field) = false := by rw [h3]; exact bne_self_eq_false _
  refine CM_condF rfl g4 ?_
  refine CM_skip (QM_then (CM_seq (sr ?_)))
  refine wv (vf underlying117 rfl type3) ?_
  refine wv (vl 1 1 underlying3) ?_
  refine wv (vf underlying117 rfl type3) ?_
  refine wv (vl 0 1 underlying3) ?_
  refine wv vneq ?_
  refine nt' ?_
  by_cases h5 : x0.Low = x1.Low
  ·have g6 : (x0.Low != x1.Low) = false := by rw [h5]; exact bne_self_eq_false _
   refine CM_condF rfl g6 ?_
   refine CM_skip (QM_then (CM_seq (sr ?_)))
   refine wv (vf underlying117 rfl type3) ?_
   refine wv (vl 1 2 underlying3) ?_
   refine wv (vf underlying117 rfl type3) ?_
   refine wv (vl 0 2 underlying3) ?_
   refine wv vneq ?_
   refine nt' ?_
   by_cases h7 : x0.High = x1.High
   ·have g8 : (x0.High != x1.High) = false := by rw [h7]; exact bne_self_eq_false _
    refine CM_condF rfl g8 ?_
    refine CM_skip (QM_then (sr (wa (nt' (CM_ret ?_)))))
    exact rtb (h := by unfold laws_eqCond_m; exact cond_f g4 (cond_f g6 (cond_f g8 (rfl))))
   ·have g8 : (x0.High != x1.High) = true := bne_iff_ne.2 h7
    refine CM_condT rfl g8 ?_
    refine sr (wa (nt' (CM_ret (QM_then_ret ?_))))
    exact rtb (h := by unfold laws_eqCond_m; exact cond_f g4 (cond_f g6 (cond_t g8 (rfl))))
  ·have g6 : (x0.Low != x1.Low) = true := bne_iff_ne.2 h5
   refine CM_condT rfl g6 ?_
   refine sr (wa (nt' (CM_ret (QM_then_ret ?_))))
   exact rtb (h := by unfold laws_eqCond_m; exact cond_f g4 (cond_t g6 (rfl)))
 ·have g4 : (x0.Field != x1.Field) = true := bne_iff_ne.2 h3
  refine CM_condT rfl g4 ?_
  refine sr (wa (nt' (CM_ret (QM_then_ret ?_))))
  exact rtb (h := by unfold laws_eqCond_m; exact cond_t g4 (rfl))

def laws_eqCondS_b1 (x0 : (List DCond)) (x1 : (List DCond)) (k13 : Nat) : Bool ⊕ (Unit) :=
 cond (laws_eqCond_m (gt x0 k13) (gt x1 k13)) (Sum.inr ()) (Sum.inl false)
def laws_eqCondS_m (x0 : (List DCond)) (x1 : (List DCond)) : Bool :=
 cond (((x0.length : Nat) : Int) != ((x1.length : Nat) : Int)) false (Sum.elim id (fun (s : Unit) => true) (rng (R := Bool) (fun k (_ : Unit) => laws_eqCondS_b1 x0 x1 k) (x0.length - 0) 0 ()))
theorem cb126 : Cb Try.prog 126 := ⟨f126, _, func126, rfl, by decide⟩
theorem laws_eqCondS_c (w : World) (z0 : Value) (x0 : (List DCond)) (z1 : Value) (x1 : (List DCond)) (r_0 : rdS tyCond w w.heap.size z0 x0) (r_1 : rdS tyCond w w.heap.size z1 x1) :
  Calls Try.prog 126 #[z0, z1] w fun e w' => e = .returned (.bool (laws_eqCondS_m x0 x1)) ∧ Below w.heap.size w w' := by
 have r5 := r_0
 obtain ⟨m1, A2, c3, rfl, q4⟩ := r_0
 have r10 := r_1
 obtain ⟨m6, A7, c8, rfl, q9⟩ := r_1
 refine ce2 (L := [(0, .slice A2 x0.length c3), (1, .slice A7 x1.length c8)]) (N := 27) func126 ?_
 refine sr (wa (nt' (CM_seq (sr (wm ?_)))))
 refine wv (vlen underlying36) ?_
 refine wm ?_
 refine wv (vlen underlying36) ?_
 refine wv vneq ?_
 refine nt' ?_
 by_cases h11 : ((x0.length : Nat) : Int) = ((x1.length : Nat) : Int)
 ·have g12 : (((x0.length : Nat) : Int) != ((x1.length : Nat) : Int)) = false := by rw [h11]; exact bne_self_eq_false _
  refine CM_condF rfl g12 ?_
  refine CM_skip (QM_then (CM_seq (sr (wa (nt' (CM_block ?_))))))
  let F1 := fun k (_ : Unit) => laws_eqCondS_b1 x0 x1 k
  let R2 := rng (R := Bool) F1
  refine CM_loop (σ := Nat × (Unit) × (Unit)) (fun s => [(0, .slice A2 x0.length c3), (1, .slice A7 x1.length c8), (5, .int .i64 ((s.1 : Nat) : Int))]) (fun s => []) (fun s => s.1 ≤ x0.length ∧ R2 (x0.length - s.1) s.1 s.2.1 = R2 (x0.length - 0) 0 ()) (fun s => x0.length - s.1) (0, (), ()) sl3 (fun W hm => hm) ⟨(by omega), rfl⟩ ?_
  rintro ⟨k13, ⟨⟩, ⟨⟩⟩ H16
  obtain ⟨hk14, hF15⟩ : k13 ≤ x0.length ∧ R2 (x0.length - k13) k13 () = R2 (x0.length - 0) 0 () := H16
  show CM Try.prog 27 _ _ _ _ [(0, .slice A2 x0.length c3), (1, .slice A7 x1.length c8), (5, .int .i64 ((k13 : Nat) : Int))] []
  refine CM_seq (sr (wm (wm ?_)))
  refine wv (vlen underlying36) ?_
  refine wv vlss ?_
  refine nt' ?_
  by_cases hl17 : k13 < x0.length
  ·have g18 : (decide (((k13 : Nat) : Int) < ((x0.length : Nat) : Int))) = true := decide_eq_true (by omega)
   refine CM_condT rfl g18 ?_
   refine CM_skip (QM_then (CM_seq (CM_block (CM_seq ?_))))
   refine CM_regionD (by kernel_rfl) (by kernel_rfl) ?_
   refine qm (qm ?_)
   obtain ⟨a19, rfl, hb20, he21⟩ := q4 (by omega)
   refine qv (vix 3 k13 underlying36 type117) ?_
   obtain ⟨_, e23, hc22⟩ := he21 k13 _ (gt_some (show k13 < x0.length from by omega))
   obtain rfl := tyCond_rd e23
   refine qv (fun W hm => rv_loadN (cs := [.int .i64 ((gt x0 k13).Field), .int .i64 ((gt x0 k13).Low), .int .i64 ((gt x0 k13).High)]) underlying117 type117 rfl rfl (hm.elCells (show (a19.add (k13 * 3)).block < w.heap.size from by rw [add_block]; exact hb20.1) hc22)) ?_
   refine qm (qm ?_)
   obtain ⟨a24, rfl, hb25, he26⟩ := q9 (by omega)
   refine qv (vix 3 k13 underlying36 type117) ?_
   obtain ⟨_, e28, hc27⟩ := he26 k13 _ (gt_some (show k13 < x1.length from by omega))
   obtain rfl := tyCond_rd e28
   refine qv (fun W hm => rv_loadN (cs := [.int .i64 ((gt x1 k13).Field), .int .i64 ((gt x1 k13).Low), .int .i64 ((gt x1 k13).High)]) underlying117 type117 rfl rfl (hm.elCells (show (a24.add (k13 * 3)).block < w.heap.size from by rw [add_block]; exact hb25.1) hc27)) ?_
   refine QR_callV (cl_fn cb136 rfl) (fun W hm => laws_eqCond_c W _ (gt x0 k13) _ (gt x1 k13) (tyCond_mk (x := (gt x0 k13))) (tyCond_mk (x := (gt x1 k13)))) (Wd_none rfl) (by decide) ?_
   refine qv vnot ?_
   refine nq' ?_
   rcases Bool.eq_false_or_eq_true (laws_eqCond_m (gt x0 k13) (gt x1 k13)) with g30 | g30
   ·
    refine CM_condF rfl (nt g30) ?_
    refine CM_skip (QM_block_normal (QM_then (CM_region (wm ?_))))
    refine wv (vadN k13 1 (by omega)) ?_
    refine wa (WM_nil ?_)
    have hn31 := rng_next (R := Bool) (body := F1) (k := k13) (s := ()) (s' := ()) (show k13 < x0.length from by omega) (show laws_eqCondS_b1 x0 x1 k13 = Sum.inr () from by unfold laws_eqCondS_b1; exact cond_t g30 (rfl)) hF15
    exact QM_round (k13 + 1, (), ()) sl3 (fun W hm => hm) ⟨(by omega), hn31⟩ (rl (by omega))
   ·
    refine CM_condT rfl (nf g30) ?_
    refine sr (wa (nt' (CM_ret (QM_block_ret (QM_then_ret (QM_then_ret (QM_block_ret (QM_then_ret ?_))))))))
    exact rtb (h := by unfold laws_eqCondS_m; exact cond_f g12 (fin_inl (rng_ret (body := F1) (k := k13) (s := ()) (show k13 < x0.length from by omega) (show laws_eqCondS_b1 x0 x1 k13 = Sum.inl false from by unfold laws_eqCondS_b1; exact cond_f g30 (rfl)) hF15) rfl))
  ·have g18 : (decide (((k13 : Nat) : Int) < ((x0.length : Nat) : Int))) = false := decide_eq_false (by omega)
   refine CM_condF rfl g18 ?_
   refine CM_exit (QM_then_exit (QM_then_exit ?_))
   have hE32 : R2 (x0.length - 0) 0 () = Sum.inr () := rng_end hl17 hF15
   refine QM_block_hit (QM_then (sr (wa (nt' (CM_ret ?_)))))
   exact rtb (h := by unfold laws_eqCondS_m; exact cond_f g12 (fin_inr hE32 (rfl)))
 ·have g12 : (((x0.length : Nat) : Int) != ((x1.length : Nat) : Int)) = true := bne_iff_ne.2 h11
  refine CM_condT rfl g12 ?_
  refine sr (wa (nt' (CM_ret (QM_then_ret ?_))))
  exact rtb (h := by unfold laws_eqCondS_m; exact cond_t g12 (rfl))

def laws_eqQuery_m (x0 : DQuery) (x1 : DQuery) : Bool :=
 cond (x0.Id != x1.Id) false (cond (x0.Tenant != x1.Tenant) false (cond (laws_eqCondS_m x0.Conds x1.Conds) (cond (laws_eqIntS_m x0.Out x1.Out) true false) false))
theorem cb104 : Cb Try.prog 104 := ⟨f104, _, func104, rfl, by decide⟩
theorem laws_eqQuery_c (w : World) (z0 : List Value) (x0 : DQuery) (z1 : List Value) (x1 : DQuery) (r_0 : tyQuery.rd w w.heap.size z0 x0) (r_1 : tyQuery.rd w w.heap.size z1 x1) :
  Calls Try.prog 104 #[.agg z0.toArray, .agg z1.toArray] w fun e w' => e = .returned (.bool (laws_eqQuery_m x0 x1)) ∧ Below w.heap.size w w' := by
 obtain ⟨v1, v3, rfl, r2, r4⟩ := tyQuery_rd r_0
 have r9 := r2
 obtain ⟨m5, A6, c7, rfl, q8⟩ := r2
 have r14 := r4
 obtain ⟨m10, A11, c12, rfl, q13⟩ := r4
 obtain ⟨v15, v17, rfl, r16, r18⟩ := tyQuery_rd r_1
 have r23 := r16
 obtain ⟨m19, A20, c21, rfl, q22⟩ := r16
 have r28 := r18
 obtain ⟨m24, A25, c26, rfl, q27⟩ := r18
 refine ce2 (L := [(0, .agg #[.int .i64 x0.Id, .int .i64 x0.Tenant, .slice A6 x0.Conds.length c7, .slice A11 x0.Out.length c12]), (1, .agg #[.int .i64 x1.Id, .int .i64 x1.Tenant, .slice A20 x1.Conds.length c21, .slice A25 x1.Out.length c26])]) (N := 27) func104 ?_
 refine sr ?_
 refine WM_box rfl (Wd_none rfl) (by decide) (fun p29 => ?_)
 refine WM_box rfl (Wd_none rfl) (by decide) (fun p30 => ?_)
 refine wa (nt' (CM_seq (sr ?_)))
 refine wv (vf underlying39 rfl type3) ?_
 refine wv (vl 1 0 underlying3) ?_
 refine wv (vf underlying39 rfl type3) ?_
 refine wv (vl 0 0 underlying3) ?_
 refine wv vneq ?_
 refine nt' ?_
 by_cases h31 : x0.Id = x1.Id
 ·have g32 : (x0.Id != x1.Id) = false := by rw [h31]; exact bne_self_eq_false _
  refine CM_condF rfl g32 ?_
  refine CM_skip (QM_then (CM_seq (sr ?_)))
  refine wv (vf underlying39 rfl type3) ?_
  refine wv (vl 1 1 underlying3) ?_
  refine wv (vf underlying39 rfl type3) ?_
  refine wv (vl 0 1 underlying3) ?_
  refine wv vneq ?_
  refine nt' ?_
  by_cases h33 : x0.Tenant = x1.Tenant
  ·have g34 : (x0.Tenant != x1.Tenant) = false := by rw [h33]; exact bne_self_eq_false _
   refine CM_condF rfl g34 ?_
   refine CM_skip (QM_then (CM_seq (sr ?_)))
   refine wv (vf underlying39 rfl type36) ?_
   refine wv (vl 1 2 underlying36) ?_
   refine wv (vf underlying39 rfl type36) ?_
   refine wv (vl 0 2 underlying36) ?_
   refine wcv (cl_fn cb126 rfl) (fun W hm => laws_eqCondS_c W _ x0.Conds _ x1.Conds (hm.rdS0 r9) (hm.rdS0 r23)) ?_
   refine wv vnot ?_
   refine nt' ?_
   rcases Bool.eq_false_or_eq_true (laws_eqCondS_m x0.Conds x1.Conds) with g36 | g36
   ·
    refine CM_condF rfl (nt g36) ?_
    refine CM_skip (QM_then (CM_seq (sr ?_)))
    refine wv (vf underlying39 rfl type37) ?_
    refine wv (vl 1 3 underlying37) ?_
    refine wv (vf underlying39 rfl type37) ?_
    refine wv (vl 0 3 underlying37) ?_
    refine wcv (cl_fn cb103 rfl) (fun W hm => laws_eqIntS_c W _ x0.Out _ x1.Out (hm.rdS0 r14) (hm.rdS0 r28)) ?_
    refine wv vnot ?_
    refine nt' ?_
    rcases Bool.eq_false_or_eq_true (laws_eqIntS_m x0.Out x1.Out) with g38 | g38
    ·
     refine CM_condF rfl (nt g38) ?_
     refine CM_skip (QM_then (sr (wa (nt' (CM_ret ?_)))))
     exact rtb (h := by unfold laws_eqQuery_m; exact cond_f g32 (cond_f g34 (cond_t g36 (cond_t g38 (rfl)))))
    ·
     refine CM_condT rfl (nf g38) ?_
     refine sr (wa (nt' (CM_ret (QM_then_ret ?_))))
     exact rtb (h := by unfold laws_eqQuery_m; exact cond_f g32 (cond_f g34 (cond_t g36 (cond_f g38 (rfl)))))
   ·
    refine CM_condT rfl (nf g36) ?_
    refine sr (wa (nt' (CM_ret (QM_then_ret ?_))))
    exact rtb (h := by unfold laws_eqQuery_m; exact cond_f g32 (cond_f g34 (cond_f g36 (rfl))))
  ·have g34 : (x0.Tenant != x1.Tenant) = true := bne_iff_ne.2 h33
   refine CM_condT rfl g34 ?_
   refine sr (wa (nt' (CM_ret (QM_then_ret ?_))))
   exact rtb (h := by unfold laws_eqQuery_m; exact cond_f g32 (cond_t g34 (rfl)))
 ·have g32 : (x0.Id != x1.Id) = true := bne_iff_ne.2 h31
  refine CM_condT rfl g32 ?_
  refine sr (wa (nt' (CM_ret (QM_then_ret ?_))))
  exact rtb (h := by unfold laws_eqQuery_m; exact cond_t g32 (rfl))

def laws_eqQueryS_b1 (x0 : (List DQuery)) (x1 : (List DQuery)) (k13 : Nat) : Bool ⊕ (Unit) :=
 cond (laws_eqQuery_m (gt x0 k13) (gt x1 k13)) (Sum.inr ()) (Sum.inl false)
def laws_eqQueryS_m (x0 : (List DQuery)) (x1 : (List DQuery)) : Bool :=
 cond (((x0.length : Nat) : Int) != ((x1.length : Nat) : Int)) false (Sum.elim id (fun (s : Unit) => true) (rng (R := Bool) (fun k (_ : Unit) => laws_eqQueryS_b1 x0 x1 k) (x0.length - 0) 0 ()))
theorem cb66 : Cb Try.prog 66 := ⟨f66, _, func66, rfl, by decide⟩
theorem laws_eqQueryS_c (w : World) (z0 : Value) (x0 : (List DQuery)) (z1 : Value) (x1 : (List DQuery)) (r_0 : rdS tyQuery w w.heap.size z0 x0) (r_1 : rdS tyQuery w w.heap.size z1 x1) :
  Calls Try.prog 66 #[z0, z1] w fun e w' => e = .returned (.bool (laws_eqQueryS_m x0 x1)) ∧ Below w.heap.size w w' := by
 have r5 := r_0
 obtain ⟨m1, A2, c3, rfl, q4⟩ := r_0
 have r10 := r_1
 obtain ⟨m6, A7, c8, rfl, q9⟩ := r_1
 refine ce2 (L := [(0, .slice A2 x0.length c3), (1, .slice A7 x1.length c8)]) (N := 27) func66 ?_
 refine sr (wa (nt' (CM_seq (sr (wm ?_)))))
 refine wv (vlen underlying24) ?_
 refine wm ?_
 refine wv (vlen underlying24) ?_
 refine wv vneq ?_
 refine nt' ?_
 by_cases h11 : ((x0.length : Nat) : Int) = ((x1.length : Nat) : Int)
 ·have g12 : (((x0.length : Nat) : Int) != ((x1.length : Nat) : Int)) = false := by rw [h11]; exact bne_self_eq_false _
  refine CM_condF rfl g12 ?_
  refine CM_skip (QM_then (CM_seq (sr (wa (nt' (CM_block ?_))))))
  let F1 := fun k (_ : Unit) => laws_eqQueryS_b1 x0 x1 k
  let R2 := rng (R := Bool) F1
  refine CM_loop (σ := Nat × (Unit) × (Unit)) (fun s => [(0, .slice A2 x0.length c3), (1, .slice A7 x1.length c8), (5, .int .i64 ((s.1 : Nat) : Int))]) (fun s => []) (fun s => s.1 ≤ x0.length ∧ R2 (x0.length - s.1) s.1 s.2.1 = R2 (x0.length - 0) 0 ()) (fun s => x0.length - s.1) (0, (), ()) sl3 (fun W hm => hm) ⟨(by omega), rfl⟩ ?_
  rintro ⟨k13, ⟨⟩, ⟨⟩⟩ H16
  obtain ⟨hk14, hF15⟩ : k13 ≤ x0.length ∧ R2 (x0.length - k13) k13 () = R2 (x0.length - 0) 0 () := H16
  show CM Try.prog 27 _ _ _ _ [(0, .slice A2 x0.length c3), (1, .slice A7 x1.length c8), (5, .int .i64 ((k13 : Nat) : Int))] []
  refine CM_seq (sr (wm (wm ?_)))
  refine wv (vlen underlying24) ?_
  refine wv vlss ?_
  refine nt' ?_
  by_cases hl17 : k13 < x0.length
  ·have g18 : (decide (((k13 : Nat) : Int) < ((x0.length : Nat) : Int))) = true := decide_eq_true (by omega)
   refine CM_condT rfl g18 ?_
   refine CM_skip (QM_then (CM_seq (CM_block (CM_seq ?_))))
   refine CM_regionD (by kernel_rfl) (by kernel_rfl) ?_
   refine qm (qm ?_)
   obtain ⟨a19, rfl, hb20, he21⟩ := q4 (by omega)
   refine qv (vix 4 k13 underlying24 type39) ?_
   obtain ⟨_, e27, hc22⟩ := he21 k13 _ (gt_some (show k13 < x0.length from by omega))
   obtain ⟨v23, v25, rfl, r24, r26⟩ := tyQuery_rd e27
   have r32 := r24
   obtain ⟨m28, A29, c30, rfl, q31⟩ := r24
   have r37 := r26
   obtain ⟨m33, A34, c35, rfl, q36⟩ := r26
   refine qv (fun W hm => rv_loadN (cs := [.int .i64 ((gt x0 k13).Id), .int .i64 ((gt x0 k13).Tenant), .slice A29 ((gt x0 k13).Conds).length c30, .slice A34 ((gt x0 k13).Out).length c35]) underlying39 type39 rfl rfl (hm.elCells (show (a19.add (k13 * 4)).block < w.heap.size from by rw [add_block]; exact hb20.1) hc22)) ?_
   refine qm (qm ?_)
   obtain ⟨a38, rfl, hb39, he40⟩ := q9 (by omega)
   refine qv (vix 4 k13 underlying24 type39) ?_
   obtain ⟨_, e46, hc41⟩ := he40 k13 _ (gt_some (show k13 < x1.length from by omega))
   obtain ⟨v42, v44, rfl, r43, r45⟩ := tyQuery_rd e46
   have r51 := r43
   obtain ⟨m47, A48, c49, rfl, q50⟩ := r43
   have r56 := r45
   obtain ⟨m52, A53, c54, rfl, q55⟩ := r45
   refine qv (fun W hm => rv_loadN (cs := [.int .i64 ((gt x1 k13).Id), .int .i64 ((gt x1 k13).Tenant), .slice A48 ((gt x1 k13).Conds).length c49, .slice A53 ((gt x1 k13).Out).length c54]) underlying39 type39 rfl rfl (hm.elCells (show (a38.add (k13 * 4)).block < w.heap.size from by rw [add_block]; exact hb39.1) hc41)) ?_
   refine QR_callV (cl_fn cb104 rfl) (fun W hm => laws_eqQuery_c W _ (gt x0 k13) _ (gt x1 k13) (tyQuery_mk (x := (gt x0 k13)) (hm.rdS0 r32) (hm.rdS0 r37)) (tyQuery_mk (x := (gt x1 k13)) (hm.rdS0 r51) (hm.rdS0 r56))) (Wd_none rfl) (by decide) ?_
   refine qv vnot ?_
   refine nq' ?_
   rcases Bool.eq_false_or_eq_true (laws_eqQuery_m (gt x0 k13) (gt x1 k13)) with g58 | g58
   ·
    refine CM_condF rfl (nt g58) ?_
    refine CM_skip (QM_block_normal (QM_then (CM_region (wm ?_))))
    refine wv (vadN k13 1 (by omega)) ?_
    refine wa (WM_nil ?_)
    have hn59 := rng_next (R := Bool) (body := F1) (k := k13) (s := ()) (s' := ()) (show k13 < x0.length from by omega) (show laws_eqQueryS_b1 x0 x1 k13 = Sum.inr () from by unfold laws_eqQueryS_b1; exact cond_t g58 (rfl)) hF15
    exact QM_round (k13 + 1, (), ()) sl3 (fun W hm => hm) ⟨(by omega), hn59⟩ (rl (by omega))
   ·
    refine CM_condT rfl (nf g58) ?_
    refine sr (wa (nt' (CM_ret (QM_block_ret (QM_then_ret (QM_then_ret (QM_block_ret (QM_then_ret ?_))))))))
    exact rtb (h := by unfold laws_eqQueryS_m; exact cond_f g12 (fin_inl (rng_ret (body := F1) (k := k13) (s := ()) (show k13 < x0.length from by omega) (show laws_eqQueryS_b1 x0 x1 k13 = Sum.inl false from by unfold laws_eqQueryS_b1; exact cond_f g58 (rfl)) hF15) rfl))
  ·have g18 : (decide (((k13 : Nat) : Int) < ((x0.length : Nat) : Int))) = false := decide_eq_false (by omega)
   refine CM_condF rfl g18 ?_
   refine CM_exit (QM_then_exit (QM_then_exit ?_))
   have hE60 : R2 (x0.length - 0) 0 () = Sum.inr () := rng_end hl17 hF15
   refine QM_block_hit (QM_then (sr (wa (nt' (CM_ret ?_)))))
   exact rtb (h := by unfold laws_eqQueryS_m; exact cond_f g12 (fin_inr hE60 (rfl)))
 ·have g12 : (((x0.length : Nat) : Int) != ((x1.length : Nat) : Int)) = true := bne_iff_ne.2 h11
  refine CM_condT rfl g12 ?_
  refine sr (wa (nt' (CM_ret (QM_then_ret ?_))))
  exact rtb (h := by unfold laws_eqQueryS_m; exact cond_t g12 (rfl))

def laws_eqSpan_m (x0 : DSpan) (x1 : DSpan) : Bool :=
 cond (x0.From != x1.From) false (cond (x0.To != x1.To) false (cond (laws_eqIntS_m x0.Set x1.Set) true false))
theorem cb127 : Cb Try.prog 127 := ⟨f127, _, func127, rfl, by decide⟩
theorem laws_eqSpan_c (w : World) (z0 : List Value) (x0 : DSpan) (z1 : List Value) (x1 : DSpan) (r_0 : tySpan.rd w w.heap.size z0 x0) (r_1 : tySpan.rd w w.heap.size z1 x1) :
  Calls Try.prog 127 #[.agg z0.toArray, .agg z1.toArray] w fun e w' => e = .returned (.bool (laws_eqSpan_m x0 x1)) ∧ Below w.heap.size w w' := by
 obtain ⟨v1, rfl, r2⟩ := tySpan_rd r_0
 have r7 := r2
 obtain ⟨m3, A4, c5, rfl, q6⟩ := r2
 obtain ⟨v8, rfl, r9⟩ := tySpan_rd r_1
 have r14 := r9
 obtain ⟨m10, A11, c12, rfl, q13⟩ := r9
 refine ce2 (L := [(0, .agg #[.int .i64 x0.From, .int .i64 x0.To, .slice A4 x0.Set.length c5]), (1, .agg #[.int .i64 x1.From, .int .i64 x1.To, .slice A11 x1.Set.length c12])]) (N := 21) func127 ?_
 refine sr ?_
 refine WM_box rfl (Wd_none rfl) (by decide) (fun p15 => ?_)
 refine WM_box rfl (Wd_none rfl) (by decide) (fun p16 => ?_)
 refine wa (nt' (CM_seq (sr ?_)))
 refine wv (vf underlying113 rfl type3) ?_
 refine wv (vl 1 0 underlying3) ?_
 refine wv (vf underlying113 rfl type3) ?_
 refine wv (vl 0 0 underlying3) ?_
 refine wv vneq ?_
 refine nt' ?_
 by_cases h17 : x0.From = x1.From
 ·have g18 : (x0.From != x1.From) = false := by rw [h17]; exact bne_self_eq_false _
  refine CM_condF rfl g18 ?_
  refine CM_skip (QM_then (CM_seq (sr ?_)))
  refine wv (vf underlying113 rfl type3) ?_
  refine wv (vl 1 1 underlying3) ?_
  refine wv (vf underlying113 rfl type3) ?_
  refine wv (vl 0 1 underlying3) ?_
  refine wv vneq ?_
  refine nt' ?_
  by_cases h19 : x0.To = x1.To
  ·have g20 : (x0.To != x1.To) = false := by rw [h19]; exact bne_self_eq_false _
   refine CM_condF rfl g20 ?_
   refine CM_skip (QM_then (CM_seq (sr ?_)))
   refine wv (vf underlying113 rfl type37) ?_
   refine wv (vl 1 2 underlying37) ?_
   refine wv (vf underlying113 rfl type37) ?_
   refine wv (vl 0 2 underlying37) ?_
   refine wcv (cl_fn cb103 rfl) (fun W hm => laws_eqIntS_c W _ x0.Set _ x1.Set (hm.rdS0 r7) (hm.rdS0 r14)) ?_
   refine wv vnot ?_
   refine nt' ?_
   rcases Bool.eq_false_or_eq_true (laws_eqIntS_m x0.Set x1.Set) with g22 | g22
   ·
    refine CM_condF rfl (nt g22) ?_
    refine CM_skip (QM_then (sr (wa (nt' (CM_ret ?_)))))
    exact rtb (h := by unfold laws_eqSpan_m; exact cond_f g18 (cond_f g20 (cond_t g22 (rfl))))
   ·
    refine CM_condT rfl (nf g22) ?_
    refine sr (wa (nt' (CM_ret (QM_then_ret ?_))))
    exact rtb (h := by unfold laws_eqSpan_m; exact cond_f g18 (cond_f g20 (cond_f g22 (rfl))))
  ·have g20 : (x0.To != x1.To) = true := bne_iff_ne.2 h19
   refine CM_condT rfl g20 ?_
   refine sr (wa (nt' (CM_ret (QM_then_ret ?_))))
   exact rtb (h := by unfold laws_eqSpan_m; exact cond_f g18 (cond_t g20 (rfl)))
 ·have g18 : (x0.From != x1.From) = true := bne_iff_ne.2 h17
  refine CM_condT rfl g18 ?_
  refine sr (wa (nt' (CM_ret (QM_then_ret ?_))))
  exact rtb (h := by unfold laws_eqSpan_m; exact cond_t g18 (rfl))

def laws_eqSpanS_b1 (x0 : (List DSpan)) (x1 : (List DSpan)) (k13 : Nat) : Bool ⊕ (Unit) :=
 cond (laws_eqSpan_m (gt x0 k13) (gt x1 k13)) (Sum.inr ()) (Sum.inl false)
def laws_eqSpanS_m (x0 : (List DSpan)) (x1 : (List DSpan)) : Bool :=
 cond (((x0.length : Nat) : Int) != ((x1.length : Nat) : Int)) false (Sum.elim id (fun (s : Unit) => true) (rng (R := Bool) (fun k (_ : Unit) => laws_eqSpanS_b1 x0 x1 k) (x0.length - 0) 0 ()))
theorem cb105 : Cb Try.prog 105 := ⟨f105, _, func105, rfl, by decide⟩
theorem laws_eqSpanS_c (w : World) (z0 : Value) (x0 : (List DSpan)) (z1 : Value) (x1 : (List DSpan)) (r_0 : rdS tySpan w w.heap.size z0 x0) (r_1 : rdS tySpan w w.heap.size z1 x1) :
  Calls Try.prog 105 #[z0, z1] w fun e w' => e = .returned (.bool (laws_eqSpanS_m x0 x1)) ∧ Below w.heap.size w w' := by
 have r5 := r_0
 obtain ⟨m1, A2, c3, rfl, q4⟩ := r_0
 have r10 := r_1
 obtain ⟨m6, A7, c8, rfl, q9⟩ := r_1
 refine ce2 (L := [(0, .slice A2 x0.length c3), (1, .slice A7 x1.length c8)]) (N := 27) func105 ?_
 refine sr (wa (nt' (CM_seq (sr (wm ?_)))))
 refine wv (vlen underlying78) ?_
 refine wm ?_
 refine wv (vlen underlying78) ?_
 refine wv vneq ?_
 refine nt' ?_
 by_cases h11 : ((x0.length : Nat) : Int) = ((x1.length : Nat) : Int)
 ·have g12 : (((x0.length : Nat) : Int) != ((x1.length : Nat) : Int)) = false := by rw [h11]; exact bne_self_eq_false _
  refine CM_condF rfl g12 ?_
  refine CM_skip (QM_then (CM_seq (sr (wa (nt' (CM_block ?_))))))
  let F1 := fun k (_ : Unit) => laws_eqSpanS_b1 x0 x1 k
  let R2 := rng (R := Bool) F1
  refine CM_loop (σ := Nat × (Unit) × (Unit)) (fun s => [(0, .slice A2 x0.length c3), (1, .slice A7 x1.length c8), (5, .int .i64 ((s.1 : Nat) : Int))]) (fun s => []) (fun s => s.1 ≤ x0.length ∧ R2 (x0.length - s.1) s.1 s.2.1 = R2 (x0.length - 0) 0 ()) (fun s => x0.length - s.1) (0, (), ()) sl3 (fun W hm => hm) ⟨(by omega), rfl⟩ ?_
  rintro ⟨k13, ⟨⟩, ⟨⟩⟩ H16
  obtain ⟨hk14, hF15⟩ : k13 ≤ x0.length ∧ R2 (x0.length - k13) k13 () = R2 (x0.length - 0) 0 () := H16
  show CM Try.prog 27 _ _ _ _ [(0, .slice A2 x0.length c3), (1, .slice A7 x1.length c8), (5, .int .i64 ((k13 : Nat) : Int))] []
  refine CM_seq (sr (wm (wm ?_)))
  refine wv (vlen underlying78) ?_
  refine wv vlss ?_
  refine nt' ?_
  by_cases hl17 : k13 < x0.length
  ·have g18 : (decide (((k13 : Nat) : Int) < ((x0.length : Nat) : Int))) = true := decide_eq_true (by omega)
   refine CM_condT rfl g18 ?_
   refine CM_skip (QM_then (CM_seq (CM_block (CM_seq ?_))))
   refine CM_regionD (by kernel_rfl) (by kernel_rfl) ?_
   refine qm (qm ?_)
   obtain ⟨a19, rfl, hb20, he21⟩ := q4 (by omega)
   refine qv (vix 3 k13 underlying78 type113) ?_
   obtain ⟨_, e25, hc22⟩ := he21 k13 _ (gt_some (show k13 < x0.length from by omega))
   obtain ⟨v23, rfl, r24⟩ := tySpan_rd e25
   have r30 := r24
   obtain ⟨m26, A27, c28, rfl, q29⟩ := r24
   refine qv (fun W hm => rv_loadN (cs := [.int .i64 ((gt x0 k13).From), .int .i64 ((gt x0 k13).To), .slice A27 ((gt x0 k13).Set).length c28]) underlying113 type113 rfl rfl (hm.elCells (show (a19.add (k13 * 3)).block < w.heap.size from by rw [add_block]; exact hb20.1) hc22)) ?_
   refine qm (qm ?_)
   obtain ⟨a31, rfl, hb32, he33⟩ := q9 (by omega)
   refine qv (vix 3 k13 underlying78 type113) ?_
   obtain ⟨_, e37, hc34⟩ := he33 k13 _ (gt_some (show k13 < x1.length from by omega))
   obtain ⟨v35, rfl, r36⟩ := tySpan_rd e37
   have r42 := r36
   obtain ⟨m38, A39, c40, rfl, q41⟩ := r36
   refine qv (fun W hm => rv_loadN (cs := [.int .i64 ((gt x1 k13).From), .int .i64 ((gt x1 k13).To), .slice A39 ((gt x1 k13).Set).length c40]) underlying113 type113 rfl rfl (hm.elCells (show (a31.add (k13 * 3)).block < w.heap.size from by rw [add_block]; exact hb32.1) hc34)) ?_
   refine QR_callV (cl_fn cb127 rfl) (fun W hm => laws_eqSpan_c W _ (gt x0 k13) _ (gt x1 k13) (tySpan_mk (x := (gt x0 k13)) (hm.rdS0 r30)) (tySpan_mk (x := (gt x1 k13)) (hm.rdS0 r42))) (Wd_none rfl) (by decide) ?_
   refine qv vnot ?_
   refine nq' ?_
   rcases Bool.eq_false_or_eq_true (laws_eqSpan_m (gt x0 k13) (gt x1 k13)) with g44 | g44
   ·
    refine CM_condF rfl (nt g44) ?_
    refine CM_skip (QM_block_normal (QM_then (CM_region (wm ?_))))
    refine wv (vadN k13 1 (by omega)) ?_
    refine wa (WM_nil ?_)
    have hn45 := rng_next (R := Bool) (body := F1) (k := k13) (s := ()) (s' := ()) (show k13 < x0.length from by omega) (show laws_eqSpanS_b1 x0 x1 k13 = Sum.inr () from by unfold laws_eqSpanS_b1; exact cond_t g44 (rfl)) hF15
    exact QM_round (k13 + 1, (), ()) sl3 (fun W hm => hm) ⟨(by omega), hn45⟩ (rl (by omega))
   ·
    refine CM_condT rfl (nf g44) ?_
    refine sr (wa (nt' (CM_ret (QM_block_ret (QM_then_ret (QM_then_ret (QM_block_ret (QM_then_ret ?_))))))))
    exact rtb (h := by unfold laws_eqSpanS_m; exact cond_f g12 (fin_inl (rng_ret (body := F1) (k := k13) (s := ()) (show k13 < x0.length from by omega) (show laws_eqSpanS_b1 x0 x1 k13 = Sum.inl false from by unfold laws_eqSpanS_b1; exact cond_f g44 (rfl)) hF15) rfl))
  ·have g18 : (decide (((k13 : Nat) : Int) < ((x0.length : Nat) : Int))) = false := decide_eq_false (by omega)
   refine CM_condF rfl g18 ?_
   refine CM_exit (QM_then_exit (QM_then_exit ?_))
   have hE46 : R2 (x0.length - 0) 0 () = Sum.inr () := rng_end hl17 hF15
   refine QM_block_hit (QM_then (sr (wa (nt' (CM_ret ?_)))))
   exact rtb (h := by unfold laws_eqSpanS_m; exact cond_f g12 (fin_inr hE46 (rfl)))
 ·have g12 : (((x0.length : Nat) : Int) != ((x1.length : Nat) : Int)) = true := bne_iff_ne.2 h11
  refine CM_condT rfl g12 ?_
  refine sr (wa (nt' (CM_ret (QM_then_ret ?_))))
  exact rtb (h := by unfold laws_eqSpanS_m; exact cond_t g12 (rfl))

def laws_eqSpanSS_b1 (x0 : (List (List DSpan))) (x1 : (List (List DSpan))) (k13 : Nat) : Bool ⊕ (Unit) :=
 cond (laws_eqSpanS_m (gt x0 k13) (gt x1 k13)) (Sum.inr ()) (Sum.inl false)
def laws_eqSpanSS_m (x0 : (List (List DSpan))) (x1 : (List (List DSpan))) : Bool :=
 cond (((x0.length : Nat) : Int) != ((x1.length : Nat) : Int)) false (Sum.elim id (fun (s : Unit) => true) (rng (R := Bool) (fun k (_ : Unit) => laws_eqSpanSS_b1 x0 x1 k) (x0.length - 0) 0 ()))
theorem cb67 : Cb Try.prog 67 := ⟨f67, _, func67, rfl, by decide⟩
theorem laws_eqSpanSS_c (w : World) (z0 : Value) (x0 : (List (List DSpan))) (z1 : Value) (x1 : (List (List DSpan))) (r_0 : rdS (tSl tySpan 113) w w.heap.size z0 x0) (r_1 : rdS (tSl tySpan 113) w w.heap.size z1 x1) :
  Calls Try.prog 67 #[z0, z1] w fun e w' => e = .returned (.bool (laws_eqSpanSS_m x0 x1)) ∧ Below w.heap.size w w' := by
 have r5 := r_0
 obtain ⟨m1, A2, c3, rfl, q4⟩ := r_0
 have r10 := r_1
 obtain ⟨m6, A7, c8, rfl, q9⟩ := r_1
 refine ce2 (L := [(0, .slice A2 x0.length c3), (1, .slice A7 x1.length c8)]) (N := 27) func67 ?_
 refine sr (wa (nt' (CM_seq (sr (wm ?_)))))
 refine wv (vlen underlying25) ?_
 refine wm ?_
 refine wv (vlen underlying25) ?_
 refine wv vneq ?_
 refine nt' ?_
 by_cases h11 : ((x0.length : Nat) : Int) = ((x1.length : Nat) : Int)
 ·have g12 : (((x0.length : Nat) : Int) != ((x1.length : Nat) : Int)) = false := by rw [h11]; exact bne_self_eq_false _
  refine CM_condF rfl g12 ?_
  refine CM_skip (QM_then (CM_seq (sr (wa (nt' (CM_block ?_))))))
  let F1 := fun k (_ : Unit) => laws_eqSpanSS_b1 x0 x1 k
  let R2 := rng (R := Bool) F1
  refine CM_loop (σ := Nat × (Unit) × (Unit)) (fun s => [(0, .slice A2 x0.length c3), (1, .slice A7 x1.length c8), (5, .int .i64 ((s.1 : Nat) : Int))]) (fun s => []) (fun s => s.1 ≤ x0.length ∧ R2 (x0.length - s.1) s.1 s.2.1 = R2 (x0.length - 0) 0 ()) (fun s => x0.length - s.1) (0, (), ()) sl3 (fun W hm => hm) ⟨(by omega), rfl⟩ ?_
  rintro ⟨k13, ⟨⟩, ⟨⟩⟩ H16
  obtain ⟨hk14, hF15⟩ : k13 ≤ x0.length ∧ R2 (x0.length - k13) k13 () = R2 (x0.length - 0) 0 () := H16
  show CM Try.prog 27 _ _ _ _ [(0, .slice A2 x0.length c3), (1, .slice A7 x1.length c8), (5, .int .i64 ((k13 : Nat) : Int))] []
  refine CM_seq (sr (wm (wm ?_)))
  refine wv (vlen underlying25) ?_
  refine wv vlss ?_
  refine nt' ?_
  by_cases hl17 : k13 < x0.length
  ·have g18 : (decide (((k13 : Nat) : Int) < ((x0.length : Nat) : Int))) = true := decide_eq_true (by omega)
   refine CM_condT rfl g18 ?_
   refine CM_skip (QM_then (CM_seq (CM_block (CM_seq ?_))))
   refine CM_regionD (by kernel_rfl) (by kernel_rfl) ?_
   refine qm (qm ?_)
   obtain ⟨a19, rfl, hb20, he21⟩ := q4 (by omega)
   refine qv (vix 1 k13 underlying25 type78) ?_
   obtain ⟨_, e23, hc22⟩ := he21 k13 _ (gt_some (show k13 < x0.length from by omega))
   obtain ⟨v24, rfl, r25⟩ := e23
   have r30 := r25
   obtain ⟨m26, A27, c28, rfl, q29⟩ := r25
   refine qv (fun W hm => rv_load underlying78 rfl rfl ((hm.cell0 (show (a19.add (k13 * 1)).block < w.heap.size from by rw [add_block]; exact hb20.1)).trans (hc22 0 _ rfl))) ?_
   refine qm (qm ?_)
   obtain ⟨a31, rfl, hb32, he33⟩ := q9 (by omega)
   refine qv (vix 1 k13 underlying25 type78) ?_
   obtain ⟨_, e35, hc34⟩ := he33 k13 _ (gt_some (show k13 < x1.length from by omega))
   obtain ⟨v36, rfl, r37⟩ := e35
   have r42 := r37
   obtain ⟨m38, A39, c40, rfl, q41⟩ := r37
   refine qv (fun W hm => rv_load underlying78 rfl rfl ((hm.cell0 (show (a31.add (k13 * 1)).block < w.heap.size from by rw [add_block]; exact hb32.1)).trans (hc34 0 _ rfl))) ?_
   refine QR_callV (cl_fn cb105 rfl) (fun W hm => laws_eqSpanS_c W _ (gt x0 k13) _ (gt x1 k13) (hm.rdS0 r30) (hm.rdS0 r42)) (Wd_none rfl) (by decide) ?_
   refine qv vnot ?_
   refine nq' ?_
   rcases Bool.eq_false_or_eq_true (laws_eqSpanS_m (gt x0 k13) (gt x1 k13)) with g44 | g44
   ·
    refine CM_condF rfl (nt g44) ?_
    refine CM_skip (QM_block_normal (QM_then (CM_region (wm ?_))))
    refine wv (vadN k13 1 (by omega)) ?_
    refine wa (WM_nil ?_)
    have hn45 := rng_next (R := Bool) (body := F1) (k := k13) (s := ()) (s' := ()) (show k13 < x0.length from by omega) (show laws_eqSpanSS_b1 x0 x1 k13 = Sum.inr () from by unfold laws_eqSpanSS_b1; exact cond_t g44 (rfl)) hF15
    exact QM_round (k13 + 1, (), ()) sl3 (fun W hm => hm) ⟨(by omega), hn45⟩ (rl (by omega))
   ·
    refine CM_condT rfl (nf g44) ?_
    refine sr (wa (nt' (CM_ret (QM_block_ret (QM_then_ret (QM_then_ret (QM_block_ret (QM_then_ret ?_))))))))
    exact rtb (h := by unfold laws_eqSpanSS_m; exact cond_f g12 (fin_inl (rng_ret (body := F1) (k := k13) (s := ()) (show k13 < x0.length from by omega) (show laws_eqSpanSS_b1 x0 x1 k13 = Sum.inl false from by unfold laws_eqSpanSS_b1; exact cond_f g44 (rfl)) hF15) rfl))
  ·have g18 : (decide (((k13 : Nat) : Int) < ((x0.length : Nat) : Int))) = false := decide_eq_false (by omega)
   refine CM_condF rfl g18 ?_
   refine CM_exit (QM_then_exit (QM_then_exit ?_))
   have hE46 : R2 (x0.length - 0) 0 () = Sum.inr () := rng_end hl17 hF15
   refine QM_block_hit (QM_then (sr (wa (nt' (CM_ret ?_)))))
   exact rtb (h := by unfold laws_eqSpanSS_m; exact cond_f g12 (fin_inr hE46 (rfl)))
 ·have g12 : (((x0.length : Nat) : Int) != ((x1.length : Nat) : Int)) = true := bne_iff_ne.2 h11
  refine CM_condT rfl g12 ?_
  refine sr (wa (nt' (CM_ret (QM_then_ret ?_))))
  exact rtb (h := by unfold laws_eqSpanSS_m; exact cond_t g12 (rfl))

end Go.Proofs.Ytdjendhffbjnhaa
