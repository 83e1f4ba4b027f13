/-
  Contracts of functions, printed by a program of ours.
-/
import Derived.Test.YtfdaaliffcfjjaaGreatDoorL3F2
namespace Go.Proofs.YtfdaaliffcfjjaaGreatDoor
open Go.RowKit
set_option maxRecDepth 100000
set_option maxHeartbeats 4000000
open _root_.Go.Proofs.Tryz
def impl_parseAfter_m (x0 : ByteArray) (x1 : ByteArray) : (Int × Bool) :=
 cond (hasP x0 x1) ((impl_ParseInt_m (trimP x0 x1)).1, (impl_ParseInt_m (trimP x0 x1)).2) ((impl_ParseInt_m (trimP x0 x1)).1, false)
theorem cb61 : Cb Tryz.prog 61 := ⟨f61, _, func61, rfl, by decide⟩
theorem impl_parseAfter_c (w : World) (x0 : ByteArray) (x1 : ByteArray) (hs_0 : x0.size ≤ 1048576) (hs_1 : x1.size ≤ 1048576) (hT : TabOK w.heap.size w) :
  Calls Tryz.prog 61 #[.string x0, .string x1] w fun e w' => e = .returned (.tuple #[.int .i64 ((impl_parseAfter_m x0 x1).1), .bool ((impl_parseAfter_m x0 x1).2)]) ∧ Below w.heap.size w w' := by
 refine ce2 (L := [(0, .string x0), (1, .string x1)]) (N := 26) func61 ?_
 refine sr (wa (wa (nt' (sr (wm (wm ?_))))))
 refine wcv (cl_fn ⟨f81, _, func81, rfl, by decide⟩ rfl) (fun W hm => cutp_c W x0 x1) ?_
 have hz1 := trimP_sz x0 x1
 refine wm ?_
 refine wv (fun W hm => rv_extract rfl rfl) ?_
 refine wv (fun W hm => rv_extract rfl rfl) ?_
 refine wa (wa (nt' (sr (wm ?_))))
 refine wcv (cl_fn cb29 rfl) (fun W hm => impl_ParseInt_c W (trimP x0 x1) (by omega) (hT.mem hm)) ?_
 refine wm ?_
 refine wv (fun W hm => rv_extract rfl rfl) ?_
 refine wv (fun W hm => rv_extract rfl rfl) ?_
 refine wa (wa (nt' (sr (wm (wm (wm ?_))))))
 rcases Bool.eq_false_or_eq_true (hasP x0 x1) with g3 | g3
 ·
  refine wg vmv g3 ?_
  refine wv (vpT g3) ?_
  refine wa (wa (nt' (CM_ret ?_)))
  have he4 := (show impl_parseAfter_m x0 x1 = ((impl_ParseInt_m (trimP x0 x1)).1, (impl_ParseInt_m (trimP x0 x1)).2) from cond_t g3 (rfl))
  exact QM_r2 rfl (RR_tmp rfl) (RR_tmp rfl) (fun W hm => ⟨by rw [he4]; first | done | rfl, hm.below⟩)
 ·
  refine ws g3 ?_
  refine wv (vpF g3) ?_
  refine wa (wa (nt' (CM_ret ?_)))
  have he5 := (show impl_parseAfter_m x0 x1 = ((impl_ParseInt_m (trimP x0 x1)).1, false) from cond_f g3 (rfl))
  exact QM_r2 rfl (RR_tmp rfl) (RR_tmp rfl) (fun W hm => ⟨by rw [he5]; first | done | rfl, hm.below⟩)

def impl_readUpdate_m (x0 : (List ByteArray)) : DUpdate :=
 cond (eqS (gt x0 0) (sB [105, 110, 115, 101, 114, 116])) (cond (((x0.length : Nat) : Int) == 2) (⟨1, ((impl_ParseRow_m (gt x0 1)).1), 0, 0⟩ : DUpdate) (cond (eqS (gt x0 0) (sB [100, 101, 108, 101, 116, 101])) (cond (eqS (gt x0 0) (sB [115, 101, 116])) (cond (((x0.length : Nat) : Int) == 4) (⟨3, (⟨(impl_ParseInt_m (gt x0 1)).1, []⟩ : DRow), (impl_parseAfter_m (gt x0 2) (sB [102])).1, (impl_ParseInt_m (gt x0 3)).1⟩ : DUpdate) (⟨0, (⟨0, []⟩ : DRow), 0, 0⟩ : DUpdate)) (⟨0, (⟨0, []⟩ : DRow), 0, 0⟩ : DUpdate)) (cond (eqS (gt x0 0) (sB [115, 101, 116])) (cond (((x0.length : Nat) : Int) == 4) (⟨3, (⟨(impl_ParseInt_m (gt x0 1)).1, []⟩ : DRow), (impl_parseAfter_m (gt x0 2) (sB [102])).1, (impl_ParseInt_m (gt x0 3)).1⟩ : DUpdate) (⟨0, (⟨0, []⟩ : DRow), 0, 0⟩ : DUpdate)) (⟨0, (⟨0, []⟩ : DRow), 0, 0⟩ : DUpdate)))) (cond (eqS (gt x0 0) (sB [100, 101, 108, 101, 116, 101])) (cond (((x0.length : Nat) : Int) == 2) (⟨2, (⟨(impl_ParseInt_m (gt x0 1)).1, []⟩ : DRow), 0, 0⟩ : DUpdate) (cond (eqS (gt x0 0) (sB [115, 101, 116])) (cond (((x0.length : Nat) : Int) == 4) (⟨3, (⟨(impl_ParseInt_m (gt x0 1)).1, []⟩ : DRow), (impl_parseAfter_m (gt x0 2) (sB [102])).1, (impl_ParseInt_m (gt x0 3)).1⟩ : DUpdate) (⟨0, (⟨0, []⟩ : DRow), 0, 0⟩ : DUpdate)) (⟨0, (⟨0, []⟩ : DRow), 0, 0⟩ : DUpdate))) (cond (eqS (gt x0 0) (sB [115, 101, 116])) (cond (((x0.length : Nat) : Int) == 4) (⟨3, (⟨(impl_ParseInt_m (gt x0 1)).1, []⟩ : DRow), (impl_parseAfter_m (gt x0 2) (sB [102])).1, (impl_ParseInt_m (gt x0 3)).1⟩ : DUpdate) (⟨0, (⟨0, []⟩ : DRow), 0, 0⟩ : DUpdate)) (⟨0, (⟨0, []⟩ : DRow), 0, 0⟩ : DUpdate)))
theorem cb33 : Cb Tryz.prog 33 := ⟨f33, _, func33, rfl, by decide⟩
theorem impl_readUpdate_c (w : World) (z0 : Value) (x0 : (List ByteArray)) (r_0 : rdS tStr w w.heap.size z0 x0) (s_0 : x0.length ≤ 68719476736) (hl : 1 ≤ x0.length) (hw : ∀ j, (gt x0 j).size ≤ 1048576) (hT : TabOK w.heap.size w) :
  Calls Tryz.prog 33 #[z0] w fun e w' => ∃ v : List Value, e = .returned (.agg v.toArray) ∧ Mem w.heap.size w [iOwn tyUpdate v (impl_readUpdate_m x0)] w' := by
 obtain ⟨m1, A2, c3, rfl, q4, r5⟩ := rdS_op r_0
 have l6 : x0.length ≤ 68719476736 := s_0
 refine ce1 (L := [(0, .slice A2 x0.length c3)]) (N := 81) func33 ?_
 have hw0 := hw 0
 have hw1 := hw 1
 have hw2 := hw 2
 have hw3 := hw 3
 refine sr ?_
 refine WM_alloc type32 rfl (Wd_none rfl) (by decide) (fun p7 => ?_)
 refine nt' (sr ?_)
 let K1 : List Value := [.int .i64 0, .int .i64 0, .slice none 0 0, .int .i64 0, .int .i64 0]
 refine wv (fun W hm => rv_build (cs := K1) rfl (by kernel_rfl)) ?_
 refine WM_alloc type32 rfl (Wd_none rfl) (by decide) (fun p8 => ?_)
 refine sb 0 K1 [iBox p7 32 K1] (fun W hm => hm) type32 ?_
 refine nt' (CM_seq (CM_block (sr (wm ?_))))
 obtain ⟨a9, rfl, hb10, he11⟩ := q4 (by omega)
 refine wv (vix 1 0 underlying58 type9) ?_
 obtain ⟨_, e13, hc12⟩ := he11 0 _ (gt_some (show 0 < x0.length from by omega))
 obtain ⟨_, rfl, rfl, hs14⟩ := e13
 refine wv (fun W hm => rv_load underlying9 rfl rfl ((hm.cell0 (show (a9.add (0 * 1)).block < w.heap.size from by rw [add_block]; exact hb10.1)).trans (hc12 0 _ rfl))) ?_
 refine wv (fun W hm => rv_eqlS (p := (gt x0 0)) (q := (sB [105, 110, 115, 101, 114, 116])) underlying9 rfl rfl) ?_
 refine wm ?_
 rcases Bool.eq_false_or_eq_true (eqS (gt x0 0) (sB [105, 110, 115, 101, 114, 116])) with g16 | g16
 ·
  refine wg vmv g16 ?_
  refine wg (vlen underlying58) g16 ?_
  refine wg (fun W hm => rv_eql rfl rfl) g16 ?_
  refine wv (vpT g16) ?_
  refine wa (nt' ?_)
  by_cases h17 : ((x0.length : Nat) : Int) = 2
  ·have g18 := beq_iff_eq.2 h17
   refine CM_condT rfl g18 ?_
   refine sr ?_
   refine wv (vf underlying32 rfl type3) ?_
   refine sb 0 [.int .i64 1, .int .i64 0, .slice none 0 0, .int .i64 0, .int .i64 0] [iBox p7 32 K1] (fun W hm => hm) type3 ?_
   refine nt' (CM_region (wm ?_))
   refine wv (vix 1 1 underlying58 type9) ?_
   obtain ⟨_, e20, hc19⟩ := he11 1 _ (gt_some (show 1 < x0.length from by omega))
   obtain ⟨_, rfl, rfl, hs21⟩ := e20
   refine wv (fun W hm => rv_load underlying9 rfl rfl ((hm.cell0 (show (a9.add (1 * 1)).block < w.heap.size from by rw [add_block]; exact hb10.1)).trans (hc19 0 _ rfl))) ?_
   refine WM_call (χ := List Value) (val := fun x => .tuple #[.agg x.toArray, .bool ((impl_ParseRow_m (gt x0 1)).2)]) (js := fun x => [iOwn tyRow x ((impl_ParseRow_m (gt x0 1)).1)]) (cl_fn cb7 rfl) (fun W hm => impl_ParseRow_c W (gt x0 1) (by omega) (hT.mem hm)) (Wd_none rfl) (by decide) (fun z22 => ?_)
   refine tyRow_sp ?_
   rintro v23 rfl
   refine WM_form (n := 0) rfl ?_
   rintro A24 c25 rfl m26
   refine wm ?_
   refine wv (fun W hm => rv_extract rfl rfl) ?_
   refine wv (fun W hm => rv_extract rfl rfl) ?_
   refine wv (vf underlying32 rfl type26) ?_
   let K2 : List Value := [.int .i64 1, .int .i64 (((impl_ParseRow_m (gt x0 1)).1).Id), .slice A24 (((impl_ParseRow_m (gt x0 1)).1).Values).length c25, .int .i64 0, .int .i64 0]
   let K3 : List Value := [.slice A24 (((impl_ParseRow_m (gt x0 1)).1).Values).length c25]
   let I9 : It := iOwn (tSl tInt 3) K3 (((impl_ParseRow_m (gt x0 1)).1).Values)
   refine sb 1 K2 [I9, iBox p7 32 K1] (pk [1, 0, 2]) type26 ?_
   refine WM_nil (QM_block_normal (QM_then (sr ?_)))
   refine wv (fun W hm => rv_loadN (cs := K2) underlying32 type32 rfl rfl (hm.boxCells (n := 0) rfl)) ?_
   refine sb 0 K2 [iBox p8 32 K2, I9] (pk [2, 0, 1]) type32 ?_
   refine nt' (CM_ret ?_)
   have he28 := (show impl_readUpdate_m x0 = (⟨1, ((impl_ParseRow_m (gt x0 1)).1), 0, 0⟩ : DUpdate) from cond_t g16 (cond_t g18 (rfl)))
   refine QM_r1 rfl (RR_cell (n := 0) rfl rfl underlying32 type32 rfl) (fun W hm => ⟨K2, ?_, ?_⟩)
   ·first | rw [he28] | rfl
   ·rw [he28]; exact Mem.join (is := [I9]) (js := []) (fun _ _ hs => tyUpdate_join (x := (⟨1, ((impl_ParseRow_m (gt x0 1)).1), 0, 0⟩ : DUpdate)) hs) (hm.pick [2] (by decide))
  ·have g18 := beq_eq_false_iff_ne.2 h17
   refine CM_condF rfl g18 ?_
   refine sr (wm ?_)
   refine wv (vix 1 0 underlying58 type9) ?_
   refine wv (fun W hm => rv_load underlying9 rfl rfl ((hm.cell0 (show (a9.add (0 * 1)).block < w.heap.size from by rw [add_block]; exact hb10.1)).trans (hc12 0 _ rfl))) ?_
   refine wv (fun W hm => rv_eqlS (p := (gt x0 0)) (q := (sB [100, 101, 108, 101, 116, 101])) underlying9 rfl rfl) ?_
   refine wm ?_
   rcases Bool.eq_false_or_eq_true (eqS (gt x0 0) (sB [100, 101, 108, 101, 116, 101])) with g30 | g30
   ·
    refine wg vmv g30 ?_
    refine wg (vlen underlying58) g30 ?_
    refine wg (fun W hm => rv_eql rfl rfl) g30 ?_
    refine wv (vpT g30) ?_
    refine wa (nt' ?_)
    refine CM_condF rfl g18 ?_
    refine sr (wm ?_)
    refine wv (vix 1 0 underlying58 type9) ?_
    refine wv (fun W hm => rv_load underlying9 rfl rfl ((hm.cell0 (show (a9.add (0 * 1)).block < w.heap.size from by rw [add_block]; exact hb10.1)).trans (hc12 0 _ rfl))) ?_
    refine wv (fun W hm => rv_eqlS (p := (gt x0 0)) (q := (sB [115, 101, 116])) underlying9 rfl rfl) ?_
    refine wm ?_
    rcases Bool.eq_false_or_eq_true (eqS (gt x0 0) (sB [115, 101, 116])) with g32 | g32
    ·
     refine wg vmv g32 ?_
     refine wg (vlen underlying58) g32 ?_
     refine wg (fun W hm => rv_eql rfl rfl) g32 ?_
     refine wv (vpT g32) ?_
     refine wa (nt' ?_)
     by_cases h33 : ((x0.length : Nat) : Int) = 4
     ·have g34 := beq_iff_eq.2 h33
      refine CM_condT rfl g34 ?_
      refine sr ?_
      refine wv (vf underlying32 rfl type3) ?_
      refine sb 0 [.int .i64 3, .int .i64 0, .slice none 0 0, .int .i64 0, .int .i64 0] [iBox p7 32 K1] (fun W hm => hm) type3 ?_
      refine nt' (sr (wm ?_))
      refine wv (vix 1 1 underlying58 type9) ?_
      obtain ⟨_, e36, hc35⟩ := he11 1 _ (gt_some (show 1 < x0.length from by omega))
      obtain ⟨_, rfl, rfl, hs37⟩ := e36
      refine wv (fun W hm => rv_load underlying9 rfl rfl ((hm.cell0 (show (a9.add (1 * 1)).block < w.heap.size from by rw [add_block]; exact hb10.1)).trans (hc35 0 _ rfl))) ?_
      refine wcv (cl_fn cb29 rfl) (fun W hm => impl_ParseInt_c W (gt x0 1) (by omega) (hT.mem hm)) ?_
      refine wm ?_
      refine wv (fun W hm => rv_extract rfl rfl) ?_
      refine wv (fun W hm => rv_extract rfl rfl) ?_
      refine wv (vf underlying32 rfl type26) ?_
      refine wv (fun W hm => rv_fieldA (o := 1) underlying26 rfl type3 (by decide) rfl rfl) ?_
      refine sb 1 [.int .i64 3, .int .i64 ((impl_ParseInt_m (gt x0 1)).1), .slice none 0 0, .int .i64 0, .int .i64 0] [iBox p7 32 K1] (fun W hm => hm) type3 ?_
      refine nt' (sr (wm ?_))
      refine wv (vix 1 2 underlying58 type9) ?_
      obtain ⟨_, e39, hc38⟩ := he11 2 _ (gt_some (show 2 < x0.length from by omega))
      obtain ⟨_, rfl, rfl, hs40⟩ := e39
      refine wv (fun W hm => rv_load underlying9 rfl rfl ((hm.cell0 (show (a9.add (2 * 1)).block < w.heap.size from by rw [add_block]; exact hb10.1)).trans (hc38 0 _ rfl))) ?_
      have hz41 : ByteArray.size (sB [102]) = 1 := rfl
      refine wcv (cl_fn cb61 rfl) (fun W hm => impl_parseAfter_c W (gt x0 2) (sB [102]) (by omega) (by omega) (hT.mem hm)) ?_
      refine wm ?_
      refine wv (fun W hm => rv_extract rfl rfl) ?_
      refine wv (fun W hm => rv_extract rfl rfl) ?_
      refine wv (vf underlying32 rfl type3) ?_
      refine sb 3 [.int .i64 3, .int .i64 ((impl_ParseInt_m (gt x0 1)).1), .slice none 0 0, .int .i64 ((impl_parseAfter_m (gt x0 2) (sB [102])).1), .int .i64 0] [iBox p7 32 K1] (fun W hm => hm) type3 ?_
      refine nt' (CM_region (wm ?_))
      refine wv (vix 1 3 underlying58 type9) ?_
      obtain ⟨_, e43, hc42⟩ := he11 3 _ (gt_some (show 3 < x0.length from by omega))
      obtain ⟨_, rfl, rfl, hs44⟩ := e43
      refine wv (fun W hm => rv_load underlying9 rfl rfl ((hm.cell0 (show (a9.add (3 * 1)).block < w.heap.size from by rw [add_block]; exact hb10.1)).trans (hc42 0 _ rfl))) ?_
      refine wcv (cl_fn cb29 rfl) (fun W hm => impl_ParseInt_c W (gt x0 3) (by omega) (hT.mem hm)) ?_
      refine wm ?_
      refine wv (fun W hm => rv_extract rfl rfl) ?_
      refine wv (fun W hm => rv_extract rfl rfl) ?_
      refine wv (vf underlying32 rfl type3) ?_
      let K4 : List Value := [.int .i64 3, .int .i64 ((impl_ParseInt_m (gt x0 1)).1), .slice none 0 0, .int .i64 ((impl_parseAfter_m (gt x0 2) (sB [102])).1), .int .i64 ((impl_ParseInt_m (gt x0 3)).1)]
      refine sb 4 K4 [iBox p7 32 K1] (fun W hm => hm) type3 ?_
      refine WM_nil (QM_block_normal (QM_then (sr ?_)))
      refine wv (fun W hm => rv_loadN (cs := K4) underlying32 type32 rfl rfl (hm.boxCells (n := 0) rfl)) ?_
      refine sb 0 K4 [iBox p8 32 K4] (pk [1, 0]) type32 ?_
      refine nt' (CM_ret ?_)
      refine QM_items (fun W hm => hm.addNil (E := tInt) (e := 3)) ?_
      have he46 := (show impl_readUpdate_m x0 = (⟨3, (⟨(impl_ParseInt_m (gt x0 1)).1, []⟩ : DRow), (impl_parseAfter_m (gt x0 2) (sB [102])).1, (impl_ParseInt_m (gt x0 3)).1⟩ : DUpdate) from cond_t g16 (cond_f g18 (cond_t g30 (cond_t g32 (cond_t g34 (rfl))))))
      refine QM_r1 rfl (RR_cell (n := 1) rfl rfl underlying32 type32 rfl) (fun W hm => ⟨K4, ?_, ?_⟩)
      ·first | rw [he46] | rfl
      ·rw [he46]; exact Mem.join (is := [iOwn (tSl tInt 3) [.slice none 0 0] []]) (js := []) (fun _ _ hs => tyUpdate_join (x := (⟨3, (⟨(impl_ParseInt_m (gt x0 1)).1, []⟩ : DRow), (impl_parseAfter_m (gt x0 2) (sB [102])).1, (impl_ParseInt_m (gt x0 3)).1⟩ : DUpdate)) hs) (hm.pick [0] (by decide))
     ·have g34 := beq_eq_false_iff_ne.2 h33
      refine CM_condF rfl g34 ?_
      refine CM_skip (QM_block_normal (QM_then (sr ?_)))
      refine wv (fun W hm => rv_loadN (cs := K1) underlying32 type32 rfl rfl (hm.boxCells (n := 0) rfl)) ?_
      refine sb 0 K1 [iBox p8 32 K1] (pk [1, 0]) type32 ?_
      refine nt' (CM_ret ?_)
      refine QM_items (fun W hm => hm.addNil (E := tInt) (e := 3)) ?_
      have he48 := (show impl_readUpdate_m x0 = (⟨0, (⟨0, []⟩ : DRow), 0, 0⟩ : DUpdate) from cond_t g16 (cond_f g18 (cond_t g30 (cond_t g32 (cond_f g34 (rfl))))))
      refine QM_r1 rfl (RR_cell (n := 1) rfl rfl underlying32 type32 rfl) (fun W hm => ⟨K1, ?_, ?_⟩)
      ·first | rw [he48] | rfl
      ·rw [he48]; exact Mem.join (is := [iOwn (tSl tInt 3) [.slice none 0 0] []]) (js := []) (fun _ _ hs => tyUpdate_join (x := (⟨0, (⟨0, []⟩ : DRow), 0, 0⟩ : DUpdate)) hs) (hm.pick [0] (by decide))
    ·
     refine ws g32 ?_
     refine ws g32 ?_
     refine ws g32 ?_
     refine wv (vpF g32) ?_
     refine wa (nt' ?_)
     refine CM_condF rfl rfl ?_
     refine CM_skip (QM_block_normal (QM_then (sr ?_)))
     refine wv (fun W hm => rv_loadN (cs := K1) underlying32 type32 rfl rfl (hm.boxCells (n := 0) rfl)) ?_
     refine sb 0 K1 [iBox p8 32 K1] (pk [1, 0]) type32 ?_
     refine nt' (CM_ret ?_)
     refine QM_items (fun W hm => hm.addNil (E := tInt) (e := 3)) ?_
     have he50 := (show impl_readUpdate_m x0 = (⟨0, (⟨0, []⟩ : DRow), 0, 0⟩ : DUpdate) from cond_t g16 (cond_f g18 (cond_t g30 (cond_f g32 (rfl)))))
     refine QM_r1 rfl (RR_cell (n := 1) rfl rfl underlying32 type32 rfl) (fun W hm => ⟨K1, ?_, ?_⟩)
     ·first | rw [he50] | rfl
     ·rw [he50]; exact Mem.join (is := [iOwn (tSl tInt 3) [.slice none 0 0] []]) (js := []) (fun _ _ hs => tyUpdate_join (x := (⟨0, (⟨0, []⟩ : DRow), 0, 0⟩ : DUpdate)) hs) (hm.pick [0] (by decide))
   ·
    refine ws g30 ?_
    refine ws g30 ?_
    refine ws g30 ?_
    refine wv (vpF g30) ?_
    refine wa (nt' ?_)
    refine CM_condF rfl rfl ?_
    refine sr (wm ?_)
    refine wv (vix 1 0 underlying58 type9) ?_
    refine wv (fun W hm => rv_load underlying9 rfl rfl ((hm.cell0 (show (a9.add (0 * 1)).block < w.heap.size from by rw [add_block]; exact hb10.1)).trans (hc12 0 _ rfl))) ?_
    refine wv (fun W hm => rv_eqlS (p := (gt x0 0)) (q := (sB [115, 101, 116])) underlying9 rfl rfl) ?_
    refine wm ?_
    rcases Bool.eq_false_or_eq_true (eqS (gt x0 0) (sB [115, 101, 116])) with g52 | g52
    ·
     refine wg vmv g52 ?_
     refine wg (vlen underlying58) g52 ?_
     refine wg (fun W hm => rv_eql rfl rfl) g52 ?_
     refine wv (vpT g52) ?_
     refine wa (nt' ?_)
     by_cases h53 : ((x0.length : Nat) : Int) = 4
     ·have g54 := beq_iff_eq.2 h53
      refine CM_condT rfl g54 ?_
      refine sr ?_
      refine wv (vf underlying32 rfl type3) ?_
      refine sb 0 [.int .i64 3, .int .i64 0, .slice none 0 0, .int .i64 0, .int .i64 0] [iBox p7 32 K1] (fun W hm => hm) type3 ?_
      refine nt' (sr (wm ?_))
      refine wv (vix 1 1 underlying58 type9) ?_
      obtain ⟨_, e56, hc55⟩ := he11 1 _ (gt_some (show 1 < x0.length from by omega))
      obtain ⟨_, rfl, rfl, hs57⟩ := e56
      refine wv (fun W hm => rv_load underlying9 rfl rfl ((hm.cell0 (show (a9.add (1 * 1)).block < w.heap.size from by rw [add_block]; exact hb10.1)).trans (hc55 0 _ rfl))) ?_
      refine wcv (cl_fn cb29 rfl) (fun W hm => impl_ParseInt_c W (gt x0 1) (by omega) (hT.mem hm)) ?_
      refine wm ?_
      refine wv (fun W hm => rv_extract rfl rfl) ?_
      refine wv (fun W hm => rv_extract rfl rfl) ?_
      refine wv (vf underlying32 rfl type26) ?_
      refine wv (fun W hm => rv_fieldA (o := 1) underlying26 rfl type3 (by decide) rfl rfl) ?_
      refine sb 1 [.int .i64 3, .int .i64 ((impl_ParseInt_m (gt x0 1)).1), .slice none 0 0, .int .i64 0, .int .i64 0] [iBox p7 32 K1] (fun W hm => hm) type3 ?_
      refine nt' (sr (wm ?_))
      refine wv (vix 1 2 underlying58 type9) ?_
      obtain ⟨_, e59, hc58⟩ := he11 2 _ (gt_some (show 2 < x0.length from by omega))
      obtain ⟨_, rfl, rfl, hs60⟩ := e59
      refine wv (fun W hm => rv_load underlying9 rfl rfl ((hm.cell0 (show (a9.add (2 * 1)).block < w.heap.size from by rw [add_block]; exact hb10.1)).trans (hc58 0 _ rfl))) ?_
      have hz61 : ByteArray.size (sB [102]) = 1 := rfl
      refine wcv (cl_fn cb61 rfl) (fun W hm => impl_parseAfter_c W (gt x0 2) (sB [102]) (by omega) (by omega) (hT.mem hm)) ?_
      refine wm ?_
      refine wv (fun W hm => rv_extract rfl rfl) ?_
      refine wv (fun W hm => rv_extract rfl rfl) ?_
      refine wv (vf underlying32 rfl type3) ?_
      refine sb 3 [.int .i64 3, .int .i64 ((impl_ParseInt_m (gt x0 1)).1), .slice none 0 0, .int .i64 ((impl_parseAfter_m (gt x0 2) (sB [102])).1), .int .i64 0] [iBox p7 32 K1] (fun W hm => hm) type3 ?_
      refine nt' (CM_region (wm ?_))
      refine wv (vix 1 3 underlying58 type9) ?_
      obtain ⟨_, e63, hc62⟩ := he11 3 _ (gt_some (show 3 < x0.length from by omega))
      obtain ⟨_, rfl, rfl, hs64⟩ := e63
      refine wv (fun W hm => rv_load underlying9 rfl rfl ((hm.cell0 (show (a9.add (3 * 1)).block < w.heap.size from by rw [add_block]; exact hb10.1)).trans (hc62 0 _ rfl))) ?_
      refine wcv (cl_fn cb29 rfl) (fun W hm => impl_ParseInt_c W (gt x0 3) (by omega) (hT.mem hm)) ?_
      refine wm ?_
      refine wv (fun W hm => rv_extract rfl rfl) ?_
      refine wv (fun W hm => rv_extract rfl rfl) ?_
      refine wv (vf underlying32 rfl type3) ?_
      let K5 : List Value := [.int .i64 3, .int .i64 ((impl_ParseInt_m (gt x0 1)).1), .slice none 0 0, .int .i64 ((impl_parseAfter_m (gt x0 2) (sB [102])).1), .int .i64 ((impl_ParseInt_m (gt x0 3)).1)]
      refine sb 4 K5 [iBox p7 32 K1] (fun W hm => hm) type3 ?_
      refine WM_nil (QM_block_normal (QM_then (sr ?_)))
      refine wv (fun W hm => rv_loadN (cs := K5) underlying32 type32 rfl rfl (hm.boxCells (n := 0) rfl)) ?_
      refine sb 0 K5 [iBox p8 32 K5] (pk [1, 0]) type32 ?_
      refine nt' (CM_ret ?_)
      refine QM_items (fun W hm => hm.addNil (E := tInt) (e := 3)) ?_
      have he66 := (show impl_readUpdate_m x0 = (⟨3, (⟨(impl_ParseInt_m (gt x0 1)).1, []⟩ : DRow), (impl_parseAfter_m (gt x0 2) (sB [102])).1, (impl_ParseInt_m (gt x0 3)).1⟩ : DUpdate) from cond_t g16 (cond_f g18 (cond_f g30 (cond_t g52 (cond_t g54 (rfl))))))
      refine QM_r1 rfl (RR_cell (n := 1) rfl rfl underlying32 type32 rfl) (fun W hm => ⟨K5, ?_, ?_⟩)
      ·first | rw [he66] | rfl
      ·rw [he66]; exact Mem.join (is := [iOwn (tSl tInt 3) [.slice none 0 0] []]) (js := []) (fun _ _ hs => tyUpdate_join (x := (⟨3, (⟨(impl_ParseInt_m (gt x0 1)).1, []⟩ : DRow), (impl_parseAfter_m (gt x0 2) (sB [102])).1, (impl_ParseInt_m (gt x0 3)).1⟩ : DUpdate)) hs) (hm.pick [0] (by decide))
     ·have g54 := beq_eq_false_iff_ne.2 h53
      refine CM_condF rfl g54 ?_
      refine CM_skip (QM_block_normal (QM_then (sr ?_)))
      refine wv (fun W hm => rv_loadN (cs := K1) underlying32 type32 rfl rfl (hm.boxCells (n := 0) rfl)) ?_
      refine sb 0 K1 [iBox p8 32 K1] (pk [1, 0]) type32 ?_
      refine nt' (CM_ret ?_)
      refine QM_items (fun W hm => hm.addNil (E := tInt) (e := 3)) ?_
      have he68 := (show impl_readUpdate_m x0 = (⟨0, (⟨0, []⟩ : DRow), 0, 0⟩ : DUpdate) from cond_t g16 (cond_f g18 (cond_f g30 (cond_t g52 (cond_f g54 (rfl))))))
      refine QM_r1 rfl (RR_cell (n := 1) rfl rfl underlying32 type32 rfl) (fun W hm => ⟨K1, ?_, ?_⟩)
      ·first | rw [he68] | rfl
      ·rw [he68]; exact Mem.join (is := [iOwn (tSl tInt 3) [.slice none 0 0] []]) (js := []) (fun _ _ hs => tyUpdate_join (x := (⟨0, (⟨0, []⟩ : DRow), 0, 0⟩ : DUpdate)) hs) (hm.pick [0] (by decide))
    ·
     refine ws g52 ?_
     refine ws g52 ?_
     refine ws g52 ?_
     refine wv (vpF g52) ?_
     refine wa (nt' ?_)
     refine CM_condF rfl rfl ?_
     refine CM_skip (QM_block_normal (QM_then (sr ?_)))
     refine wv (fun W hm => rv_loadN (cs := K1) underlying32 type32 rfl rfl (hm.boxCells (n := 0) rfl)) ?_
     refine sb 0 K1 [iBox p8 32 K1] (pk [1, 0]) type32 ?_
     refine nt' (CM_ret ?_)
     refine QM_items (fun W hm => hm.addNil (E := tInt) (e := 3)) ?_
     have he70 := (show impl_readUpdate_m x0 = (⟨0, (⟨0, []⟩ : DRow), 0, 0⟩ : DUpdate) from cond_t g16 (cond_f g18 (cond_f g30 (cond_f g52 (rfl)))))
     refine QM_r1 rfl (RR_cell (n := 1) rfl rfl underlying32 type32 rfl) (fun W hm => ⟨K1, ?_, ?_⟩)
     ·first | rw [he70] | rfl
     ·rw [he70]; exact Mem.join (is := [iOwn (tSl tInt 3) [.slice none 0 0] []]) (js := []) (fun _ _ hs => tyUpdate_join (x := (⟨0, (⟨0, []⟩ : DRow), 0, 0⟩ : DUpdate)) hs) (hm.pick [0] (by decide))
 ·
  refine ws g16 ?_
  refine ws g16 ?_
  refine ws g16 ?_
  refine wv (vpF g16) ?_
  refine wa (nt' ?_)
  refine CM_condF rfl rfl ?_
  refine sr (wm ?_)
  refine wv (vix 1 0 underlying58 type9) ?_
  refine wv (fun W hm => rv_load underlying9 rfl rfl ((hm.cell0 (show (a9.add (0 * 1)).block < w.heap.size from by rw [add_block]; exact hb10.1)).trans (hc12 0 _ rfl))) ?_
  refine wv (fun W hm => rv_eqlS (p := (gt x0 0)) (q := (sB [100, 101, 108, 101, 116, 101])) underlying9 rfl rfl) ?_
  refine wm ?_
  rcases Bool.eq_false_or_eq_true (eqS (gt x0 0) (sB [100, 101, 108, 101, 116, 101])) with g72 | g72
  ·
   refine wg vmv g72 ?_
   refine wg (vlen underlying58) g72 ?_
   refine wg (fun W hm => rv_eql rfl rfl) g72 ?_
   refine wv (vpT g72) ?_
   refine wa (nt' ?_)
   by_cases h73 : ((x0.length : Nat) : Int) = 2
   ·have g74 := beq_iff_eq.2 h73
    refine CM_condT rfl g74 ?_
    refine sr ?_
    refine wv (vf underlying32 rfl type3) ?_
    refine sb 0 [.int .i64 2, .int .i64 0, .slice none 0 0, .int .i64 0, .int .i64 0] [iBox p7 32 K1] (fun W hm => hm) type3 ?_
    refine nt' (CM_region (wm ?_))
    refine wv (vix 1 1 underlying58 type9) ?_
    obtain ⟨_, e76, hc75⟩ := he11 1 _ (gt_some (show 1 < x0.length from by omega))
    obtain ⟨_, rfl, rfl, hs77⟩ := e76
    refine wv (fun W hm => rv_load underlying9 rfl rfl ((hm.cell0 (show (a9.add (1 * 1)).block < w.heap.size from by rw [add_block]; exact hb10.1)).trans (hc75 0 _ rfl))) ?_
    refine wcv (cl_fn cb29 rfl) (fun W hm => impl_ParseInt_c W (gt x0 1) (by omega) (hT.mem hm)) ?_
    refine wm ?_
    refine wv (fun W hm => rv_extract rfl rfl) ?_
    refine wv (fun W hm => rv_extract rfl rfl) ?_
    refine wv (vf underlying32 rfl type26) ?_
    refine wv (fun W hm => rv_fieldA (o := 1) underlying26 rfl type3 (by decide) rfl rfl) ?_
    let K6 : List Value := [.int .i64 2, .int .i64 ((impl_ParseInt_m (gt x0 1)).1), .slice none 0 0, .int .i64 0, .int .i64 0]
    refine sb 1 K6 [iBox p7 32 K1] (fun W hm => hm) type3 ?_
    refine WM_nil (QM_block_normal (QM_then (sr ?_)))
    refine wv (fun W hm => rv_loadN (cs := K6) underlying32 type32 rfl rfl (hm.boxCells (n := 0) rfl)) ?_
    refine sb 0 K6 [iBox p8 32 K6] (pk [1, 0]) type32 ?_
    refine nt' (CM_ret ?_)
    refine QM_items (fun W hm => hm.addNil (E := tInt) (e := 3)) ?_
    have he79 := (show impl_readUpdate_m x0 = (⟨2, (⟨(impl_ParseInt_m (gt x0 1)).1, []⟩ : DRow), 0, 0⟩ : DUpdate) from cond_f g16 (cond_t g72 (cond_t g74 (rfl))))
    refine QM_r1 rfl (RR_cell (n := 1) rfl rfl underlying32 type32 rfl) (fun W hm => ⟨K6, ?_, ?_⟩)
    ·first | rw [he79] | rfl
    ·rw [he79]; exact Mem.join (is := [iOwn (tSl tInt 3) [.slice none 0 0] []]) (js := []) (fun _ _ hs => tyUpdate_join (x := (⟨2, (⟨(impl_ParseInt_m (gt x0 1)).1, []⟩ : DRow), 0, 0⟩ : DUpdate)) hs) (hm.pick [0] (by decide))
   ·have g74 := beq_eq_false_iff_ne.2 h73
    refine CM_condF rfl g74 ?_
    refine sr (wm ?_)
    refine wv (vix 1 0 underlying58 type9) ?_
    refine wv (fun W hm => rv_load underlying9 rfl rfl ((hm.cell0 (show (a9.add (0 * 1)).block < w.heap.size from by rw [add_block]; exact hb10.1)).trans (hc12 0 _ rfl))) ?_
    refine wv (fun W hm => rv_eqlS (p := (gt x0 0)) (q := (sB [115, 101, 116])) underlying9 rfl rfl) ?_
    refine wm ?_
    rcases Bool.eq_false_or_eq_true (eqS (gt x0 0) (sB [115, 101, 116])) with g81 | g81
    ·
     refine wg vmv g81 ?_
     refine wg (vlen underlying58) g81 ?_
     refine wg (fun W hm => rv_eql rfl rfl) g81 ?_
     refine wv (vpT g81) ?_
     refine wa (nt' ?_)
     by_cases h82 : ((x0.length : Nat) : Int) = 4
     ·have g83 := beq_iff_eq.2 h82
      refine CM_condT rfl g83 ?_
      refine sr ?_
      refine wv (vf underlying32 rfl type3) ?_
      refine sb 0 [.int .i64 3, .int .i64 0, .slice none 0 0, .int .i64 0, .int .i64 0] [iBox p7 32 K1] (fun W hm => hm) type3 ?_
      refine nt' (sr (wm ?_))
      refine wv (vix 1 1 underlying58 type9) ?_
      obtain ⟨_, e85, hc84⟩ := he11 1 _ (gt_some (show 1 < x0.length from by omega))
      obtain ⟨_, rfl, rfl, hs86⟩ := e85
      refine wv (fun W hm => rv_load underlying9 rfl rfl ((hm.cell0 (show (a9.add (1 * 1)).block < w.heap.size from by rw [add_block]; exact hb10.1)).trans (hc84 0 _ rfl))) ?_
      refine wcv (cl_fn cb29 rfl) (fun W hm => impl_ParseInt_c W (gt x0 1) (by omega) (hT.mem hm)) ?_
      refine wm ?_
      refine wv (fun W hm => rv_extract rfl rfl) ?_
      refine wv (fun W hm => rv_extract rfl rfl) ?_
      refine wv (vf underlying32 rfl type26) ?_
      refine wv (fun W hm => rv_fieldA (o := 1) underlying26 rfl type3 (by decide) rfl rfl) ?_
      refine sb 1 [.int .i64 3, .int .i64 ((impl_ParseInt_m (gt x0 1)).1), .slice none 0 0, .int .i64 0, .int .i64 0] [iBox p7 32 K1] (fun W hm => hm) type3 ?_
      refine nt' (sr (wm ?_))
      refine wv (vix 1 2 underlying58 type9) ?_
      obtain ⟨_, e88, hc87⟩ := he11 2 _ (gt_some (show 2 < x0.length from by omega))
      obtain ⟨_, rfl, rfl, hs89⟩ := e88
      refine wv (fun W hm => rv_load underlying9 rfl rfl ((hm.cell0 (show (a9.add (2 * 1)).block < w.heap.size from by rw [add_block]; exact hb10.1)).trans (hc87 0 _ rfl))) ?_
      have hz90 : ByteArray.size (sB [102]) = 1 := rfl
      refine wcv (cl_fn cb61 rfl) (fun W hm => impl_parseAfter_c W (gt x0 2) (sB [102]) (by omega) (by omega) (hT.mem hm)) ?_
      refine wm ?_
      refine wv (fun W hm => rv_extract rfl rfl) ?_
      refine wv (fun W hm => rv_extract rfl rfl) ?_
      refine wv (vf underlying32 rfl type3) ?_
      refine sb 3 [.int .i64 3, .int .i64 ((impl_ParseInt_m (gt x0 1)).1), .slice none 0 0, .int .i64 ((impl_parseAfter_m (gt x0 2) (sB [102])).1), .int .i64 0] [iBox p7 32 K1] (fun W hm => hm) type3 ?_
      refine nt' (CM_region (wm ?_))
      refine wv (vix 1 3 underlying58 type9) ?_
      obtain ⟨_, e92, hc91⟩ := he11 3 _ (gt_some (show 3 < x0.length from by omega))
      obtain ⟨_, rfl, rfl, hs93⟩ := e92
      refine wv (fun W hm => rv_load underlying9 rfl rfl ((hm.cell0 (show (a9.add (3 * 1)).block < w.heap.size from by rw [add_block]; exact hb10.1)).trans (hc91 0 _ rfl))) ?_
      refine wcv (cl_fn cb29 rfl) (fun W hm => impl_ParseInt_c W (gt x0 3) (by omega) (hT.mem hm)) ?_
      refine wm ?_
      refine wv (fun W hm => rv_extract rfl rfl) ?_
      refine wv (fun W hm => rv_extract rfl rfl) ?_
      refine wv (vf underlying32 rfl type3) ?_
      let K7 : List Value := [.int .i64 3, .int .i64 ((impl_ParseInt_m (gt x0 1)).1), .slice none 0 0, .int .i64 ((impl_parseAfter_m (gt x0 2) (sB [102])).1), .int .i64 ((impl_ParseInt_m (gt x0 3)).1)]
      refine sb 4 K7 [iBox p7 32 K1] (fun W hm => hm) type3 ?_
      refine WM_nil (QM_block_normal (QM_then (sr ?_)))
      refine wv (fun W hm => rv_loadN (cs := K7) underlying32 type32 rfl rfl (hm.boxCells (n := 0) rfl)) ?_
      refine sb 0 K7 [iBox p8 32 K7] (pk [1, 0]) type32 ?_
      refine nt' (CM_ret ?_)
      refine QM_items (fun W hm => hm.addNil (E := tInt) (e := 3)) ?_
      have he95 := (show impl_readUpdate_m x0 = (⟨3, (⟨(impl_ParseInt_m (gt x0 1)).1, []⟩ : DRow), (impl_parseAfter_m (gt x0 2) (sB [102])).1, (impl_ParseInt_m (gt x0 3)).1⟩ : DUpdate) from cond_f g16 (cond_t g72 (cond_f g74 (cond_t g81 (cond_t g83 (rfl))))))
      refine QM_r1 rfl (RR_cell (n := 1) rfl rfl underlying32 type32 rfl) (fun W hm => ⟨K7, ?_, ?_⟩)
      ·first | rw [he95] | rfl
      ·rw [he95]; exact Mem.join (is := [iOwn (tSl tInt 3) [.slice none 0 0] []]) (js := []) (fun _ _ hs => tyUpdate_join (x := (⟨3, (⟨(impl_ParseInt_m (gt x0 1)).1, []⟩ : DRow), (impl_parseAfter_m (gt x0 2) (sB [102])).1, (impl_ParseInt_m (gt x0 3)).1⟩ : DUpdate)) hs) (hm.pick [0] (by decide))
     ·have g83 := beq_eq_false_iff_ne.2 h82
      refine CM_condF rfl g83 ?_
      refine CM_skip (QM_block_normal (QM_then (sr ?_)))
      refine wv (fun W hm => rv_loadN (cs := K1) underlying32 type32 rfl rfl (hm.boxCells (n := 0) rfl)) ?_
      refine sb 0 K1 [iBox p8 32 K1] (pk [1, 0]) type32 ?_
      refine nt' (CM_ret ?_)
      refine QM_items (fun W hm => hm.addNil (E := tInt) (e := 3)) ?_
      have he97 := (show impl_readUpdate_m x0 = (⟨0, (⟨0, []⟩ : DRow), 0, 0⟩ : DUpdate) from cond_f g16 (cond_t g72 (cond_f g74 (cond_t g81 (cond_f g83 (rfl))))))
      refine QM_r1 rfl (RR_cell (n := 1) rfl rfl underlying32 type32 rfl) (fun W hm => ⟨K1, ?_, ?_⟩)
      ·first | rw [he97] | rfl
      ·rw [he97]; exact Mem.join (is := [iOwn (tSl tInt 3) [.slice none 0 0] []]) (js := []) (fun _ _ hs => tyUpdate_join (x := (⟨0, (⟨0, []⟩ : DRow), 0, 0⟩ : DUpdate)) hs) (hm.pick [0] (by decide))
    ·
     refine ws g81 ?_
     refine ws g81 ?_
     refine ws g81 ?_
     refine wv (vpF g81) ?_
     refine wa (nt' ?_)
     refine CM_condF rfl rfl ?_
     refine CM_skip (QM_block_normal (QM_then (sr ?_)))
     refine wv (fun W hm => rv_loadN (cs := K1) underlying32 type32 rfl rfl (hm.boxCells (n := 0) rfl)) ?_
     refine sb 0 K1 [iBox p8 32 K1] (pk [1, 0]) type32 ?_
     refine nt' (CM_ret ?_)
     refine QM_items (fun W hm => hm.addNil (E := tInt) (e := 3)) ?_
     have he99 := (show impl_readUpdate_m x0 = (⟨0, (⟨0, []⟩ : DRow), 0, 0⟩ : DUpdate) from cond_f g16 (cond_t g72 (cond_f g74 (cond_f g81 (rfl)))))
     refine QM_r1 rfl (RR_cell (n := 1) rfl rfl underlying32 type32 rfl) (fun W hm => ⟨K1, ?_, ?_⟩)
     ·first | rw [he99] | rfl
     ·rw [he99]; exact Mem.join (is := [iOwn (tSl tInt 3) [.slice none 0 0] []]) (js := []) (fun _ _ hs => tyUpdate_join (x := (⟨0, (⟨0, []⟩ : DRow), 0, 0⟩ : DUpdate)) hs) (hm.pick [0] (by decide))
  ·
   refine ws g72 ?_
   refine ws g72 ?_
   refine ws g72 ?_
   refine wv (vpF g72) ?_
   refine wa (nt' ?_)
   refine CM_condF rfl rfl ?_
   refine sr (wm ?_)
   refine wv (vix 1 0 underlying58 type9) ?_
   refine wv (fun W hm => rv_load underlying9 rfl rfl ((hm.cell0 (show (a9.add (0 * 1)).block < w.heap.size from by rw [add_block]; exact hb10.1)).trans (hc12 0 _ rfl))) ?_
   refine wv (fun W hm => rv_eqlS (p := (gt x0 0)) (q := (sB [115, 101, 116])) underlying9 rfl rfl) ?_
   refine wm ?_
   rcases Bool.eq_false_or_eq_true (eqS (gt x0 0) (sB [115, 101, 116])) with g101 | g101
   ·
    refine wg vmv g101 ?_
    refine wg (vlen underlying58) g101 ?_
    refine wg (fun W hm => rv_eql rfl rfl) g101 ?_
    refine wv (vpT g101) ?_
    refine wa (nt' ?_)
    by_cases h102 : ((x0.length : Nat) : Int) = 4
    ·have g103 := beq_iff_eq.2 h102
     refine CM_condT rfl g103 ?_
     refine sr ?_
     refine wv (vf underlying32 rfl type3) ?_
     refine sb 0 [.int .i64 3, .int .i64 0, .slice none 0 0, .int .i64 0, .int .i64 0] [iBox p7 32 K1] (fun W hm => hm) type3 ?_
     refine nt' (sr (wm ?_))
     refine wv (vix 1 1 underlying58 type9) ?_
     obtain ⟨_, e105, hc104⟩ := he11 1 _ (gt_some (show 1 < x0.length from by omega))
     obtain ⟨_, rfl, rfl, hs106⟩ := e105
     refine wv (fun W hm => rv_load underlying9 rfl rfl ((hm.cell0 (show (a9.add (1 * 1)).block < w.heap.size from by rw [add_block]; exact hb10.1)).trans (hc104 0 _ rfl))) ?_
     refine wcv (cl_fn cb29 rfl) (fun W hm => impl_ParseInt_c W (gt x0 1) (by omega) (hT.mem hm)) ?_
     refine wm ?_
     refine wv (fun W hm => rv_extract rfl rfl) ?_
     refine wv (fun W hm => rv_extract rfl rfl) ?_
     refine wv (vf underlying32 rfl type26) ?_
     refine wv (fun W hm => rv_fieldA (o := 1) underlying26 rfl type3 (by decide) rfl rfl) ?_
     refine sb 1 [.int .i64 3, .int .i64 ((impl_ParseInt_m (gt x0 1)).1), .slice none 0 0, .int .i64 0, .int .i64 0] [iBox p7 32 K1] (fun W hm => hm) type3 ?_
     refine nt' (sr (wm ?_))
     refine wv (vix 1 2 underlying58 type9) ?_
     obtain ⟨_, e108, hc107⟩ := he11 2 _ (gt_some (show 2 < x0.length from by omega))
     obtain ⟨_, rfl, rfl, hs109⟩ := e108
     refine wv (fun W hm => rv_load underlying9 rfl rfl ((hm.cell0 (show (a9.add (2 * 1)).block < w.heap.size from by rw [add_block]; exact hb10.1)).trans (hc107 0 _ rfl))) ?_
     have hz110 : ByteArray.size (sB [102]) = 1 := rfl
     refine wcv (cl_fn cb61 rfl) (fun W hm => impl_parseAfter_c W (gt x0 2) (sB [102]) (by omega) (by omega) (hT.mem hm)) ?_
     refine wm ?_
     refine wv (fun W hm => rv_extract rfl rfl) ?_
     refine wv (fun W hm => rv_extract rfl rfl) ?_
     refine wv (vf underlying32 rfl type3) ?_
     refine sb 3 [.int .i64 3, .int .i64 ((impl_ParseInt_m (gt x0 1)).1), .slice none 0 0, .int .i64 ((impl_parseAfter_m (gt x0 2) (sB [102])).1), .int .i64 0] [iBox p7 32 K1] (fun W hm => hm) type3 ?_
     refine nt' (CM_region (wm ?_))
     refine wv (vix 1 3 underlying58 type9) ?_
     obtain ⟨_, e112, hc111⟩ := he11 3 _ (gt_some (show 3 < x0.length from by omega))
     obtain ⟨_, rfl, rfl, hs113⟩ := e112
     refine wv (fun W hm => rv_load underlying9 rfl rfl ((hm.cell0 (show (a9.add (3 * 1)).block < w.heap.size from by rw [add_block]; exact hb10.1)).trans (hc111 0 _ rfl))) ?_
     refine wcv (cl_fn cb29 rfl) (fun W hm => impl_ParseInt_c W (gt x0 3) (by omega) (hT.mem hm)) ?_
     refine wm ?_
     refine wv (fun W hm => rv_extract rfl rfl) ?_
     refine wv (fun W hm => rv_extract rfl rfl) ?_
     refine wv (vf underlying32 rfl type3) ?_
     let K8 : List Value := [.int .i64 3, .int .i64 ((impl_ParseInt_m (gt x0 1)).1), .slice none 0 0, .int .i64 ((impl_parseAfter_m (gt x0 2) (sB [102])).1), .int .i64 ((impl_ParseInt_m (gt x0 3)).1)]
     refine sb 4 K8 [iBox p7 32 K1] (fun W hm => hm) type3 ?_
     refine WM_nil (QM_block_normal (QM_then (sr ?_)))
     refine wv (fun W hm => rv_loadN (cs := K8) underlying32 type32 rfl rfl (hm.boxCells (n := 0) rfl)) ?_
     refine sb 0 K8 [iBox p8 32 K8] (pk [1, 0]) type32 ?_
     refine nt' (CM_ret ?_)
     refine QM_items (fun W hm => hm.addNil (E := tInt) (e := 3)) ?_
     have he115 := (show impl_readUpdate_m x0 = (⟨3, (⟨(impl_ParseInt_m (gt x0 1)).1, []⟩ : DRow), (impl_parseAfter_m (gt x0 2) (sB [102])).1, (impl_ParseInt_m (gt x0 3)).1⟩ : DUpdate) from cond_f g16 (cond_f g72 (cond_t g101 (cond_t g103 (rfl)))))
     refine QM_r1 rfl (RR_cell (n := 1) rfl rfl underlying32 type32 rfl) (fun W hm => ⟨K8, ?_, ?_⟩)
     ·first | rw [he115] | rfl
     ·rw [he115]; exact Mem.join (is := [iOwn (tSl tInt 3) [.slice none 0 0] []]) (js := []) (fun _ _ hs => tyUpdate_join (x := (⟨3, (⟨(impl_ParseInt_m (gt x0 1)).1, []⟩ : DRow), (impl_parseAfter_m (gt x0 2) (sB [102])).1, (impl_ParseInt_m (gt x0 3)).1⟩ : DUpdate)) hs) (hm.pick [0] (by decide))
    ·have g103 := beq_eq_false_iff_ne.2 h102
     refine CM_condF rfl g103 ?_
     refine CM_skip (QM_block_normal (QM_then (sr ?_)))
     refine wv (fun W hm => rv_loadN (cs := K1) underlying32 type32 rfl rfl (hm.boxCells (n := 0) rfl)) ?_
     refine sb 0 K1 [iBox p8 32 K1] (pk [1, 0]) type32 ?_
     refine nt' (CM_ret ?_)
     refine QM_items (fun W hm => hm.addNil (E := tInt) (e := 3)) ?_
     have he117 := (show impl_readUpdate_m x0 = (⟨0, (⟨0, []⟩ : DRow), 0, 0⟩ : DUpdate) from cond_f g16 (cond_f g72 (cond_t g101 (cond_f g103 (rfl)))))
     refine QM_r1 rfl (RR_cell (n := 1) rfl rfl underlying32 type32 rfl) (fun W hm => ⟨K1, ?_, ?_⟩)
     ·first | rw [he117] | rfl
     ·rw [he117]; exact Mem.join (is := [iOwn (tSl tInt 3) [.slice none 0 0] []]) (js := []) (fun _ _ hs => tyUpdate_join (x := (⟨0, (⟨0, []⟩ : DRow), 0, 0⟩ : DUpdate)) hs) (hm.pick [0] (by decide))
   ·
    refine ws g101 ?_
    refine ws g101 ?_
    refine ws g101 ?_
    refine wv (vpF g101) ?_
    refine wa (nt' ?_)
    refine CM_condF rfl rfl ?_
    refine CM_skip (QM_block_normal (QM_then (sr ?_)))
    refine wv (fun W hm => rv_loadN (cs := K1) underlying32 type32 rfl rfl (hm.boxCells (n := 0) rfl)) ?_
    refine sb 0 K1 [iBox p8 32 K1] (pk [1, 0]) type32 ?_
    refine nt' (CM_ret ?_)
    refine QM_items (fun W hm => hm.addNil (E := tInt) (e := 3)) ?_
    have he119 := (show impl_readUpdate_m x0 = (⟨0, (⟨0, []⟩ : DRow), 0, 0⟩ : DUpdate) from cond_f g16 (cond_f g72 (cond_f g101 (rfl))))
    refine QM_r1 rfl (RR_cell (n := 1) rfl rfl underlying32 type32 rfl) (fun W hm => ⟨K1, ?_, ?_⟩)
    ·first | rw [he119] | rfl
    ·rw [he119]; exact Mem.join (is := [iOwn (tSl tInt 3) [.slice none 0 0] []]) (js := []) (fun _ _ hs => tyUpdate_join (x := (⟨0, (⟨0, []⟩ : DRow), 0, 0⟩ : DUpdate)) hs) (hm.pick [0] (by decide))

def impl_ParseUpdate_m (x0 : ByteArray) : (DUpdate × Bool) :=
 cond (impl_IsUpdate_m (impl_readUpdate_m (splS x0 (sB [32])))) (cond (eqS (impl_FormatUpdate_m (impl_readUpdate_m (splS x0 (sB [32])))) x0) ((impl_readUpdate_m (splS x0 (sB [32]))), true) ((⟨0, (⟨0, []⟩ : DRow), 0, 0⟩ : DUpdate), false)) ((⟨0, (⟨0, []⟩ : DRow), 0, 0⟩ : DUpdate), false)
theorem cb10 : Cb Tryz.prog 10 := ⟨f10, _, func10, rfl, by decide⟩
theorem impl_ParseUpdate_c (w : World) (x0 : ByteArray) (hs_0 : x0.size ≤ 1048576) (hT : TabOK w.heap.size w) :
  Calls Tryz.prog 10 #[.string x0] w fun e w' => ∃ v : List Value, e = .returned (.tuple #[.agg v.toArray, .bool ((impl_ParseUpdate_m x0).2)]) ∧ Mem w.heap.size w [iOwn tyUpdate v (impl_ParseUpdate_m x0).1] w' := by
 refine ce1 (L := [(0, .string x0)]) (N := 19) func10 ?_
 refine sr ?_
 refine WM_alloc type32 rfl (Wd_none rfl) (by decide) (fun p1 => ?_)
 refine wa (nt' (sr (wm ?_)))
 have hz2 : ByteArray.size (sB [32]) = 1 := rfl
 let K1 : List Value := [.int .i64 0, .int .i64 0, .slice none 0 0, .int .i64 0, .int .i64 0]
 refine WM_callW (χ := Value) (val := fun x => x) (js := fun x => (iOwn (tSl tStr 9) [x] (splS x0 (sB [32])) :: [iBox p1 32 K1])) (cl_fn ⟨f34, _, func34, rfl, by decide⟩ rfl) (fun W hm => split_c W x0 (sB [32]) (by omega) (by omega) (hT.mem hm) hm) (Wd_none rfl) (by decide) (fun v3 => ?_)
 refine WM_form (n := 0) rfl ?_
 rintro A4 c5 rfl m6
 have hl8 := splS_le x0 (sB [32]) (by omega)
 refine wcs tyUpdate (impl_readUpdate_m (splS x0 (sB [32]))) (cl_fn cb33 rfl) (fun W hm => impl_readUpdate_c W _ (splS x0 (sB [32])) (hm.rdSI (n := 0) rfl) (show _ ≤ 68719476736 from by omega) (by omega) (fun j => Nat.le_trans (splS_gt _ _ j) (by omega)) (hT.mem hm)) (fun z9 => ?_)
 refine tyUpdate_sp ?_
 rintro v10 rfl
 refine WM_form (n := 0) rfl ?_
 rintro A11 c12 rfl m13
 refine WM_alloc type32 rfl (Wd_none rfl) (by decide) (fun p15 => ?_)
 let K2 : List Value := [.int .i64 ((impl_readUpdate_m (splS x0 (sB [32]))).Kind), .int .i64 ((impl_readUpdate_m (splS x0 (sB [32]))).Row.Id), .slice A11 ((impl_readUpdate_m (splS x0 (sB [32]))).Row.Values).length c12, .int .i64 ((impl_readUpdate_m (splS x0 (sB [32]))).Field), .int .i64 ((impl_readUpdate_m (splS x0 (sB [32]))).Value)]
 let K3 : List Value := [.slice A11 ((impl_readUpdate_m (splS x0 (sB [32]))).Row.Values).length c12]
 let I4 : It := iOwn (tSl tInt 3) K3 ((impl_readUpdate_m (splS x0 (sB [32]))).Row.Values)
 let I5 : It := iOwn (tSl tStr 9) [.slice A4 (splS x0 (sB [32])).length c5] (splS x0 (sB [32]))
 refine sb 0 K2 [I4, I5, iBox p1 32 K1] (fun W hm => hm) type32 ?_
 refine nt' (CM_seq (sr ?_))
 refine wv (fun W hm => rv_loadN (cs := K2) underlying32 type32 rfl rfl (hm.boxCells (n := 0) rfl)) ?_
 refine wcv (cl_fn cb32 rfl) (fun W hm => impl_IsUpdate_c W _ (impl_readUpdate_m (splS x0 (sB [32]))) (tyUpdate_mk (x := (impl_readUpdate_m (splS x0 (sB [32])))) (hm.rdSI (n := 1) rfl))) ?_
 refine wv vnot ?_
 refine wm ?_
 rcases Bool.eq_false_or_eq_true (impl_IsUpdate_m (impl_readUpdate_m (splS x0 (sB [32])))) with g17 | g17
 ·
  refine wg (fun W hm => rv_loadN (cs := K2) underlying32 type32 rfl rfl (hm.boxCells (n := 0) rfl)) (nt g17) ?_
  refine WM_callV (cl_fn cb9 rfl) (fun W hm => impl_FormatUpdate_c W _ (impl_readUpdate_m (splS x0 (sB [32]))) (tyUpdate_mk (x := (impl_readUpdate_m (splS x0 (sB [32])))) (hm.rdSI (n := 1) rfl)) (hT.mem hm)) (Wd_some rfl rfl rfl (bw (nt g17) rfl)) (by decide) ?_
  refine wg vmv (nt g17) ?_
  refine wg (fun W hm => rv_neqS (p := (impl_FormatUpdate_m (impl_readUpdate_m (splS x0 (sB [32]))))) (q := x0) underlying9 rfl rfl) (nt g17) ?_
  refine wv (vpF (nt g17)) ?_
  refine nt' ?_
  rcases Bool.eq_false_or_eq_true (eqS (impl_FormatUpdate_m (impl_readUpdate_m (splS x0 (sB [32])))) x0) with g19 | g19
  ·
   refine CM_condF rfl (nt g19) ?_
   refine CM_skip (QM_then (sr ?_))
   refine wv (fun W hm => rv_loadN (cs := K2) underlying32 type32 rfl rfl (hm.boxCells (n := 0) rfl)) ?_
   refine sb 0 K2 [iBox p15 32 K2, I4, I5] (pk [3, 0, 1, 2]) type32 ?_
   refine wa (nt' (CM_ret ?_))
   have he20 := (show impl_ParseUpdate_m x0 = ((impl_readUpdate_m (splS x0 (sB [32]))), true) from cond_t g17 (cond_t g19 (rfl)))
   refine QM_r2 rfl (RR_cell (n := 0) rfl rfl underlying32 type32 rfl) (RR_tmp rfl) (fun W hm => ⟨K2, ?_, ?_⟩)
   ·first | rw [he20] | rfl
    try rfl
   ·rw [he20]; exact Mem.join (is := [I4]) (js := []) (fun _ _ hs => tyUpdate_join (x := (impl_readUpdate_m (splS x0 (sB [32])))) hs) (hm.pick [2] (by decide))
  ·
   refine CM_condT rfl (nf g19) ?_
   refine sr ?_
   refine wv (fun W hm => rv_build (cs := K1) rfl (by kernel_rfl)) ?_
   refine sb 0 K1 [iBox p15 32 K2, I4, I5] (pk [3, 0, 1, 2]) type32 ?_
   refine wa (nt' (CM_ret (QM_then_ret ?_)))
   refine QM_items (fun W hm => hm.addNil (E := tInt) (e := 3)) ?_
   have he22 := (show impl_ParseUpdate_m x0 = ((⟨0, (⟨0, []⟩ : DRow), 0, 0⟩ : DUpdate), false) from cond_t g17 (cond_f g19 (rfl)))
   refine QM_r2 rfl (RR_cell (n := 1) rfl rfl underlying32 type32 rfl) (RR_tmp rfl) (fun W hm => ⟨K1, ?_, ?_⟩)
   ·first | rw [he22] | rfl
    try rfl
   ·rw [he22]; exact Mem.join (is := [iOwn (tSl tInt 3) [.slice none 0 0] []]) (js := []) (fun _ _ hs => tyUpdate_join (x := (⟨0, (⟨0, []⟩ : DRow), 0, 0⟩ : DUpdate)) hs) (hm.pick [0] (by decide))
 ·
  refine ws (nf g17) ?_
  refine ws (nf g17) ?_
  refine ws (nf g17) ?_
  refine ws (nf g17) ?_
  refine wv (vpT (nf g17)) ?_
  refine nt' ?_
  refine CM_condT rfl rfl ?_
  refine sr ?_
  refine wv (fun W hm => rv_build (cs := K1) rfl (by kernel_rfl)) ?_
  refine sb 0 K1 [iBox p15 32 K2, I4, I5] (pk [3, 0, 1, 2]) type32 ?_
  refine wa (nt' (CM_ret (QM_then_ret ?_)))
  refine QM_items (fun W hm => hm.addNil (E := tInt) (e := 3)) ?_
  have he24 := (show impl_ParseUpdate_m x0 = ((⟨0, (⟨0, []⟩ : DRow), 0, 0⟩ : DUpdate), false) from cond_f g17 (rfl))
  refine QM_r2 rfl (RR_cell (n := 1) rfl rfl underlying32 type32 rfl) (RR_tmp rfl) (fun W hm => ⟨K1, ?_, ?_⟩)
  ·first | rw [he24] | rfl
   try rfl
  ·rw [he24]; exact Mem.join (is := [iOwn (tSl tInt 3) [.slice none 0 0] []]) (js := []) (fun _ _ hs => tyUpdate_join (x := (⟨0, (⟨0, []⟩ : DRow), 0, 0⟩ : DUpdate)) hs) (hm.pick [0] (by decide))

def spec_l3AnyRows_m (x0b : List Int) (x0 : Dl1Cur) : ((List DRow) × Dl1Cur) :=
 cond ((spec_l1Once_m x0b ((spec_l3Rows_m x0b x0 8).2) 6).1) (((spec_l3Rows_m x0b x0 8).1 ++ [(spec_l3Any_m x0b (spec_l1Once_m x0b ((spec_l3Rows_m x0b x0 8).2) 6).2).1]), ((spec_l3Any_m x0b (spec_l1Once_m x0b ((spec_l3Rows_m x0b x0 8).2) 6).2).2)) ((spec_l3Rows_m x0b x0 8).1, (spec_l1Once_m x0b ((spec_l3Rows_m x0b x0 8).2) 6).2)
theorem cb35 : Cb Tryz.prog 35 := ⟨f35, _, func35, rfl, by decide⟩
theorem spec_l3AnyRows_c (B : Nat) (w0 : World) (is : List It) (w : World) (p : Nat) (z0 : Value) (x0b : List Int) (x0 : Dl1Cur) (r_0 : rdS tU8 w0 B z0 x0b) (s_0 : x0b.length ≤ 68719476736) (hm : Mem B w0 (iBox p 73 [z0, .int .i64 ((x0.i : Nat) : Int), .int .i64 x0.h] :: is) w) :
  Calls Tryz.prog 35 #[.pointer (some ⟨p, 0, none⟩)] w fun e w' => ∃ x : Value, e = .returned (x) ∧ Mem B w0 (iOwn (tSl tyRow 26) [x] ((spec_l3AnyRows_m x0b x0).1) :: iBox p 73 [z0, .int .i64 ((((spec_l3AnyRows_m x0b x0).2).i : Nat) : Int), .int .i64 ((spec_l3AnyRows_m x0b x0).2).h] :: is) w' := by
 obtain ⟨m1, A2, c3, rfl, q4, r5⟩ := rdS_op r_0
 refine call_enterW (L := [(0, .pointer (some ⟨p, 0, none⟩))]) (N := 14) func35 rfl rfl (Nat.le_of_ble_eq_true rfl) (argsL_cons rfl argsL_nil) hm ?_
 have l6 : x0b.length ≤ 68719476736 := s_0
 refine sr (wa (nt' (sr (wm ?_))))
 refine WM_callW (χ := Value) (val := fun x => x) (js := fun x => (iOwn (tSl tyRow 26) [x] ((spec_l3Rows_m x0b x0 8).1) :: iBox p 73 [.slice A2 x0b.length c3, .int .i64 ((((spec_l3Rows_m x0b x0 8).2).i : Nat) : Int), .int .i64 ((spec_l3Rows_m x0b x0 8).2).h] :: (is))) (cl_fn cb63 rfl) (fun W hm => spec_l3Rows_c B w0 (is) W p _ x0b x0 r5 8 s_0 (⟨by omega, by omega⟩) (hm.front (n := 0) rfl)) (Wd_none rfl) (by decide) (fun z7 => ?_)
 have hl8 := (spec_l3Rows_fact x0b x0 8 (by omega) (by omega)).2
 refine WM_form (n := 0) rfl ?_
 rintro A8 c9 rfl m10
 refine wa (nt' (CM_seq (sr (wm ?_))))
 let I2 : It := iOwn (tSl tyRow 26) [.slice A8 ((spec_l3Rows_m x0b x0 8).1).length c9] ((spec_l3Rows_m x0b x0 8).1)
 refine WM_callW (χ := Unit) (val := fun x => .bool ((spec_l1Once_m x0b ((spec_l3Rows_m x0b x0 8).2) 6).1)) (js := fun x => (iBox p 73 [.slice A2 x0b.length c3, .int .i64 ((((spec_l1Once_m x0b ((spec_l3Rows_m x0b x0 8).2) 6).2).i : Nat) : Int), .int .i64 ((spec_l1Once_m x0b ((spec_l3Rows_m x0b x0 8).2) 6).2).h] :: (I2 :: is))) (cl_fn cb36 rfl) (fun W hm => spec_l1Once_c B w0 (I2 :: is) W p _ x0b ((spec_l3Rows_m x0b x0 8).2) r5 6 s_0 (hm.front (n := 1) rfl)) (Wd_none rfl) (by decide) (fun z12 => ?_)
 obtain ⟨G13, hG13⟩ : ∃ G, G = (spec_l1Once_m x0b ((spec_l3Rows_m x0b x0 8).2) 6) := ⟨_, rfl⟩
 rw [← hG13]
 refine nt' ?_
 rcases Bool.eq_false_or_eq_true G13.1 with g15 | g15
 ·
  refine CM_condT rfl g15 ?_
  refine CM_region (wm (wm ?_))
  refine WM_callW (χ := List Value) (val := fun x => .agg x.toArray) (js := fun x => (iOwn tyRow x ((spec_l3Any_m x0b G13.2).1) :: iBox p 73 [.slice A2 x0b.length c3, .int .i64 ((((spec_l3Any_m x0b G13.2).2).i : Nat) : Int), .int .i64 ((spec_l3Any_m x0b G13.2).2).h] :: (I2 :: is))) (cl_fn cb23 rfl) (fun W hm => spec_l3Any_c B w0 (I2 :: is) W p _ x0b G13.2 r5 s_0 (hm.front (n := 0) rfl)) (Wd_none rfl) (by decide) (fun z16 => ?_)
  refine tyRow_sp ?_
  rintro v17 rfl
  refine WM_form (n := 0) rfl ?_
  rintro A18 c19 rfl m20
  let K1 : List Value := [.int .i64 (((spec_l3Any_m x0b G13.2).1).Id), .slice A18 (((spec_l3Any_m x0b G13.2).1).Values).length c19]
  refine WM_build (cs := K1) underlying37 type26 rfl (by decide) (by decide) rfl (by kernel_rfl) (Wd_none rfl) (by decide) (fun p22 => ?_)
  refine ap1 tyRow 26 (.slice A8 ((spec_l3Rows_m x0b x0 8).1).length c9) ((spec_l3Rows_m x0b x0 8).1) ((spec_l3Any_m x0b G13.2).1) [iOwn (tSl tInt 3) [.slice A18 (((spec_l3Any_m x0b G13.2).1).Values).length c19] (((spec_l3Any_m x0b G13.2).1).Values)] (iBox p 73 [.slice A2 x0b.length c3, .int .i64 ((((spec_l3Any_m x0b G13.2).2).i : Nat) : Int), .int .i64 (((spec_l3Any_m x0b G13.2).2).h)] :: is) K1 (fun W hm => (((hm.front (n := 1) rfl).front (n := 3) rfl).front (n := 2) rfl)) (fun _ _ hs => Els.single (tyRow_join (x := ((spec_l3Any_m x0b G13.2).1)) hs)) underlying37 type26 (show (((spec_l3Rows_m x0b x0 8).1).length + 1) * 32 ≤ 140737488355328 from by omega) (fun v23 => ?_)
  refine WM_form (n := 0) rfl ?_
  rintro A24 c25 rfl m26
  refine wa (nt' (sr (wm (wa (nt' (CM_ret ?_))))))
  have he28 := (show spec_l3AnyRows_m x0b x0 = (((spec_l3Rows_m x0b x0 8).1 ++ [(spec_l3Any_m x0b G13.2).1]), ((spec_l3Any_m x0b G13.2).2)) from by subst hG13; exact cond_t g15 (rfl))
  refine QM_r1 rfl (RR_tmp rfl) (fun W hm => ⟨.slice A24 ((spec_l3Rows_m x0b x0 8).1 ++ [(spec_l3Any_m x0b G13.2).1]).length c25, ?_, ?_⟩)
  ·first | rw [he28] | rfl
  ·rw [he28]; exact hm
 ·
  refine CM_condF rfl g15 ?_
  refine CM_skip (QM_then (sr (wm (wa (nt' (CM_ret ?_))))))
  have he29 := (show spec_l3AnyRows_m x0b x0 = ((spec_l3Rows_m x0b x0 8).1, G13.2) from by subst hG13; exact cond_f g15 (rfl))
  refine QM_r1 rfl (RR_tmp rfl) (fun W hm => ⟨.slice A8 ((spec_l3Rows_m x0b x0 8).1).length c9, ?_, ?_⟩)
  ·first | rw [he29] | rfl
  ·rw [he29]; exact ((hm.front (n := 0) rfl).front (n := 1) rfl)

def spec_l3Copy_m (x0 : DRow) : DRow :=
 x0
theorem cb37 : Cb Tryz.prog 37 := ⟨f37, _, func37, rfl, by decide⟩
theorem spec_l3Copy_c (w : World) (z0 : List Value) (x0 : DRow) (r_0 : tyRow.rd w w.heap.size z0 x0) (s_0 : smRow 68719476736 x0) :
  Calls Tryz.prog 37 #[.agg z0.toArray] w fun e w' => ∃ v : List Value, e = .returned (.agg v.toArray) ∧ Mem w.heap.size w [iOwn tyRow v (spec_l3Copy_m x0)] w' := by
 obtain ⟨v1, rfl, r2⟩ := tyRow_rd r_0
 obtain ⟨m3, A4, c5, rfl, q6, r7⟩ := rdS_op r2
 have l8 : x0.Values.length ≤ 68719476736 := s_0
 refine ce1 (L := [(0, .agg #[.int .i64 x0.Id, .slice A4 x0.Values.length c5])]) (N := 10) func37 ?_
 refine sr ?_
 refine WM_box rfl (Wd_none rfl) (by decide) (fun p9 => ?_)
 refine WM_alloc type26 rfl (Wd_none rfl) (by decide) (fun p10 => ?_)
 refine nt' (CM_seq ?_)
 let I1 : It := iBox p9 26 [.int .i64 x0.Id, .slice A4 x0.Values.length c5]
 refine rd2 8 [7] (s := [I1]) (s2 := [iBox p10 26 [.int .i64 0, .slice none 0 0], I1]) (pk [1]) (fun W hm => hm) ?_
 refine qtD 8 0 1 rfl (vf underlying26 rfl type3) ?_
 refine qtD 8 1 3 rfl (vl 1 0 underlying3) ?_
 refine qtD 8 3 11 rfl (vf underlying26 rfl type24) ?_
 refine qtD 8 4 27 rfl (vl 1 1 underlying24) ?_
 refine qoD 8 2 31 rfl ?_
 refine WM_build0 (E := tInt) underlying24 type3 (Wd_none rfl) (by decide) (fun p11 => ?_)
 refine qnD (pk [2]) (pk [1, 2]) ?_
 refine qoD 8 5 63 rfl ?_
 refine apR tInt tInt 3 (.slice (some ⟨p11, 0, none⟩) 0 0) [] x0.Values [iBox p10 26 [.int .i64 0, .slice none 0 0], I1] (fun W hm => hm) (fun W hm => src_flat flat_int (hm.rdS0 r7)) underlying24 type3 (show (0 + x0.Values.length) * 8 ≤ 140737488355328 from by omega) (fun v13 => ?_)
 refine WM_form (n := 0) rfl ?_
 rintro A14 c15 rfl m16
 refine qnD (pk [2]) (pk [1, 2]) ?_
 refine qtD 8 6 127 rfl (fun W hm => rv_build (cs := [.int .i64 x0.Id, .slice A14 x0.Values.length c15]) rfl (by kernel_rfl)) ?_
 refine qoD 8 7 255 rfl ?_
 let I2 : It := iOwn (tSl tInt 3) [.slice A14 x0.Values.length c15] x0.Values
 refine sb 0 [.int .i64 x0.Id, .slice A14 x0.Values.length c15] [I2, I1] (pk [1, 0, 2]) type26 ?_
 refine qxD (pk [2]) ?_
 refine QB_done (by kernel_rfl) ?_
 refine QM_then (CM_ret ?_)
 have he18 := (show spec_l3Copy_m x0 = x0 from rfl)
 refine QM_r1 rfl (RR_cell (n := 0) rfl rfl underlying26 type26 rfl) (fun W hm => ⟨[.int .i64 x0.Id, .slice A14 x0.Values.length c15], ?_, ?_⟩)
 ·first | rw [he18] | rfl
 ·rw [he18]; exact Mem.join (is := [I2]) (js := []) (fun _ _ hs => tyRow_join (x := x0) hs) (hm.pick [1] (by decide))
theorem spec_l3Copy_eq (x0 : DRow) : spec_l3Copy_m x0 = x0 := by
 rfl
theorem spec_l3Copy_c2 (w : World) (z0 : List Value) (x0 : DRow) (r_0 : tyRow.rd w w.heap.size z0 x0) (s_0 : smRow 68719476736 x0) :
  Calls Tryz.prog 37 #[.agg z0.toArray] w fun e w' => ∃ v : List Value, e = .returned (.agg v.toArray) ∧ Mem w.heap.size w [iOwn tyRow v x0] w' := by
 have h := spec_l3Copy_c w z0 x0 r_0 s_0
 rw [spec_l3Copy_eq] at h
 exact h

theorem cond_smR {b : Bool} {p q : DRow × Dl1Cur} (h1 : smRow 68719476736 p.1) (h2 : smRow 68719476736 q.1) : smRow 68719476736 (cond b p q).1 := by cases b <;> assumption
theorem spec_l3Any_sm (b : List Int) (D : Dl1Cur) : smRow 68719476736 (spec_l3Any_m b D).1 := by
  have hr := (spec_l3Row_fact b (spec_l1Below_m b D 9).2 (spec_l1Below_m b D 9).1).2.1
  unfold spec_l3Any_m
  repeat' (first | (show List.length _ ≤ 68719476736; first | omega | (simp only [List.length_set, List.length_append, List.length_take, List.length_cons, List.length_nil]; omega)) | apply cond_smR)
theorem spec_l3AnyRows_9 (b : List Int) (D : Dl1Cur) : (spec_l3AnyRows_m b D).1.length ≤ 9 ∧ ∀ y ∈ (spec_l3AnyRows_m b D).1, smRow 68719476736 y := by
  have hr := spec_l3Rows_fact b D 8 (by omega) (by omega)
  have h1 := rowsP_sm hr.1 (by omega)
  unfold spec_l3AnyRows_m
  cases (spec_l1Once_m b (spec_l3Rows_m b D 8).2 6).1 with
  | false => exact ⟨by show (spec_l3Rows_m b D 8).1.length ≤ 9; omega, h1.2⟩
  | true =>
    refine ⟨?_, fun y hy => ?_⟩
    · show ((spec_l3Rows_m b D 8).1 ++ [_]).length ≤ _
      rw [List.length_append]; show _ + 1 ≤ _; omega
    · rcases List.mem_append.1 hy with h | h
      · exact h1.2 y h
      · rw [List.mem_singleton.1 h]; exact spec_l3Any_sm _ _
def spec_DrawEqualRows_b1 (x0 : (List Int)) (k19 : Nat) (d20 : (List DRow)) : ((List DRow) × (List DRow)) ⊕ ((List DRow)) :=
 Sum.inr (d20 ++ [(gt (spec_l3AnyRows_m x0 (spec_l1New_m x0)).1 k19)])
def spec_DrawEqualRows_m (x0 : (List Int)) : ((List DRow) × (List DRow)) :=
 cond ((spec_l1Once_m x0 (spec_l3AnyRows_m x0 (spec_l1New_m x0)).2 2).1) (Sum.elim id (fun (s : (List DRow)) => ((spec_l3AnyRows_m x0 (spec_l1New_m x0)).1, s)) (rng (R := ((List DRow) × (List DRow))) (fun k (s : (List DRow)) => spec_DrawEqualRows_b1 x0 k s) ((spec_l3AnyRows_m x0 (spec_l1New_m x0)).1.length - 0) 0 [])) ((spec_l3AnyRows_m x0 (spec_l1New_m x0)).1, (spec_l3AnyRows_m x0 ((spec_l1Once_m x0 (spec_l3AnyRows_m x0 (spec_l1New_m x0)).2 2).2)).1)
theorem cb11 : Cb Tryz.prog 11 := ⟨f11, _, func11, rfl, by decide⟩
theorem spec_DrawEqualRows_c (w : World) (z0 : Value) (x0 : (List Int)) (r_0 : rdS tU8 w w.heap.size z0 x0) (s_0 : x0.length ≤ 68719476736) :
  Calls Tryz.prog 11 #[z0] w fun e w' => ∃ v : Value × Value, e = .returned (.tuple #[v.1, v.2]) ∧ Mem w.heap.size w [iOwn (tSl tyRow 26) [v.1] (spec_DrawEqualRows_m x0).1, iOwn (tSl tyRow 26) [v.2] (spec_DrawEqualRows_m x0).2] w' := by
 obtain ⟨m1, A2, c3, rfl, q4, r5⟩ := rdS_op r_0
 have l6 : x0.length ≤ 68719476736 := s_0
 refine ce1 (L := [(0, .slice A2 x0.length c3)]) (N := 34) func11 ?_
 refine sr (wa (wa (nt' (sr (wm ?_)))))
 refine WM_call (χ := Nat) (val := fun p => .pointer (some ⟨p, 0, none⟩)) (js := fun p => [iBox p 73 [.slice A2 x0.length c3, .int .i64 (((spec_l1New_m x0).i : Nat) : Int), .int .i64 ((spec_l1New_m x0).h)]]) (cl_fn cb24 rfl) (fun W hm => spec_l1New_c W _ x0 (hm.rdS0 r5) s_0) (Wd_none rfl) (by decide) (fun p7 => ?_)
 refine wa (nt' (sr (wm ?_)))
 refine WM_callW (χ := Value) (val := fun x => x) (js := fun x => (iOwn (tSl tyRow 26) [x] ((spec_l3AnyRows_m x0 (spec_l1New_m x0)).1) :: iBox p7 73 [.slice A2 x0.length c3, .int .i64 ((((spec_l3AnyRows_m x0 (spec_l1New_m x0)).2).i : Nat) : Int), .int .i64 ((spec_l3AnyRows_m x0 (spec_l1New_m x0)).2).h] :: [])) (cl_fn cb35 rfl) (fun W hm => spec_l3AnyRows_c w.heap.size w [] W p7 _ x0 (spec_l1New_m x0) r5 s_0 hm) (Wd_none rfl) (by decide) (fun z8 => ?_)
 have hla := spec_l3AnyRows_9 x0 (spec_l1New_m x0)
 obtain ⟨G9, hG9⟩ : ∃ G, G = (spec_l3AnyRows_m x0 (spec_l1New_m x0)) := ⟨_, rfl⟩
 rw [← hG9]
 rw [← hG9] at hla
 refine WM_form (n := 0) rfl ?_
 rintro A10 c11 rfl m12
 refine wa (nt' (CM_seq (sr (wm ?_))))
 let I6 : It := iOwn (tSl tyRow 26) [.slice A10 G9.1.length c11] G9.1
 refine WM_callW (χ := Unit) (val := fun x => .bool ((spec_l1Once_m x0 G9.2 2).1)) (js := fun x => (iBox p7 73 [.slice A2 x0.length c3, .int .i64 ((((spec_l1Once_m x0 G9.2 2).2).i : Nat) : Int), .int .i64 ((spec_l1Once_m x0 G9.2 2).2).h] :: [I6])) (cl_fn cb36 rfl) (fun W hm => spec_l1Once_c w.heap.size w [I6] W p7 _ x0 G9.2 r5 2 s_0 (hm.pick [1, 0] (by decide))) (Wd_none rfl) (by decide) (fun z14 => ?_)
 refine nt' ?_
 rcases Bool.eq_false_or_eq_true ((spec_l1Once_m x0 G9.2 2).1) with g16 | g16
 ·
  refine CM_condT rfl g16 ?_
  refine sr ?_
  refine WM_build0 (E := tyRow) underlying37 type26 (Wd_none rfl) (by decide) (fun p17 => ?_)
  refine wa (nt' (CM_seq (sr (wa (nt' (CM_block ?_))))))
  let F1 := fun k (s : (List DRow)) => spec_DrawEqualRows_b1 x0 k s
  let R2 := rng (R := ((List DRow) × (List DRow))) F1
  let K3 : List Value := [.slice A2 x0.length c3, .int .i64 ((((spec_l1Once_m x0 G9.2 2).2).i : Nat) : Int), .int .i64 (((spec_l1Once_m x0 G9.2 2).2).h)]
  refine CM_loop (σ := Nat × ((List DRow)) × (Option Addr × Nat)) (fun s => [(5, .slice A10 G9.1.length c11), (6, .slice s.2.2.1 s.2.1.length s.2.2.2), (7, .int .i64 ((s.1 : Nat) : Int))]) (fun s => [iOwn (tSl tyRow 26) [.slice s.2.2.1 s.2.1.length s.2.2.2] s.2.1, iBox p7 73 K3, I6]) (fun s => s.1 ≤ G9.1.length ∧ R2 (G9.1.length - s.1) s.1 s.2.1 = R2 (G9.1.length - 0) 0 [] ∧ s.2.1.length ≤ 0 + s.1) (fun s => G9.1.length - s.1) (0, [], ((some ⟨p17, 0, none⟩), 0)) sl3 (fun W hm => hm) ⟨(by omega), rfl, Nat.le_refl _⟩ ?_
  rintro ⟨k19, d20, ⟨A21, c22⟩⟩ H25
  obtain ⟨hk23, hF24, hi26⟩ : k19 ≤ G9.1.length ∧ R2 (G9.1.length - k19) k19 d20 = R2 (G9.1.length - 0) 0 [] ∧ d20.length ≤ 0 + k19 := H25
  let I7 : It := iOwn (tSl tyRow 26) [.slice A21 d20.length c22] d20
  show CM Tryz.prog 34 _ _ _ _ [(5, .slice A10 G9.1.length c11), (6, .slice A21 d20.length c22), (7, .int .i64 ((k19 : Nat) : Int))] [I7, iBox p7 73 K3, I6]
  refine CM_seq (sr (wm (wm ?_)))
  refine wv (vlen underlying37) ?_
  refine wv vlss ?_
  refine nt' ?_
  by_cases hl27 : k19 < G9.1.length
  ·have g28 := dlT hl27
   refine CM_condT rfl g28 ?_
   refine CM_skip (QM_then (CM_seq (CM_block (CM_region (wm (wm (wm ?_)))))))
   refine WM_formO (n := 2) rfl (by omega) ?_
   rintro g29 rfl
   refine wv (vix 2 k19 underlying37 type26) ?_
   refine WM_focus (E := tyRow) (e := 26) (A := (some ⟨g29, 0, none⟩)) (n := G9.1.length) (c := c11) (xs := G9.1) (k := k19) (js := [I7, iBox p7 73 K3]) (by omega) (pk [2, 0, 1]) (fun ck30 => ?_)
   refine tyRow_sp ?_
   rintro v31 rfl
   refine WM_form (n := 0) rfl ?_
   rintro A32 c33 rfl m34
   let K4 : List Value := [.int .i64 ((gt G9.1 k19).Id), .slice A32 ((gt G9.1 k19).Values).length c33]
   refine wv (fun W hm => rv_loadN (cs := K4) underlying26 type26 rfl rfl (hm.focCells (i := 1) rfl rfl)) ?_
   refine wcs tyRow (gt G9.1 k19) (cl_fn cb37 rfl) (fun W hm => spec_l3Copy_c2 W _ (gt G9.1 k19) (tyRow_mk (x := (gt G9.1 k19)) (hm.rdSI (n := 0) rfl)) (hla.2 _ (gt_mem (by omega)))) (fun z36 => ?_)
   refine tyRow_sp ?_
   rintro v37 rfl
   refine WM_form (n := 0) rfl ?_
   rintro A38 c39 rfl m40
   let K5 : List Value := [.int .i64 ((gt G9.1 k19).Id), .slice A38 ((gt G9.1 k19).Values).length c39]
   refine WM_build (cs := K5) underlying37 type26 rfl (by decide) (by decide) rfl (by kernel_rfl) (Wd_none rfl) (by decide) (fun p42 => ?_)
   let I8 : It := iOwn (tSl tInt 3) [.slice A32 ((gt G9.1 k19).Values).length c33] ((gt G9.1 k19).Values)
   refine ap1 tyRow 26 (.slice A21 d20.length c22) d20 (gt G9.1 k19) [iOwn (tSl tInt 3) [.slice A38 ((gt G9.1 k19).Values).length c39] ((gt G9.1 k19).Values)] [I8, iFoc tyRow 26 (some ⟨g29, 0, none⟩) G9.1.length c11 G9.1 k19 K4, iBox p7 73 K3] K5 (pk [0, 4, 1, 2, 3, 5]) (fun _ _ hs => Els.single (tyRow_join (x := (gt G9.1 k19)) hs)) underlying37 type26 (show (d20.length + 1) * 32 ≤ 140737488355328 from by omega) (fun v43 => ?_)
   refine WM_form (n := 0) rfl ?_
   rintro A44 c45 rfl m46
   refine wa (WM_nil (QM_block_normal (QM_then (CM_region (wm ?_)))))
   refine wv (vadN k19 1 (by omega)) ?_
   refine wa (WM_nil ?_)
   refine QM_items (fun W hm => Mem.unfocus0 (Mem.join (is := [I8]) (js := (iFoc tyRow 26 (some ⟨g29, 0, none⟩) G9.1.length c11 G9.1 k19 K4 :: [iOwn (tSl tyRow 26) [.slice A44 (d20 ++ [(gt G9.1 k19)]).length c45] (d20 ++ [(gt G9.1 k19)]), iBox p7 73 K3])) (fun _ _ hs => tyRow_join (x := (gt G9.1 k19)) hs) (hm.pick [1, 2, 0, 3] (by decide)))) ?_
   have hn48 := rng_next (R := ((List DRow) × (List DRow))) (body := F1) (k := k19) (s := d20) (s' := (d20 ++ [(gt G9.1 k19)])) (show k19 < G9.1.length from by omega) (by subst hG9; exact rfl) hF24
   exact QM_round (k19 + 1, (d20 ++ [(gt G9.1 k19)]), (A44, c45)) sl3 (pk [1, 2, 0]) ⟨(by omega), hn48, (show (d20 ++ [(gt G9.1 k19)]).length ≤ 0 + (k19 + 1) from by first | omega | (simp only [List.length_append, List.length_cons, List.length_nil] at *; omega))⟩ (rl (by omega))
  ·have g28 := dlF hl27
   refine CM_condF rfl g28 ?_
   refine CM_exit (QM_then_exit (QM_then_exit ?_))
   have hE49 : R2 (G9.1.length - 0) 0 [] = Sum.inr d20 := rng_end hl27 hF24
   refine QM_block_hit (QM_then (sr (wm (wm (wa (wa (nt' (CM_ret (QM_then_ret ?_)))))))))
   have he50 := (show spec_DrawEqualRows_m x0 = (G9.1, d20) from by subst hG9; exact cond_t g16 (fin_inr hE49 (rfl)))
   refine QM_r2 rfl (RR_tmp rfl) (RR_tmp rfl) (fun W hm => ⟨(.slice A10 G9.1.length c11, .slice A21 d20.length c22), ?_, ?_⟩)
   ·first | rw [he50] | rfl
    try rfl
   ·rw [he50]; exact (hm.pick [2, 0] (by decide))
 ·
  refine CM_condF rfl g16 ?_
  refine CM_skip (QM_then (sr (wm (wm ?_))))
  refine WM_callW (χ := Value) (val := fun x => x) (js := fun x => (iOwn (tSl tyRow 26) [x] ((spec_l3AnyRows_m x0 ((spec_l1Once_m x0 G9.2 2).2)).1) :: iBox p7 73 [.slice A2 x0.length c3, .int .i64 ((((spec_l3AnyRows_m x0 ((spec_l1Once_m x0 G9.2 2).2)).2).i : Nat) : Int), .int .i64 ((spec_l3AnyRows_m x0 ((spec_l1Once_m x0 G9.2 2).2)).2).h] :: [I6])) (cl_fn cb35 rfl) (fun W hm => spec_l3AnyRows_c w.heap.size w [I6] W p7 _ x0 ((spec_l1Once_m x0 G9.2 2).2) r5 s_0 hm) (Wd_none rfl) (by decide) (fun z51 => ?_)
  have hla := spec_l3AnyRows_9 x0 ((spec_l1Once_m x0 G9.2 2).2)
  obtain ⟨G52, hG52⟩ : ∃ G, G = (spec_l3AnyRows_m x0 ((spec_l1Once_m x0 G9.2 2).2)) := ⟨_, rfl⟩
  rw [← hG52]
  rw [← hG52] at hla
  refine WM_form (n := 0) rfl ?_
  rintro A53 c54 rfl m55
  refine wa (wa (nt' (CM_ret ?_)))
  have he57 := (show spec_DrawEqualRows_m x0 = (G9.1, G52.1) from by subst hG9 hG52; exact cond_f g16 (rfl))
  refine QM_r2 rfl (RR_tmp rfl) (RR_tmp rfl) (fun W hm => ⟨(.slice A10 G9.1.length c11, .slice A53 G52.1.length c54), ?_, ?_⟩)
  ·first | rw [he57] | rfl
   try rfl
  ·rw [he57]; exact (hm.pick [2, 0] (by decide))

def spec_DrawAreRows_m (x0 : (List Int)) : (List DRow) :=
 (spec_l3AnyRows_m x0 (spec_l1New_m x0)).1
theorem cb12 : Cb Tryz.prog 12 := ⟨f12, _, func12, rfl, by decide⟩
theorem spec_DrawAreRows_c (w : World) (z0 : Value) (x0 : (List Int)) (r_0 : rdS tU8 w w.heap.size z0 x0) (s_0 : x0.length ≤ 68719476736) :
  Calls Tryz.prog 12 #[z0] w fun e w' => ∃ v : Value, e = .returned (v) ∧ Mem w.heap.size w [iOwn (tSl tyRow 26) [v] (spec_DrawAreRows_m x0)] w' := by
 obtain ⟨m1, A2, c3, rfl, q4, r5⟩ := rdS_op r_0
 have l6 : x0.length ≤ 68719476736 := s_0
 refine ce1 (L := [(0, .slice A2 x0.length c3)]) (N := 6) func12 ?_
 refine sr (wa (nt' (sr (wm ?_))))
 refine WM_call (χ := Nat) (val := fun p => .pointer (some ⟨p, 0, none⟩)) (js := fun p => [iBox p 73 [.slice A2 x0.length c3, .int .i64 (((spec_l1New_m x0).i : Nat) : Int), .int .i64 ((spec_l1New_m x0).h)]]) (cl_fn cb24 rfl) (fun W hm => spec_l1New_c W _ x0 (hm.rdS0 r5) s_0) (Wd_none rfl) (by decide) (fun p7 => ?_)
 refine WM_callW (χ := Value) (val := fun x => x) (js := fun x => (iOwn (tSl tyRow 26) [x] ((spec_l3AnyRows_m x0 (spec_l1New_m x0)).1) :: iBox p7 73 [.slice A2 x0.length c3, .int .i64 ((((spec_l3AnyRows_m x0 (spec_l1New_m x0)).2).i : Nat) : Int), .int .i64 ((spec_l3AnyRows_m x0 (spec_l1New_m x0)).2).h] :: [])) (cl_fn cb35 rfl) (fun W hm => spec_l3AnyRows_c w.heap.size w [] W p7 _ x0 (spec_l1New_m x0) r5 s_0 hm) (Wd_none rfl) (by decide) (fun z8 => ?_)
 obtain ⟨G9, hG9⟩ : ∃ G, G = (spec_l3AnyRows_m x0 (spec_l1New_m x0)) := ⟨_, rfl⟩
 rw [← hG9]
 refine WM_form (n := 0) rfl ?_
 rintro A10 c11 rfl m12
 refine wa (nt' (CM_ret ?_))
 have he14 := (show spec_DrawAreRows_m x0 = G9.1 from by subst hG9; exact rfl)
 refine QM_r1 rfl (RR_tmp rfl) (fun W hm => ⟨.slice A10 G9.1.length c11, ?_, ?_⟩)
 ·first | rw [he14] | rfl
 ·rw [he14]; exact (hm.pick [0] (by decide))

def spec_FormatInt_b1 (k3 : Nat) (s4 : Int) (s5 : ByteArray) : ByteArray ⊕ ((Int × ByteArray) ⊕ (Int × ByteArray)) :=
 cond (s4 != 0) (cond (decide ((Int.tmod s4 10) < 0)) (Sum.inr (Sum.inr ((IntKind.i64.wrap (Int.tdiv s4 10)), ((sB [u8c (IntKind.u8.wrap (IntKind.i64.wrap (48 + (IntKind.i64.wrap (-(Int.tmod s4 10))))))]) ++ s5)))) (Sum.inr (Sum.inr ((IntKind.i64.wrap (Int.tdiv s4 10)), ((sB [u8c (IntKind.u8.wrap (IntKind.i64.wrap (48 + (Int.tmod s4 10))))]) ++ s5))))) (Sum.inr (Sum.inl (s4, s5)))
def spec_FormatInt_m (x0 : Int) : ByteArray :=
 cond (x0 == 0) (sB [48]) (Sum.elim id (fun (s : Int × ByteArray) => cond (decide (x0 < 0)) ((sB [45]) ++ s.2) s.2) (rngb (R := ByteArray) (fun k (s : Int × ByteArray) => spec_FormatInt_b1 k s.1 s.2) ((x0).natAbs + 1 - 0) 0 (x0, (sB []))))
def digN (n : Nat) : List UInt8 :=
 if h : n = 0 then [] else digN (n / 10) ++ [UInt8.ofNat (48 + n % 10)]
termination_by n
decreasing_by omega
theorem digN_pos {n : Nat} (h : 0 < n) : digN n = Lib.decDigits n := by
 induction n using Nat.strongRecOn with
 | _ n ih =>
  rw [digN, dif_neg (by omega), Lib.decDigits]
  by_cases h10 : n < 10
  ·rw [dif_pos h10, show n / 10 = 0 by omega, digN, dif_pos rfl, Nat.mod_eq_of_lt h10]
   rfl
  ·rw [dif_neg h10, ih (n / 10) (by omega) (by omega)]
theorem u8c_dig {d : Int} {m : Nat} (hm : m < 10) (h : d = ((m : Nat) : Int)) : u8c (IntKind.u8.wrap (IntKind.i64.wrap (48 + d))) = UInt8.ofNat (48 + m) := by
 subst h
 have h1 : IntKind.i64.wrap (48 + ((m : Nat) : Int)) = 48 + ((m : Nat) : Int) := wrap_id (by omega) (by omega)
 have h2 : IntKind.u8.wrap (48 + ((m : Nat) : Int)) = 48 + ((m : Nat) : Int) := by simp only [IntKind.wrap_u8]; omega
 rw [h1, h2]
 unfold u8c
 rw [show (48 + ((m : Nat) : Int)).toNat = 48 + m by omega]
theorem spec_FormatInt_step (n : Int) (out : List UInt8) (k : Nat) (h0 : n ≠ 0) (hr : -9223372036854775808 ≤ n ∧ n ≤ 9223372036854775807) : spec_FormatInt_b1 k n (sB out) = .inr (.inr (Int.tdiv n 10, sB (UInt8.ofNat (48 + n.natAbs % 10) :: out))) := by
 unfold spec_FormatInt_b1
 rw [bne_iff_ne.2 h0, cond_true, (tdv10 hr).1]
 have hm : (Int.tmod n 10).natAbs = n.natAbs % 10 := by rw [Int.natAbs_tmod]; rfl
 by_cases hn : Int.tmod n 10 < 0
 ·rw [decide_eq_true hn, cond_true, sB_app, wrap_id (n := -(Int.tmod n 10)) (by omega) (by omega), u8c_dig (m := n.natAbs % 10) (by omega) (by omega)]
  rfl
 ·rw [decide_eq_false hn, cond_false, sB_app, u8c_dig (m := n.natAbs % 10) (by omega) (by omega)]
  rfl
theorem spec_FormatInt_loop : ∀ (m k : Nat) (n : Int) (out : List UInt8), n.natAbs < m → (-9223372036854775808 ≤ n ∧ n ≤ 9223372036854775807) → rngb (R := ByteArray) (fun k (s : Int × ByteArray) => spec_FormatInt_b1 k s.1 s.2) m k (n, sB out) = .inr (0, sB (digN n.natAbs ++ out))
 | 0, _, n, _, h, _ => by omega
 | m + 1, k, n, out, h, hr => by
  rw [rngb]
  by_cases h0 : n = 0
  ·subst h0
   rw [show (0 : Int).natAbs = 0 from rfl, digN, dif_pos rfl]
   rfl
  ·show Sum.elim _ _ (spec_FormatInt_b1 k n (sB out)) = _
   rw [spec_FormatInt_step n out k h0 hr]
   have h2 := (tdv10 hr).2
   have ih := spec_FormatInt_loop m (k + 1) (Int.tdiv n 10) (UInt8.ofNat (48 + n.natAbs % 10) :: out) (by omega) (by omega)
   show rngb _ m (k + 1) (Int.tdiv n 10, sB (UInt8.ofNat (48 + n.natAbs % 10) :: out)) = _
   rw [ih, h2]
   have e : digN n.natAbs = digN (n.natAbs / 10) ++ [UInt8.ofNat (48 + n.natAbs % 10)] := by rw [digN, dif_neg (by omega)]
   rw [e, List.append_assoc]
   rfl
theorem spec_FormatInt_out {x : Int} (h : -9223372036854775808 ≤ x ∧ x ≤ 9223372036854775807) {a : Int} {b : ByteArray} (hE : rngb (R := ByteArray) (fun k (s : Int × ByteArray) => spec_FormatInt_b1 k s.1 s.2) (x.natAbs + 1 - 0) 0 (x, sB []) = .inr (a, b)) : b.size ≤ 20 := by
 rw [spec_FormatInt_loop (x.natAbs + 1 - 0) 0 x [] (by omega) h, List.append_nil] at hE
 cases hE
 show (sB (digN x.natAbs)).size ≤ 20
 rw [sB_size]
 by_cases h0 : 0 < x.natAbs
 ·rw [digN_pos h0, Lib.decDigits_length]
  exact Lib.nDigits_le20 _ (by omega)
 ·rw [show x.natAbs = 0 by omega, digN, dif_pos rfl]
  exact Nat.zero_le _
theorem cb38 : Cb Tryz.prog 38 := ⟨f38, _, func38, rfl, by decide⟩
theorem spec_FormatInt_c (w : World) (x0 : Int) (hr : -9223372036854775808 ≤ x0 ∧ x0 ≤ 9223372036854775807) :
  Calls Tryz.prog 38 #[.int .i64 x0] w fun e w' => e = .returned (.string (spec_FormatInt_m x0)) ∧ Below w.heap.size w w' := by
 refine ce1 (L := [(0, .int .i64 x0)]) (N := 31) func38 ?_
 refine sr (wa (nt' (CM_seq (sr (wm ?_)))))
 refine wv (fun W hm => rv_eql rfl rfl) ?_
 refine nt' ?_
 by_cases h1 : x0 = 0
 ·have g2 := beq_iff_eq.2 h1
  refine CM_condT rfl g2 ?_
  refine sr (wa (nt' (CM_ret (QM_then_ret ?_))))
  exact QM_ret1 rfl rfl (fun W hm => ⟨ret_s (show spec_FormatInt_m x0 = (sB [48]) from cond_t g2 (rfl)), hm.below⟩)
 ·have g2 := beq_eq_false_iff_ne.2 h1
  refine CM_condF rfl g2 ?_
  refine CM_skip (QM_then (sr (wa (nt' (sr (wm ?_))))))
  refine wv vlss ?_
  refine wa (nt' (CM_seq ?_))
  let F1 := fun k (s : Int × ByteArray) => spec_FormatInt_b1 k s.1 s.2
  let R2 := rngb (R := ByteArray) F1
  refine CM_cut (σ := (Int × ByteArray) × (Unit)) (fun s => [(3, .string s.1.2), (4, .bool (decide (x0 < 0)))]) (fun s => []) (fun s => R2 ((x0).natAbs + 1 - 0) 0 (x0, (sB [])) = Sum.inr s.1) ?_ ?_
  ·
   refine CM_block ?_
   refine CM_loop (σ := Nat × (Int × ByteArray) × (Unit)) (fun s => [(0, .int .i64 s.2.1.1), (3, .string s.2.1.2), (4, .bool (decide (x0 < 0)))]) (fun s => []) (fun s => s.1 + ((s.2.1.1).natAbs) + 1 ≤ (x0).natAbs + 1 ∧ R2 ((x0).natAbs + 1 - s.1) s.1 s.2.1 = R2 ((x0).natAbs + 1 - 0) 0 (x0, (sB [])) ∧ -9223372036854775808 ≤ s.2.1.1 ∧ s.2.1.1 ≤ 9223372036854775807 ∧ (s.2.1.2.size = 0 ∨ s.2.1.2.size + (s.2.1.1).natAbs ≤ 922337203685477582)) (fun s => (x0).natAbs + 1 - s.1) (0, (x0, (sB [])), ()) sl3 (fun W hm => hm) ⟨(show 0 + ((x0).natAbs) + 1 ≤ (x0).natAbs + 1 from by omega), rfl, (show -9223372036854775808 ≤ x0 from by omega), (show x0 ≤ 9223372036854775807 from by omega), (show ((sB []).size = 0 ∨ (sB []).size + (x0).natAbs ≤ 922337203685477582) from by (left; rfl))⟩ ?_
   rintro ⟨k3, ⟨s4, s5⟩, ⟨⟩⟩ H8
   obtain ⟨hk6, hF7, hi9, hi10, hi11⟩ : k3 + ((s4).natAbs) + 1 ≤ (x0).natAbs + 1 ∧ R2 ((x0).natAbs + 1 - k3) k3 (s4, s5) = R2 ((x0).natAbs + 1 - 0) 0 (x0, (sB [])) ∧ -9223372036854775808 ≤ s4 ∧ s4 ≤ 9223372036854775807 ∧ (s5.size = 0 ∨ s5.size + (s4).natAbs ≤ 922337203685477582) := H8
   show CM Tryz.prog 31 _ _ _ _ [(0, .int .i64 s4), (3, .string s5), (4, .bool (decide (x0 < 0)))] []
   refine CM_seq (sr (wm ?_))
   refine wv vneq ?_
   refine nt' ?_
   by_cases h12 : s4 = 0
   ·have g13 : (s4 != 0) = false := by rw [h12]; exact bne_self_eq_false _
    refine CM_condF rfl g13 ?_
    refine CM_exit (QM_then_exit (QM_then_exit (QM_block_hit ?_)))
    have hE14 := rngb_brk (R := ByteArray) (body := F1) (k := k3) (s := (s4, s5)) (s' := (s4, s5)) (show k3 < (x0).natAbs + 1 from by omega) (cond_f g13 (rfl)) hF7
    exact QM_cut_normal ((s4, s5), ()) sl2 (fun W hm => hm) hE14
   ·have g13 : (s4 != 0) = true := bne_iff_ne.2 h12
    refine CM_condT rfl g13 ?_
    refine CM_skip (QM_then (CM_block (sr (wm ?_))))
    refine wv (fun W hm => rv_rem rfl rfl (by omega)) ?_
    refine wa (nt' (CM_seq (sr (wm ?_))))
    refine wv vlss ?_
    refine nt' ?_
    by_cases h15 : (Int.tmod s4 10) < 0
    ·have g16 := decide_eq_true h15
     refine CM_condT rfl g16 ?_
     refine CM_region (wm ?_)
     refine wv (fun W hm => rv_neg rfl) ?_
     refine wa (nt' (sr (wm ?_)))
     refine wv vadd ?_
     refine wv (fun W hm => rv_convU8 underlying3 underlying5 rfl) ?_
     refine WM_build (cs := [.int .u8 (IntKind.u8.wrap (IntKind.i64.wrap (48 + (IntKind.i64.wrap (-(Int.tmod s4 10))))))]) underlying22 type5 rfl (by decide) (by decide) rfl (by kernel_rfl) (Wd_none rfl) (by decide) (fun p17 => ?_)
     refine wv (fun W hm => rv_byteS hm (i := 0) rfl underlying22 underlying5 underlying9 rfl) ?_
     refine wm ?_
     have hz18 : ByteArray.size (sB [u8c (IntKind.u8.wrap (IntKind.i64.wrap (48 + (IntKind.i64.wrap (-(Int.tmod s4 10))))))]) = 1 := rfl
     refine wv (fun W hm => rv_addS (p := (sB [u8c (IntKind.u8.wrap (IntKind.i64.wrap (48 + (IntKind.i64.wrap (-(Int.tmod s4 10))))))])) (q := s5) rfl rfl (by omega)) ?_
     have hz19 := sz_app (sB [u8c (IntKind.u8.wrap (IntKind.i64.wrap (48 + (IntKind.i64.wrap (-(Int.tmod s4 10))))))]) s5
     refine wa (nt' (CM_region (wm ?_)))
     have ht20 := tdv10 (n := s4) (by omega)
     refine wv (fun W hm => rv_quo rfl rfl (by omega)) ?_
     refine wa (WM_nil (QM_block_normal ?_))
     have hn21 := rngb_next (R := ByteArray) (body := F1) (k := k3) (s := (s4, s5)) (s' := ((IntKind.i64.wrap (Int.tdiv s4 10)), ((sB [u8c (IntKind.u8.wrap (IntKind.i64.wrap (48 + (IntKind.i64.wrap (-(Int.tmod s4 10))))))]) ++ s5))) (show k3 < (x0).natAbs + 1 from by omega) (cond_t g13 (cond_t g16 (rfl))) hF7
     exact QM_round (k3 + 1, ((IntKind.i64.wrap (Int.tdiv s4 10)), ((sB [u8c (IntKind.u8.wrap (IntKind.i64.wrap (48 + (IntKind.i64.wrap (-(Int.tmod s4 10))))))]) ++ s5)), ()) sl3 (pk []) ⟨(show (k3 + 1) + (((IntKind.i64.wrap (Int.tdiv s4 10))).natAbs) + 1 ≤ (x0).natAbs + 1 from by omega), hn21, (show -9223372036854775808 ≤ (IntKind.i64.wrap (Int.tdiv s4 10)) from by first | omega | (simp only [List.length_append, List.length_cons, List.length_nil] at *; omega)), (show (IntKind.i64.wrap (Int.tdiv s4 10)) ≤ 9223372036854775807 from by first | omega | (simp only [List.length_append, List.length_cons, List.length_nil] at *; omega)), (show (((sB [u8c (IntKind.u8.wrap (IntKind.i64.wrap (48 + (IntKind.i64.wrap (-(Int.tmod s4 10))))))]) ++ s5).size = 0 ∨ ((sB [u8c (IntKind.u8.wrap (IntKind.i64.wrap (48 + (IntKind.i64.wrap (-(Int.tmod s4 10))))))]) ++ s5).size + ((IntKind.i64.wrap (Int.tdiv s4 10))).natAbs ≤ 922337203685477582) from by first | omega | (simp only [List.length_append, List.length_cons, List.length_nil] at *; omega))⟩ (show (x0).natAbs + 1 - (k3 + 1) < (x0).natAbs + 1 - k3 from by omega)
    ·have g16 := decide_eq_false h15
     refine CM_condF rfl g16 ?_
     refine CM_skip (QM_then (sr (wm ?_)))
     refine wv vadd ?_
     refine wv (fun W hm => rv_convU8 underlying3 underlying5 rfl) ?_
     refine WM_build (cs := [.int .u8 (IntKind.u8.wrap (IntKind.i64.wrap (48 + (Int.tmod s4 10))))]) underlying22 type5 rfl (by decide) (by decide) rfl (by kernel_rfl) (Wd_none rfl) (by decide) (fun p22 => ?_)
     refine wv (fun W hm => rv_byteS hm (i := 0) rfl underlying22 underlying5 underlying9 rfl) ?_
     refine wm ?_
     have hz23 : ByteArray.size (sB [u8c (IntKind.u8.wrap (IntKind.i64.wrap (48 + (Int.tmod s4 10))))]) = 1 := rfl
     refine wv (fun W hm => rv_addS (p := (sB [u8c (IntKind.u8.wrap (IntKind.i64.wrap (48 + (Int.tmod s4 10))))])) (q := s5) rfl rfl (by omega)) ?_
     have hz24 := sz_app (sB [u8c (IntKind.u8.wrap (IntKind.i64.wrap (48 + (Int.tmod s4 10))))]) s5
     refine wa (nt' (CM_region (wm ?_)))
     have ht25 := tdv10 (n := s4) (by omega)
     refine wv (fun W hm => rv_quo rfl rfl (by omega)) ?_
     refine wa (WM_nil (QM_block_normal ?_))
     have hn26 := rngb_next (R := ByteArray) (body := F1) (k := k3) (s := (s4, s5)) (s' := ((IntKind.i64.wrap (Int.tdiv s4 10)), ((sB [u8c (IntKind.u8.wrap (IntKind.i64.wrap (48 + (Int.tmod s4 10))))]) ++ s5))) (show k3 < (x0).natAbs + 1 from by omega) (cond_t g13 (cond_f g16 (rfl))) hF7
     exact QM_round (k3 + 1, ((IntKind.i64.wrap (Int.tdiv s4 10)), ((sB [u8c (IntKind.u8.wrap (IntKind.i64.wrap (48 + (Int.tmod s4 10))))]) ++ s5)), ()) sl3 (pk []) ⟨(show (k3 + 1) + (((IntKind.i64.wrap (Int.tdiv s4 10))).natAbs) + 1 ≤ (x0).natAbs + 1 from by omega), hn26, (show -9223372036854775808 ≤ (IntKind.i64.wrap (Int.tdiv s4 10)) from by first | omega | (simp only [List.length_append, List.length_cons, List.length_nil] at *; omega)), (show (IntKind.i64.wrap (Int.tdiv s4 10)) ≤ 9223372036854775807 from by first | omega | (simp only [List.length_append, List.length_cons, List.length_nil] at *; omega)), (show (((sB [u8c (IntKind.u8.wrap (IntKind.i64.wrap (48 + (Int.tmod s4 10))))]) ++ s5).size = 0 ∨ ((sB [u8c (IntKind.u8.wrap (IntKind.i64.wrap (48 + (Int.tmod s4 10))))]) ++ s5).size + ((IntKind.i64.wrap (Int.tdiv s4 10))).natAbs ≤ 922337203685477582) from by first | omega | (simp only [List.length_append, List.length_cons, List.length_nil] at *; omega))⟩ (show (x0).natAbs + 1 - (k3 + 1) < (x0).natAbs + 1 - k3 from by omega)
  ·
   rintro ⟨⟨s4, s5⟩, ⟨⟩⟩ H28
   have hE27 : R2 ((x0).natAbs + 1 - 0) 0 (x0, (sB [])) = Sum.inr (s4, s5) := H28
   have hzo := spec_FormatInt_out hr hE27
   show QM 31 _ _ _ .normal [(3, .string s5), (4, .bool (decide (x0 < 0)))] []
   refine QM_then (CM_seq (sr (wm (nt' ?_))))
   by_cases h29 : x0 < 0
   ·have g30 := decide_eq_true h29
    refine CM_condT rfl g30 ?_
    refine sr (wm ?_)
    have hz31 : ByteArray.size (sB [45]) = 1 := rfl
    refine wv (fun W hm => rv_addS (p := (sB [45])) (q := s5) rfl rfl (by omega)) ?_
    have hz32 := sz_app (sB [45]) s5
    refine wa (nt' (CM_ret (QM_then_ret ?_)))
    exact QM_ret1 rfl rfl (fun W hm => ⟨ret_s (show spec_FormatInt_m x0 = ((sB [45]) ++ s5) from cond_f g2 (fin_inr hE27 (cond_t g30 (rfl)))), hm.below⟩)
   ·have g30 := decide_eq_false h29
    refine CM_condF rfl g30 ?_
    refine CM_skip (QM_then (sr (wm (wa (nt' (CM_ret ?_))))))
    exact QM_ret1 rfl rfl (fun W hm => ⟨ret_s (show spec_FormatInt_m x0 = s5 from cond_f g2 (fin_inr hE27 (cond_f g30 (rfl)))), hm.below⟩)
theorem spec_FormatInt_is (x : Int) (h : -9223372036854775808 ≤ x ∧ x ≤ 9223372036854775807) : spec_FormatInt_m x = itoaB x := by
  unfold spec_FormatInt_m itoaB
  by_cases h0 : x = 0
  · subst h0
    rw [show Lib.itoa 0 = [48] by rw [show (0 : Int) = ((0 : Nat) : Int) from rfl, Lib.itoa_nonneg, Lib.decDigits_one (by omega)]; rfl]
    rfl
  · rw [beq_eq_false_iff_ne.2 h0, cond_false, spec_FormatInt_loop (x.natAbs + 1 - 0) 0 x [] (by omega) h, List.append_nil, digN_pos (by omega)]
    show cond (decide (x < 0)) (sB [45] ++ sB (Lib.decDigits x.natAbs)) (sB (Lib.decDigits x.natAbs)) = _
    by_cases hn : x < 0
    · rw [decide_eq_true hn, cond_true, sB_app, Lib.itoa, if_pos hn]
      rfl
    · rw [decide_eq_false hn, cond_false, Lib.itoa, if_neg hn, show x.natAbs = x.toNat by omega]
theorem spec_FormatInt_sz (x : Int) (h : -9223372036854775808 ≤ x ∧ x ≤ 9223372036854775807) : (spec_FormatInt_m x).size ≤ 21 := by
  rw [spec_FormatInt_is x h]; exact itoaB_sz x h

def spec_l3List_b1 (x0 : (List Int)) (k6 : Nat) (s7 : ByteArray) : ByteArray ⊕ (ByteArray) :=
 cond (decide (0 < ((k6 : Nat) : Int))) (Sum.inr ((s7 ++ (sB [44])) ++ (spec_FormatInt_m (gt x0 k6)))) (Sum.inr (s7 ++ (spec_FormatInt_m (gt x0 k6))))
def spec_l3List_m (x0 : (List Int)) : ByteArray :=
 Sum.elim id (fun (s : ByteArray) => s) (rng (R := ByteArray) (fun k (s : ByteArray) => spec_l3List_b1 x0 k s) (x0.length - 0) 0 (sB []))
theorem cb39 : Cb Tryz.prog 39 := ⟨f39, _, func39, rfl, by decide⟩
theorem spec_l3List_c (w : World) (z0 : Value) (x0 : (List Int)) (r_0 : rdS tInt w w.heap.size z0 x0) (hv : x0.length = 3 ∧ ∀ k, k < 3 → 0 ≤ gt x0 k ∧ gt x0 k ≤ 99) :
  Calls Tryz.prog 39 #[z0] w fun e w' => e = .returned (.string (spec_l3List_m x0)) ∧ Below w.heap.size w w' := by
 obtain ⟨m1, A2, c3, rfl, q4, r5⟩ := rdS_op r_0
 refine ce1 (L := [(0, .slice A2 x0.length c3)]) (N := 23) func39 ?_
 refine sr (wa (nt' (sr (wa (nt' (CM_seq (sr (wa (nt' (CM_block ?_))))))))))
 let F1 := fun k (s : ByteArray) => spec_l3List_b1 x0 k s
 let R2 := rng (R := ByteArray) F1
 refine CM_loop (σ := Nat × (ByteArray) × (Unit)) (fun s => [(0, .slice A2 x0.length c3), (3, .string s.2.1), (4, .int .i64 ((s.1 : Nat) : Int))]) (fun s => []) (fun s => s.1 ≤ x0.length ∧ R2 (x0.length - s.1) s.1 s.2.1 = R2 (x0.length - 0) 0 (sB []) ∧ s.2.1.size ≤ 60 * s.1) (fun s => x0.length - s.1) (0, (sB []), ()) sl3 (fun W hm => hm) ⟨(by omega), rfl, (by exact Nat.zero_le _)⟩ ?_
 rintro ⟨k6, s7, ⟨⟩⟩ H10
 obtain ⟨hk8, hF9, hi11⟩ : k6 ≤ x0.length ∧ R2 (x0.length - k6) k6 s7 = R2 (x0.length - 0) 0 (sB []) ∧ s7.size ≤ 60 * k6 := H10
 show CM Tryz.prog 23 _ _ _ _ [(0, .slice A2 x0.length c3), (3, .string s7), (4, .int .i64 ((k6 : Nat) : Int))] []
 refine CM_seq (sr (wm (wm ?_)))
 refine wv (vlen underlying24) ?_
 refine wv vlss ?_
 refine nt' ?_
 by_cases hl12 : k6 < x0.length
 ·have g13 := dlT hl12
  have hvk := hv.2 k6 (by omega)
  refine CM_condT rfl g13 ?_
  refine CM_skip (QM_then (CM_seq (CM_block (CM_seq (sr (wm ?_))))))
  refine wv (fun W hm => rv_gtr rfl rfl) ?_
  refine nt' ?_
  by_cases h14 : 0 < ((k6 : Nat) : Int)
  ·have g15 := decide_eq_true h14
   refine CM_condT rfl g15 ?_
   refine CM_region (wm ?_)
   have hz16 : ByteArray.size (sB [44]) = 1 := rfl
   refine wv (fun W hm => rv_addS (p := s7) (q := (sB [44])) rfl rfl (by omega)) ?_
   have hz17 := sz_app s7 (sB [44])
   refine wa (nt' (CM_region (wm (wm (wm ?_)))))
   obtain ⟨a18, rfl, hb19, he20⟩ := q4 (by omega)
   refine wv (vix 1 k6 underlying24 type3) ?_
   refine wv (fun W hm => rv_load underlying3 rfl rfl ((hm.cell0 (show (a18.add (k6 * 1)).block < w.heap.size from by rw [add_block]; exact hb19.1)).trans (rdS_int he20 k6 (by omega)))) ?_
   refine wcv (cl_fn cb38 rfl) (fun W hm => spec_FormatInt_c W (gt x0 k6) (⟨by omega, by omega⟩)) ?_
   have hz21 := spec_FormatInt_sz (gt x0 k6) (by omega)
   refine wv (fun W hm => rv_addS (p := (s7 ++ (sB [44]))) (q := (spec_FormatInt_m (gt x0 k6))) rfl rfl (by omega)) ?_
   have hz22 := sz_app (s7 ++ (sB [44])) (spec_FormatInt_m (gt x0 k6))
   refine wa (WM_nil (QM_block_normal (QM_then (CM_region (wm ?_)))))
   refine wv (vadN k6 1 (by omega)) ?_
   refine wa (WM_nil ?_)
   have hn23 := rng_next (R := ByteArray) (body := F1) (k := k6) (s := s7) (s' := ((s7 ++ (sB [44])) ++ (spec_FormatInt_m (gt x0 k6)))) (show k6 < x0.length from by omega) (cond_t g15 (rfl)) hF9
   exact QM_round (k6 + 1, ((s7 ++ (sB [44])) ++ (spec_FormatInt_m (gt x0 k6))), ()) sl3 (fun W hm => hm) ⟨(by omega), hn23, (show ((s7 ++ (sB [44])) ++ (spec_FormatInt_m (gt x0 k6))).size ≤ 60 * (k6 + 1) from by omega)⟩ (rl (by omega))
  ·have g15 := decide_eq_false h14
   refine CM_condF rfl g15 ?_
   refine CM_skip (QM_then (CM_region (wm (wm (wm ?_)))))
   obtain ⟨a24, rfl, hb25, he26⟩ := q4 (by omega)
   refine wv (vix 1 k6 underlying24 type3) ?_
   refine wv (fun W hm => rv_load underlying3 rfl rfl ((hm.cell0 (show (a24.add (k6 * 1)).block < w.heap.size from by rw [add_block]; exact hb25.1)).trans (rdS_int he26 k6 (by omega)))) ?_
   refine wcv (cl_fn cb38 rfl) (fun W hm => spec_FormatInt_c W (gt x0 k6) (⟨by omega, by omega⟩)) ?_
   have hz27 := spec_FormatInt_sz (gt x0 k6) (by omega)
   refine wv (fun W hm => rv_addS (p := s7) (q := (spec_FormatInt_m (gt x0 k6))) rfl rfl (by omega)) ?_
   have hz28 := sz_app s7 (spec_FormatInt_m (gt x0 k6))
   refine wa (WM_nil (QM_block_normal (QM_then (CM_region (wm ?_)))))
   refine wv (vadN k6 1 (by omega)) ?_
   refine wa (WM_nil ?_)
   have hn29 := rng_next (R := ByteArray) (body := F1) (k := k6) (s := s7) (s' := (s7 ++ (spec_FormatInt_m (gt x0 k6)))) (show k6 < x0.length from by omega) (cond_f g15 (rfl)) hF9
   exact QM_round (k6 + 1, (s7 ++ (spec_FormatInt_m (gt x0 k6))), ()) sl3 (fun W hm => hm) ⟨(by omega), hn29, (show (s7 ++ (spec_FormatInt_m (gt x0 k6))).size ≤ 60 * (k6 + 1) from by omega)⟩ (rl (by omega))
 ·have g13 := dlF hl12
  refine CM_condF rfl g13 ?_
  refine CM_exit (QM_then_exit (QM_then_exit ?_))
  have hE30 : R2 (x0.length - 0) 0 (sB []) = Sum.inr s7 := rng_end hl12 hF9
  refine QM_block_hit (QM_then (sr (wm (wa (nt' (CM_ret ?_))))))
  exact QM_ret1 rfl rfl (fun W hm => ⟨ret_s (show spec_l3List_m x0 = s7 from fin_inr hE30 (rfl)), hm.below⟩)

theorem spec_l3List_sz (x : List Int) (hv : x.length = 3 ∧ ∀ k, k < 3 → 0 ≤ gt x k ∧ gt x k ≤ 99) : (spec_l3List_m x).size ≤ 2000000 := by
  unfold spec_l3List_m
  obtain ⟨s, e, h⟩ := rng_inv (R := ByteArray) (body := fun k (s : ByteArray) => spec_l3List_b1 x k s) (n := x.length) (fun k s => s.size ≤ 60 * k) (fun k s hk h => by
    have hv1 := hv.2 k (by omega)
    have h1 := spec_FormatInt_sz (gt x k) (by omega)
    have h44 : ByteArray.size (sB [44]) = 1 := rfl
    unfold spec_l3List_b1
    cases decide (0 < ((k : Nat) : Int)) with
    | true => exact ⟨_, rfl, by rw [sz_app, sz_app]; omega⟩
    | false => exact ⟨_, rfl, by rw [sz_app]; omega⟩) (x.length - 0) 0 (sB []) (by omega) (Nat.zero_le _)
  rw [e]
  show s.size ≤ _
  omega
def spec_FormatRow_m (x0 : DRow) : ByteArray :=
 cond (spec_IsRow_m x0) (((spec_FormatInt_m x0.Id) ++ (sB [58])) ++ (spec_l3List_m x0.Values)) (sB [])
theorem cb13 : Cb Tryz.prog 13 := ⟨f13, _, func13, rfl, by decide⟩
theorem spec_FormatRow_c (w : World) (z0 : List Value) (x0 : DRow) (r_0 : tyRow.rd w w.heap.size z0 x0) :
  Calls Tryz.prog 13 #[.agg z0.toArray] w fun e w' => e = .returned (.string (spec_FormatRow_m x0)) ∧ Below w.heap.size w w' := by
 obtain ⟨v1, rfl, r2⟩ := tyRow_rd r_0
 obtain ⟨m3, A4, c5, rfl, q6, r7⟩ := rdS_op r2
 refine ce1 (L := [(0, .agg #[.int .i64 x0.Id, .slice A4 x0.Values.length c5])]) (N := 14) func13 ?_
 refine sr ?_
 refine WM_box rfl (Wd_none rfl) (by decide) (fun p8 => ?_)
 refine wa (nt' (CM_seq (sr ?_)))
 refine wv (fun W hm => rv_loadN (cs := [.int .i64 x0.Id, .slice A4 x0.Values.length c5]) underlying26 type26 rfl rfl (hm.boxCells (n := 0) rfl)) ?_
 refine wcv (cl_fn cb14 rfl) (fun W hm => spec_IsRow_c W _ x0 (tyRow_mk (x := x0) (hm.rdS0 r7))) ?_
 refine wv vnot ?_
 refine nt' ?_
 rcases Bool.eq_false_or_eq_true (spec_IsRow_m x0) with g10 | g10
 ·
  have hrw := spec_Row_rng g10
  refine CM_condF rfl (nt g10) ?_
  refine CM_skip (QM_then (CM_seq ?_))
  refine CM_regionD (by kernel_rfl) (by kernel_rfl) ?_
  refine qv (vf underlying26 rfl type3) ?_
  refine qv (vl 0 0 underlying3) ?_
  refine QR_callV (cl_fn cb38 rfl) (fun W hm => spec_FormatInt_c W x0.Id (⟨by omega, by omega⟩)) (Wd_none rfl) (by decide) ?_
  have hz11 := spec_FormatInt_sz x0.Id (by omega)
  have hz12 : ByteArray.size (sB [58]) = 1 := rfl
  refine qv (fun W hm => rv_addS (p := (spec_FormatInt_m x0.Id)) (q := (sB [58])) rfl rfl (by omega)) ?_
  have hz13 := sz_app (spec_FormatInt_m x0.Id) (sB [58])
  refine qv (vf underlying26 rfl type24) ?_
  refine qv (vl 0 1 underlying24) ?_
  refine QR_callV (cl_fn cb39 rfl) (fun W hm => spec_l3List_c W _ x0.Values (hm.rdS0 r7) (hrw.2)) (Wd_none rfl) (by decide) ?_
  have hzn := spec_l3List_sz x0.Values hrw.2
  refine qv (fun W hm => rv_addS (p := ((spec_FormatInt_m x0.Id) ++ (sB [58]))) (q := (spec_l3List_m x0.Values)) rfl rfl (by omega)) ?_
  have hz14 := sz_app ((spec_FormatInt_m x0.Id) ++ (sB [58])) (spec_l3List_m x0.Values)
  refine qv (fun W hm => rv_assign rfl) ?_
  refine nq' (CM_ret ?_)
  exact QM_ret1 rfl rfl (fun W hm => ⟨ret_s (show spec_FormatRow_m x0 = (((spec_FormatInt_m x0.Id) ++ (sB [58])) ++ (spec_l3List_m x0.Values)) from cond_t g10 (rfl)), hm.below⟩)
 ·
  refine CM_condT rfl (nf g10) ?_
  refine sr (wa (nt' (CM_ret (QM_then_ret ?_))))
  exact QM_ret1 rfl rfl (fun W hm => ⟨ret_s (show spec_FormatRow_m x0 = (sB []) from cond_f g10 (rfl)), hm.below⟩)
theorem spec_FormatRow_sz (x : DRow) : (spec_FormatRow_m x).size ≤ 3000000 := by
  unfold spec_FormatRow_m
  cases h : spec_IsRow_m x with
  | false => exact Nat.zero_le _
  | true =>
    have hr := spec_Row_rng h
    have h1 := spec_FormatInt_sz x.Id (by omega)
    have h2 := spec_l3List_sz x.Values hr.2
    have h58 : ByteArray.size (sB [58]) = 1 := rfl
    rw [cond_true, sz_app, sz_app]
    omega

def spec_FormatUpdate_m (x0 : DUpdate) : ByteArray :=
 cond (spec_IsUpdate_m x0) (cond (x0.Kind == 1) ((sB [105, 110, 115, 101, 114, 116, 32]) ++ (spec_FormatRow_m x0.Row)) (cond (x0.Kind == 2) ((sB [100, 101, 108, 101, 116, 101, 32]) ++ (spec_FormatInt_m x0.Row.Id)) ((((((sB [115, 101, 116, 32]) ++ (spec_FormatInt_m x0.Row.Id)) ++ (sB [32, 102])) ++ (spec_FormatInt_m x0.Field)) ++ (sB [32])) ++ (spec_FormatInt_m x0.Value)))) (sB [])
theorem cb15 : Cb Tryz.prog 15 := ⟨f15, _, func15, rfl, by decide⟩
theorem spec_FormatUpdate_c (w : World) (z0 : List Value) (x0 : DUpdate) (r_0 : tyUpdate.rd w w.heap.size z0 x0) :
  Calls Tryz.prog 15 #[.agg z0.toArray] w fun e w' => e = .returned (.string (spec_FormatUpdate_m x0)) ∧ Below w.heap.size w w' := by
 obtain ⟨v1, rfl, r2⟩ := tyUpdate_rd r_0
 obtain ⟨m3, A4, c5, rfl, q6, r7⟩ := rdS_op r2
 refine ce1 (L := [(0, .agg #[.int .i64 x0.Kind, .int .i64 x0.Row.Id, .slice A4 x0.Row.Values.length c5, .int .i64 x0.Field, .int .i64 x0.Value])]) (N := 36) func15 ?_
 refine sr ?_
 refine WM_box rfl (Wd_none rfl) (by decide) (fun p8 => ?_)
 refine wa (nt' (CM_seq (sr ?_)))
 refine wv (fun W hm => rv_loadN (cs := [.int .i64 x0.Kind, .int .i64 x0.Row.Id, .slice A4 x0.Row.Values.length c5, .int .i64 x0.Field, .int .i64 x0.Value]) underlying32 type32 rfl rfl (hm.boxCells (n := 0) rfl)) ?_
 refine wcv (cl_fn cb16 rfl) (fun W hm => spec_IsUpdate_c W _ x0 (tyUpdate_mk (x := x0) (hm.rdS0 r7))) ?_
 refine wv vnot ?_
 refine nt' ?_
 rcases Bool.eq_false_or_eq_true (spec_IsUpdate_m x0) with g10 | g10
 ·
  have hup := spec_Update_rng g10
  refine CM_condF rfl (nt g10) ?_
  refine CM_skip (QM_then (CM_seq (sr ?_)))
  refine wv (vf underlying32 rfl type3) ?_
  refine wv (vl 0 0 underlying3) ?_
  refine nt' (CM_block (sr ?_))
  refine wv (fun W hm => rv_eql rfl rfl) ?_
  refine wa (nt' ?_)
  by_cases h11 : x0.Kind = 1
  ·have g12 := beq_iff_eq.2 h11
   refine CM_condT rfl g12 ?_
   refine sr ?_
   refine wv (vf underlying32 rfl type26) ?_
   refine wv (fun W hm => rv_loadN (cs := [.int .i64 x0.Row.Id, .slice A4 x0.Row.Values.length c5]) underlying26 type26 rfl rfl (hm.boxPart (n := 0) rfl rfl)) ?_
   refine wcv (cl_fn cb13 rfl) (fun W hm => spec_FormatRow_c W _ x0.Row (tyRow_mk (x := x0.Row) (hm.rdS0 r7))) ?_
   have hzr := spec_FormatRow_sz x0.Row
   have hz13 : ByteArray.size (sB [105, 110, 115, 101, 114, 116, 32]) = 7 := rfl
   refine wv (fun W hm => rv_addS (p := (sB [105, 110, 115, 101, 114, 116, 32])) (q := (spec_FormatRow_m x0.Row)) rfl rfl (by omega)) ?_
   have hz14 := sz_app (sB [105, 110, 115, 101, 114, 116, 32]) (spec_FormatRow_m x0.Row)
   refine wa (nt' (CM_ret (QM_block_ret (QM_then_ret ?_))))
   exact QM_ret1 rfl rfl (fun W hm => ⟨ret_s (show spec_FormatUpdate_m x0 = ((sB [105, 110, 115, 101, 114, 116, 32]) ++ (spec_FormatRow_m x0.Row)) from cond_t g10 (cond_t g12 (rfl))), hm.below⟩)
  ·have g12 := beq_eq_false_iff_ne.2 h11
   refine CM_condF rfl g12 ?_
   refine sr ?_
   refine wv (fun W hm => rv_eql rfl rfl) ?_
   refine wa (nt' ?_)
   by_cases h15 : x0.Kind = 2
   ·have g16 := beq_iff_eq.2 h15
    refine CM_condT rfl g16 ?_
    refine sr ?_
    refine wv (vf underlying32 rfl type26) ?_
    refine wv (fun W hm => rv_fieldA (o := 1) underlying26 rfl type3 (by decide) rfl rfl) ?_
    refine wv (vl 0 1 underlying3) ?_
    refine wcv (cl_fn cb38 rfl) (fun W hm => spec_FormatInt_c W x0.Row.Id (⟨by omega, by omega⟩)) ?_
    have hz17 := spec_FormatInt_sz x0.Row.Id (by omega)
    have hz18 : ByteArray.size (sB [100, 101, 108, 101, 116, 101, 32]) = 7 := rfl
    refine wv (fun W hm => rv_addS (p := (sB [100, 101, 108, 101, 116, 101, 32])) (q := (spec_FormatInt_m x0.Row.Id)) rfl rfl (by omega)) ?_
    have hz19 := sz_app (sB [100, 101, 108, 101, 116, 101, 32]) (spec_FormatInt_m x0.Row.Id)
    refine wa (nt' (CM_ret (QM_block_ret (QM_then_ret ?_))))
    exact QM_ret1 rfl rfl (fun W hm => ⟨ret_s (show spec_FormatUpdate_m x0 = ((sB [100, 101, 108, 101, 116, 101, 32]) ++ (spec_FormatInt_m x0.Row.Id)) from cond_t g10 (cond_f g12 (cond_t g16 (rfl)))), hm.below⟩)
   ·have g16 := beq_eq_false_iff_ne.2 h15
    refine CM_condF rfl g16 ?_
    refine CM_skip (QM_block_normal (QM_then (CM_seq ?_)))
    refine CM_regionD (by kernel_rfl) (by kernel_rfl) ?_
    refine qv (vf underlying32 rfl type26) ?_
    refine qv (fun W hm => rv_fieldA (o := 1) underlying26 rfl type3 (by decide) rfl rfl) ?_
    refine qv (vl 0 1 underlying3) ?_
    refine QR_callV (cl_fn cb38 rfl) (fun W hm => spec_FormatInt_c W x0.Row.Id (⟨by omega, by omega⟩)) (Wd_none rfl) (by decide) ?_
    have hz20 := spec_FormatInt_sz x0.Row.Id (by omega)
    have hz21 : ByteArray.size (sB [115, 101, 116, 32]) = 4 := rfl
    refine qv (fun W hm => rv_addS (p := (sB [115, 101, 116, 32])) (q := (spec_FormatInt_m x0.Row.Id)) rfl rfl (by omega)) ?_
    have hz22 := sz_app (sB [115, 101, 116, 32]) (spec_FormatInt_m x0.Row.Id)
    have hz23 : ByteArray.size (sB [32, 102]) = 2 := rfl
    refine qv (fun W hm => rv_addS (p := ((sB [115, 101, 116, 32]) ++ (spec_FormatInt_m x0.Row.Id))) (q := (sB [32, 102])) rfl rfl (by omega)) ?_
    have hz24 := sz_app ((sB [115, 101, 116, 32]) ++ (spec_FormatInt_m x0.Row.Id)) (sB [32, 102])
    refine qv (vf underlying32 rfl type3) ?_
    refine qv (vl 0 3 underlying3) ?_
    refine QR_callV (cl_fn cb38 rfl) (fun W hm => spec_FormatInt_c W x0.Field (⟨by omega, by omega⟩)) (Wd_none rfl) (by decide) ?_
    have hz25 := spec_FormatInt_sz x0.Field (by omega)
    refine qv (fun W hm => rv_addS (p := (((sB [115, 101, 116, 32]) ++ (spec_FormatInt_m x0.Row.Id)) ++ (sB [32, 102]))) (q := (spec_FormatInt_m x0.Field)) rfl rfl (by omega)) ?_
    have hz26 := sz_app (((sB [115, 101, 116, 32]) ++ (spec_FormatInt_m x0.Row.Id)) ++ (sB [32, 102])) (spec_FormatInt_m x0.Field)
    have hz27 : ByteArray.size (sB [32]) = 1 := rfl
    refine qv (fun W hm => rv_addS (p := ((((sB [115, 101, 116, 32]) ++ (spec_FormatInt_m x0.Row.Id)) ++ (sB [32, 102])) ++ (spec_FormatInt_m x0.Field))) (q := (sB [32])) rfl rfl (by omega)) ?_
    have hz28 := sz_app ((((sB [115, 101, 116, 32]) ++ (spec_FormatInt_m x0.Row.Id)) ++ (sB [32, 102])) ++ (spec_FormatInt_m x0.Field)) (sB [32])
    refine qv (vf underlying32 rfl type3) ?_
    refine qv (vl 0 4 underlying3) ?_
    refine QR_callV (cl_fn cb38 rfl) (fun W hm => spec_FormatInt_c W x0.Value (⟨by omega, by omega⟩)) (Wd_none rfl) (by decide) ?_
    have hz29 := spec_FormatInt_sz x0.Value (by omega)
    refine qv (fun W hm => rv_addS (p := (((((sB [115, 101, 116, 32]) ++ (spec_FormatInt_m x0.Row.Id)) ++ (sB [32, 102])) ++ (spec_FormatInt_m x0.Field)) ++ (sB [32]))) (q := (spec_FormatInt_m x0.Value)) rfl rfl (by omega)) ?_
    have hz30 := sz_app (((((sB [115, 101, 116, 32]) ++ (spec_FormatInt_m x0.Row.Id)) ++ (sB [32, 102])) ++ (spec_FormatInt_m x0.Field)) ++ (sB [32])) (spec_FormatInt_m x0.Value)
    refine qv (fun W hm => rv_assign rfl) ?_
    refine nq' (CM_ret ?_)
    exact QM_ret1 rfl rfl (fun W hm => ⟨ret_s (show spec_FormatUpdate_m x0 = ((((((sB [115, 101, 116, 32]) ++ (spec_FormatInt_m x0.Row.Id)) ++ (sB [32, 102])) ++ (spec_FormatInt_m x0.Field)) ++ (sB [32])) ++ (spec_FormatInt_m x0.Value)) from cond_t g10 (cond_f g12 (cond_f g16 (rfl)))), hm.below⟩)
 ·
  refine CM_condT rfl (nf g10) ?_
  refine sr (wa (nt' (CM_ret (QM_then_ret ?_))))
  exact QM_ret1 rfl rfl (fun W hm => ⟨ret_s (show spec_FormatUpdate_m x0 = (sB []) from cond_f g10 (rfl)), hm.below⟩)

def impl_sameInts_b1 (x0 : (List Int)) (x1 : (List Int)) (k13 : Nat) : Bool ⊕ (Unit) :=
 cond ((gt x0 k13) != (gt x1 k13)) (Sum.inl false) (Sum.inr ())
def impl_sameInts_m (x0 : (List Int)) (x1 : (List Int)) : Bool :=
 cond (((x0.length : Nat) : Int) != ((x1.length : Nat) : Int)) false (Sum.elim id (fun (s : Unit) => true) (rng (R := Bool) (fun k (_ : Unit) => impl_sameInts_b1 x0 x1 k) (x0.length - 0) 0 ()))
theorem cb64 : Cb Tryz.prog 64 := ⟨f64, _, func64, rfl, by decide⟩
theorem impl_sameInts_c (w : World) (z0 : Value) (x0 : (List Int)) (z1 : Value) (x1 : (List Int)) (r_0 : rdS tInt w w.heap.size z0 x0) (r_1 : rdS tInt w w.heap.size z1 x1) :
  Calls Tryz.prog 64 #[z0, z1] w fun e w' => e = .returned (.bool (impl_sameInts_m x0 x1)) ∧ Below w.heap.size w w' := by
 obtain ⟨m1, A2, c3, rfl, q4, r5⟩ := rdS_op r_0
 obtain ⟨m6, A7, c8, rfl, q9, r10⟩ := rdS_op r_1
 refine ce2 (L := [(0, .slice A2 x0.length c3), (1, .slice A7 x1.length c8)]) (N := 26) func64 ?_
 refine sr (wa (nt' (CM_seq (sr (wm ?_)))))
 refine wv (vlen underlying24) ?_
 refine wm ?_
 refine wv (vlen underlying24) ?_
 refine wv vneq ?_
 refine nt' ?_
 by_cases h11 : ((x0.length : Nat) : Int) = ((x1.length : Nat) : Int)
 ·have g12 : (((x0.length : Nat) : Int) != ((x1.length : Nat) : Int)) = false := by rw [h11]; exact bne_self_eq_false _
  refine CM_condF rfl g12 ?_
  refine CM_skip (QM_then (CM_seq (sr (wm ?_))))
  refine wv (vlen underlying24) ?_
  refine wm (nt' (CM_block ?_))
  let F1 := fun k (_ : Unit) => impl_sameInts_b1 x0 x1 k
  let R2 := rng (R := Bool) F1
  refine CM_loop (σ := Nat × (Unit) × (Unit)) (fun s => [(0, .slice A2 x0.length c3), (1, .slice A7 x1.length c8), (12, .int .i64 ((x0.length : Nat) : Int)), (13, .int .i64 ((s.1 : Nat) : Int))]) (fun s => []) (fun s => s.1 ≤ x0.length ∧ R2 (x0.length - s.1) s.1 s.2.1 = R2 (x0.length - 0) 0 ()) (fun s => x0.length - s.1) (0, (), ()) sl4 (fun W hm => hm) ⟨(by omega), rfl⟩ ?_
  rintro ⟨k13, ⟨⟩, ⟨⟩⟩ H16
  obtain ⟨hk14, hF15⟩ : k13 ≤ x0.length ∧ R2 (x0.length - k13) k13 () = R2 (x0.length - 0) 0 () := H16
  show CM Tryz.prog 26 _ _ _ _ [(0, .slice A2 x0.length c3), (1, .slice A7 x1.length c8), (12, .int .i64 ((x0.length : Nat) : Int)), (13, .int .i64 ((k13 : Nat) : Int))] []
  refine sr ?_
  refine wv vlss ?_
  refine nt' (CM_seq ?_)
  by_cases hl17 : k13 < x0.length
  ·have g18 := dlT hl17
   refine CM_condT rfl g18 ?_
   refine CM_skip (QM_then (CM_seq (CM_block (sr (wm (wa (nt' (CM_seq ?_))))))))
   refine CM_regionD (by kernel_rfl) (by kernel_rfl) ?_
   refine qm (qm ?_)
   obtain ⟨a19, rfl, hb20, he21⟩ := q4 (by omega)
   refine qv (vix 1 k13 underlying24 type3) ?_
   refine qv (fun W hm => rv_load underlying3 rfl rfl ((hm.cell0 (show (a19.add (k13 * 1)).block < w.heap.size from by rw [add_block]; exact hb20.1)).trans (rdS_int he21 k13 (by omega)))) ?_
   refine qm (qm ?_)
   obtain ⟨a22, rfl, hb23, he24⟩ := q9 (by omega)
   refine qv (vix 1 k13 underlying24 type3) ?_
   refine qv (fun W hm => rv_load underlying3 rfl rfl ((hm.cell0 (show (a22.add (k13 * 1)).block < w.heap.size from by rw [add_block]; exact hb23.1)).trans (rdS_int he24 k13 (by omega)))) ?_
   refine qv vneq ?_
   refine nq' ?_
   by_cases h25 : (gt x0 k13) = (gt x1 k13)
   ·have g26 : ((gt x0 k13) != (gt x1 k13)) = false := by rw [h25]; exact bne_self_eq_false _
    refine CM_condF rfl g26 ?_
    refine CM_skip (QM_block_normal (QM_then (CM_region ?_)))
    refine wv (vadN k13 1 (by omega)) ?_
    refine wm (WM_nil ?_)
    have hn27 := rng_next (R := Bool) (body := F1) (k := k13) (s := ()) (s' := ()) (show k13 < x0.length from by omega) (cond_f g26 (rfl)) hF15
    exact QM_round (k13 + 1, (), ()) sl4 (fun W hm => hm) ⟨(by omega), hn27⟩ (rl (by omega))
   ·have g26 : ((gt x0 k13) != (gt x1 k13)) = true := bne_iff_ne.2 h25
    refine CM_condT rfl g26 ?_
    refine sr (wa (nt' (CM_ret (QM_block_ret (QM_then_ret (QM_then_ret (QM_block_ret (QM_then_ret ?_))))))))
    exact rtb (h := cond_f g12 (fin_inl (rng_ret (body := F1) (k := k13) (s := ()) (show k13 < x0.length from by omega) (cond_t g26 (rfl)) hF15) rfl))
  ·have g18 := dlF hl17
   refine CM_condF rfl g18 ?_
   refine CM_exit (QM_then_exit (QM_then_exit ?_))
   have hE28 : R2 (x0.length - 0) 0 () = Sum.inr () := rng_end hl17 hF15
   refine QM_block_hit (QM_then (sr (wa (nt' (CM_ret ?_)))))
   exact rtb (h := cond_f g12 (fin_inr hE28 (rfl)))
 ·have g12 : (((x0.length : Nat) : Int) != ((x1.length : Nat) : Int)) = true := bne_iff_ne.2 h11
  refine CM_condT rfl g12 ?_
  refine sr (wa (nt' (CM_ret (QM_then_ret ?_))))
  exact rtb (h := cond_t g12 (rfl))

def impl_equalRow_m (x0 : DRow) (x1 : DRow) : Bool :=
 cond (x0.Id == x1.Id) (impl_sameInts_m x0.Values x1.Values) false
theorem cb42 : Cb Tryz.prog 42 := ⟨f42, _, func42, rfl, by decide⟩
theorem impl_equalRow_c (w : World) (z0 : List Value) (x0 : DRow) (z1 : List Value) (x1 : DRow) (r_0 : tyRow.rd w w.heap.size z0 x0) (r_1 : tyRow.rd w w.heap.size z1 x1) :
  Calls Tryz.prog 42 #[.agg z0.toArray, .agg z1.toArray] w fun e w' => e = .returned (.bool (impl_equalRow_m x0 x1)) ∧ Below w.heap.size w w' := by
 obtain ⟨v1, rfl, r2⟩ := tyRow_rd r_0
 obtain ⟨m3, A4, c5, rfl, q6, r7⟩ := rdS_op r2
 obtain ⟨v8, rfl, r9⟩ := tyRow_rd r_1
 obtain ⟨m10, A11, c12, rfl, q13, r14⟩ := rdS_op r9
 refine ce2 (L := [(0, .agg #[.int .i64 x0.Id, .slice A4 x0.Values.length c5]), (1, .agg #[.int .i64 x1.Id, .slice A11 x1.Values.length c12])]) (N := 17) func42 ?_
 refine sr ?_
 refine WM_box rfl (Wd_none rfl) (by decide) (fun p15 => ?_)
 refine WM_box rfl (Wd_none rfl) (by decide) (fun p16 => ?_)
 refine wa (nt' (sr ?_))
 refine wv (vf underlying26 rfl type3) ?_
 refine wv (vl 1 0 underlying3) ?_
 refine wv (vf underlying26 rfl type3) ?_
 refine wv (vl 0 0 underlying3) ?_
 refine wv (fun W hm => rv_eql rfl rfl) ?_
 refine wm ?_
 by_cases h17 : x0.Id = x1.Id
 ·have g18 := beq_iff_eq.2 h17
  refine wg (vf underlying26 rfl type24) g18 ?_
  refine wg (vl 1 1 underlying24) g18 ?_
  refine wg (vf underlying26 rfl type24) g18 ?_
  refine wg (vl 0 1 underlying24) g18 ?_
  refine WM_callV (cl_fn cb64 rfl) (fun W hm => impl_sameInts_c W _ x0.Values _ x1.Values (hm.rdS0 r7) (hm.rdS0 r14)) (Wd_some rfl rfl rfl (bw g18 rfl)) (by decide) ?_
  refine wv (vpT g18) ?_
  refine wa (nt' (CM_ret ?_))
  exact rtb (h := cond_t g18 (rfl))
 ·have g18 := beq_eq_false_iff_ne.2 h17
  refine ws g18 ?_
  refine ws g18 ?_
  refine ws g18 ?_
  refine ws g18 ?_
  refine ws g18 ?_
  refine wv (vpF g18) ?_
  refine wa (nt' (CM_ret ?_))
  exact rtb (h := cond_f g18 (rfl))

def slices_EqualFunc_impl_Row_impl_equalRow_b1 (x0 : (List DRow)) (x1 : (List DRow)) (k13 : Nat) : Bool ⊕ (Unit) :=
 cond (impl_equalRow_m (gt x0 k13) (gt x1 k13)) (Sum.inr ()) (Sum.inl false)
def slices_EqualFunc_impl_Row_impl_equalRow_m (x0 : (List DRow)) (x1 : (List DRow)) : Bool :=
 cond (((x0.length : Nat) : Int) != ((x1.length : Nat) : Int)) false (Sum.elim id (fun (s : Unit) => true) (rng (R := Bool) (fun k (_ : Unit) => slices_EqualFunc_impl_Row_impl_equalRow_b1 x0 x1 k) (x0.length - 0) 0 ()))
theorem cb41 : Cb Tryz.prog 41 := ⟨f41, _, func41, rfl, by decide⟩
theorem slices_EqualFunc_impl_Row_impl_equalRow_c (w : World) (z0 : Value) (x0 : (List DRow)) (z1 : Value) (x1 : (List DRow)) (r_0 : rdS tyRow w w.heap.size z0 x0) (r_1 : rdS tyRow w w.heap.size z1 x1) :
  Calls Tryz.prog 41 #[z0, z1, .func (.func 42) #[] #[]] w fun e w' => e = .returned (.bool (slices_EqualFunc_impl_Row_impl_equalRow_m x0 x1)) ∧ Below w.heap.size w w' := by
 obtain ⟨m1, A2, c3, rfl, q4, r5⟩ := rdS_op r_0
 obtain ⟨m6, A7, c8, rfl, q9, r10⟩ := rdS_op r_1
 refine ce3 (L := [(0, .slice A2 x0.length c3), (1, .slice A7 x1.length c8), (2, .func (.func 42) #[] #[])]) (N := 32) func41 ?_
 refine sr (wa (nt' (CM_seq (sr (wm ?_)))))
 refine wv (vlen underlying37) ?_
 refine wm ?_
 refine wv (vlen underlying37) ?_
 refine wv vneq ?_
 refine nt' ?_
 by_cases h11 : ((x0.length : Nat) : Int) = ((x1.length : Nat) : Int)
 ·have g12 : (((x0.length : Nat) : Int) != ((x1.length : Nat) : Int)) = false := by rw [h11]; exact bne_self_eq_false _
  refine CM_condF rfl g12 ?_
  refine CM_skip (QM_then (CM_seq (sr (wm ?_))))
  refine wv (vlen underlying37) ?_
  refine wm (nt' (CM_block ?_))
  let F1 := fun k (_ : Unit) => slices_EqualFunc_impl_Row_impl_equalRow_b1 x0 x1 k
  let R2 := rng (R := Bool) F1
  refine CM_loop (σ := Nat × (Unit) × (Unit)) (fun s => [(1, .slice A7 x1.length c8), (2, .func (.func 42) #[] #[]), (15, .slice A2 x0.length c3), (16, .int .i64 ((x0.length : Nat) : Int)), (17, .int .i64 ((s.1 : Nat) : Int))]) (fun s => []) (fun s => s.1 ≤ x0.length ∧ R2 (x0.length - s.1) s.1 s.2.1 = R2 (x0.length - 0) 0 ()) (fun s => x0.length - s.1) (0, (), ()) sl5 (fun W hm => hm) ⟨(by omega), rfl⟩ ?_
  rintro ⟨k13, ⟨⟩, ⟨⟩⟩ H16
  obtain ⟨hk14, hF15⟩ : k13 ≤ x0.length ∧ R2 (x0.length - k13) k13 () = R2 (x0.length - 0) 0 () := H16
  show CM Tryz.prog 32 _ _ _ _ [(1, .slice A7 x1.length c8), (2, .func (.func 42) #[] #[]), (15, .slice A2 x0.length c3), (16, .int .i64 ((x0.length : Nat) : Int)), (17, .int .i64 ((k13 : Nat) : Int))] []
  refine sr ?_
  refine wv vlss ?_
  refine nt' (CM_seq ?_)
  by_cases hl17 : k13 < x0.length
  ·have g18 := dlT hl17
   refine CM_condT rfl g18 ?_
   refine CM_skip (QM_then (CM_seq (CM_block (sr (wm ?_)))))
   obtain ⟨a19, rfl, hb20, he21⟩ := q4 (by omega)
   refine wv (vix 2 k13 underlying37 type26) ?_
   obtain ⟨_, e25, hc22⟩ := he21 k13 _ (gt_some (show k13 < x0.length from by omega))
   obtain ⟨v23, rfl, r24⟩ := tyRow_rd e25
   obtain ⟨m26, A27, c28, rfl, q29, r30⟩ := rdS_op r24
   let K3 : List Value := [.int .i64 ((gt x0 k13).Id), .slice A27 ((gt x0 k13).Values).length c28]
   refine wv (fun W hm => rv_loadN (cs := K3) underlying26 type26 rfl rfl (hm.elCells (show (a19.add (k13 * 2)).block < w.heap.size from by rw [add_block]; exact hb20.1) hc22)) ?_
   refine WM_alloc type26 rfl (Wd_none rfl) (by decide) (fun p31 => ?_)
   refine wa ?_
   refine sb 0 K3 [] (fun W hm => hm) type26 ?_
   refine nt' (sr (wm (wm ?_)))
   obtain ⟨a32, rfl, hb33, he34⟩ := q9 (by omega)
   refine wv (vix 2 k13 underlying37 type26) ?_
   obtain ⟨_, e38, hc35⟩ := he34 k13 _ (gt_some (show k13 < x1.length from by omega))
   obtain ⟨v36, rfl, r37⟩ := tyRow_rd e38
   obtain ⟨m39, A40, c41, rfl, q42, r43⟩ := rdS_op r37
   let K4 : List Value := [.int .i64 ((gt x1 k13).Id), .slice A40 ((gt x1 k13).Values).length c41]
   refine wv (fun W hm => rv_loadN (cs := K4) underlying26 type26 rfl rfl (hm.elCells (show (a32.add (k13 * 2)).block < w.heap.size from by rw [add_block]; exact hb33.1) hc35)) ?_
   refine WM_alloc type26 rfl (Wd_none rfl) (by decide) (fun p44 => ?_)
   refine sb 0 K4 [iBox p31 26 K3] (fun W hm => hm) type26 ?_
   refine nt' (sr (wm ?_))
   refine wv (fun W hm => rv_loadN (cs := K3) underlying26 type26 rfl rfl (hm.boxCells (n := 1) rfl)) ?_
   refine wv (fun W hm => rv_loadN (cs := K4) underlying26 type26 rfl rfl (hm.boxCells (n := 0) rfl)) ?_
   refine wcv (cl_val (first := []) (caps := []) (vs := [.agg #[.int .i64 ((gt x0 k13).Id), .slice A27 ((gt x0 k13).Values).length c28], .agg #[.int .i64 ((gt x1 k13).Id), .slice A40 ((gt x1 k13).Values).length c41]]) (args := [.agg #[.int .i64 ((gt x0 k13).Id), .slice A27 ((gt x0 k13).Values).length c28], .agg #[.int .i64 ((gt x1 k13).Id), .slice A40 ((gt x1 k13).Values).length c41]]) cb42 rfl rfl rfl) (fun W hm => impl_equalRow_c W _ (gt x0 k13) _ (gt x1 k13) (tyRow_mk (x := (gt x0 k13)) (hm.rdS0 r30)) (tyRow_mk (x := (gt x1 k13)) (hm.rdS0 r43))) ?_
   refine wv vnot ?_
   refine nt' ?_
   rcases Bool.eq_false_or_eq_true (impl_equalRow_m (gt x0 k13) (gt x1 k13)) with g46 | g46
   ·
    refine CM_condF rfl (nt g46) ?_
    refine CM_skip (QM_block_normal (QM_then (CM_region ?_)))
    refine wv (vadN k13 1 (by omega)) ?_
    refine wm (WM_nil ?_)
    have hn47 := rng_next (R := Bool) (body := F1) (k := k13) (s := ()) (s' := ()) (show k13 < x0.length from by omega) (cond_t g46 (rfl)) hF15
    exact QM_round (k13 + 1, (), ()) sl5 (pk []) ⟨(by omega), hn47⟩ (rl (by omega))
   ·
    refine CM_condT rfl (nf g46) ?_
    refine sr (wa (nt' (CM_ret (QM_block_ret (QM_then_ret (QM_then_ret (QM_block_ret (QM_then_ret ?_))))))))
    exact rtb (h := cond_f g12 (fin_inl (rng_ret (body := F1) (k := k13) (s := ()) (show k13 < x0.length from by omega) (cond_f g46 (rfl)) hF15) rfl))
  ·have g18 := dlF hl17
   refine CM_condF rfl g18 ?_
   refine CM_exit (QM_then_exit (QM_then_exit ?_))
   have hE48 : R2 (x0.length - 0) 0 () = Sum.inr () := rng_end hl17 hF15
   refine QM_block_hit (QM_then (sr (wa (nt' (CM_ret ?_)))))
   exact rtb (h := cond_f g12 (fin_inr hE48 (rfl)))
 ·have g12 : (((x0.length : Nat) : Int) != ((x1.length : Nat) : Int)) = true := bne_iff_ne.2 h11
  refine CM_condT rfl g12 ?_
  refine sr (wa (nt' (CM_ret (QM_then_ret ?_))))
  exact rtb (h := cond_t g12 (rfl))

def impl_EqualRows_m (x0 : (List DRow)) (x1 : (List DRow)) : Bool :=
 (slices_EqualFunc_impl_Row_impl_equalRow_m x0 x1)
theorem cb17 : Cb Tryz.prog 17 := ⟨f17, _, func17, rfl, by decide⟩
theorem impl_EqualRows_c (w : World) (z0 : Value) (x0 : (List DRow)) (z1 : Value) (x1 : (List DRow)) (r_0 : rdS tyRow w w.heap.size z0 x0) (r_1 : rdS tyRow w w.heap.size z1 x1) :
  Calls Tryz.prog 17 #[z0, z1] w fun e w' => e = .returned (.bool (impl_EqualRows_m x0 x1)) ∧ Below w.heap.size w w' := by
 obtain ⟨m1, A2, c3, rfl, q4, r5⟩ := rdS_op r_0
 obtain ⟨m6, A7, c8, rfl, q9, r10⟩ := rdS_op r_1
 refine ce2 (L := [(0, .slice A2 x0.length c3), (1, .slice A7 x1.length c8)]) (N := 8) func17 ?_
 refine sr (wa (nt' (sr (wm (wm ?_)))))
 refine wcv (cl_fn cb41 rfl) (fun W hm => slices_EqualFunc_impl_Row_impl_equalRow_c W _ x0 _ x1 (hm.rdS0 r5) (hm.rdS0 r10)) ?_
 refine wa (nt' (CM_ret ?_))
 exact rtb (h := rfl)

def spec_l2Ints_b1 (x0 : (List Int)) (x1 : (List Int)) (k13 : Nat) : Bool ⊕ (Unit) :=
 cond ((gt x0 k13) != (gt x1 k13)) (Sum.inl false) (Sum.inr ())
def spec_l2Ints_m (x0 : (List Int)) (x1 : (List Int)) : Bool :=
 cond (((x0.length : Nat) : Int) != ((x1.length : Nat) : Int)) false (Sum.elim id (fun (s : Unit) => true) (rng (R := Bool) (fun k (_ : Unit) => spec_l2Ints_b1 x0 x1 k) (x0.length - 0) 0 ()))
theorem cb65 : Cb Tryz.prog 65 := ⟨f65, _, func65, rfl, by decide⟩
theorem spec_l2Ints_c (w : World) (z0 : Value) (x0 : (List Int)) (z1 : Value) (x1 : (List Int)) (r_0 : rdS tInt w w.heap.size z0 x0) (r_1 : rdS tInt w w.heap.size z1 x1) :
  Calls Tryz.prog 65 #[z0, z1] w fun e w' => e = .returned (.bool (spec_l2Ints_m x0 x1)) ∧ Below w.heap.size w w' := by
 obtain ⟨m1, A2, c3, rfl, q4, r5⟩ := rdS_op r_0
 obtain ⟨m6, A7, c8, rfl, q9, r10⟩ := rdS_op r_1
 refine ce2 (L := [(0, .slice A2 x0.length c3), (1, .slice A7 x1.length c8)]) (N := 26) func65 ?_
 refine sr (wa (nt' (CM_seq (sr (wm ?_)))))
 refine wv (vlen underlying24) ?_
 refine wm ?_
 refine wv (vlen underlying24) ?_
 refine wv vneq ?_
 refine nt' ?_
 by_cases h11 : ((x0.length : Nat) : Int) = ((x1.length : Nat) : Int)
 ·have g12 : (((x0.length : Nat) : Int) != ((x1.length : Nat) : Int)) = false := by rw [h11]; exact bne_self_eq_false _
  refine CM_condF rfl g12 ?_
  refine CM_skip (QM_then (CM_seq (sr (wa (nt' (CM_block ?_))))))
  let F1 := fun k (_ : Unit) => spec_l2Ints_b1 x0 x1 k
  let R2 := rng (R := Bool) F1
  refine CM_loop (σ := Nat × (Unit) × (Unit)) (fun s => [(0, .slice A2 x0.length c3), (1, .slice A7 x1.length c8), (5, .int .i64 ((s.1 : Nat) : Int))]) (fun s => []) (fun s => s.1 ≤ x0.length ∧ R2 (x0.length - s.1) s.1 s.2.1 = R2 (x0.length - 0) 0 ()) (fun s => x0.length - s.1) (0, (), ()) sl3 (fun W hm => hm) ⟨(by omega), rfl⟩ ?_
  rintro ⟨k13, ⟨⟩, ⟨⟩⟩ H16
  obtain ⟨hk14, hF15⟩ : k13 ≤ x0.length ∧ R2 (x0.length - k13) k13 () = R2 (x0.length - 0) 0 () := H16
  show CM Tryz.prog 26 _ _ _ _ [(0, .slice A2 x0.length c3), (1, .slice A7 x1.length c8), (5, .int .i64 ((k13 : Nat) : Int))] []
  refine CM_seq (sr (wm (wm ?_)))
  refine wv (vlen underlying24) ?_
  refine wv vlss ?_
  refine nt' ?_
  by_cases hl17 : k13 < x0.length
  ·have g18 := dlT hl17
   refine CM_condT rfl g18 ?_
   refine CM_skip (QM_then (CM_seq (CM_block (CM_seq ?_))))
   refine CM_regionD (by kernel_rfl) (by kernel_rfl) ?_
   refine qm (qm ?_)
   obtain ⟨a19, rfl, hb20, he21⟩ := q4 (by omega)
   refine qv (vix 1 k13 underlying24 type3) ?_
   refine qv (fun W hm => rv_load underlying3 rfl rfl ((hm.cell0 (show (a19.add (k13 * 1)).block < w.heap.size from by rw [add_block]; exact hb20.1)).trans (rdS_int he21 k13 (by omega)))) ?_
   refine qm (qm ?_)
   obtain ⟨a22, rfl, hb23, he24⟩ := q9 (by omega)
   refine qv (vix 1 k13 underlying24 type3) ?_
   refine qv (fun W hm => rv_load underlying3 rfl rfl ((hm.cell0 (show (a22.add (k13 * 1)).block < w.heap.size from by rw [add_block]; exact hb23.1)).trans (rdS_int he24 k13 (by omega)))) ?_
   refine qv vneq ?_
   refine nq' ?_
   by_cases h25 : (gt x0 k13) = (gt x1 k13)
   ·have g26 : ((gt x0 k13) != (gt x1 k13)) = false := by rw [h25]; exact bne_self_eq_false _
    refine CM_condF rfl g26 ?_
    refine CM_skip (QM_block_normal (QM_then (CM_region (wm ?_))))
    refine wv (vadN k13 1 (by omega)) ?_
    refine wa (WM_nil ?_)
    have hn27 := rng_next (R := Bool) (body := F1) (k := k13) (s := ()) (s' := ()) (show k13 < x0.length from by omega) (cond_f g26 (rfl)) hF15
    exact QM_round (k13 + 1, (), ()) sl3 (fun W hm => hm) ⟨(by omega), hn27⟩ (rl (by omega))
   ·have g26 : ((gt x0 k13) != (gt x1 k13)) = true := bne_iff_ne.2 h25
    refine CM_condT rfl g26 ?_
    refine sr (wa (nt' (CM_ret (QM_block_ret (QM_then_ret (QM_then_ret (QM_block_ret (QM_then_ret ?_))))))))
    exact rtb (h := cond_f g12 (fin_inl (rng_ret (body := F1) (k := k13) (s := ()) (show k13 < x0.length from by omega) (cond_t g26 (rfl)) hF15) rfl))
  ·have g18 := dlF hl17
   refine CM_condF rfl g18 ?_
   refine CM_exit (QM_then_exit (QM_then_exit ?_))
   have hE28 : R2 (x0.length - 0) 0 () = Sum.inr () := rng_end hl17 hF15
   refine QM_block_hit (QM_then (sr (wa (nt' (CM_ret ?_)))))
   exact rtb (h := cond_f g12 (fin_inr hE28 (rfl)))
 ·have g12 : (((x0.length : Nat) : Int) != ((x1.length : Nat) : Int)) = true := bne_iff_ne.2 h11
  refine CM_condT rfl g12 ?_
  refine sr (wa (nt' (CM_ret (QM_then_ret ?_))))
  exact rtb (h := cond_t g12 (rfl))

def spec_l3Same_m (x0 : DRow) (x1 : DRow) : Bool :=
 cond (x0.Id == x1.Id) (spec_l2Ints_m x0.Values x1.Values) false
theorem cb43 : Cb Tryz.prog 43 := ⟨f43, _, func43, rfl, by decide⟩
theorem spec_l3Same_c (w : World) (z0 : List Value) (x0 : DRow) (z1 : List Value) (x1 : DRow) (r_0 : tyRow.rd w w.heap.size z0 x0) (r_1 : tyRow.rd w w.heap.size z1 x1) :
  Calls Tryz.prog 43 #[.agg z0.toArray, .agg z1.toArray] w fun e w' => e = .returned (.bool (spec_l3Same_m x0 x1)) ∧ Below w.heap.size w w' := by
 obtain ⟨v1, rfl, r2⟩ := tyRow_rd r_0
 obtain ⟨m3, A4, c5, rfl, q6, r7⟩ := rdS_op r2
 obtain ⟨v8, rfl, r9⟩ := tyRow_rd r_1
 obtain ⟨m10, A11, c12, rfl, q13, r14⟩ := rdS_op r9
 refine ce2 (L := [(0, .agg #[.int .i64 x0.Id, .slice A4 x0.Values.length c5]), (1, .agg #[.int .i64 x1.Id, .slice A11 x1.Values.length c12])]) (N := 17) func43 ?_
 refine sr ?_
 refine WM_box rfl (Wd_none rfl) (by decide) (fun p15 => ?_)
 refine WM_box rfl (Wd_none rfl) (by decide) (fun p16 => ?_)
 refine wa (nt' (sr ?_))
 refine wv (vf underlying26 rfl type3) ?_
 refine wv (vl 1 0 underlying3) ?_
 refine wv (vf underlying26 rfl type3) ?_
 refine wv (vl 0 0 underlying3) ?_
 refine wv (fun W hm => rv_eql rfl rfl) ?_
 refine wm ?_
 by_cases h17 : x0.Id = x1.Id
 ·have g18 := beq_iff_eq.2 h17
  refine wg (vf underlying26 rfl type24) g18 ?_
  refine wg (vl 1 1 underlying24) g18 ?_
  refine wg (vf underlying26 rfl type24) g18 ?_
  refine wg (vl 0 1 underlying24) g18 ?_
  refine WM_callV (cl_fn cb65 rfl) (fun W hm => spec_l2Ints_c W _ x0.Values _ x1.Values (hm.rdS0 r7) (hm.rdS0 r14)) (Wd_some rfl rfl rfl (bw g18 rfl)) (by decide) ?_
  refine wv (vpT g18) ?_
  refine wa (nt' (CM_ret ?_))
  exact rtb (h := cond_t g18 (rfl))
 ·have g18 := beq_eq_false_iff_ne.2 h17
  refine ws g18 ?_
  refine ws g18 ?_
  refine ws g18 ?_
  refine ws g18 ?_
  refine ws g18 ?_
  refine wv (vpF g18) ?_
  refine wa (nt' (CM_ret ?_))
  exact rtb (h := cond_f g18 (rfl))

def spec_EqualRows_b1 (x0 : (List DRow)) (x1 : (List DRow)) (k13 : Nat) : Bool ⊕ (Unit) :=
 cond (spec_l3Same_m (gt x0 k13) (gt x1 k13)) (Sum.inr ()) (Sum.inl false)
def spec_EqualRows_m (x0 : (List DRow)) (x1 : (List DRow)) : Bool :=
 cond (((x0.length : Nat) : Int) != ((x1.length : Nat) : Int)) false (Sum.elim id (fun (s : Unit) => true) (rng (R := Bool) (fun k (_ : Unit) => spec_EqualRows_b1 x0 x1 k) (x0.length - 0) 0 ()))
theorem cb18 : Cb Tryz.prog 18 := ⟨f18, _, func18, rfl, by decide⟩
theorem spec_EqualRows_c (w : World) (z0 : Value) (x0 : (List DRow)) (z1 : Value) (x1 : (List DRow)) (r_0 : rdS tyRow w w.heap.size z0 x0) (r_1 : rdS tyRow w w.heap.size z1 x1) :
  Calls Tryz.prog 18 #[z0, z1] w fun e w' => e = .returned (.bool (spec_EqualRows_m x0 x1)) ∧ Below w.heap.size w w' := by
 obtain ⟨m1, A2, c3, rfl, q4, r5⟩ := rdS_op r_0
 obtain ⟨m6, A7, c8, rfl, q9, r10⟩ := rdS_op r_1
 refine ce2 (L := [(0, .slice A2 x0.length c3), (1, .slice A7 x1.length c8)]) (N := 27) func18 ?_
 refine sr (wa (nt' (CM_seq (sr (wm ?_)))))
 refine wv (vlen underlying37) ?_
 refine wm ?_
 refine wv (vlen underlying37) ?_
 refine wv vneq ?_
 refine nt' ?_
 by_cases h11 : ((x0.length : Nat) : Int) = ((x1.length : Nat) : Int)
 ·have g12 : (((x0.length : Nat) : Int) != ((x1.length : Nat) : Int)) = false := by rw [h11]; exact bne_self_eq_false _
  refine CM_condF rfl g12 ?_
  refine CM_skip (QM_then (CM_seq (sr (wa (nt' (CM_block ?_))))))
  let F1 := fun k (_ : Unit) => spec_EqualRows_b1 x0 x1 k
  let R2 := rng (R := Bool) F1
  refine CM_loop (σ := Nat × (Unit) × (Unit)) (fun s => [(0, .slice A2 x0.length c3), (1, .slice A7 x1.length c8), (5, .int .i64 ((s.1 : Nat) : Int))]) (fun s => []) (fun s => s.1 ≤ x0.length ∧ R2 (x0.length - s.1) s.1 s.2.1 = R2 (x0.length - 0) 0 ()) (fun s => x0.length - s.1) (0, (), ()) sl3 (fun W hm => hm) ⟨(by omega), rfl⟩ ?_
  rintro ⟨k13, ⟨⟩, ⟨⟩⟩ H16
  obtain ⟨hk14, hF15⟩ : k13 ≤ x0.length ∧ R2 (x0.length - k13) k13 () = R2 (x0.length - 0) 0 () := H16
  show CM Tryz.prog 27 _ _ _ _ [(0, .slice A2 x0.length c3), (1, .slice A7 x1.length c8), (5, .int .i64 ((k13 : Nat) : Int))] []
  refine CM_seq (sr (wm (wm ?_)))
  refine wv (vlen underlying37) ?_
  refine wv vlss ?_
  refine nt' ?_
  by_cases hl17 : k13 < x0.length
  ·have g18 := dlT hl17
   refine CM_condT rfl g18 ?_
   refine CM_skip (QM_then (CM_seq (CM_block (CM_seq ?_))))
   refine CM_regionD (by kernel_rfl) (by kernel_rfl) ?_
   refine qm (qm ?_)
   obtain ⟨a19, rfl, hb20, he21⟩ := q4 (by omega)
   refine qv (vix 2 k13 underlying37 type26) ?_
   obtain ⟨_, e25, hc22⟩ := he21 k13 _ (gt_some (show k13 < x0.length from by omega))
   obtain ⟨v23, rfl, r24⟩ := tyRow_rd e25
   obtain ⟨m26, A27, c28, rfl, q29, r30⟩ := rdS_op r24
   refine qv (fun W hm => rv_loadN (cs := [.int .i64 ((gt x0 k13).Id), .slice A27 ((gt x0 k13).Values).length c28]) underlying26 type26 rfl rfl (hm.elCells (show (a19.add (k13 * 2)).block < w.heap.size from by rw [add_block]; exact hb20.1) hc22)) ?_
   refine qm (qm ?_)
   obtain ⟨a31, rfl, hb32, he33⟩ := q9 (by omega)
   refine qv (vix 2 k13 underlying37 type26) ?_
   obtain ⟨_, e37, hc34⟩ := he33 k13 _ (gt_some (show k13 < x1.length from by omega))
   obtain ⟨v35, rfl, r36⟩ := tyRow_rd e37
   obtain ⟨m38, A39, c40, rfl, q41, r42⟩ := rdS_op r36
   refine qv (fun W hm => rv_loadN (cs := [.int .i64 ((gt x1 k13).Id), .slice A39 ((gt x1 k13).Values).length c40]) underlying26 type26 rfl rfl (hm.elCells (show (a31.add (k13 * 2)).block < w.heap.size from by rw [add_block]; exact hb32.1) hc34)) ?_
   refine QR_callV (cl_fn cb43 rfl) (fun W hm => spec_l3Same_c W _ (gt x0 k13) _ (gt x1 k13) (tyRow_mk (x := (gt x0 k13)) (hm.rdS0 r30)) (tyRow_mk (x := (gt x1 k13)) (hm.rdS0 r42))) (Wd_none rfl) (by decide) ?_
   refine qv vnot ?_
   refine nq' ?_
   rcases Bool.eq_false_or_eq_true (spec_l3Same_m (gt x0 k13) (gt x1 k13)) with g44 | g44
   ·
    refine CM_condF rfl (nt g44) ?_
    refine CM_skip (QM_block_normal (QM_then (CM_region (wm ?_))))
    refine wv (vadN k13 1 (by omega)) ?_
    refine wa (WM_nil ?_)
    have hn45 := rng_next (R := Bool) (body := F1) (k := k13) (s := ()) (s' := ()) (show k13 < x0.length from by omega) (cond_t g44 (rfl)) hF15
    exact QM_round (k13 + 1, (), ()) sl3 (fun W hm => hm) ⟨(by omega), hn45⟩ (rl (by omega))
   ·
    refine CM_condT rfl (nf g44) ?_
    refine sr (wa (nt' (CM_ret (QM_block_ret (QM_then_ret (QM_then_ret (QM_block_ret (QM_then_ret ?_))))))))
    exact rtb (h := cond_f g12 (fin_inl (rng_ret (body := F1) (k := k13) (s := ()) (show k13 < x0.length from by omega) (cond_f g44 (rfl)) hF15) rfl))
  ·have g18 := dlF hl17
   refine CM_condF rfl g18 ?_
   refine CM_exit (QM_then_exit (QM_then_exit ?_))
   have hE46 : R2 (x0.length - 0) 0 () = Sum.inr () := rng_end hl17 hF15
   refine QM_block_hit (QM_then (sr (wa (nt' (CM_ret ?_)))))
   exact rtb (h := cond_f g12 (fin_inr hE46 (rfl)))
 ·have g12 : (((x0.length : Nat) : Int) != ((x1.length : Nat) : Int)) = true := bne_iff_ne.2 h11
  refine CM_condT rfl g12 ?_
  refine sr (wa (nt' (CM_ret (QM_then_ret ?_))))
  exact rtb (h := cond_t g12 (rfl))

def impl_allRows_b1 (x0 : (List DRow)) (k6 : Nat) : Bool ⊕ (Unit) :=
 cond (impl_IsRow_m (gt x0 k6)) (Sum.inr ()) (Sum.inl false)
def impl_allRows_m (x0 : (List DRow)) : Bool :=
 Sum.elim id (fun (s : Unit) => true) (rng (R := Bool) (fun k (_ : Unit) => impl_allRows_b1 x0 k) (x0.length - 0) 0 ())
theorem cb44 : Cb Tryz.prog 44 := ⟨f44, _, func44, rfl, by decide⟩
theorem impl_allRows_c (w : World) (z0 : Value) (x0 : (List DRow)) (r_0 : rdS tyRow w w.heap.size z0 x0) :
  Calls Tryz.prog 44 #[z0] w fun e w' => e = .returned (.bool (impl_allRows_m x0)) ∧ Below w.heap.size w w' := by
 obtain ⟨m1, A2, c3, rfl, q4, r5⟩ := rdS_op r_0
 refine ce1 (L := [(0, .slice A2 x0.length c3)]) (N := 15) func44 ?_
 refine sr (wa (nt' (CM_seq (sr (wm ?_)))))
 refine wv (vlen underlying37) ?_
 refine wm (nt' (CM_block ?_))
 let F1 := fun k (_ : Unit) => impl_allRows_b1 x0 k
 let R2 := rng (R := Bool) F1
 refine CM_loop (σ := Nat × (Unit) × (Unit)) (fun s => [(5, .slice A2 x0.length c3), (6, .int .i64 ((x0.length : Nat) : Int)), (7, .int .i64 ((s.1 : Nat) : Int))]) (fun s => []) (fun s => s.1 ≤ x0.length ∧ R2 (x0.length - s.1) s.1 s.2.1 = R2 (x0.length - 0) 0 ()) (fun s => x0.length - s.1) (0, (), ()) sl3 (fun W hm => hm) ⟨(by omega), rfl⟩ ?_
 rintro ⟨k6, ⟨⟩, ⟨⟩⟩ H9
 obtain ⟨hk7, hF8⟩ : k6 ≤ x0.length ∧ R2 (x0.length - k6) k6 () = R2 (x0.length - 0) 0 () := H9
 show CM Tryz.prog 15 _ _ _ _ [(5, .slice A2 x0.length c3), (6, .int .i64 ((x0.length : Nat) : Int)), (7, .int .i64 ((k6 : Nat) : Int))] []
 refine sr ?_
 refine wv vlss ?_
 refine nt' (CM_seq ?_)
 by_cases hl10 : k6 < x0.length
 ·have g11 := dlT hl10
  refine CM_condT rfl g11 ?_
  refine CM_skip (QM_then (CM_seq (CM_block (sr ?_))))
  obtain ⟨a12, rfl, hb13, he14⟩ := q4 (by omega)
  refine wv (vix 2 k6 underlying37 type26) ?_
  obtain ⟨_, e18, hc15⟩ := he14 k6 _ (gt_some (show k6 < x0.length from by omega))
  obtain ⟨v16, rfl, r17⟩ := tyRow_rd e18
  obtain ⟨m19, A20, c21, rfl, q22, r23⟩ := rdS_op r17
  let K3 : List Value := [.int .i64 ((gt x0 k6).Id), .slice A20 ((gt x0 k6).Values).length c21]
  refine wv (fun W hm => rv_loadN (cs := K3) underlying26 type26 rfl rfl (hm.elCells (show (a12.add (k6 * 2)).block < w.heap.size from by rw [add_block]; exact hb13.1) hc15)) ?_
  refine WM_alloc type26 rfl (Wd_none rfl) (by decide) (fun p24 => ?_)
  refine sb 0 K3 [] (fun W hm => hm) type26 ?_
  refine nt' (sr ?_)
  refine wv (fun W hm => rv_loadN (cs := K3) underlying26 type26 rfl rfl (hm.boxCells (n := 0) rfl)) ?_
  refine wcv (cl_fn cb25 rfl) (fun W hm => impl_IsRow_c W _ (gt x0 k6) (tyRow_mk (x := (gt x0 k6)) (hm.rdS0 r23))) ?_
  refine wv vnot ?_
  refine nt' ?_
  rcases Bool.eq_false_or_eq_true (impl_IsRow_m (gt x0 k6)) with g26 | g26
  ·
   refine CM_condF rfl (nt g26) ?_
   refine CM_skip (QM_block_normal (QM_then (CM_region ?_)))
   refine wv (vadN k6 1 (by omega)) ?_
   refine wm (WM_nil ?_)
   have hn27 := rng_next (R := Bool) (body := F1) (k := k6) (s := ()) (s' := ()) (show k6 < x0.length from by omega) (cond_t g26 (rfl)) hF8
   exact QM_round (k6 + 1, (), ()) sl3 (pk []) ⟨(by omega), hn27⟩ (rl (by omega))
  ·
   refine CM_condT rfl (nf g26) ?_
   refine sr (wa (nt' (CM_ret (QM_block_ret (QM_then_ret (QM_then_ret (QM_block_ret (QM_then_ret ?_))))))))
   exact rtb (h := fin_inl (rng_ret (body := F1) (k := k6) (s := ()) (show k6 < x0.length from by omega) (cond_f g26 (rfl)) hF8) rfl)
 ·have g11 := dlF hl10
  refine CM_condF rfl g11 ?_
  refine CM_exit (QM_then_exit (QM_then_exit ?_))
  have hE28 : R2 (x0.length - 0) 0 () = Sum.inr () := rng_end hl10 hF8
  refine QM_block_hit (QM_then (sr (wa (nt' (CM_ret ?_)))))
  exact rtb (h := fin_inr hE28 (rfl))

def impl_AreRows_b1 (x0 : (List DRow)) (k6 : Nat) : Bool ⊕ (Unit) :=
 cond (decide (0 < ((k6 : Nat) : Int))) (cond (decide (((gt x0 k6).Id) ≤ ((gt x0 (k6 - 1)).Id))) (Sum.inl false) (Sum.inr ())) (Sum.inr ())
def impl_AreRows_m (x0 : (List DRow)) : Bool :=
 Sum.elim id (fun (s : Unit) => cond (decide (((x0.length : Nat) : Int) ≤ 32)) (impl_allRows_m x0) false) (rng (R := Bool) (fun k (_ : Unit) => impl_AreRows_b1 x0 k) (x0.length - 0) 0 ())
theorem cb19 : Cb Tryz.prog 19 := ⟨f19, _, func19, rfl, by decide⟩
theorem impl_AreRows_c (w : World) (z0 : Value) (x0 : (List DRow)) (r_0 : rdS tyRow w w.heap.size z0 x0) :
  Calls Tryz.prog 19 #[z0] w fun e w' => e = .returned (.bool (impl_AreRows_m x0)) ∧ Below w.heap.size w w' := by
 obtain ⟨m1, A2, c3, rfl, q4, r5⟩ := rdS_op r_0
 refine ce1 (L := [(0, .slice A2 x0.length c3)]) (N := 33) func19 ?_
 refine sr (wa (nt' (CM_seq (sr (wm ?_)))))
 refine wv (vlen underlying37) ?_
 refine wm (nt' (CM_block ?_))
 let F1 := fun k (_ : Unit) => impl_AreRows_b1 x0 k
 let R2 := rng (R := Bool) F1
 refine CM_loop (σ := Nat × (Unit) × (Unit)) (fun s => [(0, .slice A2 x0.length c3), (5, .slice A2 x0.length c3), (6, .int .i64 ((x0.length : Nat) : Int)), (7, .int .i64 ((s.1 : Nat) : Int))]) (fun s => []) (fun s => s.1 ≤ x0.length ∧ R2 (x0.length - s.1) s.1 s.2.1 = R2 (x0.length - 0) 0 ()) (fun s => x0.length - s.1) (0, (), ()) sl4 (fun W hm => hm) ⟨(by omega), rfl⟩ ?_
 rintro ⟨k6, ⟨⟩, ⟨⟩⟩ H9
 obtain ⟨hk7, hF8⟩ : k6 ≤ x0.length ∧ R2 (x0.length - k6) k6 () = R2 (x0.length - 0) 0 () := H9
 show CM Tryz.prog 33 _ _ _ _ [(0, .slice A2 x0.length c3), (5, .slice A2 x0.length c3), (6, .int .i64 ((x0.length : Nat) : Int)), (7, .int .i64 ((k6 : Nat) : Int))] []
 refine sr ?_
 refine wv vlss ?_
 refine nt' (CM_seq ?_)
 by_cases hl10 : k6 < x0.length
 ·have g11 := dlT hl10
  refine CM_condT rfl g11 ?_
  refine CM_skip (QM_then (CM_seq (CM_block (sr (wm ?_)))))
  obtain ⟨a12, rfl, hb13, he14⟩ := q4 (by omega)
  refine wv (vix 2 k6 underlying37 type26) ?_
  obtain ⟨_, e18, hc15⟩ := he14 k6 _ (gt_some (show k6 < x0.length from by omega))
  obtain ⟨v16, rfl, r17⟩ := tyRow_rd e18
  obtain ⟨m19, A20, c21, rfl, q22, r23⟩ := rdS_op r17
  let K3 : List Value := [.int .i64 ((gt x0 k6).Id), .slice A20 ((gt x0 k6).Values).length c21]
  refine wv (fun W hm => rv_loadN (cs := K3) underlying26 type26 rfl rfl (hm.elCells (show (a12.add (k6 * 2)).block < w.heap.size from by rw [add_block]; exact hb13.1) hc15)) ?_
  refine WM_alloc type26 rfl (Wd_none rfl) (by decide) (fun p24 => ?_)
  refine wa ?_
  refine sb 0 K3 [] (fun W hm => hm) type26 ?_
  refine nt' (CM_seq ?_)
  refine CM_regionD (by kernel_rfl) (by kernel_rfl) ?_
  refine qm ?_
  refine qv (fun W hm => rv_gtr rfl rfl) ?_
  refine qm ?_
  by_cases h25 : 0 < ((k6 : Nat) : Int)
  ·have g26 := decide_eq_true h25
   refine qg vmv g26 ?_
   refine qg vmv g26 ?_
   refine qg (fun W hm => rv_subN (p := k6) (q := 1) rfl rfl (by omega) (by omega)) g26 ?_
   refine qg (fun W hm => rv_index (sz := 2) (k := k6 - 1) underlying37 type26 rfl rfl rfl (by omega)) g26 ?_
   refine qg (vf underlying26 rfl type3) g26 ?_
   obtain ⟨_, e30, hc27⟩ := he14 (k6 - 1) _ (gt_some (show (k6 - 1) < x0.length from by omega))
   obtain ⟨v28, rfl, r29⟩ := tyRow_rd e30
   obtain ⟨m31, A32, c33, rfl, q34, r35⟩ := rdS_op r29
   refine qg (fun W hm => rv_load underlying3 rfl rfl ((hm.cell0 (show ((a12.add ((k6 - 1) * 2)).add 0).block < w.heap.size from by rw [add_block, add_block]; exact hb13.1)).trans (hc27 0 _ rfl))) g26 ?_
   refine qg (vf underlying26 rfl type3) g26 ?_
   refine qg (vl 0 0 underlying3) g26 ?_
   refine qg (fun W hm => rv_geq rfl rfl) g26 ?_
   refine qv (vpT g26) ?_
   refine nq' ?_
   by_cases h36 : ((gt x0 k6).Id) ≤ ((gt x0 (k6 - 1)).Id)
   ·have g37 := decide_eq_true h36
    refine CM_condT rfl g37 ?_
    refine sr (wa (nt' (CM_ret (QM_block_ret (QM_then_ret (QM_then_ret (QM_block_ret (QM_then_ret ?_))))))))
    exact rtb (h := fin_inl (rng_ret (body := F1) (k := k6) (s := ()) (show k6 < x0.length from by omega) (cond_t g26 (cond_t g37 (rfl))) hF8) rfl)
   ·have g37 := decide_eq_false h36
    refine CM_condF rfl g37 ?_
    refine CM_skip (QM_block_normal (QM_then (CM_region ?_)))
    refine wv (vadN k6 1 (by omega)) ?_
    refine wm (WM_nil ?_)
    have hn38 := rng_next (R := Bool) (body := F1) (k := k6) (s := ()) (s' := ()) (show k6 < x0.length from by omega) (cond_t g26 (cond_f g37 (rfl))) hF8
    exact QM_round (k6 + 1, (), ()) sl4 (pk []) ⟨(by omega), hn38⟩ (rl (by omega))
  ·have g26 := decide_eq_false h25
   refine qs g26 ?_
   refine qs g26 ?_
   refine qs g26 ?_
   refine qs g26 ?_
   refine qs g26 ?_
   refine qs g26 ?_
   refine qs g26 ?_
   refine qs g26 ?_
   refine qs g26 ?_
   refine qv (vpF g26) ?_
   refine nq' ?_
   refine CM_condF rfl rfl ?_
   refine CM_skip (QM_block_normal (QM_then (CM_region ?_)))
   refine wv (vadN k6 1 (by omega)) ?_
   refine wm (WM_nil ?_)
   have hn39 := rng_next (R := Bool) (body := F1) (k := k6) (s := ()) (s' := ()) (show k6 < x0.length from by omega) (cond_f g26 (rfl)) hF8
   exact QM_round (k6 + 1, (), ()) sl4 (pk []) ⟨(by omega), hn39⟩ (rl (by omega))
 ·have g11 := dlF hl10
  refine CM_condF rfl g11 ?_
  refine CM_exit (QM_then_exit (QM_then_exit ?_))
  have hE40 : R2 (x0.length - 0) 0 () = Sum.inr () := rng_end hl10 hF8
  refine QM_block_hit (QM_then (sr (wm ?_)))
  refine wv (vlen underlying37) ?_
  refine wv (fun W hm => rv_leq rfl rfl) ?_
  refine wm ?_
  by_cases h41 : ((x0.length : Nat) : Int) ≤ 32
  ·have g42 := decide_eq_true h41
   refine wg vmv g42 ?_
   refine WM_callV (cl_fn cb44 rfl) (fun W hm => impl_allRows_c W _ x0 (hm.rdS0 r5)) (Wd_some rfl rfl rfl (bw g42 rfl)) (by decide) ?_
   refine wv (vpT g42) ?_
   refine wa (nt' (CM_ret ?_))
   exact rtb (h := fin_inr hE40 (cond_t g42 (rfl)))
  ·have g42 := decide_eq_false h41
   refine ws g42 ?_
   refine ws g42 ?_
   refine wv (vpF g42) ?_
   refine wa (nt' (CM_ret ?_))
   exact rtb (h := fin_inr hE40 (cond_f g42 (rfl)))

def impl_copyInts_m (x0 : (List Int)) : (List Int) :=
 x0
theorem cb85 : Cb Tryz.prog 85 := ⟨f85, _, func85, rfl, by decide⟩
theorem impl_copyInts_c (w : World) (z0 : Value) (x0 : (List Int)) (r_0 : rdS tInt w w.heap.size z0 x0) (s_0 : x0.length ≤ 68719476736) :
  Calls Tryz.prog 85 #[z0] w fun e w' => ∃ v : Value, e = .returned (v) ∧ Mem w.heap.size w [iOwn (tSl tInt 3) [v] (impl_copyInts_m x0)] w' := by
 obtain ⟨m1, A2, c3, rfl, q4, r5⟩ := rdS_op r_0
 have l6 : x0.length ≤ 68719476736 := s_0
 refine ce1 (L := [(0, .slice A2 x0.length c3)]) (N := 6) func85 ?_
 refine sr (wa (nt' (sr ?_)))
 refine WM_build0 (E := tInt) underlying24 type3 (Wd_none rfl) (by decide) (fun p7 => ?_)
 refine wm ?_
 refine apR tInt tInt 3 (.slice (some ⟨p7, 0, none⟩) 0 0) [] x0 [] (fun W hm => hm) (fun W hm => src_flat flat_int (hm.rdS0 r5)) underlying24 type3 (show (0 + x0.length) * 8 ≤ 140737488355328 from by omega) (fun v9 => ?_)
 refine WM_form (n := 0) rfl ?_
 rintro A10 c11 rfl m12
 refine wa (nt' (CM_ret ?_))
 have he14 := (show impl_copyInts_m x0 = x0 from rfl)
 refine QM_r1 rfl (RR_tmp rfl) (fun W hm => ⟨.slice A10 x0.length c11, ?_, ?_⟩)
 ·first | rw [he14] | rfl
 ·rw [he14]; exact hm
theorem impl_copyInts_eq (x0 : (List Int)) : impl_copyInts_m x0 = x0 := by
 rfl
theorem impl_copyInts_c2 (w : World) (z0 : Value) (x0 : (List Int)) (r_0 : rdS tInt w w.heap.size z0 x0) (s_0 : x0.length ≤ 68719476736) :
  Calls Tryz.prog 85 #[z0] w fun e w' => ∃ v : Value, e = .returned (v) ∧ Mem w.heap.size w [iOwn (tSl tInt 3) [v] x0] w' := by
 have h := impl_copyInts_c w z0 x0 r_0 s_0
 rw [impl_copyInts_eq] at h
 exact h

def impl_copyRow_m (x0 : DRow) : DRow :=
 x0
theorem cb66 : Cb Tryz.prog 66 := ⟨f66, _, func66, rfl, by decide⟩
theorem impl_copyRow_c (w : World) (z0 : List Value) (x0 : DRow) (r_0 : tyRow.rd w w.heap.size z0 x0) (s_0 : smRow 68719476736 x0) :
  Calls Tryz.prog 66 #[.agg z0.toArray] w fun e w' => ∃ v : List Value, e = .returned (.agg v.toArray) ∧ Mem w.heap.size w [iOwn tyRow v (impl_copyRow_m x0)] w' := by
 obtain ⟨v1, rfl, r2⟩ := tyRow_rd r_0
 obtain ⟨m3, A4, c5, rfl, q6, r7⟩ := rdS_op r2
 have l8 : x0.Values.length ≤ 68719476736 := s_0
 refine ce1 (L := [(0, .agg #[.int .i64 x0.Id, .slice A4 x0.Values.length c5])]) (N := 9) func66 ?_
 refine sr ?_
 refine WM_box rfl (Wd_none rfl) (by decide) (fun p9 => ?_)
 refine WM_alloc type26 rfl (Wd_none rfl) (by decide) (fun p10 => ?_)
 refine nt' (CM_seq ?_)
 let I1 : It := iBox p9 26 [.int .i64 x0.Id, .slice A4 x0.Values.length c5]
 refine rd2 7 [6] (s := [I1]) (s2 := [iBox p10 26 [.int .i64 0, .slice none 0 0], I1]) (pk [1]) (fun W hm => hm) ?_
 refine qtD 7 0 1 rfl (vf underlying26 rfl type3) ?_
 refine qtD 7 1 3 rfl (vl 1 0 underlying3) ?_
 refine qtD 7 2 7 rfl (vf underlying26 rfl type24) ?_
 refine qtD 7 3 15 rfl (vl 1 1 underlying24) ?_
 refine qoD 7 4 31 rfl ?_
 refine wcl (tSl tInt 3) x0.Values (cl_fn cb85 rfl) (fun W hm => impl_copyInts_c2 W _ x0.Values (hm.rdS0 r7) s_0) (fun z11 => ?_)
 refine WM_form (n := 0) rfl ?_
 rintro A12 c13 rfl m14
 refine qnD (pk [2]) (pk [1, 2]) ?_
 refine qtD 7 5 63 rfl (fun W hm => rv_build (cs := [.int .i64 x0.Id, .slice A12 x0.Values.length c13]) rfl (by kernel_rfl)) ?_
 refine qoD 7 6 127 rfl ?_
 let I2 : It := iOwn (tSl tInt 3) [.slice A12 x0.Values.length c13] x0.Values
 refine sb 0 [.int .i64 x0.Id, .slice A12 x0.Values.length c13] [I2, I1] (pk [1, 0, 2]) type26 ?_
 refine qxD (pk [2]) ?_
 refine QB_done (by kernel_rfl) ?_
 refine QM_then (CM_ret ?_)
 have he16 := (show impl_copyRow_m x0 = x0 from rfl)
 refine QM_r1 rfl (RR_cell (n := 0) rfl rfl underlying26 type26 rfl) (fun W hm => ⟨[.int .i64 x0.Id, .slice A12 x0.Values.length c13], ?_, ?_⟩)
 ·first | rw [he16] | rfl
 ·rw [he16]; exact Mem.join (is := [I2]) (js := []) (fun _ _ hs => tyRow_join (x := x0) hs) (hm.pick [1] (by decide))
theorem impl_copyRow_eq (x0 : DRow) : impl_copyRow_m x0 = x0 := by
 rfl
theorem impl_copyRow_c2 (w : World) (z0 : List Value) (x0 : DRow) (r_0 : tyRow.rd w w.heap.size z0 x0) (s_0 : smRow 68719476736 x0) :
  Calls Tryz.prog 66 #[.agg z0.toArray] w fun e w' => ∃ v : List Value, e = .returned (.agg v.toArray) ∧ Mem w.heap.size w [iOwn tyRow v x0] w' := by
 have h := impl_copyRow_c w z0 x0 r_0 s_0
 rw [impl_copyRow_eq] at h
 exact h

def impl_copyRows_b1 (x0 : (List DRow)) (k9 : Nat) (d10 : (List DRow)) : (List DRow) ⊕ ((List DRow)) :=
 Sum.inr (d10 ++ [(gt x0 k9)])
def impl_copyRows_m (x0 : (List DRow)) : (List DRow) :=
 Sum.elim id (fun (s : (List DRow)) => s) (rng (R := (List DRow)) (fun k (s : (List DRow)) => impl_copyRows_b1 x0 k s) (x0.length - 0) 0 [])
theorem cb45 : Cb Tryz.prog 45 := ⟨f45, _, func45, rfl, by decide⟩
theorem impl_copyRows_c (w : World) (z0 : Value) (x0 : (List DRow)) (r_0 : rdS tyRow w w.heap.size z0 x0) (s_0 : (x0.length ≤ 68719476736 ∧ ∀ y ∈ x0, smRow 68719476736 y)) :
  Calls Tryz.prog 45 #[z0] w fun e w' => ∃ v : Value, e = .returned (v) ∧ Mem w.heap.size w [iOwn (tSl tyRow 26) [v] (impl_copyRows_m x0)] w' := by
 obtain ⟨m1, A2, c3, rfl, q4, r5⟩ := rdS_op r_0
 have l6 : x0.length ≤ 68719476736 := s_0.1
 refine ce1 (L := [(0, .slice A2 x0.length c3)]) (N := 20) func45 ?_
 refine sr (wa (nt' (sr ?_)))
 refine WM_build0 (E := tyRow) underlying37 type26 (Wd_none rfl) (by decide) (fun p7 => ?_)
 refine wa (nt' (CM_seq (sr (wm ?_))))
 refine wv (vlen underlying37) ?_
 refine wm (nt' (CM_block ?_))
 let F1 := fun k (s : (List DRow)) => impl_copyRows_b1 x0 k s
 let R2 := rng (R := (List DRow)) F1
 refine CM_loop (σ := Nat × ((List DRow)) × (Option Addr × Nat)) (fun s => [(3, .slice s.2.2.1 s.2.1.length s.2.2.2), (7, .slice A2 x0.length c3), (8, .int .i64 ((x0.length : Nat) : Int)), (9, .int .i64 ((s.1 : Nat) : Int))]) (fun s => [iOwn (tSl tyRow 26) [.slice s.2.2.1 s.2.1.length s.2.2.2] s.2.1]) (fun s => s.1 ≤ x0.length ∧ R2 (x0.length - s.1) s.1 s.2.1 = R2 (x0.length - 0) 0 [] ∧ s.2.1.length ≤ 0 + s.1) (fun s => x0.length - s.1) (0, [], ((some ⟨p7, 0, none⟩), 0)) sl4 (fun W hm => hm) ⟨(by omega), rfl, Nat.le_refl _⟩ ?_
 rintro ⟨k9, d10, ⟨A11, c12⟩⟩ H15
 obtain ⟨hk13, hF14, hi16⟩ : k9 ≤ x0.length ∧ R2 (x0.length - k9) k9 d10 = R2 (x0.length - 0) 0 [] ∧ d10.length ≤ 0 + k9 := H15
 let I5 : It := iOwn (tSl tyRow 26) [.slice A11 d10.length c12] d10
 show CM Tryz.prog 20 _ _ _ _ [(3, .slice A11 d10.length c12), (7, .slice A2 x0.length c3), (8, .int .i64 ((x0.length : Nat) : Int)), (9, .int .i64 ((k9 : Nat) : Int))] [I5]
 refine sr ?_
 refine wv vlss ?_
 refine nt' (CM_seq ?_)
 by_cases hl17 : k9 < x0.length
 ·have g18 := dlT hl17
  refine CM_condT rfl g18 ?_
  refine CM_skip (QM_then (CM_seq (CM_block (sr ?_))))
  obtain ⟨a19, rfl, hb20, he21⟩ := q4 (by omega)
  refine wv (vix 2 k9 underlying37 type26) ?_
  obtain ⟨_, e25, hc22⟩ := he21 k9 _ (gt_some (show k9 < x0.length from by omega))
  obtain ⟨v23, rfl, r24⟩ := tyRow_rd e25
  have l26 : ((gt x0 k9).Values).length ≤ 68719476736 := (s_0.2 _ (gt_mem (show k9 < x0.length from by omega)))
  obtain ⟨m27, A28, c29, rfl, q30, r31⟩ := rdS_op r24
  let K3 : List Value := [.int .i64 ((gt x0 k9).Id), .slice A28 ((gt x0 k9).Values).length c29]
  refine wv (fun W hm => rv_loadN (cs := K3) underlying26 type26 rfl rfl (hm.elCells (show (a19.add (k9 * 2)).block < w.heap.size from by rw [add_block]; exact hb20.1) hc22)) ?_
  refine WM_alloc type26 rfl (Wd_none rfl) (by decide) (fun p32 => ?_)
  refine sb 0 K3 [I5] (fun W hm => hm) type26 ?_
  refine nt' (CM_region (wm ?_))
  refine wv (fun W hm => rv_loadN (cs := K3) underlying26 type26 rfl rfl (hm.boxCells (n := 0) rfl)) ?_
  refine wcs tyRow (gt x0 k9) (cl_fn cb66 rfl) (fun W hm => impl_copyRow_c2 W _ (gt x0 k9) (tyRow_mk (x := (gt x0 k9)) (hm.rdS0 r31)) (s_0.2 _ (gt_mem (show k9 < x0.length from by omega)))) (fun z33 => ?_)
  refine tyRow_sp ?_
  rintro v34 rfl
  refine WM_form (n := 0) rfl ?_
  rintro A35 c36 rfl m37
  let K4 : List Value := [.int .i64 ((gt x0 k9).Id), .slice A35 ((gt x0 k9).Values).length c36]
  refine WM_build (cs := K4) underlying37 type26 rfl (by decide) (by decide) rfl (by kernel_rfl) (Wd_none rfl) (by decide) (fun p39 => ?_)
  refine ap1 tyRow 26 (.slice A11 d10.length c12) d10 (gt x0 k9) [iOwn (tSl tInt 3) [.slice A35 ((gt x0 k9).Values).length c36] ((gt x0 k9).Values)] [iBox p32 26 K3] K4 (pk [0, 3, 1, 2]) (fun _ _ hs => Els.single (tyRow_join (x := (gt x0 k9)) hs)) underlying37 type26 (show (d10.length + 1) * 32 ≤ 140737488355328 from by omega) (fun v40 => ?_)
  refine WM_form (n := 0) rfl ?_
  rintro A41 c42 rfl m43
  refine wa (WM_nil (QM_block_normal (QM_then (CM_region ?_))))
  refine wv (vadN k9 1 (by omega)) ?_
  refine wm (WM_nil ?_)
  have hn45 := rng_next (R := (List DRow)) (body := F1) (k := k9) (s := d10) (s' := (d10 ++ [(gt x0 k9)])) (show k9 < x0.length from by omega) (rfl) hF14
  exact QM_round (k9 + 1, (d10 ++ [(gt x0 k9)]), (A41, c42)) sl4 (pk [0]) ⟨(by omega), hn45, (show (d10 ++ [(gt x0 k9)]).length ≤ 0 + (k9 + 1) from by first | omega | (simp only [List.length_append, List.length_cons, List.length_nil] at *; omega))⟩ (rl (by omega))
 ·have g18 := dlF hl17
  refine CM_condF rfl g18 ?_
  refine CM_exit (QM_then_exit (QM_then_exit ?_))
  have hE46 : R2 (x0.length - 0) 0 [] = Sum.inr d10 := rng_end hl17 hF14
  refine QM_block_hit (QM_then (sr (wm (wa (nt' (CM_ret ?_))))))
  have he47 := (show impl_copyRows_m x0 = d10 from fin_inr hE46 (rfl))
  refine QM_r1 rfl (RR_tmp rfl) (fun W hm => ⟨.slice A11 d10.length c12, ?_, ?_⟩)
  ·first | rw [he47] | rfl
  ·rw [he47]; exact hm
theorem impl_copyRows_eq (x0 : (List DRow)) : impl_copyRows_m x0 = x0 := by
 unfold impl_copyRows_m; rw [rng_app (xs := x0) (b := fun k s => impl_copyRows_b1 x0 k s) (fun _ _ => rfl)]; rfl
theorem impl_copyRows_c2 (w : World) (z0 : Value) (x0 : (List DRow)) (r_0 : rdS tyRow w w.heap.size z0 x0) (s_0 : (x0.length ≤ 68719476736 ∧ ∀ y ∈ x0, smRow 68719476736 y)) :
  Calls Tryz.prog 45 #[z0] w fun e w' => ∃ v : Value, e = .returned (v) ∧ Mem w.heap.size w [iOwn (tSl tyRow 26) [v] x0] w' := by
 have h := impl_copyRows_c w z0 x0 r_0 s_0
 rw [impl_copyRows_eq] at h
 exact h

def cmp_isNaN_int_m (x0 : Int) : Bool :=
 (x0 != x0)
theorem cb88 : Cb Tryz.prog 88 := ⟨f88, _, func88, rfl, by decide⟩
theorem cmp_isNaN_int_c (w : World) (x0 : Int) :
  Calls Tryz.prog 88 #[.int .i64 x0] w fun e w' => e = .returned (.bool (cmp_isNaN_int_m x0)) ∧ Below w.heap.size w w' := by
 refine ce1 (L := [(0, .int .i64 x0)]) (N := 6) func88 ?_
 refine sr (wa (nt' (sr (wm (wm ?_)))))
 refine wv vneq ?_
 refine wa (nt' (CM_ret ?_))
 exact rtb (h := rfl)

def cmp_Compare_int_m (x0 : Int) (x1 : Int) : Int :=
 cond (cmp_isNaN_int_m x0) (cond (cmp_isNaN_int_m x1) 0 (-1)) (cond (cmp_isNaN_int_m x1) 1 (cond (decide (x0 < x1)) (-1) (cond (decide (x1 < x0)) 1 0)))
theorem cb68 : Cb Tryz.prog 68 := ⟨f68, _, func68, rfl, by decide⟩
theorem cmp_Compare_int_c (w : World) (x0 : Int) (x1 : Int) :
  Calls Tryz.prog 68 #[.int .i64 x0, .int .i64 x1] w fun e w' => e = .returned (.int .i64 (cmp_Compare_int_m x0 x1)) ∧ Below w.heap.size w w' := by
 refine ce2 (L := [(0, .int .i64 x0), (1, .int .i64 x1)]) (N := 20) func68 ?_
 refine sr (wa (nt' (sr (wm ?_))))
 refine wcv (cl_fn cb88 rfl) (fun W hm => cmp_isNaN_int_c W x0) ?_
 refine wa (nt' (sr (wm ?_)))
 refine wcv (cl_fn cb88 rfl) (fun W hm => cmp_isNaN_int_c W x1) ?_
 refine wa (nt' (CM_seq (sr (wm (nt' ?_)))))
 rcases Bool.eq_false_or_eq_true (cmp_isNaN_int_m x0) with g2 | g2
 ·
  refine CM_condT rfl g2 ?_
  refine CM_seq (sr (wm (nt' ?_)))
  rcases Bool.eq_false_or_eq_true (cmp_isNaN_int_m x1) with g4 | g4
  ·
   refine CM_condT rfl g4 ?_
   refine sr (wa (nt' (CM_ret (QM_then_ret (QM_then_ret ?_)))))
   exact rti (h := cond_t g2 (cond_t g4 (rfl)))
  ·
   refine CM_condF rfl g4 ?_
   refine CM_skip (QM_then (sr (wa (nt' (CM_ret (QM_then_ret ?_))))))
   exact rti (h := cond_t g2 (cond_f g4 (rfl)))
 ·
  refine CM_condF rfl g2 ?_
  refine CM_skip (QM_then (CM_seq (sr (wm (nt' ?_)))))
  rcases Bool.eq_false_or_eq_true (cmp_isNaN_int_m x1) with g6 | g6
  ·
   refine CM_condT rfl g6 ?_
   refine sr (wa (nt' (CM_ret (QM_then_ret ?_))))
   exact rti (h := cond_f g2 (cond_t g6 (rfl)))
  ·
   refine CM_condF rfl g6 ?_
   refine CM_skip (QM_then (CM_seq (sr (wm (wm ?_)))))
   refine wv vlss ?_
   refine nt' ?_
   by_cases h7 : x0 < x1
   ·have g8 := decide_eq_true h7
    refine CM_condT rfl g8 ?_
    refine sr (wa (nt' (CM_ret (QM_then_ret ?_))))
    exact rti (h := cond_f g2 (cond_f g6 (cond_t g8 (rfl))))
   ·have g8 := decide_eq_false h7
    refine CM_condF rfl g8 ?_
    refine CM_skip (QM_then (CM_seq (sr (wm (wm ?_)))))
    refine wv (fun W hm => rv_gtr rfl rfl) ?_
    refine nt' ?_
    by_cases h9 : x1 < x0
    ·have g10 := decide_eq_true h9
     refine CM_condT rfl g10 ?_
     refine sr (wa (nt' (CM_ret (QM_then_ret ?_))))
     exact rti (h := cond_f g2 (cond_f g6 (cond_f g8 (cond_t g10 (rfl)))))
    ·have g10 := decide_eq_false h9
     refine CM_condF rfl g10 ?_
     refine CM_skip (QM_then (sr (wa (nt' (CM_ret ?_)))))
     exact rti (h := cond_f g2 (cond_f g6 (cond_f g8 (cond_f g10 (rfl)))))

def slices_Compare_int_b1 (x0 : (List Int)) (x1 : (List Int)) (k11 : Nat) : Int ⊕ (Unit) :=
 cond (decide (((x1.length : Nat) : Int) ≤ ((k11 : Nat) : Int))) (Sum.inl 1) (cond ((cmp_Compare_int_m (gt x0 k11) (gt x1 k11)) != 0) (Sum.inl (cmp_Compare_int_m (gt x0 k11) (gt x1 k11))) (Sum.inr ()))
def slices_Compare_int_m (x0 : (List Int)) (x1 : (List Int)) : Int :=
 Sum.elim id (fun (s : Unit) => cond (decide (((x0.length : Nat) : Int) < ((x1.length : Nat) : Int))) (-1) 0) (rng (R := Int) (fun k (_ : Unit) => slices_Compare_int_b1 x0 x1 k) (x0.length - 0) 0 ())
theorem cb48 : Cb Tryz.prog 48 := ⟨f48, _, func48, rfl, by decide⟩
theorem slices_Compare_int_c (w : World) (z0 : Value) (x0 : (List Int)) (z1 : Value) (x1 : (List Int)) (r_0 : rdS tInt w w.heap.size z0 x0) (r_1 : rdS tInt w w.heap.size z1 x1) :
  Calls Tryz.prog 48 #[z0, z1] w fun e w' => e = .returned (.int .i64 (slices_Compare_int_m x0 x1)) ∧ Below w.heap.size w w' := by
 obtain ⟨m1, A2, c3, rfl, q4, r5⟩ := rdS_op r_0
 obtain ⟨m6, A7, c8, rfl, q9, r10⟩ := rdS_op r_1
 refine ce2 (L := [(0, .slice A2 x0.length c3), (1, .slice A7 x1.length c8)]) (N := 36) func48 ?_
 refine sr (wa (nt' (CM_seq (sr (wm ?_)))))
 refine wv (vlen underlying24) ?_
 refine wm (nt' (CM_block ?_))
 let F1 := fun k (_ : Unit) => slices_Compare_int_b1 x0 x1 k
 let R2 := rng (R := Int) F1
 refine CM_loop (σ := Nat × (Unit) × (Unit)) (fun s => [(0, .slice A2 x0.length c3), (1, .slice A7 x1.length c8), (9, .slice A2 x0.length c3), (10, .int .i64 ((x0.length : Nat) : Int)), (11, .int .i64 ((s.1 : Nat) : Int))]) (fun s => []) (fun s => s.1 ≤ x0.length ∧ R2 (x0.length - s.1) s.1 s.2.1 = R2 (x0.length - 0) 0 ()) (fun s => x0.length - s.1) (0, (), ()) sl5 (fun W hm => hm) ⟨(by omega), rfl⟩ ?_
 rintro ⟨k11, ⟨⟩, ⟨⟩⟩ H14
 obtain ⟨hk12, hF13⟩ : k11 ≤ x0.length ∧ R2 (x0.length - k11) k11 () = R2 (x0.length - 0) 0 () := H14
 show CM Tryz.prog 36 _ _ _ _ [(0, .slice A2 x0.length c3), (1, .slice A7 x1.length c8), (9, .slice A2 x0.length c3), (10, .int .i64 ((x0.length : Nat) : Int)), (11, .int .i64 ((k11 : Nat) : Int))] []
 refine sr ?_
 refine wv vlss ?_
 refine nt' (CM_seq ?_)
 by_cases hl15 : k11 < x0.length
 ·have g16 := dlT hl15
  refine CM_condT rfl g16 ?_
  refine CM_skip (QM_then (CM_seq (CM_block (sr (wm ?_)))))
  obtain ⟨a17, rfl, hb18, he19⟩ := q4 (by omega)
  refine wv (vix 1 k11 underlying24 type3) ?_
  refine wv (fun W hm => rv_load underlying3 rfl rfl ((hm.cell0 (show (a17.add (k11 * 1)).block < w.heap.size from by rw [add_block]; exact hb18.1)).trans (rdS_int he19 k11 (by omega)))) ?_
  refine wa (wa (nt' (CM_seq (sr (wm (wm ?_))))))
  refine wv (vlen underlying24) ?_
  refine wv (fun W hm => rv_geq rfl rfl) ?_
  refine nt' ?_
  by_cases h20 : ((x1.length : Nat) : Int) ≤ ((k11 : Nat) : Int)
  ·have g21 := decide_eq_true h20
   refine CM_condT rfl g21 ?_
   refine sr (wa (nt' (CM_ret (QM_then_ret (QM_block_ret (QM_then_ret (QM_then_ret (QM_block_ret (QM_then_ret ?_)))))))))
   exact rti (h := fin_inl (rng_ret (body := F1) (k := k11) (s := ()) (show k11 < x0.length from by omega) (cond_t g21 (rfl)) hF13) rfl)
  ·have g21 := decide_eq_false h20
   refine CM_condF rfl g21 ?_
   refine CM_skip (QM_then (sr (wm (wm ?_))))
   obtain ⟨a22, rfl, hb23, he24⟩ := q9 (by omega)
   refine wv (vix 1 k11 underlying24 type3) ?_
   refine wv (fun W hm => rv_load underlying3 rfl rfl ((hm.cell0 (show (a22.add (k11 * 1)).block < w.heap.size from by rw [add_block]; exact hb23.1)).trans (rdS_int he24 k11 (by omega)))) ?_
   refine wa (nt' (sr (wm (wm ?_))))
   refine wcv (cl_fn cb68 rfl) (fun W hm => cmp_Compare_int_c W (gt x0 k11) (gt x1 k11)) ?_
   refine wa (nt' (sr (wm ?_)))
   refine wv vneq ?_
   refine nt' ?_
   by_cases h25 : (cmp_Compare_int_m (gt x0 k11) (gt x1 k11)) = 0
   ·have g26 : ((cmp_Compare_int_m (gt x0 k11) (gt x1 k11)) != 0) = false := by rw [h25]; exact bne_self_eq_false _
    refine CM_condF rfl g26 ?_
    refine CM_skip (QM_block_normal (QM_then (CM_region ?_)))
    refine wv (vadN k11 1 (by omega)) ?_
    refine wm (WM_nil ?_)
    have hn27 := rng_next (R := Int) (body := F1) (k := k11) (s := ()) (s' := ()) (show k11 < x0.length from by omega) (cond_f g21 (cond_f g26 (rfl))) hF13
    exact QM_round (k11 + 1, (), ()) sl5 (fun W hm => hm) ⟨(by omega), hn27⟩ (rl (by omega))
   ·have g26 : ((cmp_Compare_int_m (gt x0 k11) (gt x1 k11)) != 0) = true := bne_iff_ne.2 h25
    refine CM_condT rfl g26 ?_
    refine sr (wm (wa (nt' (CM_ret (QM_block_ret (QM_then_ret (QM_then_ret (QM_block_ret (QM_then_ret ?_)))))))))
    exact rti (h := fin_inl (rng_ret (body := F1) (k := k11) (s := ()) (show k11 < x0.length from by omega) (cond_f g21 (cond_t g26 (rfl))) hF13) rfl)
 ·have g16 := dlF hl15
  refine CM_condF rfl g16 ?_
  refine CM_exit (QM_then_exit (QM_then_exit ?_))
  have hE28 : R2 (x0.length - 0) 0 () = Sum.inr () := rng_end hl15 hF13
  refine QM_block_hit (QM_then (CM_seq (sr (wm ?_))))
  refine wv (vlen underlying24) ?_
  refine wm ?_
  refine wv (vlen underlying24) ?_
  refine wv vlss ?_
  refine nt' ?_
  by_cases h29 : ((x0.length : Nat) : Int) < ((x1.length : Nat) : Int)
  ·have g30 := decide_eq_true h29
   refine CM_condT rfl g30 ?_
   refine sr (wa (nt' (CM_ret (QM_then_ret ?_))))
   exact rti (h := fin_inr hE28 (cond_t g30 (rfl)))
  ·have g30 := decide_eq_false h29
   refine CM_condF rfl g30 ?_
   refine CM_skip (QM_then (sr (wa (nt' (CM_ret ?_)))))
   exact rti (h := fin_inr hE28 (cond_f g30 (rfl)))

def impl_SortRows_1_m (x0 : DRow) (x1 : DRow) : Int :=
 cond (decide (x0.Id < x1.Id)) (-1) (cond (decide (x1.Id < x0.Id)) 1 (slices_Compare_int_m x0.Values x1.Values))
theorem cb47 : Cb Tryz.prog 47 := ⟨f47, _, func47, rfl, by decide⟩
theorem impl_SortRows_1_c (w : World) (z0 : List Value) (x0 : DRow) (z1 : List Value) (x1 : DRow) (r_0 : tyRow.rd w w.heap.size z0 x0) (r_1 : tyRow.rd w w.heap.size z1 x1) :
  Calls Tryz.prog 47 #[.agg z0.toArray, .agg z1.toArray] w fun e w' => e = .returned (.int .i64 (impl_SortRows_1_m x0 x1)) ∧ Below w.heap.size w w' := by
 obtain ⟨v1, rfl, r2⟩ := tyRow_rd r_0
 obtain ⟨m3, A4, c5, rfl, q6, r7⟩ := rdS_op r2
 obtain ⟨v8, rfl, r9⟩ := tyRow_rd r_1
 obtain ⟨m10, A11, c12, rfl, q13, r14⟩ := rdS_op r9
 refine ce2 (L := [(0, .agg #[.int .i64 x0.Id, .slice A4 x0.Values.length c5]), (1, .agg #[.int .i64 x1.Id, .slice A11 x1.Values.length c12])]) (N := 22) func47 ?_
 refine sr ?_
 refine WM_box rfl (Wd_none rfl) (by decide) (fun p15 => ?_)
 refine WM_box rfl (Wd_none rfl) (by decide) (fun p16 => ?_)
 refine wa (nt' (CM_seq (CM_block (sr ?_))))
 refine wv (vf underlying26 rfl type3) ?_
 refine wv (vl 1 0 underlying3) ?_
 refine wv (vf underlying26 rfl type3) ?_
 refine wv (vl 0 0 underlying3) ?_
 refine wv vlss ?_
 refine wa (nt' ?_)
 by_cases h17 : x0.Id < x1.Id
 ·have g18 := decide_eq_true h17
  refine CM_condT rfl g18 ?_
  refine sr (wa (nt' (CM_ret (QM_block_ret (QM_then_ret ?_)))))
  exact rti (h := cond_t g18 (rfl))
 ·have g18 := decide_eq_false h17
  refine CM_condF rfl g18 ?_
  refine sr ?_
  refine wv (vf underlying26 rfl type3) ?_
  refine wv (vl 1 0 underlying3) ?_
  refine wv (vf underlying26 rfl type3) ?_
  refine wv (vl 0 0 underlying3) ?_
  refine wv (fun W hm => rv_gtr rfl rfl) ?_
  refine wa (nt' ?_)
  by_cases h19 : x1.Id < x0.Id
  ·have g20 := decide_eq_true h19
   refine CM_condT rfl g20 ?_
   refine sr (wa (nt' (CM_ret (QM_block_ret (QM_then_ret ?_)))))
   exact rti (h := cond_f g18 (cond_t g20 (rfl)))
  ·have g20 := decide_eq_false h19
   refine CM_condF rfl g20 ?_
   refine CM_skip (QM_block_normal (QM_then (sr ?_)))
   refine wv (vf underlying26 rfl type24) ?_
   refine wv (vl 1 1 underlying24) ?_
   refine wv (vf underlying26 rfl type24) ?_
   refine wv (vl 0 1 underlying24) ?_
   refine wcv (cl_fn cb48 rfl) (fun W hm => slices_Compare_int_c W _ x0.Values _ x1.Values (hm.rdS0 r7) (hm.rdS0 r14)) ?_
   refine wa (nt' (CM_ret ?_))
   exact rti (h := cond_f g18 (cond_f g20 (rfl)))

theorem cb127 : Cb Tryz.prog 127 := ⟨f127, _, func127, rfl, by decide⟩
theorem srt46_swr_c {α : Type} [Inhabited α] (K : Ck α) (hK : K.s = 2) (cf : α → α → Int) (fc : FuncId) (B : Nat) (w0 : World) (is : List It) (H : CmpOk Tryz.prog fc K B w0 is cf) (A : Option Addr) (n c : Nat) (hn : n ≤ 68719476736) (a : Nat) (b : Nat) (k : Nat) (xs : List (List Value × α)) (h1 : a + k ≤ n) (h2 : b + k ≤ n) (w : World) (hm : Mem B w0 (iOwn (tSl (tCk K) 26) [.slice A n c] xs :: is) w) :
  Calls Tryz.prog 127 #[.slice A n c, .int .i64 ((a : Nat) : Int), .int .i64 ((b : Nat) : Int), .int .i64 ((k : Nat) : Int), .func (.func fc) #[] #[]] w fun e w' => e = .returned (.tuple #[]) ∧ Mem B w0 (iOwn (tSl (tCk K) 26) [.slice A n c] (swr k a b xs) :: is) w' := by
 refine call_enterW (L := [(0, .slice A n c), (1, .int .i64 ((a : Nat) : Int)), (2, .int .i64 ((b : Nat) : Int)), (3, .int .i64 ((k : Nat) : Int)), (4, .func (.func fc) #[] #[])]) (N := 38) func127 rfl rfl (Nat.le_of_ble_eq_true rfl) (argsL_cons rfl (argsL_cons rfl (argsL_cons rfl (argsL_cons rfl (argsL_cons rfl argsL_nil))))) hm ?_
 refine sr (wa (nt' (CM_block ?_)))
 refine CM_loop (σ := Nat × List (List Value × α)) (fun s => [(0, .slice A n c), (1, .int .i64 ((a : Nat) : Int)), (2, .int .i64 ((b : Nat) : Int)), (3, .int .i64 ((k : Nat) : Int)), (10, .int .i64 ((s.1 : Nat) : Int))]) (fun s => (iOwn (tSl (tCk K) 26) [.slice A n c] s.2 :: is)) (fun s => swr (k - s.1) (a + s.1) (b + s.1) s.2 = swr k a b xs ∧ s.1 ≤ k) (fun s => k - s.1) (0, xs) sl5 (fun W hm => hm) ⟨(show swr (k - 0) (a + 0) (b + 0) xs = swr k a b xs from rfl), (show 0 ≤ k from by omega)⟩ ?_
 rintro ⟨i, d⟩ H1
 obtain ⟨hF, hi⟩ : swr (k - i) (a + i) (b + i) d = swr k a b xs ∧ i ≤ k := H1
 show CM Tryz.prog 38 _ _ _ _ [(0, .slice A n c), (1, .int .i64 ((a : Nat) : Int)), (2, .int .i64 ((b : Nat) : Int)), (3, .int .i64 ((k : Nat) : Int)), (10, .int .i64 ((i : Nat) : Int))] (iOwn (tSl (tCk K) 26) [.slice A n c] d :: is)
 refine CM_seq (sr (wm (wm ?_)))
 refine wv vlss ?_
 refine nt' ?_
 by_cases h2 : ((i : Nat) : Int) < ((k : Nat) : Int)
 ·have g3 := decide_eq_true h2
  refine CM_condT rfl g3 ?_
  refine CM_skip (QM_then (CM_seq (CM_block ?_)))
  refine CM_formO (n := 0) rfl (by omega) ?_
  rintro g5 rfl
  refine CM_ck ?_
  intro hR4
  let I1 : It := iOwn (tSl (tCk K) 26) [.slice (some ⟨g5, 0, none⟩) n c] ((d.set (a + i) (gt d (b + i))).set (b + i) (gt d (a + i)))
  refine CM_cut (σ := Unit) (fun _ => [(0, .slice (some ⟨g5, 0, none⟩) n c), (1, .int .i64 ((a : Nat) : Int)), (2, .int .i64 ((b : Nat) : Int)), (3, .int .i64 ((k : Nat) : Int)), (10, .int .i64 ((i : Nat) : Int))]) (fun _ => (I1 :: is)) (fun _ => True) ?_ ?_
  ·
   refine rb 24 (s := (is)) (fun W hm => (hm).tail) ?_
   refine qt 24 0 1 rfl vmv ?_
   refine qt 24 1 3 rfl vmv ?_
   refine qt 24 2 7 rfl vmv ?_
   refine qt 24 3 15 rfl (vadN a i (by omega)) ?_
   refine qt 24 4 31 rfl vmv ?_
   refine qt 24 5 63 rfl vmv ?_
   refine qt 24 6 127 rfl vmv ?_
   refine qt 24 7 255 rfl (vadN b i (by omega)) ?_
   refine qt 24 8 511 rfl vmv ?_
   refine qt 24 9 1023 rfl vmv ?_
   refine qt 24 10 2047 rfl vmv ?_
   refine qt 24 11 4095 rfl (vadN b i (by omega)) ?_
   refine qt 24 12 8191 rfl (fun W hm => rv_index (sz := K.s) (k := b + i) underlying37 type26 hK.symm rfl rfl (by omega)) ?_
   refine qt 24 14 24575 rfl vmv ?_
   refine qt 24 15 57343 rfl vmv ?_
   refine qt 24 16 122879 rfl vmv ?_
   refine qt 24 17 253951 rfl (vadN a i (by omega)) ?_
   refine qt 24 18 516095 rfl (fun W hm => rv_index (sz := K.s) (k := a + i) underlying37 type26 hK.symm rfl rfl (by omega)) ?_
   refine qa [13, 19] ?_
   refine qc 24 524287 rfl ?_ ?_
   ·
    refine wv (fun W hm => rv_loadCk underlying26 type26 hK.symm rfl hm (by omega)) ?_
    refine qn (fun W hm => (hm).tail) ?_
    refine qo 24 19 1048575 rfl ?_
    refine wv (fun W hm => rv_loadCk underlying26 type26 hK.symm rfl hm (by omega)) ?_
    refine qn (fun W hm => (hm).tail) ?_
    refine qt 24 20 2097151 rfl (fun W hm => rv_index (sz := K.s) (k := a + i) underlying37 type26 hK.symm rfl rfl (by omega)) ?_
    refine qo 24 21 4194303 rfl ?_
    refine WM_setEl (E := tCk K) (e := 26) (u := .agg (gt d (b + i)).1.toArray) (k := (a + i)) (p := g5) (n := n) (xs := d) (eis := []) (js := is) (yv := (gt d (b + i))) (fun W hm => hm) (fun _ _ hs => ⟨hs, rfl, (hR4 (b + i) (by omega))⟩) rfl type26 hK.symm (by omega) rfl rfl (Wd_none rfl) ?_
    refine qn (fun W hm => (hm).tail) ?_
    refine qt 24 22 8388607 rfl (fun W hm => rv_index (sz := K.s) (k := b + i) underlying37 type26 hK.symm rfl rfl (by omega)) ?_
    refine qo 24 23 16777215 rfl ?_
    refine WM_setEl (E := tCk K) (e := 26) (u := .agg (gt d (a + i)).1.toArray) (k := (b + i)) (p := g5) (n := n) (xs := (d.set (a + i) (gt d (b + i)))) (eis := []) (js := is) (yv := (gt d (a + i))) (fun W hm => hm) (fun _ _ hs => ⟨hs, rfl, (hR4 (a + i) (by omega))⟩) rfl type26 hK.symm (by omega) rfl rfl (Wd_none rfl) ?_
    refine qn (fun W hm => (hm).tail) ?_
    refine QB_done (by kernel_rfl) ?_
    exact QM_cut_normal () sl5 (fun W hm => hm) trivial
   refine qc 24 1040383 rfl ?_ ?_
   ·
    refine wv (fun W hm => rv_loadCk underlying26 type26 hK.symm rfl hm (by omega)) ?_
    refine qn (fun W hm => (hm).tail) ?_
    refine qo 24 13 1048575 rfl ?_
    refine wv (fun W hm => rv_loadCk underlying26 type26 hK.symm rfl hm (by omega)) ?_
    refine qn (fun W hm => (hm).tail) ?_
    refine qt 24 20 2097151 rfl (fun W hm => rv_index (sz := K.s) (k := a + i) underlying37 type26 hK.symm rfl rfl (by omega)) ?_
    refine qo 24 21 4194303 rfl ?_
    refine WM_setEl (E := tCk K) (e := 26) (u := .agg (gt d (b + i)).1.toArray) (k := (a + i)) (p := g5) (n := n) (xs := d) (eis := []) (js := is) (yv := (gt d (b + i))) (fun W hm => hm) (fun _ _ hs => ⟨hs, rfl, (hR4 (b + i) (by omega))⟩) rfl type26 hK.symm (by omega) rfl rfl (Wd_none rfl) ?_
    refine qn (fun W hm => (hm).tail) ?_
    refine qt 24 22 8388607 rfl (fun W hm => rv_index (sz := K.s) (k := b + i) underlying37 type26 hK.symm rfl rfl (by omega)) ?_
    refine qo 24 23 16777215 rfl ?_
    refine WM_setEl (E := tCk K) (e := 26) (u := .agg (gt d (a + i)).1.toArray) (k := (b + i)) (p := g5) (n := n) (xs := (d.set (a + i) (gt d (b + i)))) (eis := []) (js := is) (yv := (gt d (a + i))) (fun W hm => hm) (fun _ _ hs => ⟨hs, rfl, (hR4 (a + i) (by omega))⟩) rfl type26 hK.symm (by omega) rfl rfl (Wd_none rfl) ?_
    refine qn (fun W hm => (hm).tail) ?_
    refine QB_done (by kernel_rfl) ?_
    exact QM_cut_normal () sl5 (fun W hm => hm) trivial
   exact QBs_nil
  ·
   rintro ⟨⟩ -
   show QM 38 _ _ _ .normal [(0, .slice (some ⟨g5, 0, none⟩) n c), (1, .int .i64 ((a : Nat) : Int)), (2, .int .i64 ((b : Nat) : Int)), (3, .int .i64 ((k : Nat) : Int)), (10, .int .i64 ((i : Nat) : Int))] (I1 :: is)
   refine QM_block_normal (QM_then (CM_region (wm ?_)))
   refine wv (vadN i 1 (by omega)) ?_
   refine wa (WM_nil ?_)
   exact QM_round (i + 1, ((d.set (a + i) (gt d (b + i))).set (b + i) (gt d (a + i)))) sl5 (fun W hm => hm) ⟨(show swr (k - (i + 1)) (a + (i + 1)) (b + (i + 1)) ((d.set (a + i) (gt d (b + i))).set (b + i) (gt d (a + i))) = swr k a b xs from (swr_step (by omega)).symm.trans hF), (show (i + 1) ≤ k from by omega)⟩ (rl (by omega))
 ·have g3 := decide_eq_false h2
  refine CM_condF rfl g3 ?_
  refine CM_exit (QM_then_exit (QM_then_exit (QM_block_hit ?_)))
  have hE : swr k a b xs = d := ((swr_end (by omega)).symm.trans hF).symm
  exact QM_ret0 rfl (fun W hm => ⟨rfl, by rw [hE]; exact hm⟩)

theorem cb86 : Cb Tryz.prog 86 := ⟨f86, _, func86, rfl, by decide⟩
theorem srt46_ins_c {α : Type} [Inhabited α] (K : Ck α) (hK : K.s = 2) (cf : α → α → Int) (fc : FuncId) (B : Nat) (w0 : World) (is : List It) (H : CmpOk Tryz.prog fc K B w0 is cf) (A : Option Addr) (n c : Nat) (hn : n ≤ 68719476736) (a : Nat) (b : Nat) (xs : List (List Value × α)) (h1 : a ≤ n) (h2 : b ≤ n) (w : World) (hm : Mem B w0 (iOwn (tSl (tCk K) 26) [.slice A n c] xs :: is) w) :
  Calls Tryz.prog 86 #[.slice A n c, .int .i64 ((a : Nat) : Int), .int .i64 ((b : Nat) : Int), .func (.func fc) #[] #[]] w fun e w' => e = .returned (.tuple #[]) ∧ Mem B w0 (iOwn (tSl (tCk K) 26) [.slice A n c] (insL (ltc cf) a (b - a - 1) (a + 1) xs) :: is) w' := by
 refine call_enterW (L := [(0, .slice A n c), (1, .int .i64 ((a : Nat) : Int)), (2, .int .i64 ((b : Nat) : Int)), (3, .func (.func fc) #[] #[])]) (N := 53) func86 rfl rfl (Nat.le_of_ble_eq_true rfl) (argsL_cons rfl (argsL_cons rfl (argsL_cons rfl (argsL_cons rfl argsL_nil)))) hm ?_
 refine sr (wm ?_)
 refine wv (vadN a 1 (by omega)) ?_
 refine wa (nt' (CM_block ?_))
 refine CM_loop (σ := Nat × List (List Value × α)) (fun s => [(0, .slice A n c), (1, .int .i64 ((a : Nat) : Int)), (2, .int .i64 ((b : Nat) : Int)), (3, .func (.func fc) #[] #[]), (8, .int .i64 ((s.1 : Nat) : Int))]) (fun s => (iOwn (tSl (tCk K) 26) [.slice A n c] s.2 :: is)) (fun s => insL (ltc cf) a (b - s.1) s.1 s.2 = insL (ltc cf) a (b - a - 1) (a + 1) xs ∧ a < s.1) (fun s => b - s.1) (a + 1, xs) sl5 (fun W hm => hm) ⟨(show insL (ltc cf) a (b - (a + 1)) (a + 1) xs = insL (ltc cf) a (b - a - 1) (a + 1) xs from by rw [show b - (a + 1) = b - a - 1 by omega]), (show a < (a + 1) from by omega)⟩ ?_
 rintro ⟨i, d⟩ H1
 obtain ⟨hF, hai⟩ : insL (ltc cf) a (b - i) i d = insL (ltc cf) a (b - a - 1) (a + 1) xs ∧ a < i := H1
 show CM Tryz.prog 53 _ _ _ _ [(0, .slice A n c), (1, .int .i64 ((a : Nat) : Int)), (2, .int .i64 ((b : Nat) : Int)), (3, .func (.func fc) #[] #[]), (8, .int .i64 ((i : Nat) : Int))] (iOwn (tSl (tCk K) 26) [.slice A n c] d :: is)
 refine CM_seq (sr (wm (wm ?_)))
 refine wv vlss ?_
 refine nt' ?_
 by_cases h2 : ((i : Nat) : Int) < ((b : Nat) : Int)
 ·have g3 := decide_eq_true h2
  refine CM_condT rfl g3 ?_
  refine CM_skip (QM_then (CM_seq (CM_block (sr (wm (wa (nt' (CM_block ?_))))))))
  refine CM_loop (σ := Nat × List (List Value × α)) (fun s => [(0, .slice A n c), (1, .int .i64 ((a : Nat) : Int)), (2, .int .i64 ((b : Nat) : Int)), (3, .func (.func fc) #[] #[]), (8, .int .i64 ((i : Nat) : Int)), (9, .int .i64 ((s.1 : Nat) : Int))]) (fun s => (iOwn (tSl (tCk K) 26) [.slice A n c] s.2 :: is)) (fun s => ins1 (ltc cf) a s.1 s.2 = ins1 (ltc cf) a i d ∧ s.1 ≤ i ∧ a ≤ s.1) (fun s => s.1) (i, d) sl6 (fun W hm => hm) ⟨(show ins1 (ltc cf) a i d = ins1 (ltc cf) a i d from rfl), (show i ≤ i from by omega), (show a ≤ i from by omega)⟩ ?_
  rintro ⟨j, e⟩ H4
  obtain ⟨hG, hji, haj⟩ : ins1 (ltc cf) a j e = ins1 (ltc cf) a i d ∧ j ≤ i ∧ a ≤ j := H4
  show CM Tryz.prog 53 _ _ _ _ [(0, .slice A n c), (1, .int .i64 ((a : Nat) : Int)), (2, .int .i64 ((b : Nat) : Int)), (3, .func (.func fc) #[] #[]), (8, .int .i64 ((i : Nat) : Int)), (9, .int .i64 ((j : Nat) : Int))] (iOwn (tSl (tCk K) 26) [.slice A n c] e :: is)
  refine CM_seq (CM_seq ?_)
  refine CM_formO (n := 0) rfl (by omega) ?_
  rintro g5 rfl
  refine CM_regionD (by kernel_rfl) (by kernel_rfl) ?_
  refine qm (qm ?_)
  refine qv (fun W hm => rv_gtr rfl rfl) ?_
  refine qm ?_
  by_cases h6 : ((a : Nat) : Int) < ((j : Nat) : Int)
  ·have g7 := decide_eq_true h6
   refine qg vmv g7 ?_
   refine qg vmv g7 ?_
   refine qg vmv g7 ?_
   refine qg (fun W hm => rv_index (sz := K.s) (k := j) underlying37 type26 hK.symm rfl rfl (by omega)) g7 ?_
   refine qg (fun W hm => rv_loadCk underlying26 type26 hK.symm rfl hm (by omega)) g7 ?_
   refine qg vmv g7 ?_
   refine qg vmv g7 ?_
   refine qg (fun W hm => rv_subN (p := j) (q := 1) rfl rfl (by omega) (by omega)) g7 ?_
   refine qg (fun W hm => rv_index (sz := K.s) (k := j - 1) underlying37 type26 hK.symm rfl rfl (by omega)) g7 ?_
   refine qg (fun W hm => rv_loadCk underlying26 type26 hK.symm rfl hm (by omega)) g7 ?_
   refine QR_callV (cl_val (first := []) (caps := []) (vs := [.agg (gt e j).1.toArray, .agg (gt e (j - 1)).1.toArray]) (args := [.agg (gt e j).1.toArray, .agg (gt e (j - 1)).1.toArray]) H.cb rfl rfl rfl) (fun W hm => H.go W (gt e j) (gt e (j - 1)) hm.tail (hm.ck (by omega)).1 (hm.ck (by omega)).1) (Wd_some rfl rfl rfl (bw g7 rfl)) (by decide) ?_
   refine qg vlss g7 ?_
   refine qv (vpT g7) ?_
   refine nq' ?_
   by_cases h8 : (cf (gt e j).2 (gt e (j - 1)).2) < 0
   ·have g9 := decide_eq_true h8
    refine CM_condT rfl g9 ?_
    refine CM_skip (QM_then (CM_seq (CM_block (CM_ck ?_))))
    intro hR10
    let I1 : It := iOwn (tSl (tCk K) 26) [.slice (some ⟨g5, 0, none⟩) n c] ((e.set j (gt e (j - 1))).set (j - 1) (gt e j))
    refine CM_cut (σ := Unit) (fun _ => [(0, .slice (some ⟨g5, 0, none⟩) n c), (1, .int .i64 ((a : Nat) : Int)), (2, .int .i64 ((b : Nat) : Int)), (3, .func (.func fc) #[] #[]), (8, .int .i64 ((i : Nat) : Int)), (9, .int .i64 ((j : Nat) : Int))]) (fun _ => (I1 :: is)) (fun _ => True) ?_ ?_
    ·
     refine rb 18 (s := (is)) (fun W hm => (hm).tail) ?_
     refine qt 18 0 1 rfl vmv ?_
     refine qt 18 1 3 rfl vmv ?_
     refine qt 18 2 7 rfl vmv ?_
     refine qt 18 3 15 rfl vmv ?_
     refine qt 18 4 31 rfl (fun W hm => rv_subN (p := j) (q := 1) rfl rfl (by omega) (by omega)) ?_
     refine qt 18 5 63 rfl vmv ?_
     refine qt 18 6 127 rfl vmv ?_
     refine qt 18 7 255 rfl (fun W hm => rv_subN (p := j) (q := 1) rfl rfl (by omega) (by omega)) ?_
     refine qt 18 8 511 rfl (fun W hm => rv_index (sz := K.s) (k := j - 1) underlying37 type26 hK.symm rfl rfl (by omega)) ?_
     refine qt 18 10 1535 rfl vmv ?_
     refine qt 18 11 3583 rfl vmv ?_
     refine qt 18 12 7679 rfl (fun W hm => rv_index (sz := K.s) (k := j) underlying37 type26 hK.symm rfl rfl (by omega)) ?_
     refine qa [9, 13] ?_
     refine qc 18 8191 rfl ?_ ?_
     ·
      refine wv (fun W hm => rv_loadCk underlying26 type26 hK.symm rfl hm (by omega)) ?_
      refine qn (fun W hm => (hm).tail) ?_
      refine qo 18 13 16383 rfl ?_
      refine wv (fun W hm => rv_loadCk underlying26 type26 hK.symm rfl hm (by omega)) ?_
      refine qn (fun W hm => (hm).tail) ?_
      refine qt 18 14 32767 rfl (fun W hm => rv_index (sz := K.s) (k := j) underlying37 type26 hK.symm rfl rfl (by omega)) ?_
      refine qo 18 15 65535 rfl ?_
      refine WM_setEl (E := tCk K) (e := 26) (u := .agg (gt e (j - 1)).1.toArray) (k := j) (p := g5) (n := n) (xs := e) (eis := []) (js := is) (yv := (gt e (j - 1))) (fun W hm => hm) (fun _ _ hs => ⟨hs, rfl, (hR10 (j - 1) (by omega))⟩) rfl type26 hK.symm (by omega) rfl rfl (Wd_none rfl) ?_
      refine qn (fun W hm => (hm).tail) ?_
      refine qt 18 16 131071 rfl (fun W hm => rv_index (sz := K.s) (k := j - 1) underlying37 type26 hK.symm rfl rfl (by omega)) ?_
      refine qo 18 17 262143 rfl ?_
      refine WM_setEl (E := tCk K) (e := 26) (u := .agg (gt e j).1.toArray) (k := (j - 1)) (p := g5) (n := n) (xs := (e.set j (gt e (j - 1)))) (eis := []) (js := is) (yv := (gt e j)) (fun W hm => hm) (fun _ _ hs => ⟨hs, rfl, (hR10 j (by omega))⟩) rfl type26 hK.symm (by omega) rfl rfl (Wd_none rfl) ?_
      refine qn (fun W hm => (hm).tail) ?_
      refine QB_done (by kernel_rfl) ?_
      exact QM_cut_normal () sl6 (fun W hm => hm) trivial
     refine qc 18 15871 rfl ?_ ?_
     ·
      refine wv (fun W hm => rv_loadCk underlying26 type26 hK.symm rfl hm (by omega)) ?_
      refine qn (fun W hm => (hm).tail) ?_
      refine qo 18 9 16383 rfl ?_
      refine wv (fun W hm => rv_loadCk underlying26 type26 hK.symm rfl hm (by omega)) ?_
      refine qn (fun W hm => (hm).tail) ?_
      refine qt 18 14 32767 rfl (fun W hm => rv_index (sz := K.s) (k := j) underlying37 type26 hK.symm rfl rfl (by omega)) ?_
      refine qo 18 15 65535 rfl ?_
      refine WM_setEl (E := tCk K) (e := 26) (u := .agg (gt e (j - 1)).1.toArray) (k := j) (p := g5) (n := n) (xs := e) (eis := []) (js := is) (yv := (gt e (j - 1))) (fun W hm => hm) (fun _ _ hs => ⟨hs, rfl, (hR10 (j - 1) (by omega))⟩) rfl type26 hK.symm (by omega) rfl rfl (Wd_none rfl) ?_
      refine qn (fun W hm => (hm).tail) ?_
      refine qt 18 16 131071 rfl (fun W hm => rv_index (sz := K.s) (k := j - 1) underlying37 type26 hK.symm rfl rfl (by omega)) ?_
      refine qo 18 17 262143 rfl ?_
      refine WM_setEl (E := tCk K) (e := 26) (u := .agg (gt e j).1.toArray) (k := (j - 1)) (p := g5) (n := n) (xs := (e.set j (gt e (j - 1)))) (eis := []) (js := is) (yv := (gt e j)) (fun W hm => hm) (fun _ _ hs => ⟨hs, rfl, (hR10 j (by omega))⟩) rfl type26 hK.symm (by omega) rfl rfl (Wd_none rfl) ?_
      refine qn (fun W hm => (hm).tail) ?_
      refine QB_done (by kernel_rfl) ?_
      exact QM_cut_normal () sl6 (fun W hm => hm) trivial
     exact QBs_nil
    ·
     rintro ⟨⟩ -
     show QM 53 _ _ _ .normal [(0, .slice (some ⟨g5, 0, none⟩) n c), (1, .int .i64 ((a : Nat) : Int)), (2, .int .i64 ((b : Nat) : Int)), (3, .func (.func fc) #[] #[]), (8, .int .i64 ((i : Nat) : Int)), (9, .int .i64 ((j : Nat) : Int))] (I1 :: is)
     refine QM_block_normal (QM_then (CM_region (wm ?_)))
     refine wv (fun W hm => rv_subN (p := j) (q := 1) rfl rfl (by omega) (by omega)) ?_
     refine wa (WM_nil ?_)
     exact QM_round (j - 1, ((e.set j (gt e (j - 1))).set (j - 1) (gt e j))) sl6 (fun W hm => hm) ⟨(show ins1 (ltc cf) a (j - 1) ((e.set j (gt e (j - 1))).set (j - 1) (gt e j)) = ins1 (ltc cf) a i d from (ins1_t (by omega) (show decide (cf (gt e j).2 (gt e (j - 1)).2 < 0) = true from decide_eq_true (by omega))).symm.trans hG), (show (j - 1) ≤ i from by omega), (show a ≤ (j - 1) from by omega)⟩ (show (j - 1) < j from by omega)
   ·have g9 := decide_eq_false h8
    refine CM_condF rfl g9 ?_
    refine CM_exit (QM_then_exit (QM_then_exit (QM_block_hit (QM_block_normal (QM_then (CM_region (wm ?_)))))))
    refine wv (vadN i 1 (by omega)) ?_
    refine wa (WM_nil ?_)
    exact QM_round (i + 1, e) sl5 (fun W hm => hm) ⟨(show insL (ltc cf) a (b - (i + 1)) (i + 1) e = insL (ltc cf) a (b - a - 1) (a + 1) xs from (congrArg (insL (ltc cf) a (b - (i + 1)) (i + 1)) ((ins1_f (by rintro ⟨q1, q2⟩; have q3 := of_decide_eq_true (p := cf (gt e j).2 (gt e (j - 1)).2 < 0) q2; omega)).symm.trans hG)).trans ((insL_step (by omega)).symm.trans hF)), (show a < (i + 1) from by omega)⟩ (rl (by omega))
  ·have g7 := decide_eq_false h6
   refine qs g7 ?_
   refine qs g7 ?_
   refine qs g7 ?_
   refine qs g7 ?_
   refine qs g7 ?_
   refine qs g7 ?_
   refine qs g7 ?_
   refine qs g7 ?_
   refine qs g7 ?_
   refine qs g7 ?_
   refine qs g7 ?_
   refine qs g7 ?_
   refine qv (vpF g7) ?_
   refine nq' ?_
   refine CM_condF rfl rfl ?_
   refine CM_exit (QM_then_exit (QM_then_exit (QM_block_hit (QM_block_normal (QM_then (CM_region (wm ?_)))))))
   refine wv (vadN i 1 (by omega)) ?_
   refine wa (WM_nil ?_)
   exact QM_round (i + 1, e) sl5 (fun W hm => hm) ⟨(show insL (ltc cf) a (b - (i + 1)) (i + 1) e = insL (ltc cf) a (b - a - 1) (a + 1) xs from (congrArg (insL (ltc cf) a (b - (i + 1)) (i + 1)) ((ins1_f (by rintro ⟨q1, q2⟩; have q3 := of_decide_eq_true (p := cf (gt e j).2 (gt e (j - 1)).2 < 0) q2; omega)).symm.trans hG)).trans ((insL_step (by omega)).symm.trans hF)), (show a < (i + 1) from by omega)⟩ (rl (by omega))
 ·have g3 := decide_eq_false h2
  refine CM_condF rfl g3 ?_
  refine CM_exit (QM_then_exit (QM_then_exit (QM_block_hit ?_)))
  have hE : insL (ltc cf) a (b - a - 1) (a + 1) xs = d := ((insL_end (by omega)).symm.trans hF).symm
  exact QM_ret0 rfl (fun W hm => ⟨rfl, by rw [hE]; exact hm⟩)

theorem cb110 : Cb Tryz.prog 110 := ⟨f110, _, func110, rfl, by decide⟩
theorem srt46_rot_c {α : Type} [Inhabited α] (K : Ck α) (hK : K.s = 2) (cf : α → α → Int) (fc : FuncId) (B : Nat) (w0 : World) (is : List It) (H : CmpOk Tryz.prog fc K B w0 is cf) (A : Option Addr) (n c : Nat) (hn : n ≤ 68719476736) (a : Nat) (m : Nat) (b : Nat) (xs : List (List Value × α)) (h1 : a < m) (h2 : m < b) (h3 : b ≤ n) (w : World) (hm : Mem B w0 (iOwn (tSl (tCk K) 26) [.slice A n c] xs :: is) w) :
  Calls Tryz.prog 110 #[.slice A n c, .int .i64 ((a : Nat) : Int), .int .i64 ((m : Nat) : Int), .int .i64 ((b : Nat) : Int), .func (.func fc) #[] #[]] w fun e w' => e = .returned (.tuple #[]) ∧ Mem B w0 (iOwn (tSl (tCk K) 26) [.slice A n c] (rot (b - a) m (m - a) (b - m) xs) :: is) w' := by
 refine call_enterW (L := [(0, .slice A n c), (1, .int .i64 ((a : Nat) : Int)), (2, .int .i64 ((m : Nat) : Int)), (3, .int .i64 ((b : Nat) : Int)), (4, .func (.func fc) #[] #[])]) (N := 58) func110 rfl rfl (Nat.le_of_ble_eq_true rfl) (argsL_cons rfl (argsL_cons rfl (argsL_cons rfl (argsL_cons rfl (argsL_cons rfl argsL_nil))))) hm ?_
 refine sr (wm (wm ?_))
 refine wv (fun W hm => rv_subN (p := m) (q := a) rfl rfl (by omega) (by omega)) ?_
 refine wa (nt' (sr (wm (wm ?_))))
 refine wv (fun W hm => rv_subN (p := b) (q := m) rfl rfl (by omega) (by omega)) ?_
 refine wa (nt' (CM_seq (CM_block ?_)))
 refine CM_loop (σ := Nat × Nat × Nat × List (List Value × α)) (fun s => [(0, .slice A n c), (2, .int .i64 ((m : Nat) : Int)), (4, .func (.func fc) #[] #[]), (10, .int .i64 ((s.1 : Nat) : Int)), (11, .int .i64 ((s.2.1 : Nat) : Int))]) (fun s => (iOwn (tSl (tCk K) 26) [.slice A n c] s.2.2.2 :: is)) (fun s => rot s.2.2.1 m s.1 s.2.1 s.2.2.2 = rot (b - a) m (m - a) (b - m) xs ∧ s.1 + s.2.1 ≤ s.2.2.1 ∧ 0 < s.1 ∧ 0 < s.2.1 ∧ a + s.1 ≤ m ∧ m + s.2.1 ≤ b) (fun s => s.1 + s.2.1) (m - a, b - m, b - a, xs) sl5 (fun W hm => hm) ⟨(show rot (b - a) m (m - a) (b - m) xs = rot (b - a) m (m - a) (b - m) xs from rfl), (show (m - a) + (b - m) ≤ (b - a) from by omega), (show 0 < (m - a) from by omega), (show 0 < (b - m) from by omega), (show a + (m - a) ≤ m from by omega), (show m + (b - m) ≤ b from by omega)⟩ ?_
 rintro ⟨i, j, f, d⟩ H1
 obtain ⟨hF, hf5, hf6, hf7, hf8, hf9⟩ : rot f m i j d = rot (b - a) m (m - a) (b - m) xs ∧ i + j ≤ f ∧ 0 < i ∧ 0 < j ∧ a + i ≤ m ∧ m + j ≤ b := H1
 show CM Tryz.prog 58 _ _ _ _ [(0, .slice A n c), (2, .int .i64 ((m : Nat) : Int)), (4, .func (.func fc) #[] #[]), (10, .int .i64 ((i : Nat) : Int)), (11, .int .i64 ((j : Nat) : Int))] (iOwn (tSl (tCk K) 26) [.slice A n c] d :: is)
 refine CM_seq (sr (wm (wm ?_)))
 refine wv vneq ?_
 refine nt' ?_
 by_cases h2 : ((i : Nat) : Int) = ((j : Nat) : Int)
 ·have g3 : (((i : Nat) : Int) != ((j : Nat) : Int)) = false := by rw [h2]; exact bne_self_eq_false _
  refine CM_condF rfl g3 ?_
  refine CM_exit (QM_then_exit (QM_then_exit (QM_block_hit (QM_then (CM_region (wm (wm (wm ?_))))))))
  refine wv (fun W hm => rv_subN (p := m) (q := i) rfl rfl (by omega) (by omega)) ?_
  refine wm (wm (wm ?_))
  refine WM_callW (χ := Unit) (val := fun _ => .tuple #[]) (js := fun _ => (iOwn (tSl (tCk K) 26) [.slice A n c] (swr i (m - i) m d) :: is)) (cl_fn cb127 rfl) (fun W hm => (srt46_swr_c K hK cf fc B w0 is H A n c hn (m - i) m i d (by omega) (by omega) W hm).mono (fun _ _ h => ⟨(), h.1, h.2⟩)) (Wd_none rfl) (by decide) (fun _ => ?_)
  refine WM_nil ?_
  have hE : rot (b - a) m (m - a) (b - m) xs = (swr i (m - i) m d) := ((rot_eq (by omega) hf5 hf6).symm.trans hF).symm
  exact QM_ret0 rfl (fun W hm => ⟨rfl, by rw [hE]; exact hm⟩)
 ·have g3 : (((i : Nat) : Int) != ((j : Nat) : Int)) = true := bne_iff_ne.2 h2
  refine CM_condT rfl g3 ?_
  refine CM_skip (QM_then (CM_block (sr (wm (wm ?_)))))
  refine wv (fun W hm => rv_gtr rfl rfl) ?_
  refine nt' ?_
  by_cases h4 : ((j : Nat) : Int) < ((i : Nat) : Int)
  ·have g5 := decide_eq_true h4
   refine CM_condT rfl g5 ?_
   refine sr (wm (wm (wm ?_)))
   refine wv (fun W hm => rv_subN (p := m) (q := i) rfl rfl (by omega) (by omega)) ?_
   refine wm (wm (wm ?_))
   refine WM_callW (χ := Unit) (val := fun _ => .tuple #[]) (js := fun _ => (iOwn (tSl (tCk K) 26) [.slice A n c] (swr j (m - i) m d) :: is)) (cl_fn cb127 rfl) (fun W hm => (srt46_swr_c K hK cf fc B w0 is H A n c hn (m - i) m j d (by omega) (by omega) W hm).mono (fun _ _ h => ⟨(), h.1, h.2⟩)) (Wd_none rfl) (by decide) (fun _ => ?_)
   refine nt' (CM_region (wm (wm ?_)))
   refine wv (fun W hm => rv_subN (p := i) (q := j) rfl rfl (by omega) (by omega)) ?_
   refine wa (WM_nil (QM_block_normal ?_))
   exact QM_round (i - j, j, f - 1, (swr j (m - i) m d)) sl5 (fun W hm => hm) ⟨(show rot (f - 1) m (i - j) j (swr j (m - i) m d) = rot (b - a) m (m - a) (b - m) xs from (rot_gt (by omega) hf5).symm.trans hF), (show (i - j) + j ≤ (f - 1) from by omega), (show 0 < (i - j) from by omega), (show 0 < j from by omega), (show a + (i - j) ≤ m from by omega), (show m + j ≤ b from by omega)⟩ (show (i - j) + j < i + j from by omega)
  ·have g5 := decide_eq_false h4
   refine CM_condF rfl g5 ?_
   refine sr (wm (wm (wm ?_)))
   refine wv (fun W hm => rv_subN (p := m) (q := i) rfl rfl (by omega) (by omega)) ?_
   refine wm (wm ?_)
   refine wv (vadN m j (by omega)) ?_
   refine wm ?_
   refine wv (fun W hm => rv_subN (p := m + j) (q := i) rfl rfl (by omega) (by omega)) ?_
   refine wm (wm ?_)
   refine WM_callW (χ := Unit) (val := fun _ => .tuple #[]) (js := fun _ => (iOwn (tSl (tCk K) 26) [.slice A n c] (swr i (m - i) (m + j - i) d) :: is)) (cl_fn cb127 rfl) (fun W hm => (srt46_swr_c K hK cf fc B w0 is H A n c hn (m - i) (m + j - i) i d (by omega) (by omega) W hm).mono (fun _ _ h => ⟨(), h.1, h.2⟩)) (Wd_none rfl) (by decide) (fun _ => ?_)
   refine nt' (CM_region (wm (wm ?_)))
   refine wv (fun W hm => rv_subN (p := j) (q := i) rfl rfl (by omega) (by omega)) ?_
   refine wa (WM_nil (QM_block_normal ?_))
   exact QM_round (i, j - i, f - 1, (swr i (m - i) (m + j - i) d)) sl5 (fun W hm => hm) ⟨(show rot (f - 1) m i (j - i) (swr i (m - i) (m + j - i) d) = rot (b - a) m (m - a) (b - m) xs from (rot_lt (by omega) hf5).symm.trans hF), (show i + (j - i) ≤ (f - 1) from by omega), (show 0 < i from by omega), (show 0 < (j - i) from by omega), (show a + i ≤ m from by omega), (show m + (j - i) ≤ b from by omega)⟩ (show i + (j - i) < i + j from by omega)

theorem cb87 : Cb Tryz.prog 87 := ⟨f87, _, func87, rfl, by decide⟩
theorem srt46_symm_c {α : Type} [Inhabited α] (K : Ck α) (hK : K.s = 2) (cf : α → α → Int) (fc : FuncId) (B : Nat) (w0 : World) (is : List It) (H : CmpOk Tryz.prog fc K B w0 is cf) (A : Option Addr) (n c : Nat) (hn : n ≤ 68719476736) :
  ∀ (f : Nat) (a : Nat) (m : Nat) (b : Nat) (xs : List (List Value × α)) (h1 : b - a ≤ f) (h2 : a < m) (h3 : m < b) (h4 : b ≤ n) (w : World) (hm : Mem B w0 (iOwn (tSl (tCk K) 26) [.slice A n c] xs :: is) w),
  Calls Tryz.prog 87 #[.slice A n c, .int .i64 ((a : Nat) : Int), .int .i64 ((m : Nat) : Int), .int .i64 ((b : Nat) : Int), .func (.func fc) #[] #[]] w fun e w' => e = .returned (.tuple #[]) ∧ Mem B w0 (iOwn (tSl (tCk K) 26) [.slice A n c] (symm (ltc cf) f a m b xs) :: is) w' := by
 intro f
 revert A
 induction f with
 | zero => intro A a m b xs h1 h2 h3 h4 w hm; exact absurd h1 (by omega)
 | succ f ih =>
 intro A a m b xs h1 h2 h3 h4 w hm
 replace ih := ih A
 refine call_enterW (L := [(0, .slice A n c), (1, .int .i64 ((a : Nat) : Int)), (2, .int .i64 ((m : Nat) : Int)), (3, .int .i64 ((b : Nat) : Int)), (4, .func (.func fc) #[] #[])]) (N := 220) func87 rfl rfl (Nat.le_of_ble_eq_true rfl) (argsL_cons rfl (argsL_cons rfl (argsL_cons rfl (argsL_cons rfl (argsL_cons rfl argsL_nil))))) hm ?_
 refine CM_seq (sr (wm (wm ?_)))
 refine wv (fun W hm => rv_subN (p := m) (q := a) rfl rfl (by omega) (by omega)) ?_
 refine wv (fun W hm => rv_eql rfl rfl) ?_
 refine nt' ?_
 by_cases h1 : ((m - a : Nat) : Int) = 1
 ·have g2 := beq_iff_eq.2 h1
  refine CM_condT rfl g2 ?_
  refine sr (wm (wa (nt' (sr (wm (wa (nt' (CM_seq (CM_block ?_)))))))))
  refine CM_loop (σ := Nat × Nat × Nat) (fun s => [(0, .slice A n c), (1, .int .i64 ((a : Nat) : Int)), (4, .func (.func fc) #[] #[]), (10, .int .i64 ((s.1 : Nat) : Int)), (11, .int .i64 ((s.2.1 : Nat) : Int))]) (fun s => (iOwn (tSl (tCk K) 26) [.slice A n c] xs :: is)) (fun s => bsr (fun h => ltc cf (gt xs h) (gt xs a)) s.2.2 s.1 s.2.1 = bsr (fun h => ltc cf (gt xs h) (gt xs a)) (b - m) m b ∧ s.2.1 ≤ s.2.2 + s.1 ∧ m ≤ s.1 ∧ s.1 ≤ s.2.1 ∧ s.2.1 ≤ b) (fun s => s.2.1 - s.1) (m, b, b - m) sl5 (fun W hm => hm) ⟨(show bsr (fun h => ltc cf (gt xs h) (gt xs a)) (b - m) m b = bsr (fun h => ltc cf (gt xs h) (gt xs a)) (b - m) m b from rfl), (show b ≤ (b - m) + m from by omega), (show m ≤ m from by omega), (show m ≤ b from by omega), (show b ≤ b from by omega)⟩ ?_
  rintro ⟨i, j, f0⟩ H3
  obtain ⟨hB, hf5, hf6, hf7, hf8⟩ : bsr (fun h => ltc cf (gt xs h) (gt xs a)) f0 i j = bsr (fun h => ltc cf (gt xs h) (gt xs a)) (b - m) m b ∧ j ≤ f0 + i ∧ m ≤ i ∧ i ≤ j ∧ j ≤ b := H3
  show CM Tryz.prog 220 _ _ _ _ [(0, .slice A n c), (1, .int .i64 ((a : Nat) : Int)), (4, .func (.func fc) #[] #[]), (10, .int .i64 ((i : Nat) : Int)), (11, .int .i64 ((j : Nat) : Int))] (iOwn (tSl (tCk K) 26) [.slice A n c] xs :: is)
  refine CM_seq (sr (wm (wm ?_)))
  refine wv vlss ?_
  refine nt' ?_
  by_cases h4 : ((i : Nat) : Int) < ((j : Nat) : Int)
  ·have g5 := decide_eq_true h4
   refine CM_condT rfl g5 ?_
   refine CM_skip (QM_then (CM_block (sr (wm (wm ?_)))))
   refine wv (vadN i j (by omega)) ?_
   refine wv (fun W hm => rv_convIU (p := i + j) underlying3 underlying108 rfl (by omega)) ?_
   refine wv (fun W hm => rv_half rfl) ?_
   refine wv (fun W hm => rv_convUI (p := (i + j) / 2) underlying108 underlying3 rfl (by omega)) ?_
   refine wa (nt' (CM_seq ?_))
   refine CM_formO (n := 0) rfl (by omega) ?_
   rintro g6 rfl
   refine CM_regionD (by kernel_rfl) (by kernel_rfl) ?_
   refine qm (qm (qm ?_))
   refine qv (fun W hm => rv_index (sz := K.s) (k := (i + j) / 2) underlying37 type26 hK.symm rfl rfl (by omega)) ?_
   refine qv (fun W hm => rv_loadCk underlying26 type26 hK.symm rfl hm (by omega)) ?_
   refine qm (qm ?_)
   refine qv (fun W hm => rv_index (sz := K.s) (k := a) underlying37 type26 hK.symm rfl rfl (by omega)) ?_
   refine qv (fun W hm => rv_loadCk underlying26 type26 hK.symm rfl hm (by omega)) ?_
   refine QR_callV (cl_val (first := []) (caps := []) (vs := [.agg (gt xs ((i + j) / 2)).1.toArray, .agg (gt xs a).1.toArray]) (args := [.agg (gt xs ((i + j) / 2)).1.toArray, .agg (gt xs a).1.toArray]) H.cb rfl rfl rfl) (fun W hm => H.go W (gt xs ((i + j) / 2)) (gt xs a) hm.tail (hm.ck (by omega)).1 (hm.ck (by omega)).1) (Wd_none rfl) (by decide) ?_
   refine qv vlss ?_
   refine nq' ?_
   by_cases h7 : (cf (gt xs ((i + j) / 2)).2 (gt xs a).2) < 0
   ·have g8 := decide_eq_true h7
    refine CM_condT rfl g8 ?_
    refine CM_region (wm ?_)
    refine wv (fun W hm => rv_addN (p := (i + j) / 2) (q := 1) rfl rfl (by omega)) ?_
    refine wa (WM_nil (QM_block_normal ?_))
    exact QM_round ((i + j) / 2 + 1, j, f0 - 1) sl5 (fun W hm => hm) ⟨(show bsr (fun h => ltc cf (gt xs h) (gt xs a)) (f0 - 1) ((i + j) / 2 + 1) j = bsr (fun h => ltc cf (gt xs h) (gt xs a)) (b - m) m b from (bsr_t (by omega) hf5 (show decide (cf (gt xs ((i + j) / 2)).2 (gt xs a).2 < 0) = true from decide_eq_true (by omega))).symm.trans hB), (show j ≤ (f0 - 1) + ((i + j) / 2 + 1) from by omega), (show m ≤ ((i + j) / 2 + 1) from by omega), (show ((i + j) / 2 + 1) ≤ j from by omega), (show j ≤ b from by omega)⟩ (show j - ((i + j) / 2 + 1) < j - i from by omega)
   ·have g8 := decide_eq_false h7
    refine CM_condF rfl g8 ?_
    refine CM_region (wm (wa (WM_nil (QM_block_normal ?_))))
    exact QM_round (i, (i + j) / 2, f0 - 1) sl5 (fun W hm => hm) ⟨(show bsr (fun h => ltc cf (gt xs h) (gt xs a)) (f0 - 1) i ((i + j) / 2) = bsr (fun h => ltc cf (gt xs h) (gt xs a)) (b - m) m b from (bsr_f (by omega) hf5 (show decide (cf (gt xs ((i + j) / 2)).2 (gt xs a).2 < 0) = false from decide_eq_false (by omega))).symm.trans hB), (show ((i + j) / 2) ≤ (f0 - 1) + i from by omega), (show m ≤ i from by omega), (show i ≤ ((i + j) / 2) from by omega), (show ((i + j) / 2) ≤ b from by omega)⟩ (show ((i + j) / 2) - i < j - i from by omega)
  ·have g5 := decide_eq_false h4
   refine CM_condF rfl g5 ?_
   refine CM_exit (QM_then_exit (QM_then_exit ?_))
   have hA : bsr (fun h => ltc cf (gt xs h) (gt xs a)) (b - m) m b = i := hB.symm.trans (bsr_e (by omega))
   refine QM_block_hit (QM_then (CM_seq (sr (wm (wa (nt' (CM_block ?_)))))))
   refine CM_loop (σ := Nat × List (List Value × α)) (fun s => [(0, .slice A n c), (10, .int .i64 ((i : Nat) : Int)), (13, .int .i64 ((s.1 : Nat) : Int))]) (fun s => (iOwn (tSl (tCk K) 26) [.slice A n c] s.2 :: is)) (fun s => mvU (i - 1 - s.1) s.1 s.2 = mvU (i - 1 - a) a xs ∧ a ≤ s.1) (fun s => i - 1 - s.1) (a, xs) sl3 (fun W hm => hm) ⟨(show mvU (i - 1 - a) a xs = mvU (i - 1 - a) a xs from rfl), (show a ≤ a from by omega)⟩ ?_
   rintro ⟨k, d⟩ H9
   obtain ⟨hU, hf9⟩ : mvU (i - 1 - k) k d = mvU (i - 1 - a) a xs ∧ a ≤ k := H9
   show CM Tryz.prog 220 _ _ _ _ [(0, .slice A n c), (10, .int .i64 ((i : Nat) : Int)), (13, .int .i64 ((k : Nat) : Int))] (iOwn (tSl (tCk K) 26) [.slice A n c] d :: is)
   refine CM_seq (sr (wm (wm ?_)))
   refine wv (fun W hm => rv_subN (p := i) (q := 1) rfl rfl (by omega) (by omega)) ?_
   refine wv vlss ?_
   refine nt' ?_
   by_cases h10 : ((k : Nat) : Int) < ((i - 1 : Nat) : Int)
   ·have g11 := decide_eq_true h10
    refine CM_condT rfl g11 ?_
    refine CM_skip (QM_then (CM_seq (CM_block ?_)))
    refine CM_formO (n := 0) rfl (by omega) ?_
    rintro g13 rfl
    refine CM_ck ?_
    intro hR12
    let I1 : It := iOwn (tSl (tCk K) 26) [.slice (some ⟨g13, 0, none⟩) n c] ((d.set k (gt d (k + 1))).set (k + 1) (gt d k))
    refine CM_cut (σ := Unit) (fun _ => [(0, .slice (some ⟨g13, 0, none⟩) n c), (10, .int .i64 ((i : Nat) : Int)), (13, .int .i64 ((k : Nat) : Int))]) (fun _ => (I1 :: is)) (fun _ => True) ?_ ?_
    ·
     refine rb 18 (s := (is)) (fun W hm => (hm).tail) ?_
     refine qt 18 0 1 rfl vmv ?_
     refine qt 18 1 3 rfl vmv ?_
     refine qt 18 2 7 rfl vmv ?_
     refine qt 18 3 15 rfl vmv ?_
     refine qt 18 4 31 rfl (vadN k 1 (by omega)) ?_
     refine qt 18 5 63 rfl vmv ?_
     refine qt 18 6 127 rfl vmv ?_
     refine qt 18 7 255 rfl (vadN k 1 (by omega)) ?_
     refine qt 18 8 511 rfl (fun W hm => rv_index (sz := K.s) (k := k + 1) underlying37 type26 hK.symm rfl rfl (by omega)) ?_
     refine qt 18 10 1535 rfl vmv ?_
     refine qt 18 11 3583 rfl vmv ?_
     refine qt 18 12 7679 rfl (fun W hm => rv_index (sz := K.s) (k := k) underlying37 type26 hK.symm rfl rfl (by omega)) ?_
     refine qa [9, 13] ?_
     refine qc 18 8191 rfl ?_ ?_
     ·
      refine wv (fun W hm => rv_loadCk underlying26 type26 hK.symm rfl hm (by omega)) ?_
      refine qn (fun W hm => (hm).tail) ?_
      refine qo 18 13 16383 rfl ?_
      refine wv (fun W hm => rv_loadCk underlying26 type26 hK.symm rfl hm (by omega)) ?_
      refine qn (fun W hm => (hm).tail) ?_
      refine qt 18 14 32767 rfl (fun W hm => rv_index (sz := K.s) (k := k) underlying37 type26 hK.symm rfl rfl (by omega)) ?_
      refine qo 18 15 65535 rfl ?_
      refine WM_setEl (E := tCk K) (e := 26) (u := .agg (gt d (k + 1)).1.toArray) (k := k) (p := g13) (n := n) (xs := d) (eis := []) (js := is) (yv := (gt d (k + 1))) (fun W hm => hm) (fun _ _ hs => ⟨hs, rfl, (hR12 (k + 1) (by omega))⟩) rfl type26 hK.symm (by omega) rfl rfl (Wd_none rfl) ?_
      refine qn (fun W hm => (hm).tail) ?_
      refine qt 18 16 131071 rfl (fun W hm => rv_index (sz := K.s) (k := k + 1) underlying37 type26 hK.symm rfl rfl (by omega)) ?_
      refine qo 18 17 262143 rfl ?_
      refine WM_setEl (E := tCk K) (e := 26) (u := .agg (gt d k).1.toArray) (k := (k + 1)) (p := g13) (n := n) (xs := (d.set k (gt d (k + 1)))) (eis := []) (js := is) (yv := (gt d k)) (fun W hm => hm) (fun _ _ hs => ⟨hs, rfl, (hR12 k (by omega))⟩) rfl type26 hK.symm (by omega) rfl rfl (Wd_none rfl) ?_
      refine qn (fun W hm => (hm).tail) ?_
      refine QB_done (by kernel_rfl) ?_
      exact QM_cut_normal () sl3 (fun W hm => hm) trivial
     refine qc 18 15871 rfl ?_ ?_
     ·
      refine wv (fun W hm => rv_loadCk underlying26 type26 hK.symm rfl hm (by omega)) ?_
      refine qn (fun W hm => (hm).tail) ?_
      refine qo 18 9 16383 rfl ?_
      refine wv (fun W hm => rv_loadCk underlying26 type26 hK.symm rfl hm (by omega)) ?_
      refine qn (fun W hm => (hm).tail) ?_
      refine qt 18 14 32767 rfl (fun W hm => rv_index (sz := K.s) (k := k) underlying37 type26 hK.symm rfl rfl (by omega)) ?_
      refine qo 18 15 65535 rfl ?_
      refine WM_setEl (E := tCk K) (e := 26) (u := .agg (gt d (k + 1)).1.toArray) (k := k) (p := g13) (n := n) (xs := d) (eis := []) (js := is) (yv := (gt d (k + 1))) (fun W hm => hm) (fun _ _ hs => ⟨hs, rfl, (hR12 (k + 1) (by omega))⟩) rfl type26 hK.symm (by omega) rfl rfl (Wd_none rfl) ?_
      refine qn (fun W hm => (hm).tail) ?_
      refine qt 18 16 131071 rfl (fun W hm => rv_index (sz := K.s) (k := k + 1) underlying37 type26 hK.symm rfl rfl (by omega)) ?_
      refine qo 18 17 262143 rfl ?_
      refine WM_setEl (E := tCk K) (e := 26) (u := .agg (gt d k).1.toArray) (k := (k + 1)) (p := g13) (n := n) (xs := (d.set k (gt d (k + 1)))) (eis := []) (js := is) (yv := (gt d k)) (fun W hm => hm) (fun _ _ hs => ⟨hs, rfl, (hR12 k (by omega))⟩) rfl type26 hK.symm (by omega) rfl rfl (Wd_none rfl) ?_
      refine qn (fun W hm => (hm).tail) ?_
      refine QB_done (by kernel_rfl) ?_
      exact QM_cut_normal () sl3 (fun W hm => hm) trivial
     exact QBs_nil
    ·
     rintro ⟨⟩ -
     show QM 220 _ _ _ .normal [(0, .slice (some ⟨g13, 0, none⟩) n c), (10, .int .i64 ((i : Nat) : Int)), (13, .int .i64 ((k : Nat) : Int))] (I1 :: is)
     refine QM_block_normal (QM_then (CM_region (wm ?_)))
     refine wv (vadN k 1 (by omega)) ?_
     refine wa (WM_nil ?_)
     exact QM_round (k + 1, ((d.set k (gt d (k + 1))).set (k + 1) (gt d k))) sl3 (fun W hm => hm) ⟨(show mvU (i - 1 - (k + 1)) (k + 1) ((d.set k (gt d (k + 1))).set (k + 1) (gt d k)) = mvU (i - 1 - a) a xs from (mvU_step (by omega)).symm.trans hU), (show a ≤ (k + 1) from by omega)⟩ (rl (by omega))
   ·have g11 := decide_eq_false h10
    refine CM_condF rfl g11 ?_
    refine CM_exit (QM_then_exit (QM_then_exit (QM_block_hit (QM_then (CM_ret (QM_then_ret ?_))))))
    have hE : symm (ltc cf) (f + 1) a m b xs = d := (symm_a (by omega)).trans (by rw [hA]; exact ((mvU_end (by omega)).symm.trans hU).symm)
    exact QM_ret0r rfl (fun W hm => ⟨rfl, by rw [hE]; exact hm⟩)
 ·have g2 := beq_eq_false_iff_ne.2 h1
  refine CM_condF rfl g2 ?_
  refine CM_skip (QM_then (CM_seq (sr (wm (wm ?_)))))
  refine wv (fun W hm => rv_subN (p := b) (q := m) rfl rfl (by omega) (by omega)) ?_
  refine wv (fun W hm => rv_eql rfl rfl) ?_
  refine nt' ?_
  by_cases h14 : ((b - m : Nat) : Int) = 1
  ·have g15 := beq_iff_eq.2 h14
   refine CM_condT rfl g15 ?_
   refine sr (wm (wa (nt' (sr (wm (wa (nt' (CM_seq (CM_block ?_)))))))))
   refine CM_loop (σ := Nat × Nat × Nat) (fun s => [(0, .slice A n c), (2, .int .i64 ((m : Nat) : Int)), (4, .func (.func fc) #[] #[]), (14, .int .i64 ((s.1 : Nat) : Int)), (15, .int .i64 ((s.2.1 : Nat) : Int))]) (fun s => (iOwn (tSl (tCk K) 26) [.slice A n c] xs :: is)) (fun s => bsr (fun h => !ltc cf (gt xs m) (gt xs h)) s.2.2 s.1 s.2.1 = bsr (fun h => !ltc cf (gt xs m) (gt xs h)) (m - a) a m ∧ s.2.1 ≤ s.2.2 + s.1 ∧ a ≤ s.1 ∧ s.1 ≤ s.2.1 ∧ s.2.1 ≤ m) (fun s => s.2.1 - s.1) (a, m, m - a) sl5 (fun W hm => hm) ⟨(show bsr (fun h => !ltc cf (gt xs m) (gt xs h)) (m - a) a m = bsr (fun h => !ltc cf (gt xs m) (gt xs h)) (m - a) a m from rfl), (show m ≤ (m - a) + a from by omega), (show a ≤ a from by omega), (show a ≤ m from by omega), (show m ≤ m from by omega)⟩ ?_
   rintro ⟨i, j, f0⟩ H16
   obtain ⟨hB, hf5, hf6, hf7, hf8⟩ : bsr (fun h => !ltc cf (gt xs m) (gt xs h)) f0 i j = bsr (fun h => !ltc cf (gt xs m) (gt xs h)) (m - a) a m ∧ j ≤ f0 + i ∧ a ≤ i ∧ i ≤ j ∧ j ≤ m := H16
   show CM Tryz.prog 220 _ _ _ _ [(0, .slice A n c), (2, .int .i64 ((m : Nat) : Int)), (4, .func (.func fc) #[] #[]), (14, .int .i64 ((i : Nat) : Int)), (15, .int .i64 ((j : Nat) : Int))] (iOwn (tSl (tCk K) 26) [.slice A n c] xs :: is)
   refine CM_seq (sr (wm (wm ?_)))
   refine wv vlss ?_
   refine nt' ?_
   by_cases h17 : ((i : Nat) : Int) < ((j : Nat) : Int)
   ·have g18 := decide_eq_true h17
    refine CM_condT rfl g18 ?_
    refine CM_skip (QM_then (CM_block (sr (wm (wm ?_)))))
    refine wv (vadN i j (by omega)) ?_
    refine wv (fun W hm => rv_convIU (p := i + j) underlying3 underlying108 rfl (by omega)) ?_
    refine wv (fun W hm => rv_half rfl) ?_
    refine wv (fun W hm => rv_convUI (p := (i + j) / 2) underlying108 underlying3 rfl (by omega)) ?_
    refine wa (nt' (CM_seq ?_))
    refine CM_formO (n := 0) rfl (by omega) ?_
    rintro g19 rfl
    refine CM_regionD (by kernel_rfl) (by kernel_rfl) ?_
    refine qm (qm (qm ?_))
    refine qv (fun W hm => rv_index (sz := K.s) (k := m) underlying37 type26 hK.symm rfl rfl (by omega)) ?_
    refine qv (fun W hm => rv_loadCk underlying26 type26 hK.symm rfl hm (by omega)) ?_
    refine qm (qm ?_)
    refine qv (fun W hm => rv_index (sz := K.s) (k := (i + j) / 2) underlying37 type26 hK.symm rfl rfl (by omega)) ?_
    refine qv (fun W hm => rv_loadCk underlying26 type26 hK.symm rfl hm (by omega)) ?_
    refine QR_callV (cl_val (first := []) (caps := []) (vs := [.agg (gt xs m).1.toArray, .agg (gt xs ((i + j) / 2)).1.toArray]) (args := [.agg (gt xs m).1.toArray, .agg (gt xs ((i + j) / 2)).1.toArray]) H.cb rfl rfl rfl) (fun W hm => H.go W (gt xs m) (gt xs ((i + j) / 2)) hm.tail (hm.ck (by omega)).1 (hm.ck (by omega)).1) (Wd_none rfl) (by decide) ?_
    refine qv vlss ?_
    refine qv vnot ?_
    refine nq' ?_
    by_cases h20 : (cf (gt xs m).2 (gt xs ((i + j) / 2)).2) < 0
    ·have g21 := decide_eq_true h20
     refine CM_condF rfl (nt g21) ?_
     refine CM_region (wm (wa (WM_nil (QM_block_normal ?_))))
     exact QM_round (i, (i + j) / 2, f0 - 1) sl5 (fun W hm => hm) ⟨(show bsr (fun h => !ltc cf (gt xs m) (gt xs h)) (f0 - 1) i ((i + j) / 2) = bsr (fun h => !ltc cf (gt xs m) (gt xs h)) (m - a) a m from (bsr_f (by omega) hf5 (show (!decide (cf (gt xs m).2 (gt xs ((i + j) / 2)).2 < 0)) = false from by rw [decide_eq_true (show cf (gt xs m).2 (gt xs ((i + j) / 2)).2 < 0 by omega)]; rfl)).symm.trans hB), (show ((i + j) / 2) ≤ (f0 - 1) + i from by omega), (show a ≤ i from by omega), (show i ≤ ((i + j) / 2) from by omega), (show ((i + j) / 2) ≤ m from by omega)⟩ (show ((i + j) / 2) - i < j - i from by omega)
    ·have g21 := decide_eq_false h20
     refine CM_condT rfl (nf g21) ?_
     refine CM_region (wm ?_)
     refine wv (fun W hm => rv_addN (p := (i + j) / 2) (q := 1) rfl rfl (by omega)) ?_
     refine wa (WM_nil (QM_block_normal ?_))
     exact QM_round ((i + j) / 2 + 1, j, f0 - 1) sl5 (fun W hm => hm) ⟨(show bsr (fun h => !ltc cf (gt xs m) (gt xs h)) (f0 - 1) ((i + j) / 2 + 1) j = bsr (fun h => !ltc cf (gt xs m) (gt xs h)) (m - a) a m from (bsr_t (by omega) hf5 (show (!decide (cf (gt xs m).2 (gt xs ((i + j) / 2)).2 < 0)) = true from by rw [decide_eq_false (show ¬ cf (gt xs m).2 (gt xs ((i + j) / 2)).2 < 0 by omega)]; rfl)).symm.trans hB), (show j ≤ (f0 - 1) + ((i + j) / 2 + 1) from by omega), (show a ≤ ((i + j) / 2 + 1) from by omega), (show ((i + j) / 2 + 1) ≤ j from by omega), (show j ≤ m from by omega)⟩ (show j - ((i + j) / 2 + 1) < j - i from by omega)
   ·have g18 := decide_eq_false h17
    refine CM_condF rfl g18 ?_
    refine CM_exit (QM_then_exit (QM_then_exit ?_))
    have hA : bsr (fun h => !ltc cf (gt xs m) (gt xs h)) (m - a) a m = i := hB.symm.trans (bsr_e (by omega))
    refine QM_block_hit (QM_then (CM_seq (sr (wm (wa (nt' (CM_block ?_)))))))
    refine CM_loop (σ := Nat × List (List Value × α)) (fun s => [(0, .slice A n c), (14, .int .i64 ((i : Nat) : Int)), (17, .int .i64 ((s.1 : Nat) : Int))]) (fun s => (iOwn (tSl (tCk K) 26) [.slice A n c] s.2 :: is)) (fun s => mvD (s.1 - i) s.1 s.2 = mvD (m - i) m xs ∧ s.1 ≤ m) (fun s => s.1) (m, xs) sl3 (fun W hm => hm) ⟨(show mvD (m - i) m xs = mvD (m - i) m xs from rfl), (show m ≤ m from by omega)⟩ ?_
    rintro ⟨k, d⟩ H22
    obtain ⟨hU, hf9⟩ : mvD (k - i) k d = mvD (m - i) m xs ∧ k ≤ m := H22
    show CM Tryz.prog 220 _ _ _ _ [(0, .slice A n c), (14, .int .i64 ((i : Nat) : Int)), (17, .int .i64 ((k : Nat) : Int))] (iOwn (tSl (tCk K) 26) [.slice A n c] d :: is)
    refine CM_seq (sr (wm (wm ?_)))
    refine wv (fun W hm => rv_gtr rfl rfl) ?_
    refine nt' ?_
    by_cases h23 : ((i : Nat) : Int) < ((k : Nat) : Int)
    ·have g24 := decide_eq_true h23
     refine CM_condT rfl g24 ?_
     refine CM_skip (QM_then (CM_seq (CM_block ?_)))
     refine CM_formO (n := 0) rfl (by omega) ?_
     rintro g26 rfl
     refine CM_ck ?_
     intro hR25
     let I2 : It := iOwn (tSl (tCk K) 26) [.slice (some ⟨g26, 0, none⟩) n c] ((d.set k (gt d (k - 1))).set (k - 1) (gt d k))
     refine CM_cut (σ := Unit) (fun _ => [(0, .slice (some ⟨g26, 0, none⟩) n c), (14, .int .i64 ((i : Nat) : Int)), (17, .int .i64 ((k : Nat) : Int))]) (fun _ => (I2 :: is)) (fun _ => True) ?_ ?_
     ·
      refine rb 18 (s := (is)) (fun W hm => (hm).tail) ?_
      refine qt 18 0 1 rfl vmv ?_
      refine qt 18 1 3 rfl vmv ?_
      refine qt 18 2 7 rfl vmv ?_
      refine qt 18 3 15 rfl vmv ?_
      refine qt 18 4 31 rfl (fun W hm => rv_subN (p := k) (q := 1) rfl rfl (by omega) (by omega)) ?_
      refine qt 18 5 63 rfl vmv ?_
      refine qt 18 6 127 rfl vmv ?_
      refine qt 18 7 255 rfl (fun W hm => rv_subN (p := k) (q := 1) rfl rfl (by omega) (by omega)) ?_
      refine qt 18 8 511 rfl (fun W hm => rv_index (sz := K.s) (k := k - 1) underlying37 type26 hK.symm rfl rfl (by omega)) ?_
      refine qt 18 10 1535 rfl vmv ?_
      refine qt 18 11 3583 rfl vmv ?_
      refine qt 18 12 7679 rfl (fun W hm => rv_index (sz := K.s) (k := k) underlying37 type26 hK.symm rfl rfl (by omega)) ?_
      refine qa [9, 13] ?_
      refine qc 18 8191 rfl ?_ ?_
      ·
       refine wv (fun W hm => rv_loadCk underlying26 type26 hK.symm rfl hm (by omega)) ?_
       refine qn (fun W hm => (hm).tail) ?_
       refine qo 18 13 16383 rfl ?_
       refine wv (fun W hm => rv_loadCk underlying26 type26 hK.symm rfl hm (by omega)) ?_
       refine qn (fun W hm => (hm).tail) ?_
       refine qt 18 14 32767 rfl (fun W hm => rv_index (sz := K.s) (k := k) underlying37 type26 hK.symm rfl rfl (by omega)) ?_
       refine qo 18 15 65535 rfl ?_
       refine WM_setEl (E := tCk K) (e := 26) (u := .agg (gt d (k - 1)).1.toArray) (k := k) (p := g26) (n := n) (xs := d) (eis := []) (js := is) (yv := (gt d (k - 1))) (fun W hm => hm) (fun _ _ hs => ⟨hs, rfl, (hR25 (k - 1) (by omega))⟩) rfl type26 hK.symm (by omega) rfl rfl (Wd_none rfl) ?_
       refine qn (fun W hm => (hm).tail) ?_
       refine qt 18 16 131071 rfl (fun W hm => rv_index (sz := K.s) (k := k - 1) underlying37 type26 hK.symm rfl rfl (by omega)) ?_
       refine qo 18 17 262143 rfl ?_
       refine WM_setEl (E := tCk K) (e := 26) (u := .agg (gt d k).1.toArray) (k := (k - 1)) (p := g26) (n := n) (xs := (d.set k (gt d (k - 1)))) (eis := []) (js := is) (yv := (gt d k)) (fun W hm => hm) (fun _ _ hs => ⟨hs, rfl, (hR25 k (by omega))⟩) rfl type26 hK.symm (by omega) rfl rfl (Wd_none rfl) ?_
       refine qn (fun W hm => (hm).tail) ?_
       refine QB_done (by kernel_rfl) ?_
       exact QM_cut_normal () sl3 (fun W hm => hm) trivial
      refine qc 18 15871 rfl ?_ ?_
      ·
       refine wv (fun W hm => rv_loadCk underlying26 type26 hK.symm rfl hm (by omega)) ?_
       refine qn (fun W hm => (hm).tail) ?_
       refine qo 18 9 16383 rfl ?_
       refine wv (fun W hm => rv_loadCk underlying26 type26 hK.symm rfl hm (by omega)) ?_
       refine qn (fun W hm => (hm).tail) ?_
       refine qt 18 14 32767 rfl (fun W hm => rv_index (sz := K.s) (k := k) underlying37 type26 hK.symm rfl rfl (by omega)) ?_
       refine qo 18 15 65535 rfl ?_
       refine WM_setEl (E := tCk K) (e := 26) (u := .agg (gt d (k - 1)).1.toArray) (k := k) (p := g26) (n := n) (xs := d) (eis := []) (js := is) (yv := (gt d (k - 1))) (fun W hm => hm) (fun _ _ hs => ⟨hs, rfl, (hR25 (k - 1) (by omega))⟩) rfl type26 hK.symm (by omega) rfl rfl (Wd_none rfl) ?_
       refine qn (fun W hm => (hm).tail) ?_
       refine qt 18 16 131071 rfl (fun W hm => rv_index (sz := K.s) (k := k - 1) underlying37 type26 hK.symm rfl rfl (by omega)) ?_
       refine qo 18 17 262143 rfl ?_
       refine WM_setEl (E := tCk K) (e := 26) (u := .agg (gt d k).1.toArray) (k := (k - 1)) (p := g26) (n := n) (xs := (d.set k (gt d (k - 1)))) (eis := []) (js := is) (yv := (gt d k)) (fun W hm => hm) (fun _ _ hs => ⟨hs, rfl, (hR25 k (by omega))⟩) rfl type26 hK.symm (by omega) rfl rfl (Wd_none rfl) ?_
       refine qn (fun W hm => (hm).tail) ?_
       refine QB_done (by kernel_rfl) ?_
       exact QM_cut_normal () sl3 (fun W hm => hm) trivial
      exact QBs_nil
     ·
      rintro ⟨⟩ -
      show QM 220 _ _ _ .normal [(0, .slice (some ⟨g26, 0, none⟩) n c), (14, .int .i64 ((i : Nat) : Int)), (17, .int .i64 ((k : Nat) : Int))] (I2 :: is)
      refine QM_block_normal (QM_then (CM_region (wm ?_)))
      refine wv (fun W hm => rv_subN (p := k) (q := 1) rfl rfl (by omega) (by omega)) ?_
      refine wa (WM_nil ?_)
      exact QM_round (k - 1, ((d.set k (gt d (k - 1))).set (k - 1) (gt d k))) sl3 (fun W hm => hm) ⟨(show mvD ((k - 1) - i) (k - 1) ((d.set k (gt d (k - 1))).set (k - 1) (gt d k)) = mvD (m - i) m xs from (mvD_step (by omega)).symm.trans hU), (show (k - 1) ≤ m from by omega)⟩ (show (k - 1) < k from by omega)
    ·have g24 := decide_eq_false h23
     refine CM_condF rfl g24 ?_
     refine CM_exit (QM_then_exit (QM_then_exit (QM_block_hit (QM_then (CM_ret (QM_then_ret ?_))))))
     have hE : symm (ltc cf) (f + 1) a m b xs = d := (symm_b (by omega) (by omega)).trans (by rw [hA]; exact ((mvD_end (by omega)).symm.trans hU).symm)
     exact QM_ret0r rfl (fun W hm => ⟨rfl, by rw [hE]; exact hm⟩)
  ·have g15 := beq_eq_false_iff_ne.2 h14
   refine CM_condF rfl g15 ?_
   refine CM_skip (QM_then (sr (wm (wm ?_))))
   refine wv (vadN a b (by omega)) ?_
   refine wv (fun W hm => rv_convIU (p := a + b) underlying3 underlying108 rfl (by omega)) ?_
   refine wv (fun W hm => rv_half rfl) ?_
   refine wv (fun W hm => rv_convUI (p := (a + b) / 2) underlying108 underlying3 rfl (by omega)) ?_
   refine wa (nt' (sr (wm (wm ?_))))
   refine wv (fun W hm => rv_addN (p := (a + b) / 2) (q := m) rfl rfl (by omega)) ?_
   refine wa (nt' (sr (wa (wa (nt' (CM_seq (sr (wm (wm ?_)))))))))
   refine wv (fun W hm => rv_gtr rfl rfl) ?_
   refine nt' ?_
   refine CM_cut (σ := Nat × Nat) (fun s => [(0, .slice A n c), (1, .int .i64 ((a : Nat) : Int)), (2, .int .i64 ((m : Nat) : Int)), (3, .int .i64 ((b : Nat) : Int)), (4, .func (.func fc) #[] #[]), (18, .int .i64 (((a + b) / 2 : Nat) : Int)), (19, .int .i64 (((a + b) / 2 + m : Nat) : Int)), (20, .int .i64 ((s.1 : Nat) : Int)), (21, .int .i64 ((s.2 : Nat) : Int))]) (fun _ => (iOwn (tSl (tCk K) 26) [.slice A n c] xs :: is)) (fun s => s.1 = cond (decide ((a + b) / 2 < m)) ((a + b) / 2 + m - b) a ∧ s.2 = cond (decide ((a + b) / 2 < m)) ((a + b) / 2) m ∧ (((a + b) / 2 < m ∧ s.1 = (a + b) / 2 + m - b ∧ s.2 = (a + b) / 2) ∨ (m ≤ (a + b) / 2 ∧ s.1 = a ∧ s.2 = m))) ?_ ?_
   ·
    by_cases h27 : (((a + b) / 2 : Nat) : Int) < ((m : Nat) : Int)
    ·have g28 := decide_eq_true h27
     refine CM_condT rfl g28 ?_
     refine sr (wm (wm ?_))
     refine wv (fun W hm => rv_subN (p := (a + b) / 2 + m) (q := b) rfl rfl (by omega) (by omega)) ?_
     refine wa (nt' (CM_region (wm (wa (WM_nil ?_)))))
     exact QM_cut_normal ((a + b) / 2 + m - b, (a + b) / 2) sl9 (fun W hm => hm) ⟨by rw [decide_eq_true (show (a + b) / 2 < m by omega)]; rfl, by rw [decide_eq_true (show (a + b) / 2 < m by omega)]; rfl, .inl ⟨by omega, rfl, rfl⟩⟩
    ·have g28 := decide_eq_false h27
     refine CM_condF rfl g28 ?_
     refine sr (wm (wa (nt' (CM_region (wm (wa (WM_nil ?_)))))))
     exact QM_cut_normal (a, m) sl9 (fun W hm => hm) ⟨by rw [decide_eq_false (show ¬ (a + b) / 2 < m by omega)]; rfl, by rw [decide_eq_false (show ¬ (a + b) / 2 < m by omega)]; rfl, .inr ⟨by omega, rfl, rfl⟩⟩
   ·
    rintro ⟨s0, r0⟩ ⟨hs0, hr0, hs⟩
    show QM 220 _ _ _ .normal [(0, .slice A n c), (1, .int .i64 ((a : Nat) : Int)), (2, .int .i64 ((m : Nat) : Int)), (3, .int .i64 ((b : Nat) : Int)), (4, .func (.func fc) #[] #[]), (18, .int .i64 (((a + b) / 2 : Nat) : Int)), (19, .int .i64 (((a + b) / 2 + m : Nat) : Int)), (20, .int .i64 ((s0 : Nat) : Int)), (21, .int .i64 ((r0 : Nat) : Int))] (iOwn (tSl (tCk K) 26) [.slice A n c] xs :: is)
    refine QM_then (sr (wm ?_))
    refine wv (fun W hm => rv_subN (p := (a + b) / 2 + m) (q := 1) rfl rfl (by omega) (by omega)) ?_
    refine wa (nt' (CM_seq (CM_block ?_)))
    refine CM_loop (σ := Nat × Nat × Nat) (fun s => [(0, .slice A n c), (1, .int .i64 ((a : Nat) : Int)), (2, .int .i64 ((m : Nat) : Int)), (3, .int .i64 ((b : Nat) : Int)), (4, .func (.func fc) #[] #[]), (18, .int .i64 (((a + b) / 2 : Nat) : Int)), (19, .int .i64 (((a + b) / 2 + m : Nat) : Int)), (20, .int .i64 ((s.1 : Nat) : Int)), (21, .int .i64 ((s.2.1 : Nat) : Int)), (22, .int .i64 (((a + b) / 2 + m - 1 : Nat) : Int))]) (fun s => (iOwn (tSl (tCk K) 26) [.slice A n c] xs :: is)) (fun s => bsr (fun c => !ltc cf (gt xs ((a + b) / 2 + m - 1 - c)) (gt xs c)) s.2.2 s.1 s.2.1 = bsr (fun c => !ltc cf (gt xs ((a + b) / 2 + m - 1 - c)) (gt xs c)) (r0 - s0) s0 r0 ∧ s.2.1 ≤ s.2.2 + s.1 ∧ s0 ≤ s.1 ∧ s.1 ≤ s.2.1 ∧ s.2.1 ≤ r0) (fun s => s.2.1 - s.1) (s0, r0, r0 - s0) sl10 (fun W hm => hm) ⟨(show bsr (fun c => !ltc cf (gt xs ((a + b) / 2 + m - 1 - c)) (gt xs c)) (r0 - s0) s0 r0 = bsr (fun c => !ltc cf (gt xs ((a + b) / 2 + m - 1 - c)) (gt xs c)) (r0 - s0) s0 r0 from rfl), (show r0 ≤ (r0 - s0) + s0 from by omega), (show s0 ≤ s0 from by omega), (show s0 ≤ r0 from by omega), (show r0 ≤ r0 from by omega)⟩ ?_
    rintro ⟨i, j, f0⟩ H29
    obtain ⟨hB, hf5, hf6, hf7, hf8⟩ : bsr (fun c => !ltc cf (gt xs ((a + b) / 2 + m - 1 - c)) (gt xs c)) f0 i j = bsr (fun c => !ltc cf (gt xs ((a + b) / 2 + m - 1 - c)) (gt xs c)) (r0 - s0) s0 r0 ∧ j ≤ f0 + i ∧ s0 ≤ i ∧ i ≤ j ∧ j ≤ r0 := H29
    show CM Tryz.prog 220 _ _ _ _ [(0, .slice A n c), (1, .int .i64 ((a : Nat) : Int)), (2, .int .i64 ((m : Nat) : Int)), (3, .int .i64 ((b : Nat) : Int)), (4, .func (.func fc) #[] #[]), (18, .int .i64 (((a + b) / 2 : Nat) : Int)), (19, .int .i64 (((a + b) / 2 + m : Nat) : Int)), (20, .int .i64 ((i : Nat) : Int)), (21, .int .i64 ((j : Nat) : Int)), (22, .int .i64 (((a + b) / 2 + m - 1 : Nat) : Int))] (iOwn (tSl (tCk K) 26) [.slice A n c] xs :: is)
    refine CM_seq (sr (wm (wm ?_)))
    refine wv vlss ?_
    refine nt' ?_
    by_cases h30 : ((i : Nat) : Int) < ((j : Nat) : Int)
    ·have g31 := decide_eq_true h30
     refine CM_condT rfl g31 ?_
     refine CM_skip (QM_then (CM_block (sr (wm (wm ?_)))))
     refine wv (vadN i j (by omega)) ?_
     refine wv (fun W hm => rv_convIU (p := i + j) underlying3 underlying108 rfl (by omega)) ?_
     refine wv (fun W hm => rv_half rfl) ?_
     refine wv (fun W hm => rv_convUI (p := (i + j) / 2) underlying108 underlying3 rfl (by omega)) ?_
     refine wa (nt' (CM_seq ?_))
     refine CM_formO (n := 0) rfl (by omega) ?_
     rintro g32 rfl
     refine CM_regionD (by kernel_rfl) (by kernel_rfl) ?_
     refine qm (qm (qm (qm ?_)))
     refine qv (fun W hm => rv_subN (p := (a + b) / 2 + m - 1) (q := (i + j) / 2) rfl rfl (by omega) (by omega)) ?_
     refine qv (fun W hm => rv_index (sz := K.s) (k := (a + b) / 2 + m - 1 - ((i + j) / 2)) underlying37 type26 hK.symm rfl rfl (by omega)) ?_
     refine qv (fun W hm => rv_loadCk underlying26 type26 hK.symm rfl hm (by omega)) ?_
     refine qm (qm ?_)
     refine qv (fun W hm => rv_index (sz := K.s) (k := (i + j) / 2) underlying37 type26 hK.symm rfl rfl (by omega)) ?_
     refine qv (fun W hm => rv_loadCk underlying26 type26 hK.symm rfl hm (by omega)) ?_
     refine QR_callV (cl_val (first := []) (caps := []) (vs := [.agg (gt xs ((a + b) / 2 + m - 1 - ((i + j) / 2))).1.toArray, .agg (gt xs ((i + j) / 2)).1.toArray]) (args := [.agg (gt xs ((a + b) / 2 + m - 1 - ((i + j) / 2))).1.toArray, .agg (gt xs ((i + j) / 2)).1.toArray]) H.cb rfl rfl rfl) (fun W hm => H.go W (gt xs ((a + b) / 2 + m - 1 - ((i + j) / 2))) (gt xs ((i + j) / 2)) hm.tail (hm.ck (by omega)).1 (hm.ck (by omega)).1) (Wd_none rfl) (by decide) ?_
     refine qv vlss ?_
     refine qv vnot ?_
     refine nq' ?_
     by_cases h33 : (cf (gt xs ((a + b) / 2 + m - 1 - ((i + j) / 2))).2 (gt xs ((i + j) / 2)).2) < 0
     ·have g34 := decide_eq_true h33
      refine CM_condF rfl (nt g34) ?_
      refine CM_region (wm (wa (WM_nil (QM_block_normal ?_))))
      exact QM_round (i, (i + j) / 2, f0 - 1) sl10 (fun W hm => hm) ⟨(show bsr (fun c => !ltc cf (gt xs ((a + b) / 2 + m - 1 - c)) (gt xs c)) (f0 - 1) i ((i + j) / 2) = bsr (fun c => !ltc cf (gt xs ((a + b) / 2 + m - 1 - c)) (gt xs c)) (r0 - s0) s0 r0 from (bsr_f (by omega) hf5 (show (!decide (cf (gt xs ((a + b) / 2 + m - 1 - ((i + j) / 2))).2 (gt xs ((i + j) / 2)).2 < 0)) = false from by rw [decide_eq_true (show cf (gt xs ((a + b) / 2 + m - 1 - ((i + j) / 2))).2 (gt xs ((i + j) / 2)).2 < 0 by omega)]; rfl)).symm.trans hB), (show ((i + j) / 2) ≤ (f0 - 1) + i from by omega), (show s0 ≤ i from by omega), (show i ≤ ((i + j) / 2) from by omega), (show ((i + j) / 2) ≤ r0 from by omega)⟩ (show ((i + j) / 2) - i < j - i from by omega)
     ·have g34 := decide_eq_false h33
      refine CM_condT rfl (nf g34) ?_
      refine CM_region (wm ?_)
      refine wv (fun W hm => rv_addN (p := (i + j) / 2) (q := 1) rfl rfl (by omega)) ?_
      refine wa (WM_nil (QM_block_normal ?_))
      exact QM_round ((i + j) / 2 + 1, j, f0 - 1) sl10 (fun W hm => hm) ⟨(show bsr (fun c => !ltc cf (gt xs ((a + b) / 2 + m - 1 - c)) (gt xs c)) (f0 - 1) ((i + j) / 2 + 1) j = bsr (fun c => !ltc cf (gt xs ((a + b) / 2 + m - 1 - c)) (gt xs c)) (r0 - s0) s0 r0 from (bsr_t (by omega) hf5 (show (!decide (cf (gt xs ((a + b) / 2 + m - 1 - ((i + j) / 2))).2 (gt xs ((i + j) / 2)).2 < 0)) = true from by rw [decide_eq_false (show ¬ cf (gt xs ((a + b) / 2 + m - 1 - ((i + j) / 2))).2 (gt xs ((i + j) / 2)).2 < 0 by omega)]; rfl)).symm.trans hB), (show j ≤ (f0 - 1) + ((i + j) / 2 + 1) from by omega), (show s0 ≤ ((i + j) / 2 + 1) from by omega), (show ((i + j) / 2 + 1) ≤ j from by omega), (show j ≤ r0 from by omega)⟩ (show j - ((i + j) / 2 + 1) < j - i from by omega)
    ·have g31 := decide_eq_false h30
     refine CM_condF rfl g31 ?_
     refine CM_exit (QM_then_exit (QM_then_exit ?_))
     have hA : bsr (fun c => !ltc cf (gt xs ((a + b) / 2 + m - 1 - c)) (gt xs c)) (r0 - s0) s0 r0 = i := hB.symm.trans (bsr_e (by omega))
     refine QM_block_hit (QM_then (sr (wm (wm ?_))))
     refine wv (fun W hm => rv_subN (p := (a + b) / 2 + m) (q := i) rfl rfl (by omega) (by omega)) ?_
     refine wa (nt' (CM_seq (sr (wm (wm ?_)))))
     refine wv vlss ?_
     refine wm ?_
     by_cases h35 : ((i : Nat) : Int) < ((m : Nat) : Int)
     ·have g36 := decide_eq_true h35
      refine wg vmv g36 ?_
      refine wg vmv g36 ?_
      refine wg vlss g36 ?_
      refine wv (vpT g36) ?_
      refine nt' ?_
      by_cases h37 : ((m : Nat) : Int) < (((a + b) / 2 + m - i : Nat) : Int)
      ·have g38 := decide_eq_true h37
       refine CM_condT rfl g38 ?_
       refine CM_region (wm (wm (wm (wm (wm ?_)))))
       refine WM_callW (χ := Unit) (val := fun _ => .tuple #[]) (js := fun _ => (iOwn (tSl (tCk K) 26) [.slice A n c] (rot ((a + b) / 2 + m - i - i) m (m - i) ((a + b) / 2 + m - i - m) xs) :: is)) (cl_fn cb110 rfl) (fun W hm => (srt46_rot_c K hK cf fc B w0 is H A n c hn i m ((a + b) / 2 + m - i) xs (by omega) (by omega) (by omega) W hm).mono (fun _ _ h => ⟨(), h.1, h.2⟩)) (Wd_none rfl) (by decide) (fun _ => ?_)
       refine nt' (CM_seq (sr (wm (wm ?_))))
       refine wv vlss ?_
       refine wm ?_
       by_cases h39 : ((a : Nat) : Int) < ((i : Nat) : Int)
       ·have g40 := decide_eq_true h39
        refine wg vmv g40 ?_
        refine wg vmv g40 ?_
        refine wg vlss g40 ?_
        refine wv (vpT g40) ?_
        refine nt' ?_
        have g41 : (decide (((i : Nat) : Int) < (((a + b) / 2 : Nat) : Int))) = true := decide_eq_true (by omega)
        refine CM_condT rfl g41 ?_
        refine CM_region (wm (wm (wm (wm (wm ?_)))))
        refine WM_callW (χ := Unit) (val := fun _ => .tuple #[]) (js := fun _ => (iOwn (tSl (tCk K) 26) [.slice A n c] (symm (ltc cf) f a i ((a + b) / 2) (rot ((a + b) / 2 + m - i - i) m (m - i) ((a + b) / 2 + m - i - m) xs)) :: is)) (cl_fn cb87 rfl) (fun W hm => (ih a i ((a + b) / 2) (rot ((a + b) / 2 + m - i - i) m (m - i) ((a + b) / 2 + m - i - m) xs) (by omega) (by omega) (by omega) (by omega) W hm).mono (fun _ _ h => ⟨(), h.1, h.2⟩)) (Wd_none rfl) (by decide) (fun _ => ?_)
        refine nt' (sr (wm (wm ?_)))
        refine wv vlss ?_
        refine wm ?_
        have g42 : (decide ((((a + b) / 2 : Nat) : Int) < (((a + b) / 2 + m - i : Nat) : Int))) = true := decide_eq_true (by omega)
        refine wg vmv g42 ?_
        refine wg vmv g42 ?_
        refine wg vlss g42 ?_
        refine wv (vpT g42) ?_
        refine nt' ?_
        by_cases h43 : (((a + b) / 2 + m - i : Nat) : Int) < ((b : Nat) : Int)
        ·have g44 := decide_eq_true h43
         refine CM_condT rfl g44 ?_
         refine CM_region (wm (wm (wm (wm (wm ?_)))))
         refine WM_callW (χ := Unit) (val := fun _ => .tuple #[]) (js := fun _ => (iOwn (tSl (tCk K) 26) [.slice A n c] (symm (ltc cf) f ((a + b) / 2) ((a + b) / 2 + m - i) b (symm (ltc cf) f a i ((a + b) / 2) (rot ((a + b) / 2 + m - i - i) m (m - i) ((a + b) / 2 + m - i - m) xs))) :: is)) (cl_fn cb87 rfl) (fun W hm => (ih ((a + b) / 2) ((a + b) / 2 + m - i) b (symm (ltc cf) f a i ((a + b) / 2) (rot ((a + b) / 2 + m - i - i) m (m - i) ((a + b) / 2 + m - i - m) xs)) (by omega) (by omega) (by omega) (by omega) W hm).mono (fun _ _ h => ⟨(), h.1, h.2⟩)) (Wd_none rfl) (by decide) (fun _ => ?_)
         refine WM_nil ?_
         have hE : symm (ltc cf) (f + 1) a m b xs = (symm (ltc cf) f ((a + b) / 2) ((a + b) / 2 + m - i) b (symm (ltc cf) f a i ((a + b) / 2) (rot ((a + b) / 2 + m - i - i) m (m - i) ((a + b) / 2 + m - i - m) xs))) := symm_c (x1 := (rot ((a + b) / 2 + m - i - i) m (m - i) ((a + b) / 2 + m - i - m) xs)) (x2 := (symm (ltc cf) f a i ((a + b) / 2) (rot ((a + b) / 2 + m - i - i) m (m - i) ((a + b) / 2 + m - i - m) xs))) (x3 := (symm (ltc cf) f ((a + b) / 2) ((a + b) / 2 + m - i) b (symm (ltc cf) f a i ((a + b) / 2) (rot ((a + b) / 2 + m - i - i) m (m - i) ((a + b) / 2 + m - i - m) xs)))) (mid := (a + b) / 2) (n := (a + b) / 2 + m) (s0 := s0) (r0 := r0) (st := i) (en := (a + b) / 2 + m - i) (by omega) (by omega) rfl rfl hs0 hr0 hA.symm rfl ((cond_and_t (by omega) (by omega)).symm) ((cond_and_t (by omega) (by omega)).symm) ((cond_and_t (by omega) (by omega)).symm)
         exact QM_ret0 rfl (fun W hm => ⟨rfl, by rw [hE]; exact hm⟩)
        ·have g44 := decide_eq_false h43
         refine CM_condF rfl g44 ?_
         refine CM_skip ?_
         have hE : symm (ltc cf) (f + 1) a m b xs = (symm (ltc cf) f a i ((a + b) / 2) (rot ((a + b) / 2 + m - i - i) m (m - i) ((a + b) / 2 + m - i - m) xs)) := symm_c (x1 := (rot ((a + b) / 2 + m - i - i) m (m - i) ((a + b) / 2 + m - i - m) xs)) (x2 := (symm (ltc cf) f a i ((a + b) / 2) (rot ((a + b) / 2 + m - i - i) m (m - i) ((a + b) / 2 + m - i - m) xs))) (x3 := (symm (ltc cf) f a i ((a + b) / 2) (rot ((a + b) / 2 + m - i - i) m (m - i) ((a + b) / 2 + m - i - m) xs))) (mid := (a + b) / 2) (n := (a + b) / 2 + m) (s0 := s0) (r0 := r0) (st := i) (en := (a + b) / 2 + m - i) (by omega) (by omega) rfl rfl hs0 hr0 hA.symm rfl ((cond_and_t (by omega) (by omega)).symm) ((cond_and_t (by omega) (by omega)).symm) ((cond_and_f (by omega)).symm)
         exact QM_ret0 rfl (fun W hm => ⟨rfl, by rw [hE]; exact hm⟩)
       ·have g40 := decide_eq_false h39
        refine ws g40 ?_
        refine ws g40 ?_
        refine ws g40 ?_
        refine wv (vpF g40) ?_
        refine nt' ?_
        refine CM_condF rfl rfl ?_
        refine CM_skip (QM_then (sr (wm (wm ?_))))
        refine wv vlss ?_
        refine wm ?_
        have g45 : (decide ((((a + b) / 2 : Nat) : Int) < (((a + b) / 2 + m - i : Nat) : Int))) = true := decide_eq_true (by omega)
        refine wg vmv g45 ?_
        refine wg vmv g45 ?_
        refine wg vlss g45 ?_
        refine wv (vpT g45) ?_
        refine nt' ?_
        by_cases h46 : (((a + b) / 2 + m - i : Nat) : Int) < ((b : Nat) : Int)
        ·have g47 := decide_eq_true h46
         refine CM_condT rfl g47 ?_
         refine CM_region (wm (wm (wm (wm (wm ?_)))))
         refine WM_callW (χ := Unit) (val := fun _ => .tuple #[]) (js := fun _ => (iOwn (tSl (tCk K) 26) [.slice A n c] (symm (ltc cf) f ((a + b) / 2) ((a + b) / 2 + m - i) b (rot ((a + b) / 2 + m - i - i) m (m - i) ((a + b) / 2 + m - i - m) xs)) :: is)) (cl_fn cb87 rfl) (fun W hm => (ih ((a + b) / 2) ((a + b) / 2 + m - i) b (rot ((a + b) / 2 + m - i - i) m (m - i) ((a + b) / 2 + m - i - m) xs) (by omega) (by omega) (by omega) (by omega) W hm).mono (fun _ _ h => ⟨(), h.1, h.2⟩)) (Wd_none rfl) (by decide) (fun _ => ?_)
         refine WM_nil ?_
         have hE : symm (ltc cf) (f + 1) a m b xs = (symm (ltc cf) f ((a + b) / 2) ((a + b) / 2 + m - i) b (rot ((a + b) / 2 + m - i - i) m (m - i) ((a + b) / 2 + m - i - m) xs)) := symm_c (x1 := (rot ((a + b) / 2 + m - i - i) m (m - i) ((a + b) / 2 + m - i - m) xs)) (x2 := (rot ((a + b) / 2 + m - i - i) m (m - i) ((a + b) / 2 + m - i - m) xs)) (x3 := (symm (ltc cf) f ((a + b) / 2) ((a + b) / 2 + m - i) b (rot ((a + b) / 2 + m - i - i) m (m - i) ((a + b) / 2 + m - i - m) xs))) (mid := (a + b) / 2) (n := (a + b) / 2 + m) (s0 := s0) (r0 := r0) (st := i) (en := (a + b) / 2 + m - i) (by omega) (by omega) rfl rfl hs0 hr0 hA.symm rfl ((cond_and_t (by omega) (by omega)).symm) ((cond_and_f (by omega)).symm) ((cond_and_t (by omega) (by omega)).symm)
         exact QM_ret0 rfl (fun W hm => ⟨rfl, by rw [hE]; exact hm⟩)
        ·have g47 := decide_eq_false h46
         refine CM_condF rfl g47 ?_
         refine CM_skip ?_
         have hE : symm (ltc cf) (f + 1) a m b xs = (rot ((a + b) / 2 + m - i - i) m (m - i) ((a + b) / 2 + m - i - m) xs) := symm_c (x1 := (rot ((a + b) / 2 + m - i - i) m (m - i) ((a + b) / 2 + m - i - m) xs)) (x2 := (rot ((a + b) / 2 + m - i - i) m (m - i) ((a + b) / 2 + m - i - m) xs)) (x3 := (rot ((a + b) / 2 + m - i - i) m (m - i) ((a + b) / 2 + m - i - m) xs)) (mid := (a + b) / 2) (n := (a + b) / 2 + m) (s0 := s0) (r0 := r0) (st := i) (en := (a + b) / 2 + m - i) (by omega) (by omega) rfl rfl hs0 hr0 hA.symm rfl ((cond_and_t (by omega) (by omega)).symm) ((cond_and_f (by omega)).symm) ((cond_and_f (by omega)).symm)
         exact QM_ret0 rfl (fun W hm => ⟨rfl, by rw [hE]; exact hm⟩)
      ·have g38 := decide_eq_false h37
       refine CM_condF rfl g38 ?_
       refine CM_skip (QM_then (CM_seq (sr (wm (wm ?_)))))
       refine wv vlss ?_
       refine wm ?_
       by_cases h48 : ((a : Nat) : Int) < ((i : Nat) : Int)
       ·have g49 := decide_eq_true h48
        refine wg vmv g49 ?_
        refine wg vmv g49 ?_
        refine wg vlss g49 ?_
        refine wv (vpT g49) ?_
        refine nt' ?_
        have g50 : (decide (((i : Nat) : Int) < (((a + b) / 2 : Nat) : Int))) = false := decide_eq_false (by omega)
        refine CM_condF rfl g50 ?_
        refine CM_skip (QM_then (sr (wm (wm ?_))))
        refine wv vlss ?_
        refine wm ?_
        have g51 : (decide ((((a + b) / 2 : Nat) : Int) < (((a + b) / 2 + m - i : Nat) : Int))) = true := decide_eq_true (by omega)
        refine wg vmv g51 ?_
        refine wg vmv g51 ?_
        refine wg vlss g51 ?_
        refine wv (vpT g51) ?_
        refine nt' ?_
        by_cases h52 : (((a + b) / 2 + m - i : Nat) : Int) < ((b : Nat) : Int)
        ·have g53 := decide_eq_true h52
         refine CM_condT rfl g53 ?_
         refine CM_region (wm (wm (wm (wm (wm ?_)))))
         refine WM_callW (χ := Unit) (val := fun _ => .tuple #[]) (js := fun _ => (iOwn (tSl (tCk K) 26) [.slice A n c] (symm (ltc cf) f ((a + b) / 2) ((a + b) / 2 + m - i) b xs) :: is)) (cl_fn cb87 rfl) (fun W hm => (ih ((a + b) / 2) ((a + b) / 2 + m - i) b xs (by omega) (by omega) (by omega) (by omega) W hm).mono (fun _ _ h => ⟨(), h.1, h.2⟩)) (Wd_none rfl) (by decide) (fun _ => ?_)
         refine WM_nil ?_
         have hE : symm (ltc cf) (f + 1) a m b xs = (symm (ltc cf) f ((a + b) / 2) ((a + b) / 2 + m - i) b xs) := symm_c (x1 := xs) (x2 := xs) (x3 := (symm (ltc cf) f ((a + b) / 2) ((a + b) / 2 + m - i) b xs)) (mid := (a + b) / 2) (n := (a + b) / 2 + m) (s0 := s0) (r0 := r0) (st := i) (en := (a + b) / 2 + m - i) (by omega) (by omega) rfl rfl hs0 hr0 hA.symm rfl ((cond_and_f (by omega)).symm) ((cond_and_f (by omega)).symm) ((cond_and_t (by omega) (by omega)).symm)
         exact QM_ret0 rfl (fun W hm => ⟨rfl, by rw [hE]; exact hm⟩)
        ·have g53 := decide_eq_false h52
         refine CM_condF rfl g53 ?_
         refine CM_skip ?_
         have hE : symm (ltc cf) (f + 1) a m b xs = xs := symm_c (x1 := xs) (x2 := xs) (x3 := xs) (mid := (a + b) / 2) (n := (a + b) / 2 + m) (s0 := s0) (r0 := r0) (st := i) (en := (a + b) / 2 + m - i) (by omega) (by omega) rfl rfl hs0 hr0 hA.symm rfl ((cond_and_f (by omega)).symm) ((cond_and_f (by omega)).symm) ((cond_and_f (by omega)).symm)
         exact QM_ret0 rfl (fun W hm => ⟨rfl, by rw [hE]; exact hm⟩)
       ·have g49 := decide_eq_false h48
        refine ws g49 ?_
        refine ws g49 ?_
        refine ws g49 ?_
        refine wv (vpF g49) ?_
        refine nt' ?_
        refine CM_condF rfl rfl ?_
        refine CM_skip (QM_then (sr (wm (wm ?_))))
        refine wv vlss ?_
        refine wm ?_
        have g54 : (decide ((((a + b) / 2 : Nat) : Int) < (((a + b) / 2 + m - i : Nat) : Int))) = true := decide_eq_true (by omega)
        refine wg vmv g54 ?_
        refine wg vmv g54 ?_
        refine wg vlss g54 ?_
        refine wv (vpT g54) ?_
        refine nt' ?_
        by_cases h55 : (((a + b) / 2 + m - i : Nat) : Int) < ((b : Nat) : Int)
        ·have g56 := decide_eq_true h55
         refine CM_condT rfl g56 ?_
         refine CM_region (wm (wm (wm (wm (wm ?_)))))
         refine WM_callW (χ := Unit) (val := fun _ => .tuple #[]) (js := fun _ => (iOwn (tSl (tCk K) 26) [.slice A n c] (symm (ltc cf) f ((a + b) / 2) ((a + b) / 2 + m - i) b xs) :: is)) (cl_fn cb87 rfl) (fun W hm => (ih ((a + b) / 2) ((a + b) / 2 + m - i) b xs (by omega) (by omega) (by omega) (by omega) W hm).mono (fun _ _ h => ⟨(), h.1, h.2⟩)) (Wd_none rfl) (by decide) (fun _ => ?_)
         refine WM_nil ?_
         have hE : symm (ltc cf) (f + 1) a m b xs = (symm (ltc cf) f ((a + b) / 2) ((a + b) / 2 + m - i) b xs) := symm_c (x1 := xs) (x2 := xs) (x3 := (symm (ltc cf) f ((a + b) / 2) ((a + b) / 2 + m - i) b xs)) (mid := (a + b) / 2) (n := (a + b) / 2 + m) (s0 := s0) (r0 := r0) (st := i) (en := (a + b) / 2 + m - i) (by omega) (by omega) rfl rfl hs0 hr0 hA.symm rfl ((cond_and_f (by omega)).symm) ((cond_and_f (by omega)).symm) ((cond_and_t (by omega) (by omega)).symm)
         exact QM_ret0 rfl (fun W hm => ⟨rfl, by rw [hE]; exact hm⟩)
        ·have g56 := decide_eq_false h55
         refine CM_condF rfl g56 ?_
         refine CM_skip ?_
         have hE : symm (ltc cf) (f + 1) a m b xs = xs := symm_c (x1 := xs) (x2 := xs) (x3 := xs) (mid := (a + b) / 2) (n := (a + b) / 2 + m) (s0 := s0) (r0 := r0) (st := i) (en := (a + b) / 2 + m - i) (by omega) (by omega) rfl rfl hs0 hr0 hA.symm rfl ((cond_and_f (by omega)).symm) ((cond_and_f (by omega)).symm) ((cond_and_f (by omega)).symm)
         exact QM_ret0 rfl (fun W hm => ⟨rfl, by rw [hE]; exact hm⟩)
     ·have g36 := decide_eq_false h35
      refine ws g36 ?_
      refine ws g36 ?_
      refine ws g36 ?_
      refine wv (vpF g36) ?_
      refine nt' ?_
      refine CM_condF rfl rfl ?_
      refine CM_skip (QM_then (CM_seq (sr (wm (wm ?_)))))
      refine wv vlss ?_
      refine wm ?_
      by_cases h57 : ((a : Nat) : Int) < ((i : Nat) : Int)
      ·have g58 := decide_eq_true h57
       refine wg vmv g58 ?_
       refine wg vmv g58 ?_
       refine wg vlss g58 ?_
       refine wv (vpT g58) ?_
       refine nt' ?_
       by_cases h59 : ((i : Nat) : Int) < (((a + b) / 2 : Nat) : Int)
       ·have g60 := decide_eq_true h59
        refine CM_condT rfl g60 ?_
        refine CM_region (wm (wm (wm (wm (wm ?_)))))
        refine WM_callW (χ := Unit) (val := fun _ => .tuple #[]) (js := fun _ => (iOwn (tSl (tCk K) 26) [.slice A n c] (symm (ltc cf) f a i ((a + b) / 2) xs) :: is)) (cl_fn cb87 rfl) (fun W hm => (ih a i ((a + b) / 2) xs (by omega) (by omega) (by omega) (by omega) W hm).mono (fun _ _ h => ⟨(), h.1, h.2⟩)) (Wd_none rfl) (by decide) (fun _ => ?_)
        refine nt' (sr (wm (wm ?_)))
        refine wv vlss ?_
        refine wm ?_
        have g61 : (decide ((((a + b) / 2 : Nat) : Int) < (((a + b) / 2 + m - i : Nat) : Int))) = false := decide_eq_false (by omega)
        refine ws g61 ?_
        refine ws g61 ?_
        refine ws g61 ?_
        refine wv (vpF g61) ?_
        refine nt' ?_
        refine CM_condF rfl rfl ?_
        refine CM_skip ?_
        have hE : symm (ltc cf) (f + 1) a m b xs = (symm (ltc cf) f a i ((a + b) / 2) xs) := symm_c (x1 := xs) (x2 := (symm (ltc cf) f a i ((a + b) / 2) xs)) (x3 := (symm (ltc cf) f a i ((a + b) / 2) xs)) (mid := (a + b) / 2) (n := (a + b) / 2 + m) (s0 := s0) (r0 := r0) (st := i) (en := (a + b) / 2 + m - i) (by omega) (by omega) rfl rfl hs0 hr0 hA.symm rfl ((cond_and_f (by omega)).symm) ((cond_and_t (by omega) (by omega)).symm) ((cond_and_f (by omega)).symm)
        exact QM_ret0 rfl (fun W hm => ⟨rfl, by rw [hE]; exact hm⟩)
       ·have g60 := decide_eq_false h59
        refine CM_condF rfl g60 ?_
        refine CM_skip (QM_then (sr (wm (wm ?_))))
        refine wv vlss ?_
        refine wm ?_
        have g62 : (decide ((((a + b) / 2 : Nat) : Int) < (((a + b) / 2 + m - i : Nat) : Int))) = false := decide_eq_false (by omega)
        refine ws g62 ?_
        refine ws g62 ?_
        refine ws g62 ?_
        refine wv (vpF g62) ?_
        refine nt' ?_
        refine CM_condF rfl rfl ?_
        refine CM_skip ?_
        have hE : symm (ltc cf) (f + 1) a m b xs = xs := symm_c (x1 := xs) (x2 := xs) (x3 := xs) (mid := (a + b) / 2) (n := (a + b) / 2 + m) (s0 := s0) (r0 := r0) (st := i) (en := (a + b) / 2 + m - i) (by omega) (by omega) rfl rfl hs0 hr0 hA.symm rfl ((cond_and_f (by omega)).symm) ((cond_and_f (by omega)).symm) ((cond_and_f (by omega)).symm)
        exact QM_ret0 rfl (fun W hm => ⟨rfl, by rw [hE]; exact hm⟩)
      ·have g58 := decide_eq_false h57
       refine ws g58 ?_
       refine ws g58 ?_
       refine ws g58 ?_
       refine wv (vpF g58) ?_
       refine nt' ?_
       refine CM_condF rfl rfl ?_
       refine CM_skip (QM_then (sr (wm (wm ?_))))
       refine wv vlss ?_
       refine wm ?_
       have g63 : (decide ((((a + b) / 2 : Nat) : Int) < (((a + b) / 2 + m - i : Nat) : Int))) = false := decide_eq_false (by omega)
       refine ws g63 ?_
       refine ws g63 ?_
       refine ws g63 ?_
       refine wv (vpF g63) ?_
       refine nt' ?_
       refine CM_condF rfl rfl ?_
       refine CM_skip ?_
       have hE : symm (ltc cf) (f + 1) a m b xs = xs := symm_c (x1 := xs) (x2 := xs) (x3 := xs) (mid := (a + b) / 2) (n := (a + b) / 2 + m) (s0 := s0) (r0 := r0) (st := i) (en := (a + b) / 2 + m - i) (by omega) (by omega) rfl rfl hs0 hr0 hA.symm rfl ((cond_and_f (by omega)).symm) ((cond_and_f (by omega)).symm) ((cond_and_f (by omega)).symm)
       exact QM_ret0 rfl (fun W hm => ⟨rfl, by rw [hE]; exact hm⟩)

end Go.Proofs.YtfdaaliffcfjjaaGreatDoor
