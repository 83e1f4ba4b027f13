/-
  Contracts of functions, printed by a program of ours.
-/
import Derived.Test.YtlnblljlkeokjaaGreatL3F1
namespace Go.Proofs.YtlnblljlkeokjaaGreat
open Go.RowKit
set_option maxRecDepth 100000
set_option maxHeartbeats 4000000
open _root_.Go.Proofs.Tryz
def spec_l10Copy_m (x0 : DCharge) : DCharge :=
 x0
theorem cb64 : Cb Tryz.prog 64 := ⟨f64, _, func64, rfl, by decide⟩
theorem spec_l10Copy_c (w : World) (z0 : List Value) (x0 : DCharge) (r_0 : tyCharge.rd w w.heap.size z0 x0) (s_0 : smCharge 68719476736 x0) :
  Calls Tryz.prog 64 #[.agg z0.toArray] w fun e w' => ∃ v : List Value, e = .returned (.agg v.toArray) ∧ Mem w.heap.size w [iOwn tyCharge v (spec_l10Copy_m x0)] w' := by
 obtain ⟨v1, v3, v5, rfl, r2, r4, r6⟩ := tyCharge_rd r_0
 have r11 := r2
 obtain ⟨m7, A8, c9, rfl, q10⟩ := r2
 have r16 := r4
 obtain ⟨m12, A13, c14, rfl, q15⟩ := r4
 have r21 := r6
 obtain ⟨m17, A18, c19, rfl, q20⟩ := r6
 have l22 : x0.Ids.length ≤ 68719476736 := s_0.1
 have l23 : x0.Tenants.length ≤ 68719476736 := s_0.2.1
 have l24 : x0.Rows.length ≤ 68719476736 := s_0.2.2
 refine ce1 (L := [(0, .agg #[.int .i64 x0.Segment, .int .i64 x0.Base, .slice A8 x0.Ids.length c9, .slice A13 x0.Tenants.length c14, .slice A18 x0.Rows.length c19])]) (N := 20) func64 ?_
 refine sr ?_
 refine WM_box rfl (Wd_none rfl) (by decide) (fun p25 => ?_)
 refine WM_alloc type99 rfl (Wd_none rfl) (by decide) (fun p26 => ?_)
 refine nt' (CM_seq ?_)
 let K1 : List Value := [.int .i64 x0.Segment, .int .i64 x0.Base, .slice A8 x0.Ids.length c9, .slice A13 x0.Tenants.length c14, .slice A18 x0.Rows.length c19]
 refine CM_cut (σ := Option Addr × Nat × Option Addr × Nat × Option Addr × Nat) (fun s => [(2, .pointer (some (⟨p26, 0, none⟩ : Addr)))]) (fun s => [iBox p26 99 [.int .i64 x0.Segment, .int .i64 x0.Base, .slice s.1 x0.Ids.length s.2.1, .slice s.2.2.1 x0.Tenants.length s.2.2.2.1, .slice s.2.2.2.2.1 x0.Rows.length s.2.2.2.2.2], iOwn (tSl tInt 3) [.slice s.2.2.2.2.1 x0.Rows.length s.2.2.2.2.2] x0.Rows, iOwn (tSl tInt 3) [.slice s.2.2.1 x0.Tenants.length s.2.2.2.1] x0.Tenants, iOwn (tSl tInt 3) [.slice s.1 x0.Ids.length s.2.1] x0.Ids, iBox p25 99 K1]) (fun _ => True) ?_ ?_
 ·
  refine rb 18 (s := [iBox p25 99 K1]) (pk [1]) ?_
  refine qt 18 0 1 rfl (vf underlying99 rfl type3) ?_
  refine qt 18 1 3 rfl (vl 0 0 underlying3) ?_
  refine qt 18 2 7 rfl (vf underlying99 rfl type3) ?_
  refine qt 18 3 15 rfl (vl 0 1 underlying3) ?_
  refine qt 18 5 47 rfl (vf underlying99 rfl type25) ?_
  refine qt 18 6 111 rfl (vl 0 2 underlying25) ?_
  refine qt 18 9 623 rfl (vf underlying99 rfl type25) ?_
  refine qt 18 10 1647 rfl (vl 0 3 underlying25) ?_
  refine qt 18 13 9839 rfl (vf underlying99 rfl type25) ?_
  refine qt 18 14 26223 rfl (vl 0 4 underlying25) ?_
  refine qa [4, 8, 12] ?_
  refine qc 18 26239 rfl ?_ ?_
  ·
   refine WM_build0 (E := tInt) underlying25 type3 (Wd_none rfl) (by decide) (fun p48 => ?_)
   refine qn (pk [2]) ?_
   refine qa [7, 8, 12] ?_
   refine qc 18 26367 rfl ?_ ?_
   ·
    let K2 : List Value := [.int .i64 0, .int .i64 0, .slice none 0 0, .slice none 0 0, .slice none 0 0]
    refine apR tInt tInt 3 (.slice (some ⟨p48, 0, none⟩) 0 0) [] x0.Ids [iBox p26 99 K2, iBox p25 99 K1] (fun W hm => hm) (fun W hm => src_flat flat_int (hm.rdS0 r11)) underlying25 type3 (show (0 + x0.Ids.length) * 8 ≤ 140737488355328 from by omega) (fun v50 => ?_)
    refine WM_form (n := 0) rfl ?_
    rintro A51 c52 rfl m53
    refine qn (pk [2]) ?_
    refine qa [8, 12] ?_
    refine qc 18 26623 rfl ?_ ?_
    ·
     refine WM_build0 (E := tInt) underlying25 type3 (Wd_none rfl) (by decide) (fun p55 => ?_)
     refine qn (pk [3]) ?_
     refine qa [11, 12] ?_
     refine qc 18 28671 rfl ?_ ?_
     ·
      let I29 : It := iOwn (tSl tInt 3) [.slice A51 x0.Ids.length c52] x0.Ids
      refine apR tInt tInt 3 (.slice (some ⟨p55, 0, none⟩) 0 0) [] x0.Tenants [I29, iBox p26 99 K2, iBox p25 99 K1] (fun W hm => hm) (fun W hm => src_flat flat_int (hm.rdS0 r16)) underlying25 type3 (show (0 + x0.Tenants.length) * 8 ≤ 140737488355328 from by omega) (fun v57 => ?_)
      refine WM_form (n := 0) rfl ?_
      rintro A58 c59 rfl m60
      refine qn (pk [3]) ?_
      refine qo 18 12 32767 rfl ?_
      refine WM_build0 (E := tInt) underlying25 type3 (Wd_none rfl) (by decide) (fun p62 => ?_)
      refine qn (pk [4]) ?_
      refine qo 18 15 65535 rfl ?_
      let I30 : It := iOwn (tSl tInt 3) [.slice A58 x0.Tenants.length c59] x0.Tenants
      refine apR tInt tInt 3 (.slice (some ⟨p62, 0, none⟩) 0 0) [] x0.Rows [I30, I29, iBox p26 99 K2, iBox p25 99 K1] (fun W hm => hm) (fun W hm => src_flat flat_int (hm.rdS0 r21)) underlying25 type3 (show (0 + x0.Rows.length) * 8 ≤ 140737488355328 from by omega) (fun v64 => ?_)
      refine WM_form (n := 0) rfl ?_
      rintro A65 c66 rfl m67
      refine qn (pk [4]) ?_
      let K3 : List Value := [.int .i64 x0.Segment, .int .i64 x0.Base, .slice A51 x0.Ids.length c52, .slice A58 x0.Tenants.length c59, .slice A65 x0.Rows.length c66]
      refine qt 18 16 131071 rfl (fun W hm => rv_build (cs := K3) rfl (by kernel_rfl)) ?_
      refine qo 18 17 262143 rfl ?_
      refine sb 0 K3 [iOwn (tSl tInt 3) [.slice A65 x0.Rows.length c66] x0.Rows, I30, I29, iBox p25 99 K1] (pk [3, 0, 1, 2, 4]) type99 ?_
      refine qn (pk [4]) ?_
      refine QB_done (by kernel_rfl) ?_
      exact QM_cut_normal (A51, c52, A58, c59, A65, c66) (subL_cons rfl subL_nil) (fun W hm => hm) trivial
     refine qc 18 30719 rfl ?_ ?_
     ·
      refine WM_build0 (E := tInt) underlying25 type3 (Wd_none rfl) (by decide) (fun p69 => ?_)
      refine qn (pk [4]) ?_
      refine qo 18 11 32767 rfl ?_
      let I31 : It := iOwn (tSl tInt 3) [.slice A51 x0.Ids.length c52] x0.Ids
      refine apR tInt tInt 3 (.slice (some ⟨p55, 0, none⟩) 0 0) [] x0.Tenants [iOwn (tSl tInt 3) [.slice (some ⟨p69, 0, none⟩) 0 0] [], I31, iBox p26 99 K2, iBox p25 99 K1] (pk [1, 0, 2, 3, 4]) (fun W hm => src_flat flat_int (hm.rdS0 r16)) underlying25 type3 (show (0 + x0.Tenants.length) * 8 ≤ 140737488355328 from by omega) (fun v71 => ?_)
      refine WM_form (n := 0) rfl ?_
      rintro A72 c73 rfl m74
      refine qn (pk [4]) ?_
      refine qo 18 15 65535 rfl ?_
      let I32 : It := iOwn (tSl tInt 3) [.slice A72 x0.Tenants.length c73] x0.Tenants
      refine apR tInt tInt 3 (.slice (some ⟨p69, 0, none⟩) 0 0) [] x0.Rows [I32, I31, iBox p26 99 K2, iBox p25 99 K1] (pk [1, 0, 2, 3, 4]) (fun W hm => src_flat flat_int (hm.rdS0 r21)) underlying25 type3 (show (0 + x0.Rows.length) * 8 ≤ 140737488355328 from by omega) (fun v76 => ?_)
      refine WM_form (n := 0) rfl ?_
      rintro A77 c78 rfl m79
      refine qn (pk [4]) ?_
      let K4 : List Value := [.int .i64 x0.Segment, .int .i64 x0.Base, .slice A51 x0.Ids.length c52, .slice A72 x0.Tenants.length c73, .slice A77 x0.Rows.length c78]
      refine qt 18 16 131071 rfl (fun W hm => rv_build (cs := K4) rfl (by kernel_rfl)) ?_
      refine qo 18 17 262143 rfl ?_
      refine sb 0 K4 [iOwn (tSl tInt 3) [.slice A77 x0.Rows.length c78] x0.Rows, I32, I31, iBox p25 99 K1] (pk [3, 0, 1, 2, 4]) type99 ?_
      refine qn (pk [4]) ?_
      refine QB_done (by kernel_rfl) ?_
      exact QM_cut_normal (A51, c52, A72, c73, A77, c78) (subL_cons rfl subL_nil) (fun W hm => hm) trivial
     exact QBs_nil
    refine qc 18 30463 rfl ?_ ?_
    ·
     refine WM_build0 (E := tInt) underlying25 type3 (Wd_none rfl) (by decide) (fun p81 => ?_)
     refine qn (pk [3]) ?_
     refine qo 18 8 30719 rfl ?_
     refine WM_build0 (E := tInt) underlying25 type3 (Wd_none rfl) (by decide) (fun p83 => ?_)
     refine qn (pk [4]) ?_
     refine qo 18 11 32767 rfl ?_
     let I33 : It := iOwn (tSl tInt 3) [.slice A51 x0.Ids.length c52] x0.Ids
     refine apR tInt tInt 3 (.slice (some ⟨p83, 0, none⟩) 0 0) [] x0.Tenants [iOwn (tSl tInt 3) [.slice (some ⟨p81, 0, none⟩) 0 0] [], I33, iBox p26 99 K2, iBox p25 99 K1] (fun W hm => hm) (fun W hm => src_flat flat_int (hm.rdS0 r16)) underlying25 type3 (show (0 + x0.Tenants.length) * 8 ≤ 140737488355328 from by omega) (fun v85 => ?_)
     refine WM_form (n := 0) rfl ?_
     rintro A86 c87 rfl m88
     refine qn (pk [4]) ?_
     refine qo 18 15 65535 rfl ?_
     let I34 : It := iOwn (tSl tInt 3) [.slice A86 x0.Tenants.length c87] x0.Tenants
     refine apR tInt tInt 3 (.slice (some ⟨p81, 0, none⟩) 0 0) [] x0.Rows [I34, I33, iBox p26 99 K2, iBox p25 99 K1] (pk [1, 0, 2, 3, 4]) (fun W hm => src_flat flat_int (hm.rdS0 r21)) underlying25 type3 (show (0 + x0.Rows.length) * 8 ≤ 140737488355328 from by omega) (fun v90 => ?_)
     refine WM_form (n := 0) rfl ?_
     rintro A91 c92 rfl m93
     refine qn (pk [4]) ?_
     let K5 : List Value := [.int .i64 x0.Segment, .int .i64 x0.Base, .slice A51 x0.Ids.length c52, .slice A86 x0.Tenants.length c87, .slice A91 x0.Rows.length c92]
     refine qt 18 16 131071 rfl (fun W hm => rv_build (cs := K5) rfl (by kernel_rfl)) ?_
     refine qo 18 17 262143 rfl ?_
     refine sb 0 K5 [iOwn (tSl tInt 3) [.slice A91 x0.Rows.length c92] x0.Rows, I34, I33, iBox p25 99 K1] (pk [3, 0, 1, 2, 4]) type99 ?_
     refine qn (pk [4]) ?_
     refine QB_done (by kernel_rfl) ?_
     exact QM_cut_normal (A51, c52, A86, c87, A91, c92) (subL_cons rfl subL_nil) (fun W hm => hm) trivial
    exact QBs_nil
   refine qc 18 26495 rfl ?_ ?_
   ·
    refine WM_build0 (E := tInt) underlying25 type3 (Wd_none rfl) (by decide) (fun p95 => ?_)
    refine qn (pk [3]) ?_
    refine qa [7, 12] ?_
    refine qc 18 26623 rfl ?_ ?_
    ·
     let K6 : List Value := [.int .i64 0, .int .i64 0, .slice none 0 0, .slice none 0 0, .slice none 0 0]
     refine apR tInt tInt 3 (.slice (some ⟨p48, 0, none⟩) 0 0) [] x0.Ids [iOwn (tSl tInt 3) [.slice (some ⟨p95, 0, none⟩) 0 0] [], iBox p26 99 K6, iBox p25 99 K1] (pk [1, 0, 2, 3]) (fun W hm => src_flat flat_int (hm.rdS0 r11)) underlying25 type3 (show (0 + x0.Ids.length) * 8 ≤ 140737488355328 from by omega) (fun v97 => ?_)
     refine WM_form (n := 0) rfl ?_
     rintro A98 c99 rfl m100
     refine qn (pk [3]) ?_
     refine qa [11, 12] ?_
     refine qc 18 28671 rfl ?_ ?_
     ·
      let I35 : It := iOwn (tSl tInt 3) [.slice A98 x0.Ids.length c99] x0.Ids
      refine apR tInt tInt 3 (.slice (some ⟨p95, 0, none⟩) 0 0) [] x0.Tenants [I35, iBox p26 99 K6, iBox p25 99 K1] (pk [1, 0, 2, 3]) (fun W hm => src_flat flat_int (hm.rdS0 r16)) underlying25 type3 (show (0 + x0.Tenants.length) * 8 ≤ 140737488355328 from by omega) (fun v102 => ?_)
      refine WM_form (n := 0) rfl ?_
      rintro A103 c104 rfl m105
      refine qn (pk [3]) ?_
      refine qo 18 12 32767 rfl ?_
      refine WM_build0 (E := tInt) underlying25 type3 (Wd_none rfl) (by decide) (fun p107 => ?_)
      refine qn (pk [4]) ?_
      refine qo 18 15 65535 rfl ?_
      let I36 : It := iOwn (tSl tInt 3) [.slice A103 x0.Tenants.length c104] x0.Tenants
      refine apR tInt tInt 3 (.slice (some ⟨p107, 0, none⟩) 0 0) [] x0.Rows [I36, I35, iBox p26 99 K6, iBox p25 99 K1] (fun W hm => hm) (fun W hm => src_flat flat_int (hm.rdS0 r21)) underlying25 type3 (show (0 + x0.Rows.length) * 8 ≤ 140737488355328 from by omega) (fun v109 => ?_)
      refine WM_form (n := 0) rfl ?_
      rintro A110 c111 rfl m112
      refine qn (pk [4]) ?_
      let K7 : List Value := [.int .i64 x0.Segment, .int .i64 x0.Base, .slice A98 x0.Ids.length c99, .slice A103 x0.Tenants.length c104, .slice A110 x0.Rows.length c111]
      refine qt 18 16 131071 rfl (fun W hm => rv_build (cs := K7) rfl (by kernel_rfl)) ?_
      refine qo 18 17 262143 rfl ?_
      refine sb 0 K7 [iOwn (tSl tInt 3) [.slice A110 x0.Rows.length c111] x0.Rows, I36, I35, iBox p25 99 K1] (pk [3, 0, 1, 2, 4]) type99 ?_
      refine qn (pk [4]) ?_
      refine QB_done (by kernel_rfl) ?_
      exact QM_cut_normal (A98, c99, A103, c104, A110, c111) (subL_cons rfl subL_nil) (fun W hm => hm) trivial
     refine qc 18 30719 rfl ?_ ?_
     ·
      refine WM_build0 (E := tInt) underlying25 type3 (Wd_none rfl) (by decide) (fun p114 => ?_)
      refine qn (pk [4]) ?_
      refine qo 18 11 32767 rfl ?_
      let I37 : It := iOwn (tSl tInt 3) [.slice A98 x0.Ids.length c99] x0.Ids
      refine apR tInt tInt 3 (.slice (some ⟨p95, 0, none⟩) 0 0) [] x0.Tenants [iOwn (tSl tInt 3) [.slice (some ⟨p114, 0, none⟩) 0 0] [], I37, iBox p26 99 K6, iBox p25 99 K1] (pk [2, 0, 1, 3, 4]) (fun W hm => src_flat flat_int (hm.rdS0 r16)) underlying25 type3 (show (0 + x0.Tenants.length) * 8 ≤ 140737488355328 from by omega) (fun v116 => ?_)
      refine WM_form (n := 0) rfl ?_
      rintro A117 c118 rfl m119
      refine qn (pk [4]) ?_
      refine qo 18 15 65535 rfl ?_
      let I38 : It := iOwn (tSl tInt 3) [.slice A117 x0.Tenants.length c118] x0.Tenants
      refine apR tInt tInt 3 (.slice (some ⟨p114, 0, none⟩) 0 0) [] x0.Rows [I38, I37, iBox p26 99 K6, iBox p25 99 K1] (pk [1, 0, 2, 3, 4]) (fun W hm => src_flat flat_int (hm.rdS0 r21)) underlying25 type3 (show (0 + x0.Rows.length) * 8 ≤ 140737488355328 from by omega) (fun v121 => ?_)
      refine WM_form (n := 0) rfl ?_
      rintro A122 c123 rfl m124
      refine qn (pk [4]) ?_
      let K8 : List Value := [.int .i64 x0.Segment, .int .i64 x0.Base, .slice A98 x0.Ids.length c99, .slice A117 x0.Tenants.length c118, .slice A122 x0.Rows.length c123]
      refine qt 18 16 131071 rfl (fun W hm => rv_build (cs := K8) rfl (by kernel_rfl)) ?_
      refine qo 18 17 262143 rfl ?_
      refine sb 0 K8 [iOwn (tSl tInt 3) [.slice A122 x0.Rows.length c123] x0.Rows, I38, I37, iBox p25 99 K1] (pk [3, 0, 1, 2, 4]) type99 ?_
      refine qn (pk [4]) ?_
      refine QB_done (by kernel_rfl) ?_
      exact QM_cut_normal (A98, c99, A117, c118, A122, c123) (subL_cons rfl subL_nil) (fun W hm => hm) trivial
     exact QBs_nil
    refine qc 18 30591 rfl ?_ ?_
    ·
     refine WM_build0 (E := tInt) underlying25 type3 (Wd_none rfl) (by decide) (fun p126 => ?_)
     refine qn (pk [4]) ?_
     refine qo 18 7 30719 rfl ?_
     let K9 : List Value := [.int .i64 0, .int .i64 0, .slice none 0 0, .slice none 0 0, .slice none 0 0]
     let I39 : It := iOwn (tSl tInt 3) [.slice (some ⟨p126, 0, none⟩) 0 0] []
     refine apR tInt tInt 3 (.slice (some ⟨p48, 0, none⟩) 0 0) [] x0.Ids [I39, iOwn (tSl tInt 3) [.slice (some ⟨p95, 0, none⟩) 0 0] [], iBox p26 99 K9, iBox p25 99 K1] (pk [2, 0, 1, 3, 4]) (fun W hm => src_flat flat_int (hm.rdS0 r11)) underlying25 type3 (show (0 + x0.Ids.length) * 8 ≤ 140737488355328 from by omega) (fun v128 => ?_)
     refine WM_form (n := 0) rfl ?_
     rintro A129 c130 rfl m131
     refine qn (pk [4]) ?_
     refine qo 18 11 32767 rfl ?_
     let I40 : It := iOwn (tSl tInt 3) [.slice A129 x0.Ids.length c130] x0.Ids
     refine apR tInt tInt 3 (.slice (some ⟨p95, 0, none⟩) 0 0) [] x0.Tenants [I40, I39, iBox p26 99 K9, iBox p25 99 K1] (pk [2, 0, 1, 3, 4]) (fun W hm => src_flat flat_int (hm.rdS0 r16)) underlying25 type3 (show (0 + x0.Tenants.length) * 8 ≤ 140737488355328 from by omega) (fun v133 => ?_)
     refine WM_form (n := 0) rfl ?_
     rintro A134 c135 rfl m136
     refine qn (pk [4]) ?_
     refine qo 18 15 65535 rfl ?_
     let I41 : It := iOwn (tSl tInt 3) [.slice A134 x0.Tenants.length c135] x0.Tenants
     refine apR tInt tInt 3 (.slice (some ⟨p126, 0, none⟩) 0 0) [] x0.Rows [I41, I40, iBox p26 99 K9, iBox p25 99 K1] (pk [2, 0, 1, 3, 4]) (fun W hm => src_flat flat_int (hm.rdS0 r21)) underlying25 type3 (show (0 + x0.Rows.length) * 8 ≤ 140737488355328 from by omega) (fun v138 => ?_)
     refine WM_form (n := 0) rfl ?_
     rintro A139 c140 rfl m141
     refine qn (pk [4]) ?_
     let K10 : List Value := [.int .i64 x0.Segment, .int .i64 x0.Base, .slice A129 x0.Ids.length c130, .slice A134 x0.Tenants.length c135, .slice A139 x0.Rows.length c140]
     refine qt 18 16 131071 rfl (fun W hm => rv_build (cs := K10) rfl (by kernel_rfl)) ?_
     refine qo 18 17 262143 rfl ?_
     refine sb 0 K10 [iOwn (tSl tInt 3) [.slice A139 x0.Rows.length c140] x0.Rows, I41, I40, iBox p25 99 K1] (pk [3, 0, 1, 2, 4]) type99 ?_
     refine qn (pk [4]) ?_
     refine QB_done (by kernel_rfl) ?_
     exact QM_cut_normal (A129, c130, A134, c135, A139, c140) (subL_cons rfl subL_nil) (fun W hm => hm) trivial
    exact QBs_nil
   refine qc 18 30335 rfl ?_ ?_
   ·
    refine WM_build0 (E := tInt) underlying25 type3 (Wd_none rfl) (by decide) (fun p143 => ?_)
    refine qn (pk [3]) ?_
    refine qa [7, 8] ?_
    refine qc 18 30463 rfl ?_ ?_
    ·
     let K11 : List Value := [.int .i64 0, .int .i64 0, .slice none 0 0, .slice none 0 0, .slice none 0 0]
     let I42 : It := iOwn (tSl tInt 3) [.slice (some ⟨p143, 0, none⟩) 0 0] []
     refine apR tInt tInt 3 (.slice (some ⟨p48, 0, none⟩) 0 0) [] x0.Ids [I42, iBox p26 99 K11, iBox p25 99 K1] (pk [1, 0, 2, 3]) (fun W hm => src_flat flat_int (hm.rdS0 r11)) underlying25 type3 (show (0 + x0.Ids.length) * 8 ≤ 140737488355328 from by omega) (fun v145 => ?_)
     refine WM_form (n := 0) rfl ?_
     rintro A146 c147 rfl m148
     refine qn (pk [3]) ?_
     refine qo 18 8 30719 rfl ?_
     refine WM_build0 (E := tInt) underlying25 type3 (Wd_none rfl) (by decide) (fun p150 => ?_)
     refine qn (pk [4]) ?_
     refine qo 18 11 32767 rfl ?_
     let I43 : It := iOwn (tSl tInt 3) [.slice A146 x0.Ids.length c147] x0.Ids
     refine apR tInt tInt 3 (.slice (some ⟨p150, 0, none⟩) 0 0) [] x0.Tenants [I43, I42, iBox p26 99 K11, iBox p25 99 K1] (fun W hm => hm) (fun W hm => src_flat flat_int (hm.rdS0 r16)) underlying25 type3 (show (0 + x0.Tenants.length) * 8 ≤ 140737488355328 from by omega) (fun v152 => ?_)
     refine WM_form (n := 0) rfl ?_
     rintro A153 c154 rfl m155
     refine qn (pk [4]) ?_
     refine qo 18 15 65535 rfl ?_
     let I44 : It := iOwn (tSl tInt 3) [.slice A153 x0.Tenants.length c154] x0.Tenants
     refine apR tInt tInt 3 (.slice (some ⟨p143, 0, none⟩) 0 0) [] x0.Rows [I44, I43, iBox p26 99 K11, iBox p25 99 K1] (pk [2, 0, 1, 3, 4]) (fun W hm => src_flat flat_int (hm.rdS0 r21)) underlying25 type3 (show (0 + x0.Rows.length) * 8 ≤ 140737488355328 from by omega) (fun v157 => ?_)
     refine WM_form (n := 0) rfl ?_
     rintro A158 c159 rfl m160
     refine qn (pk [4]) ?_
     let K12 : List Value := [.int .i64 x0.Segment, .int .i64 x0.Base, .slice A146 x0.Ids.length c147, .slice A153 x0.Tenants.length c154, .slice A158 x0.Rows.length c159]
     refine qt 18 16 131071 rfl (fun W hm => rv_build (cs := K12) rfl (by kernel_rfl)) ?_
     refine qo 18 17 262143 rfl ?_
     refine sb 0 K12 [iOwn (tSl tInt 3) [.slice A158 x0.Rows.length c159] x0.Rows, I44, I43, iBox p25 99 K1] (pk [3, 0, 1, 2, 4]) type99 ?_
     refine qn (pk [4]) ?_
     refine QB_done (by kernel_rfl) ?_
     exact QM_cut_normal (A146, c147, A153, c154, A158, c159) (subL_cons rfl subL_nil) (fun W hm => hm) trivial
    refine qc 18 30591 rfl ?_ ?_
    ·
     refine WM_build0 (E := tInt) underlying25 type3 (Wd_none rfl) (by decide) (fun p162 => ?_)
     refine qn (pk [4]) ?_
     refine qo 18 7 30719 rfl ?_
     let K13 : List Value := [.int .i64 0, .int .i64 0, .slice none 0 0, .slice none 0 0, .slice none 0 0]
     let I45 : It := iOwn (tSl tInt 3) [.slice (some ⟨p143, 0, none⟩) 0 0] []
     refine apR tInt tInt 3 (.slice (some ⟨p48, 0, none⟩) 0 0) [] x0.Ids [iOwn (tSl tInt 3) [.slice (some ⟨p162, 0, none⟩) 0 0] [], I45, iBox p26 99 K13, iBox p25 99 K1] (pk [2, 0, 1, 3, 4]) (fun W hm => src_flat flat_int (hm.rdS0 r11)) underlying25 type3 (show (0 + x0.Ids.length) * 8 ≤ 140737488355328 from by omega) (fun v164 => ?_)
     refine WM_form (n := 0) rfl ?_
     rintro A165 c166 rfl m167
     refine qn (pk [4]) ?_
     refine qo 18 11 32767 rfl ?_
     let I46 : It := iOwn (tSl tInt 3) [.slice A165 x0.Ids.length c166] x0.Ids
     refine apR tInt tInt 3 (.slice (some ⟨p162, 0, none⟩) 0 0) [] x0.Tenants [I46, I45, iBox p26 99 K13, iBox p25 99 K1] (pk [1, 0, 2, 3, 4]) (fun W hm => src_flat flat_int (hm.rdS0 r16)) underlying25 type3 (show (0 + x0.Tenants.length) * 8 ≤ 140737488355328 from by omega) (fun v169 => ?_)
     refine WM_form (n := 0) rfl ?_
     rintro A170 c171 rfl m172
     refine qn (pk [4]) ?_
     refine qo 18 15 65535 rfl ?_
     let I47 : It := iOwn (tSl tInt 3) [.slice A170 x0.Tenants.length c171] x0.Tenants
     refine apR tInt tInt 3 (.slice (some ⟨p143, 0, none⟩) 0 0) [] x0.Rows [I47, I46, iBox p26 99 K13, iBox p25 99 K1] (pk [2, 0, 1, 3, 4]) (fun W hm => src_flat flat_int (hm.rdS0 r21)) underlying25 type3 (show (0 + x0.Rows.length) * 8 ≤ 140737488355328 from by omega) (fun v174 => ?_)
     refine WM_form (n := 0) rfl ?_
     rintro A175 c176 rfl m177
     refine qn (pk [4]) ?_
     let K14 : List Value := [.int .i64 x0.Segment, .int .i64 x0.Base, .slice A165 x0.Ids.length c166, .slice A170 x0.Tenants.length c171, .slice A175 x0.Rows.length c176]
     refine qt 18 16 131071 rfl (fun W hm => rv_build (cs := K14) rfl (by kernel_rfl)) ?_
     refine qo 18 17 262143 rfl ?_
     refine sb 0 K14 [iOwn (tSl tInt 3) [.slice A175 x0.Rows.length c176] x0.Rows, I47, I46, iBox p25 99 K1] (pk [3, 0, 1, 2, 4]) type99 ?_
     refine qn (pk [4]) ?_
     refine QB_done (by kernel_rfl) ?_
     exact QM_cut_normal (A165, c166, A170, c171, A175, c176) (subL_cons rfl subL_nil) (fun W hm => hm) trivial
    exact QBs_nil
   exact QBs_nil
  refine qc 18 26479 rfl ?_ ?_
  ·
   refine WM_build0 (E := tInt) underlying25 type3 (Wd_none rfl) (by decide) (fun p179 => ?_)
   refine qn (pk [2]) ?_
   refine qa [4, 12] ?_
   refine qc 18 26495 rfl ?_ ?_
   ·
    refine WM_build0 (E := tInt) underlying25 type3 (Wd_none rfl) (by decide) (fun p181 => ?_)
    refine qn (pk [3]) ?_
    refine qa [7, 12] ?_
    refine qc 18 26623 rfl ?_ ?_
    ·
     let K15 : List Value := [.int .i64 0, .int .i64 0, .slice none 0 0, .slice none 0 0, .slice none 0 0]
     refine apR tInt tInt 3 (.slice (some ⟨p181, 0, none⟩) 0 0) [] x0.Ids [iOwn (tSl tInt 3) [.slice (some ⟨p179, 0, none⟩) 0 0] [], iBox p26 99 K15, iBox p25 99 K1] (fun W hm => hm) (fun W hm => src_flat flat_int (hm.rdS0 r11)) underlying25 type3 (show (0 + x0.Ids.length) * 8 ≤ 140737488355328 from by omega) (fun v183 => ?_)
     refine WM_form (n := 0) rfl ?_
     rintro A184 c185 rfl m186
     refine qn (pk [3]) ?_
     refine qa [11, 12] ?_
     refine qc 18 28671 rfl ?_ ?_
     ·
      let I48 : It := iOwn (tSl tInt 3) [.slice A184 x0.Ids.length c185] x0.Ids
      refine apR tInt tInt 3 (.slice (some ⟨p179, 0, none⟩) 0 0) [] x0.Tenants [I48, iBox p26 99 K15, iBox p25 99 K1] (pk [1, 0, 2, 3]) (fun W hm => src_flat flat_int (hm.rdS0 r16)) underlying25 type3 (show (0 + x0.Tenants.length) * 8 ≤ 140737488355328 from by omega) (fun v188 => ?_)
      refine WM_form (n := 0) rfl ?_
      rintro A189 c190 rfl m191
      refine qn (pk [3]) ?_
      refine qo 18 12 32767 rfl ?_
      refine WM_build0 (E := tInt) underlying25 type3 (Wd_none rfl) (by decide) (fun p193 => ?_)
      refine qn (pk [4]) ?_
      refine qo 18 15 65535 rfl ?_
      let I49 : It := iOwn (tSl tInt 3) [.slice A189 x0.Tenants.length c190] x0.Tenants
      refine apR tInt tInt 3 (.slice (some ⟨p193, 0, none⟩) 0 0) [] x0.Rows [I49, I48, iBox p26 99 K15, iBox p25 99 K1] (fun W hm => hm) (fun W hm => src_flat flat_int (hm.rdS0 r21)) underlying25 type3 (show (0 + x0.Rows.length) * 8 ≤ 140737488355328 from by omega) (fun v195 => ?_)
      refine WM_form (n := 0) rfl ?_
      rintro A196 c197 rfl m198
      refine qn (pk [4]) ?_
      let K16 : List Value := [.int .i64 x0.Segment, .int .i64 x0.Base, .slice A184 x0.Ids.length c185, .slice A189 x0.Tenants.length c190, .slice A196 x0.Rows.length c197]
      refine qt 18 16 131071 rfl (fun W hm => rv_build (cs := K16) rfl (by kernel_rfl)) ?_
      refine qo 18 17 262143 rfl ?_
      refine sb 0 K16 [iOwn (tSl tInt 3) [.slice A196 x0.Rows.length c197] x0.Rows, I49, I48, iBox p25 99 K1] (pk [3, 0, 1, 2, 4]) type99 ?_
      refine qn (pk [4]) ?_
      refine QB_done (by kernel_rfl) ?_
      exact QM_cut_normal (A184, c185, A189, c190, A196, c197) (subL_cons rfl subL_nil) (fun W hm => hm) trivial
     refine qc 18 30719 rfl ?_ ?_
     ·
      refine WM_build0 (E := tInt) underlying25 type3 (Wd_none rfl) (by decide) (fun p200 => ?_)
      refine qn (pk [4]) ?_
      refine qo 18 11 32767 rfl ?_
      let I50 : It := iOwn (tSl tInt 3) [.slice A184 x0.Ids.length c185] x0.Ids
      refine apR tInt tInt 3 (.slice (some ⟨p179, 0, none⟩) 0 0) [] x0.Tenants [iOwn (tSl tInt 3) [.slice (some ⟨p200, 0, none⟩) 0 0] [], I50, iBox p26 99 K15, iBox p25 99 K1] (pk [2, 0, 1, 3, 4]) (fun W hm => src_flat flat_int (hm.rdS0 r16)) underlying25 type3 (show (0 + x0.Tenants.length) * 8 ≤ 140737488355328 from by omega) (fun v202 => ?_)
      refine WM_form (n := 0) rfl ?_
      rintro A203 c204 rfl m205
      refine qn (pk [4]) ?_
      refine qo 18 15 65535 rfl ?_
      let I51 : It := iOwn (tSl tInt 3) [.slice A203 x0.Tenants.length c204] x0.Tenants
      refine apR tInt tInt 3 (.slice (some ⟨p200, 0, none⟩) 0 0) [] x0.Rows [I51, I50, iBox p26 99 K15, iBox p25 99 K1] (pk [1, 0, 2, 3, 4]) (fun W hm => src_flat flat_int (hm.rdS0 r21)) underlying25 type3 (show (0 + x0.Rows.length) * 8 ≤ 140737488355328 from by omega) (fun v207 => ?_)
      refine WM_form (n := 0) rfl ?_
      rintro A208 c209 rfl m210
      refine qn (pk [4]) ?_
      let K17 : List Value := [.int .i64 x0.Segment, .int .i64 x0.Base, .slice A184 x0.Ids.length c185, .slice A203 x0.Tenants.length c204, .slice A208 x0.Rows.length c209]
      refine qt 18 16 131071 rfl (fun W hm => rv_build (cs := K17) rfl (by kernel_rfl)) ?_
      refine qo 18 17 262143 rfl ?_
      refine sb 0 K17 [iOwn (tSl tInt 3) [.slice A208 x0.Rows.length c209] x0.Rows, I51, I50, iBox p25 99 K1] (pk [3, 0, 1, 2, 4]) type99 ?_
      refine qn (pk [4]) ?_
      refine QB_done (by kernel_rfl) ?_
      exact QM_cut_normal (A184, c185, A203, c204, A208, c209) (subL_cons rfl subL_nil) (fun W hm => hm) trivial
     exact QBs_nil
    refine qc 18 30591 rfl ?_ ?_
    ·
     refine WM_build0 (E := tInt) underlying25 type3 (Wd_none rfl) (by decide) (fun p212 => ?_)
     refine qn (pk [4]) ?_
     refine qo 18 7 30719 rfl ?_
     let K18 : List Value := [.int .i64 0, .int .i64 0, .slice none 0 0, .slice none 0 0, .slice none 0 0]
     let I52 : It := iOwn (tSl tInt 3) [.slice (some ⟨p212, 0, none⟩) 0 0] []
     refine apR tInt tInt 3 (.slice (some ⟨p181, 0, none⟩) 0 0) [] x0.Ids [I52, iOwn (tSl tInt 3) [.slice (some ⟨p179, 0, none⟩) 0 0] [], iBox p26 99 K18, iBox p25 99 K1] (pk [1, 0, 2, 3, 4]) (fun W hm => src_flat flat_int (hm.rdS0 r11)) underlying25 type3 (show (0 + x0.Ids.length) * 8 ≤ 140737488355328 from by omega) (fun v214 => ?_)
     refine WM_form (n := 0) rfl ?_
     rintro A215 c216 rfl m217
     refine qn (pk [4]) ?_
     refine qo 18 11 32767 rfl ?_
     let I53 : It := iOwn (tSl tInt 3) [.slice A215 x0.Ids.length c216] x0.Ids
     refine apR tInt tInt 3 (.slice (some ⟨p179, 0, none⟩) 0 0) [] x0.Tenants [I53, I52, iBox p26 99 K18, iBox p25 99 K1] (pk [2, 0, 1, 3, 4]) (fun W hm => src_flat flat_int (hm.rdS0 r16)) underlying25 type3 (show (0 + x0.Tenants.length) * 8 ≤ 140737488355328 from by omega) (fun v219 => ?_)
     refine WM_form (n := 0) rfl ?_
     rintro A220 c221 rfl m222
     refine qn (pk [4]) ?_
     refine qo 18 15 65535 rfl ?_
     let I54 : It := iOwn (tSl tInt 3) [.slice A220 x0.Tenants.length c221] x0.Tenants
     refine apR tInt tInt 3 (.slice (some ⟨p212, 0, none⟩) 0 0) [] x0.Rows [I54, I53, iBox p26 99 K18, iBox p25 99 K1] (pk [2, 0, 1, 3, 4]) (fun W hm => src_flat flat_int (hm.rdS0 r21)) underlying25 type3 (show (0 + x0.Rows.length) * 8 ≤ 140737488355328 from by omega) (fun v224 => ?_)
     refine WM_form (n := 0) rfl ?_
     rintro A225 c226 rfl m227
     refine qn (pk [4]) ?_
     let K19 : List Value := [.int .i64 x0.Segment, .int .i64 x0.Base, .slice A215 x0.Ids.length c216, .slice A220 x0.Tenants.length c221, .slice A225 x0.Rows.length c226]
     refine qt 18 16 131071 rfl (fun W hm => rv_build (cs := K19) rfl (by kernel_rfl)) ?_
     refine qo 18 17 262143 rfl ?_
     refine sb 0 K19 [iOwn (tSl tInt 3) [.slice A225 x0.Rows.length c226] x0.Rows, I54, I53, iBox p25 99 K1] (pk [3, 0, 1, 2, 4]) type99 ?_
     refine qn (pk [4]) ?_
     refine QB_done (by kernel_rfl) ?_
     exact QM_cut_normal (A215, c216, A220, c221, A225, c226) (subL_cons rfl subL_nil) (fun W hm => hm) trivial
    exact QBs_nil
   refine qc 18 30575 rfl ?_ ?_
   ·
    refine WM_build0 (E := tInt) underlying25 type3 (Wd_none rfl) (by decide) (fun p229 => ?_)
    refine qn (pk [3]) ?_
    refine qo 18 4 30591 rfl ?_
    refine WM_build0 (E := tInt) underlying25 type3 (Wd_none rfl) (by decide) (fun p231 => ?_)
    refine qn (pk [4]) ?_
    refine qo 18 7 30719 rfl ?_
    let K20 : List Value := [.int .i64 0, .int .i64 0, .slice none 0 0, .slice none 0 0, .slice none 0 0]
    let I55 : It := iOwn (tSl tInt 3) [.slice (some ⟨p229, 0, none⟩) 0 0] []
    refine apR tInt tInt 3 (.slice (some ⟨p231, 0, none⟩) 0 0) [] x0.Ids [I55, iOwn (tSl tInt 3) [.slice (some ⟨p179, 0, none⟩) 0 0] [], iBox p26 99 K20, iBox p25 99 K1] (fun W hm => hm) (fun W hm => src_flat flat_int (hm.rdS0 r11)) underlying25 type3 (show (0 + x0.Ids.length) * 8 ≤ 140737488355328 from by omega) (fun v233 => ?_)
    refine WM_form (n := 0) rfl ?_
    rintro A234 c235 rfl m236
    refine qn (pk [4]) ?_
    refine qo 18 11 32767 rfl ?_
    let I56 : It := iOwn (tSl tInt 3) [.slice A234 x0.Ids.length c235] x0.Ids
    refine apR tInt tInt 3 (.slice (some ⟨p179, 0, none⟩) 0 0) [] x0.Tenants [I56, I55, iBox p26 99 K20, iBox p25 99 K1] (pk [2, 0, 1, 3, 4]) (fun W hm => src_flat flat_int (hm.rdS0 r16)) underlying25 type3 (show (0 + x0.Tenants.length) * 8 ≤ 140737488355328 from by omega) (fun v238 => ?_)
    refine WM_form (n := 0) rfl ?_
    rintro A239 c240 rfl m241
    refine qn (pk [4]) ?_
    refine qo 18 15 65535 rfl ?_
    let I57 : It := iOwn (tSl tInt 3) [.slice A239 x0.Tenants.length c240] x0.Tenants
    refine apR tInt tInt 3 (.slice (some ⟨p229, 0, none⟩) 0 0) [] x0.Rows [I57, I56, iBox p26 99 K20, iBox p25 99 K1] (pk [2, 0, 1, 3, 4]) (fun W hm => src_flat flat_int (hm.rdS0 r21)) underlying25 type3 (show (0 + x0.Rows.length) * 8 ≤ 140737488355328 from by omega) (fun v243 => ?_)
    refine WM_form (n := 0) rfl ?_
    rintro A244 c245 rfl m246
    refine qn (pk [4]) ?_
    let K21 : List Value := [.int .i64 x0.Segment, .int .i64 x0.Base, .slice A234 x0.Ids.length c235, .slice A239 x0.Tenants.length c240, .slice A244 x0.Rows.length c245]
    refine qt 18 16 131071 rfl (fun W hm => rv_build (cs := K21) rfl (by kernel_rfl)) ?_
    refine qo 18 17 262143 rfl ?_
    refine sb 0 K21 [iOwn (tSl tInt 3) [.slice A244 x0.Rows.length c245] x0.Rows, I57, I56, iBox p25 99 K1] (pk [3, 0, 1, 2, 4]) type99 ?_
    refine qn (pk [4]) ?_
    refine QB_done (by kernel_rfl) ?_
    exact QM_cut_normal (A234, c235, A239, c240, A244, c245) (subL_cons rfl subL_nil) (fun W hm => hm) trivial
   exact QBs_nil
  refine qc 18 30319 rfl ?_ ?_
  ·
   refine WM_build0 (E := tInt) underlying25 type3 (Wd_none rfl) (by decide) (fun p248 => ?_)
   refine qn (pk [2]) ?_
   refine qa [4, 8] ?_
   refine qc 18 30335 rfl ?_ ?_
   ·
    refine WM_build0 (E := tInt) underlying25 type3 (Wd_none rfl) (by decide) (fun p250 => ?_)
    refine qn (pk [3]) ?_
    refine qa [7, 8] ?_
    refine qc 18 30463 rfl ?_ ?_
    ·
     let K22 : List Value := [.int .i64 0, .int .i64 0, .slice none 0 0, .slice none 0 0, .slice none 0 0]
     let I58 : It := iOwn (tSl tInt 3) [.slice (some ⟨p248, 0, none⟩) 0 0] []
     refine apR tInt tInt 3 (.slice (some ⟨p250, 0, none⟩) 0 0) [] x0.Ids [I58, iBox p26 99 K22, iBox p25 99 K1] (fun W hm => hm) (fun W hm => src_flat flat_int (hm.rdS0 r11)) underlying25 type3 (show (0 + x0.Ids.length) * 8 ≤ 140737488355328 from by omega) (fun v252 => ?_)
     refine WM_form (n := 0) rfl ?_
     rintro A253 c254 rfl m255
     refine qn (pk [3]) ?_
     refine qo 18 8 30719 rfl ?_
     refine WM_build0 (E := tInt) underlying25 type3 (Wd_none rfl) (by decide) (fun p257 => ?_)
     refine qn (pk [4]) ?_
     refine qo 18 11 32767 rfl ?_
     let I59 : It := iOwn (tSl tInt 3) [.slice A253 x0.Ids.length c254] x0.Ids
     refine apR tInt tInt 3 (.slice (some ⟨p257, 0, none⟩) 0 0) [] x0.Tenants [I59, I58, iBox p26 99 K22, iBox p25 99 K1] (fun W hm => hm) (fun W hm => src_flat flat_int (hm.rdS0 r16)) underlying25 type3 (show (0 + x0.Tenants.length) * 8 ≤ 140737488355328 from by omega) (fun v259 => ?_)
     refine WM_form (n := 0) rfl ?_
     rintro A260 c261 rfl m262
     refine qn (pk [4]) ?_
     refine qo 18 15 65535 rfl ?_
     let I60 : It := iOwn (tSl tInt 3) [.slice A260 x0.Tenants.length c261] x0.Tenants
     refine apR tInt tInt 3 (.slice (some ⟨p248, 0, none⟩) 0 0) [] x0.Rows [I60, I59, iBox p26 99 K22, iBox p25 99 K1] (pk [2, 0, 1, 3, 4]) (fun W hm => src_flat flat_int (hm.rdS0 r21)) underlying25 type3 (show (0 + x0.Rows.length) * 8 ≤ 140737488355328 from by omega) (fun v264 => ?_)
     refine WM_form (n := 0) rfl ?_
     rintro A265 c266 rfl m267
     refine qn (pk [4]) ?_
     let K23 : List Value := [.int .i64 x0.Segment, .int .i64 x0.Base, .slice A253 x0.Ids.length c254, .slice A260 x0.Tenants.length c261, .slice A265 x0.Rows.length c266]
     refine qt 18 16 131071 rfl (fun W hm => rv_build (cs := K23) rfl (by kernel_rfl)) ?_
     refine qo 18 17 262143 rfl ?_
     refine sb 0 K23 [iOwn (tSl tInt 3) [.slice A265 x0.Rows.length c266] x0.Rows, I60, I59, iBox p25 99 K1] (pk [3, 0, 1, 2, 4]) type99 ?_
     refine qn (pk [4]) ?_
     refine QB_done (by kernel_rfl) ?_
     exact QM_cut_normal (A253, c254, A260, c261, A265, c266) (subL_cons rfl subL_nil) (fun W hm => hm) trivial
    refine qc 18 30591 rfl ?_ ?_
    ·
     refine WM_build0 (E := tInt) underlying25 type3 (Wd_none rfl) (by decide) (fun p269 => ?_)
     refine qn (pk [4]) ?_
     refine qo 18 7 30719 rfl ?_
     let K24 : List Value := [.int .i64 0, .int .i64 0, .slice none 0 0, .slice none 0 0, .slice none 0 0]
     let I61 : It := iOwn (tSl tInt 3) [.slice (some ⟨p248, 0, none⟩) 0 0] []
     refine apR tInt tInt 3 (.slice (some ⟨p250, 0, none⟩) 0 0) [] x0.Ids [iOwn (tSl tInt 3) [.slice (some ⟨p269, 0, none⟩) 0 0] [], I61, iBox p26 99 K24, iBox p25 99 K1] (pk [1, 0, 2, 3, 4]) (fun W hm => src_flat flat_int (hm.rdS0 r11)) underlying25 type3 (show (0 + x0.Ids.length) * 8 ≤ 140737488355328 from by omega) (fun v271 => ?_)
     refine WM_form (n := 0) rfl ?_
     rintro A272 c273 rfl m274
     refine qn (pk [4]) ?_
     refine qo 18 11 32767 rfl ?_
     let I62 : It := iOwn (tSl tInt 3) [.slice A272 x0.Ids.length c273] x0.Ids
     refine apR tInt tInt 3 (.slice (some ⟨p269, 0, none⟩) 0 0) [] x0.Tenants [I62, I61, iBox p26 99 K24, iBox p25 99 K1] (pk [1, 0, 2, 3, 4]) (fun W hm => src_flat flat_int (hm.rdS0 r16)) underlying25 type3 (show (0 + x0.Tenants.length) * 8 ≤ 140737488355328 from by omega) (fun v276 => ?_)
     refine WM_form (n := 0) rfl ?_
     rintro A277 c278 rfl m279
     refine qn (pk [4]) ?_
     refine qo 18 15 65535 rfl ?_
     let I63 : It := iOwn (tSl tInt 3) [.slice A277 x0.Tenants.length c278] x0.Tenants
     refine apR tInt tInt 3 (.slice (some ⟨p248, 0, none⟩) 0 0) [] x0.Rows [I63, I62, iBox p26 99 K24, iBox p25 99 K1] (pk [2, 0, 1, 3, 4]) (fun W hm => src_flat flat_int (hm.rdS0 r21)) underlying25 type3 (show (0 + x0.Rows.length) * 8 ≤ 140737488355328 from by omega) (fun v281 => ?_)
     refine WM_form (n := 0) rfl ?_
     rintro A282 c283 rfl m284
     refine qn (pk [4]) ?_
     let K25 : List Value := [.int .i64 x0.Segment, .int .i64 x0.Base, .slice A272 x0.Ids.length c273, .slice A277 x0.Tenants.length c278, .slice A282 x0.Rows.length c283]
     refine qt 18 16 131071 rfl (fun W hm => rv_build (cs := K25) rfl (by kernel_rfl)) ?_
     refine qo 18 17 262143 rfl ?_
     refine sb 0 K25 [iOwn (tSl tInt 3) [.slice A282 x0.Rows.length c283] x0.Rows, I63, I62, iBox p25 99 K1] (pk [3, 0, 1, 2, 4]) type99 ?_
     refine qn (pk [4]) ?_
     refine QB_done (by kernel_rfl) ?_
     exact QM_cut_normal (A272, c273, A277, c278, A282, c283) (subL_cons rfl subL_nil) (fun W hm => hm) trivial
    exact QBs_nil
   refine qc 18 30575 rfl ?_ ?_
   ·
    refine WM_build0 (E := tInt) underlying25 type3 (Wd_none rfl) (by decide) (fun p286 => ?_)
    refine qn (pk [3]) ?_
    refine qo 18 4 30591 rfl ?_
    refine WM_build0 (E := tInt) underlying25 type3 (Wd_none rfl) (by decide) (fun p288 => ?_)
    refine qn (pk [4]) ?_
    refine qo 18 7 30719 rfl ?_
    let K26 : List Value := [.int .i64 0, .int .i64 0, .slice none 0 0, .slice none 0 0, .slice none 0 0]
    let I64 : It := iOwn (tSl tInt 3) [.slice (some ⟨p248, 0, none⟩) 0 0] []
    refine apR tInt tInt 3 (.slice (some ⟨p288, 0, none⟩) 0 0) [] x0.Ids [iOwn (tSl tInt 3) [.slice (some ⟨p286, 0, none⟩) 0 0] [], I64, iBox p26 99 K26, iBox p25 99 K1] (fun W hm => hm) (fun W hm => src_flat flat_int (hm.rdS0 r11)) underlying25 type3 (show (0 + x0.Ids.length) * 8 ≤ 140737488355328 from by omega) (fun v290 => ?_)
    refine WM_form (n := 0) rfl ?_
    rintro A291 c292 rfl m293
    refine qn (pk [4]) ?_
    refine qo 18 11 32767 rfl ?_
    let I65 : It := iOwn (tSl tInt 3) [.slice A291 x0.Ids.length c292] x0.Ids
    refine apR tInt tInt 3 (.slice (some ⟨p286, 0, none⟩) 0 0) [] x0.Tenants [I65, I64, iBox p26 99 K26, iBox p25 99 K1] (pk [1, 0, 2, 3, 4]) (fun W hm => src_flat flat_int (hm.rdS0 r16)) underlying25 type3 (show (0 + x0.Tenants.length) * 8 ≤ 140737488355328 from by omega) (fun v295 => ?_)
    refine WM_form (n := 0) rfl ?_
    rintro A296 c297 rfl m298
    refine qn (pk [4]) ?_
    refine qo 18 15 65535 rfl ?_
    let I66 : It := iOwn (tSl tInt 3) [.slice A296 x0.Tenants.length c297] x0.Tenants
    refine apR tInt tInt 3 (.slice (some ⟨p248, 0, none⟩) 0 0) [] x0.Rows [I66, I65, iBox p26 99 K26, iBox p25 99 K1] (pk [2, 0, 1, 3, 4]) (fun W hm => src_flat flat_int (hm.rdS0 r21)) underlying25 type3 (show (0 + x0.Rows.length) * 8 ≤ 140737488355328 from by omega) (fun v300 => ?_)
    refine WM_form (n := 0) rfl ?_
    rintro A301 c302 rfl m303
    refine qn (pk [4]) ?_
    let K27 : List Value := [.int .i64 x0.Segment, .int .i64 x0.Base, .slice A291 x0.Ids.length c292, .slice A296 x0.Tenants.length c297, .slice A301 x0.Rows.length c302]
    refine qt 18 16 131071 rfl (fun W hm => rv_build (cs := K27) rfl (by kernel_rfl)) ?_
    refine qo 18 17 262143 rfl ?_
    refine sb 0 K27 [iOwn (tSl tInt 3) [.slice A301 x0.Rows.length c302] x0.Rows, I66, I65, iBox p25 99 K1] (pk [3, 0, 1, 2, 4]) type99 ?_
    refine qn (pk [4]) ?_
    refine QB_done (by kernel_rfl) ?_
    exact QM_cut_normal (A291, c292, A296, c297, A301, c302) (subL_cons rfl subL_nil) (fun W hm => hm) trivial
   exact QBs_nil
  exact QBs_nil
 ·
  rintro ⟨A30, c31, A37, c38, A44, c45⟩ -
  let K28 : List Value := [.int .i64 x0.Segment, .int .i64 x0.Base, .slice A30 x0.Ids.length c31, .slice A37 x0.Tenants.length c38, .slice A44 x0.Rows.length c45]
  let I67 : It := iOwn (tSl tInt 3) [.slice A44 x0.Rows.length c45] x0.Rows
  let I68 : It := iOwn (tSl tInt 3) [.slice A37 x0.Tenants.length c38] x0.Tenants
  let I69 : It := iOwn (tSl tInt 3) [.slice A30 x0.Ids.length c31] x0.Ids
  show QM 20 _ _ _ .normal [(2, .pointer (some (⟨p26, 0, none⟩ : Addr)))] [iBox p26 99 K28, I67, I68, I69, iBox p25 99 K1]
  refine QM_len (n := 1) rfl ?_
  intro m305 m306
  refine QM_len (n := 2) rfl ?_
  intro m307 m308
  refine QM_len (n := 3) rfl ?_
  intro m309 m310
  refine QM_then (CM_ret ?_)
  refine QM_r1 rfl (RR_cell (n := 0) rfl rfl underlying99 type99 rfl) (fun W hm => ⟨K28, ?_, ?_⟩)
  ·first | rw [(show spec_l10Copy_m x0 = x0 from by unfold spec_l10Copy_m; exact rfl)] | rfl
  ·rw [(show spec_l10Copy_m x0 = x0 from by unfold spec_l10Copy_m; exact rfl)]; exact Mem.join (is := [I69, I68, I67]) (js := []) (fun _ _ hs => tyCharge_join (x := x0) hs) (hm.pick [3, 2, 1] (by decide))
theorem spec_l10Copy_eq (x0 : DCharge) : spec_l10Copy_m x0 = x0 := by
 rfl
theorem spec_l10Copy_c2 (w : World) (z0 : List Value) (x0 : DCharge) (r_0 : tyCharge.rd w w.heap.size z0 x0) (s_0 : smCharge 68719476736 x0) :
  Calls Tryz.prog 64 #[.agg z0.toArray] w fun e w' => ∃ v : List Value, e = .returned (.agg v.toArray) ∧ Mem w.heap.size w [iOwn tyCharge v x0] w' := by
 have h := spec_l10Copy_c w z0 x0 r_0 s_0
 rw [spec_l10Copy_eq] at h
 exact h

abbrev spec_l9Copy_v1 (x0 : DEngine) (k148 : Nat) (d151 : (List DActive)) : (List DActive) :=
 (d151 ++ [(⟨((gt x0.Active k148).Query), (gt x0.Active k148).Time, (gt x0.Active k148).Todo, (gt x0.Active k148).Age, (gt x0.Active k148).Sent, (gt x0.Active k148).Cap, ((gt x0.Active k148).Rows)⟩ : DActive)])
def spec_l9Copy_b3 (x0 : DEngine) (k295 : Nat) (d298 : (List DCharge)) : DEngine ⊕ ((List DCharge)) :=
 Sum.inr (d298 ++ [(gt x0.Ledger k295)])
def spec_l9Copy_b2 (x0 : DEngine) (k229 : Nat) (d232 : (List DFinished)) : DEngine ⊕ ((List DFinished)) :=
 Sum.inr (d232 ++ [(⟨((gt x0.Done k229).Query), (gt x0.Done k229).Time, (gt x0.Done k229).Steps, ((gt x0.Done k229).Rows)⟩ : DFinished)])
def spec_l9Copy_b1 (x0 : DEngine) (k148 : Nat) (d151 : (List DActive)) : DEngine ⊕ ((List DActive)) :=
 Sum.inr (spec_l9Copy_v1 x0 k148 d151)
def spec_l9Copy_m (x0 : DEngine) : DEngine :=
 Sum.elim id (fun (s1_ : (List DActive)) => Sum.elim id (fun (s2_ : (List DFinished)) => Sum.elim id (fun (s : (List DCharge)) => (⟨x0.Store, x0.Cursor, x0.Order, s1_, s2_, s, x0.Steps⟩ : DEngine)) (rng (R := DEngine) (fun k (s : (List DCharge)) => spec_l9Copy_b3 x0 k s) (x0.Ledger.length - 0) 0 [])) (rng (R := DEngine) (fun k (s : (List DFinished)) => spec_l9Copy_b2 x0 k s) (x0.Done.length - 0) 0 [])) (rng (R := DEngine) (fun k (s : (List DActive)) => spec_l9Copy_b1 x0 k s) (x0.Active.length - 0) 0 [])
theorem cb38 : Cb Tryz.prog 38 := ⟨f38, _, func38, rfl, by decide⟩
theorem spec_l9Copy_c (w : World) (z0 : List Value) (x0 : DEngine) (r_0 : tyEngine.rd w w.heap.size z0 x0) (s_0 : smEngine 68719476736 x0) :
  Calls Tryz.prog 38 #[.agg z0.toArray] w fun e w' => ∃ v : List Value, e = .returned (.agg v.toArray) ∧ Mem w.heap.size w [iOwn tyEngine v (spec_l9Copy_m x0)] w' := by
 obtain ⟨v1, v3, v5, v7, v9, rfl, r2, r4, r6, r8, r10⟩ := tyEngine_rd r_0
 have r15 := r2
 obtain ⟨m11, A12, c13, rfl, q14⟩ := r2
 have r20 := r4
 obtain ⟨m16, A17, c18, rfl, q19⟩ := r4
 have r25 := r6
 obtain ⟨m21, A22, c23, rfl, q24⟩ := r6
 have r30 := r8
 obtain ⟨m26, A27, c28, rfl, q29⟩ := r8
 have r35 := r10
 obtain ⟨m31, A32, c33, rfl, q34⟩ := r10
 have l36 : x0.Store.Segments.length ≤ 68719476736 := s_0.1.1
 have l37 : x0.Order.length ≤ 68719476736 := s_0.2.1
 have l38 : x0.Active.length ≤ 68719476736 := s_0.2.2.1.1
 have l39 : x0.Done.length ≤ 68719476736 := s_0.2.2.2.1.1
 have l40 : x0.Ledger.length ≤ 68719476736 := s_0.2.2.2.2.1
 refine ce1 (L := [(0, .agg #[.slice A12 x0.Store.Segments.length c13, .int .i64 x0.Store.Now, .int .i64 x0.Cursor, .slice A17 x0.Order.length c18, .slice A22 x0.Active.length c23, .slice A27 x0.Done.length c28, .slice A32 x0.Ledger.length c33, .int .i64 x0.Steps])]) (N := 97) func38 ?_
 refine sr ?_
 refine WM_box rfl (Wd_none rfl) (by decide) (fun p41 => ?_)
 refine WM_alloc type44 rfl (Wd_none rfl) (by decide) (fun p42 => ?_)
 refine nt' (CM_seq ?_)
 let K7 : List Value := [.slice none 0 0, .int .i64 0, .int .i64 0, .slice none 0 0, .slice none 0 0, .slice none 0 0, .slice none 0 0, .int .i64 0]
 let K8 : List Value := [.slice A12 x0.Store.Segments.length c13, .int .i64 x0.Store.Now, .int .i64 x0.Cursor, .slice A17 x0.Order.length c18, .slice A22 x0.Active.length c23, .slice A27 x0.Done.length c28, .slice A32 x0.Ledger.length c33, .int .i64 x0.Steps]
 refine CM_cut (σ := Nat × Option Addr × Nat × Option Addr × Nat) (fun s => [(1, .pointer (some (⟨p41, 0, none⟩ : Addr))), (2, .pointer (some (⟨p42, 0, none⟩ : Addr))), (3, .pointer (some (⟨s.1, 0, none⟩ : Addr)))]) (fun s => [iBox s.1 44 [.slice s.2.1 x0.Store.Segments.length s.2.2.1, .int .i64 x0.Store.Now, .int .i64 x0.Cursor, .slice s.2.2.2.1 x0.Order.length s.2.2.2.2, .slice none 0 0, .slice none 0 0, .slice none 0 0, .int .i64 x0.Steps], iOwn (tSl tInt 3) [.slice s.2.2.2.1 x0.Order.length s.2.2.2.2] x0.Order, iOwn (tSl (tSl tyVersion 142) 122) [.slice s.2.1 x0.Store.Segments.length s.2.2.1] x0.Store.Segments, iBox p42 44 K7, iBox p41 44 K8]) (fun _ => True) ?_ ?_
 ·
  refine rb 14 (s := [iBox p42 44 K7, iBox p41 44 K8]) (fun W hm => hm) ?_
  refine qt 14 0 1 rfl (vf underlying44 rfl type39) ?_
  refine qt 14 1 3 rfl (fun W hm => rv_loadN (cs := [.slice A12 x0.Store.Segments.length c13, .int .i64 x0.Store.Now]) underlying39 type39 rfl rfl (hm.boxPart (n := 1) rfl rfl)) ?_
  refine qt 14 3 11 rfl (vf underlying44 rfl type3) ?_
  refine qt 14 4 27 rfl (vl 1 2 underlying3) ?_
  refine qt 14 6 91 rfl (vf underlying44 rfl type25) ?_
  refine qt 14 7 219 rfl (vl 1 3 underlying25) ?_
  refine qt 14 9 731 rfl (vf underlying44 rfl type3) ?_
  refine qt 14 10 1755 rfl (vl 1 7 underlying3) ?_
  refine qa [2, 5, 12] ?_
  refine qc 14 1759 rfl ?_ ?_
  ·
   refine wcs tyStore x0.Store (cl_fn cb62 rfl) (fun W hm => spec_l7Copy_c2 W _ x0.Store (tyStore_mk (x := x0.Store) (hm.rdS0 r15)) s_0.1) (fun z57 => ?_)
   refine tyStore_sp ?_
   rintro v58 rfl
   refine WM_form (n := 0) rfl ?_
   rintro A59 c60 rfl m61
   refine qn (pk [1, 2]) ?_
   refine qa [5, 12] ?_
   refine qc 14 1791 rfl ?_ ?_
   ·
    refine WM_build0 (E := tInt) underlying25 type3 (Wd_none rfl) (by decide) (fun p63 => ?_)
    refine qn (pk [2, 3]) ?_
    refine qa [8, 12] ?_
    refine qc 14 2047 rfl ?_ ?_
    ·
     let I33 : It := iOwn (tSl (tSl tyVersion 142) 122) [.slice A59 x0.Store.Segments.length c60] x0.Store.Segments
     refine apR tInt tInt 3 (.slice (some ⟨p63, 0, none⟩) 0 0) [] x0.Order [I33, iBox p42 44 K7, iBox p41 44 K8] (fun W hm => hm) (fun W hm => src_flat flat_int (hm.rdS0 r20)) underlying25 type3 (show (0 + x0.Order.length) * 8 ≤ 140737488355328 from by omega) (fun v65 => ?_)
     refine WM_form (n := 0) rfl ?_
     rintro A66 c67 rfl m68
     refine qn (pk [2, 3]) ?_
     let K9 : List Value := [.slice A59 x0.Store.Segments.length c60, .int .i64 x0.Store.Now, .int .i64 x0.Cursor, .slice A66 x0.Order.length c67, .slice none 0 0, .slice none 0 0, .slice none 0 0, .int .i64 x0.Steps]
     refine qt 14 11 4095 rfl (fun W hm => rv_build (cs := K9) rfl (by kernel_rfl)) ?_
     refine qo 14 12 8191 rfl ?_
     refine WM_alloc type44 rfl (Wd_none rfl) (by decide) (fun p70 => ?_)
     refine qn (pk [3, 4]) ?_
     refine qo 14 13 16383 rfl ?_
     refine sb 0 K9 [iOwn (tSl tInt 3) [.slice A66 x0.Order.length c67] x0.Order, I33, iBox p42 44 K7, iBox p41 44 K8] (fun W hm => hm) type44 ?_
     refine qn (pk [3, 4]) ?_
     refine QB_done (by kernel_rfl) ?_
     exact QM_cut_normal (p70, A59, c60, A66, c67) sl3 (fun W hm => hm) trivial
    refine qc 14 5887 rfl ?_ ?_
    ·
     refine WM_alloc type44 rfl (Wd_none rfl) (by decide) (fun p71 => ?_)
     refine qn (pk [3, 4]) ?_
     refine qo 14 8 6143 rfl ?_
     let I34 : It := iOwn (tSl (tSl tyVersion 142) 122) [.slice A59 x0.Store.Segments.length c60] x0.Store.Segments
     refine apR tInt tInt 3 (.slice (some ⟨p63, 0, none⟩) 0 0) [] x0.Order [iBox p71 44 K7, I34, iBox p42 44 K7, iBox p41 44 K8] (pk [1, 0, 2, 3, 4]) (fun W hm => src_flat flat_int (hm.rdS0 r20)) underlying25 type3 (show (0 + x0.Order.length) * 8 ≤ 140737488355328 from by omega) (fun v72 => ?_)
     refine WM_form (n := 0) rfl ?_
     rintro A73 c74 rfl m75
     refine qn (pk [3, 4]) ?_
     let K10 : List Value := [.slice A59 x0.Store.Segments.length c60, .int .i64 x0.Store.Now, .int .i64 x0.Cursor, .slice A73 x0.Order.length c74, .slice none 0 0, .slice none 0 0, .slice none 0 0, .int .i64 x0.Steps]
     refine qt 14 11 8191 rfl (fun W hm => rv_build (cs := K10) rfl (by kernel_rfl)) ?_
     refine qo 14 13 16383 rfl ?_
     refine sb 0 K10 [iOwn (tSl tInt 3) [.slice A73 x0.Order.length c74] x0.Order, I34, iBox p42 44 K7, iBox p41 44 K8] (pk [1, 0, 2, 3, 4]) type44 ?_
     refine qn (pk [3, 4]) ?_
     refine QB_done (by kernel_rfl) ?_
     exact QM_cut_normal (p71, A59, c60, A73, c74) sl3 (fun W hm => hm) trivial
    exact QBs_nil
   refine qc 14 5855 rfl ?_ ?_
   ·
    refine WM_alloc type44 rfl (Wd_none rfl) (by decide) (fun p77 => ?_)
    refine qn (pk [2, 3]) ?_
    refine qo 14 5 5887 rfl ?_
    refine WM_build0 (E := tInt) underlying25 type3 (Wd_none rfl) (by decide) (fun p78 => ?_)
    refine qn (pk [3, 4]) ?_
    refine qo 14 8 6143 rfl ?_
    let I35 : It := iOwn (tSl (tSl tyVersion 142) 122) [.slice A59 x0.Store.Segments.length c60] x0.Store.Segments
    refine apR tInt tInt 3 (.slice (some ⟨p78, 0, none⟩) 0 0) [] x0.Order [iBox p77 44 K7, I35, iBox p42 44 K7, iBox p41 44 K8] (fun W hm => hm) (fun W hm => src_flat flat_int (hm.rdS0 r20)) underlying25 type3 (show (0 + x0.Order.length) * 8 ≤ 140737488355328 from by omega) (fun v80 => ?_)
    refine WM_form (n := 0) rfl ?_
    rintro A81 c82 rfl m83
    refine qn (pk [3, 4]) ?_
    let K11 : List Value := [.slice A59 x0.Store.Segments.length c60, .int .i64 x0.Store.Now, .int .i64 x0.Cursor, .slice A81 x0.Order.length c82, .slice none 0 0, .slice none 0 0, .slice none 0 0, .int .i64 x0.Steps]
    refine qt 14 11 8191 rfl (fun W hm => rv_build (cs := K11) rfl (by kernel_rfl)) ?_
    refine qo 14 13 16383 rfl ?_
    refine sb 0 K11 [iOwn (tSl tInt 3) [.slice A81 x0.Order.length c82] x0.Order, I35, iBox p42 44 K7, iBox p41 44 K8] (pk [1, 0, 2, 3, 4]) type44 ?_
    refine qn (pk [3, 4]) ?_
    refine QB_done (by kernel_rfl) ?_
    exact QM_cut_normal (p77, A59, c60, A81, c82) sl3 (fun W hm => hm) trivial
   exact QBs_nil
  refine qc 14 1787 rfl ?_ ?_
  ·
   refine WM_build0 (E := tInt) underlying25 type3 (Wd_none rfl) (by decide) (fun p85 => ?_)
   refine qn (pk [1, 2]) ?_
   refine qa [2, 12] ?_
   refine qc 14 1791 rfl ?_ ?_
   ·
    refine wcs tyStore x0.Store (cl_fn cb62 rfl) (fun W hm => spec_l7Copy_c2 W _ x0.Store (tyStore_mk (x := x0.Store) (hm.rdS0 r15)) s_0.1) (fun z87 => ?_)
    refine tyStore_sp ?_
    rintro v88 rfl
    refine WM_form (n := 0) rfl ?_
    rintro A89 c90 rfl m91
    refine qn (pk [2, 3]) ?_
    refine qa [8, 12] ?_
    refine qc 14 2047 rfl ?_ ?_
    ·
     let I36 : It := iOwn (tSl (tSl tyVersion 142) 122) [.slice A89 x0.Store.Segments.length c90] x0.Store.Segments
     refine apR tInt tInt 3 (.slice (some ⟨p85, 0, none⟩) 0 0) [] x0.Order [I36, iBox p42 44 K7, iBox p41 44 K8] (pk [1, 0, 2, 3]) (fun W hm => src_flat flat_int (hm.rdS0 r20)) underlying25 type3 (show (0 + x0.Order.length) * 8 ≤ 140737488355328 from by omega) (fun v93 => ?_)
     refine WM_form (n := 0) rfl ?_
     rintro A94 c95 rfl m96
     refine qn (pk [2, 3]) ?_
     let K12 : List Value := [.slice A89 x0.Store.Segments.length c90, .int .i64 x0.Store.Now, .int .i64 x0.Cursor, .slice A94 x0.Order.length c95, .slice none 0 0, .slice none 0 0, .slice none 0 0, .int .i64 x0.Steps]
     refine qt 14 11 4095 rfl (fun W hm => rv_build (cs := K12) rfl (by kernel_rfl)) ?_
     refine qo 14 12 8191 rfl ?_
     refine WM_alloc type44 rfl (Wd_none rfl) (by decide) (fun p98 => ?_)
     refine qn (pk [3, 4]) ?_
     refine qo 14 13 16383 rfl ?_
     refine sb 0 K12 [iOwn (tSl tInt 3) [.slice A94 x0.Order.length c95] x0.Order, I36, iBox p42 44 K7, iBox p41 44 K8] (fun W hm => hm) type44 ?_
     refine qn (pk [3, 4]) ?_
     refine QB_done (by kernel_rfl) ?_
     exact QM_cut_normal (p98, A89, c90, A94, c95) sl3 (fun W hm => hm) trivial
    refine qc 14 5887 rfl ?_ ?_
    ·
     refine WM_alloc type44 rfl (Wd_none rfl) (by decide) (fun p99 => ?_)
     refine qn (pk [3, 4]) ?_
     refine qo 14 8 6143 rfl ?_
     let I37 : It := iOwn (tSl (tSl tyVersion 142) 122) [.slice A89 x0.Store.Segments.length c90] x0.Store.Segments
     refine apR tInt tInt 3 (.slice (some ⟨p85, 0, none⟩) 0 0) [] x0.Order [iBox p99 44 K7, I37, iBox p42 44 K7, iBox p41 44 K8] (pk [2, 0, 1, 3, 4]) (fun W hm => src_flat flat_int (hm.rdS0 r20)) underlying25 type3 (show (0 + x0.Order.length) * 8 ≤ 140737488355328 from by omega) (fun v100 => ?_)
     refine WM_form (n := 0) rfl ?_
     rintro A101 c102 rfl m103
     refine qn (pk [3, 4]) ?_
     let K13 : List Value := [.slice A89 x0.Store.Segments.length c90, .int .i64 x0.Store.Now, .int .i64 x0.Cursor, .slice A101 x0.Order.length c102, .slice none 0 0, .slice none 0 0, .slice none 0 0, .int .i64 x0.Steps]
     refine qt 14 11 8191 rfl (fun W hm => rv_build (cs := K13) rfl (by kernel_rfl)) ?_
     refine qo 14 13 16383 rfl ?_
     refine sb 0 K13 [iOwn (tSl tInt 3) [.slice A101 x0.Order.length c102] x0.Order, I37, iBox p42 44 K7, iBox p41 44 K8] (pk [1, 0, 2, 3, 4]) type44 ?_
     refine qn (pk [3, 4]) ?_
     refine QB_done (by kernel_rfl) ?_
     exact QM_cut_normal (p99, A89, c90, A101, c102) sl3 (fun W hm => hm) trivial
    exact QBs_nil
   refine qc 14 5883 rfl ?_ ?_
   ·
    refine WM_alloc type44 rfl (Wd_none rfl) (by decide) (fun p105 => ?_)
    refine qn (pk [2, 3]) ?_
    refine qo 14 2 5887 rfl ?_
    refine wcs tyStore x0.Store (cl_fn cb62 rfl) (fun W hm => spec_l7Copy_c2 W _ x0.Store (tyStore_mk (x := x0.Store) (hm.rdS0 r15)) s_0.1) (fun z106 => ?_)
    refine tyStore_sp ?_
    rintro v107 rfl
    refine WM_form (n := 0) rfl ?_
    rintro A108 c109 rfl m110
    refine qn (pk [3, 4]) ?_
    refine qo 14 8 6143 rfl ?_
    let I38 : It := iOwn (tSl (tSl tyVersion 142) 122) [.slice A108 x0.Store.Segments.length c109] x0.Store.Segments
    refine apR tInt tInt 3 (.slice (some ⟨p85, 0, none⟩) 0 0) [] x0.Order [I38, iBox p105 44 K7, iBox p42 44 K7, iBox p41 44 K8] (pk [2, 0, 1, 3, 4]) (fun W hm => src_flat flat_int (hm.rdS0 r20)) underlying25 type3 (show (0 + x0.Order.length) * 8 ≤ 140737488355328 from by omega) (fun v112 => ?_)
    refine WM_form (n := 0) rfl ?_
    rintro A113 c114 rfl m115
    refine qn (pk [3, 4]) ?_
    let K14 : List Value := [.slice A108 x0.Store.Segments.length c109, .int .i64 x0.Store.Now, .int .i64 x0.Cursor, .slice A113 x0.Order.length c114, .slice none 0 0, .slice none 0 0, .slice none 0 0, .int .i64 x0.Steps]
    refine qt 14 11 8191 rfl (fun W hm => rv_build (cs := K14) rfl (by kernel_rfl)) ?_
    refine qo 14 13 16383 rfl ?_
    refine sb 0 K14 [iOwn (tSl tInt 3) [.slice A113 x0.Order.length c114] x0.Order, I38, iBox p42 44 K7, iBox p41 44 K8] (pk [2, 0, 1, 3, 4]) type44 ?_
    refine qn (pk [3, 4]) ?_
    refine QB_done (by kernel_rfl) ?_
    exact QM_cut_normal (p105, A108, c109, A113, c114) sl3 (fun W hm => hm) trivial
   exact QBs_nil
  refine qc 14 5851 rfl ?_ ?_
  ·
   refine WM_alloc type44 rfl (Wd_none rfl) (by decide) (fun p117 => ?_)
   refine qn (pk [1, 2]) ?_
   refine qa [2, 5] ?_
   refine qc 14 5855 rfl ?_ ?_
   ·
    refine wcs tyStore x0.Store (cl_fn cb62 rfl) (fun W hm => spec_l7Copy_c2 W _ x0.Store (tyStore_mk (x := x0.Store) (hm.rdS0 r15)) s_0.1) (fun z118 => ?_)
    refine tyStore_sp ?_
    rintro v119 rfl
    refine WM_form (n := 0) rfl ?_
    rintro A120 c121 rfl m122
    refine qn (pk [2, 3]) ?_
    refine qo 14 5 5887 rfl ?_
    refine WM_build0 (E := tInt) underlying25 type3 (Wd_none rfl) (by decide) (fun p124 => ?_)
    refine qn (pk [3, 4]) ?_
    refine qo 14 8 6143 rfl ?_
    let I39 : It := iOwn (tSl (tSl tyVersion 142) 122) [.slice A120 x0.Store.Segments.length c121] x0.Store.Segments
    refine apR tInt tInt 3 (.slice (some ⟨p124, 0, none⟩) 0 0) [] x0.Order [I39, iBox p117 44 K7, iBox p42 44 K7, iBox p41 44 K8] (fun W hm => hm) (fun W hm => src_flat flat_int (hm.rdS0 r20)) underlying25 type3 (show (0 + x0.Order.length) * 8 ≤ 140737488355328 from by omega) (fun v126 => ?_)
    refine WM_form (n := 0) rfl ?_
    rintro A127 c128 rfl m129
    refine qn (pk [3, 4]) ?_
    let K15 : List Value := [.slice A120 x0.Store.Segments.length c121, .int .i64 x0.Store.Now, .int .i64 x0.Cursor, .slice A127 x0.Order.length c128, .slice none 0 0, .slice none 0 0, .slice none 0 0, .int .i64 x0.Steps]
    refine qt 14 11 8191 rfl (fun W hm => rv_build (cs := K15) rfl (by kernel_rfl)) ?_
    refine qo 14 13 16383 rfl ?_
    refine sb 0 K15 [iOwn (tSl tInt 3) [.slice A127 x0.Order.length c128] x0.Order, I39, iBox p42 44 K7, iBox p41 44 K8] (pk [2, 0, 1, 3, 4]) type44 ?_
    refine qn (pk [3, 4]) ?_
    refine QB_done (by kernel_rfl) ?_
    exact QM_cut_normal (p117, A120, c121, A127, c128) sl3 (fun W hm => hm) trivial
   refine qc 14 5883 rfl ?_ ?_
   ·
    refine WM_build0 (E := tInt) underlying25 type3 (Wd_none rfl) (by decide) (fun p131 => ?_)
    refine qn (pk [2, 3]) ?_
    refine qo 14 2 5887 rfl ?_
    refine wcs tyStore x0.Store (cl_fn cb62 rfl) (fun W hm => spec_l7Copy_c2 W _ x0.Store (tyStore_mk (x := x0.Store) (hm.rdS0 r15)) s_0.1) (fun z133 => ?_)
    refine tyStore_sp ?_
    rintro v134 rfl
    refine WM_form (n := 0) rfl ?_
    rintro A135 c136 rfl m137
    refine qn (pk [3, 4]) ?_
    refine qo 14 8 6143 rfl ?_
    let I40 : It := iOwn (tSl (tSl tyVersion 142) 122) [.slice A135 x0.Store.Segments.length c136] x0.Store.Segments
    refine apR tInt tInt 3 (.slice (some ⟨p131, 0, none⟩) 0 0) [] x0.Order [I40, iBox p117 44 K7, iBox p42 44 K7, iBox p41 44 K8] (pk [1, 0, 2, 3, 4]) (fun W hm => src_flat flat_int (hm.rdS0 r20)) underlying25 type3 (show (0 + x0.Order.length) * 8 ≤ 140737488355328 from by omega) (fun v139 => ?_)
    refine WM_form (n := 0) rfl ?_
    rintro A140 c141 rfl m142
    refine qn (pk [3, 4]) ?_
    let K16 : List Value := [.slice A135 x0.Store.Segments.length c136, .int .i64 x0.Store.Now, .int .i64 x0.Cursor, .slice A140 x0.Order.length c141, .slice none 0 0, .slice none 0 0, .slice none 0 0, .int .i64 x0.Steps]
    refine qt 14 11 8191 rfl (fun W hm => rv_build (cs := K16) rfl (by kernel_rfl)) ?_
    refine qo 14 13 16383 rfl ?_
    refine sb 0 K16 [iOwn (tSl tInt 3) [.slice A140 x0.Order.length c141] x0.Order, I40, iBox p42 44 K7, iBox p41 44 K8] (pk [2, 0, 1, 3, 4]) type44 ?_
    refine qn (pk [3, 4]) ?_
    refine QB_done (by kernel_rfl) ?_
    exact QM_cut_normal (p117, A135, c136, A140, c141) sl3 (fun W hm => hm) trivial
   exact QBs_nil
  exact QBs_nil
 ·
  rintro ⟨p56, A45, c46, A52, c53⟩ -
  let I41 : It := iOwn (tSl tInt 3) [.slice A52 x0.Order.length c53] x0.Order
  let I42 : It := iOwn (tSl (tSl tyVersion 142) 122) [.slice A45 x0.Store.Segments.length c46] x0.Store.Segments
  show QM 97 _ _ _ .normal [(1, .pointer (some (⟨p41, 0, none⟩ : Addr))), (2, .pointer (some (⟨p42, 0, none⟩ : Addr))), (3, .pointer (some (⟨p56, 0, none⟩ : Addr)))] [iBox p56 44 [.slice A45 x0.Store.Segments.length c46, .int .i64 x0.Store.Now, .int .i64 x0.Cursor, .slice A52 x0.Order.length c53, .slice none 0 0, .slice none 0 0, .slice none 0 0, .int .i64 x0.Steps], I41, I42, iBox p42 44 K7, iBox p41 44 K8]
  refine QM_len (n := 1) rfl ?_
  intro m144 m145
  refine QM_len (n := 2) rfl ?_
  intro m146 m147
  refine QM_then (CM_seq (sr (wa (nt' (CM_block ?_)))))
  refine CM_items (fun W hm => (hm.addNil (E := tyActive) (e := 93)).last) ?_
  let F1 := fun k (s : (List DActive)) => spec_l9Copy_b1 x0 k s
  let R4 := rng (R := DEngine) F1
  refine CM_loop (σ := Nat × ((List DActive)) × (Option Addr × Nat)) (fun s => [(1, .pointer (some (⟨p41, 0, none⟩ : Addr))), (2, .pointer (some (⟨p42, 0, none⟩ : Addr))), (3, .pointer (some (⟨p56, 0, none⟩ : Addr))), (4, .int .i64 ((s.1 : Nat) : Int))]) (fun s => [iBox p56 44 [.slice A45 x0.Store.Segments.length c46, .int .i64 x0.Store.Now, .int .i64 x0.Cursor, .slice A52 x0.Order.length c53, .slice s.2.2.1 s.2.1.length s.2.2.2, .slice none 0 0, .slice none 0 0, .int .i64 x0.Steps], I41, I42, iBox p42 44 K7, iBox p41 44 K8, iOwn (tSl tyActive 93) [.slice s.2.2.1 s.2.1.length s.2.2.2] s.2.1]) (fun s => s.1 ≤ x0.Active.length ∧ R4 (x0.Active.length - s.1) s.1 s.2.1 = R4 (x0.Active.length - 0) 0 [] ∧ s.2.1.length ≤ 0 + s.1) (fun s => x0.Active.length - s.1) (0, [], (none, 0)) sl4 (fun W hm => hm) ⟨(by omega), rfl, Nat.le_refl _⟩ ?_
  rintro ⟨k148, d151, ⟨A152, c153⟩⟩ H156
  obtain ⟨hk154, hF155, hi157⟩ : k148 ≤ x0.Active.length ∧ R4 (x0.Active.length - k148) k148 d151 = R4 (x0.Active.length - 0) 0 [] ∧ d151.length ≤ 0 + k148 := H156
  let K17 : List Value := [.slice A45 x0.Store.Segments.length c46, .int .i64 x0.Store.Now, .int .i64 x0.Cursor, .slice A52 x0.Order.length c53, .slice A152 d151.length c153, .slice none 0 0, .slice none 0 0, .int .i64 x0.Steps]
  let I43 : It := iOwn (tSl tyActive 93) [.slice A152 d151.length c153] d151
  show CM Tryz.prog 97 _ _ _ _ [(1, .pointer (some (⟨p41, 0, none⟩ : Addr))), (2, .pointer (some (⟨p42, 0, none⟩ : Addr))), (3, .pointer (some (⟨p56, 0, none⟩ : Addr))), (4, .int .i64 ((k148 : Nat) : Int))] [iBox p56 44 K17, I41, I42, iBox p42 44 K7, iBox p41 44 K8, I43]
  refine CM_seq (sr (wm ?_))
  refine wv (vf underlying44 rfl type40) ?_
  refine wv (vl 4 4 underlying40) ?_
  refine wv (vlen underlying40) ?_
  refine wv vlss ?_
  refine nt' ?_
  by_cases hl158 : k148 < x0.Active.length
  ·have g159 : (decide (((k148 : Nat) : Int) < ((x0.Active.length : Nat) : Int))) = true := decide_eq_true (by omega)
   refine CM_condT rfl g159 ?_
   refine CM_skip (QM_then (CM_seq (CM_block (sr ?_))))
   refine wv (vf underlying44 rfl type40) ?_
   refine wv (vl 4 4 underlying40) ?_
   refine wm ?_
   obtain ⟨a160, rfl, hb161, he162⟩ := q24 (by omega)
   refine wv (vix 10 k148 underlying40 type93) ?_
   obtain ⟨_, e172, hc163⟩ := he162 k148 _ (gt_some (show k148 < x0.Active.length from by omega))
   obtain ⟨v164, v166, v168, v170, rfl, r165, r167, r169, r171⟩ := tyActive_rd e172
   have l173 : ((gt x0.Active k148).Query.Conds).length ≤ 68719476736 := (s_0.2.2.1.2 _ (gt_mem (show k148 < x0.Active.length from by omega))).1.1
   have l174 : ((gt x0.Active k148).Query.Out).length ≤ 68719476736 := (s_0.2.2.1.2 _ (gt_mem (show k148 < x0.Active.length from by omega))).1.2
   have l175 : ((gt x0.Active k148).Todo).length ≤ 68719476736 := (s_0.2.2.1.2 _ (gt_mem (show k148 < x0.Active.length from by omega))).2.1
   have l176 : ((gt x0.Active k148).Rows).length ≤ 68719476736 := (s_0.2.2.1.2 _ (gt_mem (show k148 < x0.Active.length from by omega))).2.2.1
   have r181 := r165
   obtain ⟨m177, A178, c179, rfl, q180⟩ := r165
   have r186 := r167
   obtain ⟨m182, A183, c184, rfl, q185⟩ := r167
   have r191 := r169
   obtain ⟨m187, A188, c189, rfl, q190⟩ := r169
   have r196 := r171
   obtain ⟨m192, A193, c194, rfl, q195⟩ := r171
   let K18 : List Value := [.int .i64 ((gt x0.Active k148).Query.Id), .int .i64 ((gt x0.Active k148).Query.Tenant), .slice A178 ((gt x0.Active k148).Query.Conds).length c179, .slice A183 ((gt x0.Active k148).Query.Out).length c184, .int .i64 ((gt x0.Active k148).Time), .slice A188 ((gt x0.Active k148).Todo).length c189, .int .i64 ((gt x0.Active k148).Age), .int .i64 ((gt x0.Active k148).Sent), .int .i64 ((gt x0.Active k148).Cap), .slice A193 ((gt x0.Active k148).Rows).length c194]
   refine wv (fun W hm => rv_loadN (cs := K18) underlying93 type93 rfl rfl (hm.elCells (show (a160.add (k148 * 10)).block < w.heap.size from by rw [add_block]; exact hb161.1) hc163)) ?_
   refine WM_alloc type93 rfl (Wd_none rfl) (by decide) (fun p197 => ?_)
   let K19 : List Value := [.slice A12 x0.Store.Segments.length c13, .int .i64 x0.Store.Now, .int .i64 x0.Cursor, .slice A17 x0.Order.length c18, .slice (some a160) x0.Active.length c23, .slice A27 x0.Done.length c28, .slice A32 x0.Ledger.length c33, .int .i64 x0.Steps]
   refine sb 0 K18 [iBox p56 44 K17, I41, I42, iBox p42 44 K7, iBox p41 44 K19, I43] (fun W hm => hm) type93 ?_
   refine nt' (sr ?_)
   refine wv (vf underlying93 rfl type48) ?_
   refine wv (fun W hm => rv_loadN (cs := [.int .i64 ((gt x0.Active k148).Query.Id), .int .i64 ((gt x0.Active k148).Query.Tenant), .slice A178 ((gt x0.Active k148).Query.Conds).length c179, .slice A183 ((gt x0.Active k148).Query.Out).length c184]) underlying48 type48 rfl rfl (hm.boxPart (n := 0) rfl rfl)) ?_
   refine wcs tyQuery ((gt x0.Active k148).Query) (cl_fn cb43 rfl) (fun W hm => spec_l6Query_c2 W _ ((gt x0.Active k148).Query) (tyQuery_mk (x := ((gt x0.Active k148).Query)) (hm.rdS0 r181) (hm.rdS0 r186)) (s_0.2.2.1.2 _ (gt_mem (show k148 < x0.Active.length from by omega))).1) (fun z198 => ?_)
   refine tyQuery_sp ?_
   rintro ⟨v199, v200⟩ rfl
   refine WM_form (n := 0) rfl ?_
   rintro A201 c202 rfl m203
   refine WM_form (n := 1) rfl ?_
   rintro A205 c206 rfl m207
   refine wv (vf underlying93 rfl type48) ?_
   let K20 : List Value := [.int .i64 (((gt x0.Active k148).Query).Id), .int .i64 (((gt x0.Active k148).Query).Tenant), .slice A201 (((gt x0.Active k148).Query).Conds).length c202, .slice A205 (((gt x0.Active k148).Query).Out).length c206, .int .i64 ((gt x0.Active k148).Time), .slice A188 ((gt x0.Active k148).Todo).length c189, .int .i64 ((gt x0.Active k148).Age), .int .i64 ((gt x0.Active k148).Sent), .int .i64 ((gt x0.Active k148).Cap), .slice A193 ((gt x0.Active k148).Rows).length c194]
   let K21 : List Value := [.slice A201 (((gt x0.Active k148).Query).Conds).length c202]
   let I44 : It := iOwn (tSl tyCond 102) K21 (((gt x0.Active k148).Query).Conds)
   let I45 : It := iOwn (tSl tInt 3) [.slice A205 (((gt x0.Active k148).Query).Out).length c206] (((gt x0.Active k148).Query).Out)
   refine sb 0 K20 [I44, I45, iBox p56 44 K17, I41, I42, iBox p42 44 K7, iBox p41 44 K19, I43] (pk [2, 0, 1, 3, 4, 5, 6, 7, 8]) type48 ?_
   refine nt' (sr ?_)
   refine WM_build0 (E := tInt) underlying25 type3 (Wd_none rfl) (by decide) (fun p209 => ?_)
   refine wv (vf underlying93 rfl type25) ?_
   refine wv (vl 1 5 underlying25) ?_
   refine apR tInt tInt 3 (.slice (some ⟨p209, 0, none⟩) 0 0) [] ((gt x0.Active k148).Todo) [iBox p197 93 K20, I44, I45, iBox p56 44 K17, I41, I42, iBox p42 44 K7, iBox p41 44 K19, I43] (fun W hm => hm) (fun W hm => src_flat flat_int (hm.rdS0 r191)) underlying25 type3 (show (0 + ((gt x0.Active k148).Todo).length) * 8 ≤ 140737488355328 from by omega) (fun v211 => ?_)
   refine WM_form (n := 0) rfl ?_
   rintro A212 c213 rfl m214
   refine wv (vf underlying93 rfl type25) ?_
   let I46 : It := iOwn (tSl tInt 3) [.slice A212 ((gt x0.Active k148).Todo).length c213] ((gt x0.Active k148).Todo)
   refine sb 5 [.int .i64 (((gt x0.Active k148).Query).Id), .int .i64 (((gt x0.Active k148).Query).Tenant), .slice A201 (((gt x0.Active k148).Query).Conds).length c202, .slice A205 (((gt x0.Active k148).Query).Out).length c206, .int .i64 ((gt x0.Active k148).Time), .slice A212 ((gt x0.Active k148).Todo).length c213, .int .i64 ((gt x0.Active k148).Age), .int .i64 ((gt x0.Active k148).Sent), .int .i64 ((gt x0.Active k148).Cap), .slice A193 ((gt x0.Active k148).Rows).length c194] [I46, I44, I45, iBox p56 44 K17, I41, I42, iBox p42 44 K7, iBox p41 44 K19, I43] (pk [1, 0, 2, 3, 4, 5, 6, 7, 8, 9]) type25 ?_
   refine nt' (sr ?_)
   refine wv (vf underlying93 rfl type91) ?_
   refine wv (vl 0 9 underlying91) ?_
   refine wcl (tSl tyRow 138) ((gt x0.Active k148).Rows) (cl_fn cb63 rfl) (fun W hm => spec_l9Rows_c2 W _ ((gt x0.Active k148).Rows) (hm.rdS0 r196) (s_0.2.2.1.2 _ (gt_mem (show k148 < x0.Active.length from by omega))).2.2) (fun z216 => ?_)
   refine WM_form (n := 0) rfl ?_
   rintro A217 c218 rfl m219
   refine wv (vf underlying93 rfl type91) ?_
   let K22 : List Value := [.int .i64 (((gt x0.Active k148).Query).Id), .int .i64 (((gt x0.Active k148).Query).Tenant), .slice A201 (((gt x0.Active k148).Query).Conds).length c202, .slice A205 (((gt x0.Active k148).Query).Out).length c206, .int .i64 ((gt x0.Active k148).Time), .slice A212 ((gt x0.Active k148).Todo).length c213, .int .i64 ((gt x0.Active k148).Age), .int .i64 ((gt x0.Active k148).Sent), .int .i64 ((gt x0.Active k148).Cap), .slice A217 ((gt x0.Active k148).Rows).length c218]
   let I47 : It := iOwn (tSl tyRow 138) [.slice A217 ((gt x0.Active k148).Rows).length c218] ((gt x0.Active k148).Rows)
   refine sb 9 K22 [I47, I46, I44, I45, iBox p56 44 K17, I41, I42, iBox p42 44 K7, iBox p41 44 K19, I43] (pk [1, 0, 2, 3, 4, 5, 6, 7, 8, 9, 10]) type91 ?_
   refine nt' (CM_region ?_)
   refine wv (vf underlying44 rfl type40) ?_
   refine wv (vl 5 4 underlying40) ?_
   refine wv (fun W hm => rv_loadN (cs := K22) underlying93 type93 rfl rfl (hm.boxCells (n := 0) rfl)) ?_
   refine WM_build (cs := K22) underlying40 type93 rfl (by decide) (by decide) rfl (by kernel_rfl) (Wd_none rfl) (by decide) (fun p221 => ?_)
   refine ap1 tyActive 93 (.slice A152 d151.length c153) d151 (⟨((gt x0.Active k148).Query), (gt x0.Active k148).Time, (gt x0.Active k148).Todo, (gt x0.Active k148).Age, (gt x0.Active k148).Sent, (gt x0.Active k148).Cap, ((gt x0.Active k148).Rows)⟩ : DActive) [I44, I45, I46, I47] [iBox p197 93 K22, iBox p56 44 K17, I41, I42, iBox p42 44 K7, iBox p41 44 K19] K22 (pk [0, 11, 4, 5, 3, 2, 1, 6, 7, 8, 9, 10]) (fun _ _ hs => Els.single (tyActive_join (x := (⟨((gt x0.Active k148).Query), (gt x0.Active k148).Time, (gt x0.Active k148).Todo, (gt x0.Active k148).Age, (gt x0.Active k148).Sent, (gt x0.Active k148).Cap, ((gt x0.Active k148).Rows)⟩ : DActive)) hs)) underlying40 type93 (show (d151.length + 1) * 144 ≤ 140737488355328 from by omega) (fun v222 => ?_)
   refine WM_form (n := 0) rfl ?_
   rintro A223 c224 rfl m225
   refine wv (vf underlying44 rfl type40) ?_
   refine sb 4 [.slice A45 x0.Store.Segments.length c46, .int .i64 x0.Store.Now, .int .i64 x0.Cursor, .slice A52 x0.Order.length c53, .slice A223 (spec_l9Copy_v1 x0 k148 d151).length c224, .slice none 0 0, .slice none 0 0, .int .i64 x0.Steps] [iOwn (tSl tyActive 93) [.slice A223 (spec_l9Copy_v1 x0 k148 d151).length c224] (spec_l9Copy_v1 x0 k148 d151), iBox p197 93 K22, I41, I42, iBox p42 44 K7, iBox p41 44 K19] (pk [2, 0, 1, 3, 4, 5, 6]) type40 ?_
   refine WM_nil (QM_block_normal (QM_then (CM_region (wm ?_))))
   refine wv (vadN k148 1 (by omega)) ?_
   refine wa (WM_nil ?_)
   have hn227 := rng_next (R := DEngine) (body := F1) (k := k148) (s := d151) (s' := (spec_l9Copy_v1 x0 k148 d151)) (show k148 < x0.Active.length from by omega) (show spec_l9Copy_b1 x0 k148 d151 = Sum.inr (spec_l9Copy_v1 x0 k148 d151) from by unfold spec_l9Copy_b1; exact rfl) hF155
   exact QM_round (k148 + 1, (spec_l9Copy_v1 x0 k148 d151), (A223, c224)) sl4 (pk [0, 3, 4, 5, 6, 1]) ⟨(by omega), hn227, (show (spec_l9Copy_v1 x0 k148 d151).length ≤ 0 + (k148 + 1) from by first | omega | (simp only [List.length_append, List.length_cons, List.length_nil] at *; omega))⟩ (rl (by omega))
  ·have g159 : (decide (((k148 : Nat) : Int) < ((x0.Active.length : Nat) : Int))) = false := decide_eq_false (by omega)
   refine CM_condF rfl g159 ?_
   refine CM_exit (QM_then_exit (QM_then_exit ?_))
   have hE228 : R4 (x0.Active.length - 0) 0 [] = Sum.inr d151 := rng_end hl158 hF155
   refine QM_block_hit (QM_then (CM_seq (sr (wa (nt' (CM_block ?_))))))
   refine CM_items (fun W hm => (hm.addNil (E := tyFinished) (e := 97)).last) ?_
   let F2 := fun k (s : (List DFinished)) => spec_l9Copy_b2 x0 k s
   let R5 := rng (R := DEngine) F2
   refine CM_loop (σ := Nat × ((List DFinished)) × (Option Addr × Nat)) (fun s => [(1, .pointer (some (⟨p41, 0, none⟩ : Addr))), (2, .pointer (some (⟨p42, 0, none⟩ : Addr))), (3, .pointer (some (⟨p56, 0, none⟩ : Addr))), (6, .int .i64 ((s.1 : Nat) : Int))]) (fun s => [iBox p56 44 [.slice A45 x0.Store.Segments.length c46, .int .i64 x0.Store.Now, .int .i64 x0.Cursor, .slice A52 x0.Order.length c53, .slice A152 d151.length c153, .slice s.2.2.1 s.2.1.length s.2.2.2, .slice none 0 0, .int .i64 x0.Steps], I41, I42, iBox p42 44 K7, iBox p41 44 K8, I43, iOwn (tSl tyFinished 97) [.slice s.2.2.1 s.2.1.length s.2.2.2] s.2.1]) (fun s => s.1 ≤ x0.Done.length ∧ R5 (x0.Done.length - s.1) s.1 s.2.1 = R5 (x0.Done.length - 0) 0 [] ∧ s.2.1.length ≤ 0 + s.1) (fun s => x0.Done.length - s.1) (0, [], (none, 0)) sl4 (fun W hm => hm) ⟨(by omega), rfl, Nat.le_refl _⟩ ?_
   rintro ⟨k229, d232, ⟨A233, c234⟩⟩ H237
   obtain ⟨hk235, hF236, hi238⟩ : k229 ≤ x0.Done.length ∧ R5 (x0.Done.length - k229) k229 d232 = R5 (x0.Done.length - 0) 0 [] ∧ d232.length ≤ 0 + k229 := H237
   let K23 : List Value := [.slice A45 x0.Store.Segments.length c46, .int .i64 x0.Store.Now, .int .i64 x0.Cursor, .slice A52 x0.Order.length c53, .slice A152 d151.length c153, .slice A233 d232.length c234, .slice none 0 0, .int .i64 x0.Steps]
   let I48 : It := iOwn (tSl tyFinished 97) [.slice A233 d232.length c234] d232
   show CM Tryz.prog 97 _ _ _ _ [(1, .pointer (some (⟨p41, 0, none⟩ : Addr))), (2, .pointer (some (⟨p42, 0, none⟩ : Addr))), (3, .pointer (some (⟨p56, 0, none⟩ : Addr))), (6, .int .i64 ((k229 : Nat) : Int))] [iBox p56 44 K23, I41, I42, iBox p42 44 K7, iBox p41 44 K8, I43, I48]
   refine CM_seq (sr (wm ?_))
   refine wv (vf underlying44 rfl type41) ?_
   refine wv (vl 4 5 underlying41) ?_
   refine wv (vlen underlying41) ?_
   refine wv vlss ?_
   refine nt' ?_
   by_cases hl239 : k229 < x0.Done.length
   ·have g240 : (decide (((k229 : Nat) : Int) < ((x0.Done.length : Nat) : Int))) = true := decide_eq_true (by omega)
    refine CM_condT rfl g240 ?_
    refine CM_skip (QM_then (CM_seq (CM_block (sr ?_))))
    refine wv (vf underlying44 rfl type41) ?_
    refine wv (vl 4 5 underlying41) ?_
    refine wm ?_
    obtain ⟨a241, rfl, hb242, he243⟩ := q29 (by omega)
    refine wv (vix 7 k229 underlying41 type97) ?_
    obtain ⟨_, e251, hc244⟩ := he243 k229 _ (gt_some (show k229 < x0.Done.length from by omega))
    obtain ⟨v245, v247, v249, rfl, r246, r248, r250⟩ := tyFinished_rd e251
    have l252 : ((gt x0.Done k229).Query.Conds).length ≤ 68719476736 := (s_0.2.2.2.1.2 _ (gt_mem (show k229 < x0.Done.length from by omega))).1.1
    have l253 : ((gt x0.Done k229).Query.Out).length ≤ 68719476736 := (s_0.2.2.2.1.2 _ (gt_mem (show k229 < x0.Done.length from by omega))).1.2
    have l254 : ((gt x0.Done k229).Rows).length ≤ 68719476736 := (s_0.2.2.2.1.2 _ (gt_mem (show k229 < x0.Done.length from by omega))).2.1
    have r259 := r246
    obtain ⟨m255, A256, c257, rfl, q258⟩ := r246
    have r264 := r248
    obtain ⟨m260, A261, c262, rfl, q263⟩ := r248
    have r269 := r250
    obtain ⟨m265, A266, c267, rfl, q268⟩ := r250
    let K24 : List Value := [.int .i64 ((gt x0.Done k229).Query.Id), .int .i64 ((gt x0.Done k229).Query.Tenant), .slice A256 ((gt x0.Done k229).Query.Conds).length c257, .slice A261 ((gt x0.Done k229).Query.Out).length c262, .int .i64 ((gt x0.Done k229).Time), .int .i64 ((gt x0.Done k229).Steps), .slice A266 ((gt x0.Done k229).Rows).length c267]
    refine wv (fun W hm => rv_loadN (cs := K24) underlying97 type97 rfl rfl (hm.elCells (show (a241.add (k229 * 7)).block < w.heap.size from by rw [add_block]; exact hb242.1) hc244)) ?_
    refine WM_alloc type97 rfl (Wd_none rfl) (by decide) (fun p270 => ?_)
    let K25 : List Value := [.slice A12 x0.Store.Segments.length c13, .int .i64 x0.Store.Now, .int .i64 x0.Cursor, .slice A17 x0.Order.length c18, .slice A22 x0.Active.length c23, .slice (some a241) x0.Done.length c28, .slice A32 x0.Ledger.length c33, .int .i64 x0.Steps]
    refine sb 0 K24 [iBox p56 44 K23, I41, I42, iBox p42 44 K7, iBox p41 44 K25, I43, I48] (fun W hm => hm) type97 ?_
    refine nt' (sr ?_)
    refine wv (vf underlying97 rfl type48) ?_
    refine wv (fun W hm => rv_loadN (cs := [.int .i64 ((gt x0.Done k229).Query.Id), .int .i64 ((gt x0.Done k229).Query.Tenant), .slice A256 ((gt x0.Done k229).Query.Conds).length c257, .slice A261 ((gt x0.Done k229).Query.Out).length c262]) underlying48 type48 rfl rfl (hm.boxPart (n := 0) rfl rfl)) ?_
    refine wcs tyQuery ((gt x0.Done k229).Query) (cl_fn cb43 rfl) (fun W hm => spec_l6Query_c2 W _ ((gt x0.Done k229).Query) (tyQuery_mk (x := ((gt x0.Done k229).Query)) (hm.rdS0 r259) (hm.rdS0 r264)) (s_0.2.2.2.1.2 _ (gt_mem (show k229 < x0.Done.length from by omega))).1) (fun z271 => ?_)
    refine tyQuery_sp ?_
    rintro ⟨v272, v273⟩ rfl
    refine WM_form (n := 0) rfl ?_
    rintro A274 c275 rfl m276
    refine WM_form (n := 1) rfl ?_
    rintro A278 c279 rfl m280
    refine wv (vf underlying97 rfl type48) ?_
    let I49 : It := iOwn (tSl tyCond 102) [.slice A274 (((gt x0.Done k229).Query).Conds).length c275] (((gt x0.Done k229).Query).Conds)
    let I50 : It := iOwn (tSl tInt 3) [.slice A278 (((gt x0.Done k229).Query).Out).length c279] (((gt x0.Done k229).Query).Out)
    refine sb 0 [.int .i64 (((gt x0.Done k229).Query).Id), .int .i64 (((gt x0.Done k229).Query).Tenant), .slice A274 (((gt x0.Done k229).Query).Conds).length c275, .slice A278 (((gt x0.Done k229).Query).Out).length c279, .int .i64 ((gt x0.Done k229).Time), .int .i64 ((gt x0.Done k229).Steps), .slice A266 ((gt x0.Done k229).Rows).length c267] [I49, I50, iBox p56 44 K23, I41, I42, iBox p42 44 K7, iBox p41 44 K25, I43, I48] (pk [2, 0, 1, 3, 4, 5, 6, 7, 8, 9]) type48 ?_
    refine nt' (sr ?_)
    refine wv (vf underlying97 rfl type91) ?_
    refine wv (vl 0 6 underlying91) ?_
    refine wcl (tSl tyRow 138) ((gt x0.Done k229).Rows) (cl_fn cb63 rfl) (fun W hm => spec_l9Rows_c2 W _ ((gt x0.Done k229).Rows) (hm.rdS0 r269) (s_0.2.2.2.1.2 _ (gt_mem (show k229 < x0.Done.length from by omega))).2) (fun z282 => ?_)
    refine WM_form (n := 0) rfl ?_
    rintro A283 c284 rfl m285
    refine wv (vf underlying97 rfl type91) ?_
    let K26 : List Value := [.int .i64 (((gt x0.Done k229).Query).Id), .int .i64 (((gt x0.Done k229).Query).Tenant), .slice A274 (((gt x0.Done k229).Query).Conds).length c275, .slice A278 (((gt x0.Done k229).Query).Out).length c279, .int .i64 ((gt x0.Done k229).Time), .int .i64 ((gt x0.Done k229).Steps), .slice A283 ((gt x0.Done k229).Rows).length c284]
    let I51 : It := iOwn (tSl tyRow 138) [.slice A283 ((gt x0.Done k229).Rows).length c284] ((gt x0.Done k229).Rows)
    refine sb 6 K26 [I51, I49, I50, iBox p56 44 K23, I41, I42, iBox p42 44 K7, iBox p41 44 K25, I43, I48] (pk [1, 0, 2, 3, 4, 5, 6, 7, 8, 9, 10]) type91 ?_
    refine nt' (CM_region ?_)
    refine wv (vf underlying44 rfl type41) ?_
    refine wv (vl 4 5 underlying41) ?_
    refine wv (fun W hm => rv_loadN (cs := K26) underlying97 type97 rfl rfl (hm.boxCells (n := 0) rfl)) ?_
    refine WM_build (cs := K26) underlying41 type97 rfl (by decide) (by decide) rfl (by kernel_rfl) (Wd_none rfl) (by decide) (fun p287 => ?_)
    refine ap1 tyFinished 97 (.slice A233 d232.length c234) d232 (⟨((gt x0.Done k229).Query), (gt x0.Done k229).Time, (gt x0.Done k229).Steps, ((gt x0.Done k229).Rows)⟩ : DFinished) [I49, I50, I51] [iBox p270 97 K26, iBox p56 44 K23, I41, I42, iBox p42 44 K7, iBox p41 44 K25, I43] K26 (pk [0, 11, 3, 4, 2, 1, 5, 6, 7, 8, 9, 10]) (fun _ _ hs => Els.single (tyFinished_join (x := (⟨((gt x0.Done k229).Query), (gt x0.Done k229).Time, (gt x0.Done k229).Steps, ((gt x0.Done k229).Rows)⟩ : DFinished)) hs)) underlying41 type97 (show (d232.length + 1) * 104 ≤ 140737488355328 from by omega) (fun v288 => ?_)
    refine WM_form (n := 0) rfl ?_
    rintro A289 c290 rfl m291
    refine wv (vf underlying44 rfl type41) ?_
    refine sb 5 [.slice A45 x0.Store.Segments.length c46, .int .i64 x0.Store.Now, .int .i64 x0.Cursor, .slice A52 x0.Order.length c53, .slice A152 d151.length c153, .slice A289 (d232 ++ [(⟨((gt x0.Done k229).Query), (gt x0.Done k229).Time, (gt x0.Done k229).Steps, ((gt x0.Done k229).Rows)⟩ : DFinished)]).length c290, .slice none 0 0, .int .i64 x0.Steps] [iOwn (tSl tyFinished 97) [.slice A289 (d232 ++ [(⟨((gt x0.Done k229).Query), (gt x0.Done k229).Time, (gt x0.Done k229).Steps, ((gt x0.Done k229).Rows)⟩ : DFinished)]).length c290] (d232 ++ [(⟨((gt x0.Done k229).Query), (gt x0.Done k229).Time, (gt x0.Done k229).Steps, ((gt x0.Done k229).Rows)⟩ : DFinished)]), iBox p270 97 K26, I41, I42, iBox p42 44 K7, iBox p41 44 K25, I43] (pk [2, 0, 1, 3, 4, 5, 6, 7]) type41 ?_
    refine WM_nil (QM_block_normal (QM_then (CM_region (wm ?_))))
    refine wv (vadN k229 1 (by omega)) ?_
    refine wa (WM_nil ?_)
    have hn293 := rng_next (R := DEngine) (body := F2) (k := k229) (s := d232) (s' := (d232 ++ [(⟨((gt x0.Done k229).Query), (gt x0.Done k229).Time, (gt x0.Done k229).Steps, ((gt x0.Done k229).Rows)⟩ : DFinished)])) (show k229 < x0.Done.length from by omega) (show spec_l9Copy_b2 x0 k229 d232 = Sum.inr (d232 ++ [(⟨((gt x0.Done k229).Query), (gt x0.Done k229).Time, (gt x0.Done k229).Steps, ((gt x0.Done k229).Rows)⟩ : DFinished)]) from by unfold spec_l9Copy_b2; exact rfl) hF236
    exact QM_round (k229 + 1, (d232 ++ [(⟨((gt x0.Done k229).Query), (gt x0.Done k229).Time, (gt x0.Done k229).Steps, ((gt x0.Done k229).Rows)⟩ : DFinished)]), (A289, c290)) sl4 (pk [0, 3, 4, 5, 6, 7, 1]) ⟨(by omega), hn293, (show (d232 ++ [(⟨((gt x0.Done k229).Query), (gt x0.Done k229).Time, (gt x0.Done k229).Steps, ((gt x0.Done k229).Rows)⟩ : DFinished)]).length ≤ 0 + (k229 + 1) from by first | omega | (simp only [List.length_append, List.length_cons, List.length_nil] at *; omega))⟩ (rl (by omega))
   ·have g240 : (decide (((k229 : Nat) : Int) < ((x0.Done.length : Nat) : Int))) = false := decide_eq_false (by omega)
    refine CM_condF rfl g240 ?_
    refine CM_exit (QM_then_exit (QM_then_exit ?_))
    have hE294 : R5 (x0.Done.length - 0) 0 [] = Sum.inr d232 := rng_end hl239 hF236
    refine QM_block_hit (QM_then (CM_seq (sr (wa (nt' (CM_block ?_))))))
    refine CM_items (fun W hm => (hm.addNil (E := tyCharge) (e := 99)).last) ?_
    let F3 := fun k (s : (List DCharge)) => spec_l9Copy_b3 x0 k s
    let R6 := rng (R := DEngine) F3
    refine CM_loop (σ := Nat × ((List DCharge)) × (Option Addr × Nat)) (fun s => [(1, .pointer (some (⟨p41, 0, none⟩ : Addr))), (2, .pointer (some (⟨p42, 0, none⟩ : Addr))), (3, .pointer (some (⟨p56, 0, none⟩ : Addr))), (8, .int .i64 ((s.1 : Nat) : Int))]) (fun s => [iBox p56 44 [.slice A45 x0.Store.Segments.length c46, .int .i64 x0.Store.Now, .int .i64 x0.Cursor, .slice A52 x0.Order.length c53, .slice A152 d151.length c153, .slice A233 d232.length c234, .slice s.2.2.1 s.2.1.length s.2.2.2, .int .i64 x0.Steps], I41, I42, iBox p42 44 K7, iBox p41 44 K8, I43, I48, iOwn (tSl tyCharge 99) [.slice s.2.2.1 s.2.1.length s.2.2.2] s.2.1]) (fun s => s.1 ≤ x0.Ledger.length ∧ R6 (x0.Ledger.length - s.1) s.1 s.2.1 = R6 (x0.Ledger.length - 0) 0 [] ∧ s.2.1.length ≤ 0 + s.1) (fun s => x0.Ledger.length - s.1) (0, [], (none, 0)) sl4 (fun W hm => hm) ⟨(by omega), rfl, Nat.le_refl _⟩ ?_
    rintro ⟨k295, d298, ⟨A299, c300⟩⟩ H303
    obtain ⟨hk301, hF302, hi304⟩ : k295 ≤ x0.Ledger.length ∧ R6 (x0.Ledger.length - k295) k295 d298 = R6 (x0.Ledger.length - 0) 0 [] ∧ d298.length ≤ 0 + k295 := H303
    let K27 : List Value := [.slice A45 x0.Store.Segments.length c46, .int .i64 x0.Store.Now, .int .i64 x0.Cursor, .slice A52 x0.Order.length c53, .slice A152 d151.length c153, .slice A233 d232.length c234, .slice A299 d298.length c300, .int .i64 x0.Steps]
    let I52 : It := iOwn (tSl tyCharge 99) [.slice A299 d298.length c300] d298
    show CM Tryz.prog 97 _ _ _ _ [(1, .pointer (some (⟨p41, 0, none⟩ : Addr))), (2, .pointer (some (⟨p42, 0, none⟩ : Addr))), (3, .pointer (some (⟨p56, 0, none⟩ : Addr))), (8, .int .i64 ((k295 : Nat) : Int))] [iBox p56 44 K27, I41, I42, iBox p42 44 K7, iBox p41 44 K8, I43, I48, I52]
    refine CM_seq (sr (wm ?_))
    refine wv (vf underlying44 rfl type42) ?_
    refine wv (vl 4 6 underlying42) ?_
    refine wv (vlen underlying42) ?_
    refine wv vlss ?_
    refine nt' ?_
    by_cases hl305 : k295 < x0.Ledger.length
    ·have g306 : (decide (((k295 : Nat) : Int) < ((x0.Ledger.length : Nat) : Int))) = true := decide_eq_true (by omega)
     refine CM_condT rfl g306 ?_
     refine CM_skip (QM_then (CM_seq (CM_block ?_)))
     obtain ⟨a307, rfl, hb308, he309⟩ := q34 (by omega)
     obtain ⟨_, e317, hc310⟩ := he309 k295 _ (gt_some (show k295 < x0.Ledger.length from by omega))
     obtain ⟨v311, v313, v315, rfl, r312, r314, r316⟩ := tyCharge_rd e317
     have l318 : ((gt x0.Ledger k295).Ids).length ≤ 68719476736 := (s_0.2.2.2.2.2 _ (gt_mem (show k295 < x0.Ledger.length from by omega))).1
     have l319 : ((gt x0.Ledger k295).Tenants).length ≤ 68719476736 := (s_0.2.2.2.2.2 _ (gt_mem (show k295 < x0.Ledger.length from by omega))).2.1
     have l320 : ((gt x0.Ledger k295).Rows).length ≤ 68719476736 := (s_0.2.2.2.2.2 _ (gt_mem (show k295 < x0.Ledger.length from by omega))).2.2
     have r325 := r312
     obtain ⟨m321, A322, c323, rfl, q324⟩ := r312
     have r330 := r314
     obtain ⟨m326, A327, c328, rfl, q329⟩ := r314
     have r335 := r316
     obtain ⟨m331, A332, c333, rfl, q334⟩ := r316
     let K28 : List Value := [.slice A12 x0.Store.Segments.length c13, .int .i64 x0.Store.Now, .int .i64 x0.Cursor, .slice A17 x0.Order.length c18, .slice A22 x0.Active.length c23, .slice A27 x0.Done.length c28, .slice (some a307) x0.Ledger.length c33, .int .i64 x0.Steps]
     refine CM_cut (σ := Option Addr × Nat) (fun s => [(1, .pointer (some (⟨p41, 0, none⟩ : Addr))), (2, .pointer (some (⟨p42, 0, none⟩ : Addr))), (3, .pointer (some (⟨p56, 0, none⟩ : Addr))), (8, .int .i64 ((k295 : Nat) : Int))]) (fun s => [iBox p56 44 [.slice A45 x0.Store.Segments.length c46, .int .i64 x0.Store.Now, .int .i64 x0.Cursor, .slice A52 x0.Order.length c53, .slice A152 d151.length c153, .slice A233 d232.length c234, .slice s.1 (d298 ++ [(gt x0.Ledger k295)]).length s.2, .int .i64 x0.Steps], iOwn (tSl tyCharge 99) [.slice s.1 (d298 ++ [(gt x0.Ledger k295)]).length s.2] (d298 ++ [(gt x0.Ledger k295)]), I41, I42, iBox p42 44 K7, iBox p41 44 K28, I43, I48]) (fun _ => True) ?_ ?_
     ·
      refine rb 12 (s := [I41, I42, iBox p42 44 K7, I43, I48]) (pk [1, 2, 3, 5, 6]) ?_
      refine qt 12 0 1 rfl (vf underlying44 rfl type42) ?_
      refine qt 12 2 5 rfl (vf underlying44 rfl type42) ?_
      refine qt 12 4 21 rfl vmv ?_
      refine qa [1, 3] ?_
      refine qc 12 23 rfl ?_ ?_
      ·
       refine wv (vl 0 6 underlying42) ?_
       refine qn (pk [1, 2, 3, 5, 6]) ?_
       refine qo 12 3 31 rfl ?_
       refine wv (vl 4 6 underlying42) ?_
       refine qn (pk [1, 2, 3, 5, 6]) ?_
       refine qt 12 5 63 rfl (vix 5 k295 underlying42 type99) ?_
       refine qt 12 6 127 rfl (fun W hm => rv_loadN (cs := [.int .i64 ((gt x0.Ledger k295).Segment), .int .i64 ((gt x0.Ledger k295).Base), .slice A322 ((gt x0.Ledger k295).Ids).length c323, .slice A327 ((gt x0.Ledger k295).Tenants).length c328, .slice A332 ((gt x0.Ledger k295).Rows).length c333]) underlying99 type99 rfl rfl (hm.elCells (show (a307.add (k295 * 5)).block < w.heap.size from by rw [add_block]; exact hb308.1) hc310)) ?_
       refine qo 12 7 255 rfl ?_
       refine wcs tyCharge (gt x0.Ledger k295) (cl_fn cb64 rfl) (fun W hm => spec_l10Copy_c2 W _ (gt x0.Ledger k295) (tyCharge_mk (x := (gt x0.Ledger k295)) (hm.rdS0 r325) (hm.rdS0 r330) (hm.rdS0 r335)) (s_0.2.2.2.2.2 _ (gt_mem (show k295 < x0.Ledger.length from by omega)))) (fun z358 => ?_)
       refine tyCharge_sp ?_
       rintro ⟨v359, v360, v361⟩ rfl
       refine WM_form (n := 0) rfl ?_
       rintro A362 c363 rfl m364
       refine WM_form (n := 1) rfl ?_
       rintro A366 c367 rfl m368
       refine WM_form (n := 2) rfl ?_
       rintro A370 c371 rfl m372
       refine qn (pk [4, 5, 6, 8, 9]) ?_
       refine qo 12 8 511 rfl ?_
       let K29 : List Value := [.int .i64 ((gt x0.Ledger k295).Segment), .int .i64 ((gt x0.Ledger k295).Base), .slice A362 ((gt x0.Ledger k295).Ids).length c363, .slice A366 ((gt x0.Ledger k295).Tenants).length c367, .slice A370 ((gt x0.Ledger k295).Rows).length c371]
       refine WM_build (cs := K29) underlying42 type99 rfl (by decide) (by decide) rfl (by kernel_rfl) (Wd_none rfl) (by decide) (fun p374 => ?_)
       refine qn (pk [5, 6, 7, 9, 10]) ?_
       refine qo 12 9 1023 rfl ?_
       refine ap1 tyCharge 99 (.slice A299 d298.length c300) d298 (gt x0.Ledger k295) [iOwn (tSl tInt 3) [.slice A362 ((gt x0.Ledger k295).Ids).length c363] ((gt x0.Ledger k295).Ids), iOwn (tSl tInt 3) [.slice A366 ((gt x0.Ledger k295).Tenants).length c367] ((gt x0.Ledger k295).Tenants), iOwn (tSl tInt 3) [.slice A370 ((gt x0.Ledger k295).Rows).length c371] ((gt x0.Ledger k295).Rows)] [iBox p56 44 K27, I41, I42, iBox p42 44 K7, iBox p41 44 K28, I43, I48] K29 (pk [0, 11, 1, 2, 3, 4, 5, 6, 7, 8, 9, 10]) (fun _ _ hs => Els.single (tyCharge_join (x := (gt x0.Ledger k295)) hs)) underlying42 type99 (show (d298.length + 1) * 88 ≤ 140737488355328 from by omega) (fun v375 => ?_)
       refine WM_form (n := 0) rfl ?_
       rintro A376 c377 rfl m378
       refine qn (pk [2, 3, 4, 6, 7]) ?_
       refine qt 12 10 2047 rfl (vf underlying44 rfl type42) ?_
       refine qo 12 11 4095 rfl ?_
       refine sb 6 [.slice A45 x0.Store.Segments.length c46, .int .i64 x0.Store.Now, .int .i64 x0.Cursor, .slice A52 x0.Order.length c53, .slice A152 d151.length c153, .slice A233 d232.length c234, .slice A376 (d298 ++ [(gt x0.Ledger k295)]).length c377, .int .i64 x0.Steps] [iOwn (tSl tyCharge 99) [.slice A376 (d298 ++ [(gt x0.Ledger k295)]).length c377] (d298 ++ [(gt x0.Ledger k295)]), I41, I42, iBox p42 44 K7, iBox p41 44 K28, I43, I48] (pk [1, 0, 2, 3, 4, 5, 6, 7]) type42 ?_
       refine qn (pk [2, 3, 4, 6, 7]) ?_
       refine QB_done (by kernel_rfl) ?_
       exact QM_cut_normal (A376, c377) sl4 (fun W hm => hm) trivial
      refine qc 12 29 rfl ?_ ?_
      ·
       refine wv (vl 4 6 underlying42) ?_
       refine qn (pk [1, 2, 3, 5, 6]) ?_
       refine qt 12 5 61 rfl (vix 5 k295 underlying42 type99) ?_
       refine qt 12 6 125 rfl (fun W hm => rv_loadN (cs := [.int .i64 ((gt x0.Ledger k295).Segment), .int .i64 ((gt x0.Ledger k295).Base), .slice A322 ((gt x0.Ledger k295).Ids).length c323, .slice A327 ((gt x0.Ledger k295).Tenants).length c328, .slice A332 ((gt x0.Ledger k295).Rows).length c333]) underlying99 type99 rfl rfl (hm.elCells (show (a307.add (k295 * 5)).block < w.heap.size from by rw [add_block]; exact hb308.1) hc310)) ?_
       refine qa [1, 7] ?_
       refine qc 12 127 rfl ?_ ?_
       ·
        refine wv (vl 0 6 underlying42) ?_
        refine qn (pk [1, 2, 3, 5, 6]) ?_
        refine qo 12 7 255 rfl ?_
        refine wcs tyCharge (gt x0.Ledger k295) (cl_fn cb64 rfl) (fun W hm => spec_l10Copy_c2 W _ (gt x0.Ledger k295) (tyCharge_mk (x := (gt x0.Ledger k295)) (hm.rdS0 r325) (hm.rdS0 r330) (hm.rdS0 r335)) (s_0.2.2.2.2.2 _ (gt_mem (show k295 < x0.Ledger.length from by omega)))) (fun z380 => ?_)
        refine tyCharge_sp ?_
        rintro ⟨v381, v382, v383⟩ rfl
        refine WM_form (n := 0) rfl ?_
        rintro A384 c385 rfl m386
        refine WM_form (n := 1) rfl ?_
        rintro A388 c389 rfl m390
        refine WM_form (n := 2) rfl ?_
        rintro A392 c393 rfl m394
        refine qn (pk [4, 5, 6, 8, 9]) ?_
        refine qo 12 8 511 rfl ?_
        let K30 : List Value := [.int .i64 ((gt x0.Ledger k295).Segment), .int .i64 ((gt x0.Ledger k295).Base), .slice A384 ((gt x0.Ledger k295).Ids).length c385, .slice A388 ((gt x0.Ledger k295).Tenants).length c389, .slice A392 ((gt x0.Ledger k295).Rows).length c393]
        refine WM_build (cs := K30) underlying42 type99 rfl (by decide) (by decide) rfl (by kernel_rfl) (Wd_none rfl) (by decide) (fun p396 => ?_)
        refine qn (pk [5, 6, 7, 9, 10]) ?_
        refine qo 12 9 1023 rfl ?_
        refine ap1 tyCharge 99 (.slice A299 d298.length c300) d298 (gt x0.Ledger k295) [iOwn (tSl tInt 3) [.slice A384 ((gt x0.Ledger k295).Ids).length c385] ((gt x0.Ledger k295).Ids), iOwn (tSl tInt 3) [.slice A388 ((gt x0.Ledger k295).Tenants).length c389] ((gt x0.Ledger k295).Tenants), iOwn (tSl tInt 3) [.slice A392 ((gt x0.Ledger k295).Rows).length c393] ((gt x0.Ledger k295).Rows)] [iBox p56 44 K27, I41, I42, iBox p42 44 K7, iBox p41 44 K28, I43, I48] K30 (pk [0, 11, 1, 2, 3, 4, 5, 6, 7, 8, 9, 10]) (fun _ _ hs => Els.single (tyCharge_join (x := (gt x0.Ledger k295)) hs)) underlying42 type99 (show (d298.length + 1) * 88 ≤ 140737488355328 from by omega) (fun v397 => ?_)
        refine WM_form (n := 0) rfl ?_
        rintro A398 c399 rfl m400
        refine qn (pk [2, 3, 4, 6, 7]) ?_
        refine qt 12 10 2047 rfl (vf underlying44 rfl type42) ?_
        refine qo 12 11 4095 rfl ?_
        refine sb 6 [.slice A45 x0.Store.Segments.length c46, .int .i64 x0.Store.Now, .int .i64 x0.Cursor, .slice A52 x0.Order.length c53, .slice A152 d151.length c153, .slice A233 d232.length c234, .slice A398 (d298 ++ [(gt x0.Ledger k295)]).length c399, .int .i64 x0.Steps] [iOwn (tSl tyCharge 99) [.slice A398 (d298 ++ [(gt x0.Ledger k295)]).length c399] (d298 ++ [(gt x0.Ledger k295)]), I41, I42, iBox p42 44 K7, iBox p41 44 K28, I43, I48] (pk [1, 0, 2, 3, 4, 5, 6, 7]) type42 ?_
        refine qn (pk [2, 3, 4, 6, 7]) ?_
        refine QB_done (by kernel_rfl) ?_
        exact QM_cut_normal (A398, c399) sl4 (fun W hm => hm) trivial
       refine qc 12 253 rfl ?_ ?_
       ·
        refine wcs tyCharge (gt x0.Ledger k295) (cl_fn cb64 rfl) (fun W hm => spec_l10Copy_c2 W _ (gt x0.Ledger k295) (tyCharge_mk (x := (gt x0.Ledger k295)) (hm.rdS0 r325) (hm.rdS0 r330) (hm.rdS0 r335)) (s_0.2.2.2.2.2 _ (gt_mem (show k295 < x0.Ledger.length from by omega)))) (fun z402 => ?_)
        refine tyCharge_sp ?_
        rintro ⟨v403, v404, v405⟩ rfl
        refine WM_form (n := 0) rfl ?_
        rintro A406 c407 rfl m408
        refine WM_form (n := 1) rfl ?_
        rintro A410 c411 rfl m412
        refine WM_form (n := 2) rfl ?_
        rintro A414 c415 rfl m416
        refine qn (pk [4, 5, 6, 8, 9]) ?_
        refine qa [1, 8] ?_
        refine qc 12 255 rfl ?_ ?_
        ·
         refine wv (vl 3 6 underlying42) ?_
         refine qn (pk [4, 5, 6, 8, 9]) ?_
         refine qo 12 8 511 rfl ?_
         let K31 : List Value := [.int .i64 ((gt x0.Ledger k295).Segment), .int .i64 ((gt x0.Ledger k295).Base), .slice A406 ((gt x0.Ledger k295).Ids).length c407, .slice A410 ((gt x0.Ledger k295).Tenants).length c411, .slice A414 ((gt x0.Ledger k295).Rows).length c415]
         refine WM_build (cs := K31) underlying42 type99 rfl (by decide) (by decide) rfl (by kernel_rfl) (Wd_none rfl) (by decide) (fun p418 => ?_)
         refine qn (pk [5, 6, 7, 9, 10]) ?_
         refine qo 12 9 1023 rfl ?_
         refine ap1 tyCharge 99 (.slice A299 d298.length c300) d298 (gt x0.Ledger k295) [iOwn (tSl tInt 3) [.slice A406 ((gt x0.Ledger k295).Ids).length c407] ((gt x0.Ledger k295).Ids), iOwn (tSl tInt 3) [.slice A410 ((gt x0.Ledger k295).Tenants).length c411] ((gt x0.Ledger k295).Tenants), iOwn (tSl tInt 3) [.slice A414 ((gt x0.Ledger k295).Rows).length c415] ((gt x0.Ledger k295).Rows)] [iBox p56 44 K27, I41, I42, iBox p42 44 K7, iBox p41 44 K28, I43, I48] K31 (pk [0, 11, 1, 2, 3, 4, 5, 6, 7, 8, 9, 10]) (fun _ _ hs => Els.single (tyCharge_join (x := (gt x0.Ledger k295)) hs)) underlying42 type99 (show (d298.length + 1) * 88 ≤ 140737488355328 from by omega) (fun v419 => ?_)
         refine WM_form (n := 0) rfl ?_
         rintro A420 c421 rfl m422
         refine qn (pk [2, 3, 4, 6, 7]) ?_
         refine qt 12 10 2047 rfl (vf underlying44 rfl type42) ?_
         refine qo 12 11 4095 rfl ?_
         refine sb 6 [.slice A45 x0.Store.Segments.length c46, .int .i64 x0.Store.Now, .int .i64 x0.Cursor, .slice A52 x0.Order.length c53, .slice A152 d151.length c153, .slice A233 d232.length c234, .slice A420 (d298 ++ [(gt x0.Ledger k295)]).length c421, .int .i64 x0.Steps] [iOwn (tSl tyCharge 99) [.slice A420 (d298 ++ [(gt x0.Ledger k295)]).length c421] (d298 ++ [(gt x0.Ledger k295)]), I41, I42, iBox p42 44 K7, iBox p41 44 K28, I43, I48] (pk [1, 0, 2, 3, 4, 5, 6, 7]) type42 ?_
         refine qn (pk [2, 3, 4, 6, 7]) ?_
         refine QB_done (by kernel_rfl) ?_
         exact QM_cut_normal (A420, c421) sl4 (fun W hm => hm) trivial
        refine qc 12 509 rfl ?_ ?_
        ·
         let K32 : List Value := [.int .i64 ((gt x0.Ledger k295).Segment), .int .i64 ((gt x0.Ledger k295).Base), .slice A406 ((gt x0.Ledger k295).Ids).length c407, .slice A410 ((gt x0.Ledger k295).Tenants).length c411, .slice A414 ((gt x0.Ledger k295).Rows).length c415]
         refine WM_build (cs := K32) underlying42 type99 rfl (by decide) (by decide) rfl (by kernel_rfl) (Wd_none rfl) (by decide) (fun p424 => ?_)
         refine qn (pk [5, 6, 7, 9, 10]) ?_
         refine qo 12 1 511 rfl ?_
         refine wv (vl 4 6 underlying42) ?_
         refine qn (pk [5, 6, 7, 9, 10]) ?_
         refine qo 12 9 1023 rfl ?_
         refine ap1 tyCharge 99 (.slice A299 d298.length c300) d298 (gt x0.Ledger k295) [iOwn (tSl tInt 3) [.slice A406 ((gt x0.Ledger k295).Ids).length c407] ((gt x0.Ledger k295).Ids), iOwn (tSl tInt 3) [.slice A410 ((gt x0.Ledger k295).Tenants).length c411] ((gt x0.Ledger k295).Tenants), iOwn (tSl tInt 3) [.slice A414 ((gt x0.Ledger k295).Rows).length c415] ((gt x0.Ledger k295).Rows)] [iBox p56 44 K27, I41, I42, iBox p42 44 K7, iBox p41 44 K28, I43, I48] K32 (pk [0, 11, 1, 2, 3, 4, 5, 6, 7, 8, 9, 10]) (fun _ _ hs => Els.single (tyCharge_join (x := (gt x0.Ledger k295)) hs)) underlying42 type99 (show (d298.length + 1) * 88 ≤ 140737488355328 from by omega) (fun v425 => ?_)
         refine WM_form (n := 0) rfl ?_
         rintro A426 c427 rfl m428
         refine qn (pk [2, 3, 4, 6, 7]) ?_
         refine qt 12 10 2047 rfl (vf underlying44 rfl type42) ?_
         refine qo 12 11 4095 rfl ?_
         refine sb 6 [.slice A45 x0.Store.Segments.length c46, .int .i64 x0.Store.Now, .int .i64 x0.Cursor, .slice A52 x0.Order.length c53, .slice A152 d151.length c153, .slice A233 d232.length c234, .slice A426 (d298 ++ [(gt x0.Ledger k295)]).length c427, .int .i64 x0.Steps] [iOwn (tSl tyCharge 99) [.slice A426 (d298 ++ [(gt x0.Ledger k295)]).length c427] (d298 ++ [(gt x0.Ledger k295)]), I41, I42, iBox p42 44 K7, iBox p41 44 K28, I43, I48] (pk [1, 0, 2, 3, 4, 5, 6, 7]) type42 ?_
         refine qn (pk [2, 3, 4, 6, 7]) ?_
         refine QB_done (by kernel_rfl) ?_
         exact QM_cut_normal (A426, c427) sl4 (fun W hm => hm) trivial
        exact QBs_nil
       exact QBs_nil
      exact QBs_nil
     ·
      rintro ⟨A354, c355⟩ -
      show QM 97 _ _ _ .normal [(1, .pointer (some (⟨p41, 0, none⟩ : Addr))), (2, .pointer (some (⟨p42, 0, none⟩ : Addr))), (3, .pointer (some (⟨p56, 0, none⟩ : Addr))), (8, .int .i64 ((k295 : Nat) : Int))] [iBox p56 44 [.slice A45 x0.Store.Segments.length c46, .int .i64 x0.Store.Now, .int .i64 x0.Cursor, .slice A52 x0.Order.length c53, .slice A152 d151.length c153, .slice A233 d232.length c234, .slice A354 (d298 ++ [(gt x0.Ledger k295)]).length c355, .int .i64 x0.Steps], iOwn (tSl tyCharge 99) [.slice A354 (d298 ++ [(gt x0.Ledger k295)]).length c355] (d298 ++ [(gt x0.Ledger k295)]), I41, I42, iBox p42 44 K7, iBox p41 44 K28, I43, I48]
      refine QM_len (n := 1) rfl ?_
      intro m430 m431
      refine QM_block_normal (QM_then (CM_region (wm ?_)))
      refine wv (vadN k295 1 (by omega)) ?_
      refine wa (WM_nil ?_)
      have hn432 := rng_next (R := DEngine) (body := F3) (k := k295) (s := d298) (s' := (d298 ++ [(gt x0.Ledger k295)])) (show k295 < x0.Ledger.length from by omega) (show spec_l9Copy_b3 x0 k295 d298 = Sum.inr (d298 ++ [(gt x0.Ledger k295)]) from by unfold spec_l9Copy_b3; exact rfl) hF302
      exact QM_round (k295 + 1, (d298 ++ [(gt x0.Ledger k295)]), (A354, c355)) sl4 (pk [0, 2, 3, 4, 5, 6, 7, 1]) ⟨(by omega), hn432, (show (d298 ++ [(gt x0.Ledger k295)]).length ≤ 0 + (k295 + 1) from by first | omega | (simp only [List.length_append, List.length_cons, List.length_nil] at *; omega))⟩ (rl (by omega))
    ·have g306 : (decide (((k295 : Nat) : Int) < ((x0.Ledger.length : Nat) : Int))) = false := decide_eq_false (by omega)
     refine CM_condF rfl g306 ?_
     refine CM_exit (QM_then_exit (QM_then_exit ?_))
     have hE433 : R6 (x0.Ledger.length - 0) 0 [] = Sum.inr d298 := rng_end hl305 hF302
     refine QM_block_hit (QM_then (sr ?_))
     refine wv (fun W hm => rv_loadN (cs := K27) underlying44 type44 rfl rfl (hm.boxCells (n := 0) rfl)) ?_
     refine sb 0 K27 [iBox p56 44 K27, I41, I42, iBox p41 44 K8, I43, I48, I52] (pk [3, 0, 1, 2, 4, 5, 6, 7]) type44 ?_
     refine nt' (CM_ret ?_)
     refine QM_r1 rfl (RR_cell (n := 0) rfl rfl underlying44 type44 rfl) (fun W hm => ⟨K27, ?_, ?_⟩)
     ·first | rw [(show spec_l9Copy_m x0 = (⟨x0.Store, x0.Cursor, x0.Order, d151, d232, d298, x0.Steps⟩ : DEngine) from by unfold spec_l9Copy_m; exact fin_inr hE228 (fin_inr hE294 (fin_inr hE433 (rfl))))] | rfl
     ·rw [(show spec_l9Copy_m x0 = (⟨x0.Store, x0.Cursor, x0.Order, d151, d232, d298, x0.Steps⟩ : DEngine) from by unfold spec_l9Copy_m; exact fin_inr hE228 (fin_inr hE294 (fin_inr hE433 (rfl))))]; exact Mem.join (is := [I42, I41, I43, I48, I52]) (js := []) (fun _ _ hs => tyEngine_join (x := (⟨x0.Store, x0.Cursor, x0.Order, d151, d232, d298, x0.Steps⟩ : DEngine)) hs) (hm.pick [3, 2, 5, 6, 7] (by decide))
theorem spec_l9Copy_eq (x0 : DEngine) : spec_l9Copy_m x0 = x0 := by
 unfold spec_l9Copy_m; rw [rng_app (xs := x0.Active) (b := fun k s => spec_l9Copy_b1 x0 k s) (fun _ _ => rfl), rng_app (xs := x0.Done) (b := fun k s => spec_l9Copy_b2 x0 k s) (fun _ _ => rfl), rng_app (xs := x0.Ledger) (b := fun k s => spec_l9Copy_b3 x0 k s) (fun _ _ => rfl)]; rfl
theorem spec_l9Copy_c2 (w : World) (z0 : List Value) (x0 : DEngine) (r_0 : tyEngine.rd w w.heap.size z0 x0) (s_0 : smEngine 68719476736 x0) :
  Calls Tryz.prog 38 #[.agg z0.toArray] w fun e w' => ∃ v : List Value, e = .returned (.agg v.toArray) ∧ Mem w.heap.size w [iOwn tyEngine v x0] w' := by
 have h := spec_l9Copy_c w z0 x0 r_0 s_0
 rw [spec_l9Copy_eq] at h
 exact h

def spec_l1In_m (x0 : Int) (x1 : Int) (x2 : Int) : Bool :=
 cond (decide (x1 ≤ x0)) (decide (x0 ≤ x2)) false
theorem cb41 : Cb Tryz.prog 41 := ⟨f41, _, func41, rfl, by decide⟩
theorem spec_l1In_c (w : World) (x0 : Int) (x1 : Int) (x2 : Int) :
  Calls Tryz.prog 41 #[.int .i64 x0, .int .i64 x1, .int .i64 x2] w fun e w' => e = .returned (.bool (spec_l1In_m x0 x1 x2)) ∧ Below w.heap.size w w' := by
 refine ce3 (L := [(0, .int .i64 x0), (1, .int .i64 x1), (2, .int .i64 x2)]) (N := 15) func41 ?_
 refine sr (wa (nt' (sr (wm (wm ?_)))))
 refine wv (fun W hm => rv_geq rfl rfl) ?_
 refine wm ?_
 by_cases h1 : x1 ≤ x0
 ·have g2 : (decide (x1 ≤ x0)) = true := decide_eq_true h1
  refine wg vmv g2 ?_
  refine wg vmv g2 ?_
  refine wg (fun W hm => rv_leq rfl rfl) g2 ?_
  refine wv (vpT g2) ?_
  refine wa (nt' (CM_ret ?_))
  exact rtb (h := by unfold spec_l1In_m; exact cond_t g2 (rfl))
 ·have g2 : (decide (x1 ≤ x0)) = false := decide_eq_false h1
  refine ws g2 ?_
  refine ws g2 ?_
  refine ws g2 ?_
  refine wv (vpF g2) ?_
  refine wa (nt' (CM_ret ?_))
  exact rtb (h := by unfold spec_l1In_m; exact cond_f g2 (rfl))

theorem spec_l1In_fact {x a b : Int} (h : spec_l1In_m x a b = true) : a ≤ x ∧ x ≤ b := by
  unfold spec_l1In_m at h
  by_cases h1 : a ≤ x
  · rw [decide_eq_true h1] at h
    exact ⟨h1, of_decide_eq_true h⟩
  · rw [decide_eq_false h1] at h
    cases h
theorem spec_l1In_iff (x a b : Int) : spec_l1In_m x a b = decide (a ≤ x ∧ x ≤ b) := by
  unfold spec_l1In_m
  by_cases h1 : a ≤ x
  · by_cases h2 : x ≤ b
    · simp [h1, h2]
    · simp [h1, h2]
  · simp [h1]

def spec_l7All_b1 (x0 : DStore) (k12 : Nat) (d13 : (List DVersion)) : (List DVersion) ⊕ ((List DVersion)) :=
 Sum.inr (d13 ++ (gt x0.Segments k12))
def spec_l7All_m (x0 : DStore) : (List DVersion) :=
 Sum.elim id (fun (s : (List DVersion)) => s) (rng (R := (List DVersion)) (fun k (s : (List DVersion)) => spec_l7All_b1 x0 k s) (x0.Segments.length - 0) 0 [])
theorem cb92 : Cb Tryz.prog 92 := ⟨f92, _, func92, rfl, by decide⟩
theorem spec_l7All_c (B : Nat) (w0 : World) (is : List It) (w : World) (z0 : List Value) (x0 : DStore) (r_0 : tyStore.rd w0 B z0 x0) (s_0 : smStore 68719476736 x0) (hq : (x0.Segments.map List.length).sum ≤ 68719476736) (hm : Mem B w0 is w) :
  Calls Tryz.prog 92 #[.agg z0.toArray] w fun e w' => ∃ v : Value, e = .returned (v) ∧ Mem B w0 (iOwn (tSl (tBor tyVersion w0 B) 142) [v] (spec_l7All_m x0) :: is) w' := by
 obtain ⟨v1, rfl, r2⟩ := tyStore_rd r_0
 have r7 := r2
 obtain ⟨m3, A4, c5, rfl, q6⟩ := r2
 have l8 : x0.Segments.length ≤ 68719476736 := s_0.1
 refine call_enterW (L := [(0, .agg #[.slice A4 x0.Segments.length c5, .int .i64 x0.Now])]) (N := 21) func92 rfl rfl (Nat.le_of_ble_eq_true rfl) (argsL_cons rfl argsL_nil) hm ?_
 refine sr ?_
 refine WM_box rfl (Wd_none rfl) (by decide) (fun p9 => ?_)
 refine wa (nt' (sr ?_))
 refine WM_build0 (E := (tBor tyVersion w0 B)) underlying122 type142 (Wd_none rfl) (by decide) (fun p10 => ?_)
 refine wa (nt' (CM_seq (sr (wa (nt' (CM_block ?_))))))
 let F1 := fun k (s : (List DVersion)) => spec_l7All_b1 x0 k s
 let R2 := rng (R := (List DVersion)) F1
 let I3 : It := iBox p9 39 [.slice A4 x0.Segments.length c5, .int .i64 x0.Now]
 refine CM_loop (σ := Nat × ((List DVersion)) × (Option Addr × Nat)) (fun s => [(1, .pointer (some (⟨p9, 0, none⟩ : Addr))), (3, .slice s.2.2.1 s.2.1.length s.2.2.2), (4, .int .i64 ((s.1 : Nat) : Int))]) (fun s => (iOwn (tSl (tBor tyVersion w0 B) 142) [.slice s.2.2.1 s.2.1.length s.2.2.2] s.2.1 :: I3 :: is)) (fun s => s.1 ≤ x0.Segments.length ∧ R2 (x0.Segments.length - s.1) s.1 s.2.1 = R2 (x0.Segments.length - 0) 0 [] ∧ s.2.1.length ≤ ((x0.Segments.take s.1).map List.length).sum) (fun s => x0.Segments.length - s.1) (0, [], ((some ⟨p10, 0, none⟩), 0)) sl3 (fun W hm => hm) ⟨(by omega), rfl, Nat.zero_le _⟩ ?_
 rintro ⟨k12, d13, ⟨A14, c15⟩⟩ H18
 obtain ⟨hk16, hF17, hi19⟩ : k12 ≤ x0.Segments.length ∧ R2 (x0.Segments.length - k12) k12 d13 = R2 (x0.Segments.length - 0) 0 [] ∧ d13.length ≤ ((x0.Segments.take k12).map List.length).sum := H18
 show CM Tryz.prog 21 _ _ _ _ [(1, .pointer (some (⟨p9, 0, none⟩ : Addr))), (3, .slice A14 d13.length c15), (4, .int .i64 ((k12 : Nat) : Int))] (iOwn (tSl (tBor tyVersion w0 B) 142) [.slice A14 d13.length c15] d13 :: I3 :: is)
 refine CM_seq (sr (wm ?_))
 refine wv (vf underlying39 rfl type37) ?_
 refine wv (vl 1 0 underlying37) ?_
 refine wv (vlen underlying37) ?_
 refine wv vlss ?_
 refine nt' ?_
 by_cases hl20 : k12 < x0.Segments.length
 ·have g21 : (decide (((k12 : Nat) : Int) < ((x0.Segments.length : Nat) : Int))) = true := decide_eq_true (by omega)
  refine CM_condT rfl g21 ?_
  refine CM_skip (QM_then (CM_seq (CM_block (CM_region (wm ?_)))))
  refine wv (vf underlying39 rfl type37) ?_
  refine wv (vl 1 0 underlying37) ?_
  refine wm ?_
  obtain ⟨a22, rfl, hb23, he24⟩ := q6 (by omega)
  refine wv (vix 1 k12 underlying37 type122) ?_
  obtain ⟨_, e26, hc25⟩ := he24 k12 _ (gt_some (show k12 < x0.Segments.length from by omega))
  have l27 : (gt x0.Segments k12).length ≤ 68719476736 := (s_0.2 _ (gt_mem (show k12 < x0.Segments.length from by omega))).1
  obtain ⟨v28, rfl, r29⟩ := e26
  have r34 := r29
  obtain ⟨m30, A31, c32, rfl, q33⟩ := r29
  refine wv (fun W hm => rv_load underlying122 rfl rfl ((hm.cell0 (show (a22.add (k12 * 1)).block < B from by rw [add_block]; exact hb23.1)).trans (hc25 0 _ rfl))) ?_
  refine apR (tBor tyVersion w0 B) tyVersion 142 (.slice A14 d13.length c15) d13 (gt x0.Segments k12) (iBox p9 39 [.slice (some a22) x0.Segments.length c5, .int .i64 x0.Now] :: is) (fun W hm => (hm.front (n := 0) rfl)) (fun W hm => src_bor hm r34) underlying122 type142 (show (d13.length + (gt x0.Segments k12).length) * 48 ≤ 140737488355328 from by have h1 := sum_take_succ (w := List.length) (xs := x0.Segments) (j := k12) (by omega); have h2 := sum_take_le (w := List.length) (xs := x0.Segments) (k12 + 1); omega) (fun v35 => ?_)
  refine WM_form (n := 0) rfl ?_
  rintro A36 c37 rfl m38
  refine wa (WM_nil (QM_block_normal (QM_then (CM_region (wm ?_)))))
  refine wv (vadN k12 1 (by omega)) ?_
  refine wa (WM_nil ?_)
  have hn40 := rng_next (R := (List DVersion)) (body := F1) (k := k12) (s := d13) (s' := (d13 ++ (gt x0.Segments k12))) (show k12 < x0.Segments.length from by omega) (show spec_l7All_b1 x0 k12 d13 = Sum.inr (d13 ++ (gt x0.Segments k12)) from by unfold spec_l7All_b1; exact rfl) hF17
  exact QM_round (k12 + 1, (d13 ++ (gt x0.Segments k12)), (A36, c37)) sl3 (fun W hm => hm) ⟨(by omega), hn40, (show (d13 ++ (gt x0.Segments k12)).length ≤ ((x0.Segments.take (k12 + 1)).map List.length).sum from by rw [List.length_append, sum_take_succ (by omega)]; omega)⟩ (rl (by omega))
 ·have g21 : (decide (((k12 : Nat) : Int) < ((x0.Segments.length : Nat) : Int))) = false := decide_eq_false (by omega)
  refine CM_condF rfl g21 ?_
  refine CM_exit (QM_then_exit (QM_then_exit ?_))
  have hE41 : R2 (x0.Segments.length - 0) 0 [] = Sum.inr d13 := rng_end hl20 hF17
  refine QM_block_hit (QM_then (sr (wm (wa (nt' (CM_ret ?_))))))
  refine QM_r1 rfl (RR_tmp rfl) (fun W hm => ⟨.slice A14 d13.length c15, ?_, ?_⟩)
  ·first | rw [(show spec_l7All_m x0 = d13 from by unfold spec_l7All_m; exact fin_inr hE41 (rfl))] | rfl
  ·rw [(show spec_l7All_m x0 = d13 from by unfold spec_l7All_m; exact fin_inr hE41 (rfl))]; exact ((hm.front (n := 0) rfl).front (n := 1) rfl).tail

def spec_IsRow_b1 (x0 : DRow) (k9 : Nat) : Bool ⊕ (Unit) :=
 cond (spec_l1In_m (gt x0.Values k9) 0 99) (Sum.inr ()) (Sum.inl false)
def spec_IsRow_m (x0 : DRow) : Bool :=
 Sum.elim id (fun (s : Unit) => cond (spec_l1In_m x0.Id 0 999) (((x0.Values.length : Nat) : Int) == 3) false) (rng (R := Bool) (fun k (_ : Unit) => spec_IsRow_b1 x0 k) (x0.Values.length - 0) 0 ())
theorem cb97 : Cb Tryz.prog 97 := ⟨f97, _, func97, rfl, by decide⟩
theorem spec_IsRow_c (w : World) (z0 : List Value) (x0 : DRow) (r_0 : tyRow.rd w w.heap.size z0 x0) :
  Calls Tryz.prog 97 #[.agg z0.toArray] w fun e w' => e = .returned (.bool (spec_IsRow_m x0)) ∧ Below w.heap.size w w' := by
 obtain ⟨v1, rfl, r2⟩ := tyRow_rd r_0
 have r7 := r2
 obtain ⟨m3, A4, c5, rfl, q6⟩ := r2
 refine ce1 (L := [(0, .agg #[.int .i64 x0.Id, .slice A4 x0.Values.length c5])]) (N := 27) func97 ?_
 refine sr ?_
 refine WM_box rfl (Wd_none rfl) (by decide) (fun p8 => ?_)
 refine wa (nt' (CM_seq (sr (wa (nt' (CM_block ?_))))))
 let F1 := fun k (_ : Unit) => spec_IsRow_b1 x0 k
 let R2 := rng (R := Bool) F1
 let I3 : It := iBox p8 138 [.int .i64 x0.Id, .slice A4 x0.Values.length c5]
 refine CM_loop (σ := Nat × (Unit) × (Unit)) (fun s => [(1, .pointer (some (⟨p8, 0, none⟩ : Addr))), (3, .int .i64 ((s.1 : Nat) : Int))]) (fun s => [I3]) (fun s => s.1 ≤ x0.Values.length ∧ R2 (x0.Values.length - s.1) s.1 s.2.1 = R2 (x0.Values.length - 0) 0 ()) (fun s => x0.Values.length - s.1) (0, (), ()) sl2 (fun W hm => hm) ⟨(by omega), rfl⟩ ?_
 rintro ⟨k9, ⟨⟩, ⟨⟩⟩ H12
 obtain ⟨hk10, hF11⟩ : k9 ≤ x0.Values.length ∧ R2 (x0.Values.length - k9) k9 () = R2 (x0.Values.length - 0) 0 () := H12
 show CM Tryz.prog 27 _ _ _ _ [(1, .pointer (some (⟨p8, 0, none⟩ : Addr))), (3, .int .i64 ((k9 : Nat) : Int))] [I3]
 refine CM_seq (sr (wm ?_))
 refine wv (vf underlying138 rfl type25) ?_
 refine wv (vl 0 1 underlying25) ?_
 refine wv (vlen underlying25) ?_
 refine wv vlss ?_
 refine nt' ?_
 by_cases hl13 : k9 < x0.Values.length
 ·have g14 : (decide (((k9 : Nat) : Int) < ((x0.Values.length : Nat) : Int))) = true := decide_eq_true (by omega)
  refine CM_condT rfl g14 ?_
  refine CM_skip (QM_then (CM_seq (CM_block (sr ?_))))
  refine wv (vf underlying138 rfl type25) ?_
  refine wv (vl 0 1 underlying25) ?_
  refine wm ?_
  obtain ⟨a15, rfl, hb16, he17⟩ := q6 (by omega)
  refine wv (vix 1 k9 underlying25 type3) ?_
  refine wv (fun W hm => rv_load underlying3 rfl rfl ((hm.cell0 (show (a15.add (k9 * 1)).block < w.heap.size from by rw [add_block]; exact hb16.1)).trans (rdS_int he17 k9 (by omega)))) ?_
  refine wcv (cl_fn cb41 rfl) (fun W hm => spec_l1In_c W (gt x0.Values k9) 0 99) ?_
  refine wv vnot ?_
  refine nt' ?_
  rcases Bool.eq_false_or_eq_true (spec_l1In_m (gt x0.Values k9) 0 99) with g19 | g19
  ·
   have hw := spec_l1In_fact g19
   refine CM_condF rfl (nt g19) ?_
   refine CM_skip (QM_block_normal (QM_then (CM_region (wm ?_))))
   refine wv (vadN k9 1 (by omega)) ?_
   refine wa (WM_nil ?_)
   have hn20 := rng_next (R := Bool) (body := F1) (k := k9) (s := ()) (s' := ()) (show k9 < x0.Values.length from by omega) (show spec_IsRow_b1 x0 k9 = Sum.inr () from by unfold spec_IsRow_b1; exact cond_t g19 (rfl)) hF11
   exact QM_round (k9 + 1, (), ()) sl2 (fun W hm => hm) ⟨(by omega), hn20⟩ (rl (by omega))
  ·
   refine CM_condT rfl (nf g19) ?_
   refine sr (wa (nt' (CM_ret (QM_block_ret (QM_then_ret (QM_then_ret (QM_block_ret (QM_then_ret ?_))))))))
   exact rtb (h := by unfold spec_IsRow_m; exact fin_inl (rng_ret (body := F1) (k := k9) (s := ()) (show k9 < x0.Values.length from by omega) (show spec_IsRow_b1 x0 k9 = Sum.inl false from by unfold spec_IsRow_b1; exact cond_f g19 (rfl)) hF11) rfl)
 ·have g14 : (decide (((k9 : Nat) : Int) < ((x0.Values.length : Nat) : Int))) = false := decide_eq_false (by omega)
  refine CM_condF rfl g14 ?_
  refine CM_exit (QM_then_exit (QM_then_exit ?_))
  have hE21 : R2 (x0.Values.length - 0) 0 () = Sum.inr () := rng_end hl13 hF11
  refine QM_block_hit (QM_then (sr ?_))
  refine wv (vf underlying138 rfl type3) ?_
  refine wv (vl 0 0 underlying3) ?_
  refine wcv (cl_fn cb41 rfl) (fun W hm => spec_l1In_c W x0.Id 0 999) ?_
  refine wm ?_
  rcases Bool.eq_false_or_eq_true (spec_l1In_m x0.Id 0 999) with g23 | g23
  ·
   have hw := spec_l1In_fact g23
   refine wg (vf underlying138 rfl type25) g23 ?_
   refine wg (vl 0 1 underlying25) g23 ?_
   refine wg (vlen underlying25) g23 ?_
   refine wg (fun W hm => rv_eql rfl rfl) g23 ?_
   refine wv (vpT g23) ?_
   refine wa (nt' (CM_ret ?_))
   exact rtb (h := by unfold spec_IsRow_m; exact fin_inr hE21 (cond_t g23 (rfl)))
  ·
   refine ws g23 ?_
   refine ws g23 ?_
   refine ws g23 ?_
   refine ws g23 ?_
   refine wv (vpF g23) ?_
   refine wa (nt' (CM_ret ?_))
   exact rtb (h := by unfold spec_IsRow_m; exact fin_inr hE21 (cond_f g23 (rfl)))

def spec_l7Version_m (x0 : DVersion) (x1 : Int) : Bool :=
 cond (spec_IsRow_m (⟨x0.Id, x0.Values⟩ : DRow)) (cond (spec_l1In_m x0.Born 0 x1) (cond (x0.Died == (-1)) true (spec_l1In_m x0.Died (IntKind.i64.wrap (x0.Born + 1)) x1)) false) false
theorem cb93 : Cb Tryz.prog 93 := ⟨f93, _, func93, rfl, by decide⟩
theorem spec_l7Version_c (w : World) (z0 : List Value) (x0 : DVersion) (x1 : Int) (r_0 : tyVersion.rd w w.heap.size z0 x0) :
  Calls Tryz.prog 93 #[.agg z0.toArray, .int .i64 x1] w fun e w' => e = .returned (.bool (spec_l7Version_m x0 x1)) ∧ Below w.heap.size w w' := by
 obtain ⟨v1, rfl, r2⟩ := tyVersion_rd r_0
 have r7 := r2
 obtain ⟨m3, A4, c5, rfl, q6⟩ := r2
 refine ce2 (L := [(0, .agg #[.int .i64 x0.Id, .slice A4 x0.Values.length c5, .int .i64 x0.Born, .int .i64 x0.Died]), (1, .int .i64 x1)]) (N := 31) func93 ?_
 refine sr ?_
 refine WM_box rfl (Wd_none rfl) (by decide) (fun p8 => ?_)
 refine wa (nt' (sr ?_))
 refine wv (vf underlying142 rfl type3) ?_
 refine wv (vl 0 0 underlying3) ?_
 refine wv (vf underlying142 rfl type25) ?_
 refine wv (vl 0 1 underlying25) ?_
 refine wv (fun W hm => rv_build (cs := [.int .i64 x0.Id, .slice A4 x0.Values.length c5]) rfl (by kernel_rfl)) ?_
 refine wcv (cl_fn cb97 rfl) (fun W hm => spec_IsRow_c W _ (⟨x0.Id, x0.Values⟩ : DRow) (tyRow_mk (x := (⟨x0.Id, x0.Values⟩ : DRow)) (hm.rdS0 r7))) ?_
 refine wm ?_
 rcases Bool.eq_false_or_eq_true (spec_IsRow_m (⟨x0.Id, x0.Values⟩ : DRow)) with g10 | g10
 ·
  refine wg (vf underlying142 rfl type3) g10 ?_
  refine wg (vl 0 2 underlying3) g10 ?_
  refine wg vmv g10 ?_
  refine WM_callV (cl_fn cb41 rfl) (fun W hm => spec_l1In_c W x0.Born 0 x1) (Wd_some rfl rfl rfl (bw g10 rfl)) (by decide) ?_
  refine wv (vpT g10) ?_
  refine wm ?_
  rcases Bool.eq_false_or_eq_true (spec_l1In_m x0.Born 0 x1) with g12 | g12
  ·
   have hw := spec_l1In_fact g12
   refine wg (vf underlying142 rfl type3) g12 ?_
   refine wg (vl 0 3 underlying3) g12 ?_
   refine wg (fun W hm => rv_eql rfl rfl) g12 ?_
   refine wg vmv g12 ?_
   by_cases h13 : x0.Died = (-1)
   ·have g14 : (x0.Died == (-1)) = true := beq_iff_eq.2 h13
    refine ws g14 ?_
    refine ws g14 ?_
    refine ws g14 ?_
    refine ws g14 ?_
    refine ws g14 ?_
    refine ws g14 ?_
    refine ws g14 ?_
    refine wg (vpT g14) g12 ?_
    refine wv (vpT g12) ?_
    refine wa (nt' (CM_ret ?_))
    exact rtb (h := by unfold spec_l7Version_m; exact cond_t g10 (cond_t g12 (cond_t g14 (rfl))))
   ·have g14 : (x0.Died == (-1)) = false := beq_eq_false_iff_ne.2 h13
    refine wg (vf underlying142 rfl type3) g14 ?_
    refine wg (vl 0 3 underlying3) g14 ?_
    refine wg (vf underlying142 rfl type3) g14 ?_
    refine wg (vl 0 2 underlying3) g14 ?_
    refine wg vadd g14 ?_
    refine wg vmv g14 ?_
    refine WM_callV (cl_fn cb41 rfl) (fun W hm => spec_l1In_c W x0.Died (IntKind.i64.wrap (x0.Born + 1)) x1) (Wd_some rfl rfl rfl (bw g14 rfl)) (by decide) ?_
    refine wg (vpF g14) g12 ?_
    refine wv (vpT g12) ?_
    refine wa (nt' (CM_ret ?_))
    exact rtb (h := by unfold spec_l7Version_m; exact cond_t g10 (cond_t g12 (cond_f g14 (rfl))))
  ·
   refine ws g12 ?_
   refine ws g12 ?_
   refine ws g12 ?_
   refine ws g12 ?_
   refine wu ?_
   refine wu ?_
   refine wu ?_
   refine wu ?_
   refine wu ?_
   refine wu ?_
   refine wu ?_
   refine ws g12 ?_
   refine wv (vpF g12) ?_
   refine wa (nt' (CM_ret ?_))
   exact rtb (h := by unfold spec_l7Version_m; exact cond_t g10 (cond_f g12 (rfl)))
 ·
  refine ws g10 ?_
  refine ws g10 ?_
  refine ws g10 ?_
  refine ws g10 ?_
  refine wv (vpF g10) ?_
  refine wm ?_
  refine wk ?_
  refine wk ?_
  refine wk ?_
  refine wk ?_
  refine wu ?_
  refine wu ?_
  refine wu ?_
  refine wu ?_
  refine wu ?_
  refine wu ?_
  refine wu ?_
  refine wk ?_
  refine wv (vpF rfl) ?_
  refine wa (nt' (CM_ret ?_))
  exact rtb (h := by unfold spec_l7Version_m; exact cond_f g10 (rfl))

def spec_l7Apart_m (x0 : DVersion) (x1 : DVersion) : Bool :=
 cond (x0.Id != x1.Id) true (cond (x0.Died != (-1)) (cond (decide (x0.Died ≤ x1.Born)) true (cond (x1.Died != (-1)) (decide (x1.Died ≤ x0.Born)) false)) (cond (x1.Died != (-1)) (decide (x1.Died ≤ x0.Born)) false))
theorem cb94 : Cb Tryz.prog 94 := ⟨f94, _, func94, rfl, by decide⟩
theorem spec_l7Apart_c (w : World) (z0 : List Value) (x0 : DVersion) (z1 : List Value) (x1 : DVersion) (r_0 : tyVersion.rd w w.heap.size z0 x0) (r_1 : tyVersion.rd w w.heap.size z1 x1) :
  Calls Tryz.prog 94 #[.agg z0.toArray, .agg z1.toArray] w fun e w' => e = .returned (.bool (spec_l7Apart_m x0 x1)) ∧ Below w.heap.size w w' := by
 obtain ⟨v1, rfl, r2⟩ := tyVersion_rd r_0
 have r7 := r2
 obtain ⟨m3, A4, c5, rfl, q6⟩ := r2
 obtain ⟨v8, rfl, r9⟩ := tyVersion_rd r_1
 have r14 := r9
 obtain ⟨m10, A11, c12, rfl, q13⟩ := r9
 refine ce2 (L := [(0, .agg #[.int .i64 x0.Id, .slice A4 x0.Values.length c5, .int .i64 x0.Born, .int .i64 x0.Died]), (1, .agg #[.int .i64 x1.Id, .slice A11 x1.Values.length c12, .int .i64 x1.Born, .int .i64 x1.Died])]) (N := 34) func94 ?_
 refine sr ?_
 refine WM_box rfl (Wd_none rfl) (by decide) (fun p15 => ?_)
 refine WM_box rfl (Wd_none rfl) (by decide) (fun p16 => ?_)
 refine wa (nt' (sr ?_))
 refine wv (vf underlying142 rfl type3) ?_
 refine wv (vl 1 0 underlying3) ?_
 refine wv (vf underlying142 rfl type3) ?_
 refine wv (vl 0 0 underlying3) ?_
 refine wv vneq ?_
 refine wm ?_
 by_cases h17 : x0.Id = x1.Id
 ·have g18 : (x0.Id != x1.Id) = false := by rw [h17]; exact bne_self_eq_false _
  refine wg (vf underlying142 rfl type3) g18 ?_
  refine wg (vl 1 3 underlying3) g18 ?_
  refine wg vneq g18 ?_
  refine wg vmv g18 ?_
  by_cases h19 : x0.Died = (-1)
  ·have g20 : (x0.Died != (-1)) = false := by rw [h19]; exact bne_self_eq_false _
   refine ws g20 ?_
   refine ws g20 ?_
   refine ws g20 ?_
   refine ws g20 ?_
   refine ws g20 ?_
   refine wg (vpF g20) g18 ?_
   refine wv (vpF g18) ?_
   refine wm ?_
   refine WM_val (vf underlying142 rfl type3) (Wd_some rfl rfl rfl rfl) rfl (by decide) ?_
   refine WM_val (vl 0 3 underlying3) (Wd_some rfl rfl rfl rfl) rfl (by decide) ?_
   refine WM_val vneq (Wd_some rfl rfl rfl rfl) rfl (by decide) ?_
   refine WM_val vmv (Wd_some rfl rfl rfl rfl) rfl (by decide) ?_
   by_cases h21 : x1.Died = (-1)
   ·have g22 : (x1.Died != (-1)) = false := by rw [h21]; exact bne_self_eq_false _
    refine ws g22 ?_
    refine ws g22 ?_
    refine ws g22 ?_
    refine ws g22 ?_
    refine ws g22 ?_
    refine WM_val (vpF g22) (Wd_some rfl rfl rfl rfl) rfl (by decide) ?_
    refine wv (vpF rfl) ?_
    refine wa (nt' (CM_ret ?_))
    exact rtb (h := by unfold spec_l7Apart_m; exact cond_f g18 (cond_f g20 (cond_f g22 (rfl))))
   ·have g22 : (x1.Died != (-1)) = true := bne_iff_ne.2 h21
    refine wg (vf underlying142 rfl type3) g22 ?_
    refine wg (vl 0 3 underlying3) g22 ?_
    refine wg (vf underlying142 rfl type3) g22 ?_
    refine wg (vl 1 2 underlying3) g22 ?_
    refine wg (fun W hm => rv_leq rfl rfl) g22 ?_
    refine WM_val (vpT g22) (Wd_some rfl rfl rfl rfl) rfl (by decide) ?_
    refine wv (vpF rfl) ?_
    refine wa (nt' (CM_ret ?_))
    exact rtb (h := by unfold spec_l7Apart_m; exact cond_f g18 (cond_f g20 (cond_t g22 (rfl))))
  ·have g20 : (x0.Died != (-1)) = true := bne_iff_ne.2 h19
   refine wg (vf underlying142 rfl type3) g20 ?_
   refine wg (vl 1 3 underlying3) g20 ?_
   refine wg (vf underlying142 rfl type3) g20 ?_
   refine wg (vl 0 2 underlying3) g20 ?_
   refine wg (fun W hm => rv_leq rfl rfl) g20 ?_
   refine wg (vpT g20) g18 ?_
   refine wv (vpF g18) ?_
   refine wm ?_
   by_cases h23 : x0.Died ≤ x1.Born
   ·have g24 : (decide (x0.Died ≤ x1.Born)) = true := decide_eq_true h23
    refine ws g24 ?_
    refine ws g24 ?_
    refine ws g24 ?_
    refine ws g24 ?_
    refine wu ?_
    refine wu ?_
    refine wu ?_
    refine wu ?_
    refine wu ?_
    refine ws g24 ?_
    refine wv (vpT g24) ?_
    refine wa (nt' (CM_ret ?_))
    exact rtb (h := by unfold spec_l7Apart_m; exact cond_f g18 (cond_t g20 (cond_t g24 (rfl))))
   ·have g24 : (decide (x0.Died ≤ x1.Born)) = false := decide_eq_false h23
    refine wg (vf underlying142 rfl type3) g24 ?_
    refine wg (vl 0 3 underlying3) g24 ?_
    refine wg vneq g24 ?_
    refine wg vmv g24 ?_
    by_cases h25 : x1.Died = (-1)
    ·have g26 : (x1.Died != (-1)) = false := by rw [h25]; exact bne_self_eq_false _
     refine ws g26 ?_
     refine ws g26 ?_
     refine ws g26 ?_
     refine ws g26 ?_
     refine ws g26 ?_
     refine wg (vpF g26) g24 ?_
     refine wv (vpF g24) ?_
     refine wa (nt' (CM_ret ?_))
     exact rtb (h := by unfold spec_l7Apart_m; exact cond_f g18 (cond_t g20 (cond_f g24 (cond_f g26 (rfl)))))
    ·have g26 : (x1.Died != (-1)) = true := bne_iff_ne.2 h25
     refine wg (vf underlying142 rfl type3) g26 ?_
     refine wg (vl 0 3 underlying3) g26 ?_
     refine wg (vf underlying142 rfl type3) g26 ?_
     refine wg (vl 1 2 underlying3) g26 ?_
     refine wg (fun W hm => rv_leq rfl rfl) g26 ?_
     refine wg (vpT g26) g24 ?_
     refine wv (vpF g24) ?_
     refine wa (nt' (CM_ret ?_))
     exact rtb (h := by unfold spec_l7Apart_m; exact cond_f g18 (cond_t g20 (cond_f g24 (cond_t g26 (rfl)))))
 ·have g18 : (x0.Id != x1.Id) = true := bne_iff_ne.2 h17
  refine ws g18 ?_
  refine ws g18 ?_
  refine ws g18 ?_
  refine ws g18 ?_
  refine wu ?_
  refine wu ?_
  refine wu ?_
  refine wu ?_
  refine wu ?_
  refine ws g18 ?_
  refine wv (vpT g18) ?_
  refine wm ?_
  refine wk ?_
  refine wk ?_
  refine wk ?_
  refine wk ?_
  refine wu ?_
  refine wu ?_
  refine wu ?_
  refine wu ?_
  refine wu ?_
  refine wk ?_
  refine wv (vpT rfl) ?_
  refine wa (nt' (CM_ret ?_))
  exact rtb (h := by unfold spec_l7Apart_m; exact cond_t g18 (rfl))

def spec_IsStore_b3 (x0 : DStore) (k42 : Nat) (k62 : Nat) : Bool ⊕ (Unit) :=
 cond (spec_l7Apart_m (gt (spec_l7All_m x0) k42) (gt (spec_l7All_m x0) k62)) (Sum.inr ()) (Sum.inl false)
def spec_IsStore_b2 (x0 : DStore) (k42 : Nat) : Bool ⊕ (Unit) :=
 cond (spec_l7Version_m (gt (spec_l7All_m x0) k42) x0.Now) (Sum.elim Sum.inl (fun (s : Unit) => Sum.inr ()) (rng (R := Bool) (fun k (_ : Unit) => spec_IsStore_b3 x0 k42 k) (k42 - 0) 0 ())) (Sum.inl false)
def spec_IsStore_b1 (x0 : DStore) (k14 : Nat) : Bool ⊕ (Unit) :=
 cond (decide (4 < ((((gt x0.Segments k14)).length : Nat) : Int))) (Sum.inl false) (Sum.inr ())
def spec_IsStore_m (x0 : DStore) : Bool :=
 cond (spec_l1In_m ((x0.Segments.length : Nat) : Int) 1 8) (cond (spec_l1In_m x0.Now 0 100000) (Sum.elim id (fun (s1_ : Unit) => Sum.elim id (fun (s : Unit) => true) (rng (R := Bool) (fun k (_ : Unit) => spec_IsStore_b2 x0 k) ((spec_l7All_m x0).length - 0) 0 ())) (rng (R := Bool) (fun k (_ : Unit) => spec_IsStore_b1 x0 k) (x0.Segments.length - 0) 0 ())) false) false
theorem spec_IsStore_hq {x0 : DStore} (h : ((x0.Segments.length : Nat) : Int) ≤ 8) (hE : rng (R := Bool) (fun k (_ : Unit) => spec_IsStore_b1 x0 k) (x0.Segments.length - 0) 0 () = .inr ()) : (x0.Segments.map List.length).sum ≤ 68719476736 := by
 have h1 := sum_le_mul (w := List.length) (c := 4) (xs := x0.Segments) fun j hj => by
  have h2 := rng_noneU _ _ hE j (Nat.zero_le _) (by omega)
  unfold spec_IsStore_b1 at h2
  by_cases h3 : 4 < ((gt x0.Segments j).length : Int)
  ·rw [decide_eq_true h3] at h2; cases h2
  ·omega
 omega
theorem cb65 : Cb Tryz.prog 65 := ⟨f65, _, func65, rfl, by decide⟩
theorem spec_IsStore_c (w : World) (z0 : List Value) (x0 : DStore) (r_0 : tyStore.rd w w.heap.size z0 x0) (s_0 : smStore 68719476736 x0) :
  Calls Tryz.prog 65 #[.agg z0.toArray] w fun e w' => e = .returned (.bool (spec_IsStore_m x0)) ∧ Below w.heap.size w w' := by
 obtain ⟨v1, rfl, r2⟩ := tyStore_rd r_0
 have r7 := r2
 obtain ⟨m3, A4, c5, rfl, q6⟩ := r2
 have l8 : x0.Segments.length ≤ 68719476736 := s_0.1
 refine ce1 (L := [(0, .agg #[.slice A4 x0.Segments.length c5, .int .i64 x0.Now])]) (N := 63) func65 ?_
 refine sr ?_
 refine WM_box rfl (Wd_none rfl) (by decide) (fun p9 => ?_)
 refine wa (nt' (CM_seq (sr ?_)))
 refine wv (vf underlying39 rfl type37) ?_
 refine wv (vl 0 0 underlying37) ?_
 refine wv (vlen underlying37) ?_
 refine wcv (cl_fn cb41 rfl) (fun W hm => spec_l1In_c W ((x0.Segments.length : Nat) : Int) 1 8) ?_
 refine wv vnot ?_
 refine wm ?_
 rcases Bool.eq_false_or_eq_true (spec_l1In_m ((x0.Segments.length : Nat) : Int) 1 8) with g11 | g11
 ·
  have hw := spec_l1In_fact g11
  refine wg (vf underlying39 rfl type3) (nt g11) ?_
  refine wg (vl 0 1 underlying3) (nt g11) ?_
  refine WM_callV (cl_fn cb41 rfl) (fun W hm => spec_l1In_c W x0.Now 0 100000) (Wd_some rfl rfl rfl (bw (nt g11) rfl)) (by decide) ?_
  refine wg vnot (nt g11) ?_
  refine wv (vpF (nt g11)) ?_
  refine nt' ?_
  rcases Bool.eq_false_or_eq_true (spec_l1In_m x0.Now 0 100000) with g13 | g13
  ·
   have hw := spec_l1In_fact g13
   refine CM_condF rfl (nt g13) ?_
   refine CM_skip (QM_then (CM_seq (sr (wa (nt' (CM_block ?_))))))
   let F1 := fun k (_ : Unit) => spec_IsStore_b1 x0 k
   let R4 := rng (R := Bool) F1
   let I7 : It := iBox p9 39 [.slice A4 x0.Segments.length c5, .int .i64 x0.Now]
   refine CM_loop (σ := Nat × (Unit) × (Unit)) (fun s => [(1, .pointer (some (⟨p9, 0, none⟩ : Addr))), (3, .int .i64 ((s.1 : Nat) : Int))]) (fun s => [I7]) (fun s => s.1 ≤ x0.Segments.length ∧ R4 (x0.Segments.length - s.1) s.1 s.2.1 = R4 (x0.Segments.length - 0) 0 ()) (fun s => x0.Segments.length - s.1) (0, (), ()) sl2 (fun W hm => hm) ⟨(by omega), rfl⟩ ?_
   rintro ⟨k14, ⟨⟩, ⟨⟩⟩ H17
   obtain ⟨hk15, hF16⟩ : k14 ≤ x0.Segments.length ∧ R4 (x0.Segments.length - k14) k14 () = R4 (x0.Segments.length - 0) 0 () := H17
   show CM Tryz.prog 63 _ _ _ _ [(1, .pointer (some (⟨p9, 0, none⟩ : Addr))), (3, .int .i64 ((k14 : Nat) : Int))] [I7]
   refine CM_seq (sr (wm ?_))
   refine wv (vf underlying39 rfl type37) ?_
   refine wv (vl 0 0 underlying37) ?_
   refine wv (vlen underlying37) ?_
   refine wv vlss ?_
   refine nt' ?_
   by_cases hl18 : k14 < x0.Segments.length
   ·have g19 : (decide (((k14 : Nat) : Int) < ((x0.Segments.length : Nat) : Int))) = true := decide_eq_true (by omega)
    refine CM_condT rfl g19 ?_
    refine CM_skip (QM_then (CM_seq (CM_block (sr ?_))))
    refine wv (vf underlying39 rfl type37) ?_
    refine wv (vl 0 0 underlying37) ?_
    refine wm ?_
    obtain ⟨a20, rfl, hb21, he22⟩ := q6 (by omega)
    refine wv (vix 1 k14 underlying37 type122) ?_
    obtain ⟨_, e24, hc23⟩ := he22 k14 _ (gt_some (show k14 < x0.Segments.length from by omega))
    have l25 : (gt x0.Segments k14).length ≤ 68719476736 := (s_0.2 _ (gt_mem (show k14 < x0.Segments.length from by omega))).1
    obtain ⟨v26, rfl, r27⟩ := e24
    have r32 := r27
    obtain ⟨m28, A29, c30, rfl, q31⟩ := r27
    refine wv (fun W hm => rv_load underlying122 rfl rfl ((hm.cell0 (show (a20.add (k14 * 1)).block < w.heap.size from by rw [add_block]; exact hb21.1)).trans (hc23 0 _ rfl))) ?_
    refine wv (vlen underlying122) ?_
    refine wv (fun W hm => rv_gtr rfl rfl) ?_
    refine nt' ?_
    by_cases h33 : 4 < ((((gt x0.Segments k14)).length : Nat) : Int)
    ·have g34 : (decide (4 < ((((gt x0.Segments k14)).length : Nat) : Int))) = true := decide_eq_true h33
     refine CM_condT rfl g34 ?_
     refine sr (wa (nt' (CM_ret (QM_block_ret (QM_then_ret (QM_then_ret (QM_block_ret (QM_then_ret ?_))))))))
     exact rtb (h := by unfold spec_IsStore_m; exact cond_t g11 (cond_t g13 (fin_inl (rng_ret (body := F1) (k := k14) (s := ()) (show k14 < x0.Segments.length from by omega) (show spec_IsStore_b1 x0 k14 = Sum.inl false from by unfold spec_IsStore_b1; exact cond_t g34 (rfl)) hF16) rfl)))
    ·have g34 : (decide (4 < ((((gt x0.Segments k14)).length : Nat) : Int))) = false := decide_eq_false h33
     refine CM_condF rfl g34 ?_
     refine CM_skip (QM_block_normal (QM_then (CM_region (wm ?_))))
     refine wv (vadN k14 1 (by omega)) ?_
     refine wa (WM_nil ?_)
     have hn35 := rng_next (R := Bool) (body := F1) (k := k14) (s := ()) (s' := ()) (show k14 < x0.Segments.length from by omega) (show spec_IsStore_b1 x0 k14 = Sum.inr () from by unfold spec_IsStore_b1; exact cond_f g34 (rfl)) hF16
     exact QM_round (k14 + 1, (), ()) sl2 (fun W hm => hm) ⟨(by omega), hn35⟩ (rl (by omega))
   ·have g19 : (decide (((k14 : Nat) : Int) < ((x0.Segments.length : Nat) : Int))) = false := decide_eq_false (by omega)
    refine CM_condF rfl g19 ?_
    refine CM_exit (QM_then_exit (QM_then_exit ?_))
    have hE36 : R4 (x0.Segments.length - 0) 0 () = Sum.inr () := rng_end hl18 hF16
    have HQ := spec_IsStore_hq (by omega) hE36
    refine QM_block_hit (QM_then (sr ?_))
    refine wv (fun W hm => rv_loadN (cs := [.slice A4 x0.Segments.length c5, .int .i64 x0.Now]) underlying39 type39 rfl rfl (hm.boxCells (n := 0) rfl)) ?_
    refine WM_callW (χ := Value) (val := fun x => x) (js := fun x => (iOwn (tSl (tBor tyVersion w w.heap.size) 142) [x] (spec_l7All_m x0) :: [I7])) (cl_fn cb92 rfl) (fun W hm => spec_l7All_c w.heap.size w [I7] W _ x0 (tyStore_mk r7) s_0 (HQ) hm) (Wd_none rfl) (by decide) (fun v37 => ?_)
    refine WM_form (n := 0) rfl ?_
    rintro A38 c39 rfl m40
    refine wa (nt' (CM_seq (sr (wa (nt' (CM_block ?_))))))
    let F2 := fun k (_ : Unit) => spec_IsStore_b2 x0 k
    let R5 := rng (R := Bool) F2
    let I8 : It := iOwn (tSl (tBor tyVersion w w.heap.size) 142) [.slice A38 (spec_l7All_m x0).length c39] (spec_l7All_m x0)
    refine CM_loop (σ := Nat × (Unit) × (Unit)) (fun s => [(1, .pointer (some (⟨p9, 0, none⟩ : Addr))), (4, .slice A38 (spec_l7All_m x0).length c39), (5, .int .i64 ((s.1 : Nat) : Int))]) (fun s => [I8, I7]) (fun s => s.1 ≤ (spec_l7All_m x0).length ∧ R5 ((spec_l7All_m x0).length - s.1) s.1 s.2.1 = R5 ((spec_l7All_m x0).length - 0) 0 ()) (fun s => (spec_l7All_m x0).length - s.1) (0, (), ()) sl3 (fun W hm => hm) ⟨(by omega), rfl⟩ ?_
    rintro ⟨k42, ⟨⟩, ⟨⟩⟩ H45
    obtain ⟨hk43, hF44⟩ : k42 ≤ (spec_l7All_m x0).length ∧ R5 ((spec_l7All_m x0).length - k42) k42 () = R5 ((spec_l7All_m x0).length - 0) 0 () := H45
    show CM Tryz.prog 63 _ _ _ _ [(1, .pointer (some (⟨p9, 0, none⟩ : Addr))), (4, .slice A38 (spec_l7All_m x0).length c39), (5, .int .i64 ((k42 : Nat) : Int))] [I8, I7]
    refine CM_seq (sr (wm (wm ?_)))
    refine wv (vlen underlying122) ?_
    refine wv vlss ?_
    refine nt' ?_
    by_cases hl46 : k42 < (spec_l7All_m x0).length
    ·have g47 : (decide (((k42 : Nat) : Int) < (((spec_l7All_m x0).length : Nat) : Int))) = true := decide_eq_true (by omega)
     refine CM_condT rfl g47 ?_
     refine CM_skip (QM_then (CM_seq (CM_block (CM_seq (CM_seq ?_)))))
     refine CM_formO (n := 0) rfl (by omega) ?_
     rintro g48 rfl
     refine CM_expose (T := tyVersion) (wb := w) (Bb := w.heap.size) (e := 142) (g := g48) (n := (spec_l7All_m x0).length) (c := c39) (xs := (spec_l7All_m x0)) (js := [I7]) (fun W hm => hm) ?_
     rintro ck49 rk50
     refine CM_regionD (by kernel_rfl) (by kernel_rfl) ?_
     refine qm (qm ?_)
     refine qv (vix 4 k42 underlying122 type142) ?_
     obtain ⟨_, e51, hc52⟩ := rk50.get (j := k42) (by omega)
     obtain ⟨v53, rfl, r54⟩ := tyVersion_rd e51
     have r59 := r54
     obtain ⟨m55, A56, c57, rfl, q58⟩ := r54
     refine qv (fun W hm => rv_loadN (cs := [.int .i64 ((gt (spec_l7All_m x0) k42).Id), .slice A56 ((gt (spec_l7All_m x0) k42).Values).length c57, .int .i64 ((gt (spec_l7All_m x0) k42).Born), .int .i64 ((gt (spec_l7All_m x0) k42).Died)]) underlying142 type142 rfl rfl (hm.rowCells (i := 0) rfl hc52)) ?_
     refine qv (vf underlying39 rfl type3) ?_
     refine qv (vl 1 1 underlying3) ?_
     refine QR_callV (cl_fn cb93 rfl) (fun W hm => spec_l7Version_c W _ (gt (spec_l7All_m x0) k42) x0.Now (tyVersion_mk (x := (gt (spec_l7All_m x0) k42)) (hm.rdS0 r59))) (Wd_none rfl) (by decide) ?_
     refine qv vnot ?_
     refine nq' ?_
     rcases Bool.eq_false_or_eq_true (spec_l7Version_m (gt (spec_l7All_m x0) k42) x0.Now) with g61 | g61
     ·
      refine CM_condF rfl (nt g61) ?_
      refine CM_skip (QM_then (sr (wa (nt' (CM_block ?_)))))
      refine CM_items (fun W hm => Mem.hide rk50 hm) ?_
      let F3 := fun k (_ : Unit) => spec_IsStore_b3 x0 k42 k
      let R6 := rng (R := Bool) F3
      let I9 : It := iOwn (tSl (tBor tyVersion w w.heap.size) 142) [.slice (some ⟨g48, 0, none⟩) (spec_l7All_m x0).length c39] (spec_l7All_m x0)
      refine CM_loop (σ := Nat × (Unit) × (Unit)) (fun s => [(1, .pointer (some (⟨p9, 0, none⟩ : Addr))), (4, .slice (some ⟨g48, 0, none⟩) (spec_l7All_m x0).length c39), (5, .int .i64 ((k42 : Nat) : Int)), (6, .int .i64 ((s.1 : Nat) : Int))]) (fun s => [I9, I7]) (fun s => s.1 ≤ k42 ∧ R6 (k42 - s.1) s.1 s.2.1 = R6 (k42 - 0) 0 ()) (fun s => k42 - s.1) (0, (), ()) sl4 (fun W hm => hm) ⟨(by omega), rfl⟩ ?_
      rintro ⟨k62, ⟨⟩, ⟨⟩⟩ H65
      obtain ⟨hk63, hF64⟩ : k62 ≤ k42 ∧ R6 (k42 - k62) k62 () = R6 (k42 - 0) 0 () := H65
      show CM Tryz.prog 63 _ _ _ _ [(1, .pointer (some (⟨p9, 0, none⟩ : Addr))), (4, .slice (some ⟨g48, 0, none⟩) (spec_l7All_m x0).length c39), (5, .int .i64 ((k42 : Nat) : Int)), (6, .int .i64 ((k62 : Nat) : Int))] [I9, I7]
      refine CM_seq (sr (wm (wm ?_)))
      refine wv vlss ?_
      refine nt' ?_
      by_cases hl66 : k62 < k42
      ·have g67 : (decide (((k62 : Nat) : Int) < ((k42 : Nat) : Int))) = true := decide_eq_true (by omega)
       refine CM_condT rfl g67 ?_
       refine CM_skip (QM_then (CM_seq (CM_block (CM_seq ?_))))
       refine CM_expose (T := tyVersion) (wb := w) (Bb := w.heap.size) (e := 142) (g := g48) (n := (spec_l7All_m x0).length) (c := c39) (xs := (spec_l7All_m x0)) (js := [I7]) (fun W hm => hm) ?_
       rintro ck68 rk69
       refine CM_regionD (by kernel_rfl) (by kernel_rfl) ?_
       refine qm (qm ?_)
       refine qv (vix 4 k42 underlying122 type142) ?_
       obtain ⟨_, e70, hc71⟩ := rk69.get (j := k42) (by omega)
       obtain ⟨v72, rfl, r73⟩ := tyVersion_rd e70
       have r78 := r73
       obtain ⟨m74, A75, c76, rfl, q77⟩ := r73
       refine qv (fun W hm => rv_loadN (cs := [.int .i64 ((gt (spec_l7All_m x0) k42).Id), .slice A75 ((gt (spec_l7All_m x0) k42).Values).length c76, .int .i64 ((gt (spec_l7All_m x0) k42).Born), .int .i64 ((gt (spec_l7All_m x0) k42).Died)]) underlying142 type142 rfl rfl (hm.rowCells (i := 0) rfl hc71)) ?_
       refine qm (qm ?_)
       refine qv (vix 4 k62 underlying122 type142) ?_
       obtain ⟨_, e79, hc80⟩ := rk69.get (j := k62) (by omega)
       obtain ⟨v81, rfl, r82⟩ := tyVersion_rd e79
       have r87 := r82
       obtain ⟨m83, A84, c85, rfl, q86⟩ := r82
       refine qv (fun W hm => rv_loadN (cs := [.int .i64 ((gt (spec_l7All_m x0) k62).Id), .slice A84 ((gt (spec_l7All_m x0) k62).Values).length c85, .int .i64 ((gt (spec_l7All_m x0) k62).Born), .int .i64 ((gt (spec_l7All_m x0) k62).Died)]) underlying142 type142 rfl rfl (hm.rowCells (i := 0) rfl hc80)) ?_
       refine QR_callV (cl_fn cb94 rfl) (fun W hm => spec_l7Apart_c W _ (gt (spec_l7All_m x0) k42) _ (gt (spec_l7All_m x0) k62) (tyVersion_mk (x := (gt (spec_l7All_m x0) k42)) (hm.rdS0 r78)) (tyVersion_mk (x := (gt (spec_l7All_m x0) k62)) (hm.rdS0 r87))) (Wd_none rfl) (by decide) ?_
       refine qv vnot ?_
       refine nq' ?_
       rcases Bool.eq_false_or_eq_true (spec_l7Apart_m (gt (spec_l7All_m x0) k42) (gt (spec_l7All_m x0) k62)) with g89 | g89
       ·
        refine CM_condF rfl (nt g89) ?_
        refine CM_skip (QM_block_normal (QM_then (CM_region (wm ?_))))
        refine wv (vadN k62 1 (by omega)) ?_
        refine wa (WM_nil ?_)
        refine QM_items (fun W hm => Mem.hide rk69 hm) ?_
        have hn90 := rng_next (R := Bool) (body := F3) (k := k62) (s := ()) (s' := ()) (show k62 < k42 from by omega) (show spec_IsStore_b3 x0 k42 k62 = Sum.inr () from by unfold spec_IsStore_b3; exact cond_t g89 (rfl)) hF64
        exact QM_round (k62 + 1, (), ()) sl4 (fun W hm => hm) ⟨(by omega), hn90⟩ (rl (by omega))
       ·
        refine CM_condT rfl (nf g89) ?_
        refine sr (wa (nt' (CM_ret (QM_block_ret (QM_then_ret (QM_then_ret (QM_block_ret (QM_block_ret (QM_then_ret (QM_then_ret (QM_block_ret (QM_then_ret ?_))))))))))))
        refine QM_items (fun W hm => Mem.hide rk69 hm) ?_
        exact rtb (h := by unfold spec_IsStore_m; exact cond_t g11 (cond_t g13 (fin_inr hE36 (fin_inl (rng_ret (body := F2) (k := k42) (s := ()) (show k42 < (spec_l7All_m x0).length from by omega) (show spec_IsStore_b2 x0 k42 = Sum.inl false from by unfold spec_IsStore_b2; exact cond_t g61 (fin_inl (rng_ret (body := F3) (k := k62) (s := ()) (show k62 < k42 from by omega) (show spec_IsStore_b3 x0 k42 k62 = Sum.inl false from by unfold spec_IsStore_b3; exact cond_f g89 (rfl)) hF64) rfl)) hF44) rfl))))
      ·have g67 : (decide (((k62 : Nat) : Int) < ((k42 : Nat) : Int))) = false := decide_eq_false (by omega)
       refine CM_condF rfl g67 ?_
       refine CM_exit (QM_then_exit (QM_then_exit ?_))
       have hE91 : R6 (k42 - 0) 0 () = Sum.inr () := rng_end hl66 hF64
       refine QM_block_hit (QM_block_normal (QM_then (CM_region (wm ?_))))
       refine wv (vadN k42 1 (by omega)) ?_
       refine wa (WM_nil ?_)
       have hn92 := rng_next (R := Bool) (body := F2) (k := k42) (s := ()) (s' := ()) (show k42 < (spec_l7All_m x0).length from by omega) (show spec_IsStore_b2 x0 k42 = Sum.inr () from by unfold spec_IsStore_b2; exact cond_t g61 (fin_inr hE91 (rfl))) hF44
       exact QM_round (k42 + 1, (), ()) sl3 (fun W hm => hm) ⟨(by omega), hn92⟩ (show (spec_l7All_m x0).length - (k42 + 1) < (spec_l7All_m x0).length - k42 from by omega)
     ·
      refine CM_condT rfl (nf g61) ?_
      refine sr (wa (nt' (CM_ret (QM_then_ret (QM_block_ret (QM_then_ret (QM_then_ret (QM_block_ret (QM_then_ret ?_)))))))))
      refine QM_items (fun W hm => Mem.hide rk50 hm) ?_
      exact rtb (h := by unfold spec_IsStore_m; exact cond_t g11 (cond_t g13 (fin_inr hE36 (fin_inl (rng_ret (body := F2) (k := k42) (s := ()) (show k42 < (spec_l7All_m x0).length from by omega) (show spec_IsStore_b2 x0 k42 = Sum.inl false from by unfold spec_IsStore_b2; exact cond_f g61 (rfl)) hF44) rfl))))
    ·have g47 : (decide (((k42 : Nat) : Int) < (((spec_l7All_m x0).length : Nat) : Int))) = false := decide_eq_false (by omega)
     refine CM_condF rfl g47 ?_
     refine CM_exit (QM_then_exit (QM_then_exit ?_))
     have hE93 : R5 ((spec_l7All_m x0).length - 0) 0 () = Sum.inr () := rng_end hl46 hF44
     refine QM_block_hit (QM_then (sr (wa (nt' (CM_ret ?_)))))
     exact rtb (h := by unfold spec_IsStore_m; exact cond_t g11 (cond_t g13 (fin_inr hE36 (fin_inr hE93 (rfl)))))
  ·
   refine CM_condT rfl (nf g13) ?_
   refine sr (wa (nt' (CM_ret (QM_then_ret ?_))))
   exact rtb (h := by unfold spec_IsStore_m; exact cond_t g11 (cond_f g13 (rfl)))
 ·
  refine ws (nf g11) ?_
  refine ws (nf g11) ?_
  refine ws (nf g11) ?_
  refine ws (nf g11) ?_
  refine wv (vpT (nf g11)) ?_
  refine nt' ?_
  refine CM_condT rfl rfl ?_
  refine sr (wa (nt' (CM_ret (QM_then_ret ?_))))
  exact rtb (h := by unfold spec_IsStore_m; exact cond_f g11 (rfl))

def spec_HasMember_b1 (x0 : (List Int)) (x1 : Int) (k6 : Nat) : Bool ⊕ (Unit) :=
 cond ((gt x0 k6) == x1) (Sum.inl true) (Sum.inr ())
def spec_HasMember_m (x0 : (List Int)) (x1 : Int) : Bool :=
 Sum.elim id (fun (s : Unit) => false) (rng (R := Bool) (fun k (_ : Unit) => spec_HasMember_b1 x0 x1 k) (x0.length - 0) 0 ())
theorem cb95 : Cb Tryz.prog 95 := ⟨f95, _, func95, rfl, by decide⟩
theorem spec_HasMember_c (w : World) (z0 : Value) (x0 : (List Int)) (x1 : Int) (r_0 : rdS tInt w w.heap.size z0 x0) :
  Calls Tryz.prog 95 #[z0, .int .i64 x1] w fun e w' => e = .returned (.bool (spec_HasMember_m x0 x1)) ∧ Below w.heap.size w w' := by
 have r5 := r_0
 obtain ⟨m1, A2, c3, rfl, q4⟩ := r_0
 refine ce2 (L := [(0, .slice A2 x0.length c3), (1, .int .i64 x1)]) (N := 18) func95 ?_
 refine sr (wa (nt' (CM_seq (sr (wa (nt' (CM_block ?_)))))))
 let F1 := fun k (_ : Unit) => spec_HasMember_b1 x0 x1 k
 let R2 := rng (R := Bool) F1
 refine CM_loop (σ := Nat × (Unit) × (Unit)) (fun s => [(0, .slice A2 x0.length c3), (1, .int .i64 x1), (5, .int .i64 ((s.1 : Nat) : Int))]) (fun s => []) (fun s => s.1 ≤ x0.length ∧ R2 (x0.length - s.1) s.1 s.2.1 = R2 (x0.length - 0) 0 ()) (fun s => x0.length - s.1) (0, (), ()) sl3 (fun W hm => hm) ⟨(by omega), rfl⟩ ?_
 rintro ⟨k6, ⟨⟩, ⟨⟩⟩ H9
 obtain ⟨hk7, hF8⟩ : k6 ≤ x0.length ∧ R2 (x0.length - k6) k6 () = R2 (x0.length - 0) 0 () := H9
 show CM Tryz.prog 18 _ _ _ _ [(0, .slice A2 x0.length c3), (1, .int .i64 x1), (5, .int .i64 ((k6 : Nat) : Int))] []
 refine CM_seq (sr (wm (wm ?_)))
 refine wv (vlen underlying25) ?_
 refine wv vlss ?_
 refine nt' ?_
 by_cases hl10 : k6 < x0.length
 ·have g11 : (decide (((k6 : Nat) : Int) < ((x0.length : Nat) : Int))) = true := decide_eq_true (by omega)
  refine CM_condT rfl g11 ?_
  refine CM_skip (QM_then (CM_seq (CM_block (sr (wm (wm ?_))))))
  obtain ⟨a12, rfl, hb13, he14⟩ := q4 (by omega)
  refine wv (vix 1 k6 underlying25 type3) ?_
  refine wv (fun W hm => rv_load underlying3 rfl rfl ((hm.cell0 (show (a12.add (k6 * 1)).block < w.heap.size from by rw [add_block]; exact hb13.1)).trans (rdS_int he14 k6 (by omega)))) ?_
  refine wm ?_
  refine wv (fun W hm => rv_eql rfl rfl) ?_
  refine nt' ?_
  by_cases h15 : (gt x0 k6) = x1
  ·have g16 : ((gt x0 k6) == x1) = true := beq_iff_eq.2 h15
   refine CM_condT rfl g16 ?_
   refine sr (wa (nt' (CM_ret (QM_block_ret (QM_then_ret (QM_then_ret (QM_block_ret (QM_then_ret ?_))))))))
   exact rtb (h := by unfold spec_HasMember_m; exact fin_inl (rng_ret (body := F1) (k := k6) (s := ()) (show k6 < x0.length from by omega) (show spec_HasMember_b1 x0 x1 k6 = Sum.inl true from by unfold spec_HasMember_b1; exact cond_t g16 (rfl)) hF8) rfl)
  ·have g16 : ((gt x0 k6) == x1) = false := beq_eq_false_iff_ne.2 h15
   refine CM_condF rfl g16 ?_
   refine CM_skip (QM_block_normal (QM_then (CM_region (wm ?_))))
   refine wv (vadN k6 1 (by omega)) ?_
   refine wa (WM_nil ?_)
   have hn17 := rng_next (R := Bool) (body := F1) (k := k6) (s := ()) (s' := ()) (show k6 < x0.length from by omega) (show spec_HasMember_b1 x0 x1 k6 = Sum.inr () from by unfold spec_HasMember_b1; exact cond_f g16 (rfl)) hF8
   exact QM_round (k6 + 1, (), ()) sl3 (fun W hm => hm) ⟨(by omega), hn17⟩ (rl (by omega))
 ·have g11 : (decide (((k6 : Nat) : Int) < ((x0.length : Nat) : Int))) = false := decide_eq_false (by omega)
  refine CM_condF rfl g11 ?_
  refine CM_exit (QM_then_exit (QM_then_exit ?_))
  have hE18 : R2 (x0.length - 0) 0 () = Sum.inr () := rng_end hl10 hF8
  refine QM_block_hit (QM_then (sr (wa (nt' (CM_ret ?_)))))
  exact rtb (h := by unfold spec_HasMember_m; exact fin_inr hE18 (rfl))

def spec_l6Order_b1 (x0 : (List Int)) (k8 : Nat) : Bool ⊕ (Unit) :=
 cond (spec_l1In_m (gt x0 k8) 0 2) (cond (spec_HasMember_m (List.take k8 x0) (gt x0 k8)) (Sum.inl false) (Sum.inr ())) (Sum.inl false)
def spec_l6Order_m (x0 : (List Int)) : Bool :=
 cond (((x0.length : Nat) : Int) != 3) false (Sum.elim id (fun (s : Unit) => true) (rng (R := Bool) (fun k (_ : Unit) => spec_l6Order_b1 x0 k) (x0.length - 0) 0 ()))
theorem cb66 : Cb Tryz.prog 66 := ⟨f66, _, func66, rfl, by decide⟩
theorem spec_l6Order_c (w : World) (z0 : Value) (x0 : (List Int)) (r_0 : rdS tInt w w.heap.size z0 x0) :
  Calls Tryz.prog 66 #[z0] w fun e w' => e = .returned (.bool (spec_l6Order_m x0)) ∧ Below w.heap.size w w' := by
 have r5 := r_0
 obtain ⟨m1, A2, c3, rfl, q4⟩ := r_0
 refine ce1 (L := [(0, .slice A2 x0.length c3)]) (N := 29) func66 ?_
 refine sr (wa (nt' (CM_seq (sr (wm ?_)))))
 refine wv (vlen underlying25) ?_
 refine wv vneq ?_
 refine nt' ?_
 by_cases h6 : ((x0.length : Nat) : Int) = 3
 ·have g7 : (((x0.length : Nat) : Int) != 3) = false := by rw [h6]; exact bne_self_eq_false _
  refine CM_condF rfl g7 ?_
  refine CM_skip (QM_then (CM_seq (sr (wa (nt' (CM_block ?_))))))
  let F1 := fun k (_ : Unit) => spec_l6Order_b1 x0 k
  let R2 := rng (R := Bool) F1
  refine CM_loop (σ := Nat × (Unit) × (Unit)) (fun s => [(0, .slice A2 x0.length c3), (3, .int .i64 ((s.1 : Nat) : Int))]) (fun s => []) (fun s => s.1 ≤ x0.length ∧ R2 (x0.length - s.1) s.1 s.2.1 = R2 (x0.length - 0) 0 ()) (fun s => x0.length - s.1) (0, (), ()) sl2 (fun W hm => hm) ⟨(by omega), rfl⟩ ?_
  rintro ⟨k8, ⟨⟩, ⟨⟩⟩ H11
  obtain ⟨hk9, hF10⟩ : k8 ≤ x0.length ∧ R2 (x0.length - k8) k8 () = R2 (x0.length - 0) 0 () := H11
  show CM Tryz.prog 29 _ _ _ _ [(0, .slice A2 x0.length c3), (3, .int .i64 ((k8 : Nat) : Int))] []
  refine CM_seq (sr (wm (wm ?_)))
  refine wv (vlen underlying25) ?_
  refine wv vlss ?_
  refine nt' ?_
  by_cases hl12 : k8 < x0.length
  ·have g13 : (decide (((k8 : Nat) : Int) < ((x0.length : Nat) : Int))) = true := decide_eq_true (by omega)
   refine CM_condT rfl g13 ?_
   refine CM_skip (QM_then (CM_seq (CM_block (CM_seq ?_))))
   refine CM_regionD (by kernel_rfl) (by kernel_rfl) ?_
   refine qm (qm ?_)
   obtain ⟨a14, rfl, hb15, he16⟩ := q4 (by omega)
   refine qv (vix 1 k8 underlying25 type3) ?_
   refine qv (fun W hm => rv_load underlying3 rfl rfl ((hm.cell0 (show (a14.add (k8 * 1)).block < w.heap.size from by rw [add_block]; exact hb15.1)).trans (rdS_int he16 k8 (by omega)))) ?_
   refine QR_callV (cl_fn cb41 rfl) (fun W hm => spec_l1In_c W (gt x0 k8) 0 2) (Wd_none rfl) (by decide) ?_
   refine qv vnot ?_
   refine qm ?_
   rcases Bool.eq_false_or_eq_true (spec_l1In_m (gt x0 k8) 0 2) with g18 | g18
   ·
    have hw := spec_l1In_fact g18
    refine qg vmv (nt g18) ?_
    refine qg vmv (nt g18) ?_
    have hc21 := rdS_cap r5
    have r19 := rdS_take (k := k8) (by omega) r5
    refine qg (fun W hm => rv_sliceHi (k := k8) underlying25 type3 rfl rfl (by omega)) (nt g18) ?_
    refine qg vmv (nt g18) ?_
    refine qg vmv (nt g18) ?_
    refine qg (vix 1 k8 underlying25 type3) (nt g18) ?_
    refine qg (fun W hm => rv_load underlying3 rfl rfl ((hm.cell0 (show (a14.add (k8 * 1)).block < w.heap.size from by rw [add_block]; exact hb15.1)).trans (rdS_int he16 k8 (by omega)))) (nt g18) ?_
    refine QR_callV (cl_fn cb95 rfl) (fun W hm => spec_HasMember_c W _ (List.take k8 x0) (gt x0 k8) (hm.rdS0 r19)) (Wd_some rfl rfl rfl (bw (nt g18) rfl)) (by decide) ?_
    refine qv (vpF (nt g18)) ?_
    refine nq' ?_
    rcases Bool.eq_false_or_eq_true (spec_HasMember_m (List.take k8 x0) (gt x0 k8)) with g23 | g23
    ·
     refine CM_condT rfl g23 ?_
     refine sr (wa (nt' (CM_ret (QM_block_ret (QM_then_ret (QM_then_ret (QM_block_ret (QM_then_ret ?_))))))))
     exact rtb (h := by unfold spec_l6Order_m; exact cond_f g7 (fin_inl (rng_ret (body := F1) (k := k8) (s := ()) (show k8 < x0.length from by omega) (show spec_l6Order_b1 x0 k8 = Sum.inl false from by unfold spec_l6Order_b1; exact cond_t g18 (cond_t g23 (rfl))) hF10) rfl))
    ·
     refine CM_condF rfl g23 ?_
     refine CM_skip (QM_block_normal (QM_then (CM_region (wm ?_))))
     refine wv (vadN k8 1 (by omega)) ?_
     refine wa (WM_nil ?_)
     have hn24 := rng_next (R := Bool) (body := F1) (k := k8) (s := ()) (s' := ()) (show k8 < x0.length from by omega) (show spec_l6Order_b1 x0 k8 = Sum.inr () from by unfold spec_l6Order_b1; exact cond_t g18 (cond_f g23 (rfl))) hF10
     exact QM_round (k8 + 1, (), ()) sl2 (fun W hm => hm) ⟨(by omega), hn24⟩ (rl (by omega))
   ·
    refine qs (nf g18) ?_
    refine qs (nf g18) ?_
    refine qs (nf g18) ?_
    refine qs (nf g18) ?_
    refine qs (nf g18) ?_
    refine qs (nf g18) ?_
    refine qs (nf g18) ?_
    refine qs (nf g18) ?_
    refine qv (vpT (nf g18)) ?_
    refine nq' ?_
    refine CM_condT rfl rfl ?_
    refine sr (wa (nt' (CM_ret (QM_block_ret (QM_then_ret (QM_then_ret (QM_block_ret (QM_then_ret ?_))))))))
    exact rtb (h := by unfold spec_l6Order_m; exact cond_f g7 (fin_inl (rng_ret (body := F1) (k := k8) (s := ()) (show k8 < x0.length from by omega) (show spec_l6Order_b1 x0 k8 = Sum.inl false from by unfold spec_l6Order_b1; exact cond_f g18 (rfl)) hF10) rfl))
  ·have g13 : (decide (((k8 : Nat) : Int) < ((x0.length : Nat) : Int))) = false := decide_eq_false (by omega)
   refine CM_condF rfl g13 ?_
   refine CM_exit (QM_then_exit (QM_then_exit ?_))
   have hE25 : R2 (x0.length - 0) 0 () = Sum.inr () := rng_end hl12 hF10
   refine QM_block_hit (QM_then (sr (wa (nt' (CM_ret ?_)))))
   exact rtb (h := by unfold spec_l6Order_m; exact cond_f g7 (fin_inr hE25 (rfl)))
 ·have g7 : (((x0.length : Nat) : Int) != 3) = true := bne_iff_ne.2 h6
  refine CM_condT rfl g7 ?_
  refine sr (wa (nt' (CM_ret (QM_then_ret ?_))))
  exact rtb (h := by unfold spec_l6Order_m; exact cond_t g7 (rfl))

def spec_IsCond_m (x0 : DCond) : Bool :=
 cond (spec_l1In_m x0.Field 0 2) (cond (spec_l1In_m x0.Low 0 x0.High) (decide (x0.High ≤ 99)) false) false
theorem cb70 : Cb Tryz.prog 70 := ⟨f70, _, func70, rfl, by decide⟩
theorem spec_IsCond_c (w : World) (z0 : List Value) (x0 : DCond) (r_0 : tyCond.rd w w.heap.size z0 x0) :
  Calls Tryz.prog 70 #[.agg z0.toArray] w fun e w' => e = .returned (.bool (spec_IsCond_m x0)) ∧ Below w.heap.size w w' := by
 obtain rfl := tyCond_rd r_0
 refine ce1 (L := [(0, .agg #[.int .i64 x0.Field, .int .i64 x0.Low, .int .i64 x0.High])]) (N := 18) func70 ?_
 refine sr ?_
 refine WM_box rfl (Wd_none rfl) (by decide) (fun p1 => ?_)
 refine wa (nt' (sr ?_))
 refine wv (vf underlying102 rfl type3) ?_
 refine wv (vl 0 0 underlying3) ?_
 refine wcv (cl_fn cb41 rfl) (fun W hm => spec_l1In_c W x0.Field 0 2) ?_
 refine wm ?_
 rcases Bool.eq_false_or_eq_true (spec_l1In_m x0.Field 0 2) with g3 | g3
 ·
  have hw := spec_l1In_fact g3
  refine wg (vf underlying102 rfl type3) g3 ?_
  refine wg (vl 0 1 underlying3) g3 ?_
  refine wg (vf underlying102 rfl type3) g3 ?_
  refine wg (vl 0 2 underlying3) g3 ?_
  refine WM_callV (cl_fn cb41 rfl) (fun W hm => spec_l1In_c W x0.Low 0 x0.High) (Wd_some rfl rfl rfl (bw g3 rfl)) (by decide) ?_
  refine wv (vpT g3) ?_
  refine wm ?_
  rcases Bool.eq_false_or_eq_true (spec_l1In_m x0.Low 0 x0.High) with g5 | g5
  ·
   have hw := spec_l1In_fact g5
   refine wg (vf underlying102 rfl type3) g5 ?_
   refine wg (vl 0 2 underlying3) g5 ?_
   refine wg (fun W hm => rv_leq rfl rfl) g5 ?_
   refine wv (vpT g5) ?_
   refine wa (nt' (CM_ret ?_))
   exact rtb (h := by unfold spec_IsCond_m; exact cond_t g3 (cond_t g5 (rfl)))
  ·
   refine ws g5 ?_
   refine ws g5 ?_
   refine ws g5 ?_
   refine wv (vpF g5) ?_
   refine wa (nt' (CM_ret ?_))
   exact rtb (h := by unfold spec_IsCond_m; exact cond_t g3 (cond_f g5 (rfl)))
 ·
  refine ws g3 ?_
  refine ws g3 ?_
  refine ws g3 ?_
  refine ws g3 ?_
  refine ws g3 ?_
  refine wv (vpF g3) ?_
  refine wm ?_
  refine wk ?_
  refine wk ?_
  refine wk ?_
  refine wv (vpF rfl) ?_
  refine wa (nt' (CM_ret ?_))
  exact rtb (h := by unfold spec_IsCond_m; exact cond_f g3 (rfl))

def spec_l4Fields_b1 (x0 : (List Int)) (k6 : Nat) : Bool ⊕ (Unit) :=
 cond (spec_l1In_m (gt x0 k6) 0 2) (Sum.inr ()) (Sum.inl false)
def spec_l4Fields_m (x0 : (List Int)) : Bool :=
 Sum.elim id (fun (s : Unit) => (spec_l1In_m ((x0.length : Nat) : Int) 1 3)) (rng (R := Bool) (fun k (_ : Unit) => spec_l4Fields_b1 x0 k) (x0.length - 0) 0 ())
theorem cb71 : Cb Tryz.prog 71 := ⟨f71, _, func71, rfl, by decide⟩
theorem spec_l4Fields_c (w : World) (z0 : Value) (x0 : (List Int)) (r_0 : rdS tInt w w.heap.size z0 x0) :
  Calls Tryz.prog 71 #[z0] w fun e w' => e = .returned (.bool (spec_l4Fields_m x0)) ∧ Below w.heap.size w w' := by
 have r5 := r_0
 obtain ⟨m1, A2, c3, rfl, q4⟩ := r_0
 refine ce1 (L := [(0, .slice A2 x0.length c3)]) (N := 19) func71 ?_
 refine sr (wa (nt' (CM_seq (sr (wa (nt' (CM_block ?_)))))))
 let F1 := fun k (_ : Unit) => spec_l4Fields_b1 x0 k
 let R2 := rng (R := Bool) F1
 refine CM_loop (σ := Nat × (Unit) × (Unit)) (fun s => [(0, .slice A2 x0.length c3), (3, .int .i64 ((s.1 : Nat) : Int))]) (fun s => []) (fun s => s.1 ≤ x0.length ∧ R2 (x0.length - s.1) s.1 s.2.1 = R2 (x0.length - 0) 0 ()) (fun s => x0.length - s.1) (0, (), ()) sl2 (fun W hm => hm) ⟨(by omega), rfl⟩ ?_
 rintro ⟨k6, ⟨⟩, ⟨⟩⟩ H9
 obtain ⟨hk7, hF8⟩ : k6 ≤ x0.length ∧ R2 (x0.length - k6) k6 () = R2 (x0.length - 0) 0 () := H9
 show CM Tryz.prog 19 _ _ _ _ [(0, .slice A2 x0.length c3), (3, .int .i64 ((k6 : Nat) : Int))] []
 refine CM_seq (sr (wm (wm ?_)))
 refine wv (vlen underlying25) ?_
 refine wv vlss ?_
 refine nt' ?_
 by_cases hl10 : k6 < x0.length
 ·have g11 : (decide (((k6 : Nat) : Int) < ((x0.length : Nat) : Int))) = true := decide_eq_true (by omega)
  refine CM_condT rfl g11 ?_
  refine CM_skip (QM_then (CM_seq (CM_block (sr (wm (wm ?_))))))
  obtain ⟨a12, rfl, hb13, he14⟩ := q4 (by omega)
  refine wv (vix 1 k6 underlying25 type3) ?_
  refine wv (fun W hm => rv_load underlying3 rfl rfl ((hm.cell0 (show (a12.add (k6 * 1)).block < w.heap.size from by rw [add_block]; exact hb13.1)).trans (rdS_int he14 k6 (by omega)))) ?_
  refine wcv (cl_fn cb41 rfl) (fun W hm => spec_l1In_c W (gt x0 k6) 0 2) ?_
  refine wv vnot ?_
  refine nt' ?_
  rcases Bool.eq_false_or_eq_true (spec_l1In_m (gt x0 k6) 0 2) with g16 | g16
  ·
   have hw := spec_l1In_fact g16
   refine CM_condF rfl (nt g16) ?_
   refine CM_skip (QM_block_normal (QM_then (CM_region (wm ?_))))
   refine wv (vadN k6 1 (by omega)) ?_
   refine wa (WM_nil ?_)
   have hn17 := rng_next (R := Bool) (body := F1) (k := k6) (s := ()) (s' := ()) (show k6 < x0.length from by omega) (show spec_l4Fields_b1 x0 k6 = Sum.inr () from by unfold spec_l4Fields_b1; exact cond_t g16 (rfl)) hF8
   exact QM_round (k6 + 1, (), ()) sl2 (fun W hm => hm) ⟨(by omega), hn17⟩ (rl (by omega))
  ·
   refine CM_condT rfl (nf g16) ?_
   refine sr (wa (nt' (CM_ret (QM_block_ret (QM_then_ret (QM_then_ret (QM_block_ret (QM_then_ret ?_))))))))
   exact rtb (h := by unfold spec_l4Fields_m; exact fin_inl (rng_ret (body := F1) (k := k6) (s := ()) (show k6 < x0.length from by omega) (show spec_l4Fields_b1 x0 k6 = Sum.inl false from by unfold spec_l4Fields_b1; exact cond_f g16 (rfl)) hF8) rfl)
 ·have g11 : (decide (((k6 : Nat) : Int) < ((x0.length : Nat) : Int))) = false := decide_eq_false (by omega)
  refine CM_condF rfl g11 ?_
  refine CM_exit (QM_then_exit (QM_then_exit ?_))
  have hE18 : R2 (x0.length - 0) 0 () = Sum.inr () := rng_end hl10 hF8
  refine QM_block_hit (QM_then (sr (wm ?_)))
  refine wv (vlen underlying25) ?_
  refine wcv (cl_fn cb41 rfl) (fun W hm => spec_l1In_c W ((x0.length : Nat) : Int) 1 3) ?_
  refine wa (nt' (CM_ret ?_))
  exact rtb (h := by unfold spec_l4Fields_m; exact fin_inr hE18 (rfl))

def spec_IsQuery_b1 (x0 : DQuery) (k16 : Nat) : Bool ⊕ (Unit) :=
 cond (spec_IsCond_m (gt x0.Conds k16)) (cond (decide (0 < ((k16 : Nat) : Int))) (cond (decide (((gt x0.Conds k16).Field) ≤ ((gt x0.Conds (k16 - 1)).Field))) (Sum.inl false) (Sum.inr ())) (Sum.inr ())) (Sum.inl false)
def spec_IsQuery_m (x0 : DQuery) : Bool :=
 Sum.elim id (fun (s : Unit) => cond (spec_l1In_m x0.Id 0 23) (cond (spec_l1In_m x0.Tenant 0 3) (cond (decide (((x0.Conds.length : Nat) : Int) ≤ 3)) (spec_l4Fields_m x0.Out) false) false) false) (rng (R := Bool) (fun k (_ : Unit) => spec_IsQuery_b1 x0 k) (x0.Conds.length - 0) 0 ())
theorem cb40 : Cb Tryz.prog 40 := ⟨f40, _, func40, rfl, by decide⟩
theorem spec_IsQuery_c (w : World) (z0 : List Value) (x0 : DQuery) (r_0 : tyQuery.rd w w.heap.size z0 x0) :
  Calls Tryz.prog 40 #[.agg z0.toArray] w fun e w' => e = .returned (.bool (spec_IsQuery_m x0)) ∧ Below w.heap.size w w' := by
 obtain ⟨v1, v3, rfl, r2, r4⟩ := tyQuery_rd r_0
 have r9 := r2
 obtain ⟨m5, A6, c7, rfl, q8⟩ := r2
 have r14 := r4
 obtain ⟨m10, A11, c12, rfl, q13⟩ := r4
 refine ce1 (L := [(0, .agg #[.int .i64 x0.Id, .int .i64 x0.Tenant, .slice A6 x0.Conds.length c7, .slice A11 x0.Out.length c12])]) (N := 57) func40 ?_
 refine sr ?_
 refine WM_box rfl (Wd_none rfl) (by decide) (fun p15 => ?_)
 refine wa (nt' (CM_seq (sr (wa (nt' (CM_block ?_))))))
 let F1 := fun k (_ : Unit) => spec_IsQuery_b1 x0 k
 let R2 := rng (R := Bool) F1
 let K3 : List Value := [.int .i64 x0.Id, .int .i64 x0.Tenant, .slice A6 x0.Conds.length c7, .slice A11 x0.Out.length c12]
 refine CM_loop (σ := Nat × (Unit) × (Unit)) (fun s => [(1, .pointer (some (⟨p15, 0, none⟩ : Addr))), (3, .int .i64 ((s.1 : Nat) : Int))]) (fun s => [iBox p15 48 K3]) (fun s => s.1 ≤ x0.Conds.length ∧ R2 (x0.Conds.length - s.1) s.1 s.2.1 = R2 (x0.Conds.length - 0) 0 ()) (fun s => x0.Conds.length - s.1) (0, (), ()) sl2 (fun W hm => hm) ⟨(by omega), rfl⟩ ?_
 rintro ⟨k16, ⟨⟩, ⟨⟩⟩ H19
 obtain ⟨hk17, hF18⟩ : k16 ≤ x0.Conds.length ∧ R2 (x0.Conds.length - k16) k16 () = R2 (x0.Conds.length - 0) 0 () := H19
 show CM Tryz.prog 57 _ _ _ _ [(1, .pointer (some (⟨p15, 0, none⟩ : Addr))), (3, .int .i64 ((k16 : Nat) : Int))] [iBox p15 48 K3]
 refine CM_seq (sr (wm ?_))
 refine wv (vf underlying48 rfl type46) ?_
 refine wv (vl 0 2 underlying46) ?_
 refine wv (vlen underlying46) ?_
 refine wv vlss ?_
 refine nt' ?_
 by_cases hl20 : k16 < x0.Conds.length
 ·have g21 : (decide (((k16 : Nat) : Int) < ((x0.Conds.length : Nat) : Int))) = true := decide_eq_true (by omega)
  refine CM_condT rfl g21 ?_
  refine CM_skip (QM_then (CM_seq (CM_block (CM_seq ?_))))
  refine CM_regionD (by kernel_rfl) (by kernel_rfl) ?_
  refine qv (vf underlying48 rfl type46) ?_
  refine qv (vl 0 2 underlying46) ?_
  refine qm ?_
  obtain ⟨a22, rfl, hb23, he24⟩ := q8 (by omega)
  refine qv (vix 3 k16 underlying46 type102) ?_
  obtain ⟨_, e26, hc25⟩ := he24 k16 _ (gt_some (show k16 < x0.Conds.length from by omega))
  obtain rfl := tyCond_rd e26
  refine qv (fun W hm => rv_loadN (cs := [.int .i64 ((gt x0.Conds k16).Field), .int .i64 ((gt x0.Conds k16).Low), .int .i64 ((gt x0.Conds k16).High)]) underlying102 type102 rfl rfl (hm.elCells (show (a22.add (k16 * 3)).block < w.heap.size from by rw [add_block]; exact hb23.1) hc25)) ?_
  refine QR_callV (cl_fn cb70 rfl) (fun W hm => spec_IsCond_c W _ (gt x0.Conds k16) (tyCond_mk (x := (gt x0.Conds k16)))) (Wd_none rfl) (by decide) ?_
  refine qv vnot ?_
  refine qm ?_
  rcases Bool.eq_false_or_eq_true (spec_IsCond_m (gt x0.Conds k16)) with g28 | g28
  ·
   refine qg vmv (nt g28) ?_
   refine qg (fun W hm => rv_gtr rfl rfl) (nt g28) ?_
   refine qg vmv (nt g28) ?_
   by_cases h29 : 0 < ((k16 : Nat) : Int)
   ·have g30 : (decide (0 < ((k16 : Nat) : Int))) = true := decide_eq_true h29
    refine qg (vf underlying48 rfl type46) g30 ?_
    refine qg (vl 0 2 underlying46) g30 ?_
    refine qg vmv g30 ?_
    refine qg (vix 3 k16 underlying46 type102) g30 ?_
    refine qg (vf underlying102 rfl type3) g30 ?_
    refine qg (fun W hm => rv_load underlying3 rfl rfl ((hm.cell0 (show ((a22.add (k16 * 3)).add 0).block < w.heap.size from by rw [add_block, add_block]; exact hb23.1)).trans (hc25 0 _ rfl))) g30 ?_
    refine qg (vf underlying48 rfl type46) g30 ?_
    refine qg (vl 0 2 underlying46) g30 ?_
    refine qg vmv g30 ?_
    refine qg (fun W hm => rv_subN (p := k16) (q := 1) rfl rfl (by omega) (by omega)) g30 ?_
    refine qg (fun W hm => rv_index (sz := 3) (k := k16 - 1) underlying46 type102 rfl rfl rfl (by omega)) g30 ?_
    refine qg (vf underlying102 rfl type3) g30 ?_
    obtain ⟨_, e32, hc31⟩ := he24 (k16 - 1) _ (gt_some (show (k16 - 1) < x0.Conds.length from by omega))
    obtain rfl := tyCond_rd e32
    refine qg (fun W hm => rv_load underlying3 rfl rfl ((hm.cell0 (show ((a22.add ((k16 - 1) * 3)).add 0).block < w.heap.size from by rw [add_block, add_block]; exact hb23.1)).trans (hc31 0 _ rfl))) g30 ?_
    refine qg (fun W hm => rv_leq rfl rfl) g30 ?_
    refine qg (vpT g30) (nt g28) ?_
    refine qv (vpF (nt g28)) ?_
    refine nq' ?_
    by_cases h33 : ((gt x0.Conds k16).Field) ≤ ((gt x0.Conds (k16 - 1)).Field)
    ·have g34 : (decide (((gt x0.Conds k16).Field) ≤ ((gt x0.Conds (k16 - 1)).Field))) = true := decide_eq_true h33
     refine CM_condT rfl g34 ?_
     refine sr (wa (nt' (CM_ret (QM_block_ret (QM_then_ret (QM_then_ret (QM_block_ret (QM_then_ret ?_))))))))
     exact rtb (h := by unfold spec_IsQuery_m; exact fin_inl (rng_ret (body := F1) (k := k16) (s := ()) (show k16 < x0.Conds.length from by omega) (show spec_IsQuery_b1 x0 k16 = Sum.inl false from by unfold spec_IsQuery_b1; exact cond_t g28 (cond_t g30 (cond_t g34 (rfl)))) hF18) rfl)
    ·have g34 : (decide (((gt x0.Conds k16).Field) ≤ ((gt x0.Conds (k16 - 1)).Field))) = false := decide_eq_false h33
     refine CM_condF rfl g34 ?_
     refine CM_skip (QM_block_normal (QM_then (CM_region (wm ?_))))
     refine wv (vadN k16 1 (by omega)) ?_
     refine wa (WM_nil ?_)
     have hn35 := rng_next (R := Bool) (body := F1) (k := k16) (s := ()) (s' := ()) (show k16 < x0.Conds.length from by omega) (show spec_IsQuery_b1 x0 k16 = Sum.inr () from by unfold spec_IsQuery_b1; exact cond_t g28 (cond_t g30 (cond_f g34 (rfl)))) hF18
     exact QM_round (k16 + 1, (), ()) sl2 (fun W hm => hm) ⟨(by omega), hn35⟩ (rl (by omega))
   ·have g30 : (decide (0 < ((k16 : Nat) : Int))) = false := decide_eq_false h29
    refine qs g30 ?_
    refine qs g30 ?_
    refine qs g30 ?_
    refine qs g30 ?_
    refine qs g30 ?_
    refine qs g30 ?_
    refine qs g30 ?_
    refine qs g30 ?_
    refine qs g30 ?_
    refine qs g30 ?_
    refine qs g30 ?_
    refine qs g30 ?_
    refine qs g30 ?_
    refine qs g30 ?_
    refine qg (vpF g30) (nt g28) ?_
    refine qv (vpF (nt g28)) ?_
    refine nq' ?_
    refine CM_condF rfl rfl ?_
    refine CM_skip (QM_block_normal (QM_then (CM_region (wm ?_))))
    refine wv (vadN k16 1 (by omega)) ?_
    refine wa (WM_nil ?_)
    have hn36 := rng_next (R := Bool) (body := F1) (k := k16) (s := ()) (s' := ()) (show k16 < x0.Conds.length from by omega) (show spec_IsQuery_b1 x0 k16 = Sum.inr () from by unfold spec_IsQuery_b1; exact cond_t g28 (cond_f g30 (rfl))) hF18
    exact QM_round (k16 + 1, (), ()) sl2 (fun W hm => hm) ⟨(by omega), hn36⟩ (rl (by omega))
  ·
   refine qs (nf g28) ?_
   refine qs (nf g28) ?_
   refine qs (nf g28) ?_
   refine qu ?_
   refine qu ?_
   refine qu ?_
   refine qu ?_
   refine qu ?_
   refine qu ?_
   refine qu ?_
   refine qu ?_
   refine qu ?_
   refine qu ?_
   refine qu ?_
   refine qu ?_
   refine qu ?_
   refine qu ?_
   refine qs (nf g28) ?_
   refine qv (vpT (nf g28)) ?_
   refine nq' ?_
   refine CM_condT rfl rfl ?_
   refine sr (wa (nt' (CM_ret (QM_block_ret (QM_then_ret (QM_then_ret (QM_block_ret (QM_then_ret ?_))))))))
   exact rtb (h := by unfold spec_IsQuery_m; exact fin_inl (rng_ret (body := F1) (k := k16) (s := ()) (show k16 < x0.Conds.length from by omega) (show spec_IsQuery_b1 x0 k16 = Sum.inl false from by unfold spec_IsQuery_b1; exact cond_f g28 (rfl)) hF18) rfl)
 ·have g21 : (decide (((k16 : Nat) : Int) < ((x0.Conds.length : Nat) : Int))) = false := decide_eq_false (by omega)
  refine CM_condF rfl g21 ?_
  refine CM_exit (QM_then_exit (QM_then_exit ?_))
  have hE37 : R2 (x0.Conds.length - 0) 0 () = Sum.inr () := rng_end hl20 hF18
  refine QM_block_hit (QM_then (sr ?_))
  refine wv (vf underlying48 rfl type3) ?_
  refine wv (vl 0 0 underlying3) ?_
  refine wcv (cl_fn cb41 rfl) (fun W hm => spec_l1In_c W x0.Id 0 23) ?_
  refine wm ?_
  rcases Bool.eq_false_or_eq_true (spec_l1In_m x0.Id 0 23) with g39 | g39
  ·
   have hw := spec_l1In_fact g39
   refine wg (vf underlying48 rfl type3) g39 ?_
   refine wg (vl 0 1 underlying3) g39 ?_
   refine WM_callV (cl_fn cb41 rfl) (fun W hm => spec_l1In_c W x0.Tenant 0 3) (Wd_some rfl rfl rfl (bw g39 rfl)) (by decide) ?_
   refine wv (vpT g39) ?_
   refine wm ?_
   rcases Bool.eq_false_or_eq_true (spec_l1In_m x0.Tenant 0 3) with g41 | g41
   ·
    have hw := spec_l1In_fact g41
    refine wg (vf underlying48 rfl type46) g41 ?_
    refine wg (vl 0 2 underlying46) g41 ?_
    refine wg (vlen underlying46) g41 ?_
    refine wg (fun W hm => rv_leq rfl rfl) g41 ?_
    refine wv (vpT g41) ?_
    refine wm ?_
    by_cases h42 : ((x0.Conds.length : Nat) : Int) ≤ 3
    ·have g43 : (decide (((x0.Conds.length : Nat) : Int) ≤ 3)) = true := decide_eq_true h42
     refine wg (vf underlying48 rfl type25) g43 ?_
     refine wg (vl 0 3 underlying25) g43 ?_
     refine WM_callV (cl_fn cb71 rfl) (fun W hm => spec_l4Fields_c W _ x0.Out (hm.rdS0 r14)) (Wd_some rfl rfl rfl (bw g43 rfl)) (by decide) ?_
     refine wv (vpT g43) ?_
     refine wa (nt' (CM_ret ?_))
     exact rtb (h := by unfold spec_IsQuery_m; exact fin_inr hE37 (cond_t g39 (cond_t g41 (cond_t g43 (rfl)))))
    ·have g43 : (decide (((x0.Conds.length : Nat) : Int) ≤ 3)) = false := decide_eq_false h42
     refine ws g43 ?_
     refine ws g43 ?_
     refine ws g43 ?_
     refine wv (vpF g43) ?_
     refine wa (nt' (CM_ret ?_))
     exact rtb (h := by unfold spec_IsQuery_m; exact fin_inr hE37 (cond_t g39 (cond_t g41 (cond_f g43 (rfl)))))
   ·
    refine ws g41 ?_
    refine ws g41 ?_
    refine ws g41 ?_
    refine ws g41 ?_
    refine wv (vpF g41) ?_
    refine wm ?_
    refine wk ?_
    refine wk ?_
    refine wk ?_
    refine wv (vpF rfl) ?_
    refine wa (nt' (CM_ret ?_))
    exact rtb (h := by unfold spec_IsQuery_m; exact fin_inr hE37 (cond_t g39 (cond_f g41 (rfl))))
  ·
   refine ws g39 ?_
   refine ws g39 ?_
   refine ws g39 ?_
   refine wv (vpF g39) ?_
   refine wm ?_
   refine wk ?_
   refine wk ?_
   refine wk ?_
   refine wk ?_
   refine wv (vpF rfl) ?_
   refine wm ?_
   refine wk ?_
   refine wk ?_
   refine wk ?_
   refine wv (vpF rfl) ?_
   refine wa (nt' (CM_ret ?_))
   exact rtb (h := by unfold spec_IsQuery_m; exact fin_inr hE37 (cond_f g39 (rfl)))

def spec_l9Todo_b1 (x0 : (List Int)) (x1 : Int) (k6 : Nat) : Bool ⊕ (Unit) :=
 cond (spec_l1In_m (gt x0 k6) 0 (IntKind.i64.wrap (x1 - 1))) (cond (decide (0 < ((k6 : Nat) : Int))) (cond (decide ((gt x0 k6) ≤ (gt x0 (k6 - 1)))) (Sum.inl false) (Sum.inr ())) (Sum.inr ())) (Sum.inl false)
def spec_l9Todo_m (x0 : (List Int)) (x1 : Int) : Bool :=
 Sum.elim id (fun (s : Unit) => (decide (0 < ((x0.length : Nat) : Int)))) (rng (R := Bool) (fun k (_ : Unit) => spec_l9Todo_b1 x0 x1 k) (x0.length - 0) 0 ())
theorem cb96 : Cb Tryz.prog 96 := ⟨f96, _, func96, rfl, by decide⟩
theorem spec_l9Todo_c (w : World) (z0 : Value) (x0 : (List Int)) (x1 : Int) (r_0 : rdS tInt w w.heap.size z0 x0) :
  Calls Tryz.prog 96 #[z0, .int .i64 x1] w fun e w' => e = .returned (.bool (spec_l9Todo_m x0 x1)) ∧ Below w.heap.size w w' := by
 have r5 := r_0
 obtain ⟨m1, A2, c3, rfl, q4⟩ := r_0
 refine ce2 (L := [(0, .slice A2 x0.length c3), (1, .int .i64 x1)]) (N := 39) func96 ?_
 refine sr (wa (nt' (CM_seq (sr (wa (nt' (CM_block ?_)))))))
 let F1 := fun k (_ : Unit) => spec_l9Todo_b1 x0 x1 k
 let R2 := rng (R := Bool) F1
 refine CM_loop (σ := Nat × (Unit) × (Unit)) (fun s => [(0, .slice A2 x0.length c3), (1, .int .i64 x1), (5, .int .i64 ((s.1 : Nat) : Int))]) (fun s => []) (fun s => s.1 ≤ x0.length ∧ R2 (x0.length - s.1) s.1 s.2.1 = R2 (x0.length - 0) 0 ()) (fun s => x0.length - s.1) (0, (), ()) sl3 (fun W hm => hm) ⟨(by omega), rfl⟩ ?_
 rintro ⟨k6, ⟨⟩, ⟨⟩⟩ H9
 obtain ⟨hk7, hF8⟩ : k6 ≤ x0.length ∧ R2 (x0.length - k6) k6 () = R2 (x0.length - 0) 0 () := H9
 show CM Tryz.prog 39 _ _ _ _ [(0, .slice A2 x0.length c3), (1, .int .i64 x1), (5, .int .i64 ((k6 : Nat) : Int))] []
 refine CM_seq (sr (wm (wm ?_)))
 refine wv (vlen underlying25) ?_
 refine wv vlss ?_
 refine nt' ?_
 by_cases hl10 : k6 < x0.length
 ·have g11 : (decide (((k6 : Nat) : Int) < ((x0.length : Nat) : Int))) = true := decide_eq_true (by omega)
  refine CM_condT rfl g11 ?_
  refine CM_skip (QM_then (CM_seq (CM_block (CM_seq ?_))))
  refine CM_regionD (by kernel_rfl) (by kernel_rfl) ?_
  refine qm (qm ?_)
  obtain ⟨a12, rfl, hb13, he14⟩ := q4 (by omega)
  refine qv (vix 1 k6 underlying25 type3) ?_
  refine qv (fun W hm => rv_load underlying3 rfl rfl ((hm.cell0 (show (a12.add (k6 * 1)).block < w.heap.size from by rw [add_block]; exact hb13.1)).trans (rdS_int he14 k6 (by omega)))) ?_
  refine qm ?_
  refine qv (fun W hm => rv_sub rfl rfl) ?_
  refine QR_callV (cl_fn cb41 rfl) (fun W hm => spec_l1In_c W (gt x0 k6) 0 (IntKind.i64.wrap (x1 - 1))) (Wd_none rfl) (by decide) ?_
  refine qv vnot ?_
  refine qm ?_
  rcases Bool.eq_false_or_eq_true (spec_l1In_m (gt x0 k6) 0 (IntKind.i64.wrap (x1 - 1))) with g16 | g16
  ·
   have hw := spec_l1In_fact g16
   refine qg vmv (nt g16) ?_
   refine qg (fun W hm => rv_gtr rfl rfl) (nt g16) ?_
   refine qg vmv (nt g16) ?_
   by_cases h17 : 0 < ((k6 : Nat) : Int)
   ·have g18 : (decide (0 < ((k6 : Nat) : Int))) = true := decide_eq_true h17
    refine qg vmv g18 ?_
    refine qg vmv g18 ?_
    refine qg (vix 1 k6 underlying25 type3) g18 ?_
    refine qg (fun W hm => rv_load underlying3 rfl rfl ((hm.cell0 (show (a12.add (k6 * 1)).block < w.heap.size from by rw [add_block]; exact hb13.1)).trans (rdS_int he14 k6 (by omega)))) g18 ?_
    refine qg vmv g18 ?_
    refine qg vmv g18 ?_
    refine qg (fun W hm => rv_subN (p := k6) (q := 1) rfl rfl (by omega) (by omega)) g18 ?_
    refine qg (fun W hm => rv_index (sz := 1) (k := k6 - 1) underlying25 type3 rfl rfl rfl (by omega)) g18 ?_
    refine qg (fun W hm => rv_load underlying3 rfl rfl ((hm.cell0 (show (a12.add ((k6 - 1) * 1)).block < w.heap.size from by rw [add_block]; exact hb13.1)).trans (rdS_int he14 (k6 - 1) (by omega)))) g18 ?_
    refine qg (fun W hm => rv_leq rfl rfl) g18 ?_
    refine qg (vpT g18) (nt g16) ?_
    refine qv (vpF (nt g16)) ?_
    refine nq' ?_
    by_cases h19 : (gt x0 k6) ≤ (gt x0 (k6 - 1))
    ·have g20 : (decide ((gt x0 k6) ≤ (gt x0 (k6 - 1)))) = true := decide_eq_true h19
     refine CM_condT rfl g20 ?_
     refine sr (wa (nt' (CM_ret (QM_block_ret (QM_then_ret (QM_then_ret (QM_block_ret (QM_then_ret ?_))))))))
     exact rtb (h := by unfold spec_l9Todo_m; exact fin_inl (rng_ret (body := F1) (k := k6) (s := ()) (show k6 < x0.length from by omega) (show spec_l9Todo_b1 x0 x1 k6 = Sum.inl false from by unfold spec_l9Todo_b1; exact cond_t g16 (cond_t g18 (cond_t g20 (rfl)))) hF8) rfl)
    ·have g20 : (decide ((gt x0 k6) ≤ (gt x0 (k6 - 1)))) = false := decide_eq_false h19
     refine CM_condF rfl g20 ?_
     refine CM_skip (QM_block_normal (QM_then (CM_region (wm ?_))))
     refine wv (vadN k6 1 (by omega)) ?_
     refine wa (WM_nil ?_)
     have hn21 := rng_next (R := Bool) (body := F1) (k := k6) (s := ()) (s' := ()) (show k6 < x0.length from by omega) (show spec_l9Todo_b1 x0 x1 k6 = Sum.inr () from by unfold spec_l9Todo_b1; exact cond_t g16 (cond_t g18 (cond_f g20 (rfl)))) hF8
     exact QM_round (k6 + 1, (), ()) sl3 (fun W hm => hm) ⟨(by omega), hn21⟩ (rl (by omega))
   ·have g18 : (decide (0 < ((k6 : Nat) : Int))) = false := decide_eq_false h17
    refine qs g18 ?_
    refine qs g18 ?_
    refine qs g18 ?_
    refine qs g18 ?_
    refine qs g18 ?_
    refine qs g18 ?_
    refine qs g18 ?_
    refine qs g18 ?_
    refine qs g18 ?_
    refine qs g18 ?_
    refine qg (vpF g18) (nt g16) ?_
    refine qv (vpF (nt g16)) ?_
    refine nq' ?_
    refine CM_condF rfl rfl ?_
    refine CM_skip (QM_block_normal (QM_then (CM_region (wm ?_))))
    refine wv (vadN k6 1 (by omega)) ?_
    refine wa (WM_nil ?_)
    have hn22 := rng_next (R := Bool) (body := F1) (k := k6) (s := ()) (s' := ()) (show k6 < x0.length from by omega) (show spec_l9Todo_b1 x0 x1 k6 = Sum.inr () from by unfold spec_l9Todo_b1; exact cond_t g16 (cond_f g18 (rfl))) hF8
    exact QM_round (k6 + 1, (), ()) sl3 (fun W hm => hm) ⟨(by omega), hn22⟩ (rl (by omega))
  ·
   refine qs (nf g16) ?_
   refine qs (nf g16) ?_
   refine qs (nf g16) ?_
   refine qu ?_
   refine qu ?_
   refine qu ?_
   refine qu ?_
   refine qu ?_
   refine qu ?_
   refine qu ?_
   refine qu ?_
   refine qu ?_
   refine qu ?_
   refine qs (nf g16) ?_
   refine qv (vpT (nf g16)) ?_
   refine nq' ?_
   refine CM_condT rfl rfl ?_
   refine sr (wa (nt' (CM_ret (QM_block_ret (QM_then_ret (QM_then_ret (QM_block_ret (QM_then_ret ?_))))))))
   exact rtb (h := by unfold spec_l9Todo_m; exact fin_inl (rng_ret (body := F1) (k := k6) (s := ()) (show k6 < x0.length from by omega) (show spec_l9Todo_b1 x0 x1 k6 = Sum.inl false from by unfold spec_l9Todo_b1; exact cond_f g16 (rfl)) hF8) rfl)
 ·have g11 : (decide (((k6 : Nat) : Int) < ((x0.length : Nat) : Int))) = false := decide_eq_false (by omega)
  refine CM_condF rfl g11 ?_
  refine CM_exit (QM_then_exit (QM_then_exit ?_))
  have hE23 : R2 (x0.length - 0) 0 () = Sum.inr () := rng_end hl10 hF8
  refine QM_block_hit (QM_then (sr (wm ?_)))
  refine wv (vlen underlying25) ?_
  refine wv (fun W hm => rv_gtr rfl rfl) ?_
  refine wa (nt' (CM_ret ?_))
  exact rtb (h := by unfold spec_l9Todo_m; exact fin_inr hE23 (rfl))

def spec_l9List_b1 (x0 : (List DRow)) (k6 : Nat) : Bool ⊕ (Unit) :=
 cond (spec_IsRow_m (gt x0 k6)) (Sum.inr ()) (Sum.inl false)
def spec_l9List_m (x0 : (List DRow)) : Bool :=
 Sum.elim id (fun (s : Unit) => (decide (((x0.length : Nat) : Int) ≤ 1000))) (rng (R := Bool) (fun k (_ : Unit) => spec_l9List_b1 x0 k) (x0.length - 0) 0 ())
theorem cb68 : Cb Tryz.prog 68 := ⟨f68, _, func68, rfl, by decide⟩
theorem spec_l9List_c (w : World) (z0 : Value) (x0 : (List DRow)) (r_0 : rdS tyRow w w.heap.size z0 x0) :
  Calls Tryz.prog 68 #[z0] w fun e w' => e = .returned (.bool (spec_l9List_m x0)) ∧ Below w.heap.size w w' := by
 have r5 := r_0
 obtain ⟨m1, A2, c3, rfl, q4⟩ := r_0
 refine ce1 (L := [(0, .slice A2 x0.length c3)]) (N := 19) func68 ?_
 refine sr (wa (nt' (CM_seq (sr (wa (nt' (CM_block ?_)))))))
 let F1 := fun k (_ : Unit) => spec_l9List_b1 x0 k
 let R2 := rng (R := Bool) F1
 refine CM_loop (σ := Nat × (Unit) × (Unit)) (fun s => [(0, .slice A2 x0.length c3), (3, .int .i64 ((s.1 : Nat) : Int))]) (fun s => []) (fun s => s.1 ≤ x0.length ∧ R2 (x0.length - s.1) s.1 s.2.1 = R2 (x0.length - 0) 0 ()) (fun s => x0.length - s.1) (0, (), ()) sl2 (fun W hm => hm) ⟨(by omega), rfl⟩ ?_
 rintro ⟨k6, ⟨⟩, ⟨⟩⟩ H9
 obtain ⟨hk7, hF8⟩ : k6 ≤ x0.length ∧ R2 (x0.length - k6) k6 () = R2 (x0.length - 0) 0 () := H9
 show CM Tryz.prog 19 _ _ _ _ [(0, .slice A2 x0.length c3), (3, .int .i64 ((k6 : Nat) : Int))] []
 refine CM_seq (sr (wm (wm ?_)))
 refine wv (vlen underlying91) ?_
 refine wv vlss ?_
 refine nt' ?_
 by_cases hl10 : k6 < x0.length
 ·have g11 : (decide (((k6 : Nat) : Int) < ((x0.length : Nat) : Int))) = true := decide_eq_true (by omega)
  refine CM_condT rfl g11 ?_
  refine CM_skip (QM_then (CM_seq (CM_block (sr (wm (wm ?_))))))
  obtain ⟨a12, rfl, hb13, he14⟩ := q4 (by omega)
  refine wv (vix 2 k6 underlying91 type138) ?_
  obtain ⟨_, e18, hc15⟩ := he14 k6 _ (gt_some (show k6 < x0.length from by omega))
  obtain ⟨v16, rfl, r17⟩ := tyRow_rd e18
  have r23 := r17
  obtain ⟨m19, A20, c21, rfl, q22⟩ := r17
  refine wv (fun W hm => rv_loadN (cs := [.int .i64 ((gt x0 k6).Id), .slice A20 ((gt x0 k6).Values).length c21]) underlying138 type138 rfl rfl (hm.elCells (show (a12.add (k6 * 2)).block < w.heap.size from by rw [add_block]; exact hb13.1) hc15)) ?_
  refine wcv (cl_fn cb97 rfl) (fun W hm => spec_IsRow_c W _ (gt x0 k6) (tyRow_mk (x := (gt x0 k6)) (hm.rdS0 r23))) ?_
  refine wv vnot ?_
  refine nt' ?_
  rcases Bool.eq_false_or_eq_true (spec_IsRow_m (gt x0 k6)) with g25 | g25
  ·
   refine CM_condF rfl (nt g25) ?_
   refine CM_skip (QM_block_normal (QM_then (CM_region (wm ?_))))
   refine wv (vadN k6 1 (by omega)) ?_
   refine wa (WM_nil ?_)
   have hn26 := rng_next (R := Bool) (body := F1) (k := k6) (s := ()) (s' := ()) (show k6 < x0.length from by omega) (show spec_l9List_b1 x0 k6 = Sum.inr () from by unfold spec_l9List_b1; exact cond_t g25 (rfl)) hF8
   exact QM_round (k6 + 1, (), ()) sl2 (fun W hm => hm) ⟨(by omega), hn26⟩ (rl (by omega))
  ·
   refine CM_condT rfl (nf g25) ?_
   refine sr (wa (nt' (CM_ret (QM_block_ret (QM_then_ret (QM_then_ret (QM_block_ret (QM_then_ret ?_))))))))
   exact rtb (h := by unfold spec_l9List_m; exact fin_inl (rng_ret (body := F1) (k := k6) (s := ()) (show k6 < x0.length from by omega) (show spec_l9List_b1 x0 k6 = Sum.inl false from by unfold spec_l9List_b1; exact cond_f g25 (rfl)) hF8) rfl)
 ·have g11 : (decide (((k6 : Nat) : Int) < ((x0.length : Nat) : Int))) = false := decide_eq_false (by omega)
  refine CM_condF rfl g11 ?_
  refine CM_exit (QM_then_exit (QM_then_exit ?_))
  have hE27 : R2 (x0.length - 0) 0 () = Sum.inr () := rng_end hl10 hF8
  refine QM_block_hit (QM_then (sr (wm ?_)))
  refine wv (vlen underlying91) ?_
  refine wv (fun W hm => rv_leq rfl rfl) ?_
  refine wa (nt' (CM_ret ?_))
  exact rtb (h := by unfold spec_l9List_m; exact fin_inr hE27 (rfl))

def spec_l9Active_m (x0 : DEngine) (x1 : DActive) : Bool :=
 cond (spec_IsQuery_m x1.Query) (cond (spec_l1In_m x1.Time 0 x0.Store.Now) (cond (spec_l9Todo_m x1.Todo ((x0.Store.Segments.length : Nat) : Int)) (cond (spec_l1In_m x1.Age 0 100000) (cond (spec_l1In_m x1.Sent 0 1000) (cond (spec_l1In_m x1.Cap 0 32) (spec_l9List_m x1.Rows) false) false) false) false) false) false
theorem cb67 : Cb Tryz.prog 67 := ⟨f67, _, func67, rfl, by decide⟩
theorem spec_l9Active_c (w : World) (z0 : List Value) (x0 : DEngine) (z1 : List Value) (x1 : DActive) (r_0 : tyEngine.rd w w.heap.size z0 x0) (r_1 : tyActive.rd w w.heap.size z1 x1) :
  Calls Tryz.prog 67 #[.agg z0.toArray, .agg z1.toArray] w fun e w' => e = .returned (.bool (spec_l9Active_m x0 x1)) ∧ Below w.heap.size w w' := by
 obtain ⟨v1, v3, v5, v7, v9, rfl, r2, r4, r6, r8, r10⟩ := tyEngine_rd r_0
 have r15 := r2
 obtain ⟨m11, A12, c13, rfl, q14⟩ := r2
 have r20 := r4
 obtain ⟨m16, A17, c18, rfl, q19⟩ := r4
 have r25 := r6
 obtain ⟨m21, A22, c23, rfl, q24⟩ := r6
 have r30 := r8
 obtain ⟨m26, A27, c28, rfl, q29⟩ := r8
 have r35 := r10
 obtain ⟨m31, A32, c33, rfl, q34⟩ := r10
 obtain ⟨v36, v38, v40, v42, rfl, r37, r39, r41, r43⟩ := tyActive_rd r_1
 have r48 := r37
 obtain ⟨m44, A45, c46, rfl, q47⟩ := r37
 have r53 := r39
 obtain ⟨m49, A50, c51, rfl, q52⟩ := r39
 have r58 := r41
 obtain ⟨m54, A55, c56, rfl, q57⟩ := r41
 have r63 := r43
 obtain ⟨m59, A60, c61, rfl, q62⟩ := r43
 refine ce2 (L := [(0, .agg #[.slice A12 x0.Store.Segments.length c13, .int .i64 x0.Store.Now, .int .i64 x0.Cursor, .slice A17 x0.Order.length c18, .slice A22 x0.Active.length c23, .slice A27 x0.Done.length c28, .slice A32 x0.Ledger.length c33, .int .i64 x0.Steps]), (1, .agg #[.int .i64 x1.Query.Id, .int .i64 x1.Query.Tenant, .slice A45 x1.Query.Conds.length c46, .slice A50 x1.Query.Out.length c51, .int .i64 x1.Time, .slice A55 x1.Todo.length c56, .int .i64 x1.Age, .int .i64 x1.Sent, .int .i64 x1.Cap, .slice A60 x1.Rows.length c61])]) (N := 45) func67 ?_
 refine sr ?_
 refine WM_box rfl (Wd_none rfl) (by decide) (fun p64 => ?_)
 refine WM_box rfl (Wd_none rfl) (by decide) (fun p65 => ?_)
 refine wa (nt' (sr ?_))
 refine wv (vf underlying93 rfl type48) ?_
 refine wv (fun W hm => rv_loadN (cs := [.int .i64 x1.Query.Id, .int .i64 x1.Query.Tenant, .slice A45 x1.Query.Conds.length c46, .slice A50 x1.Query.Out.length c51]) underlying48 type48 rfl rfl (hm.boxPart (n := 0) rfl rfl)) ?_
 refine wcv (cl_fn cb40 rfl) (fun W hm => spec_IsQuery_c W _ x1.Query (tyQuery_mk (x := x1.Query) (hm.rdS0 r48) (hm.rdS0 r53))) ?_
 refine wm ?_
 rcases Bool.eq_false_or_eq_true (spec_IsQuery_m x1.Query) with g67 | g67
 ·
  refine wg (vf underlying93 rfl type3) g67 ?_
  refine wg (vl 0 4 underlying3) g67 ?_
  refine wg (vf underlying44 rfl type39) g67 ?_
  refine wg (fun W hm => rv_fieldA (o := 1) underlying39 rfl type3 (by decide) rfl rfl) g67 ?_
  refine wg (vl 1 1 underlying3) g67 ?_
  refine WM_callV (cl_fn cb41 rfl) (fun W hm => spec_l1In_c W x1.Time 0 x0.Store.Now) (Wd_some rfl rfl rfl (bw g67 rfl)) (by decide) ?_
  refine wv (vpT g67) ?_
  refine wm ?_
  rcases Bool.eq_false_or_eq_true (spec_l1In_m x1.Time 0 x0.Store.Now) with g69 | g69
  ·
   have hw := spec_l1In_fact g69
   refine wg (vf underlying93 rfl type25) g69 ?_
   refine wg (vl 0 5 underlying25) g69 ?_
   refine wg (vf underlying44 rfl type39) g69 ?_
   refine wg (fun W hm => rv_fieldA (o := 0) underlying39 rfl type37 (by decide) rfl rfl) g69 ?_
   refine wg (vl 1 0 underlying37) g69 ?_
   refine wg (vlen underlying37) g69 ?_
   refine WM_callV (cl_fn cb96 rfl) (fun W hm => spec_l9Todo_c W _ x1.Todo ((x0.Store.Segments.length : Nat) : Int) (hm.rdS0 r58)) (Wd_some rfl rfl rfl (bw g69 rfl)) (by decide) ?_
   refine wv (vpT g69) ?_
   refine wm ?_
   rcases Bool.eq_false_or_eq_true (spec_l9Todo_m x1.Todo ((x0.Store.Segments.length : Nat) : Int)) with g71 | g71
   ·
    refine wg (vf underlying93 rfl type3) g71 ?_
    refine wg (vl 0 6 underlying3) g71 ?_
    refine WM_callV (cl_fn cb41 rfl) (fun W hm => spec_l1In_c W x1.Age 0 100000) (Wd_some rfl rfl rfl (bw g71 rfl)) (by decide) ?_
    refine wv (vpT g71) ?_
    refine wm ?_
    rcases Bool.eq_false_or_eq_true (spec_l1In_m x1.Age 0 100000) with g73 | g73
    ·
     have hw := spec_l1In_fact g73
     refine wg (vf underlying93 rfl type3) g73 ?_
     refine wg (vl 0 7 underlying3) g73 ?_
     refine WM_callV (cl_fn cb41 rfl) (fun W hm => spec_l1In_c W x1.Sent 0 1000) (Wd_some rfl rfl rfl (bw g73 rfl)) (by decide) ?_
     refine wv (vpT g73) ?_
     refine wm ?_
     rcases Bool.eq_false_or_eq_true (spec_l1In_m x1.Sent 0 1000) with g75 | g75
     ·
      have hw := spec_l1In_fact g75
      refine wg (vf underlying93 rfl type3) g75 ?_
      refine wg (vl 0 8 underlying3) g75 ?_
      refine WM_callV (cl_fn cb41 rfl) (fun W hm => spec_l1In_c W x1.Cap 0 32) (Wd_some rfl rfl rfl (bw g75 rfl)) (by decide) ?_
      refine wv (vpT g75) ?_
      refine wm ?_
      rcases Bool.eq_false_or_eq_true (spec_l1In_m x1.Cap 0 32) with g77 | g77
      ·
       have hw := spec_l1In_fact g77
       refine wg (vf underlying93 rfl type91) g77 ?_
       refine wg (vl 0 9 underlying91) g77 ?_
       refine WM_callV (cl_fn cb68 rfl) (fun W hm => spec_l9List_c W _ x1.Rows (hm.rdS0 r63)) (Wd_some rfl rfl rfl (bw g77 rfl)) (by decide) ?_
       refine wv (vpT g77) ?_
       refine wa (nt' (CM_ret ?_))
       exact rtb (h := by unfold spec_l9Active_m; exact cond_t g67 (cond_t g69 (cond_t g71 (cond_t g73 (cond_t g75 (cond_t g77 (rfl)))))))
      ·
       refine ws g77 ?_
       refine ws g77 ?_
       refine ws g77 ?_
       refine wv (vpF g77) ?_
       refine wa (nt' (CM_ret ?_))
       exact rtb (h := by unfold spec_l9Active_m; exact cond_t g67 (cond_t g69 (cond_t g71 (cond_t g73 (cond_t g75 (cond_f g77 (rfl)))))))
     ·
      refine ws g75 ?_
      refine ws g75 ?_
      refine ws g75 ?_
      refine wv (vpF g75) ?_
      refine wm ?_
      refine wk ?_
      refine wk ?_
      refine wk ?_
      refine wv (vpF rfl) ?_
      refine wa (nt' (CM_ret ?_))
      exact rtb (h := by unfold spec_l9Active_m; exact cond_t g67 (cond_t g69 (cond_t g71 (cond_t g73 (cond_f g75 (rfl))))))
    ·
     refine ws g73 ?_
     refine ws g73 ?_
     refine ws g73 ?_
     refine wv (vpF g73) ?_
     refine wm ?_
     refine wk ?_
     refine wk ?_
     refine wk ?_
     refine wv (vpF rfl) ?_
     refine wm ?_
     refine wk ?_
     refine wk ?_
     refine wk ?_
     refine wv (vpF rfl) ?_
     refine wa (nt' (CM_ret ?_))
     exact rtb (h := by unfold spec_l9Active_m; exact cond_t g67 (cond_t g69 (cond_t g71 (cond_f g73 (rfl)))))
   ·
    refine ws g71 ?_
    refine ws g71 ?_
    refine ws g71 ?_
    refine wv (vpF g71) ?_
    refine wm ?_
    refine wk ?_
    refine wk ?_
    refine wk ?_
    refine wv (vpF rfl) ?_
    refine wm ?_
    refine wk ?_
    refine wk ?_
    refine wk ?_
    refine wv (vpF rfl) ?_
    refine wm ?_
    refine wk ?_
    refine wk ?_
    refine wk ?_
    refine wv (vpF rfl) ?_
    refine wa (nt' (CM_ret ?_))
    exact rtb (h := by unfold spec_l9Active_m; exact cond_t g67 (cond_t g69 (cond_f g71 (rfl))))
  ·
   refine ws g69 ?_
   refine ws g69 ?_
   refine ws g69 ?_
   refine ws g69 ?_
   refine ws g69 ?_
   refine ws g69 ?_
   refine ws g69 ?_
   refine wv (vpF g69) ?_
   refine wm ?_
   refine wk ?_
   refine wk ?_
   refine wk ?_
   refine wv (vpF rfl) ?_
   refine wm ?_
   refine wk ?_
   refine wk ?_
   refine wk ?_
   refine wv (vpF rfl) ?_
   refine wm ?_
   refine wk ?_
   refine wk ?_
   refine wk ?_
   refine wv (vpF rfl) ?_
   refine wm ?_
   refine wk ?_
   refine wk ?_
   refine wk ?_
   refine wv (vpF rfl) ?_
   refine wa (nt' (CM_ret ?_))
   exact rtb (h := by unfold spec_l9Active_m; exact cond_t g67 (cond_f g69 (rfl)))
 ·
  refine ws g67 ?_
  refine ws g67 ?_
  refine ws g67 ?_
  refine ws g67 ?_
  refine ws g67 ?_
  refine ws g67 ?_
  refine wv (vpF g67) ?_
  refine wm ?_
  refine wk ?_
  refine wk ?_
  refine wk ?_
  refine wk ?_
  refine wk ?_
  refine wk ?_
  refine wk ?_
  refine wv (vpF rfl) ?_
  refine wm ?_
  refine wk ?_
  refine wk ?_
  refine wk ?_
  refine wv (vpF rfl) ?_
  refine wm ?_
  refine wk ?_
  refine wk ?_
  refine wk ?_
  refine wv (vpF rfl) ?_
  refine wm ?_
  refine wk ?_
  refine wk ?_
  refine wk ?_
  refine wv (vpF rfl) ?_
  refine wm ?_
  refine wk ?_
  refine wk ?_
  refine wk ?_
  refine wv (vpF rfl) ?_
  refine wa (nt' (CM_ret ?_))
  exact rtb (h := by unfold spec_l9Active_m; exact cond_f g67 (rfl))

def spec_IsSet_b1 (x0 : (List Int)) (k6 : Nat) : Bool ⊕ (Unit) :=
 cond (spec_l1In_m (gt x0 k6) 0 23) (cond (decide (0 < ((k6 : Nat) : Int))) (cond (decide ((gt x0 k6) ≤ (gt x0 (k6 - 1)))) (Sum.inl false) (Sum.inr ())) (Sum.inr ())) (Sum.inl false)
def spec_IsSet_m (x0 : (List Int)) : Bool :=
 Sum.elim id (fun (s : Unit) => true) (rng (R := Bool) (fun k (_ : Unit) => spec_IsSet_b1 x0 k) (x0.length - 0) 0 ())
theorem cb98 : Cb Tryz.prog 98 := ⟨f98, _, func98, rfl, by decide⟩
theorem spec_IsSet_c (w : World) (z0 : Value) (x0 : (List Int)) (r_0 : rdS tInt w w.heap.size z0 x0) :
  Calls Tryz.prog 98 #[z0] w fun e w' => e = .returned (.bool (spec_IsSet_m x0)) ∧ Below w.heap.size w w' := by
 have r5 := r_0
 obtain ⟨m1, A2, c3, rfl, q4⟩ := r_0
 refine ce1 (L := [(0, .slice A2 x0.length c3)]) (N := 32) func98 ?_
 refine sr (wa (nt' (CM_seq (sr (wa (nt' (CM_block ?_)))))))
 let F1 := fun k (_ : Unit) => spec_IsSet_b1 x0 k
 let R2 := rng (R := Bool) F1
 refine CM_loop (σ := Nat × (Unit) × (Unit)) (fun s => [(0, .slice A2 x0.length c3), (3, .int .i64 ((s.1 : Nat) : Int))]) (fun s => []) (fun s => s.1 ≤ x0.length ∧ R2 (x0.length - s.1) s.1 s.2.1 = R2 (x0.length - 0) 0 ()) (fun s => x0.length - s.1) (0, (), ()) sl2 (fun W hm => hm) ⟨(by omega), rfl⟩ ?_
 rintro ⟨k6, ⟨⟩, ⟨⟩⟩ H9
 obtain ⟨hk7, hF8⟩ : k6 ≤ x0.length ∧ R2 (x0.length - k6) k6 () = R2 (x0.length - 0) 0 () := H9
 show CM Tryz.prog 32 _ _ _ _ [(0, .slice A2 x0.length c3), (3, .int .i64 ((k6 : Nat) : Int))] []
 refine CM_seq (sr (wm (wm ?_)))
 refine wv (vlen underlying25) ?_
 refine wv vlss ?_
 refine nt' ?_
 by_cases hl10 : k6 < x0.length
 ·have g11 : (decide (((k6 : Nat) : Int) < ((x0.length : Nat) : Int))) = true := decide_eq_true (by omega)
  refine CM_condT rfl g11 ?_
  refine CM_skip (QM_then (CM_seq (CM_block (CM_seq ?_))))
  refine CM_regionD (by kernel_rfl) (by kernel_rfl) ?_
  refine qm (qm ?_)
  obtain ⟨a12, rfl, hb13, he14⟩ := q4 (by omega)
  refine qv (vix 1 k6 underlying25 type3) ?_
  refine qv (fun W hm => rv_load underlying3 rfl rfl ((hm.cell0 (show (a12.add (k6 * 1)).block < w.heap.size from by rw [add_block]; exact hb13.1)).trans (rdS_int he14 k6 (by omega)))) ?_
  refine QR_callV (cl_fn cb41 rfl) (fun W hm => spec_l1In_c W (gt x0 k6) 0 23) (Wd_none rfl) (by decide) ?_
  refine qv vnot ?_
  refine qm ?_
  rcases Bool.eq_false_or_eq_true (spec_l1In_m (gt x0 k6) 0 23) with g16 | g16
  ·
   have hw := spec_l1In_fact g16
   refine qg vmv (nt g16) ?_
   refine qg (fun W hm => rv_gtr rfl rfl) (nt g16) ?_
   refine qg vmv (nt g16) ?_
   by_cases h17 : 0 < ((k6 : Nat) : Int)
   ·have g18 : (decide (0 < ((k6 : Nat) : Int))) = true := decide_eq_true h17
    refine qg vmv g18 ?_
    refine qg vmv g18 ?_
    refine qg (vix 1 k6 underlying25 type3) g18 ?_
    refine qg (fun W hm => rv_load underlying3 rfl rfl ((hm.cell0 (show (a12.add (k6 * 1)).block < w.heap.size from by rw [add_block]; exact hb13.1)).trans (rdS_int he14 k6 (by omega)))) g18 ?_
    refine qg vmv g18 ?_
    refine qg vmv g18 ?_
    refine qg (fun W hm => rv_subN (p := k6) (q := 1) rfl rfl (by omega) (by omega)) g18 ?_
    refine qg (fun W hm => rv_index (sz := 1) (k := k6 - 1) underlying25 type3 rfl rfl rfl (by omega)) g18 ?_
    refine qg (fun W hm => rv_load underlying3 rfl rfl ((hm.cell0 (show (a12.add ((k6 - 1) * 1)).block < w.heap.size from by rw [add_block]; exact hb13.1)).trans (rdS_int he14 (k6 - 1) (by omega)))) g18 ?_
    refine qg (fun W hm => rv_leq rfl rfl) g18 ?_
    refine qg (vpT g18) (nt g16) ?_
    refine qv (vpF (nt g16)) ?_
    refine nq' ?_
    by_cases h19 : (gt x0 k6) ≤ (gt x0 (k6 - 1))
    ·have g20 : (decide ((gt x0 k6) ≤ (gt x0 (k6 - 1)))) = true := decide_eq_true h19
     refine CM_condT rfl g20 ?_
     refine sr (wa (nt' (CM_ret (QM_block_ret (QM_then_ret (QM_then_ret (QM_block_ret (QM_then_ret ?_))))))))
     exact rtb (h := by unfold spec_IsSet_m; exact fin_inl (rng_ret (body := F1) (k := k6) (s := ()) (show k6 < x0.length from by omega) (show spec_IsSet_b1 x0 k6 = Sum.inl false from by unfold spec_IsSet_b1; exact cond_t g16 (cond_t g18 (cond_t g20 (rfl)))) hF8) rfl)
    ·have g20 : (decide ((gt x0 k6) ≤ (gt x0 (k6 - 1)))) = false := decide_eq_false h19
     refine CM_condF rfl g20 ?_
     refine CM_skip (QM_block_normal (QM_then (CM_region (wm ?_))))
     refine wv (vadN k6 1 (by omega)) ?_
     refine wa (WM_nil ?_)
     have hn21 := rng_next (R := Bool) (body := F1) (k := k6) (s := ()) (s' := ()) (show k6 < x0.length from by omega) (show spec_IsSet_b1 x0 k6 = Sum.inr () from by unfold spec_IsSet_b1; exact cond_t g16 (cond_t g18 (cond_f g20 (rfl)))) hF8
     exact QM_round (k6 + 1, (), ()) sl2 (fun W hm => hm) ⟨(by omega), hn21⟩ (rl (by omega))
   ·have g18 : (decide (0 < ((k6 : Nat) : Int))) = false := decide_eq_false h17
    refine qs g18 ?_
    refine qs g18 ?_
    refine qs g18 ?_
    refine qs g18 ?_
    refine qs g18 ?_
    refine qs g18 ?_
    refine qs g18 ?_
    refine qs g18 ?_
    refine qs g18 ?_
    refine qs g18 ?_
    refine qg (vpF g18) (nt g16) ?_
    refine qv (vpF (nt g16)) ?_
    refine nq' ?_
    refine CM_condF rfl rfl ?_
    refine CM_skip (QM_block_normal (QM_then (CM_region (wm ?_))))
    refine wv (vadN k6 1 (by omega)) ?_
    refine wa (WM_nil ?_)
    have hn22 := rng_next (R := Bool) (body := F1) (k := k6) (s := ()) (s' := ()) (show k6 < x0.length from by omega) (show spec_IsSet_b1 x0 k6 = Sum.inr () from by unfold spec_IsSet_b1; exact cond_t g16 (cond_f g18 (rfl))) hF8
    exact QM_round (k6 + 1, (), ()) sl2 (fun W hm => hm) ⟨(by omega), hn22⟩ (rl (by omega))
  ·
   refine qs (nf g16) ?_
   refine qs (nf g16) ?_
   refine qs (nf g16) ?_
   refine qu ?_
   refine qu ?_
   refine qu ?_
   refine qu ?_
   refine qu ?_
   refine qu ?_
   refine qu ?_
   refine qu ?_
   refine qu ?_
   refine qu ?_
   refine qs (nf g16) ?_
   refine qv (vpT (nf g16)) ?_
   refine nq' ?_
   refine CM_condT rfl rfl ?_
   refine sr (wa (nt' (CM_ret (QM_block_ret (QM_then_ret (QM_then_ret (QM_block_ret (QM_then_ret ?_))))))))
   exact rtb (h := by unfold spec_IsSet_m; exact fin_inl (rng_ret (body := F1) (k := k6) (s := ()) (show k6 < x0.length from by omega) (show spec_IsSet_b1 x0 k6 = Sum.inl false from by unfold spec_IsSet_b1; exact cond_f g16 (rfl)) hF8) rfl)
 ·have g11 : (decide (((k6 : Nat) : Int) < ((x0.length : Nat) : Int))) = false := decide_eq_false (by omega)
  refine CM_condF rfl g11 ?_
  refine CM_exit (QM_then_exit (QM_then_exit ?_))
  have hE23 : R2 (x0.length - 0) 0 () = Sum.inr () := rng_end hl10 hF8
  refine QM_block_hit (QM_then (sr (wa (nt' (CM_ret ?_)))))
  exact rtb (h := by unfold spec_IsSet_m; exact fin_inr hE23 (rfl))

def spec_IsCharge_b1 (x0 : DCharge) (k37 : Nat) : Bool ⊕ (Unit) :=
 cond (spec_l1In_m (gt x0.Tenants k37) 0 3) (cond (spec_l1In_m (gt x0.Rows k37) 0 x0.Base) (Sum.inr ()) (Sum.inl false)) (Sum.inl false)
def spec_IsCharge_m (x0 : DCharge) : Bool :=
 cond (spec_IsSet_m x0.Ids) (cond (((x0.Ids.length : Nat) : Int) == 0) false (cond (decide (8 < ((x0.Ids.length : Nat) : Int))) false (cond (((x0.Tenants.length : Nat) : Int) != ((x0.Ids.length : Nat) : Int)) false (cond (((x0.Rows.length : Nat) : Int) != ((x0.Ids.length : Nat) : Int)) false (cond (spec_l1In_m x0.Segment 0 7) (cond (spec_l1In_m x0.Base 0 4) (Sum.elim id (fun (s : Unit) => true) (rng (R := Bool) (fun k (_ : Unit) => spec_IsCharge_b1 x0 k) (x0.Ids.length - 0) 0 ())) false) false))))) false
theorem cb69 : Cb Tryz.prog 69 := ⟨f69, _, func69, rfl, by decide⟩
theorem spec_IsCharge_c (w : World) (z0 : List Value) (x0 : DCharge) (r_0 : tyCharge.rd w w.heap.size z0 x0) :
  Calls Tryz.prog 69 #[.agg z0.toArray] w fun e w' => e = .returned (.bool (spec_IsCharge_m x0)) ∧ Below w.heap.size w w' := by
 obtain ⟨v1, v3, v5, rfl, r2, r4, r6⟩ := tyCharge_rd r_0
 have r11 := r2
 obtain ⟨m7, A8, c9, rfl, q10⟩ := r2
 have r16 := r4
 obtain ⟨m12, A13, c14, rfl, q15⟩ := r4
 have r21 := r6
 obtain ⟨m17, A18, c19, rfl, q20⟩ := r6
 refine ce1 (L := [(0, .agg #[.int .i64 x0.Segment, .int .i64 x0.Base, .slice A8 x0.Ids.length c9, .slice A13 x0.Tenants.length c14, .slice A18 x0.Rows.length c19])]) (N := 69) func69 ?_
 refine sr ?_
 refine WM_box rfl (Wd_none rfl) (by decide) (fun p22 => ?_)
 refine wa (nt' (sr ?_))
 refine wv (vf underlying99 rfl type25) ?_
 refine wv (vl 0 2 underlying25) ?_
 refine wv (vlen underlying25) ?_
 refine wa (nt' (CM_seq (sr ?_)))
 refine wv (vf underlying99 rfl type25) ?_
 refine wv (vl 0 2 underlying25) ?_
 refine wcv (cl_fn cb98 rfl) (fun W hm => spec_IsSet_c W _ x0.Ids (hm.rdS0 r11)) ?_
 refine wv vnot ?_
 refine wm ?_
 rcases Bool.eq_false_or_eq_true (spec_IsSet_m x0.Ids) with g24 | g24
 ·
  refine wg vmv (nt g24) ?_
  refine wg (fun W hm => rv_eql rfl rfl) (nt g24) ?_
  refine wv (vpF (nt g24)) ?_
  refine wm ?_
  by_cases h25 : ((x0.Ids.length : Nat) : Int) = 0
  ·have g26 : (((x0.Ids.length : Nat) : Int) == 0) = true := beq_iff_eq.2 h25
   refine ws g26 ?_
   refine ws g26 ?_
   refine wv (vpT g26) ?_
   refine wm ?_
   refine wk ?_
   refine wk ?_
   refine wk ?_
   refine wk ?_
   refine wk ?_
   refine wv (vpT rfl) ?_
   refine wm ?_
   refine wk ?_
   refine wk ?_
   refine wk ?_
   refine wk ?_
   refine wk ?_
   refine wv (vpT rfl) ?_
   refine wm ?_
   refine wk ?_
   refine wk ?_
   refine wk ?_
   refine wk ?_
   refine wv (vpT rfl) ?_
   refine wm ?_
   refine wk ?_
   refine wk ?_
   refine wk ?_
   refine wk ?_
   refine wv (vpT rfl) ?_
   refine nt' ?_
   refine CM_condT rfl rfl ?_
   refine sr (wa (nt' (CM_ret (QM_then_ret ?_))))
   exact rtb (h := by unfold spec_IsCharge_m; exact cond_t g24 (cond_t g26 (rfl)))
  ·have g26 : (((x0.Ids.length : Nat) : Int) == 0) = false := beq_eq_false_iff_ne.2 h25
   refine wg vmv g26 ?_
   refine wg (fun W hm => rv_gtr rfl rfl) g26 ?_
   refine wv (vpF g26) ?_
   refine wm ?_
   by_cases h27 : 8 < ((x0.Ids.length : Nat) : Int)
   ·have g28 : (decide (8 < ((x0.Ids.length : Nat) : Int))) = true := decide_eq_true h27
    refine ws g28 ?_
    refine ws g28 ?_
    refine ws g28 ?_
    refine ws g28 ?_
    refine ws g28 ?_
    refine wv (vpT g28) ?_
    refine wm ?_
    refine wk ?_
    refine wk ?_
    refine wk ?_
    refine wk ?_
    refine wk ?_
    refine wv (vpT rfl) ?_
    refine wm ?_
    refine wk ?_
    refine wk ?_
    refine wk ?_
    refine wk ?_
    refine wv (vpT rfl) ?_
    refine wm ?_
    refine wk ?_
    refine wk ?_
    refine wk ?_
    refine wk ?_
    refine wv (vpT rfl) ?_
    refine nt' ?_
    refine CM_condT rfl rfl ?_
    refine sr (wa (nt' (CM_ret (QM_then_ret ?_))))
    exact rtb (h := by unfold spec_IsCharge_m; exact cond_t g24 (cond_f g26 (cond_t g28 (rfl))))
   ·have g28 : (decide (8 < ((x0.Ids.length : Nat) : Int))) = false := decide_eq_false h27
    refine wg (vf underlying99 rfl type25) g28 ?_
    refine wg (vl 0 3 underlying25) g28 ?_
    refine wg (vlen underlying25) g28 ?_
    refine wg vmv g28 ?_
    refine wg vneq g28 ?_
    refine wv (vpF g28) ?_
    refine wm ?_
    by_cases h29 : ((x0.Tenants.length : Nat) : Int) = ((x0.Ids.length : Nat) : Int)
    ·have g30 : (((x0.Tenants.length : Nat) : Int) != ((x0.Ids.length : Nat) : Int)) = false := by rw [h29]; exact bne_self_eq_false _
     refine wg (vf underlying99 rfl type25) g30 ?_
     refine wg (vl 0 4 underlying25) g30 ?_
     refine wg (vlen underlying25) g30 ?_
     refine wg vmv g30 ?_
     refine wg vneq g30 ?_
     refine wv (vpF g30) ?_
     refine wm ?_
     by_cases h31 : ((x0.Rows.length : Nat) : Int) = ((x0.Ids.length : Nat) : Int)
     ·have g32 : (((x0.Rows.length : Nat) : Int) != ((x0.Ids.length : Nat) : Int)) = false := by rw [h31]; exact bne_self_eq_false _
      refine wg (vf underlying99 rfl type3) g32 ?_
      refine wg (vl 0 0 underlying3) g32 ?_
      refine WM_callV (cl_fn cb41 rfl) (fun W hm => spec_l1In_c W x0.Segment 0 7) (Wd_some rfl rfl rfl (bw g32 rfl)) (by decide) ?_
      refine wg vnot g32 ?_
      refine wv (vpF g32) ?_
      refine wm ?_
      rcases Bool.eq_false_or_eq_true (spec_l1In_m x0.Segment 0 7) with g34 | g34
      ·
       have hw := spec_l1In_fact g34
       refine wg (vf underlying99 rfl type3) (nt g34) ?_
       refine wg (vl 0 1 underlying3) (nt g34) ?_
       refine WM_callV (cl_fn cb41 rfl) (fun W hm => spec_l1In_c W x0.Base 0 4) (Wd_some rfl rfl rfl (bw (nt g34) rfl)) (by decide) ?_
       refine wg vnot (nt g34) ?_
       refine wv (vpF (nt g34)) ?_
       refine nt' ?_
       rcases Bool.eq_false_or_eq_true (spec_l1In_m x0.Base 0 4) with g36 | g36
       ·
        have hw := spec_l1In_fact g36
        refine CM_condF rfl (nt g36) ?_
        refine CM_skip (QM_then (CM_seq (sr (wa (nt' (CM_block ?_))))))
        let F1 := fun k (_ : Unit) => spec_IsCharge_b1 x0 k
        let R2 := rng (R := Bool) F1
        let K3 : List Value := [.int .i64 x0.Segment, .int .i64 x0.Base, .slice A8 x0.Ids.length c9, .slice A13 x0.Tenants.length c14, .slice A18 x0.Rows.length c19]
        refine CM_loop (σ := Nat × (Unit) × (Unit)) (fun s => [(1, .pointer (some (⟨p22, 0, none⟩ : Addr))), (3, .int .i64 ((x0.Ids.length : Nat) : Int)), (4, .int .i64 ((s.1 : Nat) : Int))]) (fun s => [iBox p22 99 K3]) (fun s => s.1 ≤ x0.Ids.length ∧ R2 (x0.Ids.length - s.1) s.1 s.2.1 = R2 (x0.Ids.length - 0) 0 ()) (fun s => x0.Ids.length - s.1) (0, (), ()) sl3 (fun W hm => hm) ⟨(by omega), rfl⟩ ?_
        rintro ⟨k37, ⟨⟩, ⟨⟩⟩ H40
        obtain ⟨hk38, hF39⟩ : k37 ≤ x0.Ids.length ∧ R2 (x0.Ids.length - k37) k37 () = R2 (x0.Ids.length - 0) 0 () := H40
        show CM Tryz.prog 69 _ _ _ _ [(1, .pointer (some (⟨p22, 0, none⟩ : Addr))), (3, .int .i64 ((x0.Ids.length : Nat) : Int)), (4, .int .i64 ((k37 : Nat) : Int))] [iBox p22 99 K3]
        refine CM_seq (sr (wm (wm ?_)))
        refine wv vlss ?_
        refine nt' ?_
        by_cases hl41 : k37 < x0.Ids.length
        ·have g42 : (decide (((k37 : Nat) : Int) < ((x0.Ids.length : Nat) : Int))) = true := decide_eq_true (by omega)
         refine CM_condT rfl g42 ?_
         refine CM_skip (QM_then (CM_seq (CM_block (CM_seq ?_))))
         refine CM_regionD (by kernel_rfl) (by kernel_rfl) ?_
         refine qv (vf underlying99 rfl type25) ?_
         refine qv (vl 0 3 underlying25) ?_
         refine qm ?_
         obtain ⟨a43, rfl, hb44, he45⟩ := q15 (by omega)
         refine qv (vix 1 k37 underlying25 type3) ?_
         refine qv (fun W hm => rv_load underlying3 rfl rfl ((hm.cell0 (show (a43.add (k37 * 1)).block < w.heap.size from by rw [add_block]; exact hb44.1)).trans (rdS_int he45 k37 (by omega)))) ?_
         refine QR_callV (cl_fn cb41 rfl) (fun W hm => spec_l1In_c W (gt x0.Tenants k37) 0 3) (Wd_none rfl) (by decide) ?_
         refine qv vnot ?_
         refine qm ?_
         rcases Bool.eq_false_or_eq_true (spec_l1In_m (gt x0.Tenants k37) 0 3) with g47 | g47
         ·
          have hw := spec_l1In_fact g47
          refine qg (vf underlying99 rfl type25) (nt g47) ?_
          refine qg (vl 0 4 underlying25) (nt g47) ?_
          refine qg vmv (nt g47) ?_
          obtain ⟨a48, rfl, hb49, he50⟩ := q20 (by omega)
          refine qg (vix 1 k37 underlying25 type3) (nt g47) ?_
          refine qg (fun W hm => rv_load underlying3 rfl rfl ((hm.cell0 (show (a48.add (k37 * 1)).block < w.heap.size from by rw [add_block]; exact hb49.1)).trans (rdS_int he50 k37 (by omega)))) (nt g47) ?_
          refine qg (vf underlying99 rfl type3) (nt g47) ?_
          refine qg (vl 0 1 underlying3) (nt g47) ?_
          refine QR_callV (cl_fn cb41 rfl) (fun W hm => spec_l1In_c W (gt x0.Rows k37) 0 x0.Base) (Wd_some rfl rfl rfl (bw (nt g47) rfl)) (by decide) ?_
          refine qg vnot (nt g47) ?_
          refine qv (vpF (nt g47)) ?_
          refine nq' ?_
          rcases Bool.eq_false_or_eq_true (spec_l1In_m (gt x0.Rows k37) 0 x0.Base) with g52 | g52
          ·
           have hw := spec_l1In_fact g52
           refine CM_condF rfl (nt g52) ?_
           refine CM_skip (QM_block_normal (QM_then (CM_region (wm ?_))))
           refine wv (vadN k37 1 (by omega)) ?_
           refine wa (WM_nil ?_)
           have hn53 := rng_next (R := Bool) (body := F1) (k := k37) (s := ()) (s' := ()) (show k37 < x0.Ids.length from by omega) (show spec_IsCharge_b1 x0 k37 = Sum.inr () from by unfold spec_IsCharge_b1; exact cond_t g47 (cond_t g52 (rfl))) hF39
           exact QM_round (k37 + 1, (), ()) sl3 (fun W hm => hm) ⟨(by omega), hn53⟩ (rl (by omega))
          ·
           refine CM_condT rfl (nf g52) ?_
           refine sr (wa (nt' (CM_ret (QM_block_ret (QM_then_ret (QM_then_ret (QM_block_ret (QM_then_ret ?_))))))))
           exact rtb (h := by unfold spec_IsCharge_m; exact cond_t g24 (cond_f g26 (cond_f g28 (cond_f g30 (cond_f g32 (cond_t g34 (cond_t g36 (fin_inl (rng_ret (body := F1) (k := k37) (s := ()) (show k37 < x0.Ids.length from by omega) (show spec_IsCharge_b1 x0 k37 = Sum.inl false from by unfold spec_IsCharge_b1; exact cond_t g47 (cond_f g52 (rfl))) hF39) rfl))))))))
         ·
          refine qs (nf g47) ?_
          refine qs (nf g47) ?_
          refine qs (nf g47) ?_
          refine qs (nf g47) ?_
          refine qs (nf g47) ?_
          refine qs (nf g47) ?_
          refine qs (nf g47) ?_
          refine qs (nf g47) ?_
          refine qs (nf g47) ?_
          refine qv (vpT (nf g47)) ?_
          refine nq' ?_
          refine CM_condT rfl rfl ?_
          refine sr (wa (nt' (CM_ret (QM_block_ret (QM_then_ret (QM_then_ret (QM_block_ret (QM_then_ret ?_))))))))
          exact rtb (h := by unfold spec_IsCharge_m; exact cond_t g24 (cond_f g26 (cond_f g28 (cond_f g30 (cond_f g32 (cond_t g34 (cond_t g36 (fin_inl (rng_ret (body := F1) (k := k37) (s := ()) (show k37 < x0.Ids.length from by omega) (show spec_IsCharge_b1 x0 k37 = Sum.inl false from by unfold spec_IsCharge_b1; exact cond_f g47 (rfl)) hF39) rfl))))))))
        ·have g42 : (decide (((k37 : Nat) : Int) < ((x0.Ids.length : Nat) : Int))) = false := decide_eq_false (by omega)
         refine CM_condF rfl g42 ?_
         refine CM_exit (QM_then_exit (QM_then_exit ?_))
         have hE54 : R2 (x0.Ids.length - 0) 0 () = Sum.inr () := rng_end hl41 hF39
         refine QM_block_hit (QM_then (sr (wa (nt' (CM_ret ?_)))))
         exact rtb (h := by unfold spec_IsCharge_m; exact cond_t g24 (cond_f g26 (cond_f g28 (cond_f g30 (cond_f g32 (cond_t g34 (cond_t g36 (fin_inr hE54 (rfl)))))))))
       ·
        refine CM_condT rfl (nf g36) ?_
        refine sr (wa (nt' (CM_ret (QM_then_ret ?_))))
        exact rtb (h := by unfold spec_IsCharge_m; exact cond_t g24 (cond_f g26 (cond_f g28 (cond_f g30 (cond_f g32 (cond_t g34 (cond_f g36 (rfl))))))))
      ·
       refine ws (nf g34) ?_
       refine ws (nf g34) ?_
       refine ws (nf g34) ?_
       refine ws (nf g34) ?_
       refine wv (vpT (nf g34)) ?_
       refine nt' ?_
       refine CM_condT rfl rfl ?_
       refine sr (wa (nt' (CM_ret (QM_then_ret ?_))))
       exact rtb (h := by unfold spec_IsCharge_m; exact cond_t g24 (cond_f g26 (cond_f g28 (cond_f g30 (cond_f g32 (cond_f g34 (rfl)))))))
     ·have g32 : (((x0.Rows.length : Nat) : Int) != ((x0.Ids.length : Nat) : Int)) = true := bne_iff_ne.2 h31
      refine ws g32 ?_
      refine ws g32 ?_
      refine ws g32 ?_
      refine ws g32 ?_
      refine wv (vpT g32) ?_
      refine wm ?_
      refine wk ?_
      refine wk ?_
      refine wk ?_
      refine wk ?_
      refine wv (vpT rfl) ?_
      refine nt' ?_
      refine CM_condT rfl rfl ?_
      refine sr (wa (nt' (CM_ret (QM_then_ret ?_))))
      exact rtb (h := by unfold spec_IsCharge_m; exact cond_t g24 (cond_f g26 (cond_f g28 (cond_f g30 (cond_t g32 (rfl))))))
    ·have g30 : (((x0.Tenants.length : Nat) : Int) != ((x0.Ids.length : Nat) : Int)) = true := bne_iff_ne.2 h29
     refine ws g30 ?_
     refine ws g30 ?_
     refine ws g30 ?_
     refine ws g30 ?_
     refine ws g30 ?_
     refine wv (vpT g30) ?_
     refine wm ?_
     refine wk ?_
     refine wk ?_
     refine wk ?_
     refine wk ?_
     refine wv (vpT rfl) ?_
     refine wm ?_
     refine wk ?_
     refine wk ?_
     refine wk ?_
     refine wk ?_
     refine wv (vpT rfl) ?_
     refine nt' ?_
     refine CM_condT rfl rfl ?_
     refine sr (wa (nt' (CM_ret (QM_then_ret ?_))))
     exact rtb (h := by unfold spec_IsCharge_m; exact cond_t g24 (cond_f g26 (cond_f g28 (cond_t g30 (rfl)))))
 ·
  refine ws (nf g24) ?_
  refine ws (nf g24) ?_
  refine wv (vpT (nf g24)) ?_
  refine wm ?_
  refine wk ?_
  refine wk ?_
  refine wv (vpT rfl) ?_
  refine wm ?_
  refine wk ?_
  refine wk ?_
  refine wk ?_
  refine wk ?_
  refine wk ?_
  refine wv (vpT rfl) ?_
  refine wm ?_
  refine wk ?_
  refine wk ?_
  refine wk ?_
  refine wk ?_
  refine wk ?_
  refine wv (vpT rfl) ?_
  refine wm ?_
  refine wk ?_
  refine wk ?_
  refine wk ?_
  refine wk ?_
  refine wv (vpT rfl) ?_
  refine wm ?_
  refine wk ?_
  refine wk ?_
  refine wk ?_
  refine wk ?_
  refine wv (vpT rfl) ?_
  refine nt' ?_
  refine CM_condT rfl rfl ?_
  refine sr (wa (nt' (CM_ret (QM_then_ret ?_))))
  exact rtb (h := by unfold spec_IsCharge_m; exact cond_f g24 (rfl))

theorem spec_IsCharge_fact {x : DCharge} (h : spec_IsCharge_m x = true) : 1 ≤ x.Ids.length ∧ x.Tenants.length = x.Ids.length ∧ x.Rows.length = x.Ids.length := by
  unfold spec_IsCharge_m at h
  cases h1 : spec_IsSet_m x.Ids <;> rw [h1] at h
  · cases h
  by_cases h2 : ((x.Ids.length : Nat) : Int) = 0
  · rw [beq_iff_eq.2 h2] at h
    cases h
  · by_cases h3 : ((x.Tenants.length : Nat) : Int) = ((x.Ids.length : Nat) : Int)
    · by_cases h4 : ((x.Rows.length : Nat) : Int) = ((x.Ids.length : Nat) : Int)
      · omega
      · rw [bne_iff_ne.2 h4] at h
        revert h
        cases (((x.Ids.length : Nat) : Int) == 0) <;> cases decide (8 < ((x.Ids.length : Nat) : Int)) <;> cases (((x.Tenants.length : Nat) : Int) != ((x.Ids.length : Nat) : Int)) <;> intro h <;> cases h
    · rw [bne_iff_ne.2 h3] at h
      revert h
      cases (((x.Ids.length : Nat) : Int) == 0) <;> cases decide (8 < ((x.Ids.length : Nat) : Int)) <;> intro h <;> cases h

end Go.Proofs.YtlnblljlkeokjaaGreat
