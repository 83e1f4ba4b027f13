/-
  Contracts of functions, printed by a program of ours.
-/
import Derived.Test.YtlnblljlkeokjaaGreatL3F3
namespace Go.Proofs.YtlnblljlkeokjaaGreat
open Go.RowKit
set_option maxRecDepth 100000
set_option maxHeartbeats 4000000
open _root_.Go.Proofs.Tryz
def impl_copyCharge_m (x0 : DCharge) : DCharge :=
 x0
theorem cb78 : Cb Tryz.prog 78 := ⟨f78, _, func78, rfl, by decide⟩
theorem impl_copyCharge_c (w : World) (z0 : List Value) (x0 : DCharge) (r_0 : tyCharge.rd w w.heap.size z0 x0) (s_0 : smCharge 68719476736 x0) :
  Calls Tryz.prog 78 #[.agg z0.toArray] w fun e w' => ∃ v : List Value, e = .returned (.agg v.toArray) ∧ Mem w.heap.size w [iOwn tyCharge v (impl_copyCharge_m x0)] w' := by
 obtain ⟨v1, v3, v5, rfl, r2, r4, r6⟩ := tyCharge_rd r_0
 have r11 := r2
 obtain ⟨m7, A8, c9, rfl, q10⟩ := r2
 have r16 := r4
 obtain ⟨m12, A13, c14, rfl, q15⟩ := r4
 have r21 := r6
 obtain ⟨m17, A18, c19, rfl, q20⟩ := r6
 have l22 : x0.Ids.length ≤ 68719476736 := s_0.1
 have l23 : x0.Tenants.length ≤ 68719476736 := s_0.2.1
 have l24 : x0.Rows.length ≤ 68719476736 := s_0.2.2
 refine ce1 (L := [(0, .agg #[.int .i64 x0.Segment, .int .i64 x0.Base, .slice A8 x0.Ids.length c9, .slice A13 x0.Tenants.length c14, .slice A18 x0.Rows.length c19])]) (N := 16) func78 ?_
 refine sr ?_
 refine WM_box rfl (Wd_none rfl) (by decide) (fun p25 => ?_)
 refine WM_alloc type99 rfl (Wd_none rfl) (by decide) (fun p26 => ?_)
 refine nt' (CM_seq ?_)
 let K1 : List Value := [.int .i64 0, .int .i64 0, .slice none 0 0, .slice none 0 0, .slice none 0 0]
 refine CM_cut (σ := Option Addr × Nat × Option Addr × Nat × Option Addr × Nat) (fun s => [(1, .pointer (some (⟨p25, 0, none⟩ : Addr))), (2, .pointer (some (⟨p26, 0, none⟩ : Addr)))]) (fun s => [iBox p25 99 [.int .i64 x0.Segment, .int .i64 x0.Base, .slice s.1 x0.Ids.length s.2.1, .slice s.2.2.1 x0.Tenants.length s.2.2.2.1, .slice s.2.2.2.2.1 x0.Rows.length s.2.2.2.2.2], iOwn (tSl tInt 3) [.slice s.2.2.2.2.1 x0.Rows.length s.2.2.2.2.2] x0.Rows, iOwn (tSl tInt 3) [.slice s.2.2.1 x0.Tenants.length s.2.2.2.1] x0.Tenants, iOwn (tSl tInt 3) [.slice s.1 x0.Ids.length s.2.1] x0.Ids, iBox p26 99 K1]) (fun _ => True) ?_ ?_
 ·
  refine rb 15 (s := [iBox p26 99 K1]) (pk [0]) ?_
  refine qt 15 0 1 rfl (vf underlying99 rfl type25) ?_
  refine qt 15 3 9 rfl (vf underlying99 rfl type25) ?_
  refine qt 15 6 73 rfl (vf underlying99 rfl type25) ?_
  refine qa [1, 4, 7] ?_
  refine qc 15 75 rfl ?_ ?_
  ·
   refine wv (vl 1 2 underlying25) ?_
   refine qn (pk [0]) ?_
   refine qa [2, 4, 7] ?_
   refine qc 15 79 rfl ?_ ?_
   ·
    refine wcl (tSl tInt 3) x0.Ids (cl_fn cb75 rfl) (fun W hm => impl_copyInts_c2 W _ x0.Ids (hm.rdS0 r11) s_0.1) (fun z42 => ?_)
    refine WM_form (n := 0) rfl ?_
    rintro A43 c44 rfl m45
    refine qn (pk [1]) ?_
    let I3 : It := iOwn (tSl tInt 3) [.slice A43 x0.Ids.length c44] x0.Ids
    refine QB_strong (js := [I3, iBox p26 99 K1]) (pk [1]) (pk [0, 1]) ?_
    refine qa [4, 7] ?_
    refine qc 15 95 rfl ?_ ?_
    ·
     refine wv (vl 2 3 underlying25) ?_
     refine qn (pk [0, 1]) ?_
     refine qa [5, 7] ?_
     refine qc 15 127 rfl ?_ ?_
     ·
      refine wcl (tSl tInt 3) x0.Tenants (cl_fn cb75 rfl) (fun W hm => impl_copyInts_c2 W _ x0.Tenants (hm.rdS0 r16) s_0.2.1) (fun z47 => ?_)
      refine WM_form (n := 0) rfl ?_
      rintro A48 c49 rfl m50
      refine qn (pk [1, 2]) ?_
      refine qo 15 7 255 rfl ?_
      refine wv (vl 3 4 underlying25) ?_
      refine qn (pk [1, 2]) ?_
      refine qt 15 9 767 rfl (vf underlying99 rfl type25) ?_
      refine qo 15 8 1023 rfl ?_
      refine wcl (tSl tInt 3) x0.Rows (cl_fn cb75 rfl) (fun W hm => impl_copyInts_c2 W _ x0.Rows (hm.rdS0 r21) s_0.2.2) (fun z52 => ?_)
      refine WM_form (n := 0) rfl ?_
      rintro A53 c54 rfl m55
      refine qn (pk [2, 3]) ?_
      refine qo 15 10 2047 rfl ?_
      let I4 : It := iOwn (tSl tInt 3) [.slice A53 x0.Rows.length c54] x0.Rows
      let I5 : It := iOwn (tSl tInt 3) [.slice A48 x0.Tenants.length c49] x0.Tenants
      refine sb 2 [.int .i64 x0.Segment, .int .i64 x0.Base, .slice A43 x0.Ids.length c44, .slice A13 x0.Tenants.length c14, .slice A18 x0.Rows.length c19] [I4, I5, I3, iBox p26 99 K1] (pk [4, 0, 1, 2, 3]) type25 ?_
      refine qn (pk [3, 4]) ?_
      refine qt 15 11 4095 rfl (vf underlying99 rfl type25) ?_
      refine qo 15 12 8191 rfl ?_
      refine sb 3 [.int .i64 x0.Segment, .int .i64 x0.Base, .slice A43 x0.Ids.length c44, .slice A48 x0.Tenants.length c49, .slice A18 x0.Rows.length c19] [I4, I5, I3, iBox p26 99 K1] (fun W hm => hm) type25 ?_
      refine qn (pk [3, 4]) ?_
      refine qt 15 13 16383 rfl (vf underlying99 rfl type25) ?_
      refine qo 15 14 32767 rfl ?_
      refine sb 4 [.int .i64 x0.Segment, .int .i64 x0.Base, .slice A43 x0.Ids.length c44, .slice A48 x0.Tenants.length c49, .slice A53 x0.Rows.length c54] [I4, I5, I3, iBox p26 99 K1] (fun W hm => hm) type25 ?_
      refine qn (pk [3, 4]) ?_
      refine QB_done (by kernel_rfl) ?_
      exact QM_cut_normal (A43, c44, A48, c49, A53, c54) sl2 (fun W hm => hm) trivial
     refine qc 15 223 rfl ?_ ?_
     ·
      refine wv (vl 2 4 underlying25) ?_
      refine qn (pk [0, 1]) ?_
      refine qt 15 9 735 rfl (vf underlying99 rfl type25) ?_
      refine qo 15 5 767 rfl ?_
      refine wcl (tSl tInt 3) x0.Tenants (cl_fn cb75 rfl) (fun W hm => impl_copyInts_c2 W _ x0.Tenants (hm.rdS0 r16) s_0.2.1) (fun z57 => ?_)
      refine WM_form (n := 0) rfl ?_
      rintro A58 c59 rfl m60
      refine qn (pk [1, 2]) ?_
      refine qo 15 8 1023 rfl ?_
      refine wcl (tSl tInt 3) x0.Rows (cl_fn cb75 rfl) (fun W hm => impl_copyInts_c2 W _ x0.Rows (hm.rdS0 r21) s_0.2.2) (fun z62 => ?_)
      refine WM_form (n := 0) rfl ?_
      rintro A63 c64 rfl m65
      refine qn (pk [2, 3]) ?_
      refine qo 15 10 2047 rfl ?_
      let I6 : It := iOwn (tSl tInt 3) [.slice A63 x0.Rows.length c64] x0.Rows
      let I7 : It := iOwn (tSl tInt 3) [.slice A58 x0.Tenants.length c59] x0.Tenants
      refine sb 2 [.int .i64 x0.Segment, .int .i64 x0.Base, .slice A43 x0.Ids.length c44, .slice A13 x0.Tenants.length c14, .slice A18 x0.Rows.length c19] [I6, I7, I3, iBox p26 99 K1] (pk [4, 0, 1, 2, 3]) type25 ?_
      refine qn (pk [3, 4]) ?_
      refine qt 15 11 4095 rfl (vf underlying99 rfl type25) ?_
      refine qo 15 12 8191 rfl ?_
      refine sb 3 [.int .i64 x0.Segment, .int .i64 x0.Base, .slice A43 x0.Ids.length c44, .slice A58 x0.Tenants.length c59, .slice A18 x0.Rows.length c19] [I6, I7, I3, iBox p26 99 K1] (fun W hm => hm) type25 ?_
      refine qn (pk [3, 4]) ?_
      refine qt 15 13 16383 rfl (vf underlying99 rfl type25) ?_
      refine qo 15 14 32767 rfl ?_
      refine sb 4 [.int .i64 x0.Segment, .int .i64 x0.Base, .slice A43 x0.Ids.length c44, .slice A58 x0.Tenants.length c59, .slice A63 x0.Rows.length c64] [I6, I7, I3, iBox p26 99 K1] (fun W hm => hm) type25 ?_
      refine qn (pk [3, 4]) ?_
      refine QB_done (by kernel_rfl) ?_
      exact QM_cut_normal (A43, c44, A58, c59, A63, c64) sl2 (fun W hm => hm) trivial
     exact QBs_nil
    refine qc 15 207 rfl ?_ ?_
    ·
     refine wv (vl 2 4 underlying25) ?_
     refine qn (pk [0, 1]) ?_
     refine qo 15 4 223 rfl ?_
     refine wv (vl 2 3 underlying25) ?_
     refine qn (pk [0, 1]) ?_
     refine qt 15 9 735 rfl (vf underlying99 rfl type25) ?_
     refine qo 15 5 767 rfl ?_
     refine wcl (tSl tInt 3) x0.Tenants (cl_fn cb75 rfl) (fun W hm => impl_copyInts_c2 W _ x0.Tenants (hm.rdS0 r16) s_0.2.1) (fun z67 => ?_)
     refine WM_form (n := 0) rfl ?_
     rintro A68 c69 rfl m70
     refine qn (pk [1, 2]) ?_
     refine qo 15 8 1023 rfl ?_
     refine wcl (tSl tInt 3) x0.Rows (cl_fn cb75 rfl) (fun W hm => impl_copyInts_c2 W _ x0.Rows (hm.rdS0 r21) s_0.2.2) (fun z72 => ?_)
     refine WM_form (n := 0) rfl ?_
     rintro A73 c74 rfl m75
     refine qn (pk [2, 3]) ?_
     refine qo 15 10 2047 rfl ?_
     let I8 : It := iOwn (tSl tInt 3) [.slice A73 x0.Rows.length c74] x0.Rows
     let I9 : It := iOwn (tSl tInt 3) [.slice A68 x0.Tenants.length c69] x0.Tenants
     refine sb 2 [.int .i64 x0.Segment, .int .i64 x0.Base, .slice A43 x0.Ids.length c44, .slice A13 x0.Tenants.length c14, .slice A18 x0.Rows.length c19] [I8, I9, I3, iBox p26 99 K1] (pk [4, 0, 1, 2, 3]) type25 ?_
     refine qn (pk [3, 4]) ?_
     refine qt 15 11 4095 rfl (vf underlying99 rfl type25) ?_
     refine qo 15 12 8191 rfl ?_
     refine sb 3 [.int .i64 x0.Segment, .int .i64 x0.Base, .slice A43 x0.Ids.length c44, .slice A68 x0.Tenants.length c69, .slice A18 x0.Rows.length c19] [I8, I9, I3, iBox p26 99 K1] (fun W hm => hm) type25 ?_
     refine qn (pk [3, 4]) ?_
     refine qt 15 13 16383 rfl (vf underlying99 rfl type25) ?_
     refine qo 15 14 32767 rfl ?_
     refine sb 4 [.int .i64 x0.Segment, .int .i64 x0.Base, .slice A43 x0.Ids.length c44, .slice A68 x0.Tenants.length c69, .slice A73 x0.Rows.length c74] [I8, I9, I3, iBox p26 99 K1] (fun W hm => hm) type25 ?_
     refine qn (pk [3, 4]) ?_
     refine QB_done (by kernel_rfl) ?_
     exact QM_cut_normal (A43, c44, A68, c69, A73, c74) sl2 (fun W hm => hm) trivial
    exact QBs_nil
   refine qc 15 91 rfl ?_ ?_
   ·
    refine wv (vl 1 3 underlying25) ?_
    refine qn (pk [0]) ?_
    refine qa [2, 7] ?_
    refine qc 15 95 rfl ?_ ?_
    ·
     refine wcl (tSl tInt 3) x0.Ids (cl_fn cb75 rfl) (fun W hm => impl_copyInts_c2 W _ x0.Ids (hm.rdS0 r11) s_0.1) (fun z77 => ?_)
     refine WM_form (n := 0) rfl ?_
     rintro A78 c79 rfl m80
     refine qn (pk [1]) ?_
     let I10 : It := iOwn (tSl tInt 3) [.slice A78 x0.Ids.length c79] x0.Ids
     refine QB_strong (js := [I10, iBox p26 99 K1]) (pk [1]) (pk [0, 1]) ?_
     refine qa [5, 7] ?_
     refine qc 15 127 rfl ?_ ?_
     ·
      refine wcl (tSl tInt 3) x0.Tenants (cl_fn cb75 rfl) (fun W hm => impl_copyInts_c2 W _ x0.Tenants (hm.rdS0 r16) s_0.2.1) (fun z82 => ?_)
      refine WM_form (n := 0) rfl ?_
      rintro A83 c84 rfl m85
      refine qn (pk [1, 2]) ?_
      refine qo 15 7 255 rfl ?_
      refine wv (vl 3 4 underlying25) ?_
      refine qn (pk [1, 2]) ?_
      refine qt 15 9 767 rfl (vf underlying99 rfl type25) ?_
      refine qo 15 8 1023 rfl ?_
      refine wcl (tSl tInt 3) x0.Rows (cl_fn cb75 rfl) (fun W hm => impl_copyInts_c2 W _ x0.Rows (hm.rdS0 r21) s_0.2.2) (fun z87 => ?_)
      refine WM_form (n := 0) rfl ?_
      rintro A88 c89 rfl m90
      refine qn (pk [2, 3]) ?_
      refine qo 15 10 2047 rfl ?_
      let I11 : It := iOwn (tSl tInt 3) [.slice A88 x0.Rows.length c89] x0.Rows
      let I12 : It := iOwn (tSl tInt 3) [.slice A83 x0.Tenants.length c84] x0.Tenants
      refine sb 2 [.int .i64 x0.Segment, .int .i64 x0.Base, .slice A78 x0.Ids.length c79, .slice A13 x0.Tenants.length c14, .slice A18 x0.Rows.length c19] [I11, I12, I10, iBox p26 99 K1] (pk [4, 0, 1, 2, 3]) type25 ?_
      refine qn (pk [3, 4]) ?_
      refine qt 15 11 4095 rfl (vf underlying99 rfl type25) ?_
      refine qo 15 12 8191 rfl ?_
      refine sb 3 [.int .i64 x0.Segment, .int .i64 x0.Base, .slice A78 x0.Ids.length c79, .slice A83 x0.Tenants.length c84, .slice A18 x0.Rows.length c19] [I11, I12, I10, iBox p26 99 K1] (fun W hm => hm) type25 ?_
      refine qn (pk [3, 4]) ?_
      refine qt 15 13 16383 rfl (vf underlying99 rfl type25) ?_
      refine qo 15 14 32767 rfl ?_
      refine sb 4 [.int .i64 x0.Segment, .int .i64 x0.Base, .slice A78 x0.Ids.length c79, .slice A83 x0.Tenants.length c84, .slice A88 x0.Rows.length c89] [I11, I12, I10, iBox p26 99 K1] (fun W hm => hm) type25 ?_
      refine qn (pk [3, 4]) ?_
      refine QB_done (by kernel_rfl) ?_
      exact QM_cut_normal (A78, c79, A83, c84, A88, c89) sl2 (fun W hm => hm) trivial
     refine qc 15 223 rfl ?_ ?_
     ·
      refine wv (vl 2 4 underlying25) ?_
      refine qn (pk [0, 1]) ?_
      refine qt 15 9 735 rfl (vf underlying99 rfl type25) ?_
      refine qo 15 5 767 rfl ?_
      refine wcl (tSl tInt 3) x0.Tenants (cl_fn cb75 rfl) (fun W hm => impl_copyInts_c2 W _ x0.Tenants (hm.rdS0 r16) s_0.2.1) (fun z92 => ?_)
      refine WM_form (n := 0) rfl ?_
      rintro A93 c94 rfl m95
      refine qn (pk [1, 2]) ?_
      refine qo 15 8 1023 rfl ?_
      refine wcl (tSl tInt 3) x0.Rows (cl_fn cb75 rfl) (fun W hm => impl_copyInts_c2 W _ x0.Rows (hm.rdS0 r21) s_0.2.2) (fun z97 => ?_)
      refine WM_form (n := 0) rfl ?_
      rintro A98 c99 rfl m100
      refine qn (pk [2, 3]) ?_
      refine qo 15 10 2047 rfl ?_
      let I13 : It := iOwn (tSl tInt 3) [.slice A98 x0.Rows.length c99] x0.Rows
      let I14 : It := iOwn (tSl tInt 3) [.slice A93 x0.Tenants.length c94] x0.Tenants
      refine sb 2 [.int .i64 x0.Segment, .int .i64 x0.Base, .slice A78 x0.Ids.length c79, .slice A13 x0.Tenants.length c14, .slice A18 x0.Rows.length c19] [I13, I14, I10, iBox p26 99 K1] (pk [4, 0, 1, 2, 3]) type25 ?_
      refine qn (pk [3, 4]) ?_
      refine qt 15 11 4095 rfl (vf underlying99 rfl type25) ?_
      refine qo 15 12 8191 rfl ?_
      refine sb 3 [.int .i64 x0.Segment, .int .i64 x0.Base, .slice A78 x0.Ids.length c79, .slice A93 x0.Tenants.length c94, .slice A18 x0.Rows.length c19] [I13, I14, I10, iBox p26 99 K1] (fun W hm => hm) type25 ?_
      refine qn (pk [3, 4]) ?_
      refine qt 15 13 16383 rfl (vf underlying99 rfl type25) ?_
      refine qo 15 14 32767 rfl ?_
      refine sb 4 [.int .i64 x0.Segment, .int .i64 x0.Base, .slice A78 x0.Ids.length c79, .slice A93 x0.Tenants.length c94, .slice A98 x0.Rows.length c99] [I13, I14, I10, iBox p26 99 K1] (fun W hm => hm) type25 ?_
      refine qn (pk [3, 4]) ?_
      refine QB_done (by kernel_rfl) ?_
      exact QM_cut_normal (A78, c79, A93, c94, A98, c99) sl2 (fun W hm => hm) trivial
     exact QBs_nil
    refine qc 15 219 rfl ?_ ?_
    ·
     refine wv (vl 1 4 underlying25) ?_
     refine qn (pk [0]) ?_
     refine qo 15 2 223 rfl ?_
     refine wcl (tSl tInt 3) x0.Ids (cl_fn cb75 rfl) (fun W hm => impl_copyInts_c2 W _ x0.Ids (hm.rdS0 r11) s_0.1) (fun z102 => ?_)
     refine WM_form (n := 0) rfl ?_
     rintro A103 c104 rfl m105
     refine qn (pk [1]) ?_
     refine qt 15 9 735 rfl (vf underlying99 rfl type25) ?_
     refine qo 15 5 767 rfl ?_
     refine wcl (tSl tInt 3) x0.Tenants (cl_fn cb75 rfl) (fun W hm => impl_copyInts_c2 W _ x0.Tenants (hm.rdS0 r16) s_0.2.1) (fun z107 => ?_)
     refine WM_form (n := 0) rfl ?_
     rintro A108 c109 rfl m110
     refine qn (pk [2]) ?_
     refine qo 15 8 1023 rfl ?_
     refine wcl (tSl tInt 3) x0.Rows (cl_fn cb75 rfl) (fun W hm => impl_copyInts_c2 W _ x0.Rows (hm.rdS0 r21) s_0.2.2) (fun z112 => ?_)
     refine WM_form (n := 0) rfl ?_
     rintro A113 c114 rfl m115
     refine qn (pk [3]) ?_
     refine qo 15 10 2047 rfl ?_
     let I15 : It := iOwn (tSl tInt 3) [.slice A113 x0.Rows.length c114] x0.Rows
     let I16 : It := iOwn (tSl tInt 3) [.slice A108 x0.Tenants.length c109] x0.Tenants
     let I17 : It := iOwn (tSl tInt 3) [.slice A103 x0.Ids.length c104] x0.Ids
     refine sb 2 [.int .i64 x0.Segment, .int .i64 x0.Base, .slice A103 x0.Ids.length c104, .slice A13 x0.Tenants.length c14, .slice A18 x0.Rows.length c19] [I15, I16, I17, iBox p26 99 K1] (pk [4, 0, 1, 2, 3]) type25 ?_
     refine qn (pk [4]) ?_
     refine qt 15 11 4095 rfl (vf underlying99 rfl type25) ?_
     refine qo 15 12 8191 rfl ?_
     refine sb 3 [.int .i64 x0.Segment, .int .i64 x0.Base, .slice A103 x0.Ids.length c104, .slice A108 x0.Tenants.length c109, .slice A18 x0.Rows.length c19] [I15, I16, I17, iBox p26 99 K1] (fun W hm => hm) type25 ?_
     refine qn (pk [4]) ?_
     refine qt 15 13 16383 rfl (vf underlying99 rfl type25) ?_
     refine qo 15 14 32767 rfl ?_
     refine sb 4 [.int .i64 x0.Segment, .int .i64 x0.Base, .slice A103 x0.Ids.length c104, .slice A108 x0.Tenants.length c109, .slice A113 x0.Rows.length c114] [I15, I16, I17, iBox p26 99 K1] (fun W hm => hm) type25 ?_
     refine qn (pk [4]) ?_
     refine QB_done (by kernel_rfl) ?_
     exact QM_cut_normal (A103, c104, A108, c109, A113, c114) sl2 (fun W hm => hm) trivial
    exact QBs_nil
   refine qc 15 203 rfl ?_ ?_
   ·
    refine wv (vl 1 4 underlying25) ?_
    refine qn (pk [0]) ?_
    refine qa [2, 4] ?_
    refine qc 15 207 rfl ?_ ?_
    ·
     refine wcl (tSl tInt 3) x0.Ids (cl_fn cb75 rfl) (fun W hm => impl_copyInts_c2 W _ x0.Ids (hm.rdS0 r11) s_0.1) (fun z117 => ?_)
     refine WM_form (n := 0) rfl ?_
     rintro A118 c119 rfl m120
     refine qn (pk [1]) ?_
     refine qo 15 4 223 rfl ?_
     refine wv (vl 2 3 underlying25) ?_
     refine qn (pk [1]) ?_
     refine qt 15 9 735 rfl (vf underlying99 rfl type25) ?_
     refine qo 15 5 767 rfl ?_
     refine wcl (tSl tInt 3) x0.Tenants (cl_fn cb75 rfl) (fun W hm => impl_copyInts_c2 W _ x0.Tenants (hm.rdS0 r16) s_0.2.1) (fun z122 => ?_)
     refine WM_form (n := 0) rfl ?_
     rintro A123 c124 rfl m125
     refine qn (pk [2]) ?_
     refine qo 15 8 1023 rfl ?_
     refine wcl (tSl tInt 3) x0.Rows (cl_fn cb75 rfl) (fun W hm => impl_copyInts_c2 W _ x0.Rows (hm.rdS0 r21) s_0.2.2) (fun z127 => ?_)
     refine WM_form (n := 0) rfl ?_
     rintro A128 c129 rfl m130
     refine qn (pk [3]) ?_
     refine qo 15 10 2047 rfl ?_
     let I18 : It := iOwn (tSl tInt 3) [.slice A128 x0.Rows.length c129] x0.Rows
     let I19 : It := iOwn (tSl tInt 3) [.slice A123 x0.Tenants.length c124] x0.Tenants
     let I20 : It := iOwn (tSl tInt 3) [.slice A118 x0.Ids.length c119] x0.Ids
     refine sb 2 [.int .i64 x0.Segment, .int .i64 x0.Base, .slice A118 x0.Ids.length c119, .slice A13 x0.Tenants.length c14, .slice A18 x0.Rows.length c19] [I18, I19, I20, iBox p26 99 K1] (pk [4, 0, 1, 2, 3]) type25 ?_
     refine qn (pk [4]) ?_
     refine qt 15 11 4095 rfl (vf underlying99 rfl type25) ?_
     refine qo 15 12 8191 rfl ?_
     refine sb 3 [.int .i64 x0.Segment, .int .i64 x0.Base, .slice A118 x0.Ids.length c119, .slice A123 x0.Tenants.length c124, .slice A18 x0.Rows.length c19] [I18, I19, I20, iBox p26 99 K1] (fun W hm => hm) type25 ?_
     refine qn (pk [4]) ?_
     refine qt 15 13 16383 rfl (vf underlying99 rfl type25) ?_
     refine qo 15 14 32767 rfl ?_
     refine sb 4 [.int .i64 x0.Segment, .int .i64 x0.Base, .slice A118 x0.Ids.length c119, .slice A123 x0.Tenants.length c124, .slice A128 x0.Rows.length c129] [I18, I19, I20, iBox p26 99 K1] (fun W hm => hm) type25 ?_
     refine qn (pk [4]) ?_
     refine QB_done (by kernel_rfl) ?_
     exact QM_cut_normal (A118, c119, A123, c124, A128, c129) sl2 (fun W hm => hm) trivial
    refine qc 15 219 rfl ?_ ?_
    ·
     refine wv (vl 1 3 underlying25) ?_
     refine qn (pk [0]) ?_
     refine qo 15 2 223 rfl ?_
     refine wcl (tSl tInt 3) x0.Ids (cl_fn cb75 rfl) (fun W hm => impl_copyInts_c2 W _ x0.Ids (hm.rdS0 r11) s_0.1) (fun z132 => ?_)
     refine WM_form (n := 0) rfl ?_
     rintro A133 c134 rfl m135
     refine qn (pk [1]) ?_
     refine qt 15 9 735 rfl (vf underlying99 rfl type25) ?_
     refine qo 15 5 767 rfl ?_
     refine wcl (tSl tInt 3) x0.Tenants (cl_fn cb75 rfl) (fun W hm => impl_copyInts_c2 W _ x0.Tenants (hm.rdS0 r16) s_0.2.1) (fun z137 => ?_)
     refine WM_form (n := 0) rfl ?_
     rintro A138 c139 rfl m140
     refine qn (pk [2]) ?_
     refine qo 15 8 1023 rfl ?_
     refine wcl (tSl tInt 3) x0.Rows (cl_fn cb75 rfl) (fun W hm => impl_copyInts_c2 W _ x0.Rows (hm.rdS0 r21) s_0.2.2) (fun z142 => ?_)
     refine WM_form (n := 0) rfl ?_
     rintro A143 c144 rfl m145
     refine qn (pk [3]) ?_
     refine qo 15 10 2047 rfl ?_
     let I21 : It := iOwn (tSl tInt 3) [.slice A143 x0.Rows.length c144] x0.Rows
     let I22 : It := iOwn (tSl tInt 3) [.slice A138 x0.Tenants.length c139] x0.Tenants
     let I23 : It := iOwn (tSl tInt 3) [.slice A133 x0.Ids.length c134] x0.Ids
     refine sb 2 [.int .i64 x0.Segment, .int .i64 x0.Base, .slice A133 x0.Ids.length c134, .slice A13 x0.Tenants.length c14, .slice A18 x0.Rows.length c19] [I21, I22, I23, iBox p26 99 K1] (pk [4, 0, 1, 2, 3]) type25 ?_
     refine qn (pk [4]) ?_
     refine qt 15 11 4095 rfl (vf underlying99 rfl type25) ?_
     refine qo 15 12 8191 rfl ?_
     refine sb 3 [.int .i64 x0.Segment, .int .i64 x0.Base, .slice A133 x0.Ids.length c134, .slice A138 x0.Tenants.length c139, .slice A18 x0.Rows.length c19] [I21, I22, I23, iBox p26 99 K1] (fun W hm => hm) type25 ?_
     refine qn (pk [4]) ?_
     refine qt 15 13 16383 rfl (vf underlying99 rfl type25) ?_
     refine qo 15 14 32767 rfl ?_
     refine sb 4 [.int .i64 x0.Segment, .int .i64 x0.Base, .slice A133 x0.Ids.length c134, .slice A138 x0.Tenants.length c139, .slice A143 x0.Rows.length c144] [I21, I22, I23, iBox p26 99 K1] (fun W hm => hm) type25 ?_
     refine qn (pk [4]) ?_
     refine QB_done (by kernel_rfl) ?_
     exact QM_cut_normal (A133, c134, A138, c139, A143, c144) sl2 (fun W hm => hm) trivial
    exact QBs_nil
   exact QBs_nil
  refine qc 15 89 rfl ?_ ?_
  ·
   refine wv (vl 1 3 underlying25) ?_
   refine qn (pk [0]) ?_
   refine qa [1, 7] ?_
   refine qc 15 91 rfl ?_ ?_
   ·
    refine wv (vl 1 2 underlying25) ?_
    refine qn (pk [0]) ?_
    refine qa [2, 7] ?_
    refine qc 15 95 rfl ?_ ?_
    ·
     refine wcl (tSl tInt 3) x0.Ids (cl_fn cb75 rfl) (fun W hm => impl_copyInts_c2 W _ x0.Ids (hm.rdS0 r11) s_0.1) (fun z147 => ?_)
     refine WM_form (n := 0) rfl ?_
     rintro A148 c149 rfl m150
     refine qn (pk [1]) ?_
     let I24 : It := iOwn (tSl tInt 3) [.slice A148 x0.Ids.length c149] x0.Ids
     refine QB_strong (js := [I24, iBox p26 99 K1]) (pk [1]) (pk [0, 1]) ?_
     refine qa [5, 7] ?_
     refine qc 15 127 rfl ?_ ?_
     ·
      refine wcl (tSl tInt 3) x0.Tenants (cl_fn cb75 rfl) (fun W hm => impl_copyInts_c2 W _ x0.Tenants (hm.rdS0 r16) s_0.2.1) (fun z152 => ?_)
      refine WM_form (n := 0) rfl ?_
      rintro A153 c154 rfl m155
      refine qn (pk [1, 2]) ?_
      refine qo 15 7 255 rfl ?_
      refine wv (vl 3 4 underlying25) ?_
      refine qn (pk [1, 2]) ?_
      refine qt 15 9 767 rfl (vf underlying99 rfl type25) ?_
      refine qo 15 8 1023 rfl ?_
      refine wcl (tSl tInt 3) x0.Rows (cl_fn cb75 rfl) (fun W hm => impl_copyInts_c2 W _ x0.Rows (hm.rdS0 r21) s_0.2.2) (fun z157 => ?_)
      refine WM_form (n := 0) rfl ?_
      rintro A158 c159 rfl m160
      refine qn (pk [2, 3]) ?_
      refine qo 15 10 2047 rfl ?_
      let I25 : It := iOwn (tSl tInt 3) [.slice A158 x0.Rows.length c159] x0.Rows
      let I26 : It := iOwn (tSl tInt 3) [.slice A153 x0.Tenants.length c154] x0.Tenants
      refine sb 2 [.int .i64 x0.Segment, .int .i64 x0.Base, .slice A148 x0.Ids.length c149, .slice A13 x0.Tenants.length c14, .slice A18 x0.Rows.length c19] [I25, I26, I24, iBox p26 99 K1] (pk [4, 0, 1, 2, 3]) type25 ?_
      refine qn (pk [3, 4]) ?_
      refine qt 15 11 4095 rfl (vf underlying99 rfl type25) ?_
      refine qo 15 12 8191 rfl ?_
      refine sb 3 [.int .i64 x0.Segment, .int .i64 x0.Base, .slice A148 x0.Ids.length c149, .slice A153 x0.Tenants.length c154, .slice A18 x0.Rows.length c19] [I25, I26, I24, iBox p26 99 K1] (fun W hm => hm) type25 ?_
      refine qn (pk [3, 4]) ?_
      refine qt 15 13 16383 rfl (vf underlying99 rfl type25) ?_
      refine qo 15 14 32767 rfl ?_
      refine sb 4 [.int .i64 x0.Segment, .int .i64 x0.Base, .slice A148 x0.Ids.length c149, .slice A153 x0.Tenants.length c154, .slice A158 x0.Rows.length c159] [I25, I26, I24, iBox p26 99 K1] (fun W hm => hm) type25 ?_
      refine qn (pk [3, 4]) ?_
      refine QB_done (by kernel_rfl) ?_
      exact QM_cut_normal (A148, c149, A153, c154, A158, c159) sl2 (fun W hm => hm) trivial
     refine qc 15 223 rfl ?_ ?_
     ·
      refine wv (vl 2 4 underlying25) ?_
      refine qn (pk [0, 1]) ?_
      refine qt 15 9 735 rfl (vf underlying99 rfl type25) ?_
      refine qo 15 5 767 rfl ?_
      refine wcl (tSl tInt 3) x0.Tenants (cl_fn cb75 rfl) (fun W hm => impl_copyInts_c2 W _ x0.Tenants (hm.rdS0 r16) s_0.2.1) (fun z162 => ?_)
      refine WM_form (n := 0) rfl ?_
      rintro A163 c164 rfl m165
      refine qn (pk [1, 2]) ?_
      refine qo 15 8 1023 rfl ?_
      refine wcl (tSl tInt 3) x0.Rows (cl_fn cb75 rfl) (fun W hm => impl_copyInts_c2 W _ x0.Rows (hm.rdS0 r21) s_0.2.2) (fun z167 => ?_)
      refine WM_form (n := 0) rfl ?_
      rintro A168 c169 rfl m170
      refine qn (pk [2, 3]) ?_
      refine qo 15 10 2047 rfl ?_
      let I27 : It := iOwn (tSl tInt 3) [.slice A168 x0.Rows.length c169] x0.Rows
      let I28 : It := iOwn (tSl tInt 3) [.slice A163 x0.Tenants.length c164] x0.Tenants
      refine sb 2 [.int .i64 x0.Segment, .int .i64 x0.Base, .slice A148 x0.Ids.length c149, .slice A13 x0.Tenants.length c14, .slice A18 x0.Rows.length c19] [I27, I28, I24, iBox p26 99 K1] (pk [4, 0, 1, 2, 3]) type25 ?_
      refine qn (pk [3, 4]) ?_
      refine qt 15 11 4095 rfl (vf underlying99 rfl type25) ?_
      refine qo 15 12 8191 rfl ?_
      refine sb 3 [.int .i64 x0.Segment, .int .i64 x0.Base, .slice A148 x0.Ids.length c149, .slice A163 x0.Tenants.length c164, .slice A18 x0.Rows.length c19] [I27, I28, I24, iBox p26 99 K1] (fun W hm => hm) type25 ?_
      refine qn (pk [3, 4]) ?_
      refine qt 15 13 16383 rfl (vf underlying99 rfl type25) ?_
      refine qo 15 14 32767 rfl ?_
      refine sb 4 [.int .i64 x0.Segment, .int .i64 x0.Base, .slice A148 x0.Ids.length c149, .slice A163 x0.Tenants.length c164, .slice A168 x0.Rows.length c169] [I27, I28, I24, iBox p26 99 K1] (fun W hm => hm) type25 ?_
      refine qn (pk [3, 4]) ?_
      refine QB_done (by kernel_rfl) ?_
      exact QM_cut_normal (A148, c149, A163, c164, A168, c169) sl2 (fun W hm => hm) trivial
     exact QBs_nil
    refine qc 15 219 rfl ?_ ?_
    ·
     refine wv (vl 1 4 underlying25) ?_
     refine qn (pk [0]) ?_
     refine qo 15 2 223 rfl ?_
     refine wcl (tSl tInt 3) x0.Ids (cl_fn cb75 rfl) (fun W hm => impl_copyInts_c2 W _ x0.Ids (hm.rdS0 r11) s_0.1) (fun z172 => ?_)
     refine WM_form (n := 0) rfl ?_
     rintro A173 c174 rfl m175
     refine qn (pk [1]) ?_
     refine qt 15 9 735 rfl (vf underlying99 rfl type25) ?_
     refine qo 15 5 767 rfl ?_
     refine wcl (tSl tInt 3) x0.Tenants (cl_fn cb75 rfl) (fun W hm => impl_copyInts_c2 W _ x0.Tenants (hm.rdS0 r16) s_0.2.1) (fun z177 => ?_)
     refine WM_form (n := 0) rfl ?_
     rintro A178 c179 rfl m180
     refine qn (pk [2]) ?_
     refine qo 15 8 1023 rfl ?_
     refine wcl (tSl tInt 3) x0.Rows (cl_fn cb75 rfl) (fun W hm => impl_copyInts_c2 W _ x0.Rows (hm.rdS0 r21) s_0.2.2) (fun z182 => ?_)
     refine WM_form (n := 0) rfl ?_
     rintro A183 c184 rfl m185
     refine qn (pk [3]) ?_
     refine qo 15 10 2047 rfl ?_
     let I29 : It := iOwn (tSl tInt 3) [.slice A183 x0.Rows.length c184] x0.Rows
     let I30 : It := iOwn (tSl tInt 3) [.slice A178 x0.Tenants.length c179] x0.Tenants
     let I31 : It := iOwn (tSl tInt 3) [.slice A173 x0.Ids.length c174] x0.Ids
     refine sb 2 [.int .i64 x0.Segment, .int .i64 x0.Base, .slice A173 x0.Ids.length c174, .slice A13 x0.Tenants.length c14, .slice A18 x0.Rows.length c19] [I29, I30, I31, iBox p26 99 K1] (pk [4, 0, 1, 2, 3]) type25 ?_
     refine qn (pk [4]) ?_
     refine qt 15 11 4095 rfl (vf underlying99 rfl type25) ?_
     refine qo 15 12 8191 rfl ?_
     refine sb 3 [.int .i64 x0.Segment, .int .i64 x0.Base, .slice A173 x0.Ids.length c174, .slice A178 x0.Tenants.length c179, .slice A18 x0.Rows.length c19] [I29, I30, I31, iBox p26 99 K1] (fun W hm => hm) type25 ?_
     refine qn (pk [4]) ?_
     refine qt 15 13 16383 rfl (vf underlying99 rfl type25) ?_
     refine qo 15 14 32767 rfl ?_
     refine sb 4 [.int .i64 x0.Segment, .int .i64 x0.Base, .slice A173 x0.Ids.length c174, .slice A178 x0.Tenants.length c179, .slice A183 x0.Rows.length c184] [I29, I30, I31, iBox p26 99 K1] (fun W hm => hm) type25 ?_
     refine qn (pk [4]) ?_
     refine QB_done (by kernel_rfl) ?_
     exact QM_cut_normal (A173, c174, A178, c179, A183, c184) sl2 (fun W hm => hm) trivial
    exact QBs_nil
   refine qc 15 217 rfl ?_ ?_
   ·
    refine wv (vl 1 4 underlying25) ?_
    refine qn (pk [0]) ?_
    refine qo 15 1 219 rfl ?_
    refine wv (vl 1 2 underlying25) ?_
    refine qn (pk [0]) ?_
    refine qo 15 2 223 rfl ?_
    refine wcl (tSl tInt 3) x0.Ids (cl_fn cb75 rfl) (fun W hm => impl_copyInts_c2 W _ x0.Ids (hm.rdS0 r11) s_0.1) (fun z187 => ?_)
    refine WM_form (n := 0) rfl ?_
    rintro A188 c189 rfl m190
    refine qn (pk [1]) ?_
    refine qt 15 9 735 rfl (vf underlying99 rfl type25) ?_
    refine qo 15 5 767 rfl ?_
    refine wcl (tSl tInt 3) x0.Tenants (cl_fn cb75 rfl) (fun W hm => impl_copyInts_c2 W _ x0.Tenants (hm.rdS0 r16) s_0.2.1) (fun z192 => ?_)
    refine WM_form (n := 0) rfl ?_
    rintro A193 c194 rfl m195
    refine qn (pk [2]) ?_
    refine qo 15 8 1023 rfl ?_
    refine wcl (tSl tInt 3) x0.Rows (cl_fn cb75 rfl) (fun W hm => impl_copyInts_c2 W _ x0.Rows (hm.rdS0 r21) s_0.2.2) (fun z197 => ?_)
    refine WM_form (n := 0) rfl ?_
    rintro A198 c199 rfl m200
    refine qn (pk [3]) ?_
    refine qo 15 10 2047 rfl ?_
    let I32 : It := iOwn (tSl tInt 3) [.slice A198 x0.Rows.length c199] x0.Rows
    let I33 : It := iOwn (tSl tInt 3) [.slice A193 x0.Tenants.length c194] x0.Tenants
    let I34 : It := iOwn (tSl tInt 3) [.slice A188 x0.Ids.length c189] x0.Ids
    refine sb 2 [.int .i64 x0.Segment, .int .i64 x0.Base, .slice A188 x0.Ids.length c189, .slice A13 x0.Tenants.length c14, .slice A18 x0.Rows.length c19] [I32, I33, I34, iBox p26 99 K1] (pk [4, 0, 1, 2, 3]) type25 ?_
    refine qn (pk [4]) ?_
    refine qt 15 11 4095 rfl (vf underlying99 rfl type25) ?_
    refine qo 15 12 8191 rfl ?_
    refine sb 3 [.int .i64 x0.Segment, .int .i64 x0.Base, .slice A188 x0.Ids.length c189, .slice A193 x0.Tenants.length c194, .slice A18 x0.Rows.length c19] [I32, I33, I34, iBox p26 99 K1] (fun W hm => hm) type25 ?_
    refine qn (pk [4]) ?_
    refine qt 15 13 16383 rfl (vf underlying99 rfl type25) ?_
    refine qo 15 14 32767 rfl ?_
    refine sb 4 [.int .i64 x0.Segment, .int .i64 x0.Base, .slice A188 x0.Ids.length c189, .slice A193 x0.Tenants.length c194, .slice A198 x0.Rows.length c199] [I32, I33, I34, iBox p26 99 K1] (fun W hm => hm) type25 ?_
    refine qn (pk [4]) ?_
    refine QB_done (by kernel_rfl) ?_
    exact QM_cut_normal (A188, c189, A193, c194, A198, c199) sl2 (fun W hm => hm) trivial
   exact QBs_nil
  refine qc 15 201 rfl ?_ ?_
  ·
   refine wv (vl 1 4 underlying25) ?_
   refine qn (pk [0]) ?_
   refine qa [1, 4] ?_
   refine qc 15 203 rfl ?_ ?_
   ·
    refine wv (vl 1 2 underlying25) ?_
    refine qn (pk [0]) ?_
    refine qa [2, 4] ?_
    refine qc 15 207 rfl ?_ ?_
    ·
     refine wcl (tSl tInt 3) x0.Ids (cl_fn cb75 rfl) (fun W hm => impl_copyInts_c2 W _ x0.Ids (hm.rdS0 r11) s_0.1) (fun z202 => ?_)
     refine WM_form (n := 0) rfl ?_
     rintro A203 c204 rfl m205
     refine qn (pk [1]) ?_
     refine qo 15 4 223 rfl ?_
     refine wv (vl 2 3 underlying25) ?_
     refine qn (pk [1]) ?_
     refine qt 15 9 735 rfl (vf underlying99 rfl type25) ?_
     refine qo 15 5 767 rfl ?_
     refine wcl (tSl tInt 3) x0.Tenants (cl_fn cb75 rfl) (fun W hm => impl_copyInts_c2 W _ x0.Tenants (hm.rdS0 r16) s_0.2.1) (fun z207 => ?_)
     refine WM_form (n := 0) rfl ?_
     rintro A208 c209 rfl m210
     refine qn (pk [2]) ?_
     refine qo 15 8 1023 rfl ?_
     refine wcl (tSl tInt 3) x0.Rows (cl_fn cb75 rfl) (fun W hm => impl_copyInts_c2 W _ x0.Rows (hm.rdS0 r21) s_0.2.2) (fun z212 => ?_)
     refine WM_form (n := 0) rfl ?_
     rintro A213 c214 rfl m215
     refine qn (pk [3]) ?_
     refine qo 15 10 2047 rfl ?_
     let I35 : It := iOwn (tSl tInt 3) [.slice A213 x0.Rows.length c214] x0.Rows
     let I36 : It := iOwn (tSl tInt 3) [.slice A208 x0.Tenants.length c209] x0.Tenants
     let I37 : It := iOwn (tSl tInt 3) [.slice A203 x0.Ids.length c204] x0.Ids
     refine sb 2 [.int .i64 x0.Segment, .int .i64 x0.Base, .slice A203 x0.Ids.length c204, .slice A13 x0.Tenants.length c14, .slice A18 x0.Rows.length c19] [I35, I36, I37, iBox p26 99 K1] (pk [4, 0, 1, 2, 3]) type25 ?_
     refine qn (pk [4]) ?_
     refine qt 15 11 4095 rfl (vf underlying99 rfl type25) ?_
     refine qo 15 12 8191 rfl ?_
     refine sb 3 [.int .i64 x0.Segment, .int .i64 x0.Base, .slice A203 x0.Ids.length c204, .slice A208 x0.Tenants.length c209, .slice A18 x0.Rows.length c19] [I35, I36, I37, iBox p26 99 K1] (fun W hm => hm) type25 ?_
     refine qn (pk [4]) ?_
     refine qt 15 13 16383 rfl (vf underlying99 rfl type25) ?_
     refine qo 15 14 32767 rfl ?_
     refine sb 4 [.int .i64 x0.Segment, .int .i64 x0.Base, .slice A203 x0.Ids.length c204, .slice A208 x0.Tenants.length c209, .slice A213 x0.Rows.length c214] [I35, I36, I37, iBox p26 99 K1] (fun W hm => hm) type25 ?_
     refine qn (pk [4]) ?_
     refine QB_done (by kernel_rfl) ?_
     exact QM_cut_normal (A203, c204, A208, c209, A213, c214) sl2 (fun W hm => hm) trivial
    refine qc 15 219 rfl ?_ ?_
    ·
     refine wv (vl 1 3 underlying25) ?_
     refine qn (pk [0]) ?_
     refine qo 15 2 223 rfl ?_
     refine wcl (tSl tInt 3) x0.Ids (cl_fn cb75 rfl) (fun W hm => impl_copyInts_c2 W _ x0.Ids (hm.rdS0 r11) s_0.1) (fun z217 => ?_)
     refine WM_form (n := 0) rfl ?_
     rintro A218 c219 rfl m220
     refine qn (pk [1]) ?_
     refine qt 15 9 735 rfl (vf underlying99 rfl type25) ?_
     refine qo 15 5 767 rfl ?_
     refine wcl (tSl tInt 3) x0.Tenants (cl_fn cb75 rfl) (fun W hm => impl_copyInts_c2 W _ x0.Tenants (hm.rdS0 r16) s_0.2.1) (fun z222 => ?_)
     refine WM_form (n := 0) rfl ?_
     rintro A223 c224 rfl m225
     refine qn (pk [2]) ?_
     refine qo 15 8 1023 rfl ?_
     refine wcl (tSl tInt 3) x0.Rows (cl_fn cb75 rfl) (fun W hm => impl_copyInts_c2 W _ x0.Rows (hm.rdS0 r21) s_0.2.2) (fun z227 => ?_)
     refine WM_form (n := 0) rfl ?_
     rintro A228 c229 rfl m230
     refine qn (pk [3]) ?_
     refine qo 15 10 2047 rfl ?_
     let I38 : It := iOwn (tSl tInt 3) [.slice A228 x0.Rows.length c229] x0.Rows
     let I39 : It := iOwn (tSl tInt 3) [.slice A223 x0.Tenants.length c224] x0.Tenants
     let I40 : It := iOwn (tSl tInt 3) [.slice A218 x0.Ids.length c219] x0.Ids
     refine sb 2 [.int .i64 x0.Segment, .int .i64 x0.Base, .slice A218 x0.Ids.length c219, .slice A13 x0.Tenants.length c14, .slice A18 x0.Rows.length c19] [I38, I39, I40, iBox p26 99 K1] (pk [4, 0, 1, 2, 3]) type25 ?_
     refine qn (pk [4]) ?_
     refine qt 15 11 4095 rfl (vf underlying99 rfl type25) ?_
     refine qo 15 12 8191 rfl ?_
     refine sb 3 [.int .i64 x0.Segment, .int .i64 x0.Base, .slice A218 x0.Ids.length c219, .slice A223 x0.Tenants.length c224, .slice A18 x0.Rows.length c19] [I38, I39, I40, iBox p26 99 K1] (fun W hm => hm) type25 ?_
     refine qn (pk [4]) ?_
     refine qt 15 13 16383 rfl (vf underlying99 rfl type25) ?_
     refine qo 15 14 32767 rfl ?_
     refine sb 4 [.int .i64 x0.Segment, .int .i64 x0.Base, .slice A218 x0.Ids.length c219, .slice A223 x0.Tenants.length c224, .slice A228 x0.Rows.length c229] [I38, I39, I40, iBox p26 99 K1] (fun W hm => hm) type25 ?_
     refine qn (pk [4]) ?_
     refine QB_done (by kernel_rfl) ?_
     exact QM_cut_normal (A218, c219, A223, c224, A228, c229) sl2 (fun W hm => hm) trivial
    exact QBs_nil
   refine qc 15 217 rfl ?_ ?_
   ·
    refine wv (vl 1 3 underlying25) ?_
    refine qn (pk [0]) ?_
    refine qo 15 1 219 rfl ?_
    refine wv (vl 1 2 underlying25) ?_
    refine qn (pk [0]) ?_
    refine qo 15 2 223 rfl ?_
    refine wcl (tSl tInt 3) x0.Ids (cl_fn cb75 rfl) (fun W hm => impl_copyInts_c2 W _ x0.Ids (hm.rdS0 r11) s_0.1) (fun z232 => ?_)
    refine WM_form (n := 0) rfl ?_
    rintro A233 c234 rfl m235
    refine qn (pk [1]) ?_
    refine qt 15 9 735 rfl (vf underlying99 rfl type25) ?_
    refine qo 15 5 767 rfl ?_
    refine wcl (tSl tInt 3) x0.Tenants (cl_fn cb75 rfl) (fun W hm => impl_copyInts_c2 W _ x0.Tenants (hm.rdS0 r16) s_0.2.1) (fun z237 => ?_)
    refine WM_form (n := 0) rfl ?_
    rintro A238 c239 rfl m240
    refine qn (pk [2]) ?_
    refine qo 15 8 1023 rfl ?_
    refine wcl (tSl tInt 3) x0.Rows (cl_fn cb75 rfl) (fun W hm => impl_copyInts_c2 W _ x0.Rows (hm.rdS0 r21) s_0.2.2) (fun z242 => ?_)
    refine WM_form (n := 0) rfl ?_
    rintro A243 c244 rfl m245
    refine qn (pk [3]) ?_
    refine qo 15 10 2047 rfl ?_
    let I41 : It := iOwn (tSl tInt 3) [.slice A243 x0.Rows.length c244] x0.Rows
    let I42 : It := iOwn (tSl tInt 3) [.slice A238 x0.Tenants.length c239] x0.Tenants
    let I43 : It := iOwn (tSl tInt 3) [.slice A233 x0.Ids.length c234] x0.Ids
    refine sb 2 [.int .i64 x0.Segment, .int .i64 x0.Base, .slice A233 x0.Ids.length c234, .slice A13 x0.Tenants.length c14, .slice A18 x0.Rows.length c19] [I41, I42, I43, iBox p26 99 K1] (pk [4, 0, 1, 2, 3]) type25 ?_
    refine qn (pk [4]) ?_
    refine qt 15 11 4095 rfl (vf underlying99 rfl type25) ?_
    refine qo 15 12 8191 rfl ?_
    refine sb 3 [.int .i64 x0.Segment, .int .i64 x0.Base, .slice A233 x0.Ids.length c234, .slice A238 x0.Tenants.length c239, .slice A18 x0.Rows.length c19] [I41, I42, I43, iBox p26 99 K1] (fun W hm => hm) type25 ?_
    refine qn (pk [4]) ?_
    refine qt 15 13 16383 rfl (vf underlying99 rfl type25) ?_
    refine qo 15 14 32767 rfl ?_
    refine sb 4 [.int .i64 x0.Segment, .int .i64 x0.Base, .slice A233 x0.Ids.length c234, .slice A238 x0.Tenants.length c239, .slice A243 x0.Rows.length c244] [I41, I42, I43, iBox p26 99 K1] (fun W hm => hm) type25 ?_
    refine qn (pk [4]) ?_
    refine QB_done (by kernel_rfl) ?_
    exact QM_cut_normal (A233, c234, A238, c239, A243, c244) sl2 (fun W hm => hm) trivial
   exact QBs_nil
  exact QBs_nil
 ·
  rintro ⟨A28, c29, A33, c34, A38, c39⟩ -
  let K2 : List Value := [.int .i64 x0.Segment, .int .i64 x0.Base, .slice A28 x0.Ids.length c29, .slice A33 x0.Tenants.length c34, .slice A38 x0.Rows.length c39]
  let I44 : It := iOwn (tSl tInt 3) [.slice A38 x0.Rows.length c39] x0.Rows
  let I45 : It := iOwn (tSl tInt 3) [.slice A33 x0.Tenants.length c34] x0.Tenants
  let I46 : It := iOwn (tSl tInt 3) [.slice A28 x0.Ids.length c29] x0.Ids
  show QM 16 _ _ _ .normal [(1, .pointer (some (⟨p25, 0, none⟩ : Addr))), (2, .pointer (some (⟨p26, 0, none⟩ : Addr)))] [iBox p25 99 K2, I44, I45, I46, iBox p26 99 K1]
  refine QM_len (n := 1) rfl ?_
  intro m247 m248
  refine QM_len (n := 2) rfl ?_
  intro m249 m250
  refine QM_len (n := 3) rfl ?_
  intro m251 m252
  refine QM_then (sr ?_)
  refine wv (fun W hm => rv_loadN (cs := K2) underlying99 type99 rfl rfl (hm.boxCells (n := 0) rfl)) ?_
  refine sb 0 K2 [iBox p25 99 K2, I44, I45, I46] (pk [4, 0, 1, 2, 3]) type99 ?_
  refine nt' (CM_ret ?_)
  refine QM_r1 rfl (RR_cell (n := 0) rfl rfl underlying99 type99 rfl) (fun W hm => ⟨K2, ?_, ?_⟩)
  ·first | rw [(show impl_copyCharge_m x0 = x0 from by unfold impl_copyCharge_m; exact rfl)] | rfl
  ·rw [(show impl_copyCharge_m x0 = x0 from by unfold impl_copyCharge_m; exact rfl)]; exact Mem.join (is := [I46, I45, I44]) (js := []) (fun _ _ hs => tyCharge_join (x := x0) hs) (hm.pick [4, 3, 2] (by decide))
theorem impl_copyCharge_eq (x0 : DCharge) : impl_copyCharge_m x0 = x0 := by
 rfl
theorem impl_copyCharge_c2 (w : World) (z0 : List Value) (x0 : DCharge) (r_0 : tyCharge.rd w w.heap.size z0 x0) (s_0 : smCharge 68719476736 x0) :
  Calls Tryz.prog 78 #[.agg z0.toArray] w fun e w' => ∃ v : List Value, e = .returned (.agg v.toArray) ∧ Mem w.heap.size w [iOwn tyCharge v x0] w' := by
 have h := impl_copyCharge_c w z0 x0 r_0 s_0
 rw [impl_copyCharge_eq] at h
 exact h

def impl_copyEngine_b3 (x0 : DEngine) (k348 : Nat) (d351 : (List DCharge)) : DEngine ⊕ ((List DCharge)) :=
 Sum.inr (d351 ++ [(gt x0.Ledger k348)])
def impl_copyEngine_b2 (x0 : DEngine) (k230 : Nat) (d233 : (List DFinished)) : DEngine ⊕ ((List DFinished)) :=
 Sum.inr (d233 ++ [(gt x0.Done k230)])
def impl_copyEngine_b1 (x0 : DEngine) (k89 : Nat) (d92 : (List DActive)) : DEngine ⊕ ((List DActive)) :=
 Sum.inr (d92 ++ [(gt x0.Active k89)])
def impl_copyEngine_m (x0 : DEngine) : DEngine :=
 Sum.elim id (fun (s1_ : (List DActive)) => Sum.elim id (fun (s2_ : (List DFinished)) => Sum.elim id (fun (s : (List DCharge)) => (⟨x0.Store, x0.Cursor, x0.Order, s1_, s2_, s, x0.Steps⟩ : DEngine)) (rng (R := DEngine) (fun k (s : (List DCharge)) => impl_copyEngine_b3 x0 k s) (x0.Ledger.length - 0) 0 [])) (rng (R := DEngine) (fun k (s : (List DFinished)) => impl_copyEngine_b2 x0 k s) (x0.Done.length - 0) 0 [])) (rng (R := DEngine) (fun k (s : (List DActive)) => impl_copyEngine_b1 x0 k s) (x0.Active.length - 0) 0 [])
theorem cb49 : Cb Tryz.prog 49 := ⟨f49, _, func49, rfl, by decide⟩
theorem impl_copyEngine_c (w : World) (z0 : List Value) (x0 : DEngine) (r_0 : tyEngine.rd w w.heap.size z0 x0) (s_0 : smEngine 68719476736 x0) :
  Calls Tryz.prog 49 #[.agg z0.toArray] w fun e w' => ∃ v : List Value, e = .returned (.agg v.toArray) ∧ Mem w.heap.size w [iOwn tyEngine v (impl_copyEngine_m x0)] w' := by
 obtain ⟨v1, v3, v5, v7, v9, rfl, r2, r4, r6, r8, r10⟩ := tyEngine_rd r_0
 have r15 := r2
 obtain ⟨m11, A12, c13, rfl, q14⟩ := r2
 have r20 := r4
 obtain ⟨m16, A17, c18, rfl, q19⟩ := r4
 have r25 := r6
 obtain ⟨m21, A22, c23, rfl, q24⟩ := r6
 have r30 := r8
 obtain ⟨m26, A27, c28, rfl, q29⟩ := r8
 have r35 := r10
 obtain ⟨m31, A32, c33, rfl, q34⟩ := r10
 have l36 : x0.Store.Segments.length ≤ 68719476736 := s_0.1.1
 have l37 : x0.Order.length ≤ 68719476736 := s_0.2.1
 have l38 : x0.Active.length ≤ 68719476736 := s_0.2.2.1.1
 have l39 : x0.Done.length ≤ 68719476736 := s_0.2.2.2.1.1
 have l40 : x0.Ledger.length ≤ 68719476736 := s_0.2.2.2.2.1
 refine ce1 (L := [(0, .agg #[.slice A12 x0.Store.Segments.length c13, .int .i64 x0.Store.Now, .int .i64 x0.Cursor, .slice A17 x0.Order.length c18, .slice A22 x0.Active.length c23, .slice A27 x0.Done.length c28, .slice A32 x0.Ledger.length c33, .int .i64 x0.Steps])]) (N := 67) func49 ?_
 refine sr ?_
 refine WM_box rfl (Wd_none rfl) (by decide) (fun p41 => ?_)
 refine WM_alloc type44 rfl (Wd_none rfl) (by decide) (fun p42 => ?_)
 refine nt' (CM_seq ?_)
 let K7 : List Value := [.slice none 0 0, .int .i64 0, .int .i64 0, .slice none 0 0, .slice none 0 0, .slice none 0 0, .slice none 0 0, .int .i64 0]
 let K8 : List Value := [.slice A12 x0.Store.Segments.length c13, .int .i64 x0.Store.Now, .int .i64 x0.Cursor, .slice A17 x0.Order.length c18, .slice A22 x0.Active.length c23, .slice A27 x0.Done.length c28, .slice A32 x0.Ledger.length c33, .int .i64 x0.Steps]
 refine CM_cut (σ := Nat × Option Addr × Nat × Option Addr × Nat) (fun s => [(1, .pointer (some (⟨p41, 0, none⟩ : Addr))), (2, .pointer (some (⟨p42, 0, none⟩ : Addr))), (3, .pointer (some (⟨s.1, 0, none⟩ : Addr)))]) (fun s => [iBox s.1 44 [.slice s.2.1 x0.Store.Segments.length s.2.2.1, .int .i64 x0.Store.Now, .int .i64 x0.Cursor, .slice s.2.2.2.1 x0.Order.length s.2.2.2.2, .slice none 0 0, .slice none 0 0, .slice none 0 0, .int .i64 x0.Steps], iOwn (tSl tInt 3) [.slice s.2.2.2.1 x0.Order.length s.2.2.2.2] x0.Order, iOwn (tSl (tSl tyVersion 142) 122) [.slice s.2.1 x0.Store.Segments.length s.2.2.1] x0.Store.Segments, iBox p42 44 K7, iBox p41 44 K8]) (fun _ => True) ?_ ?_
 ·
  refine rb 13 (s := [iBox p42 44 K7, iBox p41 44 K8]) (fun W hm => hm) ?_
  refine qt 13 0 1 rfl (vf underlying44 rfl type39) ?_
  refine qt 13 1 3 rfl (fun W hm => rv_loadN (cs := [.slice A12 x0.Store.Segments.length c13, .int .i64 x0.Store.Now]) underlying39 type39 rfl rfl (hm.boxPart (n := 1) rfl rfl)) ?_
  refine qt 13 3 11 rfl (vf underlying44 rfl type3) ?_
  refine qt 13 4 27 rfl (vl 1 2 underlying3) ?_
  refine qt 13 5 59 rfl (vf underlying44 rfl type25) ?_
  refine qt 13 6 123 rfl (vl 1 3 underlying25) ?_
  refine qt 13 8 379 rfl (vf underlying44 rfl type3) ?_
  refine qt 13 9 891 rfl (vl 1 7 underlying3) ?_
  refine qa [2, 11] ?_
  refine qc 13 895 rfl ?_ ?_
  ·
   refine wcs tyStore x0.Store (cl_fn cb74 rfl) (fun W hm => impl_copyStore_c2 W _ x0.Store (tyStore_mk (x := x0.Store) (hm.rdS0 r15)) s_0.1) (fun z55 => ?_)
   refine tyStore_sp ?_
   rintro v56 rfl
   refine WM_form (n := 0) rfl ?_
   rintro A57 c58 rfl m59
   refine qn (pk [1, 2]) ?_
   refine qa [7, 11] ?_
   refine qc 13 1023 rfl ?_ ?_
   ·
    refine wcl (tSl tInt 3) x0.Order (cl_fn cb75 rfl) (fun W hm => impl_copyInts_c2 W _ x0.Order (hm.rdS0 r20) s_0.2.1) (fun z61 => ?_)
    refine WM_form (n := 0) rfl ?_
    rintro A62 c63 rfl m64
    refine qn (pk [2, 3]) ?_
    let K9 : List Value := [.slice A57 x0.Store.Segments.length c58, .int .i64 x0.Store.Now, .int .i64 x0.Cursor, .slice A62 x0.Order.length c63, .slice none 0 0, .slice none 0 0, .slice none 0 0, .int .i64 x0.Steps]
    refine qt 13 10 2047 rfl (fun W hm => rv_build (cs := K9) rfl (by kernel_rfl)) ?_
    refine qo 13 11 4095 rfl ?_
    refine WM_alloc type44 rfl (Wd_none rfl) (by decide) (fun p66 => ?_)
    refine qn (pk [3, 4]) ?_
    refine qo 13 12 8191 rfl ?_
    refine sb 0 K9 [iOwn (tSl tInt 3) [.slice A62 x0.Order.length c63] x0.Order, iOwn (tSl (tSl tyVersion 142) 122) [.slice A57 x0.Store.Segments.length c58] x0.Store.Segments, iBox p42 44 K7, iBox p41 44 K8] (fun W hm => hm) type44 ?_
    refine qn (pk [3, 4]) ?_
    refine QB_done (by kernel_rfl) ?_
    exact QM_cut_normal (p66, A57, c58, A62, c63) sl3 (fun W hm => hm) trivial
   refine qc 13 2943 rfl ?_ ?_
   ·
    refine WM_alloc type44 rfl (Wd_none rfl) (by decide) (fun p67 => ?_)
    refine qn (pk [2, 3]) ?_
    refine qo 13 7 3071 rfl ?_
    refine wcl (tSl tInt 3) x0.Order (cl_fn cb75 rfl) (fun W hm => impl_copyInts_c2 W _ x0.Order (hm.rdS0 r20) s_0.2.1) (fun z68 => ?_)
    refine WM_form (n := 0) rfl ?_
    rintro A69 c70 rfl m71
    refine qn (pk [3, 4]) ?_
    let K10 : List Value := [.slice A57 x0.Store.Segments.length c58, .int .i64 x0.Store.Now, .int .i64 x0.Cursor, .slice A69 x0.Order.length c70, .slice none 0 0, .slice none 0 0, .slice none 0 0, .int .i64 x0.Steps]
    refine qt 13 10 4095 rfl (fun W hm => rv_build (cs := K10) rfl (by kernel_rfl)) ?_
    refine qo 13 12 8191 rfl ?_
    refine sb 0 K10 [iOwn (tSl tInt 3) [.slice A69 x0.Order.length c70] x0.Order, iOwn (tSl (tSl tyVersion 142) 122) [.slice A57 x0.Store.Segments.length c58] x0.Store.Segments, iBox p42 44 K7, iBox p41 44 K8] (pk [1, 0, 2, 3, 4]) type44 ?_
    refine qn (pk [3, 4]) ?_
    refine QB_done (by kernel_rfl) ?_
    exact QM_cut_normal (p67, A57, c58, A69, c70) sl3 (fun W hm => hm) trivial
   exact QBs_nil
  refine qc 13 2939 rfl ?_ ?_
  ·
   refine WM_alloc type44 rfl (Wd_none rfl) (by decide) (fun p73 => ?_)
   refine qn (pk [1, 2]) ?_
   refine qo 13 2 2943 rfl ?_
   refine wcs tyStore x0.Store (cl_fn cb74 rfl) (fun W hm => impl_copyStore_c2 W _ x0.Store (tyStore_mk (x := x0.Store) (hm.rdS0 r15)) s_0.1) (fun z74 => ?_)
   refine tyStore_sp ?_
   rintro v75 rfl
   refine WM_form (n := 0) rfl ?_
   rintro A76 c77 rfl m78
   refine qn (pk [2, 3]) ?_
   refine qo 13 7 3071 rfl ?_
   refine wcl (tSl tInt 3) x0.Order (cl_fn cb75 rfl) (fun W hm => impl_copyInts_c2 W _ x0.Order (hm.rdS0 r20) s_0.2.1) (fun z80 => ?_)
   refine WM_form (n := 0) rfl ?_
   rintro A81 c82 rfl m83
   refine qn (pk [3, 4]) ?_
   let K11 : List Value := [.slice A76 x0.Store.Segments.length c77, .int .i64 x0.Store.Now, .int .i64 x0.Cursor, .slice A81 x0.Order.length c82, .slice none 0 0, .slice none 0 0, .slice none 0 0, .int .i64 x0.Steps]
   refine qt 13 10 4095 rfl (fun W hm => rv_build (cs := K11) rfl (by kernel_rfl)) ?_
   refine qo 13 12 8191 rfl ?_
   refine sb 0 K11 [iOwn (tSl tInt 3) [.slice A81 x0.Order.length c82] x0.Order, iOwn (tSl (tSl tyVersion 142) 122) [.slice A76 x0.Store.Segments.length c77] x0.Store.Segments, iBox p42 44 K7, iBox p41 44 K8] (pk [2, 0, 1, 3, 4]) type44 ?_
   refine qn (pk [3, 4]) ?_
   refine QB_done (by kernel_rfl) ?_
   exact QM_cut_normal (p73, A76, c77, A81, c82) sl3 (fun W hm => hm) trivial
  exact QBs_nil
 ·
  rintro ⟨p54, A45, c46, A50, c51⟩ -
  let I30 : It := iOwn (tSl tInt 3) [.slice A50 x0.Order.length c51] x0.Order
  let I31 : It := iOwn (tSl (tSl tyVersion 142) 122) [.slice A45 x0.Store.Segments.length c46] x0.Store.Segments
  show QM 67 _ _ _ .normal [(1, .pointer (some (⟨p41, 0, none⟩ : Addr))), (2, .pointer (some (⟨p42, 0, none⟩ : Addr))), (3, .pointer (some (⟨p54, 0, none⟩ : Addr)))] [iBox p54 44 [.slice A45 x0.Store.Segments.length c46, .int .i64 x0.Store.Now, .int .i64 x0.Cursor, .slice A50 x0.Order.length c51, .slice none 0 0, .slice none 0 0, .slice none 0 0, .int .i64 x0.Steps], I30, I31, iBox p42 44 K7, iBox p41 44 K8]
  refine QM_len (n := 1) rfl ?_
  intro m85 m86
  refine QM_len (n := 2) rfl ?_
  intro m87 m88
  refine QM_then (CM_seq (sr ?_))
  refine wv (vf underlying44 rfl type40) ?_
  refine wv (vl 4 4 underlying40) ?_
  refine wv (vlen underlying40) ?_
  refine wm (nt' (CM_block ?_))
  refine CM_items (fun W hm => (hm.addNil (E := tyActive) (e := 93)).last) ?_
  let F1 := fun k (s : (List DActive)) => impl_copyEngine_b1 x0 k s
  let R4 := rng (R := DEngine) F1
  refine CM_loop (σ := Nat × ((List DActive)) × (Option Addr × Nat)) (fun s => [(1, .pointer (some (⟨p41, 0, none⟩ : Addr))), (2, .pointer (some (⟨p42, 0, none⟩ : Addr))), (3, .pointer (some (⟨p54, 0, none⟩ : Addr))), (22, .slice A22 x0.Active.length c23), (23, .int .i64 ((x0.Active.length : Nat) : Int)), (24, .int .i64 ((s.1 : Nat) : Int))]) (fun s => [iBox p54 44 [.slice A45 x0.Store.Segments.length c46, .int .i64 x0.Store.Now, .int .i64 x0.Cursor, .slice A50 x0.Order.length c51, .slice s.2.2.1 s.2.1.length s.2.2.2, .slice none 0 0, .slice none 0 0, .int .i64 x0.Steps], I30, I31, iBox p42 44 K7, iBox p41 44 K8, iOwn (tSl tyActive 93) [.slice s.2.2.1 s.2.1.length s.2.2.2] s.2.1]) (fun s => s.1 ≤ x0.Active.length ∧ R4 (x0.Active.length - s.1) s.1 s.2.1 = R4 (x0.Active.length - 0) 0 [] ∧ s.2.1.length ≤ 0 + s.1) (fun s => x0.Active.length - s.1) (0, [], (none, 0)) sl6 (fun W hm => hm) ⟨(by omega), rfl, Nat.le_refl _⟩ ?_
  rintro ⟨k89, d92, ⟨A93, c94⟩⟩ H97
  obtain ⟨hk95, hF96, hi98⟩ : k89 ≤ x0.Active.length ∧ R4 (x0.Active.length - k89) k89 d92 = R4 (x0.Active.length - 0) 0 [] ∧ d92.length ≤ 0 + k89 := H97
  let K12 : List Value := [.slice A45 x0.Store.Segments.length c46, .int .i64 x0.Store.Now, .int .i64 x0.Cursor, .slice A50 x0.Order.length c51, .slice A93 d92.length c94, .slice none 0 0, .slice none 0 0, .int .i64 x0.Steps]
  let I32 : It := iOwn (tSl tyActive 93) [.slice A93 d92.length c94] d92
  show CM Tryz.prog 67 _ _ _ _ [(1, .pointer (some (⟨p41, 0, none⟩ : Addr))), (2, .pointer (some (⟨p42, 0, none⟩ : Addr))), (3, .pointer (some (⟨p54, 0, none⟩ : Addr))), (22, .slice A22 x0.Active.length c23), (23, .int .i64 ((x0.Active.length : Nat) : Int)), (24, .int .i64 ((k89 : Nat) : Int))] [iBox p54 44 K12, I30, I31, iBox p42 44 K7, iBox p41 44 K8, I32]
  refine sr ?_
  refine wv vlss ?_
  refine nt' (CM_seq ?_)
  by_cases hl99 : k89 < x0.Active.length
  ·have g100 : (decide (((k89 : Nat) : Int) < ((x0.Active.length : Nat) : Int))) = true := decide_eq_true (by omega)
   refine CM_condT rfl g100 ?_
   refine CM_skip (QM_then (CM_seq (CM_block (sr ?_))))
   obtain ⟨a101, rfl, hb102, he103⟩ := q24 (by omega)
   refine wv (vix 10 k89 underlying40 type93) ?_
   obtain ⟨_, e113, hc104⟩ := he103 k89 _ (gt_some (show k89 < x0.Active.length from by omega))
   obtain ⟨v105, v107, v109, v111, rfl, r106, r108, r110, r112⟩ := tyActive_rd e113
   have l114 : ((gt x0.Active k89).Query.Conds).length ≤ 68719476736 := (s_0.2.2.1.2 _ (gt_mem (show k89 < x0.Active.length from by omega))).1.1
   have l115 : ((gt x0.Active k89).Query.Out).length ≤ 68719476736 := (s_0.2.2.1.2 _ (gt_mem (show k89 < x0.Active.length from by omega))).1.2
   have l116 : ((gt x0.Active k89).Todo).length ≤ 68719476736 := (s_0.2.2.1.2 _ (gt_mem (show k89 < x0.Active.length from by omega))).2.1
   have l117 : ((gt x0.Active k89).Rows).length ≤ 68719476736 := (s_0.2.2.1.2 _ (gt_mem (show k89 < x0.Active.length from by omega))).2.2.1
   have r122 := r106
   obtain ⟨m118, A119, c120, rfl, q121⟩ := r106
   have r127 := r108
   obtain ⟨m123, A124, c125, rfl, q126⟩ := r108
   have r132 := r110
   obtain ⟨m128, A129, c130, rfl, q131⟩ := r110
   have r137 := r112
   obtain ⟨m133, A134, c135, rfl, q136⟩ := r112
   let K13 : List Value := [.int .i64 ((gt x0.Active k89).Query.Id), .int .i64 ((gt x0.Active k89).Query.Tenant), .slice A119 ((gt x0.Active k89).Query.Conds).length c120, .slice A124 ((gt x0.Active k89).Query.Out).length c125, .int .i64 ((gt x0.Active k89).Time), .slice A129 ((gt x0.Active k89).Todo).length c130, .int .i64 ((gt x0.Active k89).Age), .int .i64 ((gt x0.Active k89).Sent), .int .i64 ((gt x0.Active k89).Cap), .slice A134 ((gt x0.Active k89).Rows).length c135]
   refine wv (fun W hm => rv_loadN (cs := K13) underlying93 type93 rfl rfl (hm.elCells (show (a101.add (k89 * 10)).block < w.heap.size from by rw [add_block]; exact hb102.1) hc104)) ?_
   refine WM_alloc type93 rfl (Wd_none rfl) (by decide) (fun p138 => ?_)
   let K14 : List Value := [.slice A12 x0.Store.Segments.length c13, .int .i64 x0.Store.Now, .int .i64 x0.Cursor, .slice A17 x0.Order.length c18, .slice (some a101) x0.Active.length c23, .slice A27 x0.Done.length c28, .slice A32 x0.Ledger.length c33, .int .i64 x0.Steps]
   refine sb 0 K13 [iBox p54 44 K12, I30, I31, iBox p42 44 K7, iBox p41 44 K14, I32] (fun W hm => hm) type93 ?_
   refine nt' ?_
   refine CM_cut (σ := Option Addr × Nat) (fun s => [(1, .pointer (some (⟨p41, 0, none⟩ : Addr))), (2, .pointer (some (⟨p42, 0, none⟩ : Addr))), (3, .pointer (some (⟨p54, 0, none⟩ : Addr))), (22, .slice (some a101) x0.Active.length c23), (23, .int .i64 ((x0.Active.length : Nat) : Int)), (24, .int .i64 ((k89 : Nat) : Int))]) (fun s => [iBox p54 44 [.slice A45 x0.Store.Segments.length c46, .int .i64 x0.Store.Now, .int .i64 x0.Cursor, .slice A50 x0.Order.length c51, .slice s.1 (d92 ++ [(gt x0.Active k89)]).length s.2, .slice none 0 0, .slice none 0 0, .int .i64 x0.Steps], iOwn (tSl tyActive 93) [.slice s.1 (d92 ++ [(gt x0.Active k89)]).length s.2] (d92 ++ [(gt x0.Active k89)]), iBox p138 93 K13, I30, I31, iBox p42 44 K7, iBox p41 44 K14]) (fun _ => True) ?_ ?_
   ·
    refine rb 8 (s := [iBox p138 93 K13, I30, I31, iBox p42 44 K7, iBox p41 44 K14]) (pk [0, 2, 3, 4, 5]) ?_
    refine qt 8 0 1 rfl (vf underlying44 rfl type40) ?_
    refine qt 8 2 5 rfl (fun W hm => rv_loadN (cs := K13) underlying93 type93 rfl rfl (hm.boxCells (n := 0) rfl)) ?_
    refine qa [1, 3] ?_
    refine qc 8 7 rfl ?_ ?_
    ·
     refine wv (vl 1 4 underlying40) ?_
     refine qn (pk [0, 2, 3, 4, 5]) ?_
     refine qo 8 3 15 rfl ?_
     refine wcs tyActive (gt x0.Active k89) (cl_fn cb76 rfl) (fun W hm => impl_copyActive_c2 W _ (gt x0.Active k89) (tyActive_mk (x := (gt x0.Active k89)) (hm.rdS0 r122) (hm.rdS0 r127) (hm.rdS0 r132) (hm.rdS0 r137)) (s_0.2.2.1.2 _ (gt_mem (show k89 < x0.Active.length from by omega)))) (fun z166 => ?_)
     refine tyActive_sp ?_
     rintro ⟨v167, v168, v169, v170⟩ rfl
     refine WM_form (n := 0) rfl ?_
     rintro A171 c172 rfl m173
     refine WM_form (n := 1) rfl ?_
     rintro A175 c176 rfl m177
     refine WM_form (n := 2) rfl ?_
     rintro A179 c180 rfl m181
     refine WM_form (n := 3) rfl ?_
     rintro A183 c184 rfl m185
     refine qn (pk [4, 6, 7, 8, 9]) ?_
     refine qo 8 4 31 rfl ?_
     let K15 : List Value := [.int .i64 ((gt x0.Active k89).Query.Id), .int .i64 ((gt x0.Active k89).Query.Tenant), .slice A171 ((gt x0.Active k89).Query.Conds).length c172, .slice A175 ((gt x0.Active k89).Query.Out).length c176, .int .i64 ((gt x0.Active k89).Time), .slice A179 ((gt x0.Active k89).Todo).length c180, .int .i64 ((gt x0.Active k89).Age), .int .i64 ((gt x0.Active k89).Sent), .int .i64 ((gt x0.Active k89).Cap), .slice A183 ((gt x0.Active k89).Rows).length c184]
     refine WM_build (cs := K15) underlying40 type93 rfl (by decide) (by decide) rfl (by kernel_rfl) (Wd_none rfl) (by decide) (fun p187 => ?_)
     refine qn (pk [5, 7, 8, 9, 10]) ?_
     refine qo 8 5 63 rfl ?_
     refine ap1 tyActive 93 (.slice A93 d92.length c94) d92 (gt x0.Active k89) [iOwn (tSl tyCond 102) [.slice A171 ((gt x0.Active k89).Query.Conds).length c172] ((gt x0.Active k89).Query.Conds), iOwn (tSl tInt 3) [.slice A175 ((gt x0.Active k89).Query.Out).length c176] ((gt x0.Active k89).Query.Out), iOwn (tSl tInt 3) [.slice A179 ((gt x0.Active k89).Todo).length c180] ((gt x0.Active k89).Todo), iOwn (tSl tyRow 138) [.slice A183 ((gt x0.Active k89).Rows).length c184] ((gt x0.Active k89).Rows)] [iBox p138 93 K13, iBox p54 44 K12, I30, I31, iBox p42 44 K7, iBox p41 44 K14] K15 (pk [0, 11, 1, 2, 3, 4, 5, 6, 7, 8, 9, 10]) (fun _ _ hs => Els.single (tyActive_join (x := (gt x0.Active k89)) hs)) underlying40 type93 (show (d92.length + 1) * 144 ≤ 140737488355328 from by omega) (fun v188 => ?_)
     refine WM_form (n := 0) rfl ?_
     rintro A189 c190 rfl m191
     refine qn (pk [1, 3, 4, 5, 6]) ?_
     refine qt 8 6 127 rfl (vf underlying44 rfl type40) ?_
     refine qo 8 7 255 rfl ?_
     refine sb 4 [.slice A45 x0.Store.Segments.length c46, .int .i64 x0.Store.Now, .int .i64 x0.Cursor, .slice A50 x0.Order.length c51, .slice A189 (d92 ++ [(gt x0.Active k89)]).length c190, .slice none 0 0, .slice none 0 0, .int .i64 x0.Steps] [iOwn (tSl tyActive 93) [.slice A189 (d92 ++ [(gt x0.Active k89)]).length c190] (d92 ++ [(gt x0.Active k89)]), iBox p138 93 K13, I30, I31, iBox p42 44 K7, iBox p41 44 K14] (pk [2, 0, 1, 3, 4, 5, 6]) type40 ?_
     refine qn (pk [2, 3, 4, 5, 6]) ?_
     refine QB_done (by kernel_rfl) ?_
     exact QM_cut_normal (A189, c190) sl6 (fun W hm => hm) trivial
    refine qc 8 13 rfl ?_ ?_
    ·
     refine wcs tyActive (gt x0.Active k89) (cl_fn cb76 rfl) (fun W hm => impl_copyActive_c2 W _ (gt x0.Active k89) (tyActive_mk (x := (gt x0.Active k89)) (hm.rdS0 r122) (hm.rdS0 r127) (hm.rdS0 r132) (hm.rdS0 r137)) (s_0.2.2.1.2 _ (gt_mem (show k89 < x0.Active.length from by omega)))) (fun z193 => ?_)
     refine tyActive_sp ?_
     rintro ⟨v194, v195, v196, v197⟩ rfl
     refine WM_form (n := 0) rfl ?_
     rintro A198 c199 rfl m200
     refine WM_form (n := 1) rfl ?_
     rintro A202 c203 rfl m204
     refine WM_form (n := 2) rfl ?_
     rintro A206 c207 rfl m208
     refine WM_form (n := 3) rfl ?_
     rintro A210 c211 rfl m212
     refine qn (pk [4, 6, 7, 8, 9]) ?_
     refine qa [1, 4] ?_
     refine qc 8 15 rfl ?_ ?_
     ·
      refine wv (vl 5 4 underlying40) ?_
      refine qn (pk [4, 6, 7, 8, 9]) ?_
      refine qo 8 4 31 rfl ?_
      let K16 : List Value := [.int .i64 ((gt x0.Active k89).Query.Id), .int .i64 ((gt x0.Active k89).Query.Tenant), .slice A198 ((gt x0.Active k89).Query.Conds).length c199, .slice A202 ((gt x0.Active k89).Query.Out).length c203, .int .i64 ((gt x0.Active k89).Time), .slice A206 ((gt x0.Active k89).Todo).length c207, .int .i64 ((gt x0.Active k89).Age), .int .i64 ((gt x0.Active k89).Sent), .int .i64 ((gt x0.Active k89).Cap), .slice A210 ((gt x0.Active k89).Rows).length c211]
      refine WM_build (cs := K16) underlying40 type93 rfl (by decide) (by decide) rfl (by kernel_rfl) (Wd_none rfl) (by decide) (fun p214 => ?_)
      refine qn (pk [5, 7, 8, 9, 10]) ?_
      refine qo 8 5 63 rfl ?_
      refine ap1 tyActive 93 (.slice A93 d92.length c94) d92 (gt x0.Active k89) [iOwn (tSl tyCond 102) [.slice A198 ((gt x0.Active k89).Query.Conds).length c199] ((gt x0.Active k89).Query.Conds), iOwn (tSl tInt 3) [.slice A202 ((gt x0.Active k89).Query.Out).length c203] ((gt x0.Active k89).Query.Out), iOwn (tSl tInt 3) [.slice A206 ((gt x0.Active k89).Todo).length c207] ((gt x0.Active k89).Todo), iOwn (tSl tyRow 138) [.slice A210 ((gt x0.Active k89).Rows).length c211] ((gt x0.Active k89).Rows)] [iBox p138 93 K13, iBox p54 44 K12, I30, I31, iBox p42 44 K7, iBox p41 44 K14] K16 (pk [0, 11, 1, 2, 3, 4, 5, 6, 7, 8, 9, 10]) (fun _ _ hs => Els.single (tyActive_join (x := (gt x0.Active k89)) hs)) underlying40 type93 (show (d92.length + 1) * 144 ≤ 140737488355328 from by omega) (fun v215 => ?_)
      refine WM_form (n := 0) rfl ?_
      rintro A216 c217 rfl m218
      refine qn (pk [1, 3, 4, 5, 6]) ?_
      refine qt 8 6 127 rfl (vf underlying44 rfl type40) ?_
      refine qo 8 7 255 rfl ?_
      refine sb 4 [.slice A45 x0.Store.Segments.length c46, .int .i64 x0.Store.Now, .int .i64 x0.Cursor, .slice A50 x0.Order.length c51, .slice A216 (d92 ++ [(gt x0.Active k89)]).length c217, .slice none 0 0, .slice none 0 0, .int .i64 x0.Steps] [iOwn (tSl tyActive 93) [.slice A216 (d92 ++ [(gt x0.Active k89)]).length c217] (d92 ++ [(gt x0.Active k89)]), iBox p138 93 K13, I30, I31, iBox p42 44 K7, iBox p41 44 K14] (pk [2, 0, 1, 3, 4, 5, 6]) type40 ?_
      refine qn (pk [2, 3, 4, 5, 6]) ?_
      refine QB_done (by kernel_rfl) ?_
      exact QM_cut_normal (A216, c217) sl6 (fun W hm => hm) trivial
     refine qc 8 29 rfl ?_ ?_
     ·
      let K17 : List Value := [.int .i64 ((gt x0.Active k89).Query.Id), .int .i64 ((gt x0.Active k89).Query.Tenant), .slice A198 ((gt x0.Active k89).Query.Conds).length c199, .slice A202 ((gt x0.Active k89).Query.Out).length c203, .int .i64 ((gt x0.Active k89).Time), .slice A206 ((gt x0.Active k89).Todo).length c207, .int .i64 ((gt x0.Active k89).Age), .int .i64 ((gt x0.Active k89).Sent), .int .i64 ((gt x0.Active k89).Cap), .slice A210 ((gt x0.Active k89).Rows).length c211]
      refine WM_build (cs := K17) underlying40 type93 rfl (by decide) (by decide) rfl (by kernel_rfl) (Wd_none rfl) (by decide) (fun p220 => ?_)
      refine qn (pk [5, 7, 8, 9, 10]) ?_
      refine qo 8 1 31 rfl ?_
      refine wv (vl 6 4 underlying40) ?_
      refine qn (pk [5, 7, 8, 9, 10]) ?_
      refine qo 8 5 63 rfl ?_
      refine ap1 tyActive 93 (.slice A93 d92.length c94) d92 (gt x0.Active k89) [iOwn (tSl tyCond 102) [.slice A198 ((gt x0.Active k89).Query.Conds).length c199] ((gt x0.Active k89).Query.Conds), iOwn (tSl tInt 3) [.slice A202 ((gt x0.Active k89).Query.Out).length c203] ((gt x0.Active k89).Query.Out), iOwn (tSl tInt 3) [.slice A206 ((gt x0.Active k89).Todo).length c207] ((gt x0.Active k89).Todo), iOwn (tSl tyRow 138) [.slice A210 ((gt x0.Active k89).Rows).length c211] ((gt x0.Active k89).Rows)] [iBox p138 93 K13, iBox p54 44 K12, I30, I31, iBox p42 44 K7, iBox p41 44 K14] K17 (pk [0, 11, 1, 2, 3, 4, 5, 6, 7, 8, 9, 10]) (fun _ _ hs => Els.single (tyActive_join (x := (gt x0.Active k89)) hs)) underlying40 type93 (show (d92.length + 1) * 144 ≤ 140737488355328 from by omega) (fun v221 => ?_)
      refine WM_form (n := 0) rfl ?_
      rintro A222 c223 rfl m224
      refine qn (pk [1, 3, 4, 5, 6]) ?_
      refine qt 8 6 127 rfl (vf underlying44 rfl type40) ?_
      refine qo 8 7 255 rfl ?_
      refine sb 4 [.slice A45 x0.Store.Segments.length c46, .int .i64 x0.Store.Now, .int .i64 x0.Cursor, .slice A50 x0.Order.length c51, .slice A222 (d92 ++ [(gt x0.Active k89)]).length c223, .slice none 0 0, .slice none 0 0, .int .i64 x0.Steps] [iOwn (tSl tyActive 93) [.slice A222 (d92 ++ [(gt x0.Active k89)]).length c223] (d92 ++ [(gt x0.Active k89)]), iBox p138 93 K13, I30, I31, iBox p42 44 K7, iBox p41 44 K14] (pk [2, 0, 1, 3, 4, 5, 6]) type40 ?_
      refine qn (pk [2, 3, 4, 5, 6]) ?_
      refine QB_done (by kernel_rfl) ?_
      exact QM_cut_normal (A222, c223) sl6 (fun W hm => hm) trivial
     exact QBs_nil
    exact QBs_nil
   ·
    rintro ⟨A162, c163⟩ -
    show QM 67 _ _ _ .normal [(1, .pointer (some (⟨p41, 0, none⟩ : Addr))), (2, .pointer (some (⟨p42, 0, none⟩ : Addr))), (3, .pointer (some (⟨p54, 0, none⟩ : Addr))), (22, .slice (some a101) x0.Active.length c23), (23, .int .i64 ((x0.Active.length : Nat) : Int)), (24, .int .i64 ((k89 : Nat) : Int))] [iBox p54 44 [.slice A45 x0.Store.Segments.length c46, .int .i64 x0.Store.Now, .int .i64 x0.Cursor, .slice A50 x0.Order.length c51, .slice A162 (d92 ++ [(gt x0.Active k89)]).length c163, .slice none 0 0, .slice none 0 0, .int .i64 x0.Steps], iOwn (tSl tyActive 93) [.slice A162 (d92 ++ [(gt x0.Active k89)]).length c163] (d92 ++ [(gt x0.Active k89)]), iBox p138 93 K13, I30, I31, iBox p42 44 K7, iBox p41 44 K14]
    refine QM_len (n := 1) rfl ?_
    intro m226 m227
    refine QM_block_normal (QM_then (CM_region ?_))
    refine wv (vadN k89 1 (by omega)) ?_
    refine wm (WM_nil ?_)
    have hn228 := rng_next (R := DEngine) (body := F1) (k := k89) (s := d92) (s' := (d92 ++ [(gt x0.Active k89)])) (show k89 < x0.Active.length from by omega) (show impl_copyEngine_b1 x0 k89 d92 = Sum.inr (d92 ++ [(gt x0.Active k89)]) from by unfold impl_copyEngine_b1; exact rfl) hF96
    exact QM_round (k89 + 1, (d92 ++ [(gt x0.Active k89)]), (A162, c163)) sl6 (pk [0, 3, 4, 5, 6, 1]) ⟨(by omega), hn228, (show (d92 ++ [(gt x0.Active k89)]).length ≤ 0 + (k89 + 1) from by first | omega | (simp only [List.length_append, List.length_cons, List.length_nil] at *; omega))⟩ (rl (by omega))
  ·have g100 : (decide (((k89 : Nat) : Int) < ((x0.Active.length : Nat) : Int))) = false := decide_eq_false (by omega)
   refine CM_condF rfl g100 ?_
   refine CM_exit (QM_then_exit (QM_then_exit ?_))
   have hE229 : R4 (x0.Active.length - 0) 0 [] = Sum.inr d92 := rng_end hl99 hF96
   refine QM_block_hit (QM_then (CM_seq (sr ?_)))
   refine wv (vf underlying44 rfl type41) ?_
   refine wv (vl 4 5 underlying41) ?_
   refine wv (vlen underlying41) ?_
   refine wm (nt' (CM_block ?_))
   refine CM_items (fun W hm => (hm.addNil (E := tyFinished) (e := 97)).last) ?_
   let F2 := fun k (s : (List DFinished)) => impl_copyEngine_b2 x0 k s
   let R5 := rng (R := DEngine) F2
   refine CM_loop (σ := Nat × ((List DFinished)) × (Option Addr × Nat)) (fun s => [(1, .pointer (some (⟨p41, 0, none⟩ : Addr))), (2, .pointer (some (⟨p42, 0, none⟩ : Addr))), (3, .pointer (some (⟨p54, 0, none⟩ : Addr))), (37, .slice A27 x0.Done.length c28), (38, .int .i64 ((x0.Done.length : Nat) : Int)), (39, .int .i64 ((s.1 : Nat) : Int))]) (fun s => [iBox p54 44 [.slice A45 x0.Store.Segments.length c46, .int .i64 x0.Store.Now, .int .i64 x0.Cursor, .slice A50 x0.Order.length c51, .slice A93 d92.length c94, .slice s.2.2.1 s.2.1.length s.2.2.2, .slice none 0 0, .int .i64 x0.Steps], I30, I31, iBox p42 44 K7, iBox p41 44 K8, I32, iOwn (tSl tyFinished 97) [.slice s.2.2.1 s.2.1.length s.2.2.2] s.2.1]) (fun s => s.1 ≤ x0.Done.length ∧ R5 (x0.Done.length - s.1) s.1 s.2.1 = R5 (x0.Done.length - 0) 0 [] ∧ s.2.1.length ≤ 0 + s.1) (fun s => x0.Done.length - s.1) (0, [], (none, 0)) sl6 (fun W hm => hm) ⟨(by omega), rfl, Nat.le_refl _⟩ ?_
   rintro ⟨k230, d233, ⟨A234, c235⟩⟩ H238
   obtain ⟨hk236, hF237, hi239⟩ : k230 ≤ x0.Done.length ∧ R5 (x0.Done.length - k230) k230 d233 = R5 (x0.Done.length - 0) 0 [] ∧ d233.length ≤ 0 + k230 := H238
   let K18 : List Value := [.slice A45 x0.Store.Segments.length c46, .int .i64 x0.Store.Now, .int .i64 x0.Cursor, .slice A50 x0.Order.length c51, .slice A93 d92.length c94, .slice A234 d233.length c235, .slice none 0 0, .int .i64 x0.Steps]
   let I33 : It := iOwn (tSl tyFinished 97) [.slice A234 d233.length c235] d233
   show CM Tryz.prog 67 _ _ _ _ [(1, .pointer (some (⟨p41, 0, none⟩ : Addr))), (2, .pointer (some (⟨p42, 0, none⟩ : Addr))), (3, .pointer (some (⟨p54, 0, none⟩ : Addr))), (37, .slice A27 x0.Done.length c28), (38, .int .i64 ((x0.Done.length : Nat) : Int)), (39, .int .i64 ((k230 : Nat) : Int))] [iBox p54 44 K18, I30, I31, iBox p42 44 K7, iBox p41 44 K8, I32, I33]
   refine sr ?_
   refine wv vlss ?_
   refine nt' (CM_seq ?_)
   by_cases hl240 : k230 < x0.Done.length
   ·have g241 : (decide (((k230 : Nat) : Int) < ((x0.Done.length : Nat) : Int))) = true := decide_eq_true (by omega)
    refine CM_condT rfl g241 ?_
    refine CM_skip (QM_then (CM_seq (CM_block (sr ?_))))
    obtain ⟨a242, rfl, hb243, he244⟩ := q29 (by omega)
    refine wv (vix 7 k230 underlying41 type97) ?_
    obtain ⟨_, e252, hc245⟩ := he244 k230 _ (gt_some (show k230 < x0.Done.length from by omega))
    obtain ⟨v246, v248, v250, rfl, r247, r249, r251⟩ := tyFinished_rd e252
    have l253 : ((gt x0.Done k230).Query.Conds).length ≤ 68719476736 := (s_0.2.2.2.1.2 _ (gt_mem (show k230 < x0.Done.length from by omega))).1.1
    have l254 : ((gt x0.Done k230).Query.Out).length ≤ 68719476736 := (s_0.2.2.2.1.2 _ (gt_mem (show k230 < x0.Done.length from by omega))).1.2
    have l255 : ((gt x0.Done k230).Rows).length ≤ 68719476736 := (s_0.2.2.2.1.2 _ (gt_mem (show k230 < x0.Done.length from by omega))).2.1
    have r260 := r247
    obtain ⟨m256, A257, c258, rfl, q259⟩ := r247
    have r265 := r249
    obtain ⟨m261, A262, c263, rfl, q264⟩ := r249
    have r270 := r251
    obtain ⟨m266, A267, c268, rfl, q269⟩ := r251
    let K19 : List Value := [.int .i64 ((gt x0.Done k230).Query.Id), .int .i64 ((gt x0.Done k230).Query.Tenant), .slice A257 ((gt x0.Done k230).Query.Conds).length c258, .slice A262 ((gt x0.Done k230).Query.Out).length c263, .int .i64 ((gt x0.Done k230).Time), .int .i64 ((gt x0.Done k230).Steps), .slice A267 ((gt x0.Done k230).Rows).length c268]
    refine wv (fun W hm => rv_loadN (cs := K19) underlying97 type97 rfl rfl (hm.elCells (show (a242.add (k230 * 7)).block < w.heap.size from by rw [add_block]; exact hb243.1) hc245)) ?_
    refine WM_alloc type97 rfl (Wd_none rfl) (by decide) (fun p271 => ?_)
    let K20 : List Value := [.slice A12 x0.Store.Segments.length c13, .int .i64 x0.Store.Now, .int .i64 x0.Cursor, .slice A17 x0.Order.length c18, .slice A22 x0.Active.length c23, .slice (some a242) x0.Done.length c28, .slice A32 x0.Ledger.length c33, .int .i64 x0.Steps]
    refine sb 0 K19 [iBox p54 44 K18, I30, I31, iBox p42 44 K7, iBox p41 44 K20, I32, I33] (fun W hm => hm) type97 ?_
    refine nt' ?_
    refine CM_cut (σ := Option Addr × Nat) (fun s => [(1, .pointer (some (⟨p41, 0, none⟩ : Addr))), (2, .pointer (some (⟨p42, 0, none⟩ : Addr))), (3, .pointer (some (⟨p54, 0, none⟩ : Addr))), (37, .slice (some a242) x0.Done.length c28), (38, .int .i64 ((x0.Done.length : Nat) : Int)), (39, .int .i64 ((k230 : Nat) : Int))]) (fun s => [iBox p54 44 [.slice A45 x0.Store.Segments.length c46, .int .i64 x0.Store.Now, .int .i64 x0.Cursor, .slice A50 x0.Order.length c51, .slice A93 d92.length c94, .slice s.1 (d233 ++ [(gt x0.Done k230)]).length s.2, .slice none 0 0, .int .i64 x0.Steps], iOwn (tSl tyFinished 97) [.slice s.1 (d233 ++ [(gt x0.Done k230)]).length s.2] (d233 ++ [(gt x0.Done k230)]), iBox p271 97 K19, I30, I31, iBox p42 44 K7, iBox p41 44 K20, I32]) (fun _ => True) ?_ ?_
    ·
     refine rb 8 (s := [iBox p271 97 K19, I30, I31, iBox p42 44 K7, iBox p41 44 K20, I32]) (pk [0, 2, 3, 4, 5, 6]) ?_
     refine qt 8 0 1 rfl (vf underlying44 rfl type41) ?_
     refine qt 8 2 5 rfl (fun W hm => rv_loadN (cs := K19) underlying97 type97 rfl rfl (hm.boxCells (n := 0) rfl)) ?_
     refine qa [1, 3] ?_
     refine qc 8 7 rfl ?_ ?_
     ·
      refine wv (vl 1 5 underlying41) ?_
      refine qn (pk [0, 2, 3, 4, 5, 6]) ?_
      refine qo 8 3 15 rfl ?_
      refine wcs tyFinished (gt x0.Done k230) (cl_fn cb77 rfl) (fun W hm => impl_copyFinished_c2 W _ (gt x0.Done k230) (tyFinished_mk (x := (gt x0.Done k230)) (hm.rdS0 r260) (hm.rdS0 r265) (hm.rdS0 r270)) (s_0.2.2.2.1.2 _ (gt_mem (show k230 < x0.Done.length from by omega)))) (fun z294 => ?_)
      refine tyFinished_sp ?_
      rintro ⟨v295, v296, v297⟩ rfl
      refine WM_form (n := 0) rfl ?_
      rintro A298 c299 rfl m300
      refine WM_form (n := 1) rfl ?_
      rintro A302 c303 rfl m304
      refine WM_form (n := 2) rfl ?_
      rintro A306 c307 rfl m308
      refine qn (pk [3, 5, 6, 7, 8, 9]) ?_
      refine qo 8 4 31 rfl ?_
      let K21 : List Value := [.int .i64 ((gt x0.Done k230).Query.Id), .int .i64 ((gt x0.Done k230).Query.Tenant), .slice A298 ((gt x0.Done k230).Query.Conds).length c299, .slice A302 ((gt x0.Done k230).Query.Out).length c303, .int .i64 ((gt x0.Done k230).Time), .int .i64 ((gt x0.Done k230).Steps), .slice A306 ((gt x0.Done k230).Rows).length c307]
      refine WM_build (cs := K21) underlying41 type97 rfl (by decide) (by decide) rfl (by kernel_rfl) (Wd_none rfl) (by decide) (fun p310 => ?_)
      refine qn (pk [4, 6, 7, 8, 9, 10]) ?_
      refine qo 8 5 63 rfl ?_
      refine ap1 tyFinished 97 (.slice A234 d233.length c235) d233 (gt x0.Done k230) [iOwn (tSl tyCond 102) [.slice A298 ((gt x0.Done k230).Query.Conds).length c299] ((gt x0.Done k230).Query.Conds), iOwn (tSl tInt 3) [.slice A302 ((gt x0.Done k230).Query.Out).length c303] ((gt x0.Done k230).Query.Out), iOwn (tSl tyRow 138) [.slice A306 ((gt x0.Done k230).Rows).length c307] ((gt x0.Done k230).Rows)] [iBox p271 97 K19, iBox p54 44 K18, I30, I31, iBox p42 44 K7, iBox p41 44 K20, I32] K21 (pk [0, 11, 1, 2, 3, 4, 5, 6, 7, 8, 9, 10]) (fun _ _ hs => Els.single (tyFinished_join (x := (gt x0.Done k230)) hs)) underlying41 type97 (show (d233.length + 1) * 104 ≤ 140737488355328 from by omega) (fun v311 => ?_)
      refine WM_form (n := 0) rfl ?_
      rintro A312 c313 rfl m314
      refine qn (pk [1, 3, 4, 5, 6, 7]) ?_
      refine qt 8 6 127 rfl (vf underlying44 rfl type41) ?_
      refine qo 8 7 255 rfl ?_
      refine sb 5 [.slice A45 x0.Store.Segments.length c46, .int .i64 x0.Store.Now, .int .i64 x0.Cursor, .slice A50 x0.Order.length c51, .slice A93 d92.length c94, .slice A312 (d233 ++ [(gt x0.Done k230)]).length c313, .slice none 0 0, .int .i64 x0.Steps] [iOwn (tSl tyFinished 97) [.slice A312 (d233 ++ [(gt x0.Done k230)]).length c313] (d233 ++ [(gt x0.Done k230)]), iBox p271 97 K19, I30, I31, iBox p42 44 K7, iBox p41 44 K20, I32] (pk [2, 0, 1, 3, 4, 5, 6, 7]) type41 ?_
      refine qn (pk [2, 3, 4, 5, 6, 7]) ?_
      refine QB_done (by kernel_rfl) ?_
      exact QM_cut_normal (A312, c313) sl6 (fun W hm => hm) trivial
     refine qc 8 13 rfl ?_ ?_
     ·
      refine wcs tyFinished (gt x0.Done k230) (cl_fn cb77 rfl) (fun W hm => impl_copyFinished_c2 W _ (gt x0.Done k230) (tyFinished_mk (x := (gt x0.Done k230)) (hm.rdS0 r260) (hm.rdS0 r265) (hm.rdS0 r270)) (s_0.2.2.2.1.2 _ (gt_mem (show k230 < x0.Done.length from by omega)))) (fun z316 => ?_)
      refine tyFinished_sp ?_
      rintro ⟨v317, v318, v319⟩ rfl
      refine WM_form (n := 0) rfl ?_
      rintro A320 c321 rfl m322
      refine WM_form (n := 1) rfl ?_
      rintro A324 c325 rfl m326
      refine WM_form (n := 2) rfl ?_
      rintro A328 c329 rfl m330
      refine qn (pk [3, 5, 6, 7, 8, 9]) ?_
      refine qa [1, 4] ?_
      refine qc 8 15 rfl ?_ ?_
      ·
       refine wv (vl 4 5 underlying41) ?_
       refine qn (pk [3, 5, 6, 7, 8, 9]) ?_
       refine qo 8 4 31 rfl ?_
       let K22 : List Value := [.int .i64 ((gt x0.Done k230).Query.Id), .int .i64 ((gt x0.Done k230).Query.Tenant), .slice A320 ((gt x0.Done k230).Query.Conds).length c321, .slice A324 ((gt x0.Done k230).Query.Out).length c325, .int .i64 ((gt x0.Done k230).Time), .int .i64 ((gt x0.Done k230).Steps), .slice A328 ((gt x0.Done k230).Rows).length c329]
       refine WM_build (cs := K22) underlying41 type97 rfl (by decide) (by decide) rfl (by kernel_rfl) (Wd_none rfl) (by decide) (fun p332 => ?_)
       refine qn (pk [4, 6, 7, 8, 9, 10]) ?_
       refine qo 8 5 63 rfl ?_
       refine ap1 tyFinished 97 (.slice A234 d233.length c235) d233 (gt x0.Done k230) [iOwn (tSl tyCond 102) [.slice A320 ((gt x0.Done k230).Query.Conds).length c321] ((gt x0.Done k230).Query.Conds), iOwn (tSl tInt 3) [.slice A324 ((gt x0.Done k230).Query.Out).length c325] ((gt x0.Done k230).Query.Out), iOwn (tSl tyRow 138) [.slice A328 ((gt x0.Done k230).Rows).length c329] ((gt x0.Done k230).Rows)] [iBox p271 97 K19, iBox p54 44 K18, I30, I31, iBox p42 44 K7, iBox p41 44 K20, I32] K22 (pk [0, 11, 1, 2, 3, 4, 5, 6, 7, 8, 9, 10]) (fun _ _ hs => Els.single (tyFinished_join (x := (gt x0.Done k230)) hs)) underlying41 type97 (show (d233.length + 1) * 104 ≤ 140737488355328 from by omega) (fun v333 => ?_)
       refine WM_form (n := 0) rfl ?_
       rintro A334 c335 rfl m336
       refine qn (pk [1, 3, 4, 5, 6, 7]) ?_
       refine qt 8 6 127 rfl (vf underlying44 rfl type41) ?_
       refine qo 8 7 255 rfl ?_
       refine sb 5 [.slice A45 x0.Store.Segments.length c46, .int .i64 x0.Store.Now, .int .i64 x0.Cursor, .slice A50 x0.Order.length c51, .slice A93 d92.length c94, .slice A334 (d233 ++ [(gt x0.Done k230)]).length c335, .slice none 0 0, .int .i64 x0.Steps] [iOwn (tSl tyFinished 97) [.slice A334 (d233 ++ [(gt x0.Done k230)]).length c335] (d233 ++ [(gt x0.Done k230)]), iBox p271 97 K19, I30, I31, iBox p42 44 K7, iBox p41 44 K20, I32] (pk [2, 0, 1, 3, 4, 5, 6, 7]) type41 ?_
       refine qn (pk [2, 3, 4, 5, 6, 7]) ?_
       refine QB_done (by kernel_rfl) ?_
       exact QM_cut_normal (A334, c335) sl6 (fun W hm => hm) trivial
      refine qc 8 29 rfl ?_ ?_
      ·
       let K23 : List Value := [.int .i64 ((gt x0.Done k230).Query.Id), .int .i64 ((gt x0.Done k230).Query.Tenant), .slice A320 ((gt x0.Done k230).Query.Conds).length c321, .slice A324 ((gt x0.Done k230).Query.Out).length c325, .int .i64 ((gt x0.Done k230).Time), .int .i64 ((gt x0.Done k230).Steps), .slice A328 ((gt x0.Done k230).Rows).length c329]
       refine WM_build (cs := K23) underlying41 type97 rfl (by decide) (by decide) rfl (by kernel_rfl) (Wd_none rfl) (by decide) (fun p338 => ?_)
       refine qn (pk [4, 6, 7, 8, 9, 10]) ?_
       refine qo 8 1 31 rfl ?_
       refine wv (vl 5 5 underlying41) ?_
       refine qn (pk [4, 6, 7, 8, 9, 10]) ?_
       refine qo 8 5 63 rfl ?_
       refine ap1 tyFinished 97 (.slice A234 d233.length c235) d233 (gt x0.Done k230) [iOwn (tSl tyCond 102) [.slice A320 ((gt x0.Done k230).Query.Conds).length c321] ((gt x0.Done k230).Query.Conds), iOwn (tSl tInt 3) [.slice A324 ((gt x0.Done k230).Query.Out).length c325] ((gt x0.Done k230).Query.Out), iOwn (tSl tyRow 138) [.slice A328 ((gt x0.Done k230).Rows).length c329] ((gt x0.Done k230).Rows)] [iBox p271 97 K19, iBox p54 44 K18, I30, I31, iBox p42 44 K7, iBox p41 44 K20, I32] K23 (pk [0, 11, 1, 2, 3, 4, 5, 6, 7, 8, 9, 10]) (fun _ _ hs => Els.single (tyFinished_join (x := (gt x0.Done k230)) hs)) underlying41 type97 (show (d233.length + 1) * 104 ≤ 140737488355328 from by omega) (fun v339 => ?_)
       refine WM_form (n := 0) rfl ?_
       rintro A340 c341 rfl m342
       refine qn (pk [1, 3, 4, 5, 6, 7]) ?_
       refine qt 8 6 127 rfl (vf underlying44 rfl type41) ?_
       refine qo 8 7 255 rfl ?_
       refine sb 5 [.slice A45 x0.Store.Segments.length c46, .int .i64 x0.Store.Now, .int .i64 x0.Cursor, .slice A50 x0.Order.length c51, .slice A93 d92.length c94, .slice A340 (d233 ++ [(gt x0.Done k230)]).length c341, .slice none 0 0, .int .i64 x0.Steps] [iOwn (tSl tyFinished 97) [.slice A340 (d233 ++ [(gt x0.Done k230)]).length c341] (d233 ++ [(gt x0.Done k230)]), iBox p271 97 K19, I30, I31, iBox p42 44 K7, iBox p41 44 K20, I32] (pk [2, 0, 1, 3, 4, 5, 6, 7]) type41 ?_
       refine qn (pk [2, 3, 4, 5, 6, 7]) ?_
       refine QB_done (by kernel_rfl) ?_
       exact QM_cut_normal (A340, c341) sl6 (fun W hm => hm) trivial
      exact QBs_nil
     exact QBs_nil
    ·
     rintro ⟨A290, c291⟩ -
     show QM 67 _ _ _ .normal [(1, .pointer (some (⟨p41, 0, none⟩ : Addr))), (2, .pointer (some (⟨p42, 0, none⟩ : Addr))), (3, .pointer (some (⟨p54, 0, none⟩ : Addr))), (37, .slice (some a242) x0.Done.length c28), (38, .int .i64 ((x0.Done.length : Nat) : Int)), (39, .int .i64 ((k230 : Nat) : Int))] [iBox p54 44 [.slice A45 x0.Store.Segments.length c46, .int .i64 x0.Store.Now, .int .i64 x0.Cursor, .slice A50 x0.Order.length c51, .slice A93 d92.length c94, .slice A290 (d233 ++ [(gt x0.Done k230)]).length c291, .slice none 0 0, .int .i64 x0.Steps], iOwn (tSl tyFinished 97) [.slice A290 (d233 ++ [(gt x0.Done k230)]).length c291] (d233 ++ [(gt x0.Done k230)]), iBox p271 97 K19, I30, I31, iBox p42 44 K7, iBox p41 44 K20, I32]
     refine QM_len (n := 1) rfl ?_
     intro m344 m345
     refine QM_block_normal (QM_then (CM_region ?_))
     refine wv (vadN k230 1 (by omega)) ?_
     refine wm (WM_nil ?_)
     have hn346 := rng_next (R := DEngine) (body := F2) (k := k230) (s := d233) (s' := (d233 ++ [(gt x0.Done k230)])) (show k230 < x0.Done.length from by omega) (show impl_copyEngine_b2 x0 k230 d233 = Sum.inr (d233 ++ [(gt x0.Done k230)]) from by unfold impl_copyEngine_b2; exact rfl) hF237
     exact QM_round (k230 + 1, (d233 ++ [(gt x0.Done k230)]), (A290, c291)) sl6 (pk [0, 3, 4, 5, 6, 7, 1]) ⟨(by omega), hn346, (show (d233 ++ [(gt x0.Done k230)]).length ≤ 0 + (k230 + 1) from by first | omega | (simp only [List.length_append, List.length_cons, List.length_nil] at *; omega))⟩ (rl (by omega))
   ·have g241 : (decide (((k230 : Nat) : Int) < ((x0.Done.length : Nat) : Int))) = false := decide_eq_false (by omega)
    refine CM_condF rfl g241 ?_
    refine CM_exit (QM_then_exit (QM_then_exit ?_))
    have hE347 : R5 (x0.Done.length - 0) 0 [] = Sum.inr d233 := rng_end hl240 hF237
    refine QM_block_hit (QM_then (CM_seq (sr ?_)))
    refine wv (vf underlying44 rfl type42) ?_
    refine wv (vl 4 6 underlying42) ?_
    refine wv (vlen underlying42) ?_
    refine wm (nt' (CM_block ?_))
    refine CM_items (fun W hm => (hm.addNil (E := tyCharge) (e := 99)).last) ?_
    let F3 := fun k (s : (List DCharge)) => impl_copyEngine_b3 x0 k s
    let R6 := rng (R := DEngine) F3
    refine CM_loop (σ := Nat × ((List DCharge)) × (Option Addr × Nat)) (fun s => [(2, .pointer (some (⟨p42, 0, none⟩ : Addr))), (3, .pointer (some (⟨p54, 0, none⟩ : Addr))), (52, .slice A32 x0.Ledger.length c33), (53, .int .i64 ((x0.Ledger.length : Nat) : Int)), (54, .int .i64 ((s.1 : Nat) : Int))]) (fun s => [iBox p54 44 [.slice A45 x0.Store.Segments.length c46, .int .i64 x0.Store.Now, .int .i64 x0.Cursor, .slice A50 x0.Order.length c51, .slice A93 d92.length c94, .slice A234 d233.length c235, .slice s.2.2.1 s.2.1.length s.2.2.2, .int .i64 x0.Steps], I30, I31, iBox p42 44 K7, iBox p41 44 K8, I32, I33, iOwn (tSl tyCharge 99) [.slice s.2.2.1 s.2.1.length s.2.2.2] s.2.1]) (fun s => s.1 ≤ x0.Ledger.length ∧ R6 (x0.Ledger.length - s.1) s.1 s.2.1 = R6 (x0.Ledger.length - 0) 0 [] ∧ s.2.1.length ≤ 0 + s.1) (fun s => x0.Ledger.length - s.1) (0, [], (none, 0)) sl5 (fun W hm => hm) ⟨(by omega), rfl, Nat.le_refl _⟩ ?_
    rintro ⟨k348, d351, ⟨A352, c353⟩⟩ H356
    obtain ⟨hk354, hF355, hi357⟩ : k348 ≤ x0.Ledger.length ∧ R6 (x0.Ledger.length - k348) k348 d351 = R6 (x0.Ledger.length - 0) 0 [] ∧ d351.length ≤ 0 + k348 := H356
    let K24 : List Value := [.slice A45 x0.Store.Segments.length c46, .int .i64 x0.Store.Now, .int .i64 x0.Cursor, .slice A50 x0.Order.length c51, .slice A93 d92.length c94, .slice A234 d233.length c235, .slice A352 d351.length c353, .int .i64 x0.Steps]
    let I34 : It := iOwn (tSl tyCharge 99) [.slice A352 d351.length c353] d351
    show CM Tryz.prog 67 _ _ _ _ [(2, .pointer (some (⟨p42, 0, none⟩ : Addr))), (3, .pointer (some (⟨p54, 0, none⟩ : Addr))), (52, .slice A32 x0.Ledger.length c33), (53, .int .i64 ((x0.Ledger.length : Nat) : Int)), (54, .int .i64 ((k348 : Nat) : Int))] [iBox p54 44 K24, I30, I31, iBox p42 44 K7, iBox p41 44 K8, I32, I33, I34]
    refine sr ?_
    refine wv vlss ?_
    refine nt' (CM_seq ?_)
    by_cases hl358 : k348 < x0.Ledger.length
    ·have g359 : (decide (((k348 : Nat) : Int) < ((x0.Ledger.length : Nat) : Int))) = true := decide_eq_true (by omega)
     refine CM_condT rfl g359 ?_
     refine CM_skip (QM_then (CM_seq (CM_block (sr ?_))))
     obtain ⟨a360, rfl, hb361, he362⟩ := q34 (by omega)
     refine wv (vix 5 k348 underlying42 type99) ?_
     obtain ⟨_, e370, hc363⟩ := he362 k348 _ (gt_some (show k348 < x0.Ledger.length from by omega))
     obtain ⟨v364, v366, v368, rfl, r365, r367, r369⟩ := tyCharge_rd e370
     have l371 : ((gt x0.Ledger k348).Ids).length ≤ 68719476736 := (s_0.2.2.2.2.2 _ (gt_mem (show k348 < x0.Ledger.length from by omega))).1
     have l372 : ((gt x0.Ledger k348).Tenants).length ≤ 68719476736 := (s_0.2.2.2.2.2 _ (gt_mem (show k348 < x0.Ledger.length from by omega))).2.1
     have l373 : ((gt x0.Ledger k348).Rows).length ≤ 68719476736 := (s_0.2.2.2.2.2 _ (gt_mem (show k348 < x0.Ledger.length from by omega))).2.2
     have r378 := r365
     obtain ⟨m374, A375, c376, rfl, q377⟩ := r365
     have r383 := r367
     obtain ⟨m379, A380, c381, rfl, q382⟩ := r367
     have r388 := r369
     obtain ⟨m384, A385, c386, rfl, q387⟩ := r369
     let K25 : List Value := [.int .i64 ((gt x0.Ledger k348).Segment), .int .i64 ((gt x0.Ledger k348).Base), .slice A375 ((gt x0.Ledger k348).Ids).length c376, .slice A380 ((gt x0.Ledger k348).Tenants).length c381, .slice A385 ((gt x0.Ledger k348).Rows).length c386]
     refine wv (fun W hm => rv_loadN (cs := K25) underlying99 type99 rfl rfl (hm.elCells (show (a360.add (k348 * 5)).block < w.heap.size from by rw [add_block]; exact hb361.1) hc363)) ?_
     refine WM_alloc type99 rfl (Wd_none rfl) (by decide) (fun p389 => ?_)
     let K26 : List Value := [.slice A12 x0.Store.Segments.length c13, .int .i64 x0.Store.Now, .int .i64 x0.Cursor, .slice A17 x0.Order.length c18, .slice A22 x0.Active.length c23, .slice A27 x0.Done.length c28, .slice (some a360) x0.Ledger.length c33, .int .i64 x0.Steps]
     refine sb 0 K25 [iBox p54 44 K24, I30, I31, iBox p42 44 K7, iBox p41 44 K26, I32, I33, I34] (fun W hm => hm) type99 ?_
     refine nt' ?_
     refine CM_cut (σ := Option Addr × Nat) (fun s => [(2, .pointer (some (⟨p42, 0, none⟩ : Addr))), (3, .pointer (some (⟨p54, 0, none⟩ : Addr))), (52, .slice (some a360) x0.Ledger.length c33), (53, .int .i64 ((x0.Ledger.length : Nat) : Int)), (54, .int .i64 ((k348 : Nat) : Int))]) (fun s => [iBox p54 44 [.slice A45 x0.Store.Segments.length c46, .int .i64 x0.Store.Now, .int .i64 x0.Cursor, .slice A50 x0.Order.length c51, .slice A93 d92.length c94, .slice A234 d233.length c235, .slice s.1 (d351 ++ [(gt x0.Ledger k348)]).length s.2, .int .i64 x0.Steps], iOwn (tSl tyCharge 99) [.slice s.1 (d351 ++ [(gt x0.Ledger k348)]).length s.2] (d351 ++ [(gt x0.Ledger k348)]), iBox p389 99 K25, I30, I31, iBox p42 44 K7, iBox p41 44 K26, I32, I33]) (fun _ => True) ?_ ?_
     ·
      refine rb 8 (s := [iBox p389 99 K25, I30, I31, iBox p42 44 K7, iBox p41 44 K26, I32, I33]) (pk [0, 2, 3, 4, 5, 6, 7]) ?_
      refine qt 8 0 1 rfl (vf underlying44 rfl type42) ?_
      refine qt 8 2 5 rfl (fun W hm => rv_loadN (cs := K25) underlying99 type99 rfl rfl (hm.boxCells (n := 0) rfl)) ?_
      refine qa [1, 3] ?_
      refine qc 8 7 rfl ?_ ?_
      ·
       refine wv (vl 1 6 underlying42) ?_
       refine qn (pk [0, 2, 3, 4, 5, 6, 7]) ?_
       refine qo 8 3 15 rfl ?_
       refine wcs tyCharge (gt x0.Ledger k348) (cl_fn cb78 rfl) (fun W hm => impl_copyCharge_c2 W _ (gt x0.Ledger k348) (tyCharge_mk (x := (gt x0.Ledger k348)) (hm.rdS0 r378) (hm.rdS0 r383) (hm.rdS0 r388)) (s_0.2.2.2.2.2 _ (gt_mem (show k348 < x0.Ledger.length from by omega)))) (fun z412 => ?_)
       refine tyCharge_sp ?_
       rintro ⟨v413, v414, v415⟩ rfl
       refine WM_form (n := 0) rfl ?_
       rintro A416 c417 rfl m418
       refine WM_form (n := 1) rfl ?_
       rintro A420 c421 rfl m422
       refine WM_form (n := 2) rfl ?_
       rintro A424 c425 rfl m426
       refine qn (pk [3, 5, 6, 7, 8, 9, 10]) ?_
       refine qo 8 4 31 rfl ?_
       let K27 : List Value := [.int .i64 ((gt x0.Ledger k348).Segment), .int .i64 ((gt x0.Ledger k348).Base), .slice A416 ((gt x0.Ledger k348).Ids).length c417, .slice A420 ((gt x0.Ledger k348).Tenants).length c421, .slice A424 ((gt x0.Ledger k348).Rows).length c425]
       refine WM_build (cs := K27) underlying42 type99 rfl (by decide) (by decide) rfl (by kernel_rfl) (Wd_none rfl) (by decide) (fun p428 => ?_)
       refine qn (pk [4, 6, 7, 8, 9, 10, 11]) ?_
       refine qo 8 5 63 rfl ?_
       refine ap1 tyCharge 99 (.slice A352 d351.length c353) d351 (gt x0.Ledger k348) [iOwn (tSl tInt 3) [.slice A416 ((gt x0.Ledger k348).Ids).length c417] ((gt x0.Ledger k348).Ids), iOwn (tSl tInt 3) [.slice A420 ((gt x0.Ledger k348).Tenants).length c421] ((gt x0.Ledger k348).Tenants), iOwn (tSl tInt 3) [.slice A424 ((gt x0.Ledger k348).Rows).length c425] ((gt x0.Ledger k348).Rows)] [iBox p389 99 K25, iBox p54 44 K24, I30, I31, iBox p42 44 K7, iBox p41 44 K26, I32, I33] K27 (pk [0, 12, 1, 2, 3, 4, 5, 6, 7, 8, 9, 10, 11]) (fun _ _ hs => Els.single (tyCharge_join (x := (gt x0.Ledger k348)) hs)) underlying42 type99 (show (d351.length + 1) * 88 ≤ 140737488355328 from by omega) (fun v429 => ?_)
       refine WM_form (n := 0) rfl ?_
       rintro A430 c431 rfl m432
       refine qn (pk [1, 3, 4, 5, 6, 7, 8]) ?_
       refine qt 8 6 127 rfl (vf underlying44 rfl type42) ?_
       refine qo 8 7 255 rfl ?_
       refine sb 6 [.slice A45 x0.Store.Segments.length c46, .int .i64 x0.Store.Now, .int .i64 x0.Cursor, .slice A50 x0.Order.length c51, .slice A93 d92.length c94, .slice A234 d233.length c235, .slice A430 (d351 ++ [(gt x0.Ledger k348)]).length c431, .int .i64 x0.Steps] [iOwn (tSl tyCharge 99) [.slice A430 (d351 ++ [(gt x0.Ledger k348)]).length c431] (d351 ++ [(gt x0.Ledger k348)]), iBox p389 99 K25, I30, I31, iBox p42 44 K7, iBox p41 44 K26, I32, I33] (pk [2, 0, 1, 3, 4, 5, 6, 7, 8]) type42 ?_
       refine qn (pk [2, 3, 4, 5, 6, 7, 8]) ?_
       refine QB_done (by kernel_rfl) ?_
       exact QM_cut_normal (A430, c431) sl5 (fun W hm => hm) trivial
      refine qc 8 13 rfl ?_ ?_
      ·
       refine wcs tyCharge (gt x0.Ledger k348) (cl_fn cb78 rfl) (fun W hm => impl_copyCharge_c2 W _ (gt x0.Ledger k348) (tyCharge_mk (x := (gt x0.Ledger k348)) (hm.rdS0 r378) (hm.rdS0 r383) (hm.rdS0 r388)) (s_0.2.2.2.2.2 _ (gt_mem (show k348 < x0.Ledger.length from by omega)))) (fun z434 => ?_)
       refine tyCharge_sp ?_
       rintro ⟨v435, v436, v437⟩ rfl
       refine WM_form (n := 0) rfl ?_
       rintro A438 c439 rfl m440
       refine WM_form (n := 1) rfl ?_
       rintro A442 c443 rfl m444
       refine WM_form (n := 2) rfl ?_
       rintro A446 c447 rfl m448
       refine qn (pk [3, 5, 6, 7, 8, 9, 10]) ?_
       refine qa [1, 4] ?_
       refine qc 8 15 rfl ?_ ?_
       ·
        refine wv (vl 4 6 underlying42) ?_
        refine qn (pk [3, 5, 6, 7, 8, 9, 10]) ?_
        refine qo 8 4 31 rfl ?_
        let K28 : List Value := [.int .i64 ((gt x0.Ledger k348).Segment), .int .i64 ((gt x0.Ledger k348).Base), .slice A438 ((gt x0.Ledger k348).Ids).length c439, .slice A442 ((gt x0.Ledger k348).Tenants).length c443, .slice A446 ((gt x0.Ledger k348).Rows).length c447]
        refine WM_build (cs := K28) underlying42 type99 rfl (by decide) (by decide) rfl (by kernel_rfl) (Wd_none rfl) (by decide) (fun p450 => ?_)
        refine qn (pk [4, 6, 7, 8, 9, 10, 11]) ?_
        refine qo 8 5 63 rfl ?_
        refine ap1 tyCharge 99 (.slice A352 d351.length c353) d351 (gt x0.Ledger k348) [iOwn (tSl tInt 3) [.slice A438 ((gt x0.Ledger k348).Ids).length c439] ((gt x0.Ledger k348).Ids), iOwn (tSl tInt 3) [.slice A442 ((gt x0.Ledger k348).Tenants).length c443] ((gt x0.Ledger k348).Tenants), iOwn (tSl tInt 3) [.slice A446 ((gt x0.Ledger k348).Rows).length c447] ((gt x0.Ledger k348).Rows)] [iBox p389 99 K25, iBox p54 44 K24, I30, I31, iBox p42 44 K7, iBox p41 44 K26, I32, I33] K28 (pk [0, 12, 1, 2, 3, 4, 5, 6, 7, 8, 9, 10, 11]) (fun _ _ hs => Els.single (tyCharge_join (x := (gt x0.Ledger k348)) hs)) underlying42 type99 (show (d351.length + 1) * 88 ≤ 140737488355328 from by omega) (fun v451 => ?_)
        refine WM_form (n := 0) rfl ?_
        rintro A452 c453 rfl m454
        refine qn (pk [1, 3, 4, 5, 6, 7, 8]) ?_
        refine qt 8 6 127 rfl (vf underlying44 rfl type42) ?_
        refine qo 8 7 255 rfl ?_
        refine sb 6 [.slice A45 x0.Store.Segments.length c46, .int .i64 x0.Store.Now, .int .i64 x0.Cursor, .slice A50 x0.Order.length c51, .slice A93 d92.length c94, .slice A234 d233.length c235, .slice A452 (d351 ++ [(gt x0.Ledger k348)]).length c453, .int .i64 x0.Steps] [iOwn (tSl tyCharge 99) [.slice A452 (d351 ++ [(gt x0.Ledger k348)]).length c453] (d351 ++ [(gt x0.Ledger k348)]), iBox p389 99 K25, I30, I31, iBox p42 44 K7, iBox p41 44 K26, I32, I33] (pk [2, 0, 1, 3, 4, 5, 6, 7, 8]) type42 ?_
        refine qn (pk [2, 3, 4, 5, 6, 7, 8]) ?_
        refine QB_done (by kernel_rfl) ?_
        exact QM_cut_normal (A452, c453) sl5 (fun W hm => hm) trivial
       refine qc 8 29 rfl ?_ ?_
       ·
        let K29 : List Value := [.int .i64 ((gt x0.Ledger k348).Segment), .int .i64 ((gt x0.Ledger k348).Base), .slice A438 ((gt x0.Ledger k348).Ids).length c439, .slice A442 ((gt x0.Ledger k348).Tenants).length c443, .slice A446 ((gt x0.Ledger k348).Rows).length c447]
        refine WM_build (cs := K29) underlying42 type99 rfl (by decide) (by decide) rfl (by kernel_rfl) (Wd_none rfl) (by decide) (fun p456 => ?_)
        refine qn (pk [4, 6, 7, 8, 9, 10, 11]) ?_
        refine qo 8 1 31 rfl ?_
        refine wv (vl 5 6 underlying42) ?_
        refine qn (pk [4, 6, 7, 8, 9, 10, 11]) ?_
        refine qo 8 5 63 rfl ?_
        refine ap1 tyCharge 99 (.slice A352 d351.length c353) d351 (gt x0.Ledger k348) [iOwn (tSl tInt 3) [.slice A438 ((gt x0.Ledger k348).Ids).length c439] ((gt x0.Ledger k348).Ids), iOwn (tSl tInt 3) [.slice A442 ((gt x0.Ledger k348).Tenants).length c443] ((gt x0.Ledger k348).Tenants), iOwn (tSl tInt 3) [.slice A446 ((gt x0.Ledger k348).Rows).length c447] ((gt x0.Ledger k348).Rows)] [iBox p389 99 K25, iBox p54 44 K24, I30, I31, iBox p42 44 K7, iBox p41 44 K26, I32, I33] K29 (pk [0, 12, 1, 2, 3, 4, 5, 6, 7, 8, 9, 10, 11]) (fun _ _ hs => Els.single (tyCharge_join (x := (gt x0.Ledger k348)) hs)) underlying42 type99 (show (d351.length + 1) * 88 ≤ 140737488355328 from by omega) (fun v457 => ?_)
        refine WM_form (n := 0) rfl ?_
        rintro A458 c459 rfl m460
        refine qn (pk [1, 3, 4, 5, 6, 7, 8]) ?_
        refine qt 8 6 127 rfl (vf underlying44 rfl type42) ?_
        refine qo 8 7 255 rfl ?_
        refine sb 6 [.slice A45 x0.Store.Segments.length c46, .int .i64 x0.Store.Now, .int .i64 x0.Cursor, .slice A50 x0.Order.length c51, .slice A93 d92.length c94, .slice A234 d233.length c235, .slice A458 (d351 ++ [(gt x0.Ledger k348)]).length c459, .int .i64 x0.Steps] [iOwn (tSl tyCharge 99) [.slice A458 (d351 ++ [(gt x0.Ledger k348)]).length c459] (d351 ++ [(gt x0.Ledger k348)]), iBox p389 99 K25, I30, I31, iBox p42 44 K7, iBox p41 44 K26, I32, I33] (pk [2, 0, 1, 3, 4, 5, 6, 7, 8]) type42 ?_
        refine qn (pk [2, 3, 4, 5, 6, 7, 8]) ?_
        refine QB_done (by kernel_rfl) ?_
        exact QM_cut_normal (A458, c459) sl5 (fun W hm => hm) trivial
       exact QBs_nil
      exact QBs_nil
     ·
      rintro ⟨A408, c409⟩ -
      show QM 67 _ _ _ .normal [(2, .pointer (some (⟨p42, 0, none⟩ : Addr))), (3, .pointer (some (⟨p54, 0, none⟩ : Addr))), (52, .slice (some a360) x0.Ledger.length c33), (53, .int .i64 ((x0.Ledger.length : Nat) : Int)), (54, .int .i64 ((k348 : Nat) : Int))] [iBox p54 44 [.slice A45 x0.Store.Segments.length c46, .int .i64 x0.Store.Now, .int .i64 x0.Cursor, .slice A50 x0.Order.length c51, .slice A93 d92.length c94, .slice A234 d233.length c235, .slice A408 (d351 ++ [(gt x0.Ledger k348)]).length c409, .int .i64 x0.Steps], iOwn (tSl tyCharge 99) [.slice A408 (d351 ++ [(gt x0.Ledger k348)]).length c409] (d351 ++ [(gt x0.Ledger k348)]), iBox p389 99 K25, I30, I31, iBox p42 44 K7, iBox p41 44 K26, I32, I33]
      refine QM_len (n := 1) rfl ?_
      intro m462 m463
      refine QM_block_normal (QM_then (CM_region ?_))
      refine wv (vadN k348 1 (by omega)) ?_
      refine wm (WM_nil ?_)
      have hn464 := rng_next (R := DEngine) (body := F3) (k := k348) (s := d351) (s' := (d351 ++ [(gt x0.Ledger k348)])) (show k348 < x0.Ledger.length from by omega) (show impl_copyEngine_b3 x0 k348 d351 = Sum.inr (d351 ++ [(gt x0.Ledger k348)]) from by unfold impl_copyEngine_b3; exact rfl) hF355
      exact QM_round (k348 + 1, (d351 ++ [(gt x0.Ledger k348)]), (A408, c409)) sl5 (pk [0, 3, 4, 5, 6, 7, 8, 1]) ⟨(by omega), hn464, (show (d351 ++ [(gt x0.Ledger k348)]).length ≤ 0 + (k348 + 1) from by first | omega | (simp only [List.length_append, List.length_cons, List.length_nil] at *; omega))⟩ (rl (by omega))
    ·have g359 : (decide (((k348 : Nat) : Int) < ((x0.Ledger.length : Nat) : Int))) = false := decide_eq_false (by omega)
     refine CM_condF rfl g359 ?_
     refine CM_exit (QM_then_exit (QM_then_exit ?_))
     have hE465 : R6 (x0.Ledger.length - 0) 0 [] = Sum.inr d351 := rng_end hl358 hF355
     refine QM_block_hit (QM_then (sr ?_))
     refine wv (fun W hm => rv_loadN (cs := K24) underlying44 type44 rfl rfl (hm.boxCells (n := 0) rfl)) ?_
     refine sb 0 K24 [iBox p54 44 K24, I30, I31, iBox p41 44 K8, I32, I33, I34] (pk [3, 0, 1, 2, 4, 5, 6, 7]) type44 ?_
     refine nt' (CM_ret ?_)
     refine QM_r1 rfl (RR_cell (n := 0) rfl rfl underlying44 type44 rfl) (fun W hm => ⟨K24, ?_, ?_⟩)
     ·first | rw [(show impl_copyEngine_m x0 = (⟨x0.Store, x0.Cursor, x0.Order, d92, d233, d351, x0.Steps⟩ : DEngine) from by unfold impl_copyEngine_m; exact fin_inr hE229 (fin_inr hE347 (fin_inr hE465 (rfl))))] | rfl
     ·rw [(show impl_copyEngine_m x0 = (⟨x0.Store, x0.Cursor, x0.Order, d92, d233, d351, x0.Steps⟩ : DEngine) from by unfold impl_copyEngine_m; exact fin_inr hE229 (fin_inr hE347 (fin_inr hE465 (rfl))))]; exact Mem.join (is := [I31, I30, I32, I33, I34]) (js := []) (fun _ _ hs => tyEngine_join (x := (⟨x0.Store, x0.Cursor, x0.Order, d92, d233, d351, x0.Steps⟩ : DEngine)) hs) (hm.pick [3, 2, 5, 6, 7] (by decide))
theorem impl_copyEngine_eq (x0 : DEngine) : impl_copyEngine_m x0 = x0 := by
 unfold impl_copyEngine_m; rw [rng_app (xs := x0.Active) (b := fun k s => impl_copyEngine_b1 x0 k s) (fun _ _ => rfl), rng_app (xs := x0.Done) (b := fun k s => impl_copyEngine_b2 x0 k s) (fun _ _ => rfl), rng_app (xs := x0.Ledger) (b := fun k s => impl_copyEngine_b3 x0 k s) (fun _ _ => rfl)]; rfl
theorem impl_copyEngine_c2 (w : World) (z0 : List Value) (x0 : DEngine) (r_0 : tyEngine.rd w w.heap.size z0 x0) (s_0 : smEngine 68719476736 x0) :
  Calls Tryz.prog 49 #[.agg z0.toArray] w fun e w' => ∃ v : List Value, e = .returned (.agg v.toArray) ∧ Mem w.heap.size w [iOwn tyEngine v x0] w' := by
 have h := impl_copyEngine_c w z0 x0 r_0 s_0
 rw [impl_copyEngine_eq] at h
 exact h

def impl_within_m (x0 : Int) (x1 : Int) (x2 : Int) : Bool :=
 cond (decide (x1 ≤ x0)) (decide (x0 ≤ x2)) false
theorem cb52 : Cb Tryz.prog 52 := ⟨f52, _, func52, rfl, by decide⟩
theorem impl_within_c (w : World) (x0 : Int) (x1 : Int) (x2 : Int) :
  Calls Tryz.prog 52 #[.int .i64 x0, .int .i64 x1, .int .i64 x2] w fun e w' => e = .returned (.bool (impl_within_m x0 x1 x2)) ∧ Below w.heap.size w w' := by
 refine ce3 (L := [(0, .int .i64 x0), (1, .int .i64 x1), (2, .int .i64 x2)]) (N := 15) func52 ?_
 refine sr (wa (nt' (sr (wm (wm ?_)))))
 refine wv (fun W hm => rv_geq rfl rfl) ?_
 refine wm ?_
 by_cases h1 : x1 ≤ x0
 ·have g2 : (decide (x1 ≤ x0)) = true := decide_eq_true h1
  refine wg vmv g2 ?_
  refine wg vmv g2 ?_
  refine wg (fun W hm => rv_leq rfl rfl) g2 ?_
  refine wv (vpT g2) ?_
  refine wa (nt' (CM_ret ?_))
  exact rtb (h := by unfold impl_within_m; exact cond_t g2 (rfl))
 ·have g2 : (decide (x1 ≤ x0)) = false := decide_eq_false h1
  refine ws g2 ?_
  refine ws g2 ?_
  refine ws g2 ?_
  refine wv (vpF g2) ?_
  refine wa (nt' (CM_ret ?_))
  exact rtb (h := by unfold impl_within_m; exact cond_f g2 (rfl))

theorem impl_within_fact {x a b : Int} (h : impl_within_m x a b = true) : a ≤ x ∧ x ≤ b := by
  unfold impl_within_m at h
  by_cases h1 : a ≤ x
  · rw [decide_eq_true h1] at h
    exact ⟨h1, of_decide_eq_true h⟩
  · rw [decide_eq_false h1] at h
    cases h
theorem impl_within_iff (x a b : Int) : impl_within_m x a b = decide (a ≤ x ∧ x ≤ b) := by
  unfold impl_within_m
  by_cases h1 : a ≤ x
  · by_cases h2 : x ≤ b
    · simp [h1, h2]
    · simp [h1, h2]
  · simp [h1]

def impl_rowOf_m (x0 : DVersion) : DRow :=
 (⟨x0.Id, x0.Values⟩ : DRow)
theorem cb103 : Cb Tryz.prog 103 := ⟨f103, _, func103, rfl, by decide⟩
theorem impl_rowOf_c (w : World) (z0 : List Value) (x0 : DVersion) (r_0 : tyVersion.rd w w.heap.size z0 x0) (s_0 : smVersion 68719476736 x0) :
  Calls Tryz.prog 103 #[.agg z0.toArray] w fun e w' => ∃ v : List Value, e = .returned (.agg v.toArray) ∧ Mem w.heap.size w [iOwn tyRow v (impl_rowOf_m x0)] w' := by
 obtain ⟨v1, rfl, r2⟩ := tyVersion_rd r_0
 have r7 := r2
 obtain ⟨m3, A4, c5, rfl, q6⟩ := r2
 have l8 : x0.Values.length ≤ 68719476736 := s_0
 refine ce1 (L := [(0, .agg #[.int .i64 x0.Id, .slice A4 x0.Values.length c5, .int .i64 x0.Born, .int .i64 x0.Died])]) (N := 9) func103 ?_
 refine sr ?_
 refine WM_box rfl (Wd_none rfl) (by decide) (fun p9 => ?_)
 refine WM_alloc type138 rfl (Wd_none rfl) (by decide) (fun p10 => ?_)
 refine nt' (CM_seq ?_)
 let K1 : List Value := [.int .i64 x0.Id, .slice A4 x0.Values.length c5, .int .i64 x0.Born, .int .i64 x0.Died]
 refine rb 7 (s := [iBox p9 142 K1]) (pk [1]) ?_
 refine qt 7 0 1 rfl (vf underlying142 rfl type3) ?_
 refine qt 7 1 3 rfl (vl 0 0 underlying3) ?_
 refine qt 7 2 7 rfl (vf underlying142 rfl type25) ?_
 refine qt 7 3 15 rfl (vl 0 1 underlying25) ?_
 refine qo 7 4 31 rfl ?_
 refine wcl (tSl tInt 3) x0.Values (cl_fn cb75 rfl) (fun W hm => impl_copyInts_c2 W _ x0.Values (hm.rdS0 r7) s_0) (fun z11 => ?_)
 refine WM_form (n := 0) rfl ?_
 rintro A12 c13 rfl m14
 refine qn (pk [2]) ?_
 refine qt 7 5 63 rfl (fun W hm => rv_build (cs := [.int .i64 x0.Id, .slice A12 x0.Values.length c13]) rfl (by kernel_rfl)) ?_
 refine qo 7 6 127 rfl ?_
 let I2 : It := iOwn (tSl tInt 3) [.slice A12 x0.Values.length c13] x0.Values
 refine sb 0 [.int .i64 x0.Id, .slice A12 x0.Values.length c13] [I2, iBox p9 142 K1] (pk [1, 0, 2]) type138 ?_
 refine qn (pk [2]) ?_
 refine QB_done (by kernel_rfl) ?_
 refine QM_then (CM_ret ?_)
 refine QM_r1 rfl (RR_cell (n := 0) rfl rfl underlying138 type138 rfl) (fun W hm => ⟨[.int .i64 x0.Id, .slice A12 x0.Values.length c13], ?_, ?_⟩)
 ·first | rw [(show impl_rowOf_m x0 = (⟨x0.Id, x0.Values⟩ : DRow) from by unfold impl_rowOf_m; exact rfl)] | rfl
 ·rw [(show impl_rowOf_m x0 = (⟨x0.Id, x0.Values⟩ : DRow) from by unfold impl_rowOf_m; exact rfl)]; exact Mem.join (is := [I2]) (js := []) (fun _ _ hs => tyRow_join (x := (⟨x0.Id, x0.Values⟩ : DRow)) hs) (hm.pick [1] (by decide))

def impl_IsRow_b1 (x0 : DRow) (k9 : Nat) : Bool ⊕ (Unit) :=
 cond (impl_within_m (gt x0.Values k9) 0 99) (Sum.inr ()) (Sum.inl false)
def impl_IsRow_m (x0 : DRow) : Bool :=
 Sum.elim id (fun (s : Unit) => cond (impl_within_m x0.Id 0 999) (((x0.Values.length : Nat) : Int) == 3) false) (rng (R := Bool) (fun k (_ : Unit) => impl_IsRow_b1 x0 k) (x0.Values.length - 0) 0 ())
theorem cb102 : Cb Tryz.prog 102 := ⟨f102, _, func102, rfl, by decide⟩
theorem impl_IsRow_c (w : World) (z0 : List Value) (x0 : DRow) (r_0 : tyRow.rd w w.heap.size z0 x0) :
  Calls Tryz.prog 102 #[.agg z0.toArray] w fun e w' => e = .returned (.bool (impl_IsRow_m x0)) ∧ Below w.heap.size w w' := by
 obtain ⟨v1, rfl, r2⟩ := tyRow_rd r_0
 have r7 := r2
 obtain ⟨m3, A4, c5, rfl, q6⟩ := r2
 refine ce1 (L := [(0, .agg #[.int .i64 x0.Id, .slice A4 x0.Values.length c5])]) (N := 25) func102 ?_
 refine sr ?_
 refine WM_box rfl (Wd_none rfl) (by decide) (fun p8 => ?_)
 refine wa (nt' (CM_seq (sr ?_)))
 refine wv (vf underlying138 rfl type25) ?_
 refine wv (vl 0 1 underlying25) ?_
 refine wv (vlen underlying25) ?_
 refine wm (nt' (CM_block ?_))
 let F1 := fun k (_ : Unit) => impl_IsRow_b1 x0 k
 let R2 := rng (R := Bool) F1
 let I3 : It := iBox p8 138 [.int .i64 x0.Id, .slice A4 x0.Values.length c5]
 refine CM_loop (σ := Nat × (Unit) × (Unit)) (fun s => [(1, .pointer (some (⟨p8, 0, none⟩ : Addr))), (6, .slice A4 x0.Values.length c5), (7, .int .i64 ((x0.Values.length : Nat) : Int)), (8, .int .i64 ((s.1 : Nat) : Int))]) (fun s => [I3]) (fun s => s.1 ≤ x0.Values.length ∧ R2 (x0.Values.length - s.1) s.1 s.2.1 = R2 (x0.Values.length - 0) 0 ()) (fun s => x0.Values.length - s.1) (0, (), ()) sl4 (fun W hm => hm) ⟨(by omega), rfl⟩ ?_
 rintro ⟨k9, ⟨⟩, ⟨⟩⟩ H12
 obtain ⟨hk10, hF11⟩ : k9 ≤ x0.Values.length ∧ R2 (x0.Values.length - k9) k9 () = R2 (x0.Values.length - 0) 0 () := H12
 show CM Tryz.prog 25 _ _ _ _ [(1, .pointer (some (⟨p8, 0, none⟩ : Addr))), (6, .slice A4 x0.Values.length c5), (7, .int .i64 ((x0.Values.length : Nat) : Int)), (8, .int .i64 ((k9 : Nat) : Int))] [I3]
 refine sr ?_
 refine wv vlss ?_
 refine nt' (CM_seq ?_)
 by_cases hl13 : k9 < x0.Values.length
 ·have g14 : (decide (((k9 : Nat) : Int) < ((x0.Values.length : Nat) : Int))) = true := decide_eq_true (by omega)
  refine CM_condT rfl g14 ?_
  refine CM_skip (QM_then (CM_seq (CM_block (sr ?_))))
  obtain ⟨a15, rfl, hb16, he17⟩ := q6 (by omega)
  refine wv (vix 1 k9 underlying25 type3) ?_
  refine wv (fun W hm => rv_load underlying3 rfl rfl ((hm.cell0 (show (a15.add (k9 * 1)).block < w.heap.size from by rw [add_block]; exact hb16.1)).trans (rdS_int he17 k9 (by omega)))) ?_
  refine wa (nt' (sr (wm ?_)))
  refine wcv (cl_fn cb52 rfl) (fun W hm => impl_within_c W (gt x0.Values k9) 0 99) ?_
  refine wv vnot ?_
  refine nt' ?_
  rcases Bool.eq_false_or_eq_true (impl_within_m (gt x0.Values k9) 0 99) with g19 | g19
  ·
   have hw := impl_within_fact g19
   refine CM_condF rfl (nt g19) ?_
   refine CM_skip (QM_block_normal (QM_then (CM_region ?_)))
   refine wv (vadN k9 1 (by omega)) ?_
   refine wm (WM_nil ?_)
   have hn20 := rng_next (R := Bool) (body := F1) (k := k9) (s := ()) (s' := ()) (show k9 < x0.Values.length from by omega) (show impl_IsRow_b1 x0 k9 = Sum.inr () from by unfold impl_IsRow_b1; exact cond_t g19 (rfl)) hF11
   exact QM_round (k9 + 1, (), ()) sl4 (fun W hm => hm) ⟨(by omega), hn20⟩ (rl (by omega))
  ·
   refine CM_condT rfl (nf g19) ?_
   refine sr (wa (nt' (CM_ret (QM_block_ret (QM_then_ret (QM_then_ret (QM_block_ret (QM_then_ret ?_))))))))
   exact rtb (h := by unfold impl_IsRow_m; exact fin_inl (rng_ret (body := F1) (k := k9) (s := ()) (show k9 < x0.Values.length from by omega) (show impl_IsRow_b1 x0 k9 = Sum.inl false from by unfold impl_IsRow_b1; exact cond_f g19 (rfl)) hF11) rfl)
 ·have g14 : (decide (((k9 : Nat) : Int) < ((x0.Values.length : Nat) : Int))) = false := decide_eq_false (by omega)
  refine CM_condF rfl g14 ?_
  refine CM_exit (QM_then_exit (QM_then_exit ?_))
  have hE21 : R2 (x0.Values.length - 0) 0 () = Sum.inr () := rng_end hl13 hF11
  refine QM_block_hit (QM_then (sr ?_))
  refine wv (vf underlying138 rfl type3) ?_
  refine wv (vl 0 0 underlying3) ?_
  refine wcv (cl_fn cb52 rfl) (fun W hm => impl_within_c W x0.Id 0 999) ?_
  refine wm ?_
  rcases Bool.eq_false_or_eq_true (impl_within_m x0.Id 0 999) with g23 | g23
  ·
   have hw := impl_within_fact g23
   refine wg (vf underlying138 rfl type25) g23 ?_
   refine wg (vl 0 1 underlying25) g23 ?_
   refine wg (vlen underlying25) g23 ?_
   refine wg (fun W hm => rv_eql rfl rfl) g23 ?_
   refine wv (vpT g23) ?_
   refine wa (nt' (CM_ret ?_))
   exact rtb (h := by unfold impl_IsRow_m; exact fin_inr hE21 (cond_t g23 (rfl)))
  ·
   refine ws g23 ?_
   refine ws g23 ?_
   refine ws g23 ?_
   refine ws g23 ?_
   refine wv (vpF g23) ?_
   refine wa (nt' (CM_ret ?_))
   exact rtb (h := by unfold impl_IsRow_m; exact fin_inr hE21 (cond_f g23 (rfl)))

def impl_IsVisible_m (x0 : DVersion) (x1 : Int) : Bool :=
 cond (decide (x0.Born ≤ x1)) (cond (x0.Died == (-1)) true (decide (x1 < x0.Died))) false
theorem cb112 : Cb Tryz.prog 112 := ⟨f112, _, func112, rfl, by decide⟩
theorem impl_IsVisible_c (w : World) (z0 : List Value) (x0 : DVersion) (x1 : Int) (r_0 : tyVersion.rd w w.heap.size z0 x0) :
  Calls Tryz.prog 112 #[.agg z0.toArray, .int .i64 x1] w fun e w' => e = .returned (.bool (impl_IsVisible_m x0 x1)) ∧ Below w.heap.size w w' := by
 obtain ⟨v1, rfl, r2⟩ := tyVersion_rd r_0
 have r7 := r2
 obtain ⟨m3, A4, c5, rfl, q6⟩ := r2
 refine ce2 (L := [(0, .agg #[.int .i64 x0.Id, .slice A4 x0.Values.length c5, .int .i64 x0.Born, .int .i64 x0.Died]), (1, .int .i64 x1)]) (N := 20) func112 ?_
 refine sr ?_
 refine WM_box rfl (Wd_none rfl) (by decide) (fun p8 => ?_)
 refine wa (nt' (sr ?_))
 refine wv (vf underlying142 rfl type3) ?_
 refine wv (vl 0 2 underlying3) ?_
 refine wm ?_
 refine wv (fun W hm => rv_leq rfl rfl) ?_
 refine wm ?_
 by_cases h9 : x0.Born ≤ x1
 ·have g10 : (decide (x0.Born ≤ x1)) = true := decide_eq_true h9
  refine wg (vf underlying142 rfl type3) g10 ?_
  refine wg (vl 0 3 underlying3) g10 ?_
  refine wg (fun W hm => rv_eql rfl rfl) g10 ?_
  refine wg vmv g10 ?_
  by_cases h11 : x0.Died = (-1)
  ·have g12 : (x0.Died == (-1)) = true := beq_iff_eq.2 h11
   refine ws g12 ?_
   refine ws g12 ?_
   refine ws g12 ?_
   refine ws g12 ?_
   refine wg (vpT g12) g10 ?_
   refine wv (vpT g10) ?_
   refine wa (nt' (CM_ret ?_))
   exact rtb (h := by unfold impl_IsVisible_m; exact cond_t g10 (cond_t g12 (rfl)))
  ·have g12 : (x0.Died == (-1)) = false := beq_eq_false_iff_ne.2 h11
   refine wg (vf underlying142 rfl type3) g12 ?_
   refine wg (vl 0 3 underlying3) g12 ?_
   refine wg vmv g12 ?_
   refine wg (fun W hm => rv_gtr rfl rfl) g12 ?_
   refine wg (vpF g12) g10 ?_
   refine wv (vpT g10) ?_
   refine wa (nt' (CM_ret ?_))
   exact rtb (h := by unfold impl_IsVisible_m; exact cond_t g10 (cond_f g12 (rfl)))
 ·have g10 : (decide (x0.Born ≤ x1)) = false := decide_eq_false h9
  refine ws g10 ?_
  refine ws g10 ?_
  refine ws g10 ?_
  refine ws g10 ?_
  refine wu ?_
  refine wu ?_
  refine wu ?_
  refine wu ?_
  refine ws g10 ?_
  refine wv (vpF g10) ?_
  refine wa (nt' (CM_ret ?_))
  exact rtb (h := by unfold impl_IsVisible_m; exact cond_f g10 (rfl))

def impl_meetInTime_m (x0 : DVersion) (x1 : DVersion) : Bool :=
 cond (impl_IsVisible_m x0 x1.Born) true (impl_IsVisible_m x1 x0.Born)
theorem cb104 : Cb Tryz.prog 104 := ⟨f104, _, func104, rfl, by decide⟩
theorem impl_meetInTime_c (w : World) (z0 : List Value) (x0 : DVersion) (z1 : List Value) (x1 : DVersion) (r_0 : tyVersion.rd w w.heap.size z0 x0) (r_1 : tyVersion.rd w w.heap.size z1 x1) :
  Calls Tryz.prog 104 #[.agg z0.toArray, .agg z1.toArray] w fun e w' => e = .returned (.bool (impl_meetInTime_m x0 x1)) ∧ Below w.heap.size w w' := by
 obtain ⟨v1, rfl, r2⟩ := tyVersion_rd r_0
 have r7 := r2
 obtain ⟨m3, A4, c5, rfl, q6⟩ := r2
 obtain ⟨v8, rfl, r9⟩ := tyVersion_rd r_1
 have r14 := r9
 obtain ⟨m10, A11, c12, rfl, q13⟩ := r9
 refine ce2 (L := [(0, .agg #[.int .i64 x0.Id, .slice A4 x0.Values.length c5, .int .i64 x0.Born, .int .i64 x0.Died]), (1, .agg #[.int .i64 x1.Id, .slice A11 x1.Values.length c12, .int .i64 x1.Born, .int .i64 x1.Died])]) (N := 15) func104 ?_
 refine sr ?_
 refine WM_box rfl (Wd_none rfl) (by decide) (fun p15 => ?_)
 refine WM_box rfl (Wd_none rfl) (by decide) (fun p16 => ?_)
 refine wa (nt' (sr ?_))
 refine wv (fun W hm => rv_loadN (cs := [.int .i64 x0.Id, .slice A4 x0.Values.length c5, .int .i64 x0.Born, .int .i64 x0.Died]) underlying142 type142 rfl rfl (hm.boxCells (n := 1) rfl)) ?_
 refine wv (vf underlying142 rfl type3) ?_
 refine wv (vl 0 2 underlying3) ?_
 refine wcv (cl_fn cb112 rfl) (fun W hm => impl_IsVisible_c W _ x0 x1.Born (tyVersion_mk (x := x0) (hm.rdS0 r7))) ?_
 refine wm ?_
 rcases Bool.eq_false_or_eq_true (impl_IsVisible_m x0 x1.Born) with g18 | g18
 ·
  refine ws g18 ?_
  refine ws g18 ?_
  refine ws g18 ?_
  refine ws g18 ?_
  refine wv (vpT g18) ?_
  refine wa (nt' (CM_ret ?_))
  exact rtb (h := by unfold impl_meetInTime_m; exact cond_t g18 (rfl))
 ·
  refine wg (fun W hm => rv_loadN (cs := [.int .i64 x1.Id, .slice A11 x1.Values.length c12, .int .i64 x1.Born, .int .i64 x1.Died]) underlying142 type142 rfl rfl (hm.boxCells (n := 0) rfl)) g18 ?_
  refine wg (vf underlying142 rfl type3) g18 ?_
  refine wg (vl 1 2 underlying3) g18 ?_
  refine WM_callV (cl_fn cb112 rfl) (fun W hm => impl_IsVisible_c W _ x1 x0.Born (tyVersion_mk (x := x1) (hm.rdS0 r14))) (Wd_some rfl rfl rfl (bw g18 rfl)) (by decide) ?_
  refine wv (vpF g18) ?_
  refine wa (nt' (CM_ret ?_))
  exact rtb (h := by unfold impl_meetInTime_m; exact cond_f g18 (rfl))

def impl_IsStore_b3 (x0 : DStore) (k16 : Nat) (k41 : Nat) (d42 : (List DVersion)) (k77 : Nat) : Bool ⊕ (Unit) :=
 cond (((gt (gt x0.Segments k16) k41).Id) == ((gt d42 k77).Id)) (cond (impl_meetInTime_m (gt (gt x0.Segments k16) k41) (gt d42 k77)) (Sum.inl false) (Sum.inr ())) (Sum.inr ())
def impl_IsStore_b4 (x0 : DStore) (k16 : Nat) (k41 : Nat) (d42 : (List DVersion)) (k112 : Nat) : Bool ⊕ (Unit) :=
 cond (((gt (gt x0.Segments k16) k41).Id) == ((gt d42 k112).Id)) (cond (impl_meetInTime_m (gt (gt x0.Segments k16) k41) (gt d42 k112)) (Sum.inl false) (Sum.inr ())) (Sum.inr ())
def impl_IsStore_b2 (x0 : DStore) (k16 : Nat) (k41 : Nat) (d42 : (List DVersion)) : Bool ⊕ ((List DVersion)) :=
 cond (impl_IsRow_m (impl_rowOf_m (gt (gt x0.Segments k16) k41))) (cond (impl_within_m ((gt (gt x0.Segments k16) k41).Born) 0 x0.Now) (cond (((gt (gt x0.Segments k16) k41).Died) != (-1)) (cond (impl_within_m ((gt (gt x0.Segments k16) k41).Died) (IntKind.i64.wrap (((gt (gt x0.Segments k16) k41).Born) + 1)) x0.Now) (Sum.elim Sum.inl (fun (s : Unit) => Sum.inr (d42 ++ [(gt (gt x0.Segments k16) k41)])) (rng (R := Bool) (fun k (_ : Unit) => impl_IsStore_b4 x0 k16 k41 d42 k) (d42.length - 0) 0 ())) (Sum.inl false)) (Sum.elim Sum.inl (fun (s : Unit) => Sum.inr (d42 ++ [(gt (gt x0.Segments k16) k41)])) (rng (R := Bool) (fun k (_ : Unit) => impl_IsStore_b3 x0 k16 k41 d42 k) (d42.length - 0) 0 ()))) (Sum.inl false)) (Sum.inl false)
def impl_IsStore_b1 (x0 : DStore) (k16 : Nat) (d17 : (List DVersion)) : Bool ⊕ ((List DVersion)) :=
 cond (decide (4 < ((((gt x0.Segments k16)).length : Nat) : Int))) (Sum.inl false) (Sum.elim Sum.inl (fun (s : (List DVersion)) => Sum.inr s) (rng (R := Bool) (fun k (s : (List DVersion)) => impl_IsStore_b2 x0 k16 k s) (((gt x0.Segments k16)).length - 0) 0 d17))
def impl_IsStore_m (x0 : DStore) : Bool :=
 cond (impl_within_m ((x0.Segments.length : Nat) : Int) 1 8) (cond (impl_within_m x0.Now 0 100000) (Sum.elim id (fun (s : (List DVersion)) => true) (rng (R := Bool) (fun k (s : (List DVersion)) => impl_IsStore_b1 x0 k s) (x0.Segments.length - 0) 0 [])) false) false
theorem cb79 : Cb Tryz.prog 79 := ⟨f79, _, func79, rfl, by decide⟩
theorem impl_IsStore_c (w : World) (z0 : List Value) (x0 : DStore) (r_0 : tyStore.rd w w.heap.size z0 x0) (s_0 : smStore 68719476736 x0) :
  Calls Tryz.prog 79 #[.agg z0.toArray] w fun e w' => e = .returned (.bool (impl_IsStore_m x0)) ∧ Below w.heap.size w w' := by
 obtain ⟨v1, rfl, r2⟩ := tyStore_rd r_0
 have r7 := r2
 obtain ⟨m3, A4, c5, rfl, q6⟩ := r2
 have l8 : x0.Segments.length ≤ 68719476736 := s_0.1
 refine ce1 (L := [(0, .agg #[.slice A4 x0.Segments.length c5, .int .i64 x0.Now])]) (N := 89) func79 ?_
 refine sr ?_
 refine WM_box rfl (Wd_none rfl) (by decide) (fun p9 => ?_)
 refine wa (nt' (CM_seq (sr ?_)))
 refine wv (vf underlying39 rfl type37) ?_
 refine wv (vl 0 0 underlying37) ?_
 refine wv (vlen underlying37) ?_
 refine wcv (cl_fn cb52 rfl) (fun W hm => impl_within_c W ((x0.Segments.length : Nat) : Int) 1 8) ?_
 refine wv vnot ?_
 refine wm ?_
 rcases Bool.eq_false_or_eq_true (impl_within_m ((x0.Segments.length : Nat) : Int) 1 8) with g11 | g11
 ·
  have hw := impl_within_fact g11
  refine wg (vf underlying39 rfl type3) (nt g11) ?_
  refine wg (vl 0 1 underlying3) (nt g11) ?_
  refine WM_callV (cl_fn cb52 rfl) (fun W hm => impl_within_c W x0.Now 0 100000) (Wd_some rfl rfl rfl (bw (nt g11) rfl)) (by decide) ?_
  refine wg vnot (nt g11) ?_
  refine wv (vpF (nt g11)) ?_
  refine nt' ?_
  rcases Bool.eq_false_or_eq_true (impl_within_m x0.Now 0 100000) with g13 | g13
  ·
   have hw := impl_within_fact g13
   refine CM_condF rfl (nt g13) ?_
   refine CM_skip (QM_then (sr ?_))
   refine WM_build0 (E := (tBor tyVersion w w.heap.size)) underlying122 type142 (Wd_none rfl) (by decide) (fun p14 => ?_)
   refine wa (nt' (CM_seq (sr ?_)))
   refine wv (vf underlying39 rfl type37) ?_
   refine wv (vl 1 0 underlying37) ?_
   refine wv (vlen underlying37) ?_
   refine wm (nt' (CM_block ?_))
   let F1 := fun k (s : (List DVersion)) => impl_IsStore_b1 x0 k s
   let R5 := rng (R := Bool) F1
   let I14 : It := iBox p9 39 [.slice A4 x0.Segments.length c5, .int .i64 x0.Now]
   refine CM_loop (σ := Nat × ((List DVersion)) × (Option Addr × Nat)) (fun s => [(1, .pointer (some (⟨p9, 0, none⟩ : Addr))), (3, .slice s.2.2.1 s.2.1.length s.2.2.2), (23, .slice A4 x0.Segments.length c5), (24, .int .i64 ((x0.Segments.length : Nat) : Int)), (25, .int .i64 ((s.1 : Nat) : Int))]) (fun s => [iOwn (tSl (tBor tyVersion w w.heap.size) 142) [.slice s.2.2.1 s.2.1.length s.2.2.2] s.2.1, I14]) (fun s => s.1 ≤ x0.Segments.length ∧ R5 (x0.Segments.length - s.1) s.1 s.2.1 = R5 (x0.Segments.length - 0) 0 [] ∧ s.2.1.length ≤ 0 + 4 * s.1) (fun s => x0.Segments.length - s.1) (0, [], ((some ⟨p14, 0, none⟩), 0)) sl5 (fun W hm => hm) ⟨(by omega), rfl, Nat.le_refl _⟩ ?_
   rintro ⟨k16, d17, ⟨A18, c19⟩⟩ H22
   obtain ⟨hk20, hF21, hi23⟩ : k16 ≤ x0.Segments.length ∧ R5 (x0.Segments.length - k16) k16 d17 = R5 (x0.Segments.length - 0) 0 [] ∧ d17.length ≤ 0 + 4 * k16 := H22
   show CM Tryz.prog 89 _ _ _ _ [(1, .pointer (some (⟨p9, 0, none⟩ : Addr))), (3, .slice A18 d17.length c19), (23, .slice A4 x0.Segments.length c5), (24, .int .i64 ((x0.Segments.length : Nat) : Int)), (25, .int .i64 ((k16 : Nat) : Int))] [iOwn (tSl (tBor tyVersion w w.heap.size) 142) [.slice A18 d17.length c19] d17, I14]
   refine sr ?_
   refine wv vlss ?_
   refine nt' (CM_seq ?_)
   by_cases hl24 : k16 < x0.Segments.length
   ·have g25 : (decide (((k16 : Nat) : Int) < ((x0.Segments.length : Nat) : Int))) = true := decide_eq_true (by omega)
    refine CM_condT rfl g25 ?_
    refine CM_skip (QM_then (CM_seq (CM_block (sr ?_))))
    obtain ⟨a26, rfl, hb27, he28⟩ := q6 (by omega)
    refine wv (vix 1 k16 underlying37 type122) ?_
    obtain ⟨_, e30, hc29⟩ := he28 k16 _ (gt_some (show k16 < x0.Segments.length from by omega))
    have l31 : (gt x0.Segments k16).length ≤ 68719476736 := (s_0.2 _ (gt_mem (show k16 < x0.Segments.length from by omega))).1
    obtain ⟨v32, rfl, r33⟩ := e30
    have r38 := r33
    obtain ⟨m34, A35, c36, rfl, q37⟩ := r33
    refine wv (fun W hm => rv_load underlying122 rfl rfl ((hm.cell0 (show (a26.add (k16 * 1)).block < w.heap.size from by rw [add_block]; exact hb27.1)).trans (hc29 0 _ rfl))) ?_
    refine wa (nt' (CM_seq (sr (wm ?_))))
    refine wv (vlen underlying122) ?_
    refine wv (fun W hm => rv_gtr rfl rfl) ?_
    refine nt' ?_
    by_cases h39 : 4 < ((((gt x0.Segments k16)).length : Nat) : Int)
    ·have g40 : (decide (4 < ((((gt x0.Segments k16)).length : Nat) : Int))) = true := decide_eq_true h39
     refine CM_condT rfl g40 ?_
     refine sr (wa (nt' (CM_ret (QM_then_ret (QM_block_ret (QM_then_ret (QM_then_ret (QM_block_ret (QM_then_ret ?_)))))))))
     exact rtb (h := by unfold impl_IsStore_m; exact cond_t g11 (cond_t g13 (fin_inl (rng_ret (body := F1) (k := k16) (s := d17) (show k16 < x0.Segments.length from by omega) (show impl_IsStore_b1 x0 k16 d17 = Sum.inl false from by unfold impl_IsStore_b1; exact cond_t g40 (rfl)) hF21) rfl)))
    ·have g40 : (decide (4 < ((((gt x0.Segments k16)).length : Nat) : Int))) = false := decide_eq_false h39
     refine CM_condF rfl g40 ?_
     refine CM_skip (QM_then (sr (wm ?_)))
     refine wv (vlen underlying122) ?_
     refine wm (nt' (CM_block ?_))
     let F2 := fun k (s : (List DVersion)) => impl_IsStore_b2 x0 k16 k s
     let R6 := rng (R := Bool) F2
     let I15 : It := iBox p9 39 [.slice (some a26) x0.Segments.length c5, .int .i64 x0.Now]
     refine CM_loop (σ := Nat × ((List DVersion)) × (Option Addr × Nat)) (fun s => [(1, .pointer (some (⟨p9, 0, none⟩ : Addr))), (3, .slice s.2.2.1 s.2.1.length s.2.2.2), (23, .slice (some a26) x0.Segments.length c5), (24, .int .i64 ((x0.Segments.length : Nat) : Int)), (25, .int .i64 ((k16 : Nat) : Int)), (32, .slice A35 ((gt x0.Segments k16)).length c36), (33, .int .i64 ((((gt x0.Segments k16)).length : Nat) : Int)), (34, .int .i64 ((s.1 : Nat) : Int))]) (fun s => [iOwn (tSl (tBor tyVersion w w.heap.size) 142) [.slice s.2.2.1 s.2.1.length s.2.2.2] s.2.1, I15]) (fun s => s.1 ≤ ((gt x0.Segments k16)).length ∧ R6 (((gt x0.Segments k16)).length - s.1) s.1 s.2.1 = R6 (((gt x0.Segments k16)).length - 0) 0 d17 ∧ s.2.1.length ≤ d17.length + s.1) (fun s => ((gt x0.Segments k16)).length - s.1) (0, d17, (A18, c19)) sl8 (fun W hm => hm) ⟨(by omega), rfl, Nat.le_refl _⟩ ?_
     rintro ⟨k41, d42, ⟨A43, c44⟩⟩ H47
     obtain ⟨hk45, hF46, hi48⟩ : k41 ≤ ((gt x0.Segments k16)).length ∧ R6 (((gt x0.Segments k16)).length - k41) k41 d42 = R6 (((gt x0.Segments k16)).length - 0) 0 d17 ∧ d42.length ≤ d17.length + k41 := H47
     let I16 : It := iOwn (tSl (tBor tyVersion w w.heap.size) 142) [.slice A43 d42.length c44] d42
     show CM Tryz.prog 89 _ _ _ _ [(1, .pointer (some (⟨p9, 0, none⟩ : Addr))), (3, .slice A43 d42.length c44), (23, .slice (some a26) x0.Segments.length c5), (24, .int .i64 ((x0.Segments.length : Nat) : Int)), (25, .int .i64 ((k16 : Nat) : Int)), (32, .slice A35 ((gt x0.Segments k16)).length c36), (33, .int .i64 ((((gt x0.Segments k16)).length : Nat) : Int)), (34, .int .i64 ((k41 : Nat) : Int))] [I16, I15]
     refine sr ?_
     refine wv vlss ?_
     refine nt' (CM_seq ?_)
     by_cases hl49 : k41 < ((gt x0.Segments k16)).length
     ·have g50 : (decide (((k41 : Nat) : Int) < ((((gt x0.Segments k16)).length : Nat) : Int))) = true := decide_eq_true (by omega)
      refine CM_condT rfl g50 ?_
      refine CM_skip (QM_then (CM_seq (CM_block (sr ?_))))
      obtain ⟨a51, rfl, hb52, he53⟩ := q37 (by omega)
      refine wv (vix 4 k41 underlying122 type142) ?_
      obtain ⟨_, e57, hc54⟩ := he53 k41 _ (gt_some (show k41 < ((gt x0.Segments k16)).length from by omega))
      obtain ⟨v55, rfl, r56⟩ := tyVersion_rd e57
      have l58 : ((gt (gt x0.Segments k16) k41).Values).length ≤ 68719476736 := ((s_0.2 _ (gt_mem (show k16 < x0.Segments.length from by omega))).2 _ (gt_mem (show k41 < ((gt x0.Segments k16)).length from by omega)))
      have r63 := r56
      obtain ⟨m59, A60, c61, rfl, q62⟩ := r56
      let K9 : List Value := [.int .i64 ((gt (gt x0.Segments k16) k41).Id), .slice A60 ((gt (gt x0.Segments k16) k41).Values).length c61, .int .i64 ((gt (gt x0.Segments k16) k41).Born), .int .i64 ((gt (gt x0.Segments k16) k41).Died)]
      refine wv (fun W hm => rv_loadN (cs := K9) underlying142 type142 rfl rfl (hm.elCells (show (a51.add (k41 * 4)).block < w.heap.size from by rw [add_block]; exact hb52.1) hc54)) ?_
      refine WM_alloc type142 rfl (Wd_none rfl) (by decide) (fun p64 => ?_)
      refine sb 0 K9 [I16, I15] (fun W hm => hm) type142 ?_
      refine nt' (CM_seq (sr ?_))
      refine wv (fun W hm => rv_loadN (cs := K9) underlying142 type142 rfl rfl (hm.boxCells (n := 0) rfl)) ?_
      refine wcs tyRow (impl_rowOf_m (gt (gt x0.Segments k16) k41)) (cl_fn cb103 rfl) (fun W hm => impl_rowOf_c W _ (gt (gt x0.Segments k16) k41) (tyVersion_mk (x := (gt (gt x0.Segments k16) k41)) (hm.rdS0 r63)) ((s_0.2 _ (gt_mem (show k16 < x0.Segments.length from by omega))).2 _ (gt_mem (show k41 < ((gt x0.Segments k16)).length from by omega)))) (fun z65 => ?_)
      refine tyRow_sp ?_
      rintro v66 rfl
      refine WM_form (n := 0) rfl ?_
      rintro A67 c68 rfl m69
      refine wcv (cl_fn cb102 rfl) (fun W hm => impl_IsRow_c W _ (impl_rowOf_m (gt (gt x0.Segments k16) k41)) (tyRow_mk (x := (impl_rowOf_m (gt (gt x0.Segments k16) k41))) (hm.rdSI (n := 0) rfl))) ?_
      refine wv vnot ?_
      refine wm ?_
      rcases Bool.eq_false_or_eq_true (impl_IsRow_m (impl_rowOf_m (gt (gt x0.Segments k16) k41))) with g72 | g72
      ·
       refine wg (vf underlying142 rfl type3) (nt g72) ?_
       refine wg (vl 1 2 underlying3) (nt g72) ?_
       refine wg (vf underlying39 rfl type3) (nt g72) ?_
       refine wg (vl 3 1 underlying3) (nt g72) ?_
       refine WM_callV (cl_fn cb52 rfl) (fun W hm => impl_within_c W ((gt (gt x0.Segments k16) k41).Born) 0 x0.Now) (Wd_some rfl rfl rfl (bw (nt g72) rfl)) (by decide) ?_
       refine wg vnot (nt g72) ?_
       refine wv (vpF (nt g72)) ?_
       refine wm ?_
       rcases Bool.eq_false_or_eq_true (impl_within_m ((gt (gt x0.Segments k16) k41).Born) 0 x0.Now) with g74 | g74
       ·
        have hw := impl_within_fact g74
        refine wg (vf underlying142 rfl type3) (nt g74) ?_
        refine wg (vl 1 3 underlying3) (nt g74) ?_
        refine wg vneq (nt g74) ?_
        refine wg vmv (nt g74) ?_
        by_cases h75 : ((gt (gt x0.Segments k16) k41).Died) = (-1)
        ·have g76 : (((gt (gt x0.Segments k16) k41).Died) != (-1)) = false := by rw [h75]; exact bne_self_eq_false _
         refine ws g76 ?_
         refine ws g76 ?_
         refine ws g76 ?_
         refine ws g76 ?_
         refine ws g76 ?_
         refine ws g76 ?_
         refine ws g76 ?_
         refine ws g76 ?_
         refine ws g76 ?_
         refine wg (vpF g76) (nt g74) ?_
         refine wv (vpF (nt g74)) ?_
         refine nt' ?_
         refine CM_condF rfl rfl ?_
         refine CM_skip (QM_then (CM_seq (sr (wm ?_))))
         refine wv (vlen underlying122) ?_
         refine wm (nt' (CM_block ?_))
         let F3 := fun k (_ : Unit) => impl_IsStore_b3 x0 k16 k41 d42 k
         let R7 := rng (R := Bool) F3
         let K10 : List Value := [.slice A67 ((impl_rowOf_m (gt (gt x0.Segments k16) k41)).Values).length c68]
         let I17 : It := iOwn (tSl tInt 3) K10 ((impl_rowOf_m (gt (gt x0.Segments k16) k41)).Values)
         refine CM_loop (σ := Nat × (Unit) × (Unit)) (fun s => [(1, .pointer (some (⟨p9, 0, none⟩ : Addr))), (3, .slice A43 d42.length c44), (7, .pointer (some (⟨p64, 0, none⟩ : Addr))), (23, .slice (some a26) x0.Segments.length c5), (24, .int .i64 ((x0.Segments.length : Nat) : Int)), (25, .int .i64 ((k16 : Nat) : Int)), (32, .slice (some a51) ((gt x0.Segments k16)).length c36), (33, .int .i64 ((((gt x0.Segments k16)).length : Nat) : Int)), (34, .int .i64 ((k41 : Nat) : Int)), (66, .slice A43 d42.length c44), (67, .int .i64 ((d42.length : Nat) : Int)), (68, .int .i64 ((s.1 : Nat) : Int))]) (fun s => [I17, iBox p64 142 K9, I16, I15]) (fun s => s.1 ≤ d42.length ∧ R7 (d42.length - s.1) s.1 s.2.1 = R7 (d42.length - 0) 0 ()) (fun s => d42.length - s.1) (0, (), ()) sl12 (fun W hm => hm) ⟨(by omega), rfl⟩ ?_
         rintro ⟨k77, ⟨⟩, ⟨⟩⟩ H80
         obtain ⟨hk78, hF79⟩ : k77 ≤ d42.length ∧ R7 (d42.length - k77) k77 () = R7 (d42.length - 0) 0 () := H80
         show CM Tryz.prog 89 _ _ _ _ [(1, .pointer (some (⟨p9, 0, none⟩ : Addr))), (3, .slice A43 d42.length c44), (7, .pointer (some (⟨p64, 0, none⟩ : Addr))), (23, .slice (some a26) x0.Segments.length c5), (24, .int .i64 ((x0.Segments.length : Nat) : Int)), (25, .int .i64 ((k16 : Nat) : Int)), (32, .slice (some a51) ((gt x0.Segments k16)).length c36), (33, .int .i64 ((((gt x0.Segments k16)).length : Nat) : Int)), (34, .int .i64 ((k41 : Nat) : Int)), (66, .slice A43 d42.length c44), (67, .int .i64 ((d42.length : Nat) : Int)), (68, .int .i64 ((k77 : Nat) : Int))] [I17, iBox p64 142 K9, I16, I15]
         refine sr ?_
         refine wv vlss ?_
         refine nt' (CM_seq ?_)
         by_cases hl81 : k77 < d42.length
         ·have g82 : (decide (((k77 : Nat) : Int) < ((d42.length : Nat) : Int))) = true := decide_eq_true (by omega)
          refine CM_condT rfl g82 ?_
          refine CM_skip (QM_then (CM_seq (CM_block (sr ?_))))
          refine WM_formO (n := 2) rfl (by omega) ?_
          rintro g83 rfl
          refine wv (vix 4 k77 underlying122 type142) ?_
          refine WM_expose (T := tyVersion) (wb := w) (Bb := w.heap.size) (e := 142) (g := g83) (n := d42.length) (c := c44) (xs := d42) (js := [I17, iBox p64 142 K9, I15]) (pk [2, 0, 1, 3]) ?_
          rintro ck84 rk85
          obtain ⟨_, e86, hc87⟩ := rk85.get (j := k77) (by omega)
          obtain ⟨v88, rfl, r89⟩ := tyVersion_rd e86
          have r94 := r89
          obtain ⟨m90, A91, c92, rfl, q93⟩ := r89
          let K11 : List Value := [.int .i64 ((gt d42 k77).Id), .slice A91 ((gt d42 k77).Values).length c92, .int .i64 ((gt d42 k77).Born), .int .i64 ((gt d42 k77).Died)]
          refine wv (fun W hm => rv_loadN (cs := K11) underlying142 type142 rfl rfl (hm.rowCells (i := 0) rfl hc87)) ?_
          refine WM_alloc type142 rfl (Wd_none rfl) (by decide) (fun p95 => ?_)
          refine sb 0 K11 [iBox g83 142 ck84, I17, iBox p64 142 K9, I15] (fun W hm => hm) type142 ?_
          refine nt' (sr ?_)
          refine wv (vf underlying142 rfl type3) ?_
          refine wv (vl 3 0 underlying3) ?_
          refine wv (vf underlying142 rfl type3) ?_
          refine wv (vl 0 0 underlying3) ?_
          refine wv (fun W hm => rv_eql rfl rfl) ?_
          refine wm ?_
          by_cases h96 : ((gt (gt x0.Segments k16) k41).Id) = ((gt d42 k77).Id)
          ·have g97 : (((gt (gt x0.Segments k16) k41).Id) == ((gt d42 k77).Id)) = true := beq_iff_eq.2 h96
           refine wg (fun W hm => rv_loadN (cs := K9) underlying142 type142 rfl rfl (hm.boxCells (n := 3) rfl)) g97 ?_
           refine wg (fun W hm => rv_loadN (cs := K11) underlying142 type142 rfl rfl (hm.boxCells (n := 0) rfl)) g97 ?_
           refine WM_callV (cl_fn cb104 rfl) (fun W hm => impl_meetInTime_c W _ (gt (gt x0.Segments k16) k41) _ (gt d42 k77) (tyVersion_mk (x := (gt (gt x0.Segments k16) k41)) (hm.rdS0 r63)) (tyVersion_mk (x := (gt d42 k77)) (hm.rdS0 r94))) (Wd_some rfl rfl rfl (bw g97 rfl)) (by decide) ?_
           refine wv (vpT g97) ?_
           refine nt' ?_
           rcases Bool.eq_false_or_eq_true (impl_meetInTime_m (gt (gt x0.Segments k16) k41) (gt d42 k77)) with g99 | g99
           ·
            refine CM_condT rfl g99 ?_
            refine sr (wa (nt' (CM_ret (QM_block_ret (QM_then_ret (QM_then_ret (QM_block_ret (QM_then_ret (QM_block_ret (QM_then_ret (QM_then_ret (QM_block_ret (QM_block_ret (QM_then_ret (QM_then_ret (QM_block_ret (QM_then_ret ?_)))))))))))))))))
            refine QM_items (fun W hm => Mem.hide rk85 (hm.pick [1, 0, 2, 3, 4] (by decide))) ?_
            exact rtb (h := by unfold impl_IsStore_m; exact cond_t g11 (cond_t g13 (fin_inl (rng_ret (body := F1) (k := k16) (s := d17) (show k16 < x0.Segments.length from by omega) (show impl_IsStore_b1 x0 k16 d17 = Sum.inl false from by unfold impl_IsStore_b1; exact cond_f g40 (fin_inl (rng_ret (body := F2) (k := k41) (s := d42) (show k41 < ((gt x0.Segments k16)).length from by omega) (show impl_IsStore_b2 x0 k16 k41 d42 = Sum.inl false from by unfold impl_IsStore_b2; exact cond_t g72 (cond_t g74 (cond_f g76 (fin_inl (rng_ret (body := F3) (k := k77) (s := ()) (show k77 < d42.length from by omega) (show impl_IsStore_b3 x0 k16 k41 d42 k77 = Sum.inl false from by unfold impl_IsStore_b3; exact cond_t g97 (cond_t g99 (rfl))) hF79) rfl)))) hF46) rfl)) hF21) rfl)))
           ·
            refine CM_condF rfl g99 ?_
            refine CM_skip (QM_block_normal (QM_then (CM_region ?_)))
            refine wv (vadN k77 1 (by omega)) ?_
            refine wm (WM_nil ?_)
            refine QM_items (fun W hm => Mem.hide rk85 (hm.pick [1, 0, 2, 3, 4] (by decide))) ?_
            have hn100 := rng_next (R := Bool) (body := F3) (k := k77) (s := ()) (s' := ()) (show k77 < d42.length from by omega) (show impl_IsStore_b3 x0 k16 k41 d42 k77 = Sum.inr () from by unfold impl_IsStore_b3; exact cond_t g97 (cond_f g99 (rfl))) hF79
            exact QM_round (k77 + 1, (), ()) sl12 (pk [2, 3, 0, 4]) ⟨(by omega), hn100⟩ (rl (by omega))
          ·have g97 : (((gt (gt x0.Segments k16) k41).Id) == ((gt d42 k77).Id)) = false := beq_eq_false_iff_ne.2 h96
           refine ws g97 ?_
           refine ws g97 ?_
           refine ws g97 ?_
           refine wv (vpF g97) ?_
           refine nt' ?_
           refine CM_condF rfl rfl ?_
           refine CM_skip (QM_block_normal (QM_then (CM_region ?_)))
           refine wv (vadN k77 1 (by omega)) ?_
           refine wm (WM_nil ?_)
           refine QM_items (fun W hm => Mem.hide rk85 (hm.pick [1, 0, 2, 3, 4] (by decide))) ?_
           have hn101 := rng_next (R := Bool) (body := F3) (k := k77) (s := ()) (s' := ()) (show k77 < d42.length from by omega) (show impl_IsStore_b3 x0 k16 k41 d42 k77 = Sum.inr () from by unfold impl_IsStore_b3; exact cond_f g97 (rfl)) hF79
           exact QM_round (k77 + 1, (), ()) sl12 (pk [2, 3, 0, 4]) ⟨(by omega), hn101⟩ (rl (by omega))
         ·have g82 : (decide (((k77 : Nat) : Int) < ((d42.length : Nat) : Int))) = false := decide_eq_false (by omega)
          refine CM_condF rfl g82 ?_
          refine CM_exit (QM_then_exit (QM_then_exit ?_))
          have hE102 : R7 (d42.length - 0) 0 () = Sum.inr () := rng_end hl81 hF79
          refine QM_block_hit (QM_then (CM_region (wm ?_)))
          refine wv (fun W hm => rv_loadN (cs := K9) underlying142 type142 rfl rfl (hm.boxCells (n := 1) rfl)) ?_
          refine WM_build (cs := K9) underlying122 type142 rfl (by decide) (by decide) rfl (by kernel_rfl) (Wd_none rfl) (by decide) (fun p103 => ?_)
          refine ap1 (tBor tyVersion w w.heap.size) 142 (.slice A43 d42.length c44) d42 (gt (gt x0.Segments k16) k41) [] [I17, iBox p64 142 K9, I15] K9 (pk [0, 3, 1, 2, 4]) (fun _ _ hs => by cases (Sep.nil hs); exact (els_cons (E := (tBor tyVersion w w.heap.size)) (L1 := []) ⟨rfl, (tyVersion_mk r63)⟩ els_nil)) underlying122 type142 (show (d42.length + 1) * 48 ≤ 140737488355328 from by omega) (fun v104 => ?_)
          refine WM_form (n := 0) rfl ?_
          rintro A105 c106 rfl m107
          refine wa (WM_nil (QM_block_normal (QM_then (CM_region ?_))))
          refine wv (vadN k41 1 (by omega)) ?_
          refine wm (WM_nil ?_)
          have hn109 := rng_next (R := Bool) (body := F2) (k := k41) (s := d42) (s' := (d42 ++ [(gt (gt x0.Segments k16) k41)])) (show k41 < ((gt x0.Segments k16)).length from by omega) (show impl_IsStore_b2 x0 k16 k41 d42 = Sum.inr (d42 ++ [(gt (gt x0.Segments k16) k41)]) from by unfold impl_IsStore_b2; exact cond_t g72 (cond_t g74 (cond_f g76 (fin_inr hE102 (rfl))))) hF46
          exact QM_round (k41 + 1, (d42 ++ [(gt (gt x0.Segments k16) k41)]), (A105, c106)) sl8 (pk [0, 3]) ⟨(by omega), hn109, (show (d42 ++ [(gt (gt x0.Segments k16) k41)]).length ≤ d17.length + (k41 + 1) from by first | omega | (simp only [List.length_append, List.length_cons, List.length_nil] at *; omega))⟩ (show ((gt x0.Segments k16)).length - (k41 + 1) < ((gt x0.Segments k16)).length - k41 from by omega)
        ·have g76 : (((gt (gt x0.Segments k16) k41).Died) != (-1)) = true := bne_iff_ne.2 h75
         refine wg (vf underlying142 rfl type3) g76 ?_
         refine wg (vl 1 3 underlying3) g76 ?_
         refine wg (vf underlying142 rfl type3) g76 ?_
         refine wg (vl 1 2 underlying3) g76 ?_
         refine wg vadd g76 ?_
         refine wg (vf underlying39 rfl type3) g76 ?_
         refine wg (vl 3 1 underlying3) g76 ?_
         refine WM_callV (cl_fn cb52 rfl) (fun W hm => impl_within_c W ((gt (gt x0.Segments k16) k41).Died) (IntKind.i64.wrap (((gt (gt x0.Segments k16) k41).Born) + 1)) x0.Now) (Wd_some rfl rfl rfl (bw g76 rfl)) (by decide) ?_
         refine wg vnot g76 ?_
         refine wg (vpT g76) (nt g74) ?_
         refine wv (vpF (nt g74)) ?_
         refine nt' ?_
         rcases Bool.eq_false_or_eq_true (impl_within_m ((gt (gt x0.Segments k16) k41).Died) (IntKind.i64.wrap (((gt (gt x0.Segments k16) k41).Born) + 1)) x0.Now) with g111 | g111
         ·
          have hw := impl_within_fact g111
          refine CM_condF rfl (nt g111) ?_
          refine CM_skip (QM_then (CM_seq (sr (wm ?_))))
          refine wv (vlen underlying122) ?_
          refine wm (nt' (CM_block ?_))
          let F4 := fun k (_ : Unit) => impl_IsStore_b4 x0 k16 k41 d42 k
          let R8 := rng (R := Bool) F4
          let K12 : List Value := [.slice A67 ((impl_rowOf_m (gt (gt x0.Segments k16) k41)).Values).length c68]
          let I18 : It := iOwn (tSl tInt 3) K12 ((impl_rowOf_m (gt (gt x0.Segments k16) k41)).Values)
          refine CM_loop (σ := Nat × (Unit) × (Unit)) (fun s => [(1, .pointer (some (⟨p9, 0, none⟩ : Addr))), (3, .slice A43 d42.length c44), (7, .pointer (some (⟨p64, 0, none⟩ : Addr))), (23, .slice (some a26) x0.Segments.length c5), (24, .int .i64 ((x0.Segments.length : Nat) : Int)), (25, .int .i64 ((k16 : Nat) : Int)), (32, .slice (some a51) ((gt x0.Segments k16)).length c36), (33, .int .i64 ((((gt x0.Segments k16)).length : Nat) : Int)), (34, .int .i64 ((k41 : Nat) : Int)), (66, .slice A43 d42.length c44), (67, .int .i64 ((d42.length : Nat) : Int)), (68, .int .i64 ((s.1 : Nat) : Int))]) (fun s => [I18, iBox p64 142 K9, I16, I15]) (fun s => s.1 ≤ d42.length ∧ R8 (d42.length - s.1) s.1 s.2.1 = R8 (d42.length - 0) 0 ()) (fun s => d42.length - s.1) (0, (), ()) sl12 (fun W hm => hm) ⟨(by omega), rfl⟩ ?_
          rintro ⟨k112, ⟨⟩, ⟨⟩⟩ H115
          obtain ⟨hk113, hF114⟩ : k112 ≤ d42.length ∧ R8 (d42.length - k112) k112 () = R8 (d42.length - 0) 0 () := H115
          show CM Tryz.prog 89 _ _ _ _ [(1, .pointer (some (⟨p9, 0, none⟩ : Addr))), (3, .slice A43 d42.length c44), (7, .pointer (some (⟨p64, 0, none⟩ : Addr))), (23, .slice (some a26) x0.Segments.length c5), (24, .int .i64 ((x0.Segments.length : Nat) : Int)), (25, .int .i64 ((k16 : Nat) : Int)), (32, .slice (some a51) ((gt x0.Segments k16)).length c36), (33, .int .i64 ((((gt x0.Segments k16)).length : Nat) : Int)), (34, .int .i64 ((k41 : Nat) : Int)), (66, .slice A43 d42.length c44), (67, .int .i64 ((d42.length : Nat) : Int)), (68, .int .i64 ((k112 : Nat) : Int))] [I18, iBox p64 142 K9, I16, I15]
          refine sr ?_
          refine wv vlss ?_
          refine nt' (CM_seq ?_)
          by_cases hl116 : k112 < d42.length
          ·have g117 : (decide (((k112 : Nat) : Int) < ((d42.length : Nat) : Int))) = true := decide_eq_true (by omega)
           refine CM_condT rfl g117 ?_
           refine CM_skip (QM_then (CM_seq (CM_block (sr ?_))))
           refine WM_formO (n := 2) rfl (by omega) ?_
           rintro g118 rfl
           refine wv (vix 4 k112 underlying122 type142) ?_
           refine WM_expose (T := tyVersion) (wb := w) (Bb := w.heap.size) (e := 142) (g := g118) (n := d42.length) (c := c44) (xs := d42) (js := [I18, iBox p64 142 K9, I15]) (pk [2, 0, 1, 3]) ?_
           rintro ck119 rk120
           obtain ⟨_, e121, hc122⟩ := rk120.get (j := k112) (by omega)
           obtain ⟨v123, rfl, r124⟩ := tyVersion_rd e121
           have r129 := r124
           obtain ⟨m125, A126, c127, rfl, q128⟩ := r124
           let K13 : List Value := [.int .i64 ((gt d42 k112).Id), .slice A126 ((gt d42 k112).Values).length c127, .int .i64 ((gt d42 k112).Born), .int .i64 ((gt d42 k112).Died)]
           refine wv (fun W hm => rv_loadN (cs := K13) underlying142 type142 rfl rfl (hm.rowCells (i := 0) rfl hc122)) ?_
           refine WM_alloc type142 rfl (Wd_none rfl) (by decide) (fun p130 => ?_)
           refine sb 0 K13 [iBox g118 142 ck119, I18, iBox p64 142 K9, I15] (fun W hm => hm) type142 ?_
           refine nt' (sr ?_)
           refine wv (vf underlying142 rfl type3) ?_
           refine wv (vl 3 0 underlying3) ?_
           refine wv (vf underlying142 rfl type3) ?_
           refine wv (vl 0 0 underlying3) ?_
           refine wv (fun W hm => rv_eql rfl rfl) ?_
           refine wm ?_
           by_cases h131 : ((gt (gt x0.Segments k16) k41).Id) = ((gt d42 k112).Id)
           ·have g132 : (((gt (gt x0.Segments k16) k41).Id) == ((gt d42 k112).Id)) = true := beq_iff_eq.2 h131
            refine wg (fun W hm => rv_loadN (cs := K9) underlying142 type142 rfl rfl (hm.boxCells (n := 3) rfl)) g132 ?_
            refine wg (fun W hm => rv_loadN (cs := K13) underlying142 type142 rfl rfl (hm.boxCells (n := 0) rfl)) g132 ?_
            refine WM_callV (cl_fn cb104 rfl) (fun W hm => impl_meetInTime_c W _ (gt (gt x0.Segments k16) k41) _ (gt d42 k112) (tyVersion_mk (x := (gt (gt x0.Segments k16) k41)) (hm.rdS0 r63)) (tyVersion_mk (x := (gt d42 k112)) (hm.rdS0 r129))) (Wd_some rfl rfl rfl (bw g132 rfl)) (by decide) ?_
            refine wv (vpT g132) ?_
            refine nt' ?_
            rcases Bool.eq_false_or_eq_true (impl_meetInTime_m (gt (gt x0.Segments k16) k41) (gt d42 k112)) with g134 | g134
            ·
             refine CM_condT rfl g134 ?_
             refine sr (wa (nt' (CM_ret (QM_block_ret (QM_then_ret (QM_then_ret (QM_block_ret (QM_then_ret (QM_block_ret (QM_then_ret (QM_then_ret (QM_block_ret (QM_block_ret (QM_then_ret (QM_then_ret (QM_block_ret (QM_then_ret ?_)))))))))))))))))
             refine QM_items (fun W hm => Mem.hide rk120 (hm.pick [1, 0, 2, 3, 4] (by decide))) ?_
             exact rtb (h := by unfold impl_IsStore_m; exact cond_t g11 (cond_t g13 (fin_inl (rng_ret (body := F1) (k := k16) (s := d17) (show k16 < x0.Segments.length from by omega) (show impl_IsStore_b1 x0 k16 d17 = Sum.inl false from by unfold impl_IsStore_b1; exact cond_f g40 (fin_inl (rng_ret (body := F2) (k := k41) (s := d42) (show k41 < ((gt x0.Segments k16)).length from by omega) (show impl_IsStore_b2 x0 k16 k41 d42 = Sum.inl false from by unfold impl_IsStore_b2; exact cond_t g72 (cond_t g74 (cond_t g76 (cond_t g111 (fin_inl (rng_ret (body := F4) (k := k112) (s := ()) (show k112 < d42.length from by omega) (show impl_IsStore_b4 x0 k16 k41 d42 k112 = Sum.inl false from by unfold impl_IsStore_b4; exact cond_t g132 (cond_t g134 (rfl))) hF114) rfl))))) hF46) rfl)) hF21) rfl)))
            ·
             refine CM_condF rfl g134 ?_
             refine CM_skip (QM_block_normal (QM_then (CM_region ?_)))
             refine wv (vadN k112 1 (by omega)) ?_
             refine wm (WM_nil ?_)
             refine QM_items (fun W hm => Mem.hide rk120 (hm.pick [1, 0, 2, 3, 4] (by decide))) ?_
             have hn135 := rng_next (R := Bool) (body := F4) (k := k112) (s := ()) (s' := ()) (show k112 < d42.length from by omega) (show impl_IsStore_b4 x0 k16 k41 d42 k112 = Sum.inr () from by unfold impl_IsStore_b4; exact cond_t g132 (cond_f g134 (rfl))) hF114
             exact QM_round (k112 + 1, (), ()) sl12 (pk [2, 3, 0, 4]) ⟨(by omega), hn135⟩ (rl (by omega))
           ·have g132 : (((gt (gt x0.Segments k16) k41).Id) == ((gt d42 k112).Id)) = false := beq_eq_false_iff_ne.2 h131
            refine ws g132 ?_
            refine ws g132 ?_
            refine ws g132 ?_
            refine wv (vpF g132) ?_
            refine nt' ?_
            refine CM_condF rfl rfl ?_
            refine CM_skip (QM_block_normal (QM_then (CM_region ?_)))
            refine wv (vadN k112 1 (by omega)) ?_
            refine wm (WM_nil ?_)
            refine QM_items (fun W hm => Mem.hide rk120 (hm.pick [1, 0, 2, 3, 4] (by decide))) ?_
            have hn136 := rng_next (R := Bool) (body := F4) (k := k112) (s := ()) (s' := ()) (show k112 < d42.length from by omega) (show impl_IsStore_b4 x0 k16 k41 d42 k112 = Sum.inr () from by unfold impl_IsStore_b4; exact cond_f g132 (rfl)) hF114
            exact QM_round (k112 + 1, (), ()) sl12 (pk [2, 3, 0, 4]) ⟨(by omega), hn136⟩ (rl (by omega))
          ·have g117 : (decide (((k112 : Nat) : Int) < ((d42.length : Nat) : Int))) = false := decide_eq_false (by omega)
           refine CM_condF rfl g117 ?_
           refine CM_exit (QM_then_exit (QM_then_exit ?_))
           have hE137 : R8 (d42.length - 0) 0 () = Sum.inr () := rng_end hl116 hF114
           refine QM_block_hit (QM_then (CM_region (wm ?_)))
           refine wv (fun W hm => rv_loadN (cs := K9) underlying142 type142 rfl rfl (hm.boxCells (n := 1) rfl)) ?_
           refine WM_build (cs := K9) underlying122 type142 rfl (by decide) (by decide) rfl (by kernel_rfl) (Wd_none rfl) (by decide) (fun p138 => ?_)
           refine ap1 (tBor tyVersion w w.heap.size) 142 (.slice A43 d42.length c44) d42 (gt (gt x0.Segments k16) k41) [] [I18, iBox p64 142 K9, I15] K9 (pk [0, 3, 1, 2, 4]) (fun _ _ hs => by cases (Sep.nil hs); exact (els_cons (E := (tBor tyVersion w w.heap.size)) (L1 := []) ⟨rfl, (tyVersion_mk r63)⟩ els_nil)) underlying122 type142 (show (d42.length + 1) * 48 ≤ 140737488355328 from by omega) (fun v139 => ?_)
           refine WM_form (n := 0) rfl ?_
           rintro A140 c141 rfl m142
           refine wa (WM_nil (QM_block_normal (QM_then (CM_region ?_))))
           refine wv (vadN k41 1 (by omega)) ?_
           refine wm (WM_nil ?_)
           have hn144 := rng_next (R := Bool) (body := F2) (k := k41) (s := d42) (s' := (d42 ++ [(gt (gt x0.Segments k16) k41)])) (show k41 < ((gt x0.Segments k16)).length from by omega) (show impl_IsStore_b2 x0 k16 k41 d42 = Sum.inr (d42 ++ [(gt (gt x0.Segments k16) k41)]) from by unfold impl_IsStore_b2; exact cond_t g72 (cond_t g74 (cond_t g76 (cond_t g111 (fin_inr hE137 (rfl)))))) hF46
           exact QM_round (k41 + 1, (d42 ++ [(gt (gt x0.Segments k16) k41)]), (A140, c141)) sl8 (pk [0, 3]) ⟨(by omega), hn144, (show (d42 ++ [(gt (gt x0.Segments k16) k41)]).length ≤ d17.length + (k41 + 1) from by first | omega | (simp only [List.length_append, List.length_cons, List.length_nil] at *; omega))⟩ (show ((gt x0.Segments k16)).length - (k41 + 1) < ((gt x0.Segments k16)).length - k41 from by omega)
         ·
          refine CM_condT rfl (nf g111) ?_
          refine sr (wa (nt' (CM_ret (QM_then_ret (QM_block_ret (QM_then_ret (QM_then_ret (QM_block_ret (QM_block_ret (QM_then_ret (QM_then_ret (QM_block_ret (QM_then_ret ?_)))))))))))))
          exact rtb (h := by unfold impl_IsStore_m; exact cond_t g11 (cond_t g13 (fin_inl (rng_ret (body := F1) (k := k16) (s := d17) (show k16 < x0.Segments.length from by omega) (show impl_IsStore_b1 x0 k16 d17 = Sum.inl false from by unfold impl_IsStore_b1; exact cond_f g40 (fin_inl (rng_ret (body := F2) (k := k41) (s := d42) (show k41 < ((gt x0.Segments k16)).length from by omega) (show impl_IsStore_b2 x0 k16 k41 d42 = Sum.inl false from by unfold impl_IsStore_b2; exact cond_t g72 (cond_t g74 (cond_t g76 (cond_f g111 (rfl))))) hF46) rfl)) hF21) rfl)))
       ·
        refine ws (nf g74) ?_
        refine ws (nf g74) ?_
        refine ws (nf g74) ?_
        refine ws (nf g74) ?_
        refine wu ?_
        refine wu ?_
        refine wu ?_
        refine wu ?_
        refine wu ?_
        refine wu ?_
        refine wu ?_
        refine wu ?_
        refine wu ?_
        refine ws (nf g74) ?_
        refine wv (vpT (nf g74)) ?_
        refine nt' ?_
        refine CM_condT rfl rfl ?_
        refine sr (wa (nt' (CM_ret (QM_then_ret (QM_block_ret (QM_then_ret (QM_then_ret (QM_block_ret (QM_block_ret (QM_then_ret (QM_then_ret (QM_block_ret (QM_then_ret ?_)))))))))))))
        exact rtb (h := by unfold impl_IsStore_m; exact cond_t g11 (cond_t g13 (fin_inl (rng_ret (body := F1) (k := k16) (s := d17) (show k16 < x0.Segments.length from by omega) (show impl_IsStore_b1 x0 k16 d17 = Sum.inl false from by unfold impl_IsStore_b1; exact cond_f g40 (fin_inl (rng_ret (body := F2) (k := k41) (s := d42) (show k41 < ((gt x0.Segments k16)).length from by omega) (show impl_IsStore_b2 x0 k16 k41 d42 = Sum.inl false from by unfold impl_IsStore_b2; exact cond_t g72 (cond_f g74 (rfl))) hF46) rfl)) hF21) rfl)))
      ·
       refine ws (nf g72) ?_
       refine ws (nf g72) ?_
       refine ws (nf g72) ?_
       refine ws (nf g72) ?_
       refine ws (nf g72) ?_
       refine ws (nf g72) ?_
       refine wv (vpT (nf g72)) ?_
       refine wm ?_
       refine wk ?_
       refine wk ?_
       refine wk ?_
       refine wk ?_
       refine wu ?_
       refine wu ?_
       refine wu ?_
       refine wu ?_
       refine wu ?_
       refine wu ?_
       refine wu ?_
       refine wu ?_
       refine wu ?_
       refine wk ?_
       refine wv (vpT rfl) ?_
       refine nt' ?_
       refine CM_condT rfl rfl ?_
       refine sr (wa (nt' (CM_ret (QM_then_ret (QM_block_ret (QM_then_ret (QM_then_ret (QM_block_ret (QM_block_ret (QM_then_ret (QM_then_ret (QM_block_ret (QM_then_ret ?_)))))))))))))
       exact rtb (h := by unfold impl_IsStore_m; exact cond_t g11 (cond_t g13 (fin_inl (rng_ret (body := F1) (k := k16) (s := d17) (show k16 < x0.Segments.length from by omega) (show impl_IsStore_b1 x0 k16 d17 = Sum.inl false from by unfold impl_IsStore_b1; exact cond_f g40 (fin_inl (rng_ret (body := F2) (k := k41) (s := d42) (show k41 < ((gt x0.Segments k16)).length from by omega) (show impl_IsStore_b2 x0 k16 k41 d42 = Sum.inl false from by unfold impl_IsStore_b2; exact cond_f g72 (rfl)) hF46) rfl)) hF21) rfl)))
     ·have g50 : (decide (((k41 : Nat) : Int) < ((((gt x0.Segments k16)).length : Nat) : Int))) = false := decide_eq_false (by omega)
      refine CM_condF rfl g50 ?_
      refine CM_exit (QM_then_exit (QM_then_exit ?_))
      have hE145 : R6 (((gt x0.Segments k16)).length - 0) 0 d17 = Sum.inr d42 := rng_end hl49 hF46
      refine QM_block_hit (QM_block_normal (QM_then (CM_region ?_)))
      refine wv (vadN k16 1 (by omega)) ?_
      refine wm (WM_nil ?_)
      have hn146 := rng_next (R := Bool) (body := F1) (k := k16) (s := d17) (s' := d42) (show k16 < x0.Segments.length from by omega) (show impl_IsStore_b1 x0 k16 d17 = Sum.inr d42 from by unfold impl_IsStore_b1; exact cond_f g40 (fin_inr hE145 (rfl))) hF21
      exact QM_round (k16 + 1, d42, (A43, c44)) sl5 (fun W hm => hm) ⟨(by omega), hn146, (show d42.length ≤ 0 + 4 * (k16 + 1) from by first | omega | (simp only [List.length_append, List.length_cons, List.length_nil] at *; omega))⟩ (rl (by omega))
   ·have g25 : (decide (((k16 : Nat) : Int) < ((x0.Segments.length : Nat) : Int))) = false := decide_eq_false (by omega)
    refine CM_condF rfl g25 ?_
    refine CM_exit (QM_then_exit (QM_then_exit ?_))
    have hE147 : R5 (x0.Segments.length - 0) 0 [] = Sum.inr d17 := rng_end hl24 hF21
    refine QM_block_hit (QM_then (sr (wa (nt' (CM_ret ?_)))))
    exact rtb (h := by unfold impl_IsStore_m; exact cond_t g11 (cond_t g13 (fin_inr hE147 (rfl))))
  ·
   refine CM_condT rfl (nf g13) ?_
   refine sr (wa (nt' (CM_ret (QM_then_ret ?_))))
   exact rtb (h := by unfold impl_IsStore_m; exact cond_t g11 (cond_f g13 (rfl)))
 ·
  refine ws (nf g11) ?_
  refine ws (nf g11) ?_
  refine ws (nf g11) ?_
  refine ws (nf g11) ?_
  refine wv (vpT (nf g11)) ?_
  refine nt' ?_
  refine CM_condT rfl rfl ?_
  refine sr (wa (nt' (CM_ret (QM_then_ret ?_))))
  exact rtb (h := by unfold impl_IsStore_m; exact cond_f g11 (rfl))

def impl_hasInt_b1 (x0 : (List Int)) (x1 : Int) (k6 : Nat) : Bool ⊕ (Unit) :=
 cond ((gt x0 k6) == x1) (Sum.inl true) (Sum.inr ())
def impl_hasInt_m (x0 : (List Int)) (x1 : Int) : Bool :=
 Sum.elim id (fun (s : Unit) => false) (rng (R := Bool) (fun k (_ : Unit) => impl_hasInt_b1 x0 x1 k) (x0.length - 0) 0 ())
theorem cb105 : Cb Tryz.prog 105 := ⟨f105, _, func105, rfl, by decide⟩
theorem impl_hasInt_c (w : World) (z0 : Value) (x0 : (List Int)) (x1 : Int) (r_0 : rdS tInt w w.heap.size z0 x0) :
  Calls Tryz.prog 105 #[z0, .int .i64 x1] w fun e w' => e = .returned (.bool (impl_hasInt_m x0 x1)) ∧ Below w.heap.size w w' := by
 have r5 := r_0
 obtain ⟨m1, A2, c3, rfl, q4⟩ := r_0
 refine ce2 (L := [(0, .slice A2 x0.length c3), (1, .int .i64 x1)]) (N := 17) func105 ?_
 refine sr (wa (nt' (CM_seq (sr (wm ?_)))))
 refine wv (vlen underlying25) ?_
 refine wm (nt' (CM_block ?_))
 let F1 := fun k (_ : Unit) => impl_hasInt_b1 x0 x1 k
 let R2 := rng (R := Bool) F1
 refine CM_loop (σ := Nat × (Unit) × (Unit)) (fun s => [(1, .int .i64 x1), (7, .slice A2 x0.length c3), (8, .int .i64 ((x0.length : Nat) : Int)), (9, .int .i64 ((s.1 : Nat) : Int))]) (fun s => []) (fun s => s.1 ≤ x0.length ∧ R2 (x0.length - s.1) s.1 s.2.1 = R2 (x0.length - 0) 0 ()) (fun s => x0.length - s.1) (0, (), ()) sl4 (fun W hm => hm) ⟨(by omega), rfl⟩ ?_
 rintro ⟨k6, ⟨⟩, ⟨⟩⟩ H9
 obtain ⟨hk7, hF8⟩ : k6 ≤ x0.length ∧ R2 (x0.length - k6) k6 () = R2 (x0.length - 0) 0 () := H9
 show CM Tryz.prog 17 _ _ _ _ [(1, .int .i64 x1), (7, .slice A2 x0.length c3), (8, .int .i64 ((x0.length : Nat) : Int)), (9, .int .i64 ((k6 : Nat) : Int))] []
 refine sr ?_
 refine wv vlss ?_
 refine nt' (CM_seq ?_)
 by_cases hl10 : k6 < x0.length
 ·have g11 : (decide (((k6 : Nat) : Int) < ((x0.length : Nat) : Int))) = true := decide_eq_true (by omega)
  refine CM_condT rfl g11 ?_
  refine CM_skip (QM_then (CM_seq (CM_block (sr ?_))))
  obtain ⟨a12, rfl, hb13, he14⟩ := q4 (by omega)
  refine wv (vix 1 k6 underlying25 type3) ?_
  refine wv (fun W hm => rv_load underlying3 rfl rfl ((hm.cell0 (show (a12.add (k6 * 1)).block < w.heap.size from by rw [add_block]; exact hb13.1)).trans (rdS_int he14 k6 (by omega)))) ?_
  refine wa (nt' (sr (wm (wm ?_))))
  refine wv (fun W hm => rv_eql rfl rfl) ?_
  refine nt' ?_
  by_cases h15 : (gt x0 k6) = x1
  ·have g16 : ((gt x0 k6) == x1) = true := beq_iff_eq.2 h15
   refine CM_condT rfl g16 ?_
   refine sr (wa (nt' (CM_ret (QM_block_ret (QM_then_ret (QM_then_ret (QM_block_ret (QM_then_ret ?_))))))))
   exact rtb (h := by unfold impl_hasInt_m; exact fin_inl (rng_ret (body := F1) (k := k6) (s := ()) (show k6 < x0.length from by omega) (show impl_hasInt_b1 x0 x1 k6 = Sum.inl true from by unfold impl_hasInt_b1; exact cond_t g16 (rfl)) hF8) rfl)
  ·have g16 : ((gt x0 k6) == x1) = false := beq_eq_false_iff_ne.2 h15
   refine CM_condF rfl g16 ?_
   refine CM_skip (QM_block_normal (QM_then (CM_region ?_)))
   refine wv (vadN k6 1 (by omega)) ?_
   refine wm (WM_nil ?_)
   have hn17 := rng_next (R := Bool) (body := F1) (k := k6) (s := ()) (s' := ()) (show k6 < x0.length from by omega) (show impl_hasInt_b1 x0 x1 k6 = Sum.inr () from by unfold impl_hasInt_b1; exact cond_f g16 (rfl)) hF8
   exact QM_round (k6 + 1, (), ()) sl4 (fun W hm => hm) ⟨(by omega), hn17⟩ (rl (by omega))
 ·have g11 : (decide (((k6 : Nat) : Int) < ((x0.length : Nat) : Int))) = false := decide_eq_false (by omega)
  refine CM_condF rfl g11 ?_
  refine CM_exit (QM_then_exit (QM_then_exit ?_))
  have hE18 : R2 (x0.length - 0) 0 () = Sum.inr () := rng_end hl10 hF8
  refine QM_block_hit (QM_then (sr (wa (nt' (CM_ret ?_)))))
  exact rtb (h := by unfold impl_hasInt_m; exact fin_inr hE18 (rfl))

def impl_isOrder_b1 (x0 : (List Int)) (k6 : Nat) : Bool ⊕ (Unit) :=
 cond (impl_hasInt_m x0 ((k6 : Nat) : Int)) (Sum.inr ()) (Sum.inl false)
def impl_isOrder_m (x0 : (List Int)) : Bool :=
 Sum.elim id (fun (s : Unit) => (((x0.length : Nat) : Int) == 3)) (rng (R := Bool) (fun k (_ : Unit) => impl_isOrder_b1 x0 k) (3 - 0) 0 ())
theorem cb80 : Cb Tryz.prog 80 := ⟨f80, _, func80, rfl, by decide⟩
theorem impl_isOrder_c (w : World) (z0 : Value) (x0 : (List Int)) (r_0 : rdS tInt w w.heap.size z0 x0) :
  Calls Tryz.prog 80 #[z0] w fun e w' => e = .returned (.bool (impl_isOrder_m x0)) ∧ Below w.heap.size w w' := by
 have r5 := r_0
 obtain ⟨m1, A2, c3, rfl, q4⟩ := r_0
 refine ce1 (L := [(0, .slice A2 x0.length c3)]) (N := 15) func80 ?_
 refine sr (wa (nt' (CM_seq (sr (wa (nt' (CM_block ?_)))))))
 let F1 := fun k (_ : Unit) => impl_isOrder_b1 x0 k
 let R2 := rng (R := Bool) F1
 refine CM_loop (σ := Nat × (Unit) × (Unit)) (fun s => [(0, .slice A2 x0.length c3), (3, .int .i64 ((s.1 : Nat) : Int))]) (fun s => []) (fun s => s.1 ≤ 3 ∧ R2 (3 - s.1) s.1 s.2.1 = R2 (3 - 0) 0 ()) (fun s => 3 - s.1) (0, (), ()) sl2 (fun W hm => hm) ⟨(by omega), rfl⟩ ?_
 rintro ⟨k6, ⟨⟩, ⟨⟩⟩ H9
 obtain ⟨hk7, hF8⟩ : k6 ≤ 3 ∧ R2 (3 - k6) k6 () = R2 (3 - 0) 0 () := H9
 show CM Tryz.prog 15 _ _ _ _ [(0, .slice A2 x0.length c3), (3, .int .i64 ((k6 : Nat) : Int))] []
 refine CM_seq (sr (wm ?_))
 refine wv vlss ?_
 refine nt' ?_
 by_cases hl10 : k6 < 3
 ·have g11 : (decide (((k6 : Nat) : Int) < 3)) = true := decide_eq_true (by omega)
  refine CM_condT rfl g11 ?_
  refine CM_skip (QM_then (CM_seq (CM_block (sr (wm (wm ?_))))))
  refine wcv (cl_fn cb105 rfl) (fun W hm => impl_hasInt_c W _ x0 ((k6 : Nat) : Int) (hm.rdS0 r5)) ?_
  refine wv vnot ?_
  refine nt' ?_
  rcases Bool.eq_false_or_eq_true (impl_hasInt_m x0 ((k6 : Nat) : Int)) with g13 | g13
  ·
   refine CM_condF rfl (nt g13) ?_
   refine CM_skip (QM_block_normal (QM_then (CM_region (wm ?_))))
   refine wv (vadN k6 1 (by omega)) ?_
   refine wa (WM_nil ?_)
   have hn14 := rng_next (R := Bool) (body := F1) (k := k6) (s := ()) (s' := ()) (show k6 < 3 from by omega) (show impl_isOrder_b1 x0 k6 = Sum.inr () from by unfold impl_isOrder_b1; exact cond_t g13 (rfl)) hF8
   exact QM_round (k6 + 1, (), ()) sl2 (fun W hm => hm) ⟨(by omega), hn14⟩ (rl (by omega))
  ·
   refine CM_condT rfl (nf g13) ?_
   refine sr (wa (nt' (CM_ret (QM_block_ret (QM_then_ret (QM_then_ret (QM_block_ret (QM_then_ret ?_))))))))
   exact rtb (h := by unfold impl_isOrder_m; exact fin_inl (rng_ret (body := F1) (k := k6) (s := ()) (show k6 < 3 from by omega) (show impl_isOrder_b1 x0 k6 = Sum.inl false from by unfold impl_isOrder_b1; exact cond_f g13 (rfl)) hF8) rfl)
 ·have g11 : (decide (((k6 : Nat) : Int) < 3)) = false := decide_eq_false (by omega)
  refine CM_condF rfl g11 ?_
  refine CM_exit (QM_then_exit (QM_then_exit ?_))
  have hE15 : R2 (3 - 0) 0 () = Sum.inr () := rng_end hl10 hF8
  refine QM_block_hit (QM_then (sr (wm ?_)))
  refine wv (vlen underlying25) ?_
  refine wv (fun W hm => rv_eql rfl rfl) ?_
  refine wa (nt' (CM_ret ?_))
  exact rtb (h := by unfold impl_isOrder_m; exact fin_inr hE15 (rfl))

def impl_isField_m (x0 : Int) : Bool :=
 (impl_within_m x0 0 2)
theorem cb85 : Cb Tryz.prog 85 := ⟨f85, _, func85, rfl, by decide⟩
theorem impl_isField_c (w : World) (x0 : Int) :
  Calls Tryz.prog 85 #[.int .i64 x0] w fun e w' => e = .returned (.bool (impl_isField_m x0)) ∧ Below w.heap.size w w' := by
 refine ce1 (L := [(0, .int .i64 x0)]) (N := 5) func85 ?_
 refine sr (wa (nt' (sr (wm ?_))))
 refine wcv (cl_fn cb52 rfl) (fun W hm => impl_within_c W x0 0 2) ?_
 refine wa (nt' (CM_ret ?_))
 exact rtb (h := by unfold impl_isField_m; exact rfl)

def impl_IsCond_m (x0 : DCond) : Bool :=
 cond (impl_isField_m x0.Field) (cond (decide (0 ≤ x0.Low)) (cond (decide (x0.Low ≤ x0.High)) (decide (x0.High ≤ 99)) false) false) false
theorem cb84 : Cb Tryz.prog 84 := ⟨f84, _, func84, rfl, by decide⟩
theorem impl_IsCond_c (w : World) (z0 : List Value) (x0 : DCond) (r_0 : tyCond.rd w w.heap.size z0 x0) :
  Calls Tryz.prog 84 #[.agg z0.toArray] w fun e w' => e = .returned (.bool (impl_IsCond_m x0)) ∧ Below w.heap.size w w' := by
 obtain rfl := tyCond_rd r_0
 refine ce1 (L := [(0, .agg #[.int .i64 x0.Field, .int .i64 x0.Low, .int .i64 x0.High])]) (N := 23) func84 ?_
 refine sr ?_
 refine WM_box rfl (Wd_none rfl) (by decide) (fun p1 => ?_)
 refine wa (nt' (sr ?_))
 refine wv (vf underlying102 rfl type3) ?_
 refine wv (vl 0 0 underlying3) ?_
 refine wcv (cl_fn cb85 rfl) (fun W hm => impl_isField_c W x0.Field) ?_
 refine wm ?_
 rcases Bool.eq_false_or_eq_true (impl_isField_m x0.Field) with g3 | g3
 ·
  refine wg (vf underlying102 rfl type3) g3 ?_
  refine wg (vl 0 1 underlying3) g3 ?_
  refine wg (fun W hm => rv_geq rfl rfl) g3 ?_
  refine wv (vpT g3) ?_
  refine wm ?_
  by_cases h4 : 0 ≤ x0.Low
  ·have g5 : (decide (0 ≤ x0.Low)) = true := decide_eq_true h4
   refine wg (vf underlying102 rfl type3) g5 ?_
   refine wg (vl 0 1 underlying3) g5 ?_
   refine wg (vf underlying102 rfl type3) g5 ?_
   refine wg (vl 0 2 underlying3) g5 ?_
   refine wg (fun W hm => rv_leq rfl rfl) g5 ?_
   refine wv (vpT g5) ?_
   refine wm ?_
   by_cases h6 : x0.Low ≤ x0.High
   ·have g7 : (decide (x0.Low ≤ x0.High)) = true := decide_eq_true h6
    refine wg (vf underlying102 rfl type3) g7 ?_
    refine wg (vl 0 2 underlying3) g7 ?_
    refine wg (fun W hm => rv_leq rfl rfl) g7 ?_
    refine wv (vpT g7) ?_
    refine wa (nt' (CM_ret ?_))
    exact rtb (h := by unfold impl_IsCond_m; exact cond_t g3 (cond_t g5 (cond_t g7 (rfl))))
   ·have g7 : (decide (x0.Low ≤ x0.High)) = false := decide_eq_false h6
    refine ws g7 ?_
    refine ws g7 ?_
    refine ws g7 ?_
    refine wv (vpF g7) ?_
    refine wa (nt' (CM_ret ?_))
    exact rtb (h := by unfold impl_IsCond_m; exact cond_t g3 (cond_t g5 (cond_f g7 (rfl))))
  ·have g5 : (decide (0 ≤ x0.Low)) = false := decide_eq_false h4
   refine ws g5 ?_
   refine ws g5 ?_
   refine ws g5 ?_
   refine ws g5 ?_
   refine ws g5 ?_
   refine wv (vpF g5) ?_
   refine wm ?_
   refine wk ?_
   refine wk ?_
   refine wk ?_
   refine wv (vpF rfl) ?_
   refine wa (nt' (CM_ret ?_))
   exact rtb (h := by unfold impl_IsCond_m; exact cond_t g3 (cond_f g5 (rfl)))
 ·
  refine ws g3 ?_
  refine ws g3 ?_
  refine ws g3 ?_
  refine wv (vpF g3) ?_
  refine wm ?_
  refine wk ?_
  refine wk ?_
  refine wk ?_
  refine wk ?_
  refine wk ?_
  refine wv (vpF rfl) ?_
  refine wm ?_
  refine wk ?_
  refine wk ?_
  refine wk ?_
  refine wv (vpF rfl) ?_
  refine wa (nt' (CM_ret ?_))
  exact rtb (h := by unfold impl_IsCond_m; exact cond_f g3 (rfl))

def impl_IsQuery_b2 (x0 : DQuery) (k45 : Nat) : Bool ⊕ (Unit) :=
 cond (impl_isField_m (gt x0.Out k45)) (Sum.inr ()) (Sum.inl false)
def impl_IsQuery_b1 (x0 : DQuery) (k22 : Nat) : Bool ⊕ (Unit) :=
 cond (impl_IsCond_m (gt x0.Conds k22)) (cond (decide (0 < ((k22 : Nat) : Int))) (cond (decide (((gt x0.Conds k22).Field) ≤ ((gt x0.Conds (k22 - 1)).Field))) (Sum.inl false) (Sum.inr ())) (Sum.inr ())) (Sum.inl false)
def impl_IsQuery_m (x0 : DQuery) : Bool :=
 cond (impl_within_m x0.Id 0 23) (cond (impl_within_m x0.Tenant 0 3) (cond (decide (3 < ((x0.Conds.length : Nat) : Int))) false (Sum.elim id (fun (s1_ : Unit) => Sum.elim id (fun (s : Unit) => (impl_within_m ((x0.Out.length : Nat) : Int) 1 3)) (rng (R := Bool) (fun k (_ : Unit) => impl_IsQuery_b2 x0 k) (x0.Out.length - 0) 0 ())) (rng (R := Bool) (fun k (_ : Unit) => impl_IsQuery_b1 x0 k) (x0.Conds.length - 0) 0 ()))) false) false
theorem cb51 : Cb Tryz.prog 51 := ⟨f51, _, func51, rfl, by decide⟩
theorem impl_IsQuery_c (w : World) (z0 : List Value) (x0 : DQuery) (r_0 : tyQuery.rd w w.heap.size z0 x0) :
  Calls Tryz.prog 51 #[.agg z0.toArray] w fun e w' => e = .returned (.bool (impl_IsQuery_m x0)) ∧ Below w.heap.size w w' := by
 obtain ⟨v1, v3, rfl, r2, r4⟩ := tyQuery_rd r_0
 have r9 := r2
 obtain ⟨m5, A6, c7, rfl, q8⟩ := r2
 have r14 := r4
 obtain ⟨m10, A11, c12, rfl, q13⟩ := r4
 refine ce1 (L := [(0, .agg #[.int .i64 x0.Id, .int .i64 x0.Tenant, .slice A6 x0.Conds.length c7, .slice A11 x0.Out.length c12])]) (N := 66) func51 ?_
 refine sr ?_
 refine WM_box rfl (Wd_none rfl) (by decide) (fun p15 => ?_)
 refine wa (nt' (CM_seq (sr ?_)))
 refine wv (vf underlying48 rfl type3) ?_
 refine wv (vl 0 0 underlying3) ?_
 refine wcv (cl_fn cb52 rfl) (fun W hm => impl_within_c W x0.Id 0 23) ?_
 refine wv vnot ?_
 refine wm ?_
 rcases Bool.eq_false_or_eq_true (impl_within_m x0.Id 0 23) with g17 | g17
 ·
  have hw := impl_within_fact g17
  refine wg (vf underlying48 rfl type3) (nt g17) ?_
  refine wg (vl 0 1 underlying3) (nt g17) ?_
  refine WM_callV (cl_fn cb52 rfl) (fun W hm => impl_within_c W x0.Tenant 0 3) (Wd_some rfl rfl rfl (bw (nt g17) rfl)) (by decide) ?_
  refine wg vnot (nt g17) ?_
  refine wv (vpF (nt g17)) ?_
  refine wm ?_
  rcases Bool.eq_false_or_eq_true (impl_within_m x0.Tenant 0 3) with g19 | g19
  ·
   have hw := impl_within_fact g19
   refine wg (vf underlying48 rfl type46) (nt g19) ?_
   refine wg (vl 0 2 underlying46) (nt g19) ?_
   refine wg (vlen underlying46) (nt g19) ?_
   refine wg (fun W hm => rv_gtr rfl rfl) (nt g19) ?_
   refine wv (vpF (nt g19)) ?_
   refine nt' ?_
   by_cases h20 : 3 < ((x0.Conds.length : Nat) : Int)
   ·have g21 : (decide (3 < ((x0.Conds.length : Nat) : Int))) = true := decide_eq_true h20
    refine CM_condT rfl g21 ?_
    refine sr (wa (nt' (CM_ret (QM_then_ret ?_))))
    exact rtb (h := by unfold impl_IsQuery_m; exact cond_t g17 (cond_t g19 (cond_t g21 (rfl))))
   ·have g21 : (decide (3 < ((x0.Conds.length : Nat) : Int))) = false := decide_eq_false h20
    refine CM_condF rfl g21 ?_
    refine CM_skip (QM_then (CM_seq (sr ?_)))
    refine wv (vf underlying48 rfl type46) ?_
    refine wv (vl 0 2 underlying46) ?_
    refine wv (vlen underlying46) ?_
    refine wm (nt' (CM_block ?_))
    let F1 := fun k (_ : Unit) => impl_IsQuery_b1 x0 k
    let R3 := rng (R := Bool) F1
    let K5 : List Value := [.int .i64 x0.Id, .int .i64 x0.Tenant, .slice A6 x0.Conds.length c7, .slice A11 x0.Out.length c12]
    refine CM_loop (σ := Nat × (Unit) × (Unit)) (fun s => [(1, .pointer (some (⟨p15, 0, none⟩ : Addr))), (24, .slice A6 x0.Conds.length c7), (25, .int .i64 ((x0.Conds.length : Nat) : Int)), (26, .int .i64 ((s.1 : Nat) : Int))]) (fun s => [iBox p15 48 K5]) (fun s => s.1 ≤ x0.Conds.length ∧ R3 (x0.Conds.length - s.1) s.1 s.2.1 = R3 (x0.Conds.length - 0) 0 ()) (fun s => x0.Conds.length - s.1) (0, (), ()) sl4 (fun W hm => hm) ⟨(by omega), rfl⟩ ?_
    rintro ⟨k22, ⟨⟩, ⟨⟩⟩ H25
    obtain ⟨hk23, hF24⟩ : k22 ≤ x0.Conds.length ∧ R3 (x0.Conds.length - k22) k22 () = R3 (x0.Conds.length - 0) 0 () := H25
    show CM Tryz.prog 66 _ _ _ _ [(1, .pointer (some (⟨p15, 0, none⟩ : Addr))), (24, .slice A6 x0.Conds.length c7), (25, .int .i64 ((x0.Conds.length : Nat) : Int)), (26, .int .i64 ((k22 : Nat) : Int))] [iBox p15 48 K5]
    refine sr ?_
    refine wv vlss ?_
    refine nt' (CM_seq ?_)
    by_cases hl26 : k22 < x0.Conds.length
    ·have g27 : (decide (((k22 : Nat) : Int) < ((x0.Conds.length : Nat) : Int))) = true := decide_eq_true (by omega)
     refine CM_condT rfl g27 ?_
     refine CM_skip (QM_then (CM_seq (CM_block (sr (wm ?_)))))
     obtain ⟨a28, rfl, hb29, he30⟩ := q8 (by omega)
     refine wv (vix 3 k22 underlying46 type102) ?_
     obtain ⟨_, e32, hc31⟩ := he30 k22 _ (gt_some (show k22 < x0.Conds.length from by omega))
     obtain rfl := tyCond_rd e32
     let K6 : List Value := [.int .i64 ((gt x0.Conds k22).Field), .int .i64 ((gt x0.Conds k22).Low), .int .i64 ((gt x0.Conds k22).High)]
     refine wv (fun W hm => rv_loadN (cs := K6) underlying102 type102 rfl rfl (hm.elCells (show (a28.add (k22 * 3)).block < w.heap.size from by rw [add_block]; exact hb29.1) hc31)) ?_
     refine WM_alloc type102 rfl (Wd_none rfl) (by decide) (fun p33 => ?_)
     refine wa ?_
     refine sb 0 K6 [iBox p15 48 [.int .i64 x0.Id, .int .i64 x0.Tenant, .slice (some a28) x0.Conds.length c7, .slice A11 x0.Out.length c12]] (fun W hm => hm) type102 ?_
     refine nt' (CM_seq ?_)
     refine CM_regionD (by kernel_rfl) (by kernel_rfl) ?_
     refine qv (fun W hm => rv_loadN (cs := K6) underlying102 type102 rfl rfl (hm.boxCells (n := 0) rfl)) ?_
     refine QR_callV (cl_fn cb84 rfl) (fun W hm => impl_IsCond_c W _ (gt x0.Conds k22) (tyCond_mk (x := (gt x0.Conds k22)))) (Wd_none rfl) (by decide) ?_
     refine qv vnot ?_
     refine qm ?_
     rcases Bool.eq_false_or_eq_true (impl_IsCond_m (gt x0.Conds k22)) with g35 | g35
     ·
      refine qg vmv (nt g35) ?_
      refine qg (fun W hm => rv_gtr rfl rfl) (nt g35) ?_
      refine qg vmv (nt g35) ?_
      by_cases h36 : 0 < ((k22 : Nat) : Int)
      ·have g37 : (decide (0 < ((k22 : Nat) : Int))) = true := decide_eq_true h36
       refine qg (vf underlying48 rfl type46) g37 ?_
       refine qg (vl 1 2 underlying46) g37 ?_
       refine qg vmv g37 ?_
       refine qg (fun W hm => rv_subN (p := k22) (q := 1) rfl rfl (by omega) (by omega)) g37 ?_
       refine qg (fun W hm => rv_index (sz := 3) (k := k22 - 1) underlying46 type102 rfl rfl rfl (by omega)) g37 ?_
       refine qg (vf underlying102 rfl type3) g37 ?_
       obtain ⟨_, e39, hc38⟩ := he30 (k22 - 1) _ (gt_some (show (k22 - 1) < x0.Conds.length from by omega))
       obtain rfl := tyCond_rd e39
       refine qg (fun W hm => rv_load underlying3 rfl rfl ((hm.cell0 (show ((a28.add ((k22 - 1) * 3)).add 0).block < w.heap.size from by rw [add_block, add_block]; exact hb29.1)).trans (hc38 0 _ rfl))) g37 ?_
       refine qg (vf underlying102 rfl type3) g37 ?_
       refine qg (vl 0 0 underlying3) g37 ?_
       refine qg (fun W hm => rv_geq rfl rfl) g37 ?_
       refine qg (vpT g37) (nt g35) ?_
       refine qv (vpF (nt g35)) ?_
       refine nq' ?_
       by_cases h40 : ((gt x0.Conds k22).Field) ≤ ((gt x0.Conds (k22 - 1)).Field)
       ·have g41 : (decide (((gt x0.Conds k22).Field) ≤ ((gt x0.Conds (k22 - 1)).Field))) = true := decide_eq_true h40
        refine CM_condT rfl g41 ?_
        refine sr (wa (nt' (CM_ret (QM_block_ret (QM_then_ret (QM_then_ret (QM_block_ret (QM_then_ret ?_))))))))
        exact rtb (h := by unfold impl_IsQuery_m; exact cond_t g17 (cond_t g19 (cond_f g21 (fin_inl (rng_ret (body := F1) (k := k22) (s := ()) (show k22 < x0.Conds.length from by omega) (show impl_IsQuery_b1 x0 k22 = Sum.inl false from by unfold impl_IsQuery_b1; exact cond_t g35 (cond_t g37 (cond_t g41 (rfl)))) hF24) rfl))))
       ·have g41 : (decide (((gt x0.Conds k22).Field) ≤ ((gt x0.Conds (k22 - 1)).Field))) = false := decide_eq_false h40
        refine CM_condF rfl g41 ?_
        refine CM_skip (QM_block_normal (QM_then (CM_region ?_)))
        refine wv (vadN k22 1 (by omega)) ?_
        refine wm (WM_nil ?_)
        have hn42 := rng_next (R := Bool) (body := F1) (k := k22) (s := ()) (s' := ()) (show k22 < x0.Conds.length from by omega) (show impl_IsQuery_b1 x0 k22 = Sum.inr () from by unfold impl_IsQuery_b1; exact cond_t g35 (cond_t g37 (cond_f g41 (rfl)))) hF24
        exact QM_round (k22 + 1, (), ()) sl4 (pk [1]) ⟨(by omega), hn42⟩ (rl (by omega))
      ·have g37 : (decide (0 < ((k22 : Nat) : Int))) = false := decide_eq_false h36
       refine qs g37 ?_
       refine qs g37 ?_
       refine qs g37 ?_
       refine qs g37 ?_
       refine qs g37 ?_
       refine qs g37 ?_
       refine qs g37 ?_
       refine qs g37 ?_
       refine qs g37 ?_
       refine qs g37 ?_
       refine qg (vpF g37) (nt g35) ?_
       refine qv (vpF (nt g35)) ?_
       refine nq' ?_
       refine CM_condF rfl rfl ?_
       refine CM_skip (QM_block_normal (QM_then (CM_region ?_)))
       refine wv (vadN k22 1 (by omega)) ?_
       refine wm (WM_nil ?_)
       have hn43 := rng_next (R := Bool) (body := F1) (k := k22) (s := ()) (s' := ()) (show k22 < x0.Conds.length from by omega) (show impl_IsQuery_b1 x0 k22 = Sum.inr () from by unfold impl_IsQuery_b1; exact cond_t g35 (cond_f g37 (rfl))) hF24
       exact QM_round (k22 + 1, (), ()) sl4 (pk [1]) ⟨(by omega), hn43⟩ (rl (by omega))
     ·
      refine qs (nf g35) ?_
      refine qs (nf g35) ?_
      refine qs (nf g35) ?_
      refine qu ?_
      refine qu ?_
      refine qu ?_
      refine qu ?_
      refine qu ?_
      refine qu ?_
      refine qu ?_
      refine qu ?_
      refine qu ?_
      refine qu ?_
      refine qs (nf g35) ?_
      refine qv (vpT (nf g35)) ?_
      refine nq' ?_
      refine CM_condT rfl rfl ?_
      refine sr (wa (nt' (CM_ret (QM_block_ret (QM_then_ret (QM_then_ret (QM_block_ret (QM_then_ret ?_))))))))
      exact rtb (h := by unfold impl_IsQuery_m; exact cond_t g17 (cond_t g19 (cond_f g21 (fin_inl (rng_ret (body := F1) (k := k22) (s := ()) (show k22 < x0.Conds.length from by omega) (show impl_IsQuery_b1 x0 k22 = Sum.inl false from by unfold impl_IsQuery_b1; exact cond_f g35 (rfl)) hF24) rfl))))
    ·have g27 : (decide (((k22 : Nat) : Int) < ((x0.Conds.length : Nat) : Int))) = false := decide_eq_false (by omega)
     refine CM_condF rfl g27 ?_
     refine CM_exit (QM_then_exit (QM_then_exit ?_))
     have hE44 : R3 (x0.Conds.length - 0) 0 () = Sum.inr () := rng_end hl26 hF24
     refine QM_block_hit (QM_then (CM_seq (sr ?_)))
     refine wv (vf underlying48 rfl type25) ?_
     refine wv (vl 0 3 underlying25) ?_
     refine wv (vlen underlying25) ?_
     refine wm (nt' (CM_block ?_))
     let F2 := fun k (_ : Unit) => impl_IsQuery_b2 x0 k
     let R4 := rng (R := Bool) F2
     refine CM_loop (σ := Nat × (Unit) × (Unit)) (fun s => [(1, .pointer (some (⟨p15, 0, none⟩ : Addr))), (52, .slice A11 x0.Out.length c12), (53, .int .i64 ((x0.Out.length : Nat) : Int)), (54, .int .i64 ((s.1 : Nat) : Int))]) (fun s => [iBox p15 48 K5]) (fun s => s.1 ≤ x0.Out.length ∧ R4 (x0.Out.length - s.1) s.1 s.2.1 = R4 (x0.Out.length - 0) 0 ()) (fun s => x0.Out.length - s.1) (0, (), ()) sl4 (fun W hm => hm) ⟨(by omega), rfl⟩ ?_
     rintro ⟨k45, ⟨⟩, ⟨⟩⟩ H48
     obtain ⟨hk46, hF47⟩ : k45 ≤ x0.Out.length ∧ R4 (x0.Out.length - k45) k45 () = R4 (x0.Out.length - 0) 0 () := H48
     show CM Tryz.prog 66 _ _ _ _ [(1, .pointer (some (⟨p15, 0, none⟩ : Addr))), (52, .slice A11 x0.Out.length c12), (53, .int .i64 ((x0.Out.length : Nat) : Int)), (54, .int .i64 ((k45 : Nat) : Int))] [iBox p15 48 K5]
     refine sr ?_
     refine wv vlss ?_
     refine nt' (CM_seq ?_)
     by_cases hl49 : k45 < x0.Out.length
     ·have g50 : (decide (((k45 : Nat) : Int) < ((x0.Out.length : Nat) : Int))) = true := decide_eq_true (by omega)
      refine CM_condT rfl g50 ?_
      refine CM_skip (QM_then (CM_seq (CM_block (sr ?_))))
      obtain ⟨a51, rfl, hb52, he53⟩ := q13 (by omega)
      refine wv (vix 1 k45 underlying25 type3) ?_
      refine wv (fun W hm => rv_load underlying3 rfl rfl ((hm.cell0 (show (a51.add (k45 * 1)).block < w.heap.size from by rw [add_block]; exact hb52.1)).trans (rdS_int he53 k45 (by omega)))) ?_
      refine wa (nt' (sr (wm ?_)))
      refine wcv (cl_fn cb85 rfl) (fun W hm => impl_isField_c W (gt x0.Out k45)) ?_
      refine wv vnot ?_
      refine nt' ?_
      rcases Bool.eq_false_or_eq_true (impl_isField_m (gt x0.Out k45)) with g55 | g55
      ·
       refine CM_condF rfl (nt g55) ?_
       refine CM_skip (QM_block_normal (QM_then (CM_region ?_)))
       refine wv (vadN k45 1 (by omega)) ?_
       refine wm (WM_nil ?_)
       have hn56 := rng_next (R := Bool) (body := F2) (k := k45) (s := ()) (s' := ()) (show k45 < x0.Out.length from by omega) (show impl_IsQuery_b2 x0 k45 = Sum.inr () from by unfold impl_IsQuery_b2; exact cond_t g55 (rfl)) hF47
       exact QM_round (k45 + 1, (), ()) sl4 (fun W hm => hm) ⟨(by omega), hn56⟩ (rl (by omega))
      ·
       refine CM_condT rfl (nf g55) ?_
       refine sr (wa (nt' (CM_ret (QM_block_ret (QM_then_ret (QM_then_ret (QM_block_ret (QM_then_ret ?_))))))))
       exact rtb (h := by unfold impl_IsQuery_m; exact cond_t g17 (cond_t g19 (cond_f g21 (fin_inr hE44 (fin_inl (rng_ret (body := F2) (k := k45) (s := ()) (show k45 < x0.Out.length from by omega) (show impl_IsQuery_b2 x0 k45 = Sum.inl false from by unfold impl_IsQuery_b2; exact cond_f g55 (rfl)) hF47) rfl)))))
     ·have g50 : (decide (((k45 : Nat) : Int) < ((x0.Out.length : Nat) : Int))) = false := decide_eq_false (by omega)
      refine CM_condF rfl g50 ?_
      refine CM_exit (QM_then_exit (QM_then_exit ?_))
      have hE57 : R4 (x0.Out.length - 0) 0 () = Sum.inr () := rng_end hl49 hF47
      refine QM_block_hit (QM_then (sr ?_))
      refine wv (vf underlying48 rfl type25) ?_
      refine wv (vl 0 3 underlying25) ?_
      refine wv (vlen underlying25) ?_
      refine wcv (cl_fn cb52 rfl) (fun W hm => impl_within_c W ((x0.Out.length : Nat) : Int) 1 3) ?_
      refine wa (nt' (CM_ret ?_))
      exact rtb (h := by unfold impl_IsQuery_m; exact cond_t g17 (cond_t g19 (cond_f g21 (fin_inr hE44 (fin_inr hE57 (rfl))))))
  ·
   refine ws (nf g19) ?_
   refine ws (nf g19) ?_
   refine ws (nf g19) ?_
   refine ws (nf g19) ?_
   refine wv (vpT (nf g19)) ?_
   refine nt' ?_
   refine CM_condT rfl rfl ?_
   refine sr (wa (nt' (CM_ret (QM_then_ret ?_))))
   exact rtb (h := by unfold impl_IsQuery_m; exact cond_t g17 (cond_f g19 (rfl)))
 ·
  refine ws (nf g17) ?_
  refine ws (nf g17) ?_
  refine ws (nf g17) ?_
  refine ws (nf g17) ?_
  refine wv (vpT (nf g17)) ?_
  refine wm ?_
  refine wk ?_
  refine wk ?_
  refine wk ?_
  refine wk ?_
  refine wv (vpT rfl) ?_
  refine nt' ?_
  refine CM_condT rfl rfl ?_
  refine sr (wa (nt' (CM_ret (QM_then_ret ?_))))
  exact rtb (h := by unfold impl_IsQuery_m; exact cond_f g17 (rfl))

def impl_allRows_b1 (x0 : (List DRow)) (k6 : Nat) : Bool ⊕ (Unit) :=
 cond (impl_IsRow_m (gt x0 k6)) (Sum.inr ()) (Sum.inl false)
def impl_allRows_m (x0 : (List DRow)) : Bool :=
 Sum.elim id (fun (s : Unit) => true) (rng (R := Bool) (fun k (_ : Unit) => impl_allRows_b1 x0 k) (x0.length - 0) 0 ())
theorem cb106 : Cb Tryz.prog 106 := ⟨f106, _, func106, rfl, by decide⟩
theorem impl_allRows_c (w : World) (z0 : Value) (x0 : (List DRow)) (r_0 : rdS tyRow w w.heap.size z0 x0) :
  Calls Tryz.prog 106 #[z0] w fun e w' => e = .returned (.bool (impl_allRows_m x0)) ∧ Below w.heap.size w w' := by
 have r5 := r_0
 obtain ⟨m1, A2, c3, rfl, q4⟩ := r_0
 refine ce1 (L := [(0, .slice A2 x0.length c3)]) (N := 15) func106 ?_
 refine sr (wa (nt' (CM_seq (sr (wm ?_)))))
 refine wv (vlen underlying91) ?_
 refine wm (nt' (CM_block ?_))
 let F1 := fun k (_ : Unit) => impl_allRows_b1 x0 k
 let R2 := rng (R := Bool) F1
 refine CM_loop (σ := Nat × (Unit) × (Unit)) (fun s => [(5, .slice A2 x0.length c3), (6, .int .i64 ((x0.length : Nat) : Int)), (7, .int .i64 ((s.1 : Nat) : Int))]) (fun s => []) (fun s => s.1 ≤ x0.length ∧ R2 (x0.length - s.1) s.1 s.2.1 = R2 (x0.length - 0) 0 ()) (fun s => x0.length - s.1) (0, (), ()) sl3 (fun W hm => hm) ⟨(by omega), rfl⟩ ?_
 rintro ⟨k6, ⟨⟩, ⟨⟩⟩ H9
 obtain ⟨hk7, hF8⟩ : k6 ≤ x0.length ∧ R2 (x0.length - k6) k6 () = R2 (x0.length - 0) 0 () := H9
 show CM Tryz.prog 15 _ _ _ _ [(5, .slice A2 x0.length c3), (6, .int .i64 ((x0.length : Nat) : Int)), (7, .int .i64 ((k6 : Nat) : Int))] []
 refine sr ?_
 refine wv vlss ?_
 refine nt' (CM_seq ?_)
 by_cases hl10 : k6 < x0.length
 ·have g11 : (decide (((k6 : Nat) : Int) < ((x0.length : Nat) : Int))) = true := decide_eq_true (by omega)
  refine CM_condT rfl g11 ?_
  refine CM_skip (QM_then (CM_seq (CM_block (sr ?_))))
  obtain ⟨a12, rfl, hb13, he14⟩ := q4 (by omega)
  refine wv (vix 2 k6 underlying91 type138) ?_
  obtain ⟨_, e18, hc15⟩ := he14 k6 _ (gt_some (show k6 < x0.length from by omega))
  obtain ⟨v16, rfl, r17⟩ := tyRow_rd e18
  have r23 := r17
  obtain ⟨m19, A20, c21, rfl, q22⟩ := r17
  let K3 : List Value := [.int .i64 ((gt x0 k6).Id), .slice A20 ((gt x0 k6).Values).length c21]
  refine wv (fun W hm => rv_loadN (cs := K3) underlying138 type138 rfl rfl (hm.elCells (show (a12.add (k6 * 2)).block < w.heap.size from by rw [add_block]; exact hb13.1) hc15)) ?_
  refine WM_alloc type138 rfl (Wd_none rfl) (by decide) (fun p24 => ?_)
  refine sb 0 K3 [] (fun W hm => hm) type138 ?_
  refine nt' (sr ?_)
  refine wv (fun W hm => rv_loadN (cs := K3) underlying138 type138 rfl rfl (hm.boxCells (n := 0) rfl)) ?_
  refine wcv (cl_fn cb102 rfl) (fun W hm => impl_IsRow_c W _ (gt x0 k6) (tyRow_mk (x := (gt x0 k6)) (hm.rdS0 r23))) ?_
  refine wv vnot ?_
  refine nt' ?_
  rcases Bool.eq_false_or_eq_true (impl_IsRow_m (gt x0 k6)) with g26 | g26
  ·
   refine CM_condF rfl (nt g26) ?_
   refine CM_skip (QM_block_normal (QM_then (CM_region ?_)))
   refine wv (vadN k6 1 (by omega)) ?_
   refine wm (WM_nil ?_)
   have hn27 := rng_next (R := Bool) (body := F1) (k := k6) (s := ()) (s' := ()) (show k6 < x0.length from by omega) (show impl_allRows_b1 x0 k6 = Sum.inr () from by unfold impl_allRows_b1; exact cond_t g26 (rfl)) hF8
   exact QM_round (k6 + 1, (), ()) sl3 (pk []) ⟨(by omega), hn27⟩ (rl (by omega))
  ·
   refine CM_condT rfl (nf g26) ?_
   refine sr (wa (nt' (CM_ret (QM_block_ret (QM_then_ret (QM_then_ret (QM_block_ret (QM_then_ret ?_))))))))
   exact rtb (h := by unfold impl_allRows_m; exact fin_inl (rng_ret (body := F1) (k := k6) (s := ()) (show k6 < x0.length from by omega) (show impl_allRows_b1 x0 k6 = Sum.inl false from by unfold impl_allRows_b1; exact cond_f g26 (rfl)) hF8) rfl)
 ·have g11 : (decide (((k6 : Nat) : Int) < ((x0.length : Nat) : Int))) = false := decide_eq_false (by omega)
  refine CM_condF rfl g11 ?_
  refine CM_exit (QM_then_exit (QM_then_exit ?_))
  have hE28 : R2 (x0.length - 0) 0 () = Sum.inr () := rng_end hl10 hF8
  refine QM_block_hit (QM_then (sr (wa (nt' (CM_ret ?_)))))
  exact rtb (h := by unfold impl_allRows_m; exact fin_inr hE28 (rfl))

def impl_resultOk_m (x0 : (List DRow)) : Bool :=
 cond (decide (((x0.length : Nat) : Int) ≤ 1000)) (impl_allRows_m x0) false
theorem cb82 : Cb Tryz.prog 82 := ⟨f82, _, func82, rfl, by decide⟩
theorem impl_resultOk_c (w : World) (z0 : Value) (x0 : (List DRow)) (r_0 : rdS tyRow w w.heap.size z0 x0) :
  Calls Tryz.prog 82 #[z0] w fun e w' => e = .returned (.bool (impl_resultOk_m x0)) ∧ Below w.heap.size w w' := by
 have r5 := r_0
 obtain ⟨m1, A2, c3, rfl, q4⟩ := r_0
 refine ce1 (L := [(0, .slice A2 x0.length c3)]) (N := 10) func82 ?_
 refine sr (wa (nt' (sr (wm ?_))))
 refine wv (vlen underlying91) ?_
 refine wv (fun W hm => rv_leq rfl rfl) ?_
 refine wm ?_
 by_cases h6 : ((x0.length : Nat) : Int) ≤ 1000
 ·have g7 : (decide (((x0.length : Nat) : Int) ≤ 1000)) = true := decide_eq_true h6
  refine wg vmv g7 ?_
  refine WM_callV (cl_fn cb106 rfl) (fun W hm => impl_allRows_c W _ x0 (hm.rdS0 r5)) (Wd_some rfl rfl rfl (bw g7 rfl)) (by decide) ?_
  refine wv (vpT g7) ?_
  refine wa (nt' (CM_ret ?_))
  exact rtb (h := by unfold impl_resultOk_m; exact cond_t g7 (rfl))
 ·have g7 : (decide (((x0.length : Nat) : Int) ≤ 1000)) = false := decide_eq_false h6
  refine ws g7 ?_
  refine ws g7 ?_
  refine wv (vpF g7) ?_
  refine wa (nt' (CM_ret ?_))
  exact rtb (h := by unfold impl_resultOk_m; exact cond_f g7 (rfl))

def impl_activeOk_b1 (x0 : DStore) (x1 : DActive) (k38 : Nat) : Bool ⊕ (Unit) :=
 cond (impl_within_m (gt x1.Todo k38) 0 (IntKind.i64.wrap (((x0.Segments.length : Nat) : Int) - 1))) (cond (decide (0 < ((k38 : Nat) : Int))) (cond (decide ((gt x1.Todo k38) ≤ (gt x1.Todo (k38 - 1)))) (Sum.inl false) (Sum.inr ())) (Sum.inr ())) (Sum.inl false)
def impl_activeOk_m (x0 : DStore) (x1 : DActive) : Bool :=
 Sum.elim id (fun (s : Unit) => cond (decide (0 < ((x1.Todo.length : Nat) : Int))) (cond (impl_IsQuery_m x1.Query) (cond (impl_within_m x1.Time 0 x0.Now) (cond (impl_within_m x1.Age 0 100000) (cond (impl_within_m x1.Sent 0 1000) (cond (impl_within_m x1.Cap 0 32) (impl_resultOk_m x1.Rows) false) false) false) false) false) false) (rng (R := Bool) (fun k (_ : Unit) => impl_activeOk_b1 x0 x1 k) (x1.Todo.length - 0) 0 ())
theorem cb81 : Cb Tryz.prog 81 := ⟨f81, _, func81, rfl, by decide⟩
theorem impl_activeOk_c (w : World) (z0 : List Value) (x0 : DStore) (z1 : List Value) (x1 : DActive) (r_0 : tyStore.rd w w.heap.size z0 x0) (r_1 : tyActive.rd w w.heap.size z1 x1) :
  Calls Tryz.prog 81 #[.agg z0.toArray, .agg z1.toArray] w fun e w' => e = .returned (.bool (impl_activeOk_m x0 x1)) ∧ Below w.heap.size w w' := by
 obtain ⟨v1, rfl, r2⟩ := tyStore_rd r_0
 have r7 := r2
 obtain ⟨m3, A4, c5, rfl, q6⟩ := r2
 obtain ⟨v8, v10, v12, v14, rfl, r9, r11, r13, r15⟩ := tyActive_rd r_1
 have r20 := r9
 obtain ⟨m16, A17, c18, rfl, q19⟩ := r9
 have r25 := r11
 obtain ⟨m21, A22, c23, rfl, q24⟩ := r11
 have r30 := r13
 obtain ⟨m26, A27, c28, rfl, q29⟩ := r13
 have r35 := r15
 obtain ⟨m31, A32, c33, rfl, q34⟩ := r15
 refine ce2 (L := [(0, .agg #[.slice A4 x0.Segments.length c5, .int .i64 x0.Now]), (1, .agg #[.int .i64 x1.Query.Id, .int .i64 x1.Query.Tenant, .slice A17 x1.Query.Conds.length c18, .slice A22 x1.Query.Out.length c23, .int .i64 x1.Time, .slice A27 x1.Todo.length c28, .int .i64 x1.Age, .int .i64 x1.Sent, .int .i64 x1.Cap, .slice A32 x1.Rows.length c33])]) (N := 73) func81 ?_
 refine sr ?_
 refine WM_box rfl (Wd_none rfl) (by decide) (fun p36 => ?_)
 refine WM_box rfl (Wd_none rfl) (by decide) (fun p37 => ?_)
 refine wa (nt' (CM_seq (sr ?_)))
 refine wv (vf underlying93 rfl type25) ?_
 refine wv (vl 0 5 underlying25) ?_
 refine wv (vlen underlying25) ?_
 refine wm (nt' (CM_block ?_))
 let F1 := fun k (_ : Unit) => impl_activeOk_b1 x0 x1 k
 let R2 := rng (R := Bool) F1
 let K3 : List Value := [.int .i64 x1.Query.Id, .int .i64 x1.Query.Tenant, .slice A17 x1.Query.Conds.length c18, .slice A22 x1.Query.Out.length c23, .int .i64 x1.Time, .slice A27 x1.Todo.length c28, .int .i64 x1.Age, .int .i64 x1.Sent, .int .i64 x1.Cap, .slice A32 x1.Rows.length c33]
 let I4 : It := iBox p36 39 [.slice A4 x0.Segments.length c5, .int .i64 x0.Now]
 refine CM_loop (σ := Nat × (Unit) × (Unit)) (fun s => [(2, .pointer (some (⟨p36, 0, none⟩ : Addr))), (3, .pointer (some (⟨p37, 0, none⟩ : Addr))), (8, .slice A27 x1.Todo.length c28), (9, .int .i64 ((x1.Todo.length : Nat) : Int)), (10, .int .i64 ((s.1 : Nat) : Int))]) (fun s => [iBox p37 93 K3, I4]) (fun s => s.1 ≤ x1.Todo.length ∧ R2 (x1.Todo.length - s.1) s.1 s.2.1 = R2 (x1.Todo.length - 0) 0 ()) (fun s => x1.Todo.length - s.1) (0, (), ()) sl5 (fun W hm => hm) ⟨(by omega), rfl⟩ ?_
 rintro ⟨k38, ⟨⟩, ⟨⟩⟩ H41
 obtain ⟨hk39, hF40⟩ : k38 ≤ x1.Todo.length ∧ R2 (x1.Todo.length - k38) k38 () = R2 (x1.Todo.length - 0) 0 () := H41
 show CM Tryz.prog 73 _ _ _ _ [(2, .pointer (some (⟨p36, 0, none⟩ : Addr))), (3, .pointer (some (⟨p37, 0, none⟩ : Addr))), (8, .slice A27 x1.Todo.length c28), (9, .int .i64 ((x1.Todo.length : Nat) : Int)), (10, .int .i64 ((k38 : Nat) : Int))] [iBox p37 93 K3, I4]
 refine sr ?_
 refine wv vlss ?_
 refine nt' (CM_seq ?_)
 by_cases hl42 : k38 < x1.Todo.length
 ·have g43 : (decide (((k38 : Nat) : Int) < ((x1.Todo.length : Nat) : Int))) = true := decide_eq_true (by omega)
  refine CM_condT rfl g43 ?_
  refine CM_skip (QM_then (CM_seq (CM_block (sr (wm ?_)))))
  obtain ⟨a44, rfl, hb45, he46⟩ := q29 (by omega)
  refine wv (vix 1 k38 underlying25 type3) ?_
  refine wv (fun W hm => rv_load underlying3 rfl rfl ((hm.cell0 (show (a44.add (k38 * 1)).block < w.heap.size from by rw [add_block]; exact hb45.1)).trans (rdS_int he46 k38 (by omega)))) ?_
  refine wa (wa (nt' (sr (wm ?_))))
  refine wv (vf underlying39 rfl type37) ?_
  refine wv (vl 1 0 underlying37) ?_
  refine wv (vlen underlying37) ?_
  refine wv (fun W hm => rv_sub rfl rfl) ?_
  refine wcv (cl_fn cb52 rfl) (fun W hm => impl_within_c W (gt x1.Todo k38) 0 (IntKind.i64.wrap (((x0.Segments.length : Nat) : Int) - 1))) ?_
  refine wv vnot ?_
  refine wm ?_
  rcases Bool.eq_false_or_eq_true (impl_within_m (gt x1.Todo k38) 0 (IntKind.i64.wrap (((x0.Segments.length : Nat) : Int) - 1))) with g48 | g48
  ·
   have hw := impl_within_fact g48
   rw [wrap_pred (by omega)] at hw
   refine wg vmv (nt g48) ?_
   refine wg (fun W hm => rv_gtr rfl rfl) (nt g48) ?_
   refine wg vmv (nt g48) ?_
   by_cases h49 : 0 < ((k38 : Nat) : Int)
   ·have g50 : (decide (0 < ((k38 : Nat) : Int))) = true := decide_eq_true h49
    refine wg (vf underlying93 rfl type25) g50 ?_
    refine wg (vl 0 5 underlying25) g50 ?_
    refine wg vmv g50 ?_
    refine wg (fun W hm => rv_subN (p := k38) (q := 1) rfl rfl (by omega) (by omega)) g50 ?_
    refine wg (fun W hm => rv_index (sz := 1) (k := k38 - 1) underlying25 type3 rfl rfl rfl (by omega)) g50 ?_
    refine wg (fun W hm => rv_load underlying3 rfl rfl ((hm.cell0 (show (a44.add ((k38 - 1) * 1)).block < w.heap.size from by rw [add_block]; exact hb45.1)).trans (rdS_int he46 (k38 - 1) (by omega)))) g50 ?_
    refine wg vmv g50 ?_
    refine wg (fun W hm => rv_geq rfl rfl) g50 ?_
    refine wg (vpT g50) (nt g48) ?_
    refine wv (vpF (nt g48)) ?_
    refine nt' ?_
    by_cases h51 : (gt x1.Todo k38) ≤ (gt x1.Todo (k38 - 1))
    ·have g52 : (decide ((gt x1.Todo k38) ≤ (gt x1.Todo (k38 - 1)))) = true := decide_eq_true h51
     refine CM_condT rfl g52 ?_
     refine sr (wa (nt' (CM_ret (QM_block_ret (QM_then_ret (QM_then_ret (QM_block_ret (QM_then_ret ?_))))))))
     exact rtb (h := by unfold impl_activeOk_m; exact fin_inl (rng_ret (body := F1) (k := k38) (s := ()) (show k38 < x1.Todo.length from by omega) (show impl_activeOk_b1 x0 x1 k38 = Sum.inl false from by unfold impl_activeOk_b1; exact cond_t g48 (cond_t g50 (cond_t g52 (rfl)))) hF40) rfl)
    ·have g52 : (decide ((gt x1.Todo k38) ≤ (gt x1.Todo (k38 - 1)))) = false := decide_eq_false h51
     refine CM_condF rfl g52 ?_
     refine CM_skip (QM_block_normal (QM_then (CM_region ?_)))
     refine wv (vadN k38 1 (by omega)) ?_
     refine wm (WM_nil ?_)
     have hn53 := rng_next (R := Bool) (body := F1) (k := k38) (s := ()) (s' := ()) (show k38 < x1.Todo.length from by omega) (show impl_activeOk_b1 x0 x1 k38 = Sum.inr () from by unfold impl_activeOk_b1; exact cond_t g48 (cond_t g50 (cond_f g52 (rfl)))) hF40
     exact QM_round (k38 + 1, (), ()) sl5 (fun W hm => hm) ⟨(by omega), hn53⟩ (rl (by omega))
   ·have g50 : (decide (0 < ((k38 : Nat) : Int))) = false := decide_eq_false h49
    refine ws g50 ?_
    refine ws g50 ?_
    refine ws g50 ?_
    refine ws g50 ?_
    refine ws g50 ?_
    refine ws g50 ?_
    refine ws g50 ?_
    refine ws g50 ?_
    refine wg (vpF g50) (nt g48) ?_
    refine wv (vpF (nt g48)) ?_
    refine nt' ?_
    refine CM_condF rfl rfl ?_
    refine CM_skip (QM_block_normal (QM_then (CM_region ?_)))
    refine wv (vadN k38 1 (by omega)) ?_
    refine wm (WM_nil ?_)
    have hn54 := rng_next (R := Bool) (body := F1) (k := k38) (s := ()) (s' := ()) (show k38 < x1.Todo.length from by omega) (show impl_activeOk_b1 x0 x1 k38 = Sum.inr () from by unfold impl_activeOk_b1; exact cond_t g48 (cond_f g50 (rfl))) hF40
    exact QM_round (k38 + 1, (), ()) sl5 (fun W hm => hm) ⟨(by omega), hn54⟩ (rl (by omega))
  ·
   refine ws (nf g48) ?_
   refine ws (nf g48) ?_
   refine ws (nf g48) ?_
   refine wu ?_
   refine wu ?_
   refine wu ?_
   refine wu ?_
   refine wu ?_
   refine wu ?_
   refine wu ?_
   refine wu ?_
   refine ws (nf g48) ?_
   refine wv (vpT (nf g48)) ?_
   refine nt' ?_
   refine CM_condT rfl rfl ?_
   refine sr (wa (nt' (CM_ret (QM_block_ret (QM_then_ret (QM_then_ret (QM_block_ret (QM_then_ret ?_))))))))
   exact rtb (h := by unfold impl_activeOk_m; exact fin_inl (rng_ret (body := F1) (k := k38) (s := ()) (show k38 < x1.Todo.length from by omega) (show impl_activeOk_b1 x0 x1 k38 = Sum.inl false from by unfold impl_activeOk_b1; exact cond_f g48 (rfl)) hF40) rfl)
 ·have g43 : (decide (((k38 : Nat) : Int) < ((x1.Todo.length : Nat) : Int))) = false := decide_eq_false (by omega)
  refine CM_condF rfl g43 ?_
  refine CM_exit (QM_then_exit (QM_then_exit ?_))
  have hE55 : R2 (x1.Todo.length - 0) 0 () = Sum.inr () := rng_end hl42 hF40
  refine QM_block_hit (QM_then (sr ?_))
  refine wv (vf underlying93 rfl type25) ?_
  refine wv (vl 0 5 underlying25) ?_
  refine wv (vlen underlying25) ?_
  refine wv (fun W hm => rv_gtr rfl rfl) ?_
  refine wm ?_
  by_cases h56 : 0 < ((x1.Todo.length : Nat) : Int)
  ·have g57 : (decide (0 < ((x1.Todo.length : Nat) : Int))) = true := decide_eq_true h56
   refine wg (vf underlying93 rfl type48) g57 ?_
   refine wg (fun W hm => rv_loadN (cs := [.int .i64 x1.Query.Id, .int .i64 x1.Query.Tenant, .slice A17 x1.Query.Conds.length c18, .slice A22 x1.Query.Out.length c23]) underlying48 type48 rfl rfl (hm.boxPart (n := 0) rfl rfl)) g57 ?_
   refine WM_callV (cl_fn cb51 rfl) (fun W hm => impl_IsQuery_c W _ x1.Query (tyQuery_mk (x := x1.Query) (hm.rdS0 r20) (hm.rdS0 r25))) (Wd_some rfl rfl rfl (bw g57 rfl)) (by decide) ?_
   refine wv (vpT g57) ?_
   refine wm ?_
   rcases Bool.eq_false_or_eq_true (impl_IsQuery_m x1.Query) with g59 | g59
   ·
    refine wg (vf underlying93 rfl type3) g59 ?_
    refine wg (vl 0 4 underlying3) g59 ?_
    refine wg (vf underlying39 rfl type3) g59 ?_
    refine wg (vl 1 1 underlying3) g59 ?_
    refine WM_callV (cl_fn cb52 rfl) (fun W hm => impl_within_c W x1.Time 0 x0.Now) (Wd_some rfl rfl rfl (bw g59 rfl)) (by decide) ?_
    refine wv (vpT g59) ?_
    refine wm ?_
    rcases Bool.eq_false_or_eq_true (impl_within_m x1.Time 0 x0.Now) with g61 | g61
    ·
     have hw := impl_within_fact g61
     refine wg (vf underlying93 rfl type3) g61 ?_
     refine wg (vl 0 6 underlying3) g61 ?_
     refine WM_callV (cl_fn cb52 rfl) (fun W hm => impl_within_c W x1.Age 0 100000) (Wd_some rfl rfl rfl (bw g61 rfl)) (by decide) ?_
     refine wv (vpT g61) ?_
     refine wm ?_
     rcases Bool.eq_false_or_eq_true (impl_within_m x1.Age 0 100000) with g63 | g63
     ·
      have hw := impl_within_fact g63
      refine wg (vf underlying93 rfl type3) g63 ?_
      refine wg (vl 0 7 underlying3) g63 ?_
      refine WM_callV (cl_fn cb52 rfl) (fun W hm => impl_within_c W x1.Sent 0 1000) (Wd_some rfl rfl rfl (bw g63 rfl)) (by decide) ?_
      refine wv (vpT g63) ?_
      refine wm ?_
      rcases Bool.eq_false_or_eq_true (impl_within_m x1.Sent 0 1000) with g65 | g65
      ·
       have hw := impl_within_fact g65
       refine wg (vf underlying93 rfl type3) g65 ?_
       refine wg (vl 0 8 underlying3) g65 ?_
       refine WM_callV (cl_fn cb52 rfl) (fun W hm => impl_within_c W x1.Cap 0 32) (Wd_some rfl rfl rfl (bw g65 rfl)) (by decide) ?_
       refine wv (vpT g65) ?_
       refine wm ?_
       rcases Bool.eq_false_or_eq_true (impl_within_m x1.Cap 0 32) with g67 | g67
       ·
        have hw := impl_within_fact g67
        refine wg (vf underlying93 rfl type91) g67 ?_
        refine wg (vl 0 9 underlying91) g67 ?_
        refine WM_callV (cl_fn cb82 rfl) (fun W hm => impl_resultOk_c W _ x1.Rows (hm.rdS0 r35)) (Wd_some rfl rfl rfl (bw g67 rfl)) (by decide) ?_
        refine wv (vpT g67) ?_
        refine wa (nt' (CM_ret ?_))
        exact rtb (h := by unfold impl_activeOk_m; exact fin_inr hE55 (cond_t g57 (cond_t g59 (cond_t g61 (cond_t g63 (cond_t g65 (cond_t g67 (rfl))))))))
       ·
        refine ws g67 ?_
        refine ws g67 ?_
        refine ws g67 ?_
        refine wv (vpF g67) ?_
        refine wa (nt' (CM_ret ?_))
        exact rtb (h := by unfold impl_activeOk_m; exact fin_inr hE55 (cond_t g57 (cond_t g59 (cond_t g61 (cond_t g63 (cond_t g65 (cond_f g67 (rfl))))))))
      ·
       refine ws g65 ?_
       refine ws g65 ?_
       refine ws g65 ?_
       refine wv (vpF g65) ?_
       refine wm ?_
       refine wk ?_
       refine wk ?_
       refine wk ?_
       refine wv (vpF rfl) ?_
       refine wa (nt' (CM_ret ?_))
       exact rtb (h := by unfold impl_activeOk_m; exact fin_inr hE55 (cond_t g57 (cond_t g59 (cond_t g61 (cond_t g63 (cond_f g65 (rfl)))))))
     ·
      refine ws g63 ?_
      refine ws g63 ?_
      refine ws g63 ?_
      refine wv (vpF g63) ?_
      refine wm ?_
      refine wk ?_
      refine wk ?_
      refine wk ?_
      refine wv (vpF rfl) ?_
      refine wm ?_
      refine wk ?_
      refine wk ?_
      refine wk ?_
      refine wv (vpF rfl) ?_
      refine wa (nt' (CM_ret ?_))
      exact rtb (h := by unfold impl_activeOk_m; exact fin_inr hE55 (cond_t g57 (cond_t g59 (cond_t g61 (cond_f g63 (rfl))))))
    ·
     refine ws g61 ?_
     refine ws g61 ?_
     refine ws g61 ?_
     refine wv (vpF g61) ?_
     refine wm ?_
     refine wk ?_
     refine wk ?_
     refine wk ?_
     refine wv (vpF rfl) ?_
     refine wm ?_
     refine wk ?_
     refine wk ?_
     refine wk ?_
     refine wv (vpF rfl) ?_
     refine wm ?_
     refine wk ?_
     refine wk ?_
     refine wk ?_
     refine wv (vpF rfl) ?_
     refine wa (nt' (CM_ret ?_))
     exact rtb (h := by unfold impl_activeOk_m; exact fin_inr hE55 (cond_t g57 (cond_t g59 (cond_f g61 (rfl)))))
   ·
    refine ws g59 ?_
    refine ws g59 ?_
    refine ws g59 ?_
    refine ws g59 ?_
    refine ws g59 ?_
    refine wv (vpF g59) ?_
    refine wm ?_
    refine wk ?_
    refine wk ?_
    refine wk ?_
    refine wv (vpF rfl) ?_
    refine wm ?_
    refine wk ?_
    refine wk ?_
    refine wk ?_
    refine wv (vpF rfl) ?_
    refine wm ?_
    refine wk ?_
    refine wk ?_
    refine wk ?_
    refine wv (vpF rfl) ?_
    refine wm ?_
    refine wk ?_
    refine wk ?_
    refine wk ?_
    refine wv (vpF rfl) ?_
    refine wa (nt' (CM_ret ?_))
    exact rtb (h := by unfold impl_activeOk_m; exact fin_inr hE55 (cond_t g57 (cond_f g59 (rfl))))
  ·have g57 : (decide (0 < ((x1.Todo.length : Nat) : Int))) = false := decide_eq_false h56
   refine ws g57 ?_
   refine ws g57 ?_
   refine ws g57 ?_
   refine wv (vpF g57) ?_
   refine wm ?_
   refine wk ?_
   refine wk ?_
   refine wk ?_
   refine wk ?_
   refine wk ?_
   refine wv (vpF rfl) ?_
   refine wm ?_
   refine wk ?_
   refine wk ?_
   refine wk ?_
   refine wv (vpF rfl) ?_
   refine wm ?_
   refine wk ?_
   refine wk ?_
   refine wk ?_
   refine wv (vpF rfl) ?_
   refine wm ?_
   refine wk ?_
   refine wk ?_
   refine wk ?_
   refine wv (vpF rfl) ?_
   refine wm ?_
   refine wk ?_
   refine wk ?_
   refine wk ?_
   refine wv (vpF rfl) ?_
   refine wa (nt' (CM_ret ?_))
   exact rtb (h := by unfold impl_activeOk_m; exact fin_inr hE55 (cond_f g57 (rfl)))

def impl_IsSet_b1 (x0 : (List Int)) (k6 : Nat) : Bool ⊕ (Unit) :=
 cond (decide ((gt x0 k6) < 0)) (Sum.inl false) (cond (decide (24 ≤ (gt x0 k6))) (Sum.inl false) (cond (decide (0 < ((k6 : Nat) : Int))) (cond (decide ((gt x0 k6) ≤ (gt x0 (k6 - 1)))) (Sum.inl false) (Sum.inr ())) (Sum.inr ())))
def impl_IsSet_m (x0 : (List Int)) : Bool :=
 Sum.elim id (fun (s : Unit) => true) (rng (R := Bool) (fun k (_ : Unit) => impl_IsSet_b1 x0 k) (x0.length - 0) 0 ())
theorem cb107 : Cb Tryz.prog 107 := ⟨f107, _, func107, rfl, by decide⟩
theorem impl_IsSet_c (w : World) (z0 : Value) (x0 : (List Int)) (r_0 : rdS tInt w w.heap.size z0 x0) :
  Calls Tryz.prog 107 #[z0] w fun e w' => e = .returned (.bool (impl_IsSet_m x0)) ∧ Below w.heap.size w w' := by
 have r5 := r_0
 obtain ⟨m1, A2, c3, rfl, q4⟩ := r_0
 refine ce1 (L := [(0, .slice A2 x0.length c3)]) (N := 32) func107 ?_
 refine sr (wa (nt' (CM_seq (sr (wm ?_)))))
 refine wv (vlen underlying25) ?_
 refine wm (nt' (CM_block ?_))
 let F1 := fun k (_ : Unit) => impl_IsSet_b1 x0 k
 let R2 := rng (R := Bool) F1
 refine CM_loop (σ := Nat × (Unit) × (Unit)) (fun s => [(0, .slice A2 x0.length c3), (5, .slice A2 x0.length c3), (6, .int .i64 ((x0.length : Nat) : Int)), (7, .int .i64 ((s.1 : Nat) : Int))]) (fun s => []) (fun s => s.1 ≤ x0.length ∧ R2 (x0.length - s.1) s.1 s.2.1 = R2 (x0.length - 0) 0 ()) (fun s => x0.length - s.1) (0, (), ()) sl4 (fun W hm => hm) ⟨(by omega), rfl⟩ ?_
 rintro ⟨k6, ⟨⟩, ⟨⟩⟩ H9
 obtain ⟨hk7, hF8⟩ : k6 ≤ x0.length ∧ R2 (x0.length - k6) k6 () = R2 (x0.length - 0) 0 () := H9
 show CM Tryz.prog 32 _ _ _ _ [(0, .slice A2 x0.length c3), (5, .slice A2 x0.length c3), (6, .int .i64 ((x0.length : Nat) : Int)), (7, .int .i64 ((k6 : Nat) : Int))] []
 refine sr ?_
 refine wv vlss ?_
 refine nt' (CM_seq ?_)
 by_cases hl10 : k6 < x0.length
 ·have g11 : (decide (((k6 : Nat) : Int) < ((x0.length : Nat) : Int))) = true := decide_eq_true (by omega)
  refine CM_condT rfl g11 ?_
  refine CM_skip (QM_then (CM_seq (CM_block (sr (wm ?_)))))
  obtain ⟨a12, rfl, hb13, he14⟩ := q4 (by omega)
  refine wv (vix 1 k6 underlying25 type3) ?_
  refine wv (fun W hm => rv_load underlying3 rfl rfl ((hm.cell0 (show (a12.add (k6 * 1)).block < w.heap.size from by rw [add_block]; exact hb13.1)).trans (rdS_int he14 k6 (by omega)))) ?_
  refine wa (wa (nt' (sr (wm ?_))))
  refine wv vlss ?_
  refine wm ?_
  by_cases h15 : (gt x0 k6) < 0
  ·have g16 : (decide ((gt x0 k6) < 0)) = true := decide_eq_true h15
   refine ws g16 ?_
   refine ws g16 ?_
   refine wv (vpT g16) ?_
   refine wm ?_
   refine wk ?_
   refine wk ?_
   refine wk ?_
   refine wu ?_
   refine wu ?_
   refine wu ?_
   refine wu ?_
   refine wu ?_
   refine wu ?_
   refine wu ?_
   refine wk ?_
   refine wv (vpT rfl) ?_
   refine nt' ?_
   refine CM_condT rfl rfl ?_
   refine sr (wa (nt' (CM_ret (QM_block_ret (QM_then_ret (QM_then_ret (QM_block_ret (QM_then_ret ?_))))))))
   exact rtb (h := by unfold impl_IsSet_m; exact fin_inl (rng_ret (body := F1) (k := k6) (s := ()) (show k6 < x0.length from by omega) (show impl_IsSet_b1 x0 k6 = Sum.inl false from by unfold impl_IsSet_b1; exact cond_t g16 (rfl)) hF8) rfl)
  ·have g16 : (decide ((gt x0 k6) < 0)) = false := decide_eq_false h15
   refine wg vmv g16 ?_
   refine wg (fun W hm => rv_geq rfl rfl) g16 ?_
   refine wv (vpF g16) ?_
   refine wm ?_
   by_cases h17 : 24 ≤ (gt x0 k6)
   ·have g18 : (decide (24 ≤ (gt x0 k6))) = true := decide_eq_true h17
    refine ws g18 ?_
    refine ws g18 ?_
    refine ws g18 ?_
    refine wu ?_
    refine wu ?_
    refine wu ?_
    refine wu ?_
    refine wu ?_
    refine wu ?_
    refine wu ?_
    refine ws g18 ?_
    refine wv (vpT g18) ?_
    refine nt' ?_
    refine CM_condT rfl rfl ?_
    refine sr (wa (nt' (CM_ret (QM_block_ret (QM_then_ret (QM_then_ret (QM_block_ret (QM_then_ret ?_))))))))
    exact rtb (h := by unfold impl_IsSet_m; exact fin_inl (rng_ret (body := F1) (k := k6) (s := ()) (show k6 < x0.length from by omega) (show impl_IsSet_b1 x0 k6 = Sum.inl false from by unfold impl_IsSet_b1; exact cond_f g16 (cond_t g18 (rfl))) hF8) rfl)
   ·have g18 : (decide (24 ≤ (gt x0 k6))) = false := decide_eq_false h17
    refine wg vmv g18 ?_
    refine wg (fun W hm => rv_gtr rfl rfl) g18 ?_
    refine wg vmv g18 ?_
    by_cases h19 : 0 < ((k6 : Nat) : Int)
    ·have g20 : (decide (0 < ((k6 : Nat) : Int))) = true := decide_eq_true h19
     refine wg vmv g20 ?_
     refine wg vmv g20 ?_
     refine wg (fun W hm => rv_subN (p := k6) (q := 1) rfl rfl (by omega) (by omega)) g20 ?_
     refine wg (fun W hm => rv_index (sz := 1) (k := k6 - 1) underlying25 type3 rfl rfl rfl (by omega)) g20 ?_
     refine wg (fun W hm => rv_load underlying3 rfl rfl ((hm.cell0 (show (a12.add ((k6 - 1) * 1)).block < w.heap.size from by rw [add_block]; exact hb13.1)).trans (rdS_int he14 (k6 - 1) (by omega)))) g20 ?_
     refine wg vmv g20 ?_
     refine wg (fun W hm => rv_geq rfl rfl) g20 ?_
     refine wg (vpT g20) g18 ?_
     refine wv (vpF g18) ?_
     refine nt' ?_
     by_cases h21 : (gt x0 k6) ≤ (gt x0 (k6 - 1))
     ·have g22 : (decide ((gt x0 k6) ≤ (gt x0 (k6 - 1)))) = true := decide_eq_true h21
      refine CM_condT rfl g22 ?_
      refine sr (wa (nt' (CM_ret (QM_block_ret (QM_then_ret (QM_then_ret (QM_block_ret (QM_then_ret ?_))))))))
      exact rtb (h := by unfold impl_IsSet_m; exact fin_inl (rng_ret (body := F1) (k := k6) (s := ()) (show k6 < x0.length from by omega) (show impl_IsSet_b1 x0 k6 = Sum.inl false from by unfold impl_IsSet_b1; exact cond_f g16 (cond_f g18 (cond_t g20 (cond_t g22 (rfl))))) hF8) rfl)
     ·have g22 : (decide ((gt x0 k6) ≤ (gt x0 (k6 - 1)))) = false := decide_eq_false h21
      refine CM_condF rfl g22 ?_
      refine CM_skip (QM_block_normal (QM_then (CM_region ?_)))
      refine wv (vadN k6 1 (by omega)) ?_
      refine wm (WM_nil ?_)
      have hn23 := rng_next (R := Bool) (body := F1) (k := k6) (s := ()) (s' := ()) (show k6 < x0.length from by omega) (show impl_IsSet_b1 x0 k6 = Sum.inr () from by unfold impl_IsSet_b1; exact cond_f g16 (cond_f g18 (cond_t g20 (cond_f g22 (rfl))))) hF8
      exact QM_round (k6 + 1, (), ()) sl4 (fun W hm => hm) ⟨(by omega), hn23⟩ (rl (by omega))
    ·have g20 : (decide (0 < ((k6 : Nat) : Int))) = false := decide_eq_false h19
     refine ws g20 ?_
     refine ws g20 ?_
     refine ws g20 ?_
     refine ws g20 ?_
     refine ws g20 ?_
     refine ws g20 ?_
     refine ws g20 ?_
     refine wg (vpF g20) g18 ?_
     refine wv (vpF g18) ?_
     refine nt' ?_
     refine CM_condF rfl rfl ?_
     refine CM_skip (QM_block_normal (QM_then (CM_region ?_)))
     refine wv (vadN k6 1 (by omega)) ?_
     refine wm (WM_nil ?_)
     have hn24 := rng_next (R := Bool) (body := F1) (k := k6) (s := ()) (s' := ()) (show k6 < x0.length from by omega) (show impl_IsSet_b1 x0 k6 = Sum.inr () from by unfold impl_IsSet_b1; exact cond_f g16 (cond_f g18 (cond_f g20 (rfl)))) hF8
     exact QM_round (k6 + 1, (), ()) sl4 (fun W hm => hm) ⟨(by omega), hn24⟩ (rl (by omega))
 ·have g11 : (decide (((k6 : Nat) : Int) < ((x0.length : Nat) : Int))) = false := decide_eq_false (by omega)
  refine CM_condF rfl g11 ?_
  refine CM_exit (QM_then_exit (QM_then_exit ?_))
  have hE25 : R2 (x0.length - 0) 0 () = Sum.inr () := rng_end hl10 hF8
  refine QM_block_hit (QM_then (sr (wa (nt' (CM_ret ?_)))))
  exact rtb (h := by unfold impl_IsSet_m; exact fin_inr hE25 (rfl))

def impl_IsCharge_b1 (x0 : DCharge) (k31 : Nat) : Bool ⊕ (Unit) :=
 cond (impl_within_m (gt x0.Tenants k31) 0 3) (cond (impl_within_m (gt x0.Rows k31) 0 x0.Base) (Sum.inr ()) (Sum.inl false)) (Sum.inl false)
def impl_IsCharge_m (x0 : DCharge) : Bool :=
 cond (impl_IsSet_m x0.Ids) (cond (impl_within_m ((x0.Ids.length : Nat) : Int) 1 8) (cond (((x0.Tenants.length : Nat) : Int) != ((x0.Ids.length : Nat) : Int)) false (cond (((x0.Rows.length : Nat) : Int) != ((x0.Ids.length : Nat) : Int)) false (Sum.elim id (fun (s : Unit) => cond (impl_within_m x0.Segment 0 7) (impl_within_m x0.Base 0 4) false) (rng (R := Bool) (fun k (_ : Unit) => impl_IsCharge_b1 x0 k) (x0.Ids.length - 0) 0 ())))) false) false
theorem cb83 : Cb Tryz.prog 83 := ⟨f83, _, func83, rfl, by decide⟩
theorem impl_IsCharge_c (w : World) (z0 : List Value) (x0 : DCharge) (r_0 : tyCharge.rd w w.heap.size z0 x0) :
  Calls Tryz.prog 83 #[.agg z0.toArray] w fun e w' => e = .returned (.bool (impl_IsCharge_m x0)) ∧ Below w.heap.size w w' := by
 obtain ⟨v1, v3, v5, rfl, r2, r4, r6⟩ := tyCharge_rd r_0
 have r11 := r2
 obtain ⟨m7, A8, c9, rfl, q10⟩ := r2
 have r16 := r4
 obtain ⟨m12, A13, c14, rfl, q15⟩ := r4
 have r21 := r6
 obtain ⟨m17, A18, c19, rfl, q20⟩ := r6
 refine ce1 (L := [(0, .agg #[.int .i64 x0.Segment, .int .i64 x0.Base, .slice A8 x0.Ids.length c9, .slice A13 x0.Tenants.length c14, .slice A18 x0.Rows.length c19])]) (N := 64) func83 ?_
 refine sr ?_
 refine WM_box rfl (Wd_none rfl) (by decide) (fun p22 => ?_)
 refine wa (nt' (sr ?_))
 refine wv (vf underlying99 rfl type25) ?_
 refine wv (vl 0 2 underlying25) ?_
 refine wv (vlen underlying25) ?_
 refine wa (nt' (CM_seq (sr ?_)))
 refine wv (vf underlying99 rfl type25) ?_
 refine wv (vl 0 2 underlying25) ?_
 refine wcv (cl_fn cb107 rfl) (fun W hm => impl_IsSet_c W _ x0.Ids (hm.rdS0 r11)) ?_
 refine wv vnot ?_
 refine wm ?_
 rcases Bool.eq_false_or_eq_true (impl_IsSet_m x0.Ids) with g24 | g24
 ·
  refine wg vmv (nt g24) ?_
  refine WM_callV (cl_fn cb52 rfl) (fun W hm => impl_within_c W ((x0.Ids.length : Nat) : Int) 1 8) (Wd_some rfl rfl rfl (bw (nt g24) rfl)) (by decide) ?_
  refine wg vnot (nt g24) ?_
  refine wv (vpF (nt g24)) ?_
  refine wm ?_
  rcases Bool.eq_false_or_eq_true (impl_within_m ((x0.Ids.length : Nat) : Int) 1 8) with g26 | g26
  ·
   have hw := impl_within_fact g26
   refine wg (vf underlying99 rfl type25) (nt g26) ?_
   refine wg (vl 0 3 underlying25) (nt g26) ?_
   refine wg (vlen underlying25) (nt g26) ?_
   refine wg vmv (nt g26) ?_
   refine wg vneq (nt g26) ?_
   refine wv (vpF (nt g26)) ?_
   refine wm ?_
   by_cases h27 : ((x0.Tenants.length : Nat) : Int) = ((x0.Ids.length : Nat) : Int)
   ·have g28 : (((x0.Tenants.length : Nat) : Int) != ((x0.Ids.length : Nat) : Int)) = false := by rw [h27]; exact bne_self_eq_false _
    refine wg (vf underlying99 rfl type25) g28 ?_
    refine wg (vl 0 4 underlying25) g28 ?_
    refine wg (vlen underlying25) g28 ?_
    refine wg vmv g28 ?_
    refine wg vneq g28 ?_
    refine wv (vpF g28) ?_
    refine nt' ?_
    by_cases h29 : ((x0.Rows.length : Nat) : Int) = ((x0.Ids.length : Nat) : Int)
    ·have g30 : (((x0.Rows.length : Nat) : Int) != ((x0.Ids.length : Nat) : Int)) = false := by rw [h29]; exact bne_self_eq_false _
     refine CM_condF rfl g30 ?_
     refine CM_skip (QM_then (CM_seq (sr ?_)))
     refine wv (vf underlying99 rfl type25) ?_
     refine wv (vl 0 2 underlying25) ?_
     refine wv (vlen underlying25) ?_
     refine wm (nt' (CM_block ?_))
     let F1 := fun k (_ : Unit) => impl_IsCharge_b1 x0 k
     let R2 := rng (R := Bool) F1
     let K3 : List Value := [.int .i64 x0.Segment, .int .i64 x0.Base, .slice A8 x0.Ids.length c9, .slice A13 x0.Tenants.length c14, .slice A18 x0.Rows.length c19]
     refine CM_loop (σ := Nat × (Unit) × (Unit)) (fun s => [(1, .pointer (some (⟨p22, 0, none⟩ : Addr))), (33, .int .i64 ((x0.Ids.length : Nat) : Int)), (34, .int .i64 ((s.1 : Nat) : Int))]) (fun s => [iBox p22 99 K3]) (fun s => s.1 ≤ x0.Ids.length ∧ R2 (x0.Ids.length - s.1) s.1 s.2.1 = R2 (x0.Ids.length - 0) 0 ()) (fun s => x0.Ids.length - s.1) (0, (), ()) sl3 (fun W hm => hm) ⟨(by omega), rfl⟩ ?_
     rintro ⟨k31, ⟨⟩, ⟨⟩⟩ H34
     obtain ⟨hk32, hF33⟩ : k31 ≤ x0.Ids.length ∧ R2 (x0.Ids.length - k31) k31 () = R2 (x0.Ids.length - 0) 0 () := H34
     show CM Tryz.prog 64 _ _ _ _ [(1, .pointer (some (⟨p22, 0, none⟩ : Addr))), (33, .int .i64 ((x0.Ids.length : Nat) : Int)), (34, .int .i64 ((k31 : Nat) : Int))] [iBox p22 99 K3]
     refine sr ?_
     refine wv vlss ?_
     refine nt' (CM_seq ?_)
     by_cases hl35 : k31 < x0.Ids.length
     ·have g36 : (decide (((k31 : Nat) : Int) < ((x0.Ids.length : Nat) : Int))) = true := decide_eq_true (by omega)
      refine CM_condT rfl g36 ?_
      refine CM_skip (QM_then (CM_seq (CM_block (sr (wm (wa (nt' (CM_seq ?_))))))))
      refine CM_regionD (by kernel_rfl) (by kernel_rfl) ?_
      refine qv (vf underlying99 rfl type25) ?_
      refine qv (vl 0 3 underlying25) ?_
      refine qm ?_
      obtain ⟨a37, rfl, hb38, he39⟩ := q15 (by omega)
      refine qv (vix 1 k31 underlying25 type3) ?_
      refine qv (fun W hm => rv_load underlying3 rfl rfl ((hm.cell0 (show (a37.add (k31 * 1)).block < w.heap.size from by rw [add_block]; exact hb38.1)).trans (rdS_int he39 k31 (by omega)))) ?_
      refine QR_callV (cl_fn cb52 rfl) (fun W hm => impl_within_c W (gt x0.Tenants k31) 0 3) (Wd_none rfl) (by decide) ?_
      refine qv vnot ?_
      refine qm ?_
      rcases Bool.eq_false_or_eq_true (impl_within_m (gt x0.Tenants k31) 0 3) with g41 | g41
      ·
       have hw := impl_within_fact g41
       refine qg (vf underlying99 rfl type25) (nt g41) ?_
       refine qg (vl 0 4 underlying25) (nt g41) ?_
       refine qg vmv (nt g41) ?_
       obtain ⟨a42, rfl, hb43, he44⟩ := q20 (by omega)
       refine qg (vix 1 k31 underlying25 type3) (nt g41) ?_
       refine qg (fun W hm => rv_load underlying3 rfl rfl ((hm.cell0 (show (a42.add (k31 * 1)).block < w.heap.size from by rw [add_block]; exact hb43.1)).trans (rdS_int he44 k31 (by omega)))) (nt g41) ?_
       refine qg (vf underlying99 rfl type3) (nt g41) ?_
       refine qg (vl 0 1 underlying3) (nt g41) ?_
       refine QR_callV (cl_fn cb52 rfl) (fun W hm => impl_within_c W (gt x0.Rows k31) 0 x0.Base) (Wd_some rfl rfl rfl (bw (nt g41) rfl)) (by decide) ?_
       refine qg vnot (nt g41) ?_
       refine qv (vpF (nt g41)) ?_
       refine nq' ?_
       rcases Bool.eq_false_or_eq_true (impl_within_m (gt x0.Rows k31) 0 x0.Base) with g46 | g46
       ·
        have hw := impl_within_fact g46
        refine CM_condF rfl (nt g46) ?_
        refine CM_skip (QM_block_normal (QM_then (CM_region ?_)))
        refine wv (vadN k31 1 (by omega)) ?_
        refine wm (WM_nil ?_)
        have hn47 := rng_next (R := Bool) (body := F1) (k := k31) (s := ()) (s' := ()) (show k31 < x0.Ids.length from by omega) (show impl_IsCharge_b1 x0 k31 = Sum.inr () from by unfold impl_IsCharge_b1; exact cond_t g41 (cond_t g46 (rfl))) hF33
        exact QM_round (k31 + 1, (), ()) sl3 (fun W hm => hm) ⟨(by omega), hn47⟩ (rl (by omega))
       ·
        refine CM_condT rfl (nf g46) ?_
        refine sr (wa (nt' (CM_ret (QM_block_ret (QM_then_ret (QM_then_ret (QM_block_ret (QM_then_ret ?_))))))))
        exact rtb (h := by unfold impl_IsCharge_m; exact cond_t g24 (cond_t g26 (cond_f g28 (cond_f g30 (fin_inl (rng_ret (body := F1) (k := k31) (s := ()) (show k31 < x0.Ids.length from by omega) (show impl_IsCharge_b1 x0 k31 = Sum.inl false from by unfold impl_IsCharge_b1; exact cond_t g41 (cond_f g46 (rfl))) hF33) rfl)))))
      ·
       refine qs (nf g41) ?_
       refine qs (nf g41) ?_
       refine qs (nf g41) ?_
       refine qs (nf g41) ?_
       refine qs (nf g41) ?_
       refine qs (nf g41) ?_
       refine qs (nf g41) ?_
       refine qs (nf g41) ?_
       refine qs (nf g41) ?_
       refine qv (vpT (nf g41)) ?_
       refine nq' ?_
       refine CM_condT rfl rfl ?_
       refine sr (wa (nt' (CM_ret (QM_block_ret (QM_then_ret (QM_then_ret (QM_block_ret (QM_then_ret ?_))))))))
       exact rtb (h := by unfold impl_IsCharge_m; exact cond_t g24 (cond_t g26 (cond_f g28 (cond_f g30 (fin_inl (rng_ret (body := F1) (k := k31) (s := ()) (show k31 < x0.Ids.length from by omega) (show impl_IsCharge_b1 x0 k31 = Sum.inl false from by unfold impl_IsCharge_b1; exact cond_f g41 (rfl)) hF33) rfl)))))
     ·have g36 : (decide (((k31 : Nat) : Int) < ((x0.Ids.length : Nat) : Int))) = false := decide_eq_false (by omega)
      refine CM_condF rfl g36 ?_
      refine CM_exit (QM_then_exit (QM_then_exit ?_))
      have hE48 : R2 (x0.Ids.length - 0) 0 () = Sum.inr () := rng_end hl35 hF33
      refine QM_block_hit (QM_then (sr ?_))
      refine wv (vf underlying99 rfl type3) ?_
      refine wv (vl 0 0 underlying3) ?_
      refine wcv (cl_fn cb52 rfl) (fun W hm => impl_within_c W x0.Segment 0 7) ?_
      refine wm ?_
      rcases Bool.eq_false_or_eq_true (impl_within_m x0.Segment 0 7) with g50 | g50
      ·
       have hw := impl_within_fact g50
       refine wg (vf underlying99 rfl type3) g50 ?_
       refine wg (vl 0 1 underlying3) g50 ?_
       refine WM_callV (cl_fn cb52 rfl) (fun W hm => impl_within_c W x0.Base 0 4) (Wd_some rfl rfl rfl (bw g50 rfl)) (by decide) ?_
       refine wv (vpT g50) ?_
       refine wa (nt' (CM_ret ?_))
       exact rtb (h := by unfold impl_IsCharge_m; exact cond_t g24 (cond_t g26 (cond_f g28 (cond_f g30 (fin_inr hE48 (cond_t g50 (rfl)))))))
      ·
       refine ws g50 ?_
       refine ws g50 ?_
       refine ws g50 ?_
       refine wv (vpF g50) ?_
       refine wa (nt' (CM_ret ?_))
       exact rtb (h := by unfold impl_IsCharge_m; exact cond_t g24 (cond_t g26 (cond_f g28 (cond_f g30 (fin_inr hE48 (cond_f g50 (rfl)))))))
    ·have g30 : (((x0.Rows.length : Nat) : Int) != ((x0.Ids.length : Nat) : Int)) = true := bne_iff_ne.2 h29
     refine CM_condT rfl g30 ?_
     refine sr (wa (nt' (CM_ret (QM_then_ret ?_))))
     exact rtb (h := by unfold impl_IsCharge_m; exact cond_t g24 (cond_t g26 (cond_f g28 (cond_t g30 (rfl)))))
   ·have g28 : (((x0.Tenants.length : Nat) : Int) != ((x0.Ids.length : Nat) : Int)) = true := bne_iff_ne.2 h27
    refine ws g28 ?_
    refine ws g28 ?_
    refine ws g28 ?_
    refine ws g28 ?_
    refine ws g28 ?_
    refine wv (vpT g28) ?_
    refine nt' ?_
    refine CM_condT rfl rfl ?_
    refine sr (wa (nt' (CM_ret (QM_then_ret ?_))))
    exact rtb (h := by unfold impl_IsCharge_m; exact cond_t g24 (cond_t g26 (cond_t g28 (rfl))))
  ·
   refine ws (nf g26) ?_
   refine ws (nf g26) ?_
   refine ws (nf g26) ?_
   refine ws (nf g26) ?_
   refine ws (nf g26) ?_
   refine wv (vpT (nf g26)) ?_
   refine wm ?_
   refine wk ?_
   refine wk ?_
   refine wk ?_
   refine wk ?_
   refine wk ?_
   refine wv (vpT rfl) ?_
   refine nt' ?_
   refine CM_condT rfl rfl ?_
   refine sr (wa (nt' (CM_ret (QM_then_ret ?_))))
   exact rtb (h := by unfold impl_IsCharge_m; exact cond_t g24 (cond_f g26 (rfl)))
 ·
  refine ws (nf g24) ?_
  refine ws (nf g24) ?_
  refine ws (nf g24) ?_
  refine wv (vpT (nf g24)) ?_
  refine wm ?_
  refine wk ?_
  refine wk ?_
  refine wk ?_
  refine wk ?_
  refine wk ?_
  refine wv (vpT rfl) ?_
  refine wm ?_
  refine wk ?_
  refine wk ?_
  refine wk ?_
  refine wk ?_
  refine wk ?_
  refine wv (vpT rfl) ?_
  refine nt' ?_
  refine CM_condT rfl rfl ?_
  refine sr (wa (nt' (CM_ret (QM_then_ret ?_))))
  exact rtb (h := by unfold impl_IsCharge_m; exact cond_f g24 (rfl))

theorem impl_IsCharge_fact {x : DCharge} (h : impl_IsCharge_m x = true) : 1 ≤ x.Ids.length ∧ x.Tenants.length = x.Ids.length ∧ x.Rows.length = x.Ids.length := by
  unfold impl_IsCharge_m impl_within_m at h
  cases h1 : impl_IsSet_m x.Ids <;> rw [h1] at h
  · cases h
  by_cases h2 : 1 ≤ ((x.Ids.length : Nat) : Int)
  · by_cases h3 : ((x.Tenants.length : Nat) : Int) = ((x.Ids.length : Nat) : Int)
    · by_cases h4 : ((x.Rows.length : Nat) : Int) = ((x.Ids.length : Nat) : Int)
      · omega
      · rw [bne_iff_ne.2 h4] at h
        revert h
        cases decide (1 ≤ ((x.Ids.length : Nat) : Int)) <;> cases decide (((x.Ids.length : Nat) : Int) ≤ 8) <;> cases (((x.Tenants.length : Nat) : Int) != ((x.Ids.length : Nat) : Int)) <;> intro h <;> cases h
    · rw [bne_iff_ne.2 h3] at h
      revert h
      cases decide (1 ≤ ((x.Ids.length : Nat) : Int)) <;> cases decide (((x.Ids.length : Nat) : Int) ≤ 8) <;> intro h <;> cases h
  · rw [decide_eq_false h2] at h
    cases h

end Go.Proofs.YtlnblljlkeokjaaGreat
