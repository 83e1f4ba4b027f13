/-
  Contracts of functions, printed by a program of ours.
-/
import Derived.Test.YtglapeecbnaipaaL5F4
namespace Go.Proofs.Ytglapeecbnaipaa
open Go.RowKit
set_option maxRecDepth 100000
set_option maxHeartbeats 4000000
open _root_.Go.Proofs.Try
def spec_ApplyUpdates_b1 (x1 : (List DUpdate)) (k24 : Nat) (s25 : Int) (d27 : (List (List DVersion))) (s30 : Int) : (DStore × Int) ⊕ (Int × (List (List DVersion)) × Int) :=
 cond ((spec_ApplyUpdate_m (⟨d27, s30⟩ : DStore) (gt x1 k24)).2) (Sum.inr ((IntKind.i64.wrap (s25 + 1)), ((spec_ApplyUpdate_m (⟨d27, s30⟩ : DStore) (gt x1 k24)).1).Segments, ((spec_ApplyUpdate_m (⟨d27, s30⟩ : DStore) (gt x1 k24)).1).Now)) (Sum.inr (s25, ((spec_ApplyUpdate_m (⟨d27, s30⟩ : DStore) (gt x1 k24)).1).Segments, ((spec_ApplyUpdate_m (⟨d27, s30⟩ : DStore) (gt x1 k24)).1).Now))
def spec_ApplyUpdates_m (x0 : DStore) (x1 : (List DUpdate)) : (DStore × Int) :=
 Sum.elim id (fun (s : Int × (List (List DVersion)) × Int) => ((⟨s.2.1, s.2.2⟩ : DStore), s.1)) (rng (R := (DStore × Int)) (fun k (s : Int × (List (List DVersion)) × Int) => spec_ApplyUpdates_b1 x1 k s.1 s.2.1 s.2.2) (x1.length - 0) 0 (0, x0.Segments, x0.Now))
theorem cb33 : Cb Try.prog 33 := ⟨f33, _, func33, rfl, by decide⟩
theorem spec_ApplyUpdates_c (w : World) (z0 : List Value) (x0 : DStore) (z1 : Value) (x1 : (List DUpdate)) (r_0 : tyStore.rd w w.heap.size z0 x0) (r_1 : rdS tyUpdate w w.heap.size z1 x1) (s_0 : smStore 68719476736 x0) (s_1 : (x1.length ≤ 68719476736 ∧ ∀ y ∈ x1, smUpdate 68719476736 y)) :
  Calls Try.prog 33 #[.agg z0.toArray, z1] w fun e w' => ∃ v : List Value, e = .returned (.tuple #[.agg v.toArray, .int .i64 ((spec_ApplyUpdates_m x0 x1).2)]) ∧ Mem w.heap.size w [iOwn tyStore v (spec_ApplyUpdates_m x0 x1).1] w' := by
 obtain ⟨v1, rfl, r2⟩ := tyStore_rd r_0
 obtain ⟨m3, A4, c5, rfl, q6, r7⟩ := rdS_op r2
 obtain ⟨m8, A9, c10, rfl, q11, r12⟩ := rdS_op r_1
 have l13 : x0.Segments.length ≤ 68719476736 := s_0.1
 have l14 : x1.length ≤ 68719476736 := s_1.1
 refine ce2 (L := [(0, .agg #[.slice A4 x0.Segments.length c5, .int .i64 x0.Now]), (1, .slice A9 x1.length c10)]) (N := 34) func33 ?_
 refine sr ?_
 refine WM_box rfl (Wd_none rfl) (by decide) (fun p15 => ?_)
 refine WM_alloc type26 rfl (Wd_none rfl) (by decide) (fun p16 => ?_)
 refine wa (nt' (sr ?_))
 refine wv (fun W hm => rv_loadN (cs := [.slice A4 x0.Segments.length c5, .int .i64 x0.Now]) underlying26 type26 rfl rfl (hm.boxCells (n := 1) rfl)) ?_
 refine wcs tyStore x0 (cl_fn cb41 rfl) (fun W hm => spec_l7Copy_c2 W _ x0 (tyStore_mk (x := x0) (hm.rdS0 r7)) s_0) (fun z17 => ?_)
 refine tyStore_sp ?_
 rintro v18 rfl
 refine WM_form (n := 0) rfl ?_
 rintro A19 c20 rfl m21
 refine WM_alloc type26 rfl (Wd_none rfl) (by decide) (fun p23 => ?_)
 let I5 : It := iBox p15 26 [.slice A4 x0.Segments.length c5, .int .i64 x0.Now]
 refine sb 0 [.slice A19 x0.Segments.length c20, .int .i64 x0.Now] [iOwn (tSl (tSl tyVersion 51) 72) [.slice A19 x0.Segments.length c20] x0.Segments, iBox p16 26 [.slice none 0 0, .int .i64 0], I5] (fun W hm => hm) type26 ?_
 refine nt' (sr (wa (nt' (CM_seq (sr (wa (nt' (CM_block ?_))))))))
 let F1 := fun k (s : Int × (List (List DVersion)) × Int) => spec_ApplyUpdates_b1 x1 k s.1 s.2.1 s.2.2
 let R2 := rng (R := (DStore × Int)) F1
 refine CM_loop (σ := Nat × (Int × (List (List DVersion)) × Int) × (Option Addr × Nat)) (fun s => [(1, .slice A9 x1.length c10), (4, .pointer (some (⟨p16, 0, none⟩ : Addr))), (6, .pointer (some (⟨p23, 0, none⟩ : Addr))), (7, .int .i64 s.2.1.1), (8, .int .i64 ((s.1 : Nat) : Int))]) (fun s => [iBox p23 26 [.slice s.2.2.1 s.2.1.2.1.length s.2.2.2, .int .i64 s.2.1.2.2], iOwn (tSl (tSl tyVersion 51) 72) [.slice s.2.2.1 s.2.1.2.1.length s.2.2.2] s.2.1.2.1, iBox p16 26 [.slice none 0 0, .int .i64 0], I5]) (fun s => s.1 ≤ x1.length ∧ R2 (x1.length - s.1) s.1 s.2.1 = R2 (x1.length - 0) 0 (0, x0.Segments, x0.Now) ∧ smStore 68719476736 (⟨s.2.1.2.1, s.2.1.2.2⟩ : DStore)) (fun s => x1.length - s.1) (0, (0, x0.Segments, x0.Now), (A19, c20)) sl5 (fun W hm => hm) ⟨(by omega), rfl, s_0⟩ ?_
 rintro ⟨k24, ⟨s25, d27, s30⟩, ⟨A28, c29⟩⟩ H33
 obtain ⟨hk31, hF32, hi34⟩ : k24 ≤ x1.length ∧ R2 (x1.length - k24) k24 (s25, d27, s30) = R2 (x1.length - 0) 0 (0, x0.Segments, x0.Now) ∧ smStore 68719476736 (⟨d27, s30⟩ : DStore) := H33
 let I6 : It := iBox p23 26 [.slice A28 d27.length c29, .int .i64 s30]
 let I7 : It := iOwn (tSl (tSl tyVersion 51) 72) [.slice A28 d27.length c29] d27
 show CM Try.prog 34 _ _ _ _ [(1, .slice A9 x1.length c10), (4, .pointer (some (⟨p16, 0, none⟩ : Addr))), (6, .pointer (some (⟨p23, 0, none⟩ : Addr))), (7, .int .i64 s25), (8, .int .i64 ((k24 : Nat) : Int))] [I6, I7, iBox p16 26 [.slice none 0 0, .int .i64 0], I5]
 refine CM_seq (sr (wm (wm ?_)))
 refine wv (vlen underlying59) ?_
 refine wv vlss ?_
 refine nt' ?_
 by_cases hl35 : k24 < x1.length
 ·have g36 := dlT hl35
  have hsm := hi34
  refine CM_condT rfl g36 ?_
  refine CM_skip (QM_then (CM_seq (CM_block (CM_seq ?_))))
  obtain ⟨a37, rfl, hb38, he39⟩ := q11 (by omega)
  obtain ⟨_, e43, hc40⟩ := he39 k24 _ (gt_some (show k24 < x1.length from by omega))
  obtain ⟨v41, rfl, r42⟩ := tyUpdate_rd e43
  have l44 : ((gt x1 k24).Row.Values).length ≤ 68719476736 := (s_1.2 _ (gt_mem (show k24 < x1.length from by omega)))
  obtain ⟨m45, A46, c47, rfl, q48, r49⟩ := rdS_op r42
  refine rd2 12 [10] (s := [I6, I7, iBox p16 26 [.slice none 0 0, .int .i64 0], I5]) (s2 := [I6, I7, iBox p16 26 [.slice none 0 0, .int .i64 0], I5]) (fun W hm => hm) (fun W hm => hm) ?_
  refine QD_mid (σ := Option Addr × Nat × Nat) (fun s => [I6, I7, iBox p16 26 [.slice none 0 0, .int .i64 0], I5]) 12 1023 2 (fun s => [(1, .slice (some a37) x1.length c10), (4, .pointer (some (⟨p16, 0, none⟩ : Addr))), (6, .pointer (some (⟨p23, 0, none⟩ : Addr))), (7, .int .i64 s25), (8, .int .i64 ((k24 : Nat) : Int)), (26, .agg #[.slice s.1 (((spec_ApplyUpdate_m (⟨d27, s30⟩ : DStore) (gt x1 k24)).1).Segments).length s.2.1, .int .i64 (((spec_ApplyUpdate_m (⟨d27, s30⟩ : DStore) (gt x1 k24)).1).Now)]), (27, .bool (spec_ApplyUpdate_m (⟨d27, s30⟩ : DStore) (gt x1 k24)).2), (9, .pointer (some (⟨s.2.2, 0, none⟩ : Addr)))]) (fun s => [iBox s.2.2 26 [.slice none 0 0, .int .i64 0], iOwn (tSl (tSl tyVersion 51) 72) [.slice s.1 (((spec_ApplyUpdate_m (⟨d27, s30⟩ : DStore) (gt x1 k24)).1).Segments).length s.2.1] (((spec_ApplyUpdate_m (⟨d27, s30⟩ : DStore) (gt x1 k24)).1).Segments), I6, I7, iBox p16 26 [.slice none 0 0, .int .i64 0], I5]) ?_ (fun H => ?_)
  ·
   rintro ⟨A52, c53, p56⟩
   let K3 : List Value := [.slice A52 (((spec_ApplyUpdate_m (⟨d27, s30⟩ : DStore) (gt x1 k24)).1).Segments).length c53]
   let I8 : It := iOwn (tSl (tSl tyVersion 51) 72) K3 (((spec_ApplyUpdate_m (⟨d27, s30⟩ : DStore) (gt x1 k24)).1).Segments)
   show QD _ _ _ _ _ _ _ _ [(1, .slice (some a37) x1.length c10), (4, .pointer (some (⟨p16, 0, none⟩ : Addr))), (6, .pointer (some (⟨p23, 0, none⟩ : Addr))), (7, .int .i64 s25), (8, .int .i64 ((k24 : Nat) : Int)), (26, .agg #[.slice A52 (((spec_ApplyUpdate_m (⟨d27, s30⟩ : DStore) (gt x1 k24)).1).Segments).length c53, .int .i64 (((spec_ApplyUpdate_m (⟨d27, s30⟩ : DStore) (gt x1 k24)).1).Now)]), (27, .bool (spec_ApplyUpdate_m (⟨d27, s30⟩ : DStore) (gt x1 k24)).2), (9, .pointer (some (⟨p56, 0, none⟩ : Addr)))] _ [I6, I7, iBox p16 26 [.slice none 0 0, .int .i64 0], I5] _ [iBox p56 26 [.slice none 0 0, .int .i64 0], I8, I6, I7, iBox p16 26 [.slice none 0 0, .int .i64 0], I5]
   refine QD_len (n := 1) rfl ?_
   intro m57 m58
   refine qoD 12 10 2047 rfl ?_
   let K4 : List Value := [.slice A52 (((spec_ApplyUpdate_m (⟨d27, s30⟩ : DStore) (gt x1 k24)).1).Segments).length c53, .int .i64 (((spec_ApplyUpdate_m (⟨d27, s30⟩ : DStore) (gt x1 k24)).1).Now)]
   refine sb 0 K4 [I8, I6, I7, iBox p16 26 [.slice none 0 0, .int .i64 0], I5] (fun W hm => hm) type26 ?_
   refine qxD (pk [2, 3, 4, 5]) ?_
   refine qt 12 11 4095 rfl (fun W hm => rv_assign rfl) ?_
   refine QB_done (by kernel_rfl) ?_
   refine QM_then (sr ?_)
   refine wv (fun W hm => rv_loadN (cs := K4) underlying26 type26 rfl rfl (hm.boxCells (n := 0) rfl)) ?_
   refine sb 0 K4 [iBox p56 26 K4, I8, I7, iBox p16 26 [.slice none 0 0, .int .i64 0], I5] (pk [2, 0, 1, 3, 4, 5]) type26 ?_
   refine nt' (sr (wm (nt' ?_)))
   rcases Bool.eq_false_or_eq_true ((spec_ApplyUpdate_m (⟨d27, s30⟩ : DStore) (gt x1 k24)).2) with g60 | g60
   ·
    refine CM_condT rfl g60 ?_
    refine CM_region (wm ?_)
    refine wv vadd ?_
    refine wa (WM_nil (QM_block_normal (QM_then (CM_region (wm ?_)))))
    refine wv (vadN k24 1 (by omega)) ?_
    refine wa (WM_nil ?_)
    have hn61 := rng_next (R := (DStore × Int)) (body := F1) (k := k24) (s := (s25, d27, s30)) (s' := ((IntKind.i64.wrap (s25 + 1)), ((spec_ApplyUpdate_m (⟨d27, s30⟩ : DStore) (gt x1 k24)).1).Segments, ((spec_ApplyUpdate_m (⟨d27, s30⟩ : DStore) (gt x1 k24)).1).Now)) (show k24 < x1.length from by omega) (cond_t g60 (rfl)) hF32
    exact QM_round (k24 + 1, ((IntKind.i64.wrap (s25 + 1)), ((spec_ApplyUpdate_m (⟨d27, s30⟩ : DStore) (gt x1 k24)).1).Segments, ((spec_ApplyUpdate_m (⟨d27, s30⟩ : DStore) (gt x1 k24)).1).Now), (A52, c53)) sl5 (pk [0, 2, 4, 5]) ⟨(by omega), hn61, (show smStore 68719476736 (⟨(((spec_ApplyUpdate_m (⟨d27, s30⟩ : DStore) (gt x1 k24)).1).Segments), (((spec_ApplyUpdate_m (⟨d27, s30⟩ : DStore) (gt x1 k24)).1).Now)⟩ : DStore) from by exact spec_ApplyUpdate_sm hi34 _)⟩ (rl (by omega))
   ·
    refine CM_condF rfl g60 ?_
    refine CM_skip (QM_block_normal (QM_then (CM_region (wm ?_))))
    refine wv (vadN k24 1 (by omega)) ?_
    refine wa (WM_nil ?_)
    have hn62 := rng_next (R := (DStore × Int)) (body := F1) (k := k24) (s := (s25, d27, s30)) (s' := (s25, ((spec_ApplyUpdate_m (⟨d27, s30⟩ : DStore) (gt x1 k24)).1).Segments, ((spec_ApplyUpdate_m (⟨d27, s30⟩ : DStore) (gt x1 k24)).1).Now)) (show k24 < x1.length from by omega) (cond_f g60 (rfl)) hF32
    exact QM_round (k24 + 1, (s25, ((spec_ApplyUpdate_m (⟨d27, s30⟩ : DStore) (gt x1 k24)).1).Segments, ((spec_ApplyUpdate_m (⟨d27, s30⟩ : DStore) (gt x1 k24)).1).Now), (A52, c53)) sl5 (pk [0, 2, 4, 5]) ⟨(by omega), hn62, (show smStore 68719476736 (⟨(((spec_ApplyUpdate_m (⟨d27, s30⟩ : DStore) (gt x1 k24)).1).Segments), (((spec_ApplyUpdate_m (⟨d27, s30⟩ : DStore) (gt x1 k24)).1).Now)⟩ : DStore) from by exact spec_ApplyUpdate_sm hi34 _)⟩ (rl (by omega))
  ·
   refine qtD 12 0 1 rfl (fun W hm => rv_loadN (cs := [.slice A28 d27.length c29, .int .i64 s30]) underlying26 type26 rfl rfl (hm.boxCells (n := 0) rfl)) ?_
   refine qtD 12 1 3 rfl vmv ?_
   refine qtD 12 2 7 rfl vmv ?_
   refine qtD 12 3 15 rfl (vix 5 k24 underlying59 type31) ?_
   refine qtD 12 4 31 rfl (fun W hm => rv_loadN (cs := [.int .i64 ((gt x1 k24).Kind), .int .i64 ((gt x1 k24).Row.Id), .slice A46 ((gt x1 k24).Row.Values).length c47, .int .i64 ((gt x1 k24).Field), .int .i64 ((gt x1 k24).Value)]) underlying31 type31 rfl rfl (hm.elCells (show (a37.add (k24 * 5)).block < w.heap.size from by rw [add_block]; exact hb38.1) hc40)) ?_
   refine qaD [5, 9] ?_
   refine qcD 12 63 rfl ?_ ?_
   ·
    refine WM_call (χ := List Value) (val := fun x => .tuple #[.agg x.toArray, .bool ((spec_ApplyUpdate_m (⟨d27, s30⟩ : DStore) (gt x1 k24)).2)]) (js := fun x => [iOwn tyStore x ((spec_ApplyUpdate_m (⟨d27, s30⟩ : DStore) (gt x1 k24)).1)]) (cl_fn cb9 rfl) (fun W hm => spec_ApplyUpdate_c W _ (⟨d27, s30⟩ : DStore) _ (gt x1 k24) (tyStore_mk (x := (⟨d27, s30⟩ : DStore)) (hm.rdSI (n := 1) rfl)) (tyUpdate_mk (x := (gt x1 k24)) (hm.rdS0 r49)) hsm (s_1.2 _ (gt_mem (show k24 < x1.length from by omega)))) (Wd_none rfl) (by decide) (fun z63 => ?_)
    refine tyStore_sp ?_
    rintro v64 rfl
    refine WM_form (n := 0) rfl ?_
    rintro A65 c66 rfl m67
    refine qnD (pk [1, 2, 3, 4]) (pk [1, 2, 3, 4]) ?_
    refine qtD 12 6 127 rfl vmv ?_
    refine qtD 12 7 255 rfl (fun W hm => rv_extract rfl rfl) ?_
    refine qtP 12 8 511 rfl (fun W => rv_extract rfl rfl) ?_
    refine qoD 12 9 1023 rfl ?_
    refine WM_alloc type26 rfl (Wd_none rfl) (by decide) (fun p69 => ?_)
    refine qnD (pk [2, 3, 4, 5]) (pk [2, 3, 4, 5]) ?_
    exact QD_sub sl8 (fun W hm => hm) (H (A65, c66, p69))
   refine qcD 12 543 rfl ?_ ?_
   ·
    refine WM_alloc type26 rfl (Wd_none rfl) (by decide) (fun p70 => ?_)
    refine qnD (pk [1, 2, 3, 4]) (pk [1, 2, 3, 4]) ?_
    refine qoD 12 5 575 rfl ?_
    refine WM_call (χ := List Value) (val := fun x => .tuple #[.agg x.toArray, .bool ((spec_ApplyUpdate_m (⟨d27, s30⟩ : DStore) (gt x1 k24)).2)]) (js := fun x => [iOwn tyStore x ((spec_ApplyUpdate_m (⟨d27, s30⟩ : DStore) (gt x1 k24)).1)]) (cl_fn cb9 rfl) (fun W hm => spec_ApplyUpdate_c W _ (⟨d27, s30⟩ : DStore) _ (gt x1 k24) (tyStore_mk (x := (⟨d27, s30⟩ : DStore)) (hm.rdSI (n := 2) rfl)) (tyUpdate_mk (x := (gt x1 k24)) (hm.rdS0 r49)) hsm (s_1.2 _ (gt_mem (show k24 < x1.length from by omega)))) (Wd_none rfl) (by decide) (fun z71 => ?_)
    refine tyStore_sp ?_
    rintro v72 rfl
    refine WM_form (n := 0) rfl ?_
    rintro A73 c74 rfl m75
    refine qnD (pk [2, 3, 4, 5]) (pk [2, 3, 4, 5]) ?_
    refine qtD 12 6 639 rfl vmv ?_
    refine qtD 12 7 767 rfl (fun W hm => rv_extract rfl rfl) ?_
    refine qtP 12 8 1023 rfl (fun W => rv_extract rfl rfl) ?_
    exact QD_sub sl8 (pk [1, 0, 2, 3, 4, 5]) (H (A73, c74, p70))
   exact QDs_nil
 ·have g36 := dlF hl35
  refine CM_condF rfl g36 ?_
  refine CM_exit (QM_then_exit (QM_then_exit ?_))
  have hE77 : R2 (x1.length - 0) 0 (0, x0.Segments, x0.Now) = Sum.inr (s25, d27, s30) := rng_end hl35 hF32
  refine QM_block_hit (QM_then (sr ?_))
  refine wv (fun W hm => rv_loadN (cs := [.slice A28 d27.length c29, .int .i64 s30]) underlying26 type26 rfl rfl (hm.boxCells (n := 0) rfl)) ?_
  refine wm ?_
  refine sb 0 [.slice A28 d27.length c29, .int .i64 s30] [I6, I7, I5] (pk [2, 0, 1, 3]) type26 ?_
  refine wa (nt' (CM_ret ?_))
  have he78 := (show spec_ApplyUpdates_m x0 x1 = ((⟨d27, s30⟩ : DStore), s25) from fin_inr hE77 (rfl))
  refine QM_r2 rfl (RR_cell (n := 0) rfl rfl underlying26 type26 rfl) (RR_tmp rfl) (fun W hm => ⟨[.slice A28 d27.length c29, .int .i64 s30], ?_, ?_⟩)
  ·first | rw [he78] | rfl
   try rfl
  ·rw [he78]; exact Mem.join (is := [I7]) (js := []) (fun _ _ hs => tyStore_join (x := (⟨d27, s30⟩ : DStore)) hs) (hm.pick [2] (by decide))

end Go.Proofs.Ytglapeecbnaipaa
