/-
  Contracts of functions, printed by a program of ours.
-/
import Derived.Test.YtcjelfdpekbbkaaDoorDat
namespace Go.Proofs.YtcjelfdpekbbkaaDoor
open Go.RowKit
set_option maxRecDepth 100000
set_option maxHeartbeats 4000000
open _root_.Go.Proofs.Tryd
def laws_szIntS_m (x0 : (List Int)) (x1 : Int) : Int :=
 cond (decide ((IntKind.i64.wrap (x1 - ((x0.length : Nat) : Int))) < 0)) (-1) (IntKind.i64.wrap (x1 - ((x0.length : Nat) : Int)))
theorem cb53 : Cb Tryd.prog 53 := ⟨f53, _, func53, rfl, by decide⟩
theorem laws_szIntS_c (w : World) (z0 : Value) (x0 : (List Int)) (x1 : Int) (r_0 : rdS tInt w w.heap.size z0 x0) :
  Calls Tryd.prog 53 #[z0, .int .i64 x1] w fun e w' => e = .returned (.int .i64 (laws_szIntS_m x0 x1)) ∧ Below w.heap.size w w' := by
 obtain ⟨m1, A2, c3, rfl, q4, r5⟩ := rdS_op r_0
 refine ce2 (L := [(0, .slice A2 x0.length c3), (1, .int .i64 x1)]) (N := 12) func53 ?_
 refine sr (wa (nt' (sr (wm (wm ?_)))))
 refine wv (vlen underlying28) ?_
 refine wv (fun W hm => rv_sub rfl rfl) ?_
 refine wa (nt' (CM_seq (sr (wm ?_))))
 refine wv vlss ?_
 refine nt' ?_
 by_cases h6 : (IntKind.i64.wrap (x1 - ((x0.length : Nat) : Int))) < 0
 ·have g7 := decide_eq_true h6
  refine CM_condT rfl g7 ?_
  refine sr (wa (nt' (CM_ret (QM_then_ret ?_))))
  exact rti (h := cond_t g7 (rfl))
 ·have g7 := decide_eq_false h6
  refine CM_condF rfl g7 ?_
  refine CM_skip (QM_then (sr (wm (wa (nt' (CM_ret ?_))))))
  exact rti (h := cond_f g7 (rfl))

def laws_szCharge_m (x0 : DCharge) (x1 : Int) : Int :=
 cond (decide ((laws_szIntS_m x0.Ids x1) < 0)) (-1) (cond (decide ((laws_szIntS_m x0.Tenants (laws_szIntS_m x0.Ids x1)) < 0)) (-1) (cond (decide ((laws_szIntS_m x0.Rows (laws_szIntS_m x0.Tenants (laws_szIntS_m x0.Ids x1))) < 0)) (-1) (laws_szIntS_m x0.Rows (laws_szIntS_m x0.Tenants (laws_szIntS_m x0.Ids x1)))))
theorem cb11 : Cb Tryd.prog 11 := ⟨f11, _, func11, rfl, by decide⟩
theorem laws_szCharge_c (w : World) (z0 : List Value) (x0 : DCharge) (x1 : Int) (r_0 : tyLCharge.rd w w.heap.size z0 x0) :
  Calls Tryd.prog 11 #[.agg z0.toArray, .int .i64 x1] w fun e w' => e = .returned (.int .i64 (laws_szCharge_m x0 x1)) ∧ Below w.heap.size w w' := by
 obtain ⟨v1, v3, v5, rfl, r2, r4, r6⟩ := tyLCharge_rd r_0
 obtain ⟨m7, A8, c9, rfl, q10, r11⟩ := rdS_op r2
 obtain ⟨m12, A13, c14, rfl, q15, r16⟩ := rdS_op r4
 obtain ⟨m17, A18, c19, rfl, q20, r21⟩ := rdS_op r6
 refine ce2 (L := [(0, .agg #[.int .i64 x0.Segment, .int .i64 x0.Base, .slice A8 x0.Ids.length c9, .slice A13 x0.Tenants.length c14, .slice A18 x0.Rows.length c19]), (1, .int .i64 x1)]) (N := 24) func11 ?_
 refine sr ?_
 refine WM_box rfl (Wd_none rfl) (by decide) (fun p22 => ?_)
 refine wa (nt' (sr ?_))
 refine wv (vf underlying30 rfl type28) ?_
 refine wv (vl 0 2 underlying28) ?_
 refine wm ?_
 refine wcv (cl_fn cb53 rfl) (fun W hm => laws_szIntS_c W _ x0.Ids x1 (hm.rdS0 r11)) ?_
 refine wa (nt' (CM_seq (sr (wm ?_))))
 refine wv vlss ?_
 refine nt' ?_
 by_cases h23 : (laws_szIntS_m x0.Ids x1) < 0
 ·have g24 := decide_eq_true h23
  refine CM_condT rfl g24 ?_
  refine sr (wa (nt' (CM_ret (QM_then_ret ?_))))
  exact rti (h := cond_t g24 (rfl))
 ·have g24 := decide_eq_false h23
  refine CM_condF rfl g24 ?_
  refine CM_skip (QM_then (sr ?_))
  refine wv (vf underlying30 rfl type28) ?_
  refine wv (vl 0 3 underlying28) ?_
  refine wm ?_
  refine wcv (cl_fn cb53 rfl) (fun W hm => laws_szIntS_c W _ x0.Tenants (laws_szIntS_m x0.Ids x1) (hm.rdS0 r16)) ?_
  refine wa (nt' (CM_seq (sr (wm ?_))))
  refine wv vlss ?_
  refine nt' ?_
  by_cases h25 : (laws_szIntS_m x0.Tenants (laws_szIntS_m x0.Ids x1)) < 0
  ·have g26 := decide_eq_true h25
   refine CM_condT rfl g26 ?_
   refine sr (wa (nt' (CM_ret (QM_then_ret ?_))))
   exact rti (h := cond_f g24 (cond_t g26 (rfl)))
  ·have g26 := decide_eq_false h25
   refine CM_condF rfl g26 ?_
   refine CM_skip (QM_then (sr ?_))
   refine wv (vf underlying30 rfl type28) ?_
   refine wv (vl 0 4 underlying28) ?_
   refine wm ?_
   refine wcv (cl_fn cb53 rfl) (fun W hm => laws_szIntS_c W _ x0.Rows (laws_szIntS_m x0.Tenants (laws_szIntS_m x0.Ids x1)) (hm.rdS0 r21)) ?_
   refine wa (nt' (CM_seq (sr (wm ?_))))
   refine wv vlss ?_
   refine nt' ?_
   by_cases h27 : (laws_szIntS_m x0.Rows (laws_szIntS_m x0.Tenants (laws_szIntS_m x0.Ids x1))) < 0
   ·have g28 := decide_eq_true h27
    refine CM_condT rfl g28 ?_
    refine sr (wa (nt' (CM_ret (QM_then_ret ?_))))
    exact rti (h := cond_f g24 (cond_f g26 (cond_t g28 (rfl))))
   ·have g28 := decide_eq_false h27
    refine CM_condF rfl g28 ?_
    refine CM_skip (QM_then (sr (wm (wa (nt' (CM_ret ?_))))))
    exact rti (h := cond_f g24 (cond_f g26 (cond_f g28 (rfl))))

def laws_toIntS_b1 (x0 : (List Int)) (k9 : Nat) (d10 : (List Int)) : (List Int) ⊕ ((List Int)) :=
 Sum.inr (d10.set k9 (gt x0 k9))
def laws_toIntS_m (x0 : (List Int)) : (List Int) :=
 Sum.elim id (fun (s : (List Int)) => s) (rng (R := (List Int)) (fun k (s : (List Int)) => laws_toIntS_b1 x0 k s) (x0.length - 0) 0 (List.replicate x0.length (0 : Int)))
theorem cb54 : Cb Tryd.prog 54 := ⟨f54, _, func54, rfl, by decide⟩
theorem laws_toIntS_c (w : World) (z0 : Value) (x0 : (List Int)) (r_0 : rdS tInt w w.heap.size z0 x0) (s_0 : x0.length ≤ 68719476736) :
  Calls Tryd.prog 54 #[z0] w fun e w' => ∃ v : Value, e = .returned (v) ∧ Mem w.heap.size w [iOwn (tSl tInt 3) [v] (laws_toIntS_m x0)] w' := by
 obtain ⟨m1, A2, c3, rfl, q4, r5⟩ := rdS_op r_0
 have l6 : x0.length ≤ 68719476736 := s_0
 refine ce1 (L := [(0, .slice A2 x0.length c3)]) (N := 22) func54 ?_
 refine sr (wa (nt' (sr (wm ?_))))
 refine wv (vlen underlying28) ?_
 refine WM_make (E := tInt) (n := x0.length) (x0 := (0 : Int)) underlying28 type3 rfl rfl rfl (fun _ => tInt_own) rfl rfl (show x0.length * 8 ≤ 281474976710656 from by omega) (by omega) (Wd_none rfl) (by decide) (fun p7 => ?_)
 refine wa (nt' (CM_seq (sr (wa (nt' (CM_block ?_))))))
 let F1 := fun k (s : (List Int)) => laws_toIntS_b1 x0 k s
 let R2 := rng (R := (List Int)) F1
 refine CM_loop (σ := Nat × ((List Int)) × (Unit)) (fun s => [(0, .slice A2 x0.length c3), (3, .slice (some ⟨p7, 0, none⟩) x0.length x0.length), (4, .int .i64 ((s.1 : Nat) : Int))]) (fun s => [iOwn (tSl tInt 3) [.slice (some ⟨p7, 0, none⟩) x0.length x0.length] s.2.1]) (fun s => s.1 ≤ x0.length ∧ R2 (x0.length - s.1) s.1 s.2.1 = R2 (x0.length - 0) 0 (List.replicate x0.length (0 : Int))) (fun s => x0.length - s.1) (0, (List.replicate x0.length (0 : Int)), ()) sl3 (fun W hm => hm) ⟨(by omega), rfl⟩ ?_
 rintro ⟨k9, d10, ⟨⟩⟩ H13
 obtain ⟨hk11, hF12⟩ : k9 ≤ x0.length ∧ R2 (x0.length - k9) k9 d10 = R2 (x0.length - 0) 0 (List.replicate x0.length (0 : Int)) := H13
 show CM Tryd.prog 22 _ _ _ _ [(0, .slice A2 x0.length c3), (3, .slice (some ⟨p7, 0, none⟩) x0.length x0.length), (4, .int .i64 ((k9 : Nat) : Int))] [iOwn (tSl tInt 3) [.slice (some ⟨p7, 0, none⟩) x0.length x0.length] d10]
 refine CM_seq (sr (wm (wm ?_)))
 refine wv (vlen underlying28) ?_
 refine wv vlss ?_
 refine nt' ?_
 by_cases hl14 : k9 < x0.length
 ·have g15 := dlT hl14
  refine CM_condT rfl g15 ?_
  refine CM_skip (QM_then (CM_seq (CM_block (CM_region (wm (wm (wm (wm ?_))))))))
  obtain ⟨a16, rfl, hb17, he18⟩ := q4 (by omega)
  refine wv (vix 1 k9 underlying28 type3) ?_
  refine wv (fun W hm => rv_load underlying3 rfl rfl ((hm.cell0 (show (a16.add (k9 * 1)).block < w.heap.size from by rw [add_block]; exact hb17.1)).trans (rdS_int he18 k9 (by omega)))) ?_
  refine wv (vix 1 k9 underlying28 type3) ?_
  refine WM_setEl (E := tInt) (e := 3) (u := .int .i64 (gt x0 k9)) (k := k9) (p := p7) (n := x0.length) (xs := d10) (eis := []) (js := []) (yv := (gt x0 k9)) (fun W hm => hm) (fun _ _ hs => (Sep.nil hs ▸ tInt_own)) rfl type3 rfl (by omega) rfl rfl (Wd_none rfl) ?_
  refine WM_nil (QM_block_normal (QM_then (CM_region (wm ?_))))
  refine wv (vadN k9 1 (by omega)) ?_
  refine wa (WM_nil ?_)
  have hn19 := rng_next (R := (List Int)) (body := F1) (k := k9) (s := d10) (s' := (d10.set k9 (gt x0 k9))) (show k9 < x0.length from by omega) (rfl) hF12
  exact QM_round (k9 + 1, (d10.set k9 (gt x0 k9)), ()) sl3 (fun W hm => hm) ⟨(by omega), hn19⟩ (rl (by omega))
 ·have g15 := dlF hl14
  refine CM_condF rfl g15 ?_
  refine CM_exit (QM_then_exit (QM_then_exit ?_))
  have hE20 : R2 (x0.length - 0) 0 (List.replicate x0.length (0 : Int)) = Sum.inr d10 := rng_end hl14 hF12
  refine QM_block_hit (QM_then (sr (wm (wa (nt' (CM_ret ?_))))))
  have he21 := (show laws_toIntS_m x0 = d10 from fin_inr hE20 (rfl))
  refine QM_r1 rfl (RR_tmp rfl) (fun W hm => ⟨.slice (some ⟨p7, 0, none⟩) x0.length x0.length, ?_, ?_⟩)
  ·first | rw [he21] | rfl
  ·rw [he21]; exact hm

def laws_toCharge_m (x0 : DCharge) : DCharge :=
 (⟨x0.Segment, x0.Base, (laws_toIntS_m x0.Ids), (laws_toIntS_m x0.Tenants), (laws_toIntS_m x0.Rows)⟩ : DCharge)
theorem cb13 : Cb Tryd.prog 13 := ⟨f13, _, func13, rfl, by decide⟩
theorem laws_toCharge_c (w : World) (z0 : List Value) (x0 : DCharge) (r_0 : tyLCharge.rd w w.heap.size z0 x0) (s_0 : smCharge 68719476736 x0) :
  Calls Tryd.prog 13 #[.agg z0.toArray] w fun e w' => ∃ v : List Value, e = .returned (.agg v.toArray) ∧ Mem w.heap.size w [iOwn tyCharge v (laws_toCharge_m x0)] w' := by
 obtain ⟨v1, v3, v5, rfl, r2, r4, r6⟩ := tyLCharge_rd r_0
 obtain ⟨m7, A8, c9, rfl, q10, r11⟩ := rdS_op r2
 obtain ⟨m12, A13, c14, rfl, q15, r16⟩ := rdS_op r4
 obtain ⟨m17, A18, c19, rfl, q20, r21⟩ := rdS_op r6
 have l22 : x0.Ids.length ≤ 68719476736 := s_0.1
 have l23 : x0.Tenants.length ≤ 68719476736 := s_0.2.1
 have l24 : x0.Rows.length ≤ 68719476736 := s_0.2.2
 refine ce1 (L := [(0, .agg #[.int .i64 x0.Segment, .int .i64 x0.Base, .slice A8 x0.Ids.length c9, .slice A13 x0.Tenants.length c14, .slice A18 x0.Rows.length c19])]) (N := 23) func13 ?_
 refine sr ?_
 refine WM_box rfl (Wd_none rfl) (by decide) (fun p25 => ?_)
 refine WM_alloc type33 rfl (Wd_none rfl) (by decide) (fun p26 => ?_)
 refine nt' (sr ?_)
 refine WM_alloc type33 rfl (Wd_none rfl) (by decide) (fun p27 => ?_)
 refine nt' (sr ?_)
 refine wv (vf underlying30 rfl type3) ?_
 refine wv (vl 2 0 underlying3) ?_
 refine wv (vf underlying33 rfl type3) ?_
 let K1 : List Value := [.int .i64 0, .int .i64 0, .slice none 0 0, .slice none 0 0, .slice none 0 0]
 let K2 : List Value := [.int .i64 x0.Segment, .int .i64 x0.Base, .slice A8 x0.Ids.length c9, .slice A13 x0.Tenants.length c14, .slice A18 x0.Rows.length c19]
 refine sb 0 [.int .i64 x0.Segment, .int .i64 0, .slice none 0 0, .slice none 0 0, .slice none 0 0] [iBox p26 33 K1, iBox p25 30 K2] (fun W hm => hm) type3 ?_
 refine nt' (sr ?_)
 refine wv (vf underlying30 rfl type3) ?_
 refine wv (vl 2 1 underlying3) ?_
 refine wv (vf underlying33 rfl type3) ?_
 refine sb 1 [.int .i64 x0.Segment, .int .i64 x0.Base, .slice none 0 0, .slice none 0 0, .slice none 0 0] [iBox p26 33 K1, iBox p25 30 K2] (fun W hm => hm) type3 ?_
 refine nt' (sr ?_)
 refine wv (vf underlying30 rfl type28) ?_
 refine wv (vl 2 2 underlying28) ?_
 refine wcl (tSl tInt 3) (laws_toIntS_m x0.Ids) (cl_fn cb54 rfl) (fun W hm => laws_toIntS_c W _ x0.Ids (hm.rdS0 r11) s_0.1) (fun z28 => ?_)
 refine WM_form (n := 0) rfl ?_
 rintro A29 c30 rfl m31
 refine wv (vf underlying33 rfl type28) ?_
 let I4 : It := iOwn (tSl tInt 3) [.slice A29 (laws_toIntS_m x0.Ids).length c30] (laws_toIntS_m x0.Ids)
 refine sb 2 [.int .i64 x0.Segment, .int .i64 x0.Base, .slice A29 (laws_toIntS_m x0.Ids).length c30, .slice none 0 0, .slice none 0 0] [I4, iBox p26 33 K1, iBox p25 30 K2] (pk [1, 0, 2, 3]) type28 ?_
 refine nt' (sr ?_)
 refine wv (vf underlying30 rfl type28) ?_
 refine wv (vl 3 3 underlying28) ?_
 refine wcl (tSl tInt 3) (laws_toIntS_m x0.Tenants) (cl_fn cb54 rfl) (fun W hm => laws_toIntS_c W _ x0.Tenants (hm.rdS0 r16) s_0.2.1) (fun z33 => ?_)
 refine WM_form (n := 0) rfl ?_
 rintro A34 c35 rfl m36
 refine wv (vf underlying33 rfl type28) ?_
 let I5 : It := iOwn (tSl tInt 3) [.slice A34 (laws_toIntS_m x0.Tenants).length c35] (laws_toIntS_m x0.Tenants)
 refine sb 3 [.int .i64 x0.Segment, .int .i64 x0.Base, .slice A29 (laws_toIntS_m x0.Ids).length c30, .slice A34 (laws_toIntS_m x0.Tenants).length c35, .slice none 0 0] [I5, I4, iBox p26 33 K1, iBox p25 30 K2] (pk [1, 0, 2, 3, 4]) type28 ?_
 refine nt' (sr ?_)
 refine wv (vf underlying30 rfl type28) ?_
 refine wv (vl 4 4 underlying28) ?_
 refine wcl (tSl tInt 3) (laws_toIntS_m x0.Rows) (cl_fn cb54 rfl) (fun W hm => laws_toIntS_c W _ x0.Rows (hm.rdS0 r21) s_0.2.2) (fun z38 => ?_)
 refine WM_form (n := 0) rfl ?_
 rintro A39 c40 rfl m41
 refine wv (vf underlying33 rfl type28) ?_
 let K3 : List Value := [.int .i64 x0.Segment, .int .i64 x0.Base, .slice A29 (laws_toIntS_m x0.Ids).length c30, .slice A34 (laws_toIntS_m x0.Tenants).length c35, .slice A39 (laws_toIntS_m x0.Rows).length c40]
 let I6 : It := iOwn (tSl tInt 3) [.slice A39 (laws_toIntS_m x0.Rows).length c40] (laws_toIntS_m x0.Rows)
 refine sb 4 K3 [I6, I5, I4, iBox p26 33 K1, iBox p25 30 K2] (pk [1, 0, 2, 3, 4, 5]) type28 ?_
 refine nt' (sr ?_)
 refine wv (fun W hm => rv_loadN (cs := K3) underlying33 type33 rfl rfl (hm.boxCells (n := 0) rfl)) ?_
 refine sb 0 K3 [iBox p27 33 K3, I6, I5, I4, iBox p25 30 K2] (pk [4, 0, 1, 2, 3, 5]) type33 ?_
 refine nt' (CM_ret ?_)
 have he43 := (show laws_toCharge_m x0 = (⟨x0.Segment, x0.Base, (laws_toIntS_m x0.Ids), (laws_toIntS_m x0.Tenants), (laws_toIntS_m x0.Rows)⟩ : DCharge) from rfl)
 refine QM_r1 rfl (RR_cell (n := 0) rfl rfl underlying33 type33 rfl) (fun W hm => ⟨K3, ?_, ?_⟩)
 ·first | rw [he43] | rfl
 ·rw [he43]; exact Mem.join (is := [I4, I5, I6]) (js := []) (fun _ _ hs => tyCharge_join (x := (⟨x0.Segment, x0.Base, (laws_toIntS_m x0.Ids), (laws_toIntS_m x0.Tenants), (laws_toIntS_m x0.Rows)⟩ : DCharge)) hs) (hm.pick [4, 3, 2] (by decide))

def spec_l1In_m (x0 : Int) (x1 : Int) (x2 : Int) : Bool :=
 cond (decide (x1 ≤ x0)) (decide (x0 ≤ x2)) false
theorem cb48 : Cb Tryd.prog 48 := ⟨f48, _, func48, rfl, by decide⟩
theorem spec_l1In_c (w : World) (x0 : Int) (x1 : Int) (x2 : Int) :
  Calls Tryd.prog 48 #[.int .i64 x0, .int .i64 x1, .int .i64 x2] w fun e w' => e = .returned (.bool (spec_l1In_m x0 x1 x2)) ∧ Below w.heap.size w w' := by
 refine ce3 (L := [(0, .int .i64 x0), (1, .int .i64 x1), (2, .int .i64 x2)]) (N := 15) func48 ?_
 refine sr (wa (nt' (sr (wm (wm ?_)))))
 refine wv (fun W hm => rv_geq rfl rfl) ?_
 refine wm ?_
 by_cases h1 : x1 ≤ x0
 ·have g2 := decide_eq_true h1
  refine wg vmv g2 ?_
  refine wg vmv g2 ?_
  refine wg (fun W hm => rv_leq rfl rfl) g2 ?_
  refine wv (vpT g2) ?_
  refine wa (nt' (CM_ret ?_))
  exact rtb (h := cond_t g2 (rfl))
 ·have g2 := decide_eq_false h1
  refine ws g2 ?_
  refine ws g2 ?_
  refine ws g2 ?_
  refine wv (vpF g2) ?_
  refine wa (nt' (CM_ret ?_))
  exact rtb (h := cond_f g2 (rfl))

theorem spec_l1In_fact {x a b : Int} (h : spec_l1In_m x a b = true) : a ≤ x ∧ x ≤ b := by
  unfold spec_l1In_m at h
  by_cases h1 : a ≤ x
  · rw [decide_eq_true h1] at h
    exact ⟨h1, of_decide_eq_true h⟩
  · rw [decide_eq_false h1] at h
    cases h
theorem spec_l1In_iff (x a b : Int) : spec_l1In_m x a b = decide (a ≤ x ∧ x ≤ b) := by
  unfold spec_l1In_m
  by_cases h1 : a ≤ x
  · by_cases h2 : x ≤ b
    · simp [h1, h2]
    · simp [h1, h2]
  · simp [h1]

def spec_IsSet_b1 (x0 : (List Int)) (k6 : Nat) : Bool ⊕ (Unit) :=
 cond (spec_l1In_m (gt x0 k6) 0 23) (cond (decide (0 < ((k6 : Nat) : Int))) (cond (decide ((gt x0 k6) ≤ (gt x0 (k6 - 1)))) (Sum.inl false) (Sum.inr ())) (Sum.inr ())) (Sum.inl false)
def spec_IsSet_m (x0 : (List Int)) : Bool :=
 Sum.elim id (fun (s : Unit) => true) (rng (R := Bool) (fun k (_ : Unit) => spec_IsSet_b1 x0 k) (x0.length - 0) 0 ())
theorem cb44 : Cb Tryd.prog 44 := ⟨f44, _, func44, rfl, by decide⟩
theorem spec_IsSet_c (w : World) (z0 : Value) (x0 : (List Int)) (r_0 : rdS tInt w w.heap.size z0 x0) :
  Calls Tryd.prog 44 #[z0] w fun e w' => e = .returned (.bool (spec_IsSet_m x0)) ∧ Below w.heap.size w w' := by
 obtain ⟨m1, A2, c3, rfl, q4, r5⟩ := rdS_op r_0
 refine ce1 (L := [(0, .slice A2 x0.length c3)]) (N := 32) func44 ?_
 refine sr (wa (nt' (CM_seq (sr (wa (nt' (CM_block ?_)))))))
 let F1 := fun k (_ : Unit) => spec_IsSet_b1 x0 k
 let R2 := rng (R := Bool) F1
 refine CM_loop (σ := Nat × (Unit) × (Unit)) (fun s => [(0, .slice A2 x0.length c3), (3, .int .i64 ((s.1 : Nat) : Int))]) (fun s => []) (fun s => s.1 ≤ x0.length ∧ R2 (x0.length - s.1) s.1 s.2.1 = R2 (x0.length - 0) 0 ()) (fun s => x0.length - s.1) (0, (), ()) sl2 (fun W hm => hm) ⟨(by omega), rfl⟩ ?_
 rintro ⟨k6, ⟨⟩, ⟨⟩⟩ H9
 obtain ⟨hk7, hF8⟩ : k6 ≤ x0.length ∧ R2 (x0.length - k6) k6 () = R2 (x0.length - 0) 0 () := H9
 show CM Tryd.prog 32 _ _ _ _ [(0, .slice A2 x0.length c3), (3, .int .i64 ((k6 : Nat) : Int))] []
 refine CM_seq (sr (wm (wm ?_)))
 refine wv (vlen underlying28) ?_
 refine wv vlss ?_
 refine nt' ?_
 by_cases hl10 : k6 < x0.length
 ·have g11 := dlT hl10
  refine CM_condT rfl g11 ?_
  refine CM_skip (QM_then (CM_seq (CM_block (CM_seq ?_))))
  refine CM_regionD (by kernel_rfl) (by kernel_rfl) ?_
  refine qm (qm ?_)
  obtain ⟨a12, rfl, hb13, he14⟩ := q4 (by omega)
  refine qv (vix 1 k6 underlying28 type3) ?_
  refine qv (fun W hm => rv_load underlying3 rfl rfl ((hm.cell0 (show (a12.add (k6 * 1)).block < w.heap.size from by rw [add_block]; exact hb13.1)).trans (rdS_int he14 k6 (by omega)))) ?_
  refine QR_callV (cl_fn cb48 rfl) (fun W hm => spec_l1In_c W (gt x0 k6) 0 23) (Wd_none rfl) (by decide) ?_
  refine qv vnot ?_
  refine qm ?_
  rcases Bool.eq_false_or_eq_true (spec_l1In_m (gt x0 k6) 0 23) with g16 | g16
  ·
   have hw := spec_l1In_fact g16
   refine qg vmv (nt g16) ?_
   refine qg (fun W hm => rv_gtr rfl rfl) (nt g16) ?_
   refine qg vmv (nt g16) ?_
   by_cases h17 : 0 < ((k6 : Nat) : Int)
   ·have g18 := decide_eq_true h17
    refine qg vmv g18 ?_
    refine qg vmv g18 ?_
    refine qg (vix 1 k6 underlying28 type3) g18 ?_
    refine qg (fun W hm => rv_load underlying3 rfl rfl ((hm.cell0 (show (a12.add (k6 * 1)).block < w.heap.size from by rw [add_block]; exact hb13.1)).trans (rdS_int he14 k6 (by omega)))) g18 ?_
    refine qg vmv g18 ?_
    refine qg vmv g18 ?_
    refine qg (fun W hm => rv_subN (p := k6) (q := 1) rfl rfl (by omega) (by omega)) g18 ?_
    refine qg (fun W hm => rv_index (sz := 1) (k := k6 - 1) underlying28 type3 rfl rfl rfl (by omega)) g18 ?_
    refine qg (fun W hm => rv_load underlying3 rfl rfl ((hm.cell0 (show (a12.add ((k6 - 1) * 1)).block < w.heap.size from by rw [add_block]; exact hb13.1)).trans (rdS_int he14 (k6 - 1) (by omega)))) g18 ?_
    refine qg (fun W hm => rv_leq rfl rfl) g18 ?_
    refine qg (vpT g18) (nt g16) ?_
    refine qv (vpF (nt g16)) ?_
    refine nq' ?_
    by_cases h19 : (gt x0 k6) ≤ (gt x0 (k6 - 1))
    ·have g20 := decide_eq_true h19
     refine CM_condT rfl g20 ?_
     refine sr (wa (nt' (CM_ret (QM_block_ret (QM_then_ret (QM_then_ret (QM_block_ret (QM_then_ret ?_))))))))
     exact rtb (h := fin_inl (rng_ret (body := F1) (k := k6) (s := ()) (show k6 < x0.length from by omega) (cond_t g16 (cond_t g18 (cond_t g20 (rfl)))) hF8) rfl)
    ·have g20 := decide_eq_false h19
     refine CM_condF rfl g20 ?_
     refine CM_skip (QM_block_normal (QM_then (CM_region (wm ?_))))
     refine wv (vadN k6 1 (by omega)) ?_
     refine wa (WM_nil ?_)
     have hn21 := rng_next (R := Bool) (body := F1) (k := k6) (s := ()) (s' := ()) (show k6 < x0.length from by omega) (cond_t g16 (cond_t g18 (cond_f g20 (rfl)))) hF8
     exact QM_round (k6 + 1, (), ()) sl2 (fun W hm => hm) ⟨(by omega), hn21⟩ (rl (by omega))
   ·have g18 := decide_eq_false h17
    refine qs g18 ?_
    refine qs g18 ?_
    refine qs g18 ?_
    refine qs g18 ?_
    refine qs g18 ?_
    refine qs g18 ?_
    refine qs g18 ?_
    refine qs g18 ?_
    refine qs g18 ?_
    refine qs g18 ?_
    refine qg (vpF g18) (nt g16) ?_
    refine qv (vpF (nt g16)) ?_
    refine nq' ?_
    refine CM_condF rfl rfl ?_
    refine CM_skip (QM_block_normal (QM_then (CM_region (wm ?_))))
    refine wv (vadN k6 1 (by omega)) ?_
    refine wa (WM_nil ?_)
    have hn22 := rng_next (R := Bool) (body := F1) (k := k6) (s := ()) (s' := ()) (show k6 < x0.length from by omega) (cond_t g16 (cond_f g18 (rfl))) hF8
    exact QM_round (k6 + 1, (), ()) sl2 (fun W hm => hm) ⟨(by omega), hn22⟩ (rl (by omega))
  ·
   refine qs (nf g16) ?_
   refine qs (nf g16) ?_
   refine qs (nf g16) ?_
   refine qu ?_
   refine qu ?_
   refine qu ?_
   refine qu ?_
   refine qu ?_
   refine qu ?_
   refine qu ?_
   refine qu ?_
   refine qu ?_
   refine qu ?_
   refine qs (nf g16) ?_
   refine qv (vpT (nf g16)) ?_
   refine nq' ?_
   refine CM_condT rfl rfl ?_
   refine sr (wa (nt' (CM_ret (QM_block_ret (QM_then_ret (QM_then_ret (QM_block_ret (QM_then_ret ?_))))))))
   exact rtb (h := fin_inl (rng_ret (body := F1) (k := k6) (s := ()) (show k6 < x0.length from by omega) (cond_f g16 (rfl)) hF8) rfl)
 ·have g11 := dlF hl10
  refine CM_condF rfl g11 ?_
  refine CM_exit (QM_then_exit (QM_then_exit ?_))
  have hE23 : R2 (x0.length - 0) 0 () = Sum.inr () := rng_end hl10 hF8
  refine QM_block_hit (QM_then (sr (wa (nt' (CM_ret ?_)))))
  exact rtb (h := fin_inr hE23 (rfl))

def spec_IsCharge_b1 (x0 : DCharge) (k37 : Nat) : Bool ⊕ (Unit) :=
 cond (spec_l1In_m (gt x0.Tenants k37) 0 3) (cond (spec_l1In_m (gt x0.Rows k37) 0 x0.Base) (Sum.inr ()) (Sum.inl false)) (Sum.inl false)
def spec_IsCharge_m (x0 : DCharge) : Bool :=
 cond (spec_IsSet_m x0.Ids) (cond (((x0.Ids.length : Nat) : Int) == 0) false (cond (decide (8 < ((x0.Ids.length : Nat) : Int))) false (cond (((x0.Tenants.length : Nat) : Int) != ((x0.Ids.length : Nat) : Int)) false (cond (((x0.Rows.length : Nat) : Int) != ((x0.Ids.length : Nat) : Int)) false (cond (spec_l1In_m x0.Segment 0 7) (cond (spec_l1In_m x0.Base 0 4) (Sum.elim id (fun (s : Unit) => true) (rng (R := Bool) (fun k (_ : Unit) => spec_IsCharge_b1 x0 k) (x0.Ids.length - 0) 0 ())) false) false))))) false
theorem cb27 : Cb Tryd.prog 27 := ⟨f27, _, func27, rfl, by decide⟩
theorem spec_IsCharge_c (w : World) (z0 : List Value) (x0 : DCharge) (r_0 : tyCharge.rd w w.heap.size z0 x0) :
  Calls Tryd.prog 27 #[.agg z0.toArray] w fun e w' => e = .returned (.bool (spec_IsCharge_m x0)) ∧ Below w.heap.size w w' := by
 obtain ⟨v1, v3, v5, rfl, r2, r4, r6⟩ := tyCharge_rd r_0
 obtain ⟨m7, A8, c9, rfl, q10, r11⟩ := rdS_op r2
 obtain ⟨m12, A13, c14, rfl, q15, r16⟩ := rdS_op r4
 obtain ⟨m17, A18, c19, rfl, q20, r21⟩ := rdS_op r6
 refine ce1 (L := [(0, .agg #[.int .i64 x0.Segment, .int .i64 x0.Base, .slice A8 x0.Ids.length c9, .slice A13 x0.Tenants.length c14, .slice A18 x0.Rows.length c19])]) (N := 69) func27 ?_
 refine sr ?_
 refine WM_box rfl (Wd_none rfl) (by decide) (fun p22 => ?_)
 refine wa (nt' (sr ?_))
 refine wv (vf underlying33 rfl type28) ?_
 refine wv (vl 0 2 underlying28) ?_
 refine wv (vlen underlying28) ?_
 refine wa (nt' (CM_seq (sr ?_)))
 refine wv (vf underlying33 rfl type28) ?_
 refine wv (vl 0 2 underlying28) ?_
 refine wcv (cl_fn cb44 rfl) (fun W hm => spec_IsSet_c W _ x0.Ids (hm.rdS0 r11)) ?_
 refine wv vnot ?_
 refine wm ?_
 rcases Bool.eq_false_or_eq_true (spec_IsSet_m x0.Ids) with g24 | g24
 ·
  refine wg vmv (nt g24) ?_
  refine wg (fun W hm => rv_eql rfl rfl) (nt g24) ?_
  refine wv (vpF (nt g24)) ?_
  refine wm ?_
  by_cases h25 : ((x0.Ids.length : Nat) : Int) = 0
  ·have g26 := beq_iff_eq.2 h25
   refine ws g26 ?_
   refine ws g26 ?_
   refine wv (vpT g26) ?_
   refine wm ?_
   refine wk ?_
   refine wk ?_
   refine wk ?_
   refine wk ?_
   refine wk ?_
   refine wv (vpT rfl) ?_
   refine wm ?_
   refine wk ?_
   refine wk ?_
   refine wk ?_
   refine wk ?_
   refine wk ?_
   refine wv (vpT rfl) ?_
   refine wm ?_
   refine wk ?_
   refine wk ?_
   refine wk ?_
   refine wk ?_
   refine wv (vpT rfl) ?_
   refine wm ?_
   refine wk ?_
   refine wk ?_
   refine wk ?_
   refine wk ?_
   refine wv (vpT rfl) ?_
   refine nt' ?_
   refine CM_condT rfl rfl ?_
   refine sr (wa (nt' (CM_ret (QM_then_ret ?_))))
   exact rtb (h := cond_t g24 (cond_t g26 (rfl)))
  ·have g26 := beq_eq_false_iff_ne.2 h25
   refine wg vmv g26 ?_
   refine wg (fun W hm => rv_gtr rfl rfl) g26 ?_
   refine wv (vpF g26) ?_
   refine wm ?_
   by_cases h27 : 8 < ((x0.Ids.length : Nat) : Int)
   ·have g28 := decide_eq_true h27
    refine ws g28 ?_
    refine ws g28 ?_
    refine ws g28 ?_
    refine ws g28 ?_
    refine ws g28 ?_
    refine wv (vpT g28) ?_
    refine wm ?_
    refine wk ?_
    refine wk ?_
    refine wk ?_
    refine wk ?_
    refine wk ?_
    refine wv (vpT rfl) ?_
    refine wm ?_
    refine wk ?_
    refine wk ?_
    refine wk ?_
    refine wk ?_
    refine wv (vpT rfl) ?_
    refine wm ?_
    refine wk ?_
    refine wk ?_
    refine wk ?_
    refine wk ?_
    refine wv (vpT rfl) ?_
    refine nt' ?_
    refine CM_condT rfl rfl ?_
    refine sr (wa (nt' (CM_ret (QM_then_ret ?_))))
    exact rtb (h := cond_t g24 (cond_f g26 (cond_t g28 (rfl))))
   ·have g28 := decide_eq_false h27
    refine wg (vf underlying33 rfl type28) g28 ?_
    refine wg (vl 0 3 underlying28) g28 ?_
    refine wg (vlen underlying28) g28 ?_
    refine wg vmv g28 ?_
    refine wg vneq g28 ?_
    refine wv (vpF g28) ?_
    refine wm ?_
    by_cases h29 : ((x0.Tenants.length : Nat) : Int) = ((x0.Ids.length : Nat) : Int)
    ·have g30 : (((x0.Tenants.length : Nat) : Int) != ((x0.Ids.length : Nat) : Int)) = false := by rw [h29]; exact bne_self_eq_false _
     refine wg (vf underlying33 rfl type28) g30 ?_
     refine wg (vl 0 4 underlying28) g30 ?_
     refine wg (vlen underlying28) g30 ?_
     refine wg vmv g30 ?_
     refine wg vneq g30 ?_
     refine wv (vpF g30) ?_
     refine wm ?_
     by_cases h31 : ((x0.Rows.length : Nat) : Int) = ((x0.Ids.length : Nat) : Int)
     ·have g32 : (((x0.Rows.length : Nat) : Int) != ((x0.Ids.length : Nat) : Int)) = false := by rw [h31]; exact bne_self_eq_false _
      refine wg (vf underlying33 rfl type3) g32 ?_
      refine wg (vl 0 0 underlying3) g32 ?_
      refine WM_callV (cl_fn cb48 rfl) (fun W hm => spec_l1In_c W x0.Segment 0 7) (Wd_some rfl rfl rfl (bw g32 rfl)) (by decide) ?_
      refine wg vnot g32 ?_
      refine wv (vpF g32) ?_
      refine wm ?_
      rcases Bool.eq_false_or_eq_true (spec_l1In_m x0.Segment 0 7) with g34 | g34
      ·
       have hw := spec_l1In_fact g34
       refine wg (vf underlying33 rfl type3) (nt g34) ?_
       refine wg (vl 0 1 underlying3) (nt g34) ?_
       refine WM_callV (cl_fn cb48 rfl) (fun W hm => spec_l1In_c W x0.Base 0 4) (Wd_some rfl rfl rfl (bw (nt g34) rfl)) (by decide) ?_
       refine wg vnot (nt g34) ?_
       refine wv (vpF (nt g34)) ?_
       refine nt' ?_
       rcases Bool.eq_false_or_eq_true (spec_l1In_m x0.Base 0 4) with g36 | g36
       ·
        have hw := spec_l1In_fact g36
        refine CM_condF rfl (nt g36) ?_
        refine CM_skip (QM_then (CM_seq (sr (wa (nt' (CM_block ?_))))))
        let F1 := fun k (_ : Unit) => spec_IsCharge_b1 x0 k
        let R2 := rng (R := Bool) F1
        let K3 : List Value := [.int .i64 x0.Segment, .int .i64 x0.Base, .slice A8 x0.Ids.length c9, .slice A13 x0.Tenants.length c14, .slice A18 x0.Rows.length c19]
        refine CM_loop (σ := Nat × (Unit) × (Unit)) (fun s => [(1, .pointer (some (⟨p22, 0, none⟩ : Addr))), (3, .int .i64 ((x0.Ids.length : Nat) : Int)), (4, .int .i64 ((s.1 : Nat) : Int))]) (fun s => [iBox p22 33 K3]) (fun s => s.1 ≤ x0.Ids.length ∧ R2 (x0.Ids.length - s.1) s.1 s.2.1 = R2 (x0.Ids.length - 0) 0 ()) (fun s => x0.Ids.length - s.1) (0, (), ()) sl3 (fun W hm => hm) ⟨(by omega), rfl⟩ ?_
        rintro ⟨k37, ⟨⟩, ⟨⟩⟩ H40
        obtain ⟨hk38, hF39⟩ : k37 ≤ x0.Ids.length ∧ R2 (x0.Ids.length - k37) k37 () = R2 (x0.Ids.length - 0) 0 () := H40
        show CM Tryd.prog 69 _ _ _ _ [(1, .pointer (some (⟨p22, 0, none⟩ : Addr))), (3, .int .i64 ((x0.Ids.length : Nat) : Int)), (4, .int .i64 ((k37 : Nat) : Int))] [iBox p22 33 K3]
        refine CM_seq (sr (wm (wm ?_)))
        refine wv vlss ?_
        refine nt' ?_
        by_cases hl41 : k37 < x0.Ids.length
        ·have g42 := dlT hl41
         refine CM_condT rfl g42 ?_
         refine CM_skip (QM_then (CM_seq (CM_block (CM_seq ?_))))
         refine CM_regionD (by kernel_rfl) (by kernel_rfl) ?_
         refine qv (vf underlying33 rfl type28) ?_
         refine qv (vl 0 3 underlying28) ?_
         refine qm ?_
         obtain ⟨a43, rfl, hb44, he45⟩ := q15 (by omega)
         refine qv (vix 1 k37 underlying28 type3) ?_
         refine qv (fun W hm => rv_load underlying3 rfl rfl ((hm.cell0 (show (a43.add (k37 * 1)).block < w.heap.size from by rw [add_block]; exact hb44.1)).trans (rdS_int he45 k37 (by omega)))) ?_
         refine QR_callV (cl_fn cb48 rfl) (fun W hm => spec_l1In_c W (gt x0.Tenants k37) 0 3) (Wd_none rfl) (by decide) ?_
         refine qv vnot ?_
         refine qm ?_
         rcases Bool.eq_false_or_eq_true (spec_l1In_m (gt x0.Tenants k37) 0 3) with g47 | g47
         ·
          have hw := spec_l1In_fact g47
          refine qg (vf underlying33 rfl type28) (nt g47) ?_
          refine qg (vl 0 4 underlying28) (nt g47) ?_
          refine qg vmv (nt g47) ?_
          obtain ⟨a48, rfl, hb49, he50⟩ := q20 (by omega)
          refine qg (vix 1 k37 underlying28 type3) (nt g47) ?_
          refine qg (fun W hm => rv_load underlying3 rfl rfl ((hm.cell0 (show (a48.add (k37 * 1)).block < w.heap.size from by rw [add_block]; exact hb49.1)).trans (rdS_int he50 k37 (by omega)))) (nt g47) ?_
          refine qg (vf underlying33 rfl type3) (nt g47) ?_
          refine qg (vl 0 1 underlying3) (nt g47) ?_
          refine QR_callV (cl_fn cb48 rfl) (fun W hm => spec_l1In_c W (gt x0.Rows k37) 0 x0.Base) (Wd_some rfl rfl rfl (bw (nt g47) rfl)) (by decide) ?_
          refine qg vnot (nt g47) ?_
          refine qv (vpF (nt g47)) ?_
          refine nq' ?_
          rcases Bool.eq_false_or_eq_true (spec_l1In_m (gt x0.Rows k37) 0 x0.Base) with g52 | g52
          ·
           have hw := spec_l1In_fact g52
           refine CM_condF rfl (nt g52) ?_
           refine CM_skip (QM_block_normal (QM_then (CM_region (wm ?_))))
           refine wv (vadN k37 1 (by omega)) ?_
           refine wa (WM_nil ?_)
           have hn53 := rng_next (R := Bool) (body := F1) (k := k37) (s := ()) (s' := ()) (show k37 < x0.Ids.length from by omega) (cond_t g47 (cond_t g52 (rfl))) hF39
           exact QM_round (k37 + 1, (), ()) sl3 (fun W hm => hm) ⟨(by omega), hn53⟩ (rl (by omega))
          ·
           refine CM_condT rfl (nf g52) ?_
           refine sr (wa (nt' (CM_ret (QM_block_ret (QM_then_ret (QM_then_ret (QM_block_ret (QM_then_ret ?_))))))))
           exact rtb (h := cond_t g24 (cond_f g26 (cond_f g28 (cond_f g30 (cond_f g32 (cond_t g34 (cond_t g36 (fin_inl (rng_ret (body := F1) (k := k37) (s := ()) (show k37 < x0.Ids.length from by omega) (cond_t g47 (cond_f g52 (rfl))) hF39) rfl))))))))
         ·
          refine qs (nf g47) ?_
          refine qs (nf g47) ?_
          refine qs (nf g47) ?_
          refine qs (nf g47) ?_
          refine qs (nf g47) ?_
          refine qs (nf g47) ?_
          refine qs (nf g47) ?_
          refine qs (nf g47) ?_
          refine qs (nf g47) ?_
          refine qv (vpT (nf g47)) ?_
          refine nq' ?_
          refine CM_condT rfl rfl ?_
          refine sr (wa (nt' (CM_ret (QM_block_ret (QM_then_ret (QM_then_ret (QM_block_ret (QM_then_ret ?_))))))))
          exact rtb (h := cond_t g24 (cond_f g26 (cond_f g28 (cond_f g30 (cond_f g32 (cond_t g34 (cond_t g36 (fin_inl (rng_ret (body := F1) (k := k37) (s := ()) (show k37 < x0.Ids.length from by omega) (cond_f g47 (rfl)) hF39) rfl))))))))
        ·have g42 := dlF hl41
         refine CM_condF rfl g42 ?_
         refine CM_exit (QM_then_exit (QM_then_exit ?_))
         have hE54 : R2 (x0.Ids.length - 0) 0 () = Sum.inr () := rng_end hl41 hF39
         refine QM_block_hit (QM_then (sr (wa (nt' (CM_ret ?_)))))
         exact rtb (h := cond_t g24 (cond_f g26 (cond_f g28 (cond_f g30 (cond_f g32 (cond_t g34 (cond_t g36 (fin_inr hE54 (rfl)))))))))
       ·
        refine CM_condT rfl (nf g36) ?_
        refine sr (wa (nt' (CM_ret (QM_then_ret ?_))))
        exact rtb (h := cond_t g24 (cond_f g26 (cond_f g28 (cond_f g30 (cond_f g32 (cond_t g34 (cond_f g36 (rfl))))))))
      ·
       refine ws (nf g34) ?_
       refine ws (nf g34) ?_
       refine ws (nf g34) ?_
       refine ws (nf g34) ?_
       refine wv (vpT (nf g34)) ?_
       refine nt' ?_
       refine CM_condT rfl rfl ?_
       refine sr (wa (nt' (CM_ret (QM_then_ret ?_))))
       exact rtb (h := cond_t g24 (cond_f g26 (cond_f g28 (cond_f g30 (cond_f g32 (cond_f g34 (rfl)))))))
     ·have g32 : (((x0.Rows.length : Nat) : Int) != ((x0.Ids.length : Nat) : Int)) = true := bne_iff_ne.2 h31
      refine ws g32 ?_
      refine ws g32 ?_
      refine ws g32 ?_
      refine ws g32 ?_
      refine wv (vpT g32) ?_
      refine wm ?_
      refine wk ?_
      refine wk ?_
      refine wk ?_
      refine wk ?_
      refine wv (vpT rfl) ?_
      refine nt' ?_
      refine CM_condT rfl rfl ?_
      refine sr (wa (nt' (CM_ret (QM_then_ret ?_))))
      exact rtb (h := cond_t g24 (cond_f g26 (cond_f g28 (cond_f g30 (cond_t g32 (rfl))))))
    ·have g30 : (((x0.Tenants.length : Nat) : Int) != ((x0.Ids.length : Nat) : Int)) = true := bne_iff_ne.2 h29
     refine ws g30 ?_
     refine ws g30 ?_
     refine ws g30 ?_
     refine ws g30 ?_
     refine ws g30 ?_
     refine wv (vpT g30) ?_
     refine wm ?_
     refine wk ?_
     refine wk ?_
     refine wk ?_
     refine wk ?_
     refine wv (vpT rfl) ?_
     refine wm ?_
     refine wk ?_
     refine wk ?_
     refine wk ?_
     refine wk ?_
     refine wv (vpT rfl) ?_
     refine nt' ?_
     refine CM_condT rfl rfl ?_
     refine sr (wa (nt' (CM_ret (QM_then_ret ?_))))
     exact rtb (h := cond_t g24 (cond_f g26 (cond_f g28 (cond_t g30 (rfl)))))
 ·
  refine ws (nf g24) ?_
  refine ws (nf g24) ?_
  refine wv (vpT (nf g24)) ?_
  refine wm ?_
  refine wk ?_
  refine wk ?_
  refine wv (vpT rfl) ?_
  refine wm ?_
  refine wk ?_
  refine wk ?_
  refine wk ?_
  refine wk ?_
  refine wk ?_
  refine wv (vpT rfl) ?_
  refine wm ?_
  refine wk ?_
  refine wk ?_
  refine wk ?_
  refine wk ?_
  refine wk ?_
  refine wv (vpT rfl) ?_
  refine wm ?_
  refine wk ?_
  refine wk ?_
  refine wk ?_
  refine wk ?_
  refine wv (vpT rfl) ?_
  refine wm ?_
  refine wk ?_
  refine wk ?_
  refine wk ?_
  refine wk ?_
  refine wv (vpT rfl) ?_
  refine nt' ?_
  refine CM_condT rfl rfl ?_
  refine sr (wa (nt' (CM_ret (QM_then_ret ?_))))
  exact rtb (h := cond_f g24 (rfl))

theorem spec_IsCharge_fact {x : DCharge} (h : spec_IsCharge_m x = true) : 1 ≤ x.Ids.length ∧ x.Tenants.length = x.Ids.length ∧ x.Rows.length = x.Ids.length := by
  unfold spec_IsCharge_m at h
  cases h1 : spec_IsSet_m x.Ids <;> rw [h1] at h
  · cases h
  by_cases h2 : ((x.Ids.length : Nat) : Int) = 0
  · rw [beq_iff_eq.2 h2] at h
    cases h
  · by_cases h3 : ((x.Tenants.length : Nat) : Int) = ((x.Ids.length : Nat) : Int)
    · by_cases h4 : ((x.Rows.length : Nat) : Int) = ((x.Ids.length : Nat) : Int)
      · omega
      · rw [bne_iff_ne.2 h4] at h
        revert h
        cases (((x.Ids.length : Nat) : Int) == 0) <;> cases decide (8 < ((x.Ids.length : Nat) : Int)) <;> cases (((x.Tenants.length : Nat) : Int) != ((x.Ids.length : Nat) : Int)) <;> intro h <;> cases h
    · rw [bne_iff_ne.2 h3] at h
      revert h
      cases (((x.Ids.length : Nat) : Int) == 0) <;> cases decide (8 < ((x.Ids.length : Nat) : Int)) <;> intro h <;> cases h

def spec_FormatInt_b1 (k3 : Nat) (s4 : Int) (s5 : ByteArray) : ByteArray ⊕ ((Int × ByteArray) ⊕ (Int × ByteArray)) :=
 cond (s4 != 0) (cond (decide ((Int.tmod s4 10) < 0)) (Sum.inr (Sum.inr ((IntKind.i64.wrap (Int.tdiv s4 10)), ((sB [u8c (IntKind.u8.wrap (IntKind.i64.wrap (48 + (IntKind.i64.wrap (-(Int.tmod s4 10))))))]) ++ s5)))) (Sum.inr (Sum.inr ((IntKind.i64.wrap (Int.tdiv s4 10)), ((sB [u8c (IntKind.u8.wrap (IntKind.i64.wrap (48 + (Int.tmod s4 10))))]) ++ s5))))) (Sum.inr (Sum.inl (s4, s5)))
def spec_FormatInt_m (x0 : Int) : ByteArray :=
 cond (x0 == 0) (sB [48]) (Sum.elim id (fun (s : Int × ByteArray) => cond (decide (x0 < 0)) ((sB [45]) ++ s.2) s.2) (rngb (R := ByteArray) (fun k (s : Int × ByteArray) => spec_FormatInt_b1 k s.1 s.2) ((x0).natAbs + 1 - 0) 0 (x0, (sB []))))
def digN (n : Nat) : List UInt8 :=
 if h : n = 0 then [] else digN (n / 10) ++ [UInt8.ofNat (48 + n % 10)]
termination_by n
decreasing_by omega
theorem digN_pos {n : Nat} (h : 0 < n) : digN n = Lib.decDigits n := by
 induction n using Nat.strongRecOn with
 | _ n ih =>
  rw [digN, dif_neg (by omega), Lib.decDigits]
  by_cases h10 : n < 10
  ·rw [dif_pos h10, show n / 10 = 0 by omega, digN, dif_pos rfl, Nat.mod_eq_of_lt h10]
   rfl
  ·rw [dif_neg h10, ih (n / 10) (by omega) (by omega)]
theorem u8c_dig {d : Int} {m : Nat} (hm : m < 10) (h : d = ((m : Nat) : Int)) : u8c (IntKind.u8.wrap (IntKind.i64.wrap (48 + d))) = UInt8.ofNat (48 + m) := by
 subst h
 have h1 : IntKind.i64.wrap (48 + ((m : Nat) : Int)) = 48 + ((m : Nat) : Int) := wrap_id (by omega) (by omega)
 have h2 : IntKind.u8.wrap (48 + ((m : Nat) : Int)) = 48 + ((m : Nat) : Int) := by simp only [IntKind.wrap_u8]; omega
 rw [h1, h2]
 unfold u8c
 rw [show (48 + ((m : Nat) : Int)).toNat = 48 + m by omega]
theorem spec_FormatInt_step (n : Int) (out : List UInt8) (k : Nat) (h0 : n ≠ 0) (hr : -9223372036854775808 ≤ n ∧ n ≤ 9223372036854775807) : spec_FormatInt_b1 k n (sB out) = .inr (.inr (Int.tdiv n 10, sB (UInt8.ofNat (48 + n.natAbs % 10) :: out))) := by
 unfold spec_FormatInt_b1
 rw [bne_iff_ne.2 h0, cond_true, (tdv10 hr).1]
 have hm : (Int.tmod n 10).natAbs = n.natAbs % 10 := by rw [Int.natAbs_tmod]; rfl
 by_cases hn : Int.tmod n 10 < 0
 ·rw [decide_eq_true hn, cond_true, sB_app, wrap_id (n := -(Int.tmod n 10)) (by omega) (by omega), u8c_dig (m := n.natAbs % 10) (by omega) (by omega)]
  rfl
 ·rw [decide_eq_false hn, cond_false, sB_app, u8c_dig (m := n.natAbs % 10) (by omega) (by omega)]
  rfl
theorem spec_FormatInt_loop : ∀ (m k : Nat) (n : Int) (out : List UInt8), n.natAbs < m → (-9223372036854775808 ≤ n ∧ n ≤ 9223372036854775807) → rngb (R := ByteArray) (fun k (s : Int × ByteArray) => spec_FormatInt_b1 k s.1 s.2) m k (n, sB out) = .inr (0, sB (digN n.natAbs ++ out))
 | 0, _, n, _, h, _ => by omega
 | m + 1, k, n, out, h, hr => by
  rw [rngb]
  by_cases h0 : n = 0
  ·subst h0
   rw [show (0 : Int).natAbs = 0 from rfl, digN, dif_pos rfl]
   rfl
  ·show Sum.elim _ _ (spec_FormatInt_b1 k n (sB out)) = _
   rw [spec_FormatInt_step n out k h0 hr]
   have h2 := (tdv10 hr).2
   have ih := spec_FormatInt_loop m (k + 1) (Int.tdiv n 10) (UInt8.ofNat (48 + n.natAbs % 10) :: out) (by omega) (by omega)
   show rngb _ m (k + 1) (Int.tdiv n 10, sB (UInt8.ofNat (48 + n.natAbs % 10) :: out)) = _
   rw [ih, h2]
   have e : digN n.natAbs = digN (n.natAbs / 10) ++ [UInt8.ofNat (48 + n.natAbs % 10)] := by rw [digN, dif_neg (by omega)]
   rw [e, List.append_assoc]
   rfl
theorem spec_FormatInt_out {x : Int} (h : -9223372036854775808 ≤ x ∧ x ≤ 9223372036854775807) {a : Int} {b : ByteArray} (hE : rngb (R := ByteArray) (fun k (s : Int × ByteArray) => spec_FormatInt_b1 k s.1 s.2) (x.natAbs + 1 - 0) 0 (x, sB []) = .inr (a, b)) : b.size ≤ 20 := by
 rw [spec_FormatInt_loop (x.natAbs + 1 - 0) 0 x [] (by omega) h, List.append_nil] at hE
 cases hE
 show (sB (digN x.natAbs)).size ≤ 20
 rw [sB_size]
 by_cases h0 : 0 < x.natAbs
 ·rw [digN_pos h0, Lib.decDigits_length]
  exact Lib.nDigits_le20 _ (by omega)
 ·rw [show x.natAbs = 0 by omega, digN, dif_pos rfl]
  exact Nat.zero_le _
theorem cb49 : Cb Tryd.prog 49 := ⟨f49, _, func49, rfl, by decide⟩
theorem spec_FormatInt_c (w : World) (x0 : Int) (hr : -9223372036854775808 ≤ x0 ∧ x0 ≤ 9223372036854775807) :
  Calls Tryd.prog 49 #[.int .i64 x0] w fun e w' => e = .returned (.string (spec_FormatInt_m x0)) ∧ Below w.heap.size w w' := by
 refine ce1 (L := [(0, .int .i64 x0)]) (N := 31) func49 ?_
 refine sr (wa (nt' (CM_seq (sr (wm ?_)))))
 refine wv (fun W hm => rv_eql rfl rfl) ?_
 refine nt' ?_
 by_cases h1 : x0 = 0
 ·have g2 := beq_iff_eq.2 h1
  refine CM_condT rfl g2 ?_
  refine sr (wa (nt' (CM_ret (QM_then_ret ?_))))
  exact QM_ret1 rfl rfl (fun W hm => ⟨ret_s (show spec_FormatInt_m x0 = (sB [48]) from cond_t g2 (rfl)), hm.below⟩)
 ·have g2 := beq_eq_false_iff_ne.2 h1
  refine CM_condF rfl g2 ?_
  refine CM_skip (QM_then (sr (wa (nt' (sr (wm ?_))))))
  refine wv vlss ?_
  refine wa (nt' (CM_seq ?_))
  let F1 := fun k (s : Int × ByteArray) => spec_FormatInt_b1 k s.1 s.2
  let R2 := rngb (R := ByteArray) F1
  refine CM_cut (σ := (Int × ByteArray) × (Unit)) (fun s => [(3, .string s.1.2), (4, .bool (decide (x0 < 0)))]) (fun s => []) (fun s => R2 ((x0).natAbs + 1 - 0) 0 (x0, (sB [])) = Sum.inr s.1) ?_ ?_
  ·
   refine CM_block ?_
   refine CM_loop (σ := Nat × (Int × ByteArray) × (Unit)) (fun s => [(0, .int .i64 s.2.1.1), (3, .string s.2.1.2), (4, .bool (decide (x0 < 0)))]) (fun s => []) (fun s => s.1 + ((s.2.1.1).natAbs) + 1 ≤ (x0).natAbs + 1 ∧ R2 ((x0).natAbs + 1 - s.1) s.1 s.2.1 = R2 ((x0).natAbs + 1 - 0) 0 (x0, (sB [])) ∧ -9223372036854775808 ≤ s.2.1.1 ∧ s.2.1.1 ≤ 9223372036854775807 ∧ (s.2.1.2.size = 0 ∨ s.2.1.2.size + (s.2.1.1).natAbs ≤ 922337203685477582)) (fun s => (x0).natAbs + 1 - s.1) (0, (x0, (sB [])), ()) sl3 (fun W hm => hm) ⟨(show 0 + ((x0).natAbs) + 1 ≤ (x0).natAbs + 1 from by omega), rfl, (show -9223372036854775808 ≤ x0 from by omega), (show x0 ≤ 9223372036854775807 from by omega), (show ((sB []).size = 0 ∨ (sB []).size + (x0).natAbs ≤ 922337203685477582) from by (left; rfl))⟩ ?_
   rintro ⟨k3, ⟨s4, s5⟩, ⟨⟩⟩ H8
   obtain ⟨hk6, hF7, hi9, hi10, hi11⟩ : k3 + ((s4).natAbs) + 1 ≤ (x0).natAbs + 1 ∧ R2 ((x0).natAbs + 1 - k3) k3 (s4, s5) = R2 ((x0).natAbs + 1 - 0) 0 (x0, (sB [])) ∧ -9223372036854775808 ≤ s4 ∧ s4 ≤ 9223372036854775807 ∧ (s5.size = 0 ∨ s5.size + (s4).natAbs ≤ 922337203685477582) := H8
   show CM Tryd.prog 31 _ _ _ _ [(0, .int .i64 s4), (3, .string s5), (4, .bool (decide (x0 < 0)))] []
   refine CM_seq (sr (wm ?_))
   refine wv vneq ?_
   refine nt' ?_
   by_cases h12 : s4 = 0
   ·have g13 : (s4 != 0) = false := by rw [h12]; exact bne_self_eq_false _
    refine CM_condF rfl g13 ?_
    refine CM_exit (QM_then_exit (QM_then_exit (QM_block_hit ?_)))
    have hE14 := rngb_brk (R := ByteArray) (body := F1) (k := k3) (s := (s4, s5)) (s' := (s4, s5)) (show k3 < (x0).natAbs + 1 from by omega) (cond_f g13 (rfl)) hF7
    exact QM_cut_normal ((s4, s5), ()) sl2 (fun W hm => hm) hE14
   ·have g13 : (s4 != 0) = true := bne_iff_ne.2 h12
    refine CM_condT rfl g13 ?_
    refine CM_skip (QM_then (CM_block (sr (wm ?_))))
    refine wv (fun W hm => rv_rem rfl rfl (by omega)) ?_
    refine wa (nt' (CM_seq (sr (wm ?_))))
    refine wv vlss ?_
    refine nt' ?_
    by_cases h15 : (Int.tmod s4 10) < 0
    ·have g16 := decide_eq_true h15
     refine CM_condT rfl g16 ?_
     refine CM_region (wm ?_)
     refine wv (fun W hm => rv_neg rfl) ?_
     refine wa (nt' (sr (wm ?_)))
     refine wv vadd ?_
     refine wv (fun W hm => rv_convU8 underlying3 underlying5 rfl) ?_
     refine WM_build (cs := [.int .u8 (IntKind.u8.wrap (IntKind.i64.wrap (48 + (IntKind.i64.wrap (-(Int.tmod s4 10))))))]) underlying49 type5 rfl (by decide) (by decide) rfl (by kernel_rfl) (Wd_none rfl) (by decide) (fun p17 => ?_)
     refine wv (fun W hm => rv_byteS hm (i := 0) rfl underlying49 underlying5 underlying9 rfl) ?_
     refine wm ?_
     have hz18 : ByteArray.size (sB [u8c (IntKind.u8.wrap (IntKind.i64.wrap (48 + (IntKind.i64.wrap (-(Int.tmod s4 10))))))]) = 1 := rfl
     refine wv (fun W hm => rv_addS (p := (sB [u8c (IntKind.u8.wrap (IntKind.i64.wrap (48 + (IntKind.i64.wrap (-(Int.tmod s4 10))))))])) (q := s5) rfl rfl (by omega)) ?_
     have hz19 := sz_app (sB [u8c (IntKind.u8.wrap (IntKind.i64.wrap (48 + (IntKind.i64.wrap (-(Int.tmod s4 10))))))]) s5
     refine wa (nt' (CM_region (wm ?_)))
     have ht20 := tdv10 (n := s4) (by omega)
     refine wv (fun W hm => rv_quo rfl rfl (by omega)) ?_
     refine wa (WM_nil (QM_block_normal ?_))
     have hn21 := rngb_next (R := ByteArray) (body := F1) (k := k3) (s := (s4, s5)) (s' := ((IntKind.i64.wrap (Int.tdiv s4 10)), ((sB [u8c (IntKind.u8.wrap (IntKind.i64.wrap (48 + (IntKind.i64.wrap (-(Int.tmod s4 10))))))]) ++ s5))) (show k3 < (x0).natAbs + 1 from by omega) (cond_t g13 (cond_t g16 (rfl))) hF7
     exact QM_round (k3 + 1, ((IntKind.i64.wrap (Int.tdiv s4 10)), ((sB [u8c (IntKind.u8.wrap (IntKind.i64.wrap (48 + (IntKind.i64.wrap (-(Int.tmod s4 10))))))]) ++ s5)), ()) sl3 (pk []) ⟨(show (k3 + 1) + (((IntKind.i64.wrap (Int.tdiv s4 10))).natAbs) + 1 ≤ (x0).natAbs + 1 from by omega), hn21, (show -9223372036854775808 ≤ (IntKind.i64.wrap (Int.tdiv s4 10)) from by first | omega | (simp only [List.length_append, List.length_cons, List.length_nil] at *; omega)), (show (IntKind.i64.wrap (Int.tdiv s4 10)) ≤ 9223372036854775807 from by first | omega | (simp only [List.length_append, List.length_cons, List.length_nil] at *; omega)), (show (((sB [u8c (IntKind.u8.wrap (IntKind.i64.wrap (48 + (IntKind.i64.wrap (-(Int.tmod s4 10))))))]) ++ s5).size = 0 ∨ ((sB [u8c (IntKind.u8.wrap (IntKind.i64.wrap (48 + (IntKind.i64.wrap (-(Int.tmod s4 10))))))]) ++ s5).size + ((IntKind.i64.wrap (Int.tdiv s4 10))).natAbs ≤ 922337203685477582) from by first | omega | (simp only [List.length_append, List.length_cons, List.length_nil] at *; omega))⟩ (show (x0).natAbs + 1 - (k3 + 1) < (x0).natAbs + 1 - k3 from by omega)
    ·have g16 := decide_eq_false h15
     refine CM_condF rfl g16 ?_
     refine CM_skip (QM_then (sr (wm ?_)))
     refine wv vadd ?_
     refine wv (fun W hm => rv_convU8 underlying3 underlying5 rfl) ?_
     refine WM_build (cs := [.int .u8 (IntKind.u8.wrap (IntKind.i64.wrap (48 + (Int.tmod s4 10))))]) underlying49 type5 rfl (by decide) (by decide) rfl (by kernel_rfl) (Wd_none rfl) (by decide) (fun p22 => ?_)
     refine wv (fun W hm => rv_byteS hm (i := 0) rfl underlying49 underlying5 underlying9 rfl) ?_
     refine wm ?_
     have hz23 : ByteArray.size (sB [u8c (IntKind.u8.wrap (IntKind.i64.wrap (48 + (Int.tmod s4 10))))]) = 1 := rfl
     refine wv (fun W hm => rv_addS (p := (sB [u8c (IntKind.u8.wrap (IntKind.i64.wrap (48 + (Int.tmod s4 10))))])) (q := s5) rfl rfl (by omega)) ?_
     have hz24 := sz_app (sB [u8c (IntKind.u8.wrap (IntKind.i64.wrap (48 + (Int.tmod s4 10))))]) s5
     refine wa (nt' (CM_region (wm ?_)))
     have ht25 := tdv10 (n := s4) (by omega)
     refine wv (fun W hm => rv_quo rfl rfl (by omega)) ?_
     refine wa (WM_nil (QM_block_normal ?_))
     have hn26 := rngb_next (R := ByteArray) (body := F1) (k := k3) (s := (s4, s5)) (s' := ((IntKind.i64.wrap (Int.tdiv s4 10)), ((sB [u8c (IntKind.u8.wrap (IntKind.i64.wrap (48 + (Int.tmod s4 10))))]) ++ s5))) (show k3 < (x0).natAbs + 1 from by omega) (cond_t g13 (cond_f g16 (rfl))) hF7
     exact QM_round (k3 + 1, ((IntKind.i64.wrap (Int.tdiv s4 10)), ((sB [u8c (IntKind.u8.wrap (IntKind.i64.wrap (48 + (Int.tmod s4 10))))]) ++ s5)), ()) sl3 (pk []) ⟨(show (k3 + 1) + (((IntKind.i64.wrap (Int.tdiv s4 10))).natAbs) + 1 ≤ (x0).natAbs + 1 from by omega), hn26, (show -9223372036854775808 ≤ (IntKind.i64.wrap (Int.tdiv s4 10)) from by first | omega | (simp only [List.length_append, List.length_cons, List.length_nil] at *; omega)), (show (IntKind.i64.wrap (Int.tdiv s4 10)) ≤ 9223372036854775807 from by first | omega | (simp only [List.length_append, List.length_cons, List.length_nil] at *; omega)), (show (((sB [u8c (IntKind.u8.wrap (IntKind.i64.wrap (48 + (Int.tmod s4 10))))]) ++ s5).size = 0 ∨ ((sB [u8c (IntKind.u8.wrap (IntKind.i64.wrap (48 + (Int.tmod s4 10))))]) ++ s5).size + ((IntKind.i64.wrap (Int.tdiv s4 10))).natAbs ≤ 922337203685477582) from by first | omega | (simp only [List.length_append, List.length_cons, List.length_nil] at *; omega))⟩ (show (x0).natAbs + 1 - (k3 + 1) < (x0).natAbs + 1 - k3 from by omega)
  ·
   rintro ⟨⟨s4, s5⟩, ⟨⟩⟩ H28
   have hE27 : R2 ((x0).natAbs + 1 - 0) 0 (x0, (sB [])) = Sum.inr (s4, s5) := H28
   have hzo := spec_FormatInt_out hr hE27
   show QM 31 _ _ _ .normal [(3, .string s5), (4, .bool (decide (x0 < 0)))] []
   refine QM_then (CM_seq (sr (wm (nt' ?_))))
   by_cases h29 : x0 < 0
   ·have g30 := decide_eq_true h29
    refine CM_condT rfl g30 ?_
    refine sr (wm ?_)
    have hz31 : ByteArray.size (sB [45]) = 1 := rfl
    refine wv (fun W hm => rv_addS (p := (sB [45])) (q := s5) rfl rfl (by omega)) ?_
    have hz32 := sz_app (sB [45]) s5
    refine wa (nt' (CM_ret (QM_then_ret ?_)))
    exact QM_ret1 rfl rfl (fun W hm => ⟨ret_s (show spec_FormatInt_m x0 = ((sB [45]) ++ s5) from cond_f g2 (fin_inr hE27 (cond_t g30 (rfl)))), hm.below⟩)
   ·have g30 := decide_eq_false h29
    refine CM_condF rfl g30 ?_
    refine CM_skip (QM_then (sr (wm (wa (nt' (CM_ret ?_))))))
    exact QM_ret1 rfl rfl (fun W hm => ⟨ret_s (show spec_FormatInt_m x0 = s5 from cond_f g2 (fin_inr hE27 (cond_f g30 (rfl)))), hm.below⟩)
theorem spec_FormatInt_is (x : Int) (h : -9223372036854775808 ≤ x ∧ x ≤ 9223372036854775807) : spec_FormatInt_m x = itoaB x := by
  unfold spec_FormatInt_m itoaB
  by_cases h0 : x = 0
  · subst h0
    rw [show Lib.itoa 0 = [48] by rw [show (0 : Int) = ((0 : Nat) : Int) from rfl, Lib.itoa_nonneg, Lib.decDigits_one (by omega)]; rfl]
    rfl
  · rw [beq_eq_false_iff_ne.2 h0, cond_false, spec_FormatInt_loop (x.natAbs + 1 - 0) 0 x [] (by omega) h, List.append_nil, digN_pos (by omega)]
    show cond (decide (x < 0)) (sB [45] ++ sB (Lib.decDigits x.natAbs)) (sB (Lib.decDigits x.natAbs)) = _
    by_cases hn : x < 0
    · rw [decide_eq_true hn, cond_true, sB_app, Lib.itoa, if_pos hn]
      rfl
    · rw [decide_eq_false hn, cond_false, Lib.itoa, if_neg hn, show x.natAbs = x.toNat by omega]
theorem spec_FormatInt_sz (x : Int) (h : -9223372036854775808 ≤ x ∧ x ≤ 9223372036854775807) : (spec_FormatInt_m x).size ≤ 21 := by
  rw [spec_FormatInt_is x h]; exact itoaB_sz x h

theorem IsSet_facts {x : List Int} (h : spec_IsSet_m x = true) : x.Pairwise (· < ·) ∧ ∀ y ∈ x, 0 ≤ y ∧ y < 24 := by
  unfold spec_IsSet_m at h
  rw [rng_allN (p := fun k => spec_IsSet_b1 x k == .inr ()) (r := false) (fun k _ => by
    unfold spec_IsSet_b1
    cases spec_l1In_m (gt x k) 0 23 <;> cases decide (0 < ((k : Nat) : Int)) <;> cases decide (gt x k ≤ gt x (k - 1)) <;> rfl), cb_rng, Bool.and_true, List.all_eq_true] at h
  have h1 : ∀ k, k < x.length → (0 ≤ gt x k ∧ gt x k < 24) ∧ (0 < k → gt x (k - 1) < gt x k) := by
    intro k hk
    have h2 := h k (List.mem_range.2 hk)
    unfold spec_IsSet_b1 at h2
    cases h3 : spec_l1In_m (gt x k) 0 23 with
    | false => rw [h3] at h2; cases h2
    | true =>
      have h4 := spec_l1In_fact h3
      refine ⟨by omega, fun hp => ?_⟩
      rw [h3, decide_eq_true (show 0 < ((k : Nat) : Int) by omega)] at h2
      by_cases h5 : gt x k ≤ gt x (k - 1)
      · rw [decide_eq_true h5] at h2; cases h2
      · omega
  refine ⟨adj_rise fun k hp hk => (h1 k hk).2 hp, fun y hy => ?_⟩
  obtain ⟨k, hk, rfl⟩ := List.getElem_of_mem hy
  rw [← gt_at hk]
  exact (h1 k hk).1
theorem cond_tt {a b : Bool} (h : cond a b false = true) : a = true ∧ b = true := by cases a <;> simp_all
theorem cond_ft {a b : Bool} (h : cond a false b = true) : a = false ∧ b = true := by cases a <;> simp_all
theorem spec_Charge_rng {x : DCharge} (h : spec_IsCharge_m x = true) : (x.Ids.length ≤ 24 ∧ x.Rows.length = x.Ids.length ∧ (0 ≤ x.Segment ∧ x.Segment ≤ 7) ∧ (0 ≤ x.Base ∧ x.Base ≤ 4)) ∧ ∀ k, k < x.Ids.length → (0 ≤ gt x.Ids k ∧ gt x.Ids k ≤ 23) ∧ (0 ≤ gt x.Rows k ∧ gt x.Rows k ≤ 4) := by
  unfold spec_IsCharge_m at h
  obtain ⟨h1, h⟩ := cond_tt h
  obtain ⟨_, h⟩ := cond_ft h
  obtain ⟨h3, h⟩ := cond_ft h
  obtain ⟨_, h⟩ := cond_ft h
  obtain ⟨h5, h⟩ := cond_ft h
  obtain ⟨h6, h⟩ := cond_tt h
  obtain ⟨h7, h⟩ := cond_tt h
  rw [rng_allN (p := fun k => spec_l1In_m (gt x.Tenants k) 0 3 && spec_l1In_m (gt x.Rows k) 0 x.Base) (r := false) (fun k _ => by
    unfold spec_IsCharge_b1
    cases spec_l1In_m (gt x.Tenants k) 0 3 <;> cases spec_l1In_m (gt x.Rows k) 0 x.Base <;> rfl)] at h
  have ha : (List.range x.Ids.length).all (fun k => spec_l1In_m (gt x.Tenants k) 0 3 && spec_l1In_m (gt x.Rows k) 0 x.Base) = true := by
    revert h
    cases (List.range x.Ids.length).all (fun k => spec_l1In_m (gt x.Tenants k) 0 3 && spec_l1In_m (gt x.Rows k) 0 x.Base) with
    | true => intro _; rfl
    | false => intro h; cases h
  rw [List.all_eq_true] at ha
  rw [decide_eq_false_iff_not] at h3
  rw [bne_eq_false_iff_eq] at h5
  rw [spec_l1In_iff, decide_eq_true_eq] at h6 h7
  refine ⟨⟨by omega, by omega, h6, h7⟩, fun k hk => ⟨?_, ?_⟩⟩
  · have := (IsSet_facts h1).2 _ (gt_mem hk)
    omega
  · have := ha k (List.mem_range.2 hk)
    rw [Bool.and_eq_true] at this
    have h2 := this.2
    rw [spec_l1In_iff, decide_eq_true_eq] at h2
    omega
def spec_FormatCharge_b1 (x0 : DCharge) (k30 : Nat) (s31 : ByteArray) : ByteArray ⊕ (ByteArray) :=
 Sum.inr ((((s31 ++ (sB [32, 113])) ++ (spec_FormatInt_m (gt x0.Ids k30))) ++ (sB [43])) ++ (spec_FormatInt_m (gt x0.Rows k30)))
def spec_FormatCharge_m (x0 : DCharge) : ByteArray :=
 cond (spec_IsCharge_m x0) (Sum.elim id (fun (s : ByteArray) => s) (rng (R := ByteArray) (fun k (s : ByteArray) => spec_FormatCharge_b1 x0 k s) (x0.Ids.length - 0) 0 (((spec_FormatInt_m x0.Segment) ++ (sB [32, 98, 97, 115, 101, 32])) ++ (spec_FormatInt_m x0.Base)))) (sB [])
theorem cb12 : Cb Tryd.prog 12 := ⟨f12, _, func12, rfl, by decide⟩
theorem spec_FormatCharge_c (w : World) (z0 : List Value) (x0 : DCharge) (r_0 : tyCharge.rd w w.heap.size z0 x0) :
  Calls Tryd.prog 12 #[.agg z0.toArray] w fun e w' => e = .returned (.string (spec_FormatCharge_m x0)) ∧ Below w.heap.size w w' := by
 obtain ⟨v1, v3, v5, rfl, r2, r4, r6⟩ := tyCharge_rd r_0
 obtain ⟨m7, A8, c9, rfl, q10, r11⟩ := rdS_op r2
 obtain ⟨m12, A13, c14, rfl, q15, r16⟩ := rdS_op r4
 obtain ⟨m17, A18, c19, rfl, q20, r21⟩ := rdS_op r6
 refine ce1 (L := [(0, .agg #[.int .i64 x0.Segment, .int .i64 x0.Base, .slice A8 x0.Ids.length c9, .slice A13 x0.Tenants.length c14, .slice A18 x0.Rows.length c19])]) (N := 41) func12 ?_
 refine sr ?_
 refine WM_box rfl (Wd_none rfl) (by decide) (fun p22 => ?_)
 refine wa (nt' (CM_seq (sr ?_)))
 let K3 : List Value := [.int .i64 x0.Segment, .int .i64 x0.Base, .slice A8 x0.Ids.length c9, .slice A13 x0.Tenants.length c14, .slice A18 x0.Rows.length c19]
 refine wv (fun W hm => rv_loadN (cs := K3) underlying33 type33 rfl rfl (hm.boxCells (n := 0) rfl)) ?_
 refine wcv (cl_fn cb27 rfl) (fun W hm => spec_IsCharge_c W _ x0 (tyCharge_mk (x := x0) (hm.rdS0 r11) (hm.rdS0 r16) (hm.rdS0 r21))) ?_
 refine wv vnot ?_
 refine nt' ?_
 rcases Bool.eq_false_or_eq_true (spec_IsCharge_m x0) with g24 | g24
 ·
  have hch := spec_Charge_rng g24
  refine CM_condF rfl (nt g24) ?_
  refine CM_skip (QM_then (CM_seq ?_))
  refine CM_regionD (by kernel_rfl) (by kernel_rfl) ?_
  refine qv (vf underlying33 rfl type3) ?_
  refine qv (vl 0 0 underlying3) ?_
  refine QR_callV (cl_fn cb49 rfl) (fun W hm => spec_FormatInt_c W x0.Segment (⟨by omega, by omega⟩)) (Wd_none rfl) (by decide) ?_
  have hz25 := spec_FormatInt_sz x0.Segment (by omega)
  have hz26 : ByteArray.size (sB [32, 98, 97, 115, 101, 32]) = 6 := rfl
  refine qv (fun W hm => rv_addS (p := (spec_FormatInt_m x0.Segment)) (q := (sB [32, 98, 97, 115, 101, 32])) rfl rfl (by omega)) ?_
  have hz27 := sz_app (spec_FormatInt_m x0.Segment) (sB [32, 98, 97, 115, 101, 32])
  refine qv (vf underlying33 rfl type3) ?_
  refine qv (vl 0 1 underlying3) ?_
  refine QR_callV (cl_fn cb49 rfl) (fun W hm => spec_FormatInt_c W x0.Base (⟨by omega, by omega⟩)) (Wd_none rfl) (by decide) ?_
  have hz28 := spec_FormatInt_sz x0.Base (by omega)
  refine qv (fun W hm => rv_addS (p := ((spec_FormatInt_m x0.Segment) ++ (sB [32, 98, 97, 115, 101, 32]))) (q := (spec_FormatInt_m x0.Base)) rfl rfl (by omega)) ?_
  have hz29 := sz_app ((spec_FormatInt_m x0.Segment) ++ (sB [32, 98, 97, 115, 101, 32])) (spec_FormatInt_m x0.Base)
  refine qv (fun W hm => rv_assign rfl) ?_
  refine nq' (CM_seq (sr (wa (nt' (CM_block ?_)))))
  let F1 := fun k (s : ByteArray) => spec_FormatCharge_b1 x0 k s
  let R2 := rng (R := ByteArray) F1
  refine CM_loop (σ := Nat × (ByteArray) × (Unit)) (fun s => [(1, .pointer (some (⟨p22, 0, none⟩ : Addr))), (3, .string s.2.1), (4, .int .i64 ((s.1 : Nat) : Int))]) (fun s => [iBox p22 33 K3]) (fun s => s.1 ≤ x0.Ids.length ∧ R2 (x0.Ids.length - s.1) s.1 s.2.1 = R2 (x0.Ids.length - 0) 0 (((spec_FormatInt_m x0.Segment) ++ (sB [32, 98, 97, 115, 101, 32])) ++ (spec_FormatInt_m x0.Base)) ∧ s.2.1.size ≤ 60 + 60 * s.1) (fun s => x0.Ids.length - s.1) (0, (((spec_FormatInt_m x0.Segment) ++ (sB [32, 98, 97, 115, 101, 32])) ++ (spec_FormatInt_m x0.Base)), ()) sl3 (fun W hm => hm) ⟨(by omega), rfl, (by dsimp only; omega)⟩ ?_
  rintro ⟨k30, s31, ⟨⟩⟩ H34
  obtain ⟨hk32, hF33, hi35⟩ : k30 ≤ x0.Ids.length ∧ R2 (x0.Ids.length - k30) k30 s31 = R2 (x0.Ids.length - 0) 0 (((spec_FormatInt_m x0.Segment) ++ (sB [32, 98, 97, 115, 101, 32])) ++ (spec_FormatInt_m x0.Base)) ∧ s31.size ≤ 60 + 60 * k30 := H34
  show CM Tryd.prog 41 _ _ _ _ [(1, .pointer (some (⟨p22, 0, none⟩ : Addr))), (3, .string s31), (4, .int .i64 ((k30 : Nat) : Int))] [iBox p22 33 K3]
  refine CM_seq (sr (wm ?_))
  refine wv (vf underlying33 rfl type28) ?_
  refine wv (vl 0 2 underlying28) ?_
  refine wv (vlen underlying28) ?_
  refine wv vlss ?_
  refine nt' ?_
  by_cases hl36 : k30 < x0.Ids.length
  ·have g37 := dlT hl36
   have hck := hch.2 k30 (by omega)
   refine CM_condT rfl g37 ?_
   refine CM_skip (QM_then (CM_seq (CM_block ?_)))
   refine CM_regionD (by kernel_rfl) (by kernel_rfl) ?_
   refine qm ?_
   have hz38 : ByteArray.size (sB [32, 113]) = 2 := rfl
   refine qv (fun W hm => rv_addS (p := s31) (q := (sB [32, 113])) rfl rfl (by omega)) ?_
   have hz39 := sz_app s31 (sB [32, 113])
   refine qv (vf underlying33 rfl type28) ?_
   refine qv (vl 0 2 underlying28) ?_
   refine qm ?_
   obtain ⟨a40, rfl, hb41, he42⟩ := q10 (by omega)
   refine qv (vix 1 k30 underlying28 type3) ?_
   refine qv (fun W hm => rv_load underlying3 rfl rfl ((hm.cell0 (show (a40.add (k30 * 1)).block < w.heap.size from by rw [add_block]; exact hb41.1)).trans (rdS_int he42 k30 (by omega)))) ?_
   refine QR_callV (cl_fn cb49 rfl) (fun W hm => spec_FormatInt_c W (gt x0.Ids k30) (⟨by omega, by omega⟩)) (Wd_none rfl) (by decide) ?_
   have hz43 := spec_FormatInt_sz (gt x0.Ids k30) (by omega)
   refine qv (fun W hm => rv_addS (p := (s31 ++ (sB [32, 113]))) (q := (spec_FormatInt_m (gt x0.Ids k30))) rfl rfl (by omega)) ?_
   have hz44 := sz_app (s31 ++ (sB [32, 113])) (spec_FormatInt_m (gt x0.Ids k30))
   have hz45 : ByteArray.size (sB [43]) = 1 := rfl
   refine qv (fun W hm => rv_addS (p := ((s31 ++ (sB [32, 113])) ++ (spec_FormatInt_m (gt x0.Ids k30)))) (q := (sB [43])) rfl rfl (by omega)) ?_
   have hz46 := sz_app ((s31 ++ (sB [32, 113])) ++ (spec_FormatInt_m (gt x0.Ids k30))) (sB [43])
   refine qv (vf underlying33 rfl type28) ?_
   refine qv (vl 0 4 underlying28) ?_
   refine qm ?_
   obtain ⟨a47, rfl, hb48, he49⟩ := q20 (by omega)
   refine qv (vix 1 k30 underlying28 type3) ?_
   refine qv (fun W hm => rv_load underlying3 rfl rfl ((hm.cell0 (show (a47.add (k30 * 1)).block < w.heap.size from by rw [add_block]; exact hb48.1)).trans (rdS_int he49 k30 (by omega)))) ?_
   refine QR_callV (cl_fn cb49 rfl) (fun W hm => spec_FormatInt_c W (gt x0.Rows k30) (⟨by omega, by omega⟩)) (Wd_none rfl) (by decide) ?_
   have hz50 := spec_FormatInt_sz (gt x0.Rows k30) (by omega)
   refine qv (fun W hm => rv_addS (p := (((s31 ++ (sB [32, 113])) ++ (spec_FormatInt_m (gt x0.Ids k30))) ++ (sB [43]))) (q := (spec_FormatInt_m (gt x0.Rows k30))) rfl rfl (by omega)) ?_
   have hz51 := sz_app (((s31 ++ (sB [32, 113])) ++ (spec_FormatInt_m (gt x0.Ids k30))) ++ (sB [43])) (spec_FormatInt_m (gt x0.Rows k30))
   refine qv (fun W hm => rv_assign rfl) ?_
   refine QR_nil (QM_block_normal (QM_then (CM_region (wm ?_))))
   refine wv (vadN k30 1 (by omega)) ?_
   refine wa (WM_nil ?_)
   have hn52 := rng_next (R := ByteArray) (body := F1) (k := k30) (s := s31) (s' := ((((s31 ++ (sB [32, 113])) ++ (spec_FormatInt_m (gt x0.Ids k30))) ++ (sB [43])) ++ (spec_FormatInt_m (gt x0.Rows k30)))) (show k30 < x0.Ids.length from by omega) (rfl) hF33
   exact QM_round (k30 + 1, ((((s31 ++ (sB [32, 113])) ++ (spec_FormatInt_m (gt x0.Ids k30))) ++ (sB [43])) ++ (spec_FormatInt_m (gt x0.Rows k30))), ()) sl3 (fun W hm => hm) ⟨(by omega), hn52, (show ((((s31 ++ (sB [32, 113])) ++ (spec_FormatInt_m (gt x0.Ids k30))) ++ (sB [43])) ++ (spec_FormatInt_m (gt x0.Rows k30))).size ≤ 60 + 60 * (k30 + 1) from by omega)⟩ (rl (by omega))
  ·have g37 := dlF hl36
   refine CM_condF rfl g37 ?_
   refine CM_exit (QM_then_exit (QM_then_exit ?_))
   have hE53 : R2 (x0.Ids.length - 0) 0 (((spec_FormatInt_m x0.Segment) ++ (sB [32, 98, 97, 115, 101, 32])) ++ (spec_FormatInt_m x0.Base)) = Sum.inr s31 := rng_end hl36 hF33
   refine QM_block_hit (QM_then (sr (wm (wa (nt' (CM_ret ?_))))))
   exact QM_ret1 rfl rfl (fun W hm => ⟨ret_s (show spec_FormatCharge_m x0 = s31 from cond_t g24 (fin_inr hE53 (rfl))), hm.below⟩)
 ·
  refine CM_condT rfl (nf g24) ?_
  refine sr (wa (nt' (CM_ret (QM_then_ret ?_))))
  exact QM_ret1 rfl rfl (fun W hm => ⟨ret_s (show spec_FormatCharge_m x0 = (sB []) from cond_f g24 (rfl)), hm.below⟩)

def impl_IsSet_b1 (x0 : (List Int)) (k6 : Nat) : Bool ⊕ (Unit) :=
 cond (decide ((gt x0 k6) < 0)) (Sum.inl false) (cond (decide (24 ≤ (gt x0 k6))) (Sum.inl false) (cond (decide (0 < ((k6 : Nat) : Int))) (cond (decide ((gt x0 k6) ≤ (gt x0 (k6 - 1)))) (Sum.inl false) (Sum.inr ())) (Sum.inr ())))
def impl_IsSet_m (x0 : (List Int)) : Bool :=
 Sum.elim id (fun (s : Unit) => true) (rng (R := Bool) (fun k (_ : Unit) => impl_IsSet_b1 x0 k) (x0.length - 0) 0 ())
theorem cb65 : Cb Tryd.prog 65 := ⟨f65, _, func65, rfl, by decide⟩
theorem impl_IsSet_c (w : World) (z0 : Value) (x0 : (List Int)) (r_0 : rdS tInt w w.heap.size z0 x0) :
  Calls Tryd.prog 65 #[z0] w fun e w' => e = .returned (.bool (impl_IsSet_m x0)) ∧ Below w.heap.size w w' := by
 obtain ⟨m1, A2, c3, rfl, q4, r5⟩ := rdS_op r_0
 refine ce1 (L := [(0, .slice A2 x0.length c3)]) (N := 32) func65 ?_
 refine sr (wa (nt' (CM_seq (sr (wm ?_)))))
 refine wv (vlen underlying28) ?_
 refine wm (nt' (CM_block ?_))
 let F1 := fun k (_ : Unit) => impl_IsSet_b1 x0 k
 let R2 := rng (R := Bool) F1
 refine CM_loop (σ := Nat × (Unit) × (Unit)) (fun s => [(0, .slice A2 x0.length c3), (5, .slice A2 x0.length c3), (6, .int .i64 ((x0.length : Nat) : Int)), (7, .int .i64 ((s.1 : Nat) : Int))]) (fun s => []) (fun s => s.1 ≤ x0.length ∧ R2 (x0.length - s.1) s.1 s.2.1 = R2 (x0.length - 0) 0 ()) (fun s => x0.length - s.1) (0, (), ()) sl4 (fun W hm => hm) ⟨(by omega), rfl⟩ ?_
 rintro ⟨k6, ⟨⟩, ⟨⟩⟩ H9
 obtain ⟨hk7, hF8⟩ : k6 ≤ x0.length ∧ R2 (x0.length - k6) k6 () = R2 (x0.length - 0) 0 () := H9
 show CM Tryd.prog 32 _ _ _ _ [(0, .slice A2 x0.length c3), (5, .slice A2 x0.length c3), (6, .int .i64 ((x0.length : Nat) : Int)), (7, .int .i64 ((k6 : Nat) : Int))] []
 refine sr ?_
 refine wv vlss ?_
 refine nt' (CM_seq ?_)
 by_cases hl10 : k6 < x0.length
 ·have g11 := dlT hl10
  refine CM_condT rfl g11 ?_
  refine CM_skip (QM_then (CM_seq (CM_block (sr (wm ?_)))))
  obtain ⟨a12, rfl, hb13, he14⟩ := q4 (by omega)
  refine wv (vix 1 k6 underlying28 type3) ?_
  refine wv (fun W hm => rv_load underlying3 rfl rfl ((hm.cell0 (show (a12.add (k6 * 1)).block < w.heap.size from by rw [add_block]; exact hb13.1)).trans (rdS_int he14 k6 (by omega)))) ?_
  refine wa (wa (nt' (sr (wm ?_))))
  refine wv vlss ?_
  refine wm ?_
  by_cases h15 : (gt x0 k6) < 0
  ·have g16 := decide_eq_true h15
   refine ws g16 ?_
   refine ws g16 ?_
   refine wv (vpT g16) ?_
   refine wm ?_
   refine wk ?_
   refine wk ?_
   refine wk ?_
   refine wu ?_
   refine wu ?_
   refine wu ?_
   refine wu ?_
   refine wu ?_
   refine wu ?_
   refine wu ?_
   refine wk ?_
   refine wv (vpT rfl) ?_
   refine nt' ?_
   refine CM_condT rfl rfl ?_
   refine sr (wa (nt' (CM_ret (QM_block_ret (QM_then_ret (QM_then_ret (QM_block_ret (QM_then_ret ?_))))))))
   exact rtb (h := fin_inl (rng_ret (body := F1) (k := k6) (s := ()) (show k6 < x0.length from by omega) (cond_t g16 (rfl)) hF8) rfl)
  ·have g16 := decide_eq_false h15
   refine wg vmv g16 ?_
   refine wg (fun W hm => rv_geq rfl rfl) g16 ?_
   refine wv (vpF g16) ?_
   refine wm ?_
   by_cases h17 : 24 ≤ (gt x0 k6)
   ·have g18 := decide_eq_true h17
    refine ws g18 ?_
    refine ws g18 ?_
    refine ws g18 ?_
    refine wu ?_
    refine wu ?_
    refine wu ?_
    refine wu ?_
    refine wu ?_
    refine wu ?_
    refine wu ?_
    refine ws g18 ?_
    refine wv (vpT g18) ?_
    refine nt' ?_
    refine CM_condT rfl rfl ?_
    refine sr (wa (nt' (CM_ret (QM_block_ret (QM_then_ret (QM_then_ret (QM_block_ret (QM_then_ret ?_))))))))
    exact rtb (h := fin_inl (rng_ret (body := F1) (k := k6) (s := ()) (show k6 < x0.length from by omega) (cond_f g16 (cond_t g18 (rfl))) hF8) rfl)
   ·have g18 := decide_eq_false h17
    refine wg vmv g18 ?_
    refine wg (fun W hm => rv_gtr rfl rfl) g18 ?_
    refine wg vmv g18 ?_
    by_cases h19 : 0 < ((k6 : Nat) : Int)
    ·have g20 := decide_eq_true h19
     refine wg vmv g20 ?_
     refine wg vmv g20 ?_
     refine wg (fun W hm => rv_subN (p := k6) (q := 1) rfl rfl (by omega) (by omega)) g20 ?_
     refine wg (fun W hm => rv_index (sz := 1) (k := k6 - 1) underlying28 type3 rfl rfl rfl (by omega)) g20 ?_
     refine wg (fun W hm => rv_load underlying3 rfl rfl ((hm.cell0 (show (a12.add ((k6 - 1) * 1)).block < w.heap.size from by rw [add_block]; exact hb13.1)).trans (rdS_int he14 (k6 - 1) (by omega)))) g20 ?_
     refine wg vmv g20 ?_
     refine wg (fun W hm => rv_geq rfl rfl) g20 ?_
     refine wg (vpT g20) g18 ?_
     refine wv (vpF g18) ?_
     refine nt' ?_
     by_cases h21 : (gt x0 k6) ≤ (gt x0 (k6 - 1))
     ·have g22 := decide_eq_true h21
      refine CM_condT rfl g22 ?_
      refine sr (wa (nt' (CM_ret (QM_block_ret (QM_then_ret (QM_then_ret (QM_block_ret (QM_then_ret ?_))))))))
      exact rtb (h := fin_inl (rng_ret (body := F1) (k := k6) (s := ()) (show k6 < x0.length from by omega) (cond_f g16 (cond_f g18 (cond_t g20 (cond_t g22 (rfl))))) hF8) rfl)
     ·have g22 := decide_eq_false h21
      refine CM_condF rfl g22 ?_
      refine CM_skip (QM_block_normal (QM_then (CM_region ?_)))
      refine wv (vadN k6 1 (by omega)) ?_
      refine wm (WM_nil ?_)
      have hn23 := rng_next (R := Bool) (body := F1) (k := k6) (s := ()) (s' := ()) (show k6 < x0.length from by omega) (cond_f g16 (cond_f g18 (cond_t g20 (cond_f g22 (rfl))))) hF8
      exact QM_round (k6 + 1, (), ()) sl4 (fun W hm => hm) ⟨(by omega), hn23⟩ (rl (by omega))
    ·have g20 := decide_eq_false h19
     refine ws g20 ?_
     refine ws g20 ?_
     refine ws g20 ?_
     refine ws g20 ?_
     refine ws g20 ?_
     refine ws g20 ?_
     refine ws g20 ?_
     refine wg (vpF g20) g18 ?_
     refine wv (vpF g18) ?_
     refine nt' ?_
     refine CM_condF rfl rfl ?_
     refine CM_skip (QM_block_normal (QM_then (CM_region ?_)))
     refine wv (vadN k6 1 (by omega)) ?_
     refine wm (WM_nil ?_)
     have hn24 := rng_next (R := Bool) (body := F1) (k := k6) (s := ()) (s' := ()) (show k6 < x0.length from by omega) (cond_f g16 (cond_f g18 (cond_f g20 (rfl)))) hF8
     exact QM_round (k6 + 1, (), ()) sl4 (fun W hm => hm) ⟨(by omega), hn24⟩ (rl (by omega))
 ·have g11 := dlF hl10
  refine CM_condF rfl g11 ?_
  refine CM_exit (QM_then_exit (QM_then_exit ?_))
  have hE25 : R2 (x0.length - 0) 0 () = Sum.inr () := rng_end hl10 hF8
  refine QM_block_hit (QM_then (sr (wa (nt' (CM_ret ?_)))))
  exact rtb (h := fin_inr hE25 (rfl))

def impl_within_m (x0 : Int) (x1 : Int) (x2 : Int) : Bool :=
 cond (decide (x1 ≤ x0)) (decide (x0 ≤ x2)) false
theorem cb50 : Cb Tryd.prog 50 := ⟨f50, _, func50, rfl, by decide⟩
theorem impl_within_c (w : World) (x0 : Int) (x1 : Int) (x2 : Int) :
  Calls Tryd.prog 50 #[.int .i64 x0, .int .i64 x1, .int .i64 x2] w fun e w' => e = .returned (.bool (impl_within_m x0 x1 x2)) ∧ Below w.heap.size w w' := by
 refine ce3 (L := [(0, .int .i64 x0), (1, .int .i64 x1), (2, .int .i64 x2)]) (N := 15) func50 ?_
 refine sr (wa (nt' (sr (wm (wm ?_)))))
 refine wv (fun W hm => rv_geq rfl rfl) ?_
 refine wm ?_
 by_cases h1 : x1 ≤ x0
 ·have g2 := decide_eq_true h1
  refine wg vmv g2 ?_
  refine wg vmv g2 ?_
  refine wg (fun W hm => rv_leq rfl rfl) g2 ?_
  refine wv (vpT g2) ?_
  refine wa (nt' (CM_ret ?_))
  exact rtb (h := cond_t g2 (rfl))
 ·have g2 := decide_eq_false h1
  refine ws g2 ?_
  refine ws g2 ?_
  refine ws g2 ?_
  refine wv (vpF g2) ?_
  refine wa (nt' (CM_ret ?_))
  exact rtb (h := cond_f g2 (rfl))

theorem impl_within_fact {x a b : Int} (h : impl_within_m x a b = true) : a ≤ x ∧ x ≤ b := by
  unfold impl_within_m at h
  by_cases h1 : a ≤ x
  · rw [decide_eq_true h1] at h
    exact ⟨h1, of_decide_eq_true h⟩
  · rw [decide_eq_false h1] at h
    cases h
theorem impl_within_iff (x a b : Int) : impl_within_m x a b = decide (a ≤ x ∧ x ≤ b) := by
  unfold impl_within_m
  by_cases h1 : a ≤ x
  · by_cases h2 : x ≤ b
    · simp [h1, h2]
    · simp [h1, h2]
  · simp [h1]

def impl_IsCharge_b1 (x0 : DCharge) (k31 : Nat) : Bool ⊕ (Unit) :=
 cond (impl_within_m (gt x0.Tenants k31) 0 3) (cond (impl_within_m (gt x0.Rows k31) 0 x0.Base) (Sum.inr ()) (Sum.inl false)) (Sum.inl false)
def impl_IsCharge_m (x0 : DCharge) : Bool :=
 cond (impl_IsSet_m x0.Ids) (cond (impl_within_m ((x0.Ids.length : Nat) : Int) 1 8) (cond (((x0.Tenants.length : Nat) : Int) != ((x0.Ids.length : Nat) : Int)) false (cond (((x0.Rows.length : Nat) : Int) != ((x0.Ids.length : Nat) : Int)) false (Sum.elim id (fun (s : Unit) => cond (impl_within_m x0.Segment 0 7) (impl_within_m x0.Base 0 4) false) (rng (R := Bool) (fun k (_ : Unit) => impl_IsCharge_b1 x0 k) (x0.Ids.length - 0) 0 ())))) false) false
theorem cb26 : Cb Tryd.prog 26 := ⟨f26, _, func26, rfl, by decide⟩
theorem impl_IsCharge_c (w : World) (z0 : List Value) (x0 : DCharge) (r_0 : tyCharge.rd w w.heap.size z0 x0) :
  Calls Tryd.prog 26 #[.agg z0.toArray] w fun e w' => e = .returned (.bool (impl_IsCharge_m x0)) ∧ Below w.heap.size w w' := by
 obtain ⟨v1, v3, v5, rfl, r2, r4, r6⟩ := tyCharge_rd r_0
 obtain ⟨m7, A8, c9, rfl, q10, r11⟩ := rdS_op r2
 obtain ⟨m12, A13, c14, rfl, q15, r16⟩ := rdS_op r4
 obtain ⟨m17, A18, c19, rfl, q20, r21⟩ := rdS_op r6
 refine ce1 (L := [(0, .agg #[.int .i64 x0.Segment, .int .i64 x0.Base, .slice A8 x0.Ids.length c9, .slice A13 x0.Tenants.length c14, .slice A18 x0.Rows.length c19])]) (N := 64) func26 ?_
 refine sr ?_
 refine WM_box rfl (Wd_none rfl) (by decide) (fun p22 => ?_)
 refine wa (nt' (sr ?_))
 refine wv (vf underlying33 rfl type28) ?_
 refine wv (vl 0 2 underlying28) ?_
 refine wv (vlen underlying28) ?_
 refine wa (nt' (CM_seq (sr ?_)))
 refine wv (vf underlying33 rfl type28) ?_
 refine wv (vl 0 2 underlying28) ?_
 refine wcv (cl_fn cb65 rfl) (fun W hm => impl_IsSet_c W _ x0.Ids (hm.rdS0 r11)) ?_
 refine wv vnot ?_
 refine wm ?_
 rcases Bool.eq_false_or_eq_true (impl_IsSet_m x0.Ids) with g24 | g24
 ·
  refine wg vmv (nt g24) ?_
  refine WM_callV (cl_fn cb50 rfl) (fun W hm => impl_within_c W ((x0.Ids.length : Nat) : Int) 1 8) (Wd_some rfl rfl rfl (bw (nt g24) rfl)) (by decide) ?_
  refine wg vnot (nt g24) ?_
  refine wv (vpF (nt g24)) ?_
  refine wm ?_
  rcases Bool.eq_false_or_eq_true (impl_within_m ((x0.Ids.length : Nat) : Int) 1 8) with g26 | g26
  ·
   have hw := impl_within_fact g26
   refine wg (vf underlying33 rfl type28) (nt g26) ?_
   refine wg (vl 0 3 underlying28) (nt g26) ?_
   refine wg (vlen underlying28) (nt g26) ?_
   refine wg vmv (nt g26) ?_
   refine wg vneq (nt g26) ?_
   refine wv (vpF (nt g26)) ?_
   refine wm ?_
   by_cases h27 : ((x0.Tenants.length : Nat) : Int) = ((x0.Ids.length : Nat) : Int)
   ·have g28 : (((x0.Tenants.length : Nat) : Int) != ((x0.Ids.length : Nat) : Int)) = false := by rw [h27]; exact bne_self_eq_false _
    refine wg (vf underlying33 rfl type28) g28 ?_
    refine wg (vl 0 4 underlying28) g28 ?_
    refine wg (vlen underlying28) g28 ?_
    refine wg vmv g28 ?_
    refine wg vneq g28 ?_
    refine wv (vpF g28) ?_
    refine nt' ?_
    by_cases h29 : ((x0.Rows.length : Nat) : Int) = ((x0.Ids.length : Nat) : Int)
    ·have g30 : (((x0.Rows.length : Nat) : Int) != ((x0.Ids.length : Nat) : Int)) = false := by rw [h29]; exact bne_self_eq_false _
     refine CM_condF rfl g30 ?_
     refine CM_skip (QM_then (CM_seq (sr ?_)))
     refine wv (vf underlying33 rfl type28) ?_
     refine wv (vl 0 2 underlying28) ?_
     refine wv (vlen underlying28) ?_
     refine wm (nt' (CM_block ?_))
     let F1 := fun k (_ : Unit) => impl_IsCharge_b1 x0 k
     let R2 := rng (R := Bool) F1
     let K3 : List Value := [.int .i64 x0.Segment, .int .i64 x0.Base, .slice A8 x0.Ids.length c9, .slice A13 x0.Tenants.length c14, .slice A18 x0.Rows.length c19]
     refine CM_loop (σ := Nat × (Unit) × (Unit)) (fun s => [(1, .pointer (some (⟨p22, 0, none⟩ : Addr))), (33, .int .i64 ((x0.Ids.length : Nat) : Int)), (34, .int .i64 ((s.1 : Nat) : Int))]) (fun s => [iBox p22 33 K3]) (fun s => s.1 ≤ x0.Ids.length ∧ R2 (x0.Ids.length - s.1) s.1 s.2.1 = R2 (x0.Ids.length - 0) 0 ()) (fun s => x0.Ids.length - s.1) (0, (), ()) sl3 (fun W hm => hm) ⟨(by omega), rfl⟩ ?_
     rintro ⟨k31, ⟨⟩, ⟨⟩⟩ H34
     obtain ⟨hk32, hF33⟩ : k31 ≤ x0.Ids.length ∧ R2 (x0.Ids.length - k31) k31 () = R2 (x0.Ids.length - 0) 0 () := H34
     show CM Tryd.prog 64 _ _ _ _ [(1, .pointer (some (⟨p22, 0, none⟩ : Addr))), (33, .int .i64 ((x0.Ids.length : Nat) : Int)), (34, .int .i64 ((k31 : Nat) : Int))] [iBox p22 33 K3]
     refine sr ?_
     refine wv vlss ?_
     refine nt' (CM_seq ?_)
     by_cases hl35 : k31 < x0.Ids.length
     ·have g36 := dlT hl35
      refine CM_condT rfl g36 ?_
      refine CM_skip (QM_then (CM_seq (CM_block (sr (wm (wa (nt' (CM_seq ?_))))))))
      refine CM_regionD (by kernel_rfl) (by kernel_rfl) ?_
      refine qv (vf underlying33 rfl type28) ?_
      refine qv (vl 0 3 underlying28) ?_
      refine qm ?_
      obtain ⟨a37, rfl, hb38, he39⟩ := q15 (by omega)
      refine qv (vix 1 k31 underlying28 type3) ?_
      refine qv (fun W hm => rv_load underlying3 rfl rfl ((hm.cell0 (show (a37.add (k31 * 1)).block < w.heap.size from by rw [add_block]; exact hb38.1)).trans (rdS_int he39 k31 (by omega)))) ?_
      refine QR_callV (cl_fn cb50 rfl) (fun W hm => impl_within_c W (gt x0.Tenants k31) 0 3) (Wd_none rfl) (by decide) ?_
      refine qv vnot ?_
      refine qm ?_
      rcases Bool.eq_false_or_eq_true (impl_within_m (gt x0.Tenants k31) 0 3) with g41 | g41
      ·
       have hw := impl_within_fact g41
       refine qg (vf underlying33 rfl type28) (nt g41) ?_
       refine qg (vl 0 4 underlying28) (nt g41) ?_
       refine qg vmv (nt g41) ?_
       obtain ⟨a42, rfl, hb43, he44⟩ := q20 (by omega)
       refine qg (vix 1 k31 underlying28 type3) (nt g41) ?_
       refine qg (fun W hm => rv_load underlying3 rfl rfl ((hm.cell0 (show (a42.add (k31 * 1)).block < w.heap.size from by rw [add_block]; exact hb43.1)).trans (rdS_int he44 k31 (by omega)))) (nt g41) ?_
       refine qg (vf underlying33 rfl type3) (nt g41) ?_
       refine qg (vl 0 1 underlying3) (nt g41) ?_
       refine QR_callV (cl_fn cb50 rfl) (fun W hm => impl_within_c W (gt x0.Rows k31) 0 x0.Base) (Wd_some rfl rfl rfl (bw (nt g41) rfl)) (by decide) ?_
       refine qg vnot (nt g41) ?_
       refine qv (vpF (nt g41)) ?_
       refine nq' ?_
       rcases Bool.eq_false_or_eq_true (impl_within_m (gt x0.Rows k31) 0 x0.Base) with g46 | g46
       ·
        have hw := impl_within_fact g46
        refine CM_condF rfl (nt g46) ?_
        refine CM_skip (QM_block_normal (QM_then (CM_region ?_)))
        refine wv (vadN k31 1 (by omega)) ?_
        refine wm (WM_nil ?_)
        have hn47 := rng_next (R := Bool) (body := F1) (k := k31) (s := ()) (s' := ()) (show k31 < x0.Ids.length from by omega) (cond_t g41 (cond_t g46 (rfl))) hF33
        exact QM_round (k31 + 1, (), ()) sl3 (fun W hm => hm) ⟨(by omega), hn47⟩ (rl (by omega))
       ·
        refine CM_condT rfl (nf g46) ?_
        refine sr (wa (nt' (CM_ret (QM_block_ret (QM_then_ret (QM_then_ret (QM_block_ret (QM_then_ret ?_))))))))
        exact rtb (h := cond_t g24 (cond_t g26 (cond_f g28 (cond_f g30 (fin_inl (rng_ret (body := F1) (k := k31) (s := ()) (show k31 < x0.Ids.length from by omega) (cond_t g41 (cond_f g46 (rfl))) hF33) rfl)))))
      ·
       refine qs (nf g41) ?_
       refine qs (nf g41) ?_
       refine qs (nf g41) ?_
       refine qs (nf g41) ?_
       refine qs (nf g41) ?_
       refine qs (nf g41) ?_
       refine qs (nf g41) ?_
       refine qs (nf g41) ?_
       refine qs (nf g41) ?_
       refine qv (vpT (nf g41)) ?_
       refine nq' ?_
       refine CM_condT rfl rfl ?_
       refine sr (wa (nt' (CM_ret (QM_block_ret (QM_then_ret (QM_then_ret (QM_block_ret (QM_then_ret ?_))))))))
       exact rtb (h := cond_t g24 (cond_t g26 (cond_f g28 (cond_f g30 (fin_inl (rng_ret (body := F1) (k := k31) (s := ()) (show k31 < x0.Ids.length from by omega) (cond_f g41 (rfl)) hF33) rfl)))))
     ·have g36 := dlF hl35
      refine CM_condF rfl g36 ?_
      refine CM_exit (QM_then_exit (QM_then_exit ?_))
      have hE48 : R2 (x0.Ids.length - 0) 0 () = Sum.inr () := rng_end hl35 hF33
      refine QM_block_hit (QM_then (sr ?_))
      refine wv (vf underlying33 rfl type3) ?_
      refine wv (vl 0 0 underlying3) ?_
      refine wcv (cl_fn cb50 rfl) (fun W hm => impl_within_c W x0.Segment 0 7) ?_
      refine wm ?_
      rcases Bool.eq_false_or_eq_true (impl_within_m x0.Segment 0 7) with g50 | g50
      ·
       have hw := impl_within_fact g50
       refine wg (vf underlying33 rfl type3) g50 ?_
       refine wg (vl 0 1 underlying3) g50 ?_
       refine WM_callV (cl_fn cb50 rfl) (fun W hm => impl_within_c W x0.Base 0 4) (Wd_some rfl rfl rfl (bw g50 rfl)) (by decide) ?_
       refine wv (vpT g50) ?_
       refine wa (nt' (CM_ret ?_))
       exact rtb (h := cond_t g24 (cond_t g26 (cond_f g28 (cond_f g30 (fin_inr hE48 (cond_t g50 (rfl)))))))
      ·
       refine ws g50 ?_
       refine ws g50 ?_
       refine ws g50 ?_
       refine wv (vpF g50) ?_
       refine wa (nt' (CM_ret ?_))
       exact rtb (h := cond_t g24 (cond_t g26 (cond_f g28 (cond_f g30 (fin_inr hE48 (cond_f g50 (rfl)))))))
    ·have g30 : (((x0.Rows.length : Nat) : Int) != ((x0.Ids.length : Nat) : Int)) = true := bne_iff_ne.2 h29
     refine CM_condT rfl g30 ?_
     refine sr (wa (nt' (CM_ret (QM_then_ret ?_))))
     exact rtb (h := cond_t g24 (cond_t g26 (cond_f g28 (cond_t g30 (rfl)))))
   ·have g28 : (((x0.Tenants.length : Nat) : Int) != ((x0.Ids.length : Nat) : Int)) = true := bne_iff_ne.2 h27
    refine ws g28 ?_
    refine ws g28 ?_
    refine ws g28 ?_
    refine ws g28 ?_
    refine ws g28 ?_
    refine wv (vpT g28) ?_
    refine nt' ?_
    refine CM_condT rfl rfl ?_
    refine sr (wa (nt' (CM_ret (QM_then_ret ?_))))
    exact rtb (h := cond_t g24 (cond_t g26 (cond_t g28 (rfl))))
  ·
   refine ws (nf g26) ?_
   refine ws (nf g26) ?_
   refine ws (nf g26) ?_
   refine ws (nf g26) ?_
   refine ws (nf g26) ?_
   refine wv (vpT (nf g26)) ?_
   refine wm ?_
   refine wk ?_
   refine wk ?_
   refine wk ?_
   refine wk ?_
   refine wk ?_
   refine wv (vpT rfl) ?_
   refine nt' ?_
   refine CM_condT rfl rfl ?_
   refine sr (wa (nt' (CM_ret (QM_then_ret ?_))))
   exact rtb (h := cond_t g24 (cond_f g26 (rfl)))
 ·
  refine ws (nf g24) ?_
  refine ws (nf g24) ?_
  refine ws (nf g24) ?_
  refine wv (vpT (nf g24)) ?_
  refine wm ?_
  refine wk ?_
  refine wk ?_
  refine wk ?_
  refine wk ?_
  refine wk ?_
  refine wv (vpT rfl) ?_
  refine wm ?_
  refine wk ?_
  refine wk ?_
  refine wk ?_
  refine wk ?_
  refine wk ?_
  refine wv (vpT rfl) ?_
  refine nt' ?_
  refine CM_condT rfl rfl ?_
  refine sr (wa (nt' (CM_ret (QM_then_ret ?_))))
  exact rtb (h := cond_f g24 (rfl))

theorem impl_IsCharge_fact {x : DCharge} (h : impl_IsCharge_m x = true) : 1 ≤ x.Ids.length ∧ x.Tenants.length = x.Ids.length ∧ x.Rows.length = x.Ids.length := by
  unfold impl_IsCharge_m impl_within_m at h
  cases h1 : impl_IsSet_m x.Ids <;> rw [h1] at h
  · cases h
  by_cases h2 : 1 ≤ ((x.Ids.length : Nat) : Int)
  · by_cases h3 : ((x.Tenants.length : Nat) : Int) = ((x.Ids.length : Nat) : Int)
    · by_cases h4 : ((x.Rows.length : Nat) : Int) = ((x.Ids.length : Nat) : Int)
      · omega
      · rw [bne_iff_ne.2 h4] at h
        revert h
        cases decide (1 ≤ ((x.Ids.length : Nat) : Int)) <;> cases decide (((x.Ids.length : Nat) : Int) ≤ 8) <;> cases (((x.Tenants.length : Nat) : Int) != ((x.Ids.length : Nat) : Int)) <;> intro h <;> cases h
    · rw [bne_iff_ne.2 h3] at h
      revert h
      cases decide (1 ≤ ((x.Ids.length : Nat) : Int)) <;> cases decide (((x.Ids.length : Nat) : Int) ≤ 8) <;> intro h <;> cases h
  · rw [decide_eq_false h2] at h
    cases h

def impl_FormatInt_m (x0 : Int) : ByteArray :=
 (itoaB x0)
theorem cb52 : Cb Tryd.prog 52 := ⟨f52, _, func52, rfl, by decide⟩
theorem impl_FormatInt_c (w : World) (x0 : Int) (hr : -9223372036854775808 ≤ x0 ∧ x0 ≤ 9223372036854775807) (hT : TabOK w.heap.size w) :
  Calls Tryd.prog 52 #[.int .i64 x0] w fun e w' => e = .returned (.string (impl_FormatInt_m x0)) ∧ Below w.heap.size w w' := by
 refine ce1 (L := [(0, .int .i64 x0)]) (N := 5) func52 ?_
 refine sr (wa (nt' (sr (wm ?_))))
 refine wcv (cl_fn ⟨f83, _, func83, rfl, by decide⟩ rfl) (fun W hm => itoa_c W x0 (by omega) (hT.mem hm)) ?_
 have hz1 := itoaB_sz x0 (by omega)
 refine wa (nt' (CM_ret ?_))
 exact QM_ret1 rfl rfl (fun W hm => ⟨ret_s (show impl_FormatInt_m x0 = (itoaB x0) from rfl), hm.below⟩)
theorem impl_FormatInt_sz (x : Int) (h : -9223372036854775808 ≤ x ∧ x ≤ 9223372036854775807) : (impl_FormatInt_m x).size ≤ 21 := itoaB_sz x h

theorem rng_bool {n : Nat} {b : Nat → Unit → Bool ⊕ Unit} (h : ∀ j, b j () = .inr () ∨ b j () = .inl false) : ∀ m k, rng b m k () = .inr () ∨ rng b m k () = .inl false
  | 0, _ => .inl rfl
  | m + 1, k => by
    rcases h k with h1 | h1
    · rw [rng, h1]; exact rng_bool (n := n) h m (k + 1)
    · right; rw [rng, h1]; rfl
theorem within_same (x a b : Int) : impl_within_m x a b = spec_l1In_m x a b := rfl
theorem IsSet_b_same (x : List Int) (k : Nat) : impl_IsSet_b1 x k = spec_IsSet_b1 x k := by
  unfold impl_IsSet_b1 spec_IsSet_b1 spec_l1In_m
  by_cases h1 : gt x k < 0
  · have h2 : ¬ 0 ≤ gt x k := by omega
    simp only [decide_eq_true h1, decide_eq_false h2, cond_true, cond_false]
  · have h2 : 0 ≤ gt x k := by omega
    by_cases h3 : 24 ≤ gt x k
    · have h4 : ¬ gt x k ≤ 23 := by omega
      simp only [decide_eq_false h1, decide_eq_true h2, decide_eq_true h3, decide_eq_false h4, cond_true, cond_false]
    · have h4 : gt x k ≤ 23 := by omega
      simp only [decide_eq_false h1, decide_eq_true h2, decide_eq_false h3, decide_eq_true h4, cond_true, cond_false]
theorem IsSet_same (x : List Int) : impl_IsSet_m x = spec_IsSet_m x := by
  unfold impl_IsSet_m spec_IsSet_m
  simp only [IsSet_b_same]
theorem IsCharge_b_same (x : DCharge) (k : Nat) : impl_IsCharge_b1 x k = spec_IsCharge_b1 x k := rfl
theorem IsCharge_b_two (x : DCharge) (k : Nat) : spec_IsCharge_b1 x k = .inr () ∨ spec_IsCharge_b1 x k = .inl false := by
  unfold spec_IsCharge_b1
  cases spec_l1In_m (gt x.Tenants k) 0 3 <;> cases spec_l1In_m (gt x.Rows k) 0 x.Base <;> simp
theorem IsCharge_same (x : DCharge) : impl_IsCharge_m x = spec_IsCharge_m x := by
  unfold impl_IsCharge_m spec_IsCharge_m
  rw [IsSet_same]
  simp only [IsCharge_b_same, within_same]
  have h8 : spec_l1In_m ((x.Ids.length : Nat) : Int) 1 8 = cond (((x.Ids.length : Nat) : Int) == 0) false (cond (decide (8 < ((x.Ids.length : Nat) : Int))) false true) := by
    unfold spec_l1In_m
    by_cases h1 : ((x.Ids.length : Nat) : Int) = 0
    · rw [beq_iff_eq.2 h1, decide_eq_false (show ¬ 1 ≤ ((x.Ids.length : Nat) : Int) by omega)]; rfl
    · rw [beq_eq_false_iff_ne.2 h1, decide_eq_true (show 1 ≤ ((x.Ids.length : Nat) : Int) by omega)]
      by_cases h2 : 8 < ((x.Ids.length : Nat) : Int)
      · rw [decide_eq_true h2, decide_eq_false (show ¬ ((x.Ids.length : Nat) : Int) ≤ 8 by omega)]; rfl
      · rw [decide_eq_false h2, decide_eq_true (show ((x.Ids.length : Nat) : Int) ≤ 8 by omega)]; rfl
  rw [h8]
  have hr := rng_bool (n := 0) (b := fun k (_ : Unit) => spec_IsCharge_b1 x k) (IsCharge_b_two x) (x.Ids.length - 0) 0
  rcases hr with hr | hr <;> rw [hr] <;> cases spec_IsSet_m x.Ids <;> cases (((x.Ids.length : Nat) : Int) == 0) <;> cases (decide (8 < ((x.Ids.length : Nat) : Int))) <;>
    cases (((x.Tenants.length : Nat) : Int) != ((x.Ids.length : Nat) : Int)) <;> cases (((x.Rows.length : Nat) : Int) != ((x.Ids.length : Nat) : Int)) <;> cases spec_l1In_m x.Segment 0 7 <;> cases spec_l1In_m x.Base 0 4 <;> rfl
theorem impl_Charge_rng {x : DCharge} (h : impl_IsCharge_m x = true) : (x.Ids.length ≤ 24 ∧ x.Rows.length = x.Ids.length ∧ (0 ≤ x.Segment ∧ x.Segment ≤ 7) ∧ (0 ≤ x.Base ∧ x.Base ≤ 4)) ∧ ∀ k, k < x.Ids.length → (0 ≤ gt x.Ids k ∧ gt x.Ids k ≤ 23) ∧ (0 ≤ gt x.Rows k ∧ gt x.Rows k ≤ 4) := spec_Charge_rng ((IsCharge_same x).symm.trans h)
theorem word_sz {a b : Int} (ha : 0 ≤ a ∧ a ≤ 23) (hb : 0 ≤ b ∧ b ≤ 4) : ((((sB [113]) ++ (impl_FormatInt_m a)) ++ (sB [43])) ++ (impl_FormatInt_m b)).size ≤ 1000 := by
  have h1 := impl_FormatInt_sz a (by omega)
  have h2 := impl_FormatInt_sz b (by omega)
  rw [sz_app, sz_app, sz_app]
  have h3 : ByteArray.size (sB [113]) = 1 := rfl
  have h4 : ByteArray.size (sB [43]) = 1 := rfl
  omega
def impl_FormatCharge_b1 (x0 : DCharge) (k28 : Nat) (d31 : (List ByteArray)) : ByteArray ⊕ ((List ByteArray)) :=
 Sum.inr (d31 ++ [((((sB [113]) ++ (impl_FormatInt_m (gt x0.Ids k28))) ++ (sB [43])) ++ (impl_FormatInt_m (gt x0.Rows k28)))])
def impl_FormatCharge_m (x0 : DCharge) : ByteArray :=
 cond (impl_IsCharge_m x0) (Sum.elim id (fun (s : (List ByteArray)) => (joinB s (sB [32]))) (rng (R := ByteArray) (fun k (s : (List ByteArray)) => impl_FormatCharge_b1 x0 k s) (x0.Ids.length - 0) 0 [(impl_FormatInt_m x0.Segment), (sB [98, 97, 115, 101]), (impl_FormatInt_m x0.Base)])) (sB [])
theorem cb14 : Cb Tryd.prog 14 := ⟨f14, _, func14, rfl, by decide⟩
theorem impl_FormatCharge_c (w : World) (z0 : List Value) (x0 : DCharge) (r_0 : tyCharge.rd w w.heap.size z0 x0) (hT : TabOK w.heap.size w) :
  Calls Tryd.prog 14 #[.agg z0.toArray] w fun e w' => e = .returned (.string (impl_FormatCharge_m x0)) ∧ Below w.heap.size w w' := by
 obtain ⟨v1, v3, v5, rfl, r2, r4, r6⟩ := tyCharge_rd r_0
 obtain ⟨m7, A8, c9, rfl, q10, r11⟩ := rdS_op r2
 obtain ⟨m12, A13, c14, rfl, q15, r16⟩ := rdS_op r4
 obtain ⟨m17, A18, c19, rfl, q20, r21⟩ := rdS_op r6
 refine ce1 (L := [(0, .agg #[.int .i64 x0.Segment, .int .i64 x0.Base, .slice A8 x0.Ids.length c9, .slice A13 x0.Tenants.length c14, .slice A18 x0.Rows.length c19])]) (N := 41) func14 ?_
 refine sr ?_
 refine WM_box rfl (Wd_none rfl) (by decide) (fun p22 => ?_)
 refine wa (nt' (CM_seq (sr ?_)))
 let K3 : List Value := [.int .i64 x0.Segment, .int .i64 x0.Base, .slice A8 x0.Ids.length c9, .slice A13 x0.Tenants.length c14, .slice A18 x0.Rows.length c19]
 refine wv (fun W hm => rv_loadN (cs := K3) underlying33 type33 rfl rfl (hm.boxCells (n := 0) rfl)) ?_
 refine wcv (cl_fn cb26 rfl) (fun W hm => impl_IsCharge_c W _ x0 (tyCharge_mk (x := x0) (hm.rdS0 r11) (hm.rdS0 r16) (hm.rdS0 r21))) ?_
 refine wv vnot ?_
 refine nt' ?_
 rcases Bool.eq_false_or_eq_true (impl_IsCharge_m x0) with g24 | g24
 ·
  have hch := impl_Charge_rng g24
  refine CM_condF rfl (nt g24) ?_
  refine CM_skip (QM_then (CM_seq ?_))
  refine rb 8 (s := [iBox p22 33 K3]) (fun W hm => hm) ?_
  refine qt 8 0 1 rfl (vf underlying33 rfl type3) ?_
  refine qt 8 1 3 rfl (vl 0 0 underlying3) ?_
  refine qt 8 3 11 rfl (vf underlying33 rfl type3) ?_
  refine qt 8 4 27 rfl (vl 0 1 underlying3) ?_
  refine qo 8 2 31 rfl ?_
  refine wcv (cl_fn cb52 rfl) (fun W hm => impl_FormatInt_c W x0.Segment (⟨by omega, by omega⟩) (hT.mem hm)) ?_
  have hz25 := impl_FormatInt_sz x0.Segment (by omega)
  refine qn (fun W hm => hm) ?_
  refine qo 8 5 63 rfl ?_
  refine wcv (cl_fn cb52 rfl) (fun W hm => impl_FormatInt_c W x0.Base (⟨by omega, by omega⟩) (hT.mem hm)) ?_
  have hz26 := impl_FormatInt_sz x0.Base (by omega)
  refine qn (fun W hm => hm) ?_
  refine qo 8 6 127 rfl ?_
  refine WM_build (cs := [.string (impl_FormatInt_m x0.Segment), .string (sB [98, 97, 115, 101]), .string (impl_FormatInt_m x0.Base)]) underlying80 type9 rfl (by decide) (by decide) rfl (by kernel_rfl) (Wd_none rfl) (by decide) (fun p27 => ?_)
  refine qn (pk [1]) ?_
  refine qt 8 7 255 rfl (fun W hm => rv_assign rfl) ?_
  refine QB_done (by kernel_rfl) ?_
  refine QM_then (CM_seq (sr ?_))
  refine wv (vf underlying33 rfl type28) ?_
  refine wv (vl 1 2 underlying28) ?_
  refine wv (vlen underlying28) ?_
  refine wm (nt' (CM_block ?_))
  have hz29 : ByteArray.size (sB [98, 97, 115, 101]) = 4 := rfl
  refine CM_items (fun W hm => Mem.litOwn (E := tStr) (xs := [(impl_FormatInt_m x0.Segment), (sB [98, 97, 115, 101]), (impl_FormatInt_m x0.Base)]) rfl (show 3 ≤ maxLen from by decide) (fun _ => (els_cons (E := tStr) (L1 := []) (tStr_own (by omega)) (els_cons (E := tStr) (L1 := []) (tStr_own (by omega)) (els_cons (E := tStr) (L1 := []) (tStr_own (by omega)) els_nil)))) hm) ?_
  let F1 := fun k (s : (List ByteArray)) => impl_FormatCharge_b1 x0 k s
  let R2 := rng (R := ByteArray) F1
  refine CM_loop (σ := Nat × ((List ByteArray)) × (Option Addr × Nat)) (fun s => [(1, .pointer (some (⟨p22, 0, none⟩ : Addr))), (3, .slice s.2.2.1 s.2.1.length s.2.2.2), (17, .slice A8 x0.Ids.length c9), (18, .int .i64 ((x0.Ids.length : Nat) : Int)), (19, .int .i64 ((s.1 : Nat) : Int))]) (fun s => [iOwn (tSl tStr 9) [.slice s.2.2.1 s.2.1.length s.2.2.2] s.2.1, iBox p22 33 K3]) (fun s => s.1 ≤ x0.Ids.length ∧ R2 (x0.Ids.length - s.1) s.1 s.2.1 = R2 (x0.Ids.length - 0) 0 [(impl_FormatInt_m x0.Segment), (sB [98, 97, 115, 101]), (impl_FormatInt_m x0.Base)] ∧ s.2.1.length ≤ 3 + s.1 ∧ s.2.1.length = 3 + s.1 ∧ ∀ z ∈ s.2.1, z.size ≤ 1000) (fun s => x0.Ids.length - s.1) (0, [(impl_FormatInt_m x0.Segment), (sB [98, 97, 115, 101]), (impl_FormatInt_m x0.Base)], ((some ⟨p27, 0, none⟩), 3)) sl5 (fun W hm => hm) ⟨(by omega), rfl, Nat.le_refl _, rfl, (by intro z hz; simp only [List.mem_cons, List.not_mem_nil, or_false] at hz; rcases hz with rfl | rfl | rfl <;> omega)⟩ ?_
  rintro ⟨k28, d31, ⟨A32, c33⟩⟩ H36
  obtain ⟨hk34, hF35, hi37, hi38, hi39⟩ : k28 ≤ x0.Ids.length ∧ R2 (x0.Ids.length - k28) k28 d31 = R2 (x0.Ids.length - 0) 0 [(impl_FormatInt_m x0.Segment), (sB [98, 97, 115, 101]), (impl_FormatInt_m x0.Base)] ∧ d31.length ≤ 3 + k28 ∧ d31.length = 3 + k28 ∧ ∀ z ∈ d31, z.size ≤ 1000 := H36
  show CM Tryd.prog 41 _ _ _ _ [(1, .pointer (some (⟨p22, 0, none⟩ : Addr))), (3, .slice A32 d31.length c33), (17, .slice A8 x0.Ids.length c9), (18, .int .i64 ((x0.Ids.length : Nat) : Int)), (19, .int .i64 ((k28 : Nat) : Int))] [iOwn (tSl tStr 9) [.slice A32 d31.length c33] d31, iBox p22 33 K3]
  refine sr ?_
  refine wv vlss ?_
  refine nt' (CM_seq ?_)
  by_cases hl40 : k28 < x0.Ids.length
  ·have g41 := dlT hl40
   have hck := hch.2 k28 (by omega)
   refine CM_condT rfl g41 ?_
   refine CM_skip (QM_then (CM_seq (CM_block (sr (wm ?_)))))
   obtain ⟨a42, rfl, hb43, he44⟩ := q10 (by omega)
   refine wv (vix 1 k28 underlying28 type3) ?_
   refine wv (fun W hm => rv_load underlying3 rfl rfl ((hm.cell0 (show (a42.add (k28 * 1)).block < w.heap.size from by rw [add_block]; exact hb43.1)).trans (rdS_int he44 k28 (by omega)))) ?_
   refine wa (wa (nt' ?_))
   obtain ⟨a45, rfl, hb46, he47⟩ := q20 (by omega)
   let K4 : List Value := [.int .i64 x0.Segment, .int .i64 x0.Base, .slice (some a42) x0.Ids.length c9, .slice A13 x0.Tenants.length c14, .slice (some a45) x0.Rows.length c19]
   refine CM_cut (σ := Option Addr × Nat) (fun s => [(1, .pointer (some (⟨p22, 0, none⟩ : Addr))), (3, .slice s.1 (d31 ++ [((((sB [113]) ++ (impl_FormatInt_m (gt x0.Ids k28))) ++ (sB [43])) ++ (impl_FormatInt_m (gt x0.Rows k28)))]).length s.2), (17, .slice (some a42) x0.Ids.length c9), (18, .int .i64 ((x0.Ids.length : Nat) : Int)), (19, .int .i64 ((k28 : Nat) : Int))]) (fun s => [iOwn (tSl tStr 9) [.slice s.1 (d31 ++ [((((sB [113]) ++ (impl_FormatInt_m (gt x0.Ids k28))) ++ (sB [43])) ++ (impl_FormatInt_m (gt x0.Rows k28)))]).length s.2] (d31 ++ [((((sB [113]) ++ (impl_FormatInt_m (gt x0.Ids k28))) ++ (sB [43])) ++ (impl_FormatInt_m (gt x0.Rows k28)))]), iBox p22 33 K4]) (fun _ => True) ?_ ?_
   ·
    refine rb 15 (s := []) (pk []) ?_
    refine qt 15 0 1 rfl vmv ?_
    refine qt 15 1 3 rfl vmv ?_
    refine qt 15 5 35 rfl (vf underlying33 rfl type28) ?_
    refine qt 15 7 163 rfl vmv ?_
    refine qa [2, 6] ?_
    refine qc 15 167 rfl ?_ ?_
    ·
     refine wcv (cl_fn cb52 rfl) (fun W hm => impl_FormatInt_c W (gt x0.Ids k28) (⟨by omega, by omega⟩) (hT.mem hm)) ?_
     have hz61 := impl_FormatInt_sz (gt x0.Ids k28) (by omega)
     refine qn (pk []) ?_
     have hz62 : ByteArray.size (sB [113]) = 1 := rfl
     refine qt 15 3 175 rfl (fun W hm => rv_addS (p := (sB [113])) (q := (impl_FormatInt_m (gt x0.Ids k28))) rfl rfl (by omega)) ?_
     have hz63 := sz_app (sB [113]) (impl_FormatInt_m (gt x0.Ids k28))
     have hz64 : ByteArray.size (sB [43]) = 1 := rfl
     refine qt 15 4 191 rfl (fun W hm => rv_addS (p := ((sB [113]) ++ (impl_FormatInt_m (gt x0.Ids k28)))) (q := (sB [43])) rfl rfl (by omega)) ?_
     have hz65 := sz_app ((sB [113]) ++ (impl_FormatInt_m (gt x0.Ids k28))) (sB [43])
     refine qo 15 6 255 rfl ?_
     refine wv (vl 1 4 underlying28) ?_
     refine qn (pk []) ?_
     refine qt 15 8 511 rfl (vix 1 k28 underlying28 type3) ?_
     refine qt 15 9 1023 rfl (fun W hm => rv_load underlying3 rfl rfl ((hm.cell0 (show (a45.add (k28 * 1)).block < w.heap.size from by rw [add_block]; exact hb46.1)).trans (rdS_int he47 k28 (by omega)))) ?_
     refine qo 15 10 2047 rfl ?_
     refine wcv (cl_fn cb52 rfl) (fun W hm => impl_FormatInt_c W (gt x0.Rows k28) (⟨by omega, by omega⟩) (hT.mem hm)) ?_
     have hz66 := impl_FormatInt_sz (gt x0.Rows k28) (by omega)
     refine qn (pk []) ?_
     refine qt 15 11 4095 rfl (fun W hm => rv_addS (p := (((sB [113]) ++ (impl_FormatInt_m (gt x0.Ids k28))) ++ (sB [43]))) (q := (impl_FormatInt_m (gt x0.Rows k28))) rfl rfl (by omega)) ?_
     have hz67 := sz_app (((sB [113]) ++ (impl_FormatInt_m (gt x0.Ids k28))) ++ (sB [43])) (impl_FormatInt_m (gt x0.Rows k28))
     refine qo 15 12 8191 rfl ?_
     let K5 : List Value := [.string ((((sB [113]) ++ (impl_FormatInt_m (gt x0.Ids k28))) ++ (sB [43])) ++ (impl_FormatInt_m (gt x0.Rows k28)))]
     refine WM_build (cs := K5) underlying80 type9 rfl (by decide) (by decide) rfl (by kernel_rfl) (Wd_none rfl) (by decide) (fun p68 => ?_)
     refine qn (pk []) ?_
     refine qo 15 13 16383 rfl ?_
     refine ap1 tStr 9 (.slice A32 d31.length c33) d31 ((((sB [113]) ++ (impl_FormatInt_m (gt x0.Ids k28))) ++ (sB [43])) ++ (impl_FormatInt_m (gt x0.Rows k28))) [] [iBox p22 33 K4] K5 (fun W hm => hm) (fun _ _ hs => by cases (Sep.nil hs); exact (els_cons (tStr_own (by omega)) els_nil)) underlying80 type9 (show (d31.length + 1) * 16 ≤ 140737488355328 from by omega) (fun v69 => ?_)
     refine WM_form (n := 0) rfl ?_
     rintro A70 c71 rfl m72
     refine qn (pk []) ?_
     refine qt 15 14 32767 rfl (fun W hm => rv_assign rfl) ?_
     refine QB_done (by kernel_rfl) ?_
     exact QM_cut_normal (A70, c71) sl5 (fun W hm => hm) trivial
    refine qc 15 227 rfl ?_ ?_
    ·
     refine wv (vl 1 4 underlying28) ?_
     refine qn (pk []) ?_
     refine qt 15 8 483 rfl (vix 1 k28 underlying28 type3) ?_
     refine qt 15 9 995 rfl (fun W hm => rv_load underlying3 rfl rfl ((hm.cell0 (show (a45.add (k28 * 1)).block < w.heap.size from by rw [add_block]; exact hb46.1)).trans (rdS_int he47 k28 (by omega)))) ?_
     refine qo 15 2 999 rfl ?_
     refine wcv (cl_fn cb52 rfl) (fun W hm => impl_FormatInt_c W (gt x0.Ids k28) (⟨by omega, by omega⟩) (hT.mem hm)) ?_
     have hz74 := impl_FormatInt_sz (gt x0.Ids k28) (by omega)
     refine qn (pk []) ?_
     have hz75 : ByteArray.size (sB [113]) = 1 := rfl
     refine qt 15 3 1007 rfl (fun W hm => rv_addS (p := (sB [113])) (q := (impl_FormatInt_m (gt x0.Ids k28))) rfl rfl (by omega)) ?_
     have hz76 := sz_app (sB [113]) (impl_FormatInt_m (gt x0.Ids k28))
     have hz77 : ByteArray.size (sB [43]) = 1 := rfl
     refine qt 15 4 1023 rfl (fun W hm => rv_addS (p := ((sB [113]) ++ (impl_FormatInt_m (gt x0.Ids k28)))) (q := (sB [43])) rfl rfl (by omega)) ?_
     have hz78 := sz_app ((sB [113]) ++ (impl_FormatInt_m (gt x0.Ids k28))) (sB [43])
     refine qo 15 10 2047 rfl ?_
     refine wcv (cl_fn cb52 rfl) (fun W hm => impl_FormatInt_c W (gt x0.Rows k28) (⟨by omega, by omega⟩) (hT.mem hm)) ?_
     have hz79 := impl_FormatInt_sz (gt x0.Rows k28) (by omega)
     refine qn (pk []) ?_
     refine qt 15 11 4095 rfl (fun W hm => rv_addS (p := (((sB [113]) ++ (impl_FormatInt_m (gt x0.Ids k28))) ++ (sB [43]))) (q := (impl_FormatInt_m (gt x0.Rows k28))) rfl rfl (by omega)) ?_
     have hz80 := sz_app (((sB [113]) ++ (impl_FormatInt_m (gt x0.Ids k28))) ++ (sB [43])) (impl_FormatInt_m (gt x0.Rows k28))
     refine qo 15 12 8191 rfl ?_
     let K6 : List Value := [.string ((((sB [113]) ++ (impl_FormatInt_m (gt x0.Ids k28))) ++ (sB [43])) ++ (impl_FormatInt_m (gt x0.Rows k28)))]
     refine WM_build (cs := K6) underlying80 type9 rfl (by decide) (by decide) rfl (by kernel_rfl) (Wd_none rfl) (by decide) (fun p81 => ?_)
     refine qn (pk []) ?_
     refine qo 15 13 16383 rfl ?_
     refine ap1 tStr 9 (.slice A32 d31.length c33) d31 ((((sB [113]) ++ (impl_FormatInt_m (gt x0.Ids k28))) ++ (sB [43])) ++ (impl_FormatInt_m (gt x0.Rows k28))) [] [iBox p22 33 K4] K6 (fun W hm => hm) (fun _ _ hs => by cases (Sep.nil hs); exact (els_cons (tStr_own (by omega)) els_nil)) underlying80 type9 (show (d31.length + 1) * 16 ≤ 140737488355328 from by omega) (fun v82 => ?_)
     refine WM_form (n := 0) rfl ?_
     rintro A83 c84 rfl m85
     refine qn (pk []) ?_
     refine qt 15 14 32767 rfl (fun W hm => rv_assign rfl) ?_
     refine QB_done (by kernel_rfl) ?_
     exact QM_cut_normal (A83, c84) sl5 (fun W hm => hm) trivial
    exact QBs_nil
   ·
    rintro ⟨A57, c58⟩ -
    show QM 41 _ _ _ .normal [(1, .pointer (some (⟨p22, 0, none⟩ : Addr))), (3, .slice A57 (d31 ++ [((((sB [113]) ++ (impl_FormatInt_m (gt x0.Ids k28))) ++ (sB [43])) ++ (impl_FormatInt_m (gt x0.Rows k28)))]).length c58), (17, .slice (some a42) x0.Ids.length c9), (18, .int .i64 ((x0.Ids.length : Nat) : Int)), (19, .int .i64 ((k28 : Nat) : Int))] [iOwn (tSl tStr 9) [.slice A57 (d31 ++ [((((sB [113]) ++ (impl_FormatInt_m (gt x0.Ids k28))) ++ (sB [43])) ++ (impl_FormatInt_m (gt x0.Rows k28)))]).length c58] (d31 ++ [((((sB [113]) ++ (impl_FormatInt_m (gt x0.Ids k28))) ++ (sB [43])) ++ (impl_FormatInt_m (gt x0.Rows k28)))]), iBox p22 33 K4]
    refine QM_len (n := 0) rfl ?_
    intro m87 m88
    refine QM_block_normal (QM_then (CM_region ?_))
    refine wv (vadN k28 1 (by omega)) ?_
    refine wm (WM_nil ?_)
    have hn89 := rng_next (R := ByteArray) (body := F1) (k := k28) (s := d31) (s' := (d31 ++ [((((sB [113]) ++ (impl_FormatInt_m (gt x0.Ids k28))) ++ (sB [43])) ++ (impl_FormatInt_m (gt x0.Rows k28)))])) (show k28 < x0.Ids.length from by omega) (rfl) hF35
    exact QM_round (k28 + 1, (d31 ++ [((((sB [113]) ++ (impl_FormatInt_m (gt x0.Ids k28))) ++ (sB [43])) ++ (impl_FormatInt_m (gt x0.Rows k28)))]), (A57, c58)) sl5 (fun W hm => hm) ⟨(by omega), hn89, (show (d31 ++ [((((sB [113]) ++ (impl_FormatInt_m (gt x0.Ids k28))) ++ (sB [43])) ++ (impl_FormatInt_m (gt x0.Rows k28)))]).length ≤ 3 + (k28 + 1) from by first | omega | (simp only [List.length_append, List.length_cons, List.length_nil] at *; omega)), (show (d31 ++ [((((sB [113]) ++ (impl_FormatInt_m (gt x0.Ids k28))) ++ (sB [43])) ++ (impl_FormatInt_m (gt x0.Rows k28)))]).length = 3 + (k28 + 1) from by rw [List.length_append]; show _ + 1 = _; omega), (show ∀ z ∈ (d31 ++ [((((sB [113]) ++ (impl_FormatInt_m (gt x0.Ids k28))) ++ (sB [43])) ++ (impl_FormatInt_m (gt x0.Rows k28)))]), z.size ≤ 1000 from by intro z hz; rcases List.mem_append.1 hz with hz | hz; exact hi39 z hz; rw [List.mem_singleton.1 hz]; exact word_sz (by omega) (by omega))⟩ (rl (by omega))
  ·have g41 := dlF hl40
   refine CM_condF rfl g41 ?_
   refine CM_exit (QM_then_exit (QM_then_exit ?_))
   have hE90 : R2 (x0.Ids.length - 0) 0 [(impl_FormatInt_m x0.Segment), (sB [98, 97, 115, 101]), (impl_FormatInt_m x0.Base)] = Sum.inr d31 := rng_end hl40 hF35
   refine QM_block_hit (QM_then (sr (wm ?_)))
   refine WM_formO (n := 0) rfl (by omega) ?_
   rintro g91 rfl
   have hz93 : ByteArray.size (sB [32]) = 1 := rfl
   refine wcv (cl_fn ⟨f51, _, func51, rfl, by decide⟩ rfl) (fun W hm => join_c W g91 _ d31 (sB [32]) (hm.rdSI (n := 0) rfl) (show 1 ≤ List.length d31 ∧ List.length d31 ≤ 1000 from by omega) (by assumption) (by omega)) ?_
   have hz94 := joinB_sz (show 1 ≤ List.length d31 ∧ List.length d31 ≤ 1000 from by omega).2 (by assumption) (show ByteArray.size (sB [32]) ≤ 1000 by omega)
   refine wa (nt' (CM_ret ?_))
   exact QM_ret1 rfl rfl (fun W hm => ⟨ret_s (show impl_FormatCharge_m x0 = (joinB d31 (sB [32])) from cond_t g24 (fin_inr hE90 (rfl))), hm.below⟩)
 ·
  refine CM_condT rfl (nf g24) ?_
  refine sr (wa (nt' (CM_ret (QM_then_ret ?_))))
  exact QM_ret1 rfl rfl (fun W hm => ⟨ret_s (show impl_FormatCharge_m x0 = (sB []) from cond_f g24 (rfl)), hm.below⟩)

def laws_eqIntS_b1 (x0 : (List Int)) (x1 : (List Int)) (k13 : Nat) : Bool ⊕ (Unit) :=
 cond ((gt x0 k13) != (gt x1 k13)) (Sum.inl false) (Sum.inr ())
def laws_eqIntS_m (x0 : (List Int)) (x1 : (List Int)) : Bool :=
 cond (((x0.length : Nat) : Int) != ((x1.length : Nat) : Int)) false (Sum.elim id (fun (s : Unit) => true) (rng (R := Bool) (fun k (_ : Unit) => laws_eqIntS_b1 x0 x1 k) (x0.length - 0) 0 ()))
theorem cb55 : Cb Tryd.prog 55 := ⟨f55, _, func55, rfl, by decide⟩
theorem laws_eqIntS_c (w : World) (z0 : Value) (x0 : (List Int)) (z1 : Value) (x1 : (List Int)) (r_0 : rdS tInt w w.heap.size z0 x0) (r_1 : rdS tInt w w.heap.size z1 x1) :
  Calls Tryd.prog 55 #[z0, z1] w fun e w' => e = .returned (.bool (laws_eqIntS_m x0 x1)) ∧ Below w.heap.size w w' := by
 obtain ⟨m1, A2, c3, rfl, q4, r5⟩ := rdS_op r_0
 obtain ⟨m6, A7, c8, rfl, q9, r10⟩ := rdS_op r_1
 refine ce2 (L := [(0, .slice A2 x0.length c3), (1, .slice A7 x1.length c8)]) (N := 26) func55 ?_
 refine sr (wa (nt' (CM_seq (sr (wm ?_)))))
 refine wv (vlen underlying28) ?_
 refine wm ?_
 refine wv (vlen underlying28) ?_
 refine wv vneq ?_
 refine nt' ?_
 by_cases h11 : ((x0.length : Nat) : Int) = ((x1.length : Nat) : Int)
 ·have g12 : (((x0.length : Nat) : Int) != ((x1.length : Nat) : Int)) = false := by rw [h11]; exact bne_self_eq_false _
  refine CM_condF rfl g12 ?_
  refine CM_skip (QM_then (CM_seq (sr (wa (nt' (CM_block ?_))))))
  let F1 := fun k (_ : Unit) => laws_eqIntS_b1 x0 x1 k
  let R2 := rng (R := Bool) F1
  refine CM_loop (σ := Nat × (Unit) × (Unit)) (fun s => [(0, .slice A2 x0.length c3), (1, .slice A7 x1.length c8), (5, .int .i64 ((s.1 : Nat) : Int))]) (fun s => []) (fun s => s.1 ≤ x0.length ∧ R2 (x0.length - s.1) s.1 s.2.1 = R2 (x0.length - 0) 0 ()) (fun s => x0.length - s.1) (0, (), ()) sl3 (fun W hm => hm) ⟨(by omega), rfl⟩ ?_
  rintro ⟨k13, ⟨⟩, ⟨⟩⟩ H16
  obtain ⟨hk14, hF15⟩ : k13 ≤ x0.length ∧ R2 (x0.length - k13) k13 () = R2 (x0.length - 0) 0 () := H16
  show CM Tryd.prog 26 _ _ _ _ [(0, .slice A2 x0.length c3), (1, .slice A7 x1.length c8), (5, .int .i64 ((k13 : Nat) : Int))] []
  refine CM_seq (sr (wm (wm ?_)))
  refine wv (vlen underlying28) ?_
  refine wv vlss ?_
  refine nt' ?_
  by_cases hl17 : k13 < x0.length
  ·have g18 := dlT hl17
   refine CM_condT rfl g18 ?_
   refine CM_skip (QM_then (CM_seq (CM_block (CM_seq ?_))))
   refine CM_regionD (by kernel_rfl) (by kernel_rfl) ?_
   refine qm (qm ?_)
   obtain ⟨a19, rfl, hb20, he21⟩ := q4 (by omega)
   refine qv (vix 1 k13 underlying28 type3) ?_
   refine qv (fun W hm => rv_load underlying3 rfl rfl ((hm.cell0 (show (a19.add (k13 * 1)).block < w.heap.size from by rw [add_block]; exact hb20.1)).trans (rdS_int he21 k13 (by omega)))) ?_
   refine qm (qm ?_)
   obtain ⟨a22, rfl, hb23, he24⟩ := q9 (by omega)
   refine qv (vix 1 k13 underlying28 type3) ?_
   refine qv (fun W hm => rv_load underlying3 rfl rfl ((hm.cell0 (show (a22.add (k13 * 1)).block < w.heap.size from by rw [add_block]; exact hb23.1)).trans (rdS_int he24 k13 (by omega)))) ?_
   refine qv vneq ?_
   refine nq' ?_
   by_cases h25 : (gt x0 k13) = (gt x1 k13)
   ·have g26 : ((gt x0 k13) != (gt x1 k13)) = false := by rw [h25]; exact bne_self_eq_false _
    refine CM_condF rfl g26 ?_
    refine CM_skip (QM_block_normal (QM_then (CM_region (wm ?_))))
    refine wv (vadN k13 1 (by omega)) ?_
    refine wa (WM_nil ?_)
    have hn27 := rng_next (R := Bool) (body := F1) (k := k13) (s := ()) (s' := ()) (show k13 < x0.length from by omega) (cond_f g26 (rfl)) hF15
    exact QM_round (k13 + 1, (), ()) sl3 (fun W hm => hm) ⟨(by omega), hn27⟩ (rl (by omega))
   ·have g26 : ((gt x0 k13) != (gt x1 k13)) = true := bne_iff_ne.2 h25
    refine CM_condT rfl g26 ?_
    refine sr (wa (nt' (CM_ret (QM_block_ret (QM_then_ret (QM_then_ret (QM_block_ret (QM_then_ret ?_))))))))
    exact rtb (h := cond_f g12 (fin_inl (rng_ret (body := F1) (k := k13) (s := ()) (show k13 < x0.length from by omega) (cond_t g26 (rfl)) hF15) rfl))
  ·have g18 := dlF hl17
   refine CM_condF rfl g18 ?_
   refine CM_exit (QM_then_exit (QM_then_exit ?_))
   have hE28 : R2 (x0.length - 0) 0 () = Sum.inr () := rng_end hl17 hF15
   refine QM_block_hit (QM_then (sr (wa (nt' (CM_ret ?_)))))
   exact rtb (h := cond_f g12 (fin_inr hE28 (rfl)))
 ·have g12 : (((x0.length : Nat) : Int) != ((x1.length : Nat) : Int)) = true := bne_iff_ne.2 h11
  refine CM_condT rfl g12 ?_
  refine sr (wa (nt' (CM_ret (QM_then_ret ?_))))
  exact rtb (h := cond_t g12 (rfl))

def laws_eqCharge_m (x0 : DCharge) (x1 : DCharge) : Bool :=
 cond (x0.Segment != x1.Segment) false (cond (x0.Base != x1.Base) false (cond (laws_eqIntS_m x0.Ids x1.Ids) (cond (laws_eqIntS_m x0.Tenants x1.Tenants) (cond (laws_eqIntS_m x0.Rows x1.Rows) true false) false) false))
theorem cb15 : Cb Tryd.prog 15 := ⟨f15, _, func15, rfl, by decide⟩
theorem laws_eqCharge_c (w : World) (z0 : List Value) (x0 : DCharge) (z1 : List Value) (x1 : DCharge) (r_0 : tyCharge.rd w w.heap.size z0 x0) (r_1 : tyCharge.rd w w.heap.size z1 x1) :
  Calls Tryd.prog 15 #[.agg z0.toArray, .agg z1.toArray] w fun e w' => e = .returned (.bool (laws_eqCharge_m x0 x1)) ∧ Below w.heap.size w w' := by
 obtain ⟨v1, v3, v5, rfl, r2, r4, r6⟩ := tyCharge_rd r_0
 obtain ⟨m7, A8, c9, rfl, q10, r11⟩ := rdS_op r2
 obtain ⟨m12, A13, c14, rfl, q15, r16⟩ := rdS_op r4
 obtain ⟨m17, A18, c19, rfl, q20, r21⟩ := rdS_op r6
 obtain ⟨v22, v24, v26, rfl, r23, r25, r27⟩ := tyCharge_rd r_1
 obtain ⟨m28, A29, c30, rfl, q31, r32⟩ := rdS_op r23
 obtain ⟨m33, A34, c35, rfl, q36, r37⟩ := rdS_op r25
 obtain ⟨m38, A39, c40, rfl, q41, r42⟩ := rdS_op r27
 refine ce2 (L := [(0, .agg #[.int .i64 x0.Segment, .int .i64 x0.Base, .slice A8 x0.Ids.length c9, .slice A13 x0.Tenants.length c14, .slice A18 x0.Rows.length c19]), (1, .agg #[.int .i64 x1.Segment, .int .i64 x1.Base, .slice A29 x1.Ids.length c30, .slice A34 x1.Tenants.length c35, .slice A39 x1.Rows.length c40])]) (N := 33) func15 ?_
 refine sr ?_
 refine WM_box rfl (Wd_none rfl) (by decide) (fun p43 => ?_)
 refine WM_box rfl (Wd_none rfl) (by decide) (fun p44 => ?_)
 refine wa (nt' (CM_seq (sr ?_)))
 refine wv (vf underlying33 rfl type3) ?_
 refine wv (vl 1 0 underlying3) ?_
 refine wv (vf underlying33 rfl type3) ?_
 refine wv (vl 0 0 underlying3) ?_
 refine wv vneq ?_
 refine nt' ?_
 by_cases h45 : x0.Segment = x1.Segment
 ·have g46 : (x0.Segment != x1.Segment) = false := by rw [h45]; exact bne_self_eq_false _
  refine CM_condF rfl g46 ?_
  refine CM_skip (QM_then (CM_seq (sr ?_)))
  refine wv (vf underlying33 rfl type3) ?_
  refine wv (vl 1 1 underlying3) ?_
  refine wv (vf underlying33 rfl type3) ?_
  refine wv (vl 0 1 underlying3) ?_
  refine wv vneq ?_
  refine nt' ?_
  by_cases h47 : x0.Base = x1.Base
  ·have g48 : (x0.Base != x1.Base) = false := by rw [h47]; exact bne_self_eq_false _
   refine CM_condF rfl g48 ?_
   refine CM_skip (QM_then (CM_seq (sr ?_)))
   refine wv (vf underlying33 rfl type28) ?_
   refine wv (vl 1 2 underlying28) ?_
   refine wv (vf underlying33 rfl type28) ?_
   refine wv (vl 0 2 underlying28) ?_
   refine wcv (cl_fn cb55 rfl) (fun W hm => laws_eqIntS_c W _ x0.Ids _ x1.Ids (hm.rdS0 r11) (hm.rdS0 r32)) ?_
   refine wv vnot ?_
   refine nt' ?_
   rcases Bool.eq_false_or_eq_true (laws_eqIntS_m x0.Ids x1.Ids) with g50 | g50
   ·
    refine CM_condF rfl (nt g50) ?_
    refine CM_skip (QM_then (CM_seq (sr ?_)))
    refine wv (vf underlying33 rfl type28) ?_
    refine wv (vl 1 3 underlying28) ?_
    refine wv (vf underlying33 rfl type28) ?_
    refine wv (vl 0 3 underlying28) ?_
    refine wcv (cl_fn cb55 rfl) (fun W hm => laws_eqIntS_c W _ x0.Tenants _ x1.Tenants (hm.rdS0 r16) (hm.rdS0 r37)) ?_
    refine wv vnot ?_
    refine nt' ?_
    rcases Bool.eq_false_or_eq_true (laws_eqIntS_m x0.Tenants x1.Tenants) with g52 | g52
    ·
     refine CM_condF rfl (nt g52) ?_
     refine CM_skip (QM_then (CM_seq (sr ?_)))
     refine wv (vf underlying33 rfl type28) ?_
     refine wv (vl 1 4 underlying28) ?_
     refine wv (vf underlying33 rfl type28) ?_
     refine wv (vl 0 4 underlying28) ?_
     refine wcv (cl_fn cb55 rfl) (fun W hm => laws_eqIntS_c W _ x0.Rows _ x1.Rows (hm.rdS0 r21) (hm.rdS0 r42)) ?_
     refine wv vnot ?_
     refine nt' ?_
     rcases Bool.eq_false_or_eq_true (laws_eqIntS_m x0.Rows x1.Rows) with g54 | g54
     ·
      refine CM_condF rfl (nt g54) ?_
      refine CM_skip (QM_then (sr (wa (nt' (CM_ret ?_)))))
      exact rtb (h := cond_f g46 (cond_f g48 (cond_t g50 (cond_t g52 (cond_t g54 (rfl))))))
     ·
      refine CM_condT rfl (nf g54) ?_
      refine sr (wa (nt' (CM_ret (QM_then_ret ?_))))
      exact rtb (h := cond_f g46 (cond_f g48 (cond_t g50 (cond_t g52 (cond_f g54 (rfl))))))
    ·
     refine CM_condT rfl (nf g52) ?_
     refine sr (wa (nt' (CM_ret (QM_then_ret ?_))))
     exact rtb (h := cond_f g46 (cond_f g48 (cond_t g50 (cond_f g52 (rfl)))))
   ·
    refine CM_condT rfl (nf g50) ?_
    refine sr (wa (nt' (CM_ret (QM_then_ret ?_))))
    exact rtb (h := cond_f g46 (cond_f g48 (cond_f g50 (rfl))))
  ·have g48 : (x0.Base != x1.Base) = true := bne_iff_ne.2 h47
   refine CM_condT rfl g48 ?_
   refine sr (wa (nt' (CM_ret (QM_then_ret ?_))))
   exact rtb (h := cond_f g46 (cond_t g48 (rfl)))
 ·have g46 : (x0.Segment != x1.Segment) = true := bne_iff_ne.2 h45
  refine CM_condT rfl g46 ?_
  refine sr (wa (nt' (CM_ret (QM_then_ret ?_))))
  exact rtb (h := cond_t g46 (rfl))

end Go.Proofs.YtcjelfdpekbbkaaDoor
