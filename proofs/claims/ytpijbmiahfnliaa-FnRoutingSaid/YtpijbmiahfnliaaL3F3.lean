/-
  Contracts of functions, printed by a program of ours.
-/
import Derived.Test.YtpijbmiahfnliaaL3F2
namespace Go.Proofs.Ytpijbmiahfnliaa
open Go.RowKit
set_option maxRecDepth 100000
set_option maxHeartbeats 4000000
open _root_.Go.Proofs.Try
def impl_IsSet_b1 (x0 : (List Int)) (k6 : Nat) : Bool ⊕ (Unit) :=
 cond (decide ((gt x0 k6) < 0)) (Sum.inl false) (cond (decide (24 ≤ (gt x0 k6))) (Sum.inl false) (cond (decide (0 < ((k6 : Nat) : Int))) (cond (decide ((gt x0 k6) ≤ (gt x0 (k6 - 1)))) (Sum.inl false) (Sum.inr ())) (Sum.inr ())))
def impl_IsSet_m (x0 : (List Int)) : Bool :=
 Sum.elim id (fun (s : Unit) => true) (rng (R := Bool) (fun k (_ : Unit) => impl_IsSet_b1 x0 k) (x0.length - 0) 0 ())
theorem cb67 : Cb Try.prog 67 := ⟨f67, _, func67, rfl, by decide⟩
theorem impl_IsSet_c (w : World) (z0 : Value) (x0 : (List Int)) (r_0 : rdS tInt w w.heap.size z0 x0) :
  Calls Try.prog 67 #[z0] w fun e w' => e = .returned (.bool (impl_IsSet_m x0)) ∧ Below w.heap.size w w' := by
 obtain ⟨m1, A2, c3, rfl, q4, r5⟩ := rdS_op r_0
 refine ce1 (L := [(0, .slice A2 x0.length c3)]) (N := 32) func67 ?_
 refine sr (wa (nt' (CM_seq (sr (wm ?_)))))
 refine wv (vlen underlying37) ?_
 refine wm (nt' (CM_block ?_))
 let F1 := fun k (_ : Unit) => impl_IsSet_b1 x0 k
 let R2 := rng (R := Bool) F1
 refine CM_loop (σ := Nat × (Unit) × (Unit)) (fun s => [(0, .slice A2 x0.length c3), (5, .slice A2 x0.length c3), (6, .int .i64 ((x0.length : Nat) : Int)), (7, .int .i64 ((s.1 : Nat) : Int))]) (fun s => []) (fun s => s.1 ≤ x0.length ∧ R2 (x0.length - s.1) s.1 s.2.1 = R2 (x0.length - 0) 0 ()) (fun s => x0.length - s.1) (0, (), ()) sl4 (fun W hm => hm) ⟨(by omega), rfl⟩ ?_
 rintro ⟨k6, ⟨⟩, ⟨⟩⟩ H9
 obtain ⟨hk7, hF8⟩ : k6 ≤ x0.length ∧ R2 (x0.length - k6) k6 () = R2 (x0.length - 0) 0 () := H9
 show CM Try.prog 32 _ _ _ _ [(0, .slice A2 x0.length c3), (5, .slice A2 x0.length c3), (6, .int .i64 ((x0.length : Nat) : Int)), (7, .int .i64 ((k6 : Nat) : Int))] []
 refine sr ?_
 refine wv vlss ?_
 refine nt' (CM_seq ?_)
 by_cases hl10 : k6 < x0.length
 ·have g11 := dlT hl10
  refine CM_condT rfl g11 ?_
  refine CM_skip (QM_then (CM_seq (CM_block (sr (wm ?_)))))
  obtain ⟨a12, rfl, hb13, he14⟩ := q4 (by omega)
  refine wv (vix 1 k6 underlying37 type3) ?_
  refine wv (fun W hm => rv_load underlying3 rfl rfl ((hm.cell0 (show (a12.add (k6 * 1)).block < w.heap.size from by rw [add_block]; exact hb13.1)).trans (rdS_int he14 k6 (by omega)))) ?_
  refine wa (wa (nt' (sr (wm ?_))))
  refine wv vlss ?_
  refine wm ?_
  by_cases h15 : (gt x0 k6) < 0
  ·have g16 := decide_eq_true h15
   refine ws g16 ?_
   refine ws g16 ?_
   refine wv (vpT g16) ?_
   refine wm ?_
   refine wk ?_
   refine wk ?_
   refine wk ?_
   refine wu ?_
   refine wu ?_
   refine wu ?_
   refine wu ?_
   refine wu ?_
   refine wu ?_
   refine wu ?_
   refine wk ?_
   refine wv (vpT rfl) ?_
   refine nt' ?_
   refine CM_condT rfl rfl ?_
   refine sr (wa (nt' (CM_ret (QM_block_ret (QM_then_ret (QM_then_ret (QM_block_ret (QM_then_ret ?_))))))))
   exact rtb (h := fin_inl (rng_ret (body := F1) (k := k6) (s := ()) (show k6 < x0.length from by omega) (cond_t g16 (rfl)) hF8) rfl)
  ·have g16 := decide_eq_false h15
   refine wg vmv g16 ?_
   refine wg (fun W hm => rv_geq rfl rfl) g16 ?_
   refine wv (vpF g16) ?_
   refine wm ?_
   by_cases h17 : 24 ≤ (gt x0 k6)
   ·have g18 := decide_eq_true h17
    refine ws g18 ?_
    refine ws g18 ?_
    refine ws g18 ?_
    refine wu ?_
    refine wu ?_
    refine wu ?_
    refine wu ?_
    refine wu ?_
    refine wu ?_
    refine wu ?_
    refine ws g18 ?_
    refine wv (vpT g18) ?_
    refine nt' ?_
    refine CM_condT rfl rfl ?_
    refine sr (wa (nt' (CM_ret (QM_block_ret (QM_then_ret (QM_then_ret (QM_block_ret (QM_then_ret ?_))))))))
    exact rtb (h := fin_inl (rng_ret (body := F1) (k := k6) (s := ()) (show k6 < x0.length from by omega) (cond_f g16 (cond_t g18 (rfl))) hF8) rfl)
   ·have g18 := decide_eq_false h17
    refine wg vmv g18 ?_
    refine wg (fun W hm => rv_gtr rfl rfl) g18 ?_
    refine wg vmv g18 ?_
    by_cases h19 : 0 < ((k6 : Nat) : Int)
    ·have g20 := decide_eq_true h19
     refine wg vmv g20 ?_
     refine wg vmv g20 ?_
     refine wg (fun W hm => rv_subN (p := k6) (q := 1) rfl rfl (by omega) (by omega)) g20 ?_
     refine wg (fun W hm => rv_index (sz := 1) (k := k6 - 1) underlying37 type3 rfl rfl rfl (by omega)) g20 ?_
     refine wg (fun W hm => rv_load underlying3 rfl rfl ((hm.cell0 (show (a12.add ((k6 - 1) * 1)).block < w.heap.size from by rw [add_block]; exact hb13.1)).trans (rdS_int he14 (k6 - 1) (by omega)))) g20 ?_
     refine wg vmv g20 ?_
     refine wg (fun W hm => rv_geq rfl rfl) g20 ?_
     refine wg (vpT g20) g18 ?_
     refine wv (vpF g18) ?_
     refine nt' ?_
     by_cases h21 : (gt x0 k6) ≤ (gt x0 (k6 - 1))
     ·have g22 := decide_eq_true h21
      refine CM_condT rfl g22 ?_
      refine sr (wa (nt' (CM_ret (QM_block_ret (QM_then_ret (QM_then_ret (QM_block_ret (QM_then_ret ?_))))))))
      exact rtb (h := fin_inl (rng_ret (body := F1) (k := k6) (s := ()) (show k6 < x0.length from by omega) (cond_f g16 (cond_f g18 (cond_t g20 (cond_t g22 (rfl))))) hF8) rfl)
     ·have g22 := decide_eq_false h21
      refine CM_condF rfl g22 ?_
      refine CM_skip (QM_block_normal (QM_then (CM_region ?_)))
      refine wv (vadN k6 1 (by omega)) ?_
      refine wm (WM_nil ?_)
      have hn23 := rng_next (R := Bool) (body := F1) (k := k6) (s := ()) (s' := ()) (show k6 < x0.length from by omega) (cond_f g16 (cond_f g18 (cond_t g20 (cond_f g22 (rfl))))) hF8
      exact QM_round (k6 + 1, (), ()) sl4 (fun W hm => hm) ⟨(by omega), hn23⟩ (rl (by omega))
    ·have g20 := decide_eq_false h19
     refine ws g20 ?_
     refine ws g20 ?_
     refine ws g20 ?_
     refine ws g20 ?_
     refine ws g20 ?_
     refine ws g20 ?_
     refine ws g20 ?_
     refine wg (vpF g20) g18 ?_
     refine wv (vpF g18) ?_
     refine nt' ?_
     refine CM_condF rfl rfl ?_
     refine CM_skip (QM_block_normal (QM_then (CM_region ?_)))
     refine wv (vadN k6 1 (by omega)) ?_
     refine wm (WM_nil ?_)
     have hn24 := rng_next (R := Bool) (body := F1) (k := k6) (s := ()) (s' := ()) (show k6 < x0.length from by omega) (cond_f g16 (cond_f g18 (cond_f g20 (rfl)))) hF8
     exact QM_round (k6 + 1, (), ()) sl4 (fun W hm => hm) ⟨(by omega), hn24⟩ (rl (by omega))
 ·have g11 := dlF hl10
  refine CM_condF rfl g11 ?_
  refine CM_exit (QM_then_exit (QM_then_exit ?_))
  have hE25 : R2 (x0.length - 0) 0 () = Sum.inr () := rng_end hl10 hF8
  refine QM_block_hit (QM_then (sr (wa (nt' (CM_ret ?_)))))
  exact rtb (h := fin_inr hE25 (rfl))

def impl_HasMember_m (x0 : (List Int)) (x1 : Int) : Bool :=
 (impl_hasInt_m x0 x1)
theorem cb35 : Cb Try.prog 35 := ⟨f35, _, func35, rfl, by decide⟩
theorem impl_HasMember_c (w : World) (z0 : Value) (x0 : (List Int)) (x1 : Int) (r_0 : rdS tInt w w.heap.size z0 x0) :
  Calls Try.prog 35 #[z0, .int .i64 x1] w fun e w' => e = .returned (.bool (impl_HasMember_m x0 x1)) ∧ Below w.heap.size w w' := by
 obtain ⟨m1, A2, c3, rfl, q4, r5⟩ := rdS_op r_0
 refine ce2 (L := [(0, .slice A2 x0.length c3), (1, .int .i64 x1)]) (N := 8) func35 ?_
 refine sr (wa (nt' (sr (wm (wm ?_)))))
 refine wcv (cl_fn cb61 rfl) (fun W hm => impl_hasInt_c W _ x0 x1 (hm.rdS0 r5)) ?_
 refine wa (nt' (CM_ret ?_))
 exact rtb (h := rfl)

def impl_MeetSets_1_m (x0 : Int) (y0 : (List Int)) (y1 : (List Int)) : Bool :=
 cond (impl_HasMember_m y0 x0) (impl_HasMember_m y1 x0) false
theorem cb69 : Cb Try.prog 69 := ⟨f69, _, func69, rfl, by decide⟩
theorem impl_MeetSets_1_c (w : World) (x0 : Int) (p_0 : Nat) (zc0 : List Value) (y0 : (List Int)) (p_1 : Nat) (zc1 : List Value) (y1 : (List Int)) (rc_0 : rdP (tSl tInt 3) w w.heap.size p_0 zc0 y0) (rc_1 : rdP (tSl tInt 3) w w.heap.size p_1 zc1 y1) :
  Calls Try.prog 69 #[.int .i64 x0, .pointer (some ⟨p_0, 0, none⟩), .pointer (some ⟨p_1, 0, none⟩)] w fun e w' => e = .returned (.bool (impl_MeetSets_1_m x0 y0 y1)) ∧ Below w.heap.size w w' := by
 have e1 := rc_0.2.2
 obtain ⟨v2, rfl, r3⟩ := e1
 obtain ⟨m4, A5, c6, rfl, q7, r8⟩ := rdS_op r3
 have e9 := rc_1.2.2
 obtain ⟨v10, rfl, r11⟩ := e9
 obtain ⟨m12, A13, c14, rfl, q15, r16⟩ := rdS_op r11
 refine ce3 (L := [(0, .int .i64 x0), (1, .pointer (some (⟨p_0, 0, none⟩ : Addr))), (2, .pointer (some (⟨p_1, 0, none⟩ : Addr)))]) (N := 13) func69 ?_
 refine sr (wa (nt' (sr ?_)))
 refine wv (fun W hm => rv_load underlying37 rfl rfl (capCell rc_0 rfl rfl hm (o := 0) rfl)) ?_
 refine wm ?_
 refine wcv (cl_fn cb35 rfl) (fun W hm => impl_HasMember_c W _ y0 x0 (hm.rdS0 r8)) ?_
 refine wm ?_
 rcases Bool.eq_false_or_eq_true (impl_HasMember_m y0 x0) with g18 | g18
 ·
  refine wg (fun W hm => rv_load underlying37 rfl rfl (capCell rc_1 rfl rfl hm (o := 0) rfl)) g18 ?_
  refine wg vmv g18 ?_
  refine WM_callV (cl_fn cb35 rfl) (fun W hm => impl_HasMember_c W _ y1 x0 (hm.rdS0 r16)) (Wd_some rfl rfl rfl (bw g18 rfl)) (by decide) ?_
  refine wv (vpT g18) ?_
  refine wa (nt' (CM_ret ?_))
  exact rtb (h := cond_t g18 (rfl))
 ·
  refine ws g18 ?_
  refine ws g18 ?_
  refine ws g18 ?_
  refine wv (vpF g18) ?_
  refine wa (nt' (CM_ret ?_))
  exact rtb (h := cond_f g18 (rfl))

def impl_pick_impl_MeetSets_1_b1 (y0 : (List Int)) (y1 : (List Int)) (k19 : Nat) (d20 : (List Int)) : (List Int) ⊕ ((List Int)) :=
 cond (impl_MeetSets_1_m ((k19 : Nat) : Int) y0 y1) (Sum.inr (d20 ++ [((k19 : Nat) : Int)])) (Sum.inr d20)
def impl_pick_impl_MeetSets_1_m (y0 : (List Int)) (y1 : (List Int)) : (List Int) :=
 Sum.elim id (fun (s : (List Int)) => s) (rng (R := (List Int)) (fun k (s : (List Int)) => impl_pick_impl_MeetSets_1_b1 y0 y1 k s) (24 - 0) 0 [])
theorem cb68 : Cb Try.prog 68 := ⟨f68, _, func68, rfl, by decide⟩
theorem impl_pick_impl_MeetSets_1_c (w : World) (p_0 : Nat) (zc0 : List Value) (y0 : (List Int)) (p_1 : Nat) (zc1 : List Value) (y1 : (List Int)) (rc_0 : rdP (tSl tInt 3) w w.heap.size p_0 zc0 y0) (rc_1 : rdP (tSl tInt 3) w w.heap.size p_1 zc1 y1) :
  Calls Try.prog 68 #[.func (.func 69) #[] #[.pointer (some (⟨p_0, 0, none⟩ : Addr)), .pointer (some (⟨p_1, 0, none⟩ : Addr))]] w fun e w' => ∃ v : Value, e = .returned (v) ∧ Mem w.heap.size w [iOwn (tSl tInt 3) [v] (impl_pick_impl_MeetSets_1_m y0 y1)] w' := by
 have e1 := rc_0.2.2
 obtain ⟨v2, rfl, r3⟩ := e1
 obtain ⟨m4, A5, c6, rfl, q7, r8⟩ := rdS_op r3
 have e9 := rc_1.2.2
 obtain ⟨v10, rfl, r11⟩ := e9
 obtain ⟨m12, A13, c14, rfl, q15, r16⟩ := rdS_op r11
 refine ce1 (L := [(0, .func (.func 69) #[] #[.pointer (some (⟨p_0, 0, none⟩ : Addr)), .pointer (some (⟨p_1, 0, none⟩ : Addr))])]) (N := 18) func68 ?_
 refine sr (wa (nt' (sr ?_)))
 refine WM_build0 (E := tInt) underlying37 type3 (Wd_none rfl) (by decide) (fun p17 => ?_)
 refine wa (nt' (CM_seq (sr (wa (nt' (CM_block ?_))))))
 let F1 := fun k (s : (List Int)) => impl_pick_impl_MeetSets_1_b1 y0 y1 k s
 let R2 := rng (R := (List Int)) F1
 refine CM_loop (σ := Nat × ((List Int)) × (Option Addr × Nat)) (fun s => [(0, .func (.func 69) #[] #[.pointer (some (⟨p_0, 0, none⟩ : Addr)), .pointer (some (⟨p_1, 0, none⟩ : Addr))]), (3, .slice s.2.2.1 s.2.1.length s.2.2.2), (4, .int .i64 ((s.1 : Nat) : Int))]) (fun s => [iOwn (tSl tInt 3) [.slice s.2.2.1 s.2.1.length s.2.2.2] s.2.1]) (fun s => s.1 ≤ 24 ∧ R2 (24 - s.1) s.1 s.2.1 = R2 (24 - 0) 0 [] ∧ s.2.1.length ≤ 0 + s.1) (fun s => 24 - s.1) (0, [], ((some ⟨p17, 0, none⟩), 0)) sl3 (fun W hm => hm) ⟨(by omega), rfl, Nat.le_refl _⟩ ?_
 rintro ⟨k19, d20, ⟨A21, c22⟩⟩ H25
 obtain ⟨hk23, hF24, hi26⟩ : k19 ≤ 24 ∧ R2 (24 - k19) k19 d20 = R2 (24 - 0) 0 [] ∧ d20.length ≤ 0 + k19 := H25
 show CM Try.prog 18 _ _ _ _ [(0, .func (.func 69) #[] #[.pointer (some (⟨p_0, 0, none⟩ : Addr)), .pointer (some (⟨p_1, 0, none⟩ : Addr))]), (3, .slice A21 d20.length c22), (4, .int .i64 ((k19 : Nat) : Int))] [iOwn (tSl tInt 3) [.slice A21 d20.length c22] d20]
 refine CM_seq (sr (wm ?_))
 refine wv vlss ?_
 refine nt' ?_
 by_cases hl27 : k19 < 24
 ·have g28 : (decide (((k19 : Nat) : Int) < 24)) = true := decide_eq_true (by omega)
  refine CM_condT rfl g28 ?_
  refine CM_skip (QM_then (CM_seq (CM_block (sr (wm (wm ?_))))))
  refine wcv (cl_val (first := []) (caps := [.pointer (some (⟨p_0, 0, none⟩ : Addr)), .pointer (some (⟨p_1, 0, none⟩ : Addr))]) (vs := [.int .i64 ((k19 : Nat) : Int)]) (args := [.int .i64 ((k19 : Nat) : Int), .pointer (some (⟨p_0, 0, none⟩ : Addr)), .pointer (some (⟨p_1, 0, none⟩ : Addr))]) cb69 rfl rfl rfl) (fun W hm => impl_MeetSets_1_c W ((k19 : Nat) : Int) _ _ y0 _ _ y1 (hm.rdP0 rc_0) (hm.rdP0 rc_1)) ?_
  refine nt' ?_
  rcases Bool.eq_false_or_eq_true (impl_MeetSets_1_m ((k19 : Nat) : Int) y0 y1) with g30 | g30
  ·
   refine CM_condT rfl g30 ?_
   refine CM_region (wm (wm ?_))
   refine WM_build (cs := [.int .i64 ((k19 : Nat) : Int)]) underlying37 type3 rfl (by decide) (by decide) rfl (by kernel_rfl) (Wd_none rfl) (by decide) (fun p31 => ?_)
   refine ap1 tInt 3 (.slice A21 d20.length c22) d20 ((k19 : Nat) : Int) [] [] [.int .i64 ((k19 : Nat) : Int)] (fun W hm => hm) (fun _ _ hs => by cases (Sep.nil hs); exact (els_cons tInt_own els_nil)) underlying37 type3 (show (d20.length + 1) * 8 ≤ 140737488355328 from by omega) (fun v32 => ?_)
   refine WM_form (n := 0) rfl ?_
   rintro A33 c34 rfl m35
   refine wa (WM_nil (QM_block_normal (QM_then (CM_region (wm ?_)))))
   refine wv (vadN k19 1 (by omega)) ?_
   refine wa (WM_nil ?_)
   have hn37 := rng_next (R := (List Int)) (body := F1) (k := k19) (s := d20) (s' := (d20 ++ [((k19 : Nat) : Int)])) (show k19 < 24 from by omega) (cond_t g30 (rfl)) hF24
   exact QM_round (k19 + 1, (d20 ++ [((k19 : Nat) : Int)]), (A33, c34)) sl3 (fun W hm => hm) ⟨(by omega), hn37, (show (d20 ++ [((k19 : Nat) : Int)]).length ≤ 0 + (k19 + 1) from by first | omega | (simp only [List.length_append, List.length_cons, List.length_nil] at *; omega))⟩ (rl (by omega))
  ·
   refine CM_condF rfl g30 ?_
   refine CM_skip (QM_block_normal (QM_then (CM_region (wm ?_))))
   refine wv (vadN k19 1 (by omega)) ?_
   refine wa (WM_nil ?_)
   have hn38 := rng_next (R := (List Int)) (body := F1) (k := k19) (s := d20) (s' := d20) (show k19 < 24 from by omega) (cond_f g30 (rfl)) hF24
   exact QM_round (k19 + 1, d20, (A21, c22)) sl3 (fun W hm => hm) ⟨(by omega), hn38, (show d20.length ≤ 0 + (k19 + 1) from by first | omega | (simp only [List.length_append, List.length_cons, List.length_nil] at *; omega))⟩ (rl (by omega))
 ·have g28 : (decide (((k19 : Nat) : Int) < 24)) = false := decide_eq_false (by omega)
  refine CM_condF rfl g28 ?_
  refine CM_exit (QM_then_exit (QM_then_exit ?_))
  have hE39 : R2 (24 - 0) 0 [] = Sum.inr d20 := rng_end hl27 hF24
  refine QM_block_hit (QM_then (sr (wm (wa (nt' (CM_ret ?_))))))
  have he40 := (show impl_pick_impl_MeetSets_1_m y0 y1 = d20 from fin_inr hE39 (rfl))
  refine QM_r1 rfl (RR_tmp rfl) (fun W hm => ⟨.slice A21 d20.length c22, ?_, ?_⟩)
  ·first | rw [he40] | rfl
  ·rw [he40]; exact hm

def impl_MeetSets_m (x0 : (List Int)) (x1 : (List Int)) : (List Int) :=
 cond (impl_IsSet_m x0) (cond (impl_IsSet_m x1) (impl_pick_impl_MeetSets_1_m x0 x1) []) []
theorem cb40 : Cb Try.prog 40 := ⟨f40, _, func40, rfl, by decide⟩
theorem impl_MeetSets_c (w : World) (z0 : Value) (x0 : (List Int)) (z1 : Value) (x1 : (List Int)) (r_0 : rdS tInt w w.heap.size z0 x0) (r_1 : rdS tInt w w.heap.size z1 x1) (s_0 : x0.length ≤ 68719476736) (s_1 : x1.length ≤ 68719476736) :
  Calls Try.prog 40 #[z0, z1] w fun e w' => ∃ v : Value, e = .returned (v) ∧ Mem w.heap.size w [iOwn (tSl tInt 3) [v] (impl_MeetSets_m x0 x1)] w' := by
 obtain ⟨m1, A2, c3, rfl, q4, r5⟩ := rdS_op r_0
 obtain ⟨m6, A7, c8, rfl, q9, r10⟩ := rdS_op r_1
 have l11 : x0.length ≤ 68719476736 := s_0
 have l12 : x1.length ≤ 68719476736 := s_1
 refine ce2 (L := [(0, .slice A2 x0.length c3), (1, .slice A7 x1.length c8)]) (N := 15) func40 ?_
 refine sr ?_
 refine WM_box rfl (Wd_none rfl) (by decide) (fun p13 => ?_)
 refine WM_box rfl (Wd_none rfl) (by decide) (fun p14 => ?_)
 refine wa (nt' (CM_seq (sr ?_)))
 refine wv (vl 1 0 underlying37) ?_
 refine wcv (cl_fn cb67 rfl) (fun W hm => impl_IsSet_c W _ x0 (hm.rdS0 r5)) ?_
 refine wv vnot ?_
 refine wm ?_
 rcases Bool.eq_false_or_eq_true (impl_IsSet_m x0) with g16 | g16
 ·
  refine wg (vl 0 0 underlying37) (nt g16) ?_
  refine WM_callV (cl_fn cb67 rfl) (fun W hm => impl_IsSet_c W _ x1 (hm.rdS0 r10)) (Wd_some rfl rfl rfl (bw (nt g16) rfl)) (by decide) ?_
  refine wg vnot (nt g16) ?_
  refine wv (vpF (nt g16)) ?_
  refine nt' ?_
  rcases Bool.eq_false_or_eq_true (impl_IsSet_m x1) with g18 | g18
  ·
   refine CM_condF rfl (nt g18) ?_
   refine CM_skip (QM_then (sr ?_))
   refine wv (fun W hm => rv_makeFunc rfl) ?_
   refine wcl (tSl tInt 3) (impl_pick_impl_MeetSets_1_m x0 x1) (cl_fn cb68 rfl) (fun W hm => impl_pick_impl_MeetSets_1_c W _ _ x0 _ _ x1 (hm.rdPBox (T := (tSl tInt 3)) (n := 1) rfl ⟨_, rfl, (hm.rdS0 r5)⟩) (hm.rdPBox (T := (tSl tInt 3)) (n := 0) rfl ⟨_, rfl, (hm.rdS0 r10)⟩)) (fun z19 => ?_)
   refine WM_form (n := 0) rfl ?_
   rintro A20 c21 rfl m22
   refine wa (nt' (CM_ret ?_))
   have he24 := (show impl_MeetSets_m x0 x1 = (impl_pick_impl_MeetSets_1_m x0 x1) from cond_t g16 (cond_t g18 (rfl)))
   refine QM_r1 rfl (RR_tmp rfl) (fun W hm => ⟨.slice A20 (impl_pick_impl_MeetSets_1_m x0 x1).length c21, ?_, ?_⟩)
   ·first | rw [he24] | rfl
   ·rw [he24]; exact (hm.pick [0] (by decide))
  ·
   refine CM_condT rfl (nf g18) ?_
   refine sr (wa (nt' (CM_ret (QM_then_ret ?_))))
   refine QM_items (fun W hm => hm.addNil (E := tInt) (e := 3)) ?_
   have he26 := (show impl_MeetSets_m x0 x1 = [] from cond_t g16 (cond_f g18 (rfl)))
   refine QM_r1 rfl (RR_tmp rfl) (fun W hm => ⟨.slice none 0 0, ?_, ?_⟩)
   ·first | rw [he26] | rfl
   ·rw [he26]; exact (hm.pick [0] (by decide))
 ·
  refine ws (nf g16) ?_
  refine ws (nf g16) ?_
  refine ws (nf g16) ?_
  refine wv (vpT (nf g16)) ?_
  refine nt' ?_
  refine CM_condT rfl rfl ?_
  refine sr (wa (nt' (CM_ret (QM_then_ret ?_))))
  refine QM_items (fun W hm => hm.addNil (E := tInt) (e := 3)) ?_
  have he28 := (show impl_MeetSets_m x0 x1 = [] from cond_f g16 (rfl))
  refine QM_r1 rfl (RR_tmp rfl) (fun W hm => ⟨.slice none 0 0, ?_, ?_⟩)
  ·first | rw [he28] | rfl
  ·rw [he28]; exact (hm.pick [0] (by decide))

theorem IsSet_b_same (x : List Int) (k : Nat) : impl_IsSet_b1 x k = spec_IsSet_b1 x k := by
  unfold impl_IsSet_b1 spec_IsSet_b1 spec_l1In_m
  by_cases h1 : gt x k < 0
  · have h2 : ¬ 0 ≤ gt x k := by omega
    simp only [decide_eq_true h1, decide_eq_false h2, cond_true, cond_false]
  · have h2 : 0 ≤ gt x k := by omega
    by_cases h3 : 24 ≤ gt x k
    · have h4 : ¬ gt x k ≤ 23 := by omega
      simp only [decide_eq_false h1, decide_eq_true h2, decide_eq_true h3, decide_eq_false h4, cond_true, cond_false]
    · have h4 : gt x k ≤ 23 := by omega
      simp only [decide_eq_false h1, decide_eq_true h2, decide_eq_false h3, decide_eq_true h4, cond_true, cond_false]
theorem IsSet_same (x : List Int) : impl_IsSet_m x = spec_IsSet_m x := by
  unfold impl_IsSet_m spec_IsSet_m
  simp only [IsSet_b_same]
theorem HasMember_same (x : List Int) (i : Int) : impl_hasInt_m x i = spec_HasMember_m x i := rfl
theorem hasInt_any (x : List Int) (i : Int) : impl_hasInt_m x i = x.any fun y => y == i := by
  unfold impl_hasInt_m
  rw [rng_any (p := fun y => y == i) (r := true) (fun j _ => rfl)]
  cases x.any fun y => y == i <;> rfl
theorem IsSet_facts {x : List Int} (h : spec_IsSet_m x = true) : x.Pairwise (· < ·) ∧ ∀ y ∈ x, 0 ≤ y ∧ y < 24 := by
  unfold spec_IsSet_m at h
  rw [rng_allN (p := fun k => spec_IsSet_b1 x k == .inr ()) (r := false) (fun k _ => by
    unfold spec_IsSet_b1
    cases spec_l1In_m (gt x k) 0 23 <;> cases decide (0 < ((k : Nat) : Int)) <;> cases decide (gt x k ≤ gt x (k - 1)) <;> rfl), cb_rng, Bool.and_true, List.all_eq_true] at h
  have h1 : ∀ k, k < x.length → (0 ≤ gt x k ∧ gt x k < 24) ∧ (0 < k → gt x (k - 1) < gt x k) := by
    intro k hk
    have h2 := h k (List.mem_range.2 hk)
    unfold spec_IsSet_b1 at h2
    cases h3 : spec_l1In_m (gt x k) 0 23 with
    | false => rw [h3] at h2; cases h2
    | true =>
      have h4 := spec_l1In_fact h3
      refine ⟨by omega, fun hp => ?_⟩
      rw [h3, decide_eq_true (show 0 < ((k : Nat) : Int) by omega)] at h2
      by_cases h5 : gt x k ≤ gt x (k - 1)
      · rw [decide_eq_true h5] at h2; cases h2
      · omega
  refine ⟨adj_rise fun k hp hk => (h1 k hk).2 hp, fun y hy => ?_⟩
  obtain ⟨k, hk, rfl⟩ := List.getElem_of_mem hy
  rw [← gt_at hk]
  exact (h1 k hk).1
theorem MeetSets_same (x y : List Int) : impl_MeetSets_m x y = spec_MeetSets_m x y := by
  rw [spec_MeetSets_form]
  unfold impl_MeetSets_m
  rw [IsSet_same, IsSet_same]
  cases hx : spec_IsSet_m x with
  | false => rfl
  | true =>
    cases hy : spec_IsSet_m y with
    | false => rfl
    | true =>
      obtain ⟨h1, h2⟩ := IsSet_facts hx
      show impl_pick_impl_MeetSets_1_m x y = List.filter _ x
      unfold impl_pick_impl_MeetSets_1_m
      rw [rng_rangeFM (n := 24) (c := fun k => x.any (fun z => z == ((k : Nat) : Int)) && spec_HasMember_m y ((k : Nat) : Int)) (g := fun k => ((k : Nat) : Int)) (fun j d _ => by
        unfold impl_pick_impl_MeetSets_1_b1 impl_MeetSets_1_m impl_HasMember_m
        rw [hasInt_any, HasMember_same]
        cases x.any (fun z => z == ((j : Nat) : Int)) <;> cases spec_HasMember_m y ((j : Nat) : Int) <;> rfl), List.range_eq_range']
      exact set_filter (fun z => spec_HasMember_m y z) 24 0 x h1 (fun z hz => by have := h2 z hz; omega)
theorem MeetSets_len (x y : List Int) : (impl_MeetSets_m x y).length ≤ x.length := by
  rw [MeetSets_same, spec_MeetSets_form]
  cases (spec_IsSet_m x && spec_IsSet_m y)
  · exact Nat.zero_le _
  · exact List.length_filter_le _ _
theorem impl_FindSpan_sm {B : Nat} {l : List DSpan} (h : ∀ z ∈ l, smSpan B z) (v : Int) : (impl_FindSpan_m l v).length ≤ B := by
  unfold impl_FindSpan_m
  rcases rng_find (P := fun (r : List Int) => r.length ≤ B) (n := l.length) (b := fun k (_ : Unit) => impl_FindSpan_b1 l v k) (fun j hj => by
    show (∃ r, impl_FindSpan_b1 l v j = _ ∧ _) ∨ impl_FindSpan_b1 l v j = _
    unfold impl_FindSpan_b1
    cases impl_within_m v (gt l j).From (gt l j).To
    · exact .inr rfl
    · exact .inl ⟨_, rfl, h _ (gt_mem hj)⟩) (l.length - 0) 0 (by omega) with ⟨r, h1, h2⟩ | h1
  · rw [h1]; exact h2
  · rw [h1]; exact Nat.zero_le _
def impl_probe_b2 (x0 : DIndex) (x1 : DRow) (x2 : (List Int)) (k75 : Nat) (d76 : (List Int)) (s79 : Int) : ((List Int) × Int) ⊕ (((List Int) × Int) ⊕ ((List Int) × Int)) :=
 cond (((d76.length : Nat) : Int) == 0) (Sum.inr (Sum.inl (d76, s79))) (Sum.inr (Sum.inr ((impl_MeetSets_m d76 (impl_FindSpan_m (gt x0.Fields ((gt x2 k75).toNat)) (gt x1.Values ((gt x2 k75).toNat)))), (IntKind.i64.wrap (s79 + (IntKind.i64.wrap (1 + (if (((impl_FindSpan_m (gt x0.Fields ((gt x2 k75).toNat)) (gt x1.Values ((gt x2 k75).toNat))).length : Nat) : Int) < ((d76.length : Nat) : Int) then (((impl_FindSpan_m (gt x0.Fields ((gt x2 k75).toNat)) (gt x1.Values ((gt x2 k75).toNat))).length : Nat) : Int) else ((d76.length : Nat) : Int)))))))))
def impl_probe_b1 (x0 : DIndex) (k35 : Nat) (d36 : (List Int)) : ((List Int) × Int) ⊕ ((List Int)) :=
 Sum.inr (d36 ++ [(gt x0.Queries k35).Id])
def impl_probe_m (x0 : DIndex) (x1 : DRow) (x2 : (List Int)) : ((List Int) × Int) :=
 Sum.elim id (fun (s1_ : (List Int)) => Sum.elim id (fun (s : (List Int) × Int) => (s.1, s.2)) (rngb (R := ((List Int) × Int)) (fun k (s : (List Int) × Int) => impl_probe_b2 x0 x1 x2 k s.1 s.2) (x2.length - 0) 0 (s1_, 0))) (rng (R := ((List Int) × Int)) (fun k (s : (List Int)) => impl_probe_b1 x0 k s) (x0.Queries.length - 0) 0 [])
theorem cb79 : Cb Try.prog 79 := ⟨f79, _, func79, rfl, by decide⟩
theorem impl_probe_c (w : World) (z0 : List Value) (x0 : DIndex) (z1 : List Value) (x1 : DRow) (z2 : Value) (x2 : (List Int)) (r_0 : tyIndex.rd w w.heap.size z0 x0) (r_1 : tyRow.rd w w.heap.size z1 x1) (r_2 : rdS tInt w w.heap.size z2 x2) (s_0 : smIndex 68719476736 x0) (s_1 : smRow 68719476736 x1) (s_2 : x2.length ≤ 68719476736) (hf : x0.Fields.length = 3) (hv : x1.Values.length = 3) (ho : ∀ y ∈ x2, 0 ≤ y ∧ y ≤ 2) :
  Calls Try.prog 79 #[.agg z0.toArray, .agg z1.toArray, z2] w fun e w' => ∃ v : Value, e = .returned (.tuple #[v, .int .i64 ((impl_probe_m x0 x1 x2).2)]) ∧ Mem w.heap.size w [iOwn (tSl tInt 3) [v] (impl_probe_m x0 x1 x2).1] w' := by
 obtain ⟨v1, v3, rfl, r2, r4⟩ := tyIndex_rd r_0
 obtain ⟨m5, A6, c7, rfl, q8, r9⟩ := rdS_op r2
 obtain ⟨m10, A11, c12, rfl, q13, r14⟩ := rdS_op r4
 obtain ⟨v15, rfl, r16⟩ := tyRow_rd r_1
 obtain ⟨m17, A18, c19, rfl, q20, r21⟩ := rdS_op r16
 obtain ⟨m22, A23, c24, rfl, q25, r26⟩ := rdS_op r_2
 have l27 : x0.Queries.length ≤ 68719476736 := s_0.1.1
 have l28 : x0.Fields.length ≤ 68719476736 := s_0.2.1
 have l29 : x1.Values.length ≤ 68719476736 := s_1
 have l30 : x2.length ≤ 68719476736 := s_2
 refine ce3 (L := [(0, .agg #[.slice A6 x0.Queries.length c7, .slice A11 x0.Fields.length c12]), (1, .agg #[.int .i64 x1.Id, .slice A18 x1.Values.length c19]), (2, .slice A23 x2.length c24)]) (N := 63) func79 ?_
 refine sr ?_
 refine WM_box rfl (Wd_none rfl) (by decide) (fun p31 => ?_)
 refine WM_box rfl (Wd_none rfl) (by decide) (fun p32 => ?_)
 refine wa (wa (nt' (sr ?_)))
 refine WM_build0 (E := tInt) underlying37 type3 (Wd_none rfl) (by decide) (fun p33 => ?_)
 refine wa (nt' (CM_seq (sr ?_)))
 refine wv (vf underlying27 rfl type24) ?_
 refine wv (vl 2 0 underlying24) ?_
 refine wv (vlen underlying24) ?_
 refine wm (nt' (CM_block ?_))
 let F1 := fun k (s : (List Int)) => impl_probe_b1 x0 k s
 let R3 := rng (R := ((List Int) × Int)) F1
 let K5 : List Value := [.slice A6 x0.Queries.length c7, .slice A11 x0.Fields.length c12]
 let I9 : It := iBox p32 50 [.int .i64 x1.Id, .slice A18 x1.Values.length c19]
 refine CM_loop (σ := Nat × ((List Int)) × (Option Addr × Nat)) (fun s => [(2, .slice A23 x2.length c24), (3, .pointer (some (⟨p31, 0, none⟩ : Addr))), (4, .pointer (some (⟨p32, 0, none⟩ : Addr))), (8, .slice s.2.2.1 s.2.1.length s.2.2.2), (17, .slice A6 x0.Queries.length c7), (18, .int .i64 ((x0.Queries.length : Nat) : Int)), (19, .int .i64 ((s.1 : Nat) : Int))]) (fun s => [iOwn (tSl tInt 3) [.slice s.2.2.1 s.2.1.length s.2.2.2] s.2.1, I9, iBox p31 27 K5]) (fun s => s.1 ≤ x0.Queries.length ∧ R3 (x0.Queries.length - s.1) s.1 s.2.1 = R3 (x0.Queries.length - 0) 0 [] ∧ s.2.1.length ≤ 0 + s.1) (fun s => x0.Queries.length - s.1) (0, [], ((some ⟨p33, 0, none⟩), 0)) sl7 (fun W hm => hm) ⟨(by omega), rfl, Nat.le_refl _⟩ ?_
 rintro ⟨k35, d36, ⟨A37, c38⟩⟩ H41
 obtain ⟨hk39, hF40, hi42⟩ : k35 ≤ x0.Queries.length ∧ R3 (x0.Queries.length - k35) k35 d36 = R3 (x0.Queries.length - 0) 0 [] ∧ d36.length ≤ 0 + k35 := H41
 let I10 : It := iOwn (tSl tInt 3) [.slice A37 d36.length c38] d36
 show CM Try.prog 63 _ _ _ _ [(2, .slice A23 x2.length c24), (3, .pointer (some (⟨p31, 0, none⟩ : Addr))), (4, .pointer (some (⟨p32, 0, none⟩ : Addr))), (8, .slice A37 d36.length c38), (17, .slice A6 x0.Queries.length c7), (18, .int .i64 ((x0.Queries.length : Nat) : Int)), (19, .int .i64 ((k35 : Nat) : Int))] [I10, I9, iBox p31 27 K5]
 refine sr ?_
 refine wv vlss ?_
 refine nt' (CM_seq ?_)
 by_cases hl43 : k35 < x0.Queries.length
 ·have g44 := dlT hl43
  refine CM_condT rfl g44 ?_
  refine CM_skip (QM_then (CM_seq (CM_block (sr ?_))))
  obtain ⟨a45, rfl, hb46, he47⟩ := q8 (by omega)
  refine wv (vix 4 k35 underlying24 type39) ?_
  obtain ⟨_, e53, hc48⟩ := he47 k35 _ (gt_some (show k35 < x0.Queries.length from by omega))
  obtain ⟨v49, v51, rfl, r50, r52⟩ := tyQuery_rd e53
  have l54 : ((gt x0.Queries k35).Conds).length ≤ 68719476736 := (s_0.1.2 _ (gt_mem (show k35 < x0.Queries.length from by omega))).1
  have l55 : ((gt x0.Queries k35).Out).length ≤ 68719476736 := (s_0.1.2 _ (gt_mem (show k35 < x0.Queries.length from by omega))).2
  obtain ⟨m56, A57, c58, rfl, q59, r60⟩ := rdS_op r50
  obtain ⟨m61, A62, c63, rfl, q64, r65⟩ := rdS_op r52
  let K6 : List Value := [.int .i64 ((gt x0.Queries k35).Id), .int .i64 ((gt x0.Queries k35).Tenant), .slice A57 ((gt x0.Queries k35).Conds).length c58, .slice A62 ((gt x0.Queries k35).Out).length c63]
  refine wv (fun W hm => rv_loadN (cs := K6) underlying39 type39 rfl rfl (hm.elCells (show (a45.add (k35 * 4)).block < w.heap.size from by rw [add_block]; exact hb46.1) hc48)) ?_
  refine WM_alloc type39 rfl (Wd_none rfl) (by decide) (fun p66 => ?_)
  let K7 : List Value := [.slice (some a45) x0.Queries.length c7, .slice A11 x0.Fields.length c12]
  refine sb 0 K6 [I10, I9, iBox p31 27 K7] (fun W hm => hm) type39 ?_
  refine nt' (CM_region (wm ?_))
  refine wv (vf underlying39 rfl type3) ?_
  refine wv (vl 0 0 underlying3) ?_
  refine WM_build (cs := [.int .i64 ((gt x0.Queries k35).Id)]) underlying37 type3 rfl (by decide) (by decide) rfl (by kernel_rfl) (Wd_none rfl) (by decide) (fun p67 => ?_)
  refine ap1 tInt 3 (.slice A37 d36.length c38) d36 ((gt x0.Queries k35).Id) [] [iBox p66 39 K6, I9, iBox p31 27 K7] [.int .i64 ((gt x0.Queries k35).Id)] (pk [0, 2, 1, 3, 4]) (fun _ _ hs => by cases (Sep.nil hs); exact (els_cons tInt_own els_nil)) underlying37 type3 (show (d36.length + 1) * 8 ≤ 140737488355328 from by omega) (fun v68 => ?_)
  refine WM_form (n := 0) rfl ?_
  rintro A69 c70 rfl m71
  refine wa (WM_nil (QM_block_normal (QM_then (CM_region ?_))))
  refine wv (vadN k35 1 (by omega)) ?_
  refine wm (WM_nil ?_)
  have hn73 := rng_next (R := ((List Int) × Int)) (body := F1) (k := k35) (s := d36) (s' := (d36 ++ [(gt x0.Queries k35).Id])) (show k35 < x0.Queries.length from by omega) (rfl) hF40
  exact QM_round (k35 + 1, (d36 ++ [(gt x0.Queries k35).Id]), (A69, c70)) sl7 (pk [0, 2, 3]) ⟨(by omega), hn73, (show (d36 ++ [(gt x0.Queries k35).Id]).length ≤ 0 + (k35 + 1) from by first | omega | (simp only [List.length_append, List.length_cons, List.length_nil] at *; omega))⟩ (rl (by omega))
 ·have g44 := dlF hl43
  refine CM_condF rfl g44 ?_
  refine CM_exit (QM_then_exit (QM_then_exit ?_))
  have hE74 : R3 (x0.Queries.length - 0) 0 [] = Sum.inr d36 := rng_end hl43 hF40
  refine QM_block_hit (QM_then (sr (wa (nt' (CM_seq (sr (wm ?_)))))))
  refine wv (vlen underlying37) ?_
  refine wm (nt' ?_)
  let F2 := fun k (s : (List Int) × Int) => impl_probe_b2 x0 x1 x2 k s.1 s.2
  let R4 := rngb (R := ((List Int) × Int)) F2
  refine CM_cut (σ := ((List Int) × Int) × (Option Addr × Nat)) (fun s => [(8, .slice s.2.1 s.1.1.length s.2.2), (11, .int .i64 s.1.2)]) (fun s => [iOwn (tSl tInt 3) [.slice s.2.1 s.1.1.length s.2.2] s.1.1, I9, iBox p31 27 K5]) (fun s => R4 (x2.length - 0) 0 (d36, 0) = Sum.inr s.1) ?_ ?_
  ·
   refine CM_block ?_
   refine CM_loop (σ := Nat × ((List Int) × Int) × (Option Addr × Nat)) (fun s => [(3, .pointer (some (⟨p31, 0, none⟩ : Addr))), (4, .pointer (some (⟨p32, 0, none⟩ : Addr))), (8, .slice s.2.2.1 s.2.1.1.length s.2.2.2), (11, .int .i64 s.2.1.2), (29, .slice A23 x2.length c24), (30, .int .i64 ((x2.length : Nat) : Int)), (31, .int .i64 ((s.1 : Nat) : Int))]) (fun s => [iOwn (tSl tInt 3) [.slice s.2.2.1 s.2.1.1.length s.2.2.2] s.2.1.1, I9, iBox p31 27 K5]) (fun s => s.1 ≤ x2.length ∧ R4 (x2.length - s.1) s.1 s.2.1 = R4 (x2.length - 0) 0 (d36, 0) ∧ s.2.1.1.length ≤ 68719476736) (fun s => x2.length - s.1) (0, (d36, 0), (A37, c38)) sl7 (fun W hm => hm) ⟨(by omega), rfl, (by have := s_0.1.1; dsimp only; omega)⟩ ?_
   rintro ⟨k75, ⟨d76, s79⟩, ⟨A77, c78⟩⟩ H82
   obtain ⟨hk80, hF81, hi83⟩ : k75 ≤ x2.length ∧ R4 (x2.length - k75) k75 (d76, s79) = R4 (x2.length - 0) 0 (d36, 0) ∧ d76.length ≤ 68719476736 := H82
   let I11 : It := iOwn (tSl tInt 3) [.slice A77 d76.length c78] d76
   show CM Try.prog 63 _ _ _ _ [(3, .pointer (some (⟨p31, 0, none⟩ : Addr))), (4, .pointer (some (⟨p32, 0, none⟩ : Addr))), (8, .slice A77 d76.length c78), (11, .int .i64 s79), (29, .slice A23 x2.length c24), (30, .int .i64 ((x2.length : Nat) : Int)), (31, .int .i64 ((k75 : Nat) : Int))] [I11, I9, iBox p31 27 K5]
   refine sr ?_
   refine wv vlss ?_
   refine nt' (CM_seq ?_)
   by_cases hl84 : k75 < x2.length
   ·have g85 := dlT hl84
    have hq := ho _ (gt_mem (show k75 < x2.length from by omega))
    refine CM_condT rfl g85 ?_
    refine CM_skip (QM_then (CM_seq (CM_block (sr ?_))))
    obtain ⟨a86, rfl, hb87, he88⟩ := q25 (by omega)
    refine wv (vix 1 k75 underlying37 type3) ?_
    refine wv (fun W hm => rv_load underlying3 rfl rfl ((hm.cell0 (show (a86.add (k75 * 1)).block < w.heap.size from by rw [add_block]; exact hb87.1)).trans (rdS_int he88 k75 (by omega)))) ?_
    refine wa (nt' (CM_seq (sr (wm ?_))))
    refine wv (vlen underlying37) ?_
    refine wv (fun W hm => rv_eql rfl rfl) ?_
    refine nt' ?_
    by_cases h89 : ((d76.length : Nat) : Int) = 0
    ·have g90 := beq_iff_eq.2 h89
     refine CM_condT rfl g90 ?_
     refine CM_exit (QM_then_exit ?_)
     refine QM_block_miss (by decide) ?_
     refine QM_then_exit (QM_then_exit (QM_block_hit ?_))
     have hE91 := rngb_brk (R := ((List Int) × Int)) (body := F2) (k := k75) (s := (d76, s79)) (s' := (d76, s79)) (show k75 < x2.length from by omega) (cond_t g90 (rfl)) hF81
     exact QM_cut_normal ((d76, s79), (A77, c78)) sl2 (fun W hm => hm) hE91
    ·have g90 := beq_eq_false_iff_ne.2 h89
     refine CM_condF rfl g90 ?_
     refine CM_skip (QM_then (CM_seq ?_))
     obtain ⟨a92, rfl, hb93, he94⟩ := q13 (by omega)
     obtain ⟨_, e96, hc95⟩ := he94 ((gt x2 k75).toNat) _ (gt_some (show ((gt x2 k75).toNat) < x0.Fields.length from by omega))
     have l97 : (gt x0.Fields ((gt x2 k75).toNat)).length ≤ 68719476736 := (s_0.2.2 _ (gt_mem (show ((gt x2 k75).toNat) < x0.Fields.length from by omega))).1
     obtain ⟨v98, rfl, r99⟩ := e96
     obtain ⟨m100, A101, c102, rfl, q103, r104⟩ := rdS_op r99
     obtain ⟨a105, rfl, hb106, he107⟩ := q20 (by omega)
     let K8 : List Value := [.slice A6 x0.Queries.length c7, .slice (some a92) x0.Fields.length c12]
     let I12 : It := iBox p32 50 [.int .i64 x1.Id, .slice (some a105) x1.Values.length c19]
     refine CM_cut (σ := Option Addr × Nat) (fun s => [(3, .pointer (some (⟨p31, 0, none⟩ : Addr))), (4, .pointer (some (⟨p32, 0, none⟩ : Addr))), (8, .slice A77 d76.length c78), (11, .int .i64 s79), (29, .slice (some a86) x2.length c24), (30, .int .i64 ((x2.length : Nat) : Int)), (31, .int .i64 ((k75 : Nat) : Int)), (14, .slice s.1 (impl_FindSpan_m (gt x0.Fields ((gt x2 k75).toNat)) (gt x1.Values ((gt x2 k75).toNat))).length s.2)]) (fun s => [iOwn (tSl tInt 3) [.slice s.1 (impl_FindSpan_m (gt x0.Fields ((gt x2 k75).toNat)) (gt x1.Values ((gt x2 k75).toNat))).length s.2] (impl_FindSpan_m (gt x0.Fields ((gt x2 k75).toNat)) (gt x1.Values ((gt x2 k75).toNat))), I11, I12, iBox p31 27 K8]) (fun _ => True) ?_ ?_
     ·
      refine rb 12 (s := [I11]) (pk [0]) ?_
      refine qt 12 0 1 rfl (vf underlying27 rfl type25) ?_
      refine qt 12 2 5 rfl vmv ?_
      refine qt 12 5 37 rfl (vf underlying50 rfl type37) ?_
      refine qt 12 7 165 rfl vmv ?_
      refine qa [1, 6] ?_
      refine qc 12 167 rfl ?_ ?_
      ·
       refine wv (vl 2 1 underlying25) ?_
       refine qn (pk [0]) ?_
       refine qt 12 3 175 rfl (fun W hm => rv_indexI (sz := 1) (k := (gt x2 k75)) underlying25 type64 rfl rfl rfl (by omega) (by omega)) ?_
       refine qt 12 4 191 rfl (fun W hm => rv_load underlying64 rfl rfl ((hm.cell0 (show (a92.add (((gt x2 k75).toNat) * 1)).block < w.heap.size from by rw [add_block]; exact hb93.1)).trans (hc95 0 _ rfl))) ?_
       refine qo 12 6 255 rfl ?_
       refine wv (vl 1 1 underlying37) ?_
       refine qn (pk [0]) ?_
       refine qt 12 8 511 rfl (fun W hm => rv_indexI (sz := 1) (k := (gt x2 k75)) underlying37 type3 rfl rfl rfl (by omega) (by omega)) ?_
       refine qt 12 9 1023 rfl (fun W hm => rv_load underlying3 rfl rfl ((hm.cell0 (show (a105.add (((gt x2 k75).toNat) * 1)).block < w.heap.size from by rw [add_block]; exact hb106.1)).trans (rdS_int he107 ((gt x2 k75).toNat) (by omega)))) ?_
       refine qo 12 10 2047 rfl ?_
       refine wcl (tSl tInt 3) (impl_FindSpan_m (gt x0.Fields ((gt x2 k75).toNat)) (gt x1.Values ((gt x2 k75).toNat))) (cl_fn cb89 rfl) (fun W hm => impl_FindSpan_c W _ (gt x0.Fields ((gt x2 k75).toNat)) (gt x1.Values ((gt x2 k75).toNat)) (hm.rdS0 r104) (s_0.2.2 _ (gt_mem (show ((gt x2 k75).toNat) < x0.Fields.length from by omega)))) (fun z113 => ?_)
       refine WM_form (n := 0) rfl ?_
       rintro A114 c115 rfl m116
       refine qn (pk [1]) ?_
       refine qt 12 11 4095 rfl (fun W hm => rv_assign rfl) ?_
       refine QB_done (by kernel_rfl) ?_
       exact QM_cut_normal (A114, c115) sl8 (fun W hm => hm) trivial
      refine qc 12 229 rfl ?_ ?_
      ·
       refine wv (vl 1 1 underlying37) ?_
       refine qn (pk [0]) ?_
       refine qt 12 8 485 rfl (fun W hm => rv_indexI (sz := 1) (k := (gt x2 k75)) underlying37 type3 rfl rfl rfl (by omega) (by omega)) ?_
       refine qt 12 9 997 rfl (fun W hm => rv_load underlying3 rfl rfl ((hm.cell0 (show (a105.add (((gt x2 k75).toNat) * 1)).block < w.heap.size from by rw [add_block]; exact hb106.1)).trans (rdS_int he107 ((gt x2 k75).toNat) (by omega)))) ?_
       refine qo 12 1 999 rfl ?_
       refine wv (vl 2 1 underlying25) ?_
       refine qn (pk [0]) ?_
       refine qt 12 3 1007 rfl (fun W hm => rv_indexI (sz := 1) (k := (gt x2 k75)) underlying25 type64 rfl rfl rfl (by omega) (by omega)) ?_
       refine qt 12 4 1023 rfl (fun W hm => rv_load underlying64 rfl rfl ((hm.cell0 (show (a92.add (((gt x2 k75).toNat) * 1)).block < w.heap.size from by rw [add_block]; exact hb93.1)).trans (hc95 0 _ rfl))) ?_
       refine qo 12 10 2047 rfl ?_
       refine wcl (tSl tInt 3) (impl_FindSpan_m (gt x0.Fields ((gt x2 k75).toNat)) (gt x1.Values ((gt x2 k75).toNat))) (cl_fn cb89 rfl) (fun W hm => impl_FindSpan_c W _ (gt x0.Fields ((gt x2 k75).toNat)) (gt x1.Values ((gt x2 k75).toNat)) (hm.rdS0 r104) (s_0.2.2 _ (gt_mem (show ((gt x2 k75).toNat) < x0.Fields.length from by omega)))) (fun z118 => ?_)
       refine WM_form (n := 0) rfl ?_
       rintro A119 c120 rfl m121
       refine qn (pk [1]) ?_
       refine qt 12 11 4095 rfl (fun W hm => rv_assign rfl) ?_
       refine QB_done (by kernel_rfl) ?_
       exact QM_cut_normal (A119, c120) sl8 (fun W hm => hm) trivial
      exact QBs_nil
     ·
      rintro ⟨A109, c110⟩ -
      show QM 63 _ _ _ .normal [(3, .pointer (some (⟨p31, 0, none⟩ : Addr))), (4, .pointer (some (⟨p32, 0, none⟩ : Addr))), (8, .slice A77 d76.length c78), (11, .int .i64 s79), (29, .slice (some a86) x2.length c24), (30, .int .i64 ((x2.length : Nat) : Int)), (31, .int .i64 ((k75 : Nat) : Int)), (14, .slice A109 (impl_FindSpan_m (gt x0.Fields ((gt x2 k75).toNat)) (gt x1.Values ((gt x2 k75).toNat))).length c110)] [iOwn (tSl tInt 3) [.slice A109 (impl_FindSpan_m (gt x0.Fields ((gt x2 k75).toNat)) (gt x1.Values ((gt x2 k75).toNat))).length c110] (impl_FindSpan_m (gt x0.Fields ((gt x2 k75).toNat)) (gt x1.Values ((gt x2 k75).toNat))), I11, I12, iBox p31 27 K8]
      refine QM_len (n := 0) rfl ?_
      intro m123 m124
      refine QM_then (sr (wm (wm ?_)))
      refine wv (vlen underlying37) ?_
      refine wm ?_
      refine wv (vlen underlying37) ?_
      refine wv (fun W hm => rv_min rfl rfl) ?_
      refine wv vadd ?_
      refine wv vadd ?_
      refine wa (nt' (CM_region (wm (wm ?_))))
      refine wcl (tSl tInt 3) (impl_MeetSets_m d76 (impl_FindSpan_m (gt x0.Fields ((gt x2 k75).toNat)) (gt x1.Values ((gt x2 k75).toNat)))) (cl_fn cb40 rfl) (fun W hm => impl_MeetSets_c W _ d76 _ (impl_FindSpan_m (gt x0.Fields ((gt x2 k75).toNat)) (gt x1.Values ((gt x2 k75).toNat))) (hm.rdSI (n := 1) rfl) (hm.rdSI (n := 0) rfl) (show _ ≤ 68719476736 from by omega) (impl_FindSpan_sm (s_0.2.2 _ (gt_mem (by omega))).2 _)) (fun z125 => ?_)
      refine WM_form (n := 0) rfl ?_
      rintro A126 c127 rfl m128
      refine wa (WM_nil (QM_block_normal (QM_then (CM_region ?_))))
      refine wv (vadN k75 1 (by omega)) ?_
      refine wm (WM_nil ?_)
      have hn130 := rngb_next (R := ((List Int) × Int)) (body := F2) (k := k75) (s := (d76, s79)) (s' := ((impl_MeetSets_m d76 (impl_FindSpan_m (gt x0.Fields ((gt x2 k75).toNat)) (gt x1.Values ((gt x2 k75).toNat)))), (IntKind.i64.wrap (s79 + (IntKind.i64.wrap (1 + (if (((impl_FindSpan_m (gt x0.Fields ((gt x2 k75).toNat)) (gt x1.Values ((gt x2 k75).toNat))).length : Nat) : Int) < ((d76.length : Nat) : Int) then (((impl_FindSpan_m (gt x0.Fields ((gt x2 k75).toNat)) (gt x1.Values ((gt x2 k75).toNat))).length : Nat) : Int) else ((d76.length : Nat) : Int)))))))) (show k75 < x2.length from by omega) (cond_f g90 (rfl)) hF81
      exact QM_round (k75 + 1, ((impl_MeetSets_m d76 (impl_FindSpan_m (gt x0.Fields ((gt x2 k75).toNat)) (gt x1.Values ((gt x2 k75).toNat)))), (IntKind.i64.wrap (s79 + (IntKind.i64.wrap (1 + (if (((impl_FindSpan_m (gt x0.Fields ((gt x2 k75).toNat)) (gt x1.Values ((gt x2 k75).toNat))).length : Nat) : Int) < ((d76.length : Nat) : Int) then (((impl_FindSpan_m (gt x0.Fields ((gt x2 k75).toNat)) (gt x1.Values ((gt x2 k75).toNat))).length : Nat) : Int) else ((d76.length : Nat) : Int))))))), (A126, c127)) sl7 (pk [0, 3, 4]) ⟨(by omega), hn130, (show (impl_MeetSets_m d76 (impl_FindSpan_m (gt x0.Fields ((gt x2 k75).toNat)) (gt x1.Values ((gt x2 k75).toNat)))).length ≤ 68719476736 from by exact Nat.le_trans (MeetSets_len _ _) hi83)⟩ (rl (by omega))
   ·have g85 := dlF hl84
    refine CM_condF rfl g85 ?_
    refine CM_exit (QM_then_exit (QM_then_exit (QM_block_hit ?_)))
    have hE131 : R4 (x2.length - 0) 0 (d36, 0) = Sum.inr (d76, s79) := rngb_end hl84 hF81
    exact QM_cut_normal ((d76, s79), (A77, c78)) sl2 (fun W hm => hm) hE131
  ·
   rintro ⟨⟨d76, s79⟩, ⟨A77, c78⟩⟩ H133
   have hE132 : R4 (x2.length - 0) 0 (d36, 0) = Sum.inr (d76, s79) := H133
   show QM 63 _ _ _ .normal [(8, .slice A77 d76.length c78), (11, .int .i64 s79)] [iOwn (tSl tInt 3) [.slice A77 d76.length c78] d76, I9, iBox p31 27 K5]
   refine QM_then (sr (wm (wm (wa (wa (nt' (CM_ret ?_)))))))
   have he134 := (show impl_probe_m x0 x1 x2 = (d76, s79) from fin_inr hE74 (fin_inr hE132 (rfl)))
   refine QM_r2 rfl (RR_tmp rfl) (RR_tmp rfl) (fun W hm => ⟨.slice A77 d76.length c78, ?_, ?_⟩)
   ·first | rw [he134] | rfl
    try rfl
   ·rw [he134]; exact (hm.pick [0] (by decide))

theorem IsRow_same (x : DRow) : impl_IsRow_m x = spec_IsRow_m x := rfl
theorem l1In_and (x a b : Int) : spec_l1In_m x a b = (decide (a ≤ x) && decide (x ≤ b)) := by
  unfold spec_l1In_m
  rw [cb_and]
theorem isOrder_same (x : List Int) : impl_isOrder_m x = spec_l6Order_m x := by
  unfold impl_isOrder_m spec_l6Order_m
  rw [rng_allN (n := 3) (p := fun k => impl_hasInt_m x k) (r := false) (fun k _ => rfl)]
  rw [rng_allN (p := fun k => spec_l1In_m (gt x k) 0 2 && !spec_HasMember_m (List.take k x) (gt x k)) (r := false) (fun k _ => by
    unfold spec_l6Order_b1
    cases spec_l1In_m (gt x k) 0 2 <;> cases spec_HasMember_m (List.take k x) (gt x k) <;> rfl)]
  have hm : ∀ (y : List Int) (i : Int), spec_HasMember_m y i = y.any fun z => z == i := hasInt_any
  by_cases h : x.length = 3
  · match x, h with
    | [a, b, c], _ =>
      simp only [hasInt_any, hm, l1In_and]
      have h3 : List.range 3 = [0, 1, 2] := rfl
      have h8 : [a, b, c].length = 3 := rfl
      have e0 : gt [a, b, c] 0 = a := rfl
      have e1 : gt [a, b, c] 1 = b := rfl
      have e2 : gt [a, b, c] 2 = c := rfl
      rw [h8, h3]
      simp only [List.all_cons, List.all_nil]
      rw [e0, e1, e2]
      simp only [List.any_cons, List.any_nil, List.take]
      simp only [cb_rng, cb_nand, Bool.and_true, Bool.or_false, Bool.not_false]
      rw [Bool.eq_iff_iff]
      simp only [Bool.and_eq_true, Bool.or_eq_true, beq_iff_eq, decide_eq_true_eq, Bool.not_eq_true', Bool.or_eq_false_iff, beq_eq_false_iff_ne, bne, ne_eq]
      have h4 : ((3 : Nat) : Int) = 3 := rfl
      have h5 : ((0 : Nat) : Int) = 0 := rfl
      have h6 : ((1 : Nat) : Int) = 1 := rfl
      have h7 : ((2 : Nat) : Int) = 2 := rfl
      simp only [h4, h5, h6, h7, beq_self_eq_true, Bool.not_true, and_true, true_and]
      constructor <;> intro h <;> omega
  · have h1 : (((x.length : Nat) : Int) == 3) = false := beq_eq_false_iff_ne.2 (by omega)
    have h2 : (((x.length : Nat) : Int) != 3) = true := bne_iff_ne.2 (by omega)
    rw [h1, h2]
    cases (List.range 3).all fun k => impl_hasInt_m x k <;> rfl
theorem impl_IsRow_len {r : DRow} (h : impl_IsRow_m r = true) : r.Values.length = 3 := spec_IsRow_len (by rw [← IsRow_same]; exact h)
theorem impl_IsIndex_fact {x : DIndex} (h : impl_IsIndex_m x = true) : x.Fields.length = 3 := by
  unfold impl_IsIndex_m at h
  cases h1 : impl_AreQueries_m x.Queries <;> rw [h1] at h
  · cases h
  · by_cases h2 : ((x.Fields.length : Nat) : Int) = 3
    · omega
    · rw [bne_iff_ne.2 h2] at h
      cases h
theorem impl_Order_fact {x : List Int} (h : impl_isOrder_m x = true) : ∀ y ∈ x, 0 ≤ y ∧ y ≤ 2 := spec_Order_fact (by rw [← isOrder_same]; exact h)
def impl_ProbeSet_m (x0 : DIndex) (x1 : DRow) (x2 : (List Int)) : ((List Int) × Int) :=
 cond (impl_IsIndex_m x0) (cond (impl_IsRow_m x1) (cond (impl_isOrder_m x2) ((impl_probe_m x0 x1 x2).1, (impl_probe_m x0 x1 x2).2) ([], 0)) ([], 0)) ([], 0)
theorem cb56 : Cb Try.prog 56 := ⟨f56, _, func56, rfl, by decide⟩
theorem impl_ProbeSet_c (w : World) (z0 : List Value) (x0 : DIndex) (z1 : List Value) (x1 : DRow) (z2 : Value) (x2 : (List Int)) (r_0 : tyIndex.rd w w.heap.size z0 x0) (r_1 : tyRow.rd w w.heap.size z1 x1) (r_2 : rdS tInt w w.heap.size z2 x2) (s_0 : smIndex 68719476736 x0) (s_1 : smRow 68719476736 x1) (s_2 : x2.length ≤ 68719476736) :
  Calls Try.prog 56 #[.agg z0.toArray, .agg z1.toArray, z2] w fun e w' => ∃ v : Value, e = .returned (.tuple #[v, .int .i64 ((impl_ProbeSet_m x0 x1 x2).2)]) ∧ Mem w.heap.size w [iOwn (tSl tInt 3) [v] (impl_ProbeSet_m x0 x1 x2).1] w' := by
 obtain ⟨v1, v3, rfl, r2, r4⟩ := tyIndex_rd r_0
 obtain ⟨m5, A6, c7, rfl, q8, r9⟩ := rdS_op r2
 obtain ⟨m10, A11, c12, rfl, q13, r14⟩ := rdS_op r4
 obtain ⟨v15, rfl, r16⟩ := tyRow_rd r_1
 obtain ⟨m17, A18, c19, rfl, q20, r21⟩ := rdS_op r16
 obtain ⟨m22, A23, c24, rfl, q25, r26⟩ := rdS_op r_2
 have l27 : x0.Queries.length ≤ 68719476736 := s_0.1.1
 have l28 : x0.Fields.length ≤ 68719476736 := s_0.2.1
 have l29 : x1.Values.length ≤ 68719476736 := s_1
 have l30 : x2.length ≤ 68719476736 := s_2
 refine ce3 (L := [(0, .agg #[.slice A6 x0.Queries.length c7, .slice A11 x0.Fields.length c12]), (1, .agg #[.int .i64 x1.Id, .slice A18 x1.Values.length c19]), (2, .slice A23 x2.length c24)]) (N := 27) func56 ?_
 refine sr ?_
 refine WM_box rfl (Wd_none rfl) (by decide) (fun p31 => ?_)
 refine WM_box rfl (Wd_none rfl) (by decide) (fun p32 => ?_)
 refine wa (wa (nt' (CM_seq (sr ?_))))
 let K1 : List Value := [.slice A6 x0.Queries.length c7, .slice A11 x0.Fields.length c12]
 refine wv (fun W hm => rv_loadN (cs := K1) underlying27 type27 rfl rfl (hm.boxCells (n := 1) rfl)) ?_
 refine wcv (cl_fn cb25 rfl) (fun W hm => impl_IsIndex_c W _ x0 (tyIndex_mk (x := x0) (hm.rdS0 r9) (hm.rdS0 r14)) s_0) ?_
 refine wv vnot ?_
 refine wm ?_
 rcases Bool.eq_false_or_eq_true (impl_IsIndex_m x0) with g34 | g34
 ·
  have hf := impl_IsIndex_fact g34
  refine wg (fun W hm => rv_loadN (cs := [.int .i64 x1.Id, .slice A18 x1.Values.length c19]) underlying50 type50 rfl rfl (hm.boxCells (n := 0) rfl)) (nt g34) ?_
  refine WM_callV (cl_fn cb77 rfl) (fun W hm => impl_IsRow_c W _ x1 (tyRow_mk (x := x1) (hm.rdS0 r21))) (Wd_some rfl rfl rfl (bw (nt g34) rfl)) (by decide) ?_
  refine wg vnot (nt g34) ?_
  refine wv (vpF (nt g34)) ?_
  refine wm ?_
  rcases Bool.eq_false_or_eq_true (impl_IsRow_m x1) with g36 | g36
  ·
   have hv := impl_IsRow_len g36
   refine wg vmv (nt g36) ?_
   refine WM_callV (cl_fn cb78 rfl) (fun W hm => impl_isOrder_c W _ x2 (hm.rdS0 r26)) (Wd_some rfl rfl rfl (bw (nt g36) rfl)) (by decide) ?_
   refine wg vnot (nt g36) ?_
   refine wv (vpF (nt g36)) ?_
   refine nt' ?_
   rcases Bool.eq_false_or_eq_true (impl_isOrder_m x2) with g38 | g38
   ·
    have ho := impl_Order_fact g38
    refine CM_condF rfl (nt g38) ?_
    refine CM_skip (QM_then (sr ?_))
    refine wv (fun W hm => rv_loadN (cs := K1) underlying27 type27 rfl rfl (hm.boxCells (n := 1) rfl)) ?_
    refine wv (fun W hm => rv_loadN (cs := [.int .i64 x1.Id, .slice A18 x1.Values.length c19]) underlying50 type50 rfl rfl (hm.boxCells (n := 0) rfl)) ?_
    refine wm ?_
    refine WM_call (χ := Value) (val := fun x => .tuple #[x, .int .i64 ((impl_probe_m x0 x1 x2).2)]) (js := fun x => [iOwn (tSl tInt 3) [x] ((impl_probe_m x0 x1 x2).1)]) (cl_fn cb79 rfl) (fun W hm => impl_probe_c W _ x0 _ x1 _ x2 (tyIndex_mk (x := x0) (hm.rdS0 r9) (hm.rdS0 r14)) (tyRow_mk (x := x1) (hm.rdS0 r21)) (hm.rdS0 r26) s_0 s_1 s_2 (hf) (hv) (ho)) (Wd_none rfl) (by decide) (fun z39 => ?_)
    refine WM_form (n := 0) rfl ?_
    rintro A40 c41 rfl m42
    refine wv (fun W hm => rv_extract rfl rfl) ?_
    refine wv (fun W hm => rv_extract rfl rfl) ?_
    refine wa (wa (nt' (CM_ret ?_)))
    have he44 := (show impl_ProbeSet_m x0 x1 x2 = ((impl_probe_m x0 x1 x2).1, (impl_probe_m x0 x1 x2).2) from cond_t g34 (cond_t g36 (cond_t g38 (rfl))))
    refine QM_r2 rfl (RR_tmp rfl) (RR_tmp rfl) (fun W hm => ⟨.slice A40 ((impl_probe_m x0 x1 x2).1).length c41, ?_, ?_⟩)
    ·first | rw [he44] | rfl
     try rfl
    ·rw [he44]; exact (hm.pick [0] (by decide))
   ·
    refine CM_condT rfl (nf g38) ?_
    refine sr (wa (wa (nt' (CM_ret (QM_then_ret ?_)))))
    refine QM_items (fun W hm => hm.addNil (E := tInt) (e := 3)) ?_
    have he46 := (show impl_ProbeSet_m x0 x1 x2 = ([], 0) from cond_t g34 (cond_t g36 (cond_f g38 (rfl))))
    refine QM_r2 rfl (RR_tmp rfl) (RR_tmp rfl) (fun W hm => ⟨.slice none 0 0, ?_, ?_⟩)
    ·first | rw [he46] | rfl
     try rfl
    ·rw [he46]; exact (hm.pick [0] (by decide))
  ·
   refine ws (nf g36) ?_
   refine ws (nf g36) ?_
   refine ws (nf g36) ?_
   refine wv (vpT (nf g36)) ?_
   refine nt' ?_
   refine CM_condT rfl rfl ?_
   refine sr (wa (wa (nt' (CM_ret (QM_then_ret ?_)))))
   refine QM_items (fun W hm => hm.addNil (E := tInt) (e := 3)) ?_
   have he48 := (show impl_ProbeSet_m x0 x1 x2 = ([], 0) from cond_t g34 (cond_f g36 (rfl)))
   refine QM_r2 rfl (RR_tmp rfl) (RR_tmp rfl) (fun W hm => ⟨.slice none 0 0, ?_, ?_⟩)
   ·first | rw [he48] | rfl
    try rfl
   ·rw [he48]; exact (hm.pick [0] (by decide))
 ·
  refine ws (nf g34) ?_
  refine ws (nf g34) ?_
  refine ws (nf g34) ?_
  refine wv (vpT (nf g34)) ?_
  refine wm ?_
  refine wk ?_
  refine wk ?_
  refine wk ?_
  refine wv (vpT rfl) ?_
  refine nt' ?_
  refine CM_condT rfl rfl ?_
  refine sr (wa (wa (nt' (CM_ret (QM_then_ret ?_)))))
  refine QM_items (fun W hm => hm.addNil (E := tInt) (e := 3)) ?_
  have he50 := (show impl_ProbeSet_m x0 x1 x2 = ([], 0) from cond_f g34 (rfl))
  refine QM_r2 rfl (RR_tmp rfl) (RR_tmp rfl) (fun W hm => ⟨.slice none 0 0, ?_, ?_⟩)
  ·first | rw [he50] | rfl
   try rfl
  ·rw [he50]; exact (hm.pick [0] (by decide))

def impl_MatchSet_m (x0 : DIndex) (x1 : DRow) : (List Int) :=
 (impl_ProbeSet_m x0 x1 [0, 1, 2]).1
theorem cb26 : Cb Try.prog 26 := ⟨f26, _, func26, rfl, by decide⟩
theorem impl_MatchSet_c (w : World) (z0 : List Value) (x0 : DIndex) (z1 : List Value) (x1 : DRow) (r_0 : tyIndex.rd w w.heap.size z0 x0) (r_1 : tyRow.rd w w.heap.size z1 x1) (s_0 : smIndex 68719476736 x0) (s_1 : smRow 68719476736 x1) :
  Calls Try.prog 26 #[.agg z0.toArray, .agg z1.toArray] w fun e w' => ∃ v : Value, e = .returned (v) ∧ Mem w.heap.size w [iOwn (tSl tInt 3) [v] (impl_MatchSet_m x0 x1)] w' := by
 obtain ⟨v1, v3, rfl, r2, r4⟩ := tyIndex_rd r_0
 obtain ⟨m5, A6, c7, rfl, q8, r9⟩ := rdS_op r2
 obtain ⟨m10, A11, c12, rfl, q13, r14⟩ := rdS_op r4
 obtain ⟨v15, rfl, r16⟩ := tyRow_rd r_1
 obtain ⟨m17, A18, c19, rfl, q20, r21⟩ := rdS_op r16
 have l22 : x0.Queries.length ≤ 68719476736 := s_0.1.1
 have l23 : x0.Fields.length ≤ 68719476736 := s_0.2.1
 have l24 : x1.Values.length ≤ 68719476736 := s_1
 refine ce2 (L := [(0, .agg #[.slice A6 x0.Queries.length c7, .slice A11 x0.Fields.length c12]), (1, .agg #[.int .i64 x1.Id, .slice A18 x1.Values.length c19])]) (N := 15) func26 ?_
 refine sr ?_
 refine WM_box rfl (Wd_none rfl) (by decide) (fun p25 => ?_)
 refine WM_box rfl (Wd_none rfl) (by decide) (fun p26 => ?_)
 refine wa (nt' (sr ?_))
 refine wv (fun W hm => rv_loadN (cs := [.slice A6 x0.Queries.length c7, .slice A11 x0.Fields.length c12]) underlying27 type27 rfl rfl (hm.boxCells (n := 1) rfl)) ?_
 refine wv (fun W hm => rv_loadN (cs := [.int .i64 x1.Id, .slice A18 x1.Values.length c19]) underlying50 type50 rfl rfl (hm.boxCells (n := 0) rfl)) ?_
 refine WM_build (cs := [.int .i64 0, .int .i64 1, .int .i64 2]) underlying37 type3 rfl (by decide) (by decide) rfl (by kernel_rfl) (Wd_none rfl) (by decide) (fun p27 => ?_)
 refine WM_items (fun W hm => Mem.litOwn (E := tInt) (xs := [0, 1, 2]) rfl (show 3 ≤ maxLen from by decide) (fun _ => (els_cons (E := tInt) (L1 := []) tInt_own (els_cons (E := tInt) (L1 := []) tInt_own (els_cons (E := tInt) (L1 := []) tInt_own els_nil)))) hm) ?_
 refine WM_call (χ := Value) (val := fun x => .tuple #[x, .int .i64 ((impl_ProbeSet_m x0 x1 [0, 1, 2]).2)]) (js := fun x => [iOwn (tSl tInt 3) [x] ((impl_ProbeSet_m x0 x1 [0, 1, 2]).1)]) (cl_fn cb56 rfl) (fun W hm => impl_ProbeSet_c W _ x0 _ x1 _ [0, 1, 2] (tyIndex_mk (x := x0) (hm.rdS0 r9) (hm.rdS0 r14)) (tyRow_mk (x := x1) (hm.rdS0 r21)) (hm.rdSI (n := 0) rfl) s_0 s_1 (show (3 : Nat) ≤ 68719476736 from by decide)) (Wd_none rfl) (by decide) (fun z29 => ?_)
 refine WM_form (n := 0) rfl ?_
 rintro A30 c31 rfl m32
 refine wm ?_
 refine wv (fun W hm => rv_extract rfl rfl) ?_
 refine wv (fun W hm => rv_extract rfl rfl) ?_
 refine wa (wa (nt' (sr (wm (wa (nt' (CM_ret ?_)))))))
 have he34 := (show impl_MatchSet_m x0 x1 = (impl_ProbeSet_m x0 x1 [0, 1, 2]).1 from rfl)
 refine QM_r1 rfl (RR_tmp rfl) (fun W hm => ⟨.slice A30 ((impl_ProbeSet_m x0 x1 [0, 1, 2]).1).length c31, ?_, ?_⟩)
 ·first | rw [he34] | rfl
 ·rw [he34]; exact (hm.pick [0] (by decide))

def impl_copyRow_m (x0 : DRow) : DRow :=
 x0
theorem cb27 : Cb Try.prog 27 := ⟨f27, _, func27, rfl, by decide⟩
theorem impl_copyRow_c (w : World) (z0 : List Value) (x0 : DRow) (r_0 : tyRow.rd w w.heap.size z0 x0) (s_0 : smRow 68719476736 x0) :
  Calls Try.prog 27 #[.agg z0.toArray] w fun e w' => ∃ v : List Value, e = .returned (.agg v.toArray) ∧ Mem w.heap.size w [iOwn tyRow v (impl_copyRow_m x0)] w' := by
 obtain ⟨v1, rfl, r2⟩ := tyRow_rd r_0
 obtain ⟨m3, A4, c5, rfl, q6, r7⟩ := rdS_op r2
 have l8 : x0.Values.length ≤ 68719476736 := s_0
 refine ce1 (L := [(0, .agg #[.int .i64 x0.Id, .slice A4 x0.Values.length c5])]) (N := 9) func27 ?_
 refine sr ?_
 refine WM_box rfl (Wd_none rfl) (by decide) (fun p9 => ?_)
 refine WM_alloc type50 rfl (Wd_none rfl) (by decide) (fun p10 => ?_)
 refine nt' (CM_seq ?_)
 let I1 : It := iBox p9 50 [.int .i64 x0.Id, .slice A4 x0.Values.length c5]
 refine rd2 7 [6] (s := [I1]) (s2 := [iBox p10 50 [.int .i64 0, .slice none 0 0], I1]) (pk [1]) (fun W hm => hm) ?_
 refine qtD 7 0 1 rfl (vf underlying50 rfl type3) ?_
 refine qtD 7 1 3 rfl (vl 1 0 underlying3) ?_
 refine qtD 7 2 7 rfl (vf underlying50 rfl type37) ?_
 refine qtD 7 3 15 rfl (vl 1 1 underlying37) ?_
 refine qoD 7 4 31 rfl ?_
 refine wcl (tSl tInt 3) x0.Values (cl_fn cb57 rfl) (fun W hm => impl_copyInts_c2 W _ x0.Values (hm.rdS0 r7) s_0) (fun z11 => ?_)
 refine WM_form (n := 0) rfl ?_
 rintro A12 c13 rfl m14
 refine qnD (pk [2]) (pk [1, 2]) ?_
 refine qtD 7 5 63 rfl (fun W hm => rv_build (cs := [.int .i64 x0.Id, .slice A12 x0.Values.length c13]) rfl (by kernel_rfl)) ?_
 refine qoD 7 6 127 rfl ?_
 let I2 : It := iOwn (tSl tInt 3) [.slice A12 x0.Values.length c13] x0.Values
 refine sb 0 [.int .i64 x0.Id, .slice A12 x0.Values.length c13] [I2, I1] (pk [1, 0, 2]) type50 ?_
 refine qxD (pk [2]) ?_
 refine QB_done (by kernel_rfl) ?_
 refine QM_then (CM_ret ?_)
 have he16 := (show impl_copyRow_m x0 = x0 from rfl)
 refine QM_r1 rfl (RR_cell (n := 0) rfl rfl underlying50 type50 rfl) (fun W hm => ⟨[.int .i64 x0.Id, .slice A12 x0.Values.length c13], ?_, ?_⟩)
 ·first | rw [he16] | rfl
 ·rw [he16]; exact Mem.join (is := [I2]) (js := []) (fun _ _ hs => tyRow_join (x := x0) hs) (hm.pick [1] (by decide))
theorem impl_copyRow_eq (x0 : DRow) : impl_copyRow_m x0 = x0 := by
 rfl
theorem impl_copyRow_c2 (w : World) (z0 : List Value) (x0 : DRow) (r_0 : tyRow.rd w w.heap.size z0 x0) (s_0 : smRow 68719476736 x0) :
  Calls Try.prog 27 #[.agg z0.toArray] w fun e w' => ∃ v : List Value, e = .returned (.agg v.toArray) ∧ Mem w.heap.size w [iOwn tyRow v x0] w' := by
 have h := impl_copyRow_c w z0 x0 r_0 s_0
 rw [impl_copyRow_eq] at h
 exact h

def impl_AnnotateRows_b1 (x0 : DIndex) (x1 : (List DRow)) (k28 : Nat) (d29 : (List DAnnotated)) : (List DAnnotated) ⊕ ((List DAnnotated)) :=
 cond (decide (0 < (((impl_MatchSet_m x0 (gt x1 k28)).length : Nat) : Int))) (Sum.inr (d29 ++ [(⟨(gt x1 k28), (impl_MatchSet_m x0 (gt x1 k28))⟩ : DAnnotated)])) (Sum.inr d29)
def impl_AnnotateRows_m (x0 : DIndex) (x1 : (List DRow)) : (List DAnnotated) :=
 cond (impl_IsIndex_m x0) (Sum.elim id (fun (s : (List DAnnotated)) => s) (rng (R := (List DAnnotated)) (fun k (s : (List DAnnotated)) => impl_AnnotateRows_b1 x0 x1 k s) (x1.length - 0) 0 [])) []
theorem cb6 : Cb Try.prog 6 := ⟨f6, _, func6, rfl, by decide⟩
theorem impl_AnnotateRows_c (w : World) (z0 : List Value) (x0 : DIndex) (z1 : Value) (x1 : (List DRow)) (r_0 : tyIndex.rd w w.heap.size z0 x0) (r_1 : rdS tyRow w w.heap.size z1 x1) (s_0 : smIndex 68719476736 x0) (s_1 : (x1.length ≤ 68719476736 ∧ ∀ y ∈ x1, smRow 68719476736 y)) :
  Calls Try.prog 6 #[.agg z0.toArray, z1] w fun e w' => ∃ v : Value, e = .returned (v) ∧ Mem w.heap.size w [iOwn (tSl tyAnnotated 52) [v] (impl_AnnotateRows_m x0 x1)] w' := by
 obtain ⟨v1, v3, rfl, r2, r4⟩ := tyIndex_rd r_0
 obtain ⟨m5, A6, c7, rfl, q8, r9⟩ := rdS_op r2
 obtain ⟨m10, A11, c12, rfl, q13, r14⟩ := rdS_op r4
 obtain ⟨m15, A16, c17, rfl, q18, r19⟩ := rdS_op r_1
 have l20 : x0.Queries.length ≤ 68719476736 := s_0.1.1
 have l21 : x0.Fields.length ≤ 68719476736 := s_0.2.1
 have l22 : x1.length ≤ 68719476736 := s_1.1
 refine ce2 (L := [(0, .agg #[.slice A6 x0.Queries.length c7, .slice A11 x0.Fields.length c12]), (1, .slice A16 x1.length c17)]) (N := 35) func6 ?_
 refine sr ?_
 refine WM_box rfl (Wd_none rfl) (by decide) (fun p23 => ?_)
 refine wa (nt' (sr ?_))
 refine WM_build0 (E := tyAnnotated) underlying31 type52 (Wd_none rfl) (by decide) (fun p24 => ?_)
 refine wa (nt' (CM_seq (sr ?_)))
 let K3 : List Value := [.slice A6 x0.Queries.length c7, .slice A11 x0.Fields.length c12]
 refine wv (fun W hm => rv_loadN (cs := K3) underlying27 type27 rfl rfl (hm.boxCells (n := 1) rfl)) ?_
 refine wcv (cl_fn cb25 rfl) (fun W hm => impl_IsIndex_c W _ x0 (tyIndex_mk (x := x0) (hm.rdS0 r9) (hm.rdS0 r14)) s_0) ?_
 refine wv vnot ?_
 refine nt' ?_
 rcases Bool.eq_false_or_eq_true (impl_IsIndex_m x0) with g27 | g27
 ·
  refine CM_condF rfl (nt g27) ?_
  refine CM_skip (QM_then (CM_seq (sr (wm ?_))))
  refine wv (vlen underlying28) ?_
  refine wm (nt' (CM_block ?_))
  let F1 := fun k (s : (List DAnnotated)) => impl_AnnotateRows_b1 x0 x1 k s
  let R2 := rng (R := (List DAnnotated)) F1
  refine CM_loop (σ := Nat × ((List DAnnotated)) × (Option Addr × Nat)) (fun s => [(2, .pointer (some (⟨p23, 0, none⟩ : Addr))), (5, .slice s.2.2.1 s.2.1.length s.2.2.2), (14, .slice A16 x1.length c17), (15, .int .i64 ((x1.length : Nat) : Int)), (16, .int .i64 ((s.1 : Nat) : Int))]) (fun s => [iOwn (tSl tyAnnotated 52) [.slice s.2.2.1 s.2.1.length s.2.2.2] s.2.1, iBox p23 27 K3]) (fun s => s.1 ≤ x1.length ∧ R2 (x1.length - s.1) s.1 s.2.1 = R2 (x1.length - 0) 0 [] ∧ s.2.1.length ≤ 0 + s.1) (fun s => x1.length - s.1) (0, [], ((some ⟨p24, 0, none⟩), 0)) sl5 (fun W hm => hm) ⟨(by omega), rfl, Nat.le_refl _⟩ ?_
  rintro ⟨k28, d29, ⟨A30, c31⟩⟩ H34
  obtain ⟨hk32, hF33, hi35⟩ : k28 ≤ x1.length ∧ R2 (x1.length - k28) k28 d29 = R2 (x1.length - 0) 0 [] ∧ d29.length ≤ 0 + k28 := H34
  let I6 : It := iOwn (tSl tyAnnotated 52) [.slice A30 d29.length c31] d29
  show CM Try.prog 35 _ _ _ _ [(2, .pointer (some (⟨p23, 0, none⟩ : Addr))), (5, .slice A30 d29.length c31), (14, .slice A16 x1.length c17), (15, .int .i64 ((x1.length : Nat) : Int)), (16, .int .i64 ((k28 : Nat) : Int))] [I6, iBox p23 27 K3]
  refine sr ?_
  refine wv vlss ?_
  refine nt' (CM_seq ?_)
  by_cases hl36 : k28 < x1.length
  ·have g37 := dlT hl36
   refine CM_condT rfl g37 ?_
   refine CM_skip (QM_then (CM_seq (CM_block (sr ?_))))
   obtain ⟨a38, rfl, hb39, he40⟩ := q18 (by omega)
   refine wv (vix 2 k28 underlying28 type50) ?_
   obtain ⟨_, e44, hc41⟩ := he40 k28 _ (gt_some (show k28 < x1.length from by omega))
   obtain ⟨v42, rfl, r43⟩ := tyRow_rd e44
   have l45 : ((gt x1 k28).Values).length ≤ 68719476736 := (s_1.2 _ (gt_mem (show k28 < x1.length from by omega)))
   obtain ⟨m46, A47, c48, rfl, q49, r50⟩ := rdS_op r43
   let K4 : List Value := [.int .i64 ((gt x1 k28).Id), .slice A47 ((gt x1 k28).Values).length c48]
   refine wv (fun W hm => rv_loadN (cs := K4) underlying50 type50 rfl rfl (hm.elCells (show (a38.add (k28 * 2)).block < w.heap.size from by rw [add_block]; exact hb39.1) hc41)) ?_
   refine WM_alloc type50 rfl (Wd_none rfl) (by decide) (fun p51 => ?_)
   refine sb 0 K4 [I6, iBox p23 27 K3] (fun W hm => hm) type50 ?_
   refine nt' (sr ?_)
   refine wv (fun W hm => rv_loadN (cs := K3) underlying27 type27 rfl rfl (hm.boxCells (n := 2) rfl)) ?_
   refine wv (fun W hm => rv_loadN (cs := K4) underlying50 type50 rfl rfl (hm.boxCells (n := 0) rfl)) ?_
   refine wcl (tSl tInt 3) (impl_MatchSet_m x0 (gt x1 k28)) (cl_fn cb26 rfl) (fun W hm => impl_MatchSet_c W _ x0 _ (gt x1 k28) (tyIndex_mk (x := x0) (hm.rdS0 r9) (hm.rdS0 r14)) (tyRow_mk (x := (gt x1 k28)) (hm.rdS0 r50)) s_0 (s_1.2 _ (gt_mem (show k28 < x1.length from by omega)))) (fun z52 => ?_)
   refine WM_form (n := 0) rfl ?_
   rintro A53 c54 rfl m55
   refine wa (nt' (sr (wm ?_)))
   refine wv (vlen underlying37) ?_
   refine wv (fun W hm => rv_gtr rfl rfl) ?_
   refine nt' ?_
   by_cases h57 : 0 < (((impl_MatchSet_m x0 (gt x1 k28)).length : Nat) : Int)
   ·have g58 := decide_eq_true h57
    refine CM_condT rfl g58 ?_
    refine CM_region (wm ?_)
    refine wv (fun W hm => rv_loadN (cs := K4) underlying50 type50 rfl rfl (hm.boxCells (n := 1) rfl)) ?_
    refine wcs tyRow (gt x1 k28) (cl_fn cb27 rfl) (fun W hm => impl_copyRow_c2 W _ (gt x1 k28) (tyRow_mk (x := (gt x1 k28)) (hm.rdS0 r50)) (s_1.2 _ (gt_mem (show k28 < x1.length from by omega)))) (fun z59 => ?_)
    refine tyRow_sp ?_
    rintro v60 rfl
    refine WM_form (n := 0) rfl ?_
    rintro A61 c62 rfl m63
    refine wm ?_
    let K5 : List Value := [.int .i64 ((gt x1 k28).Id), .slice A61 ((gt x1 k28).Values).length c62, .slice A53 (impl_MatchSet_m x0 (gt x1 k28)).length c54]
    refine wv (fun W hm => rv_build (cs := K5) rfl (by kernel_rfl)) ?_
    refine WM_build (cs := K5) underlying31 type52 rfl (by decide) (by decide) rfl (by kernel_rfl) (Wd_none rfl) (by decide) (fun p65 => ?_)
    refine ap1 tyAnnotated 52 (.slice A30 d29.length c31) d29 (⟨(gt x1 k28), (impl_MatchSet_m x0 (gt x1 k28))⟩ : DAnnotated) [iOwn (tSl tInt 3) [.slice A61 ((gt x1 k28).Values).length c62] ((gt x1 k28).Values), iOwn (tSl tInt 3) [.slice A53 (impl_MatchSet_m x0 (gt x1 k28)).length c54] (impl_MatchSet_m x0 (gt x1 k28))] [iBox p51 50 K4, iBox p23 27 K3] K5 (pk [0, 4, 1, 2, 3, 5]) (fun _ _ hs => Els.single (tyAnnotated_join (x := (⟨(gt x1 k28), (impl_MatchSet_m x0 (gt x1 k28))⟩ : DAnnotated)) hs)) underlying31 type52 (show (d29.length + 1) * 56 ≤ 140737488355328 from by omega) (fun v66 => ?_)
    refine WM_form (n := 0) rfl ?_
    rintro A67 c68 rfl m69
    refine wa (WM_nil (QM_block_normal (QM_then (CM_region ?_))))
    refine wv (vadN k28 1 (by omega)) ?_
    refine wm (WM_nil ?_)
    have hn71 := rng_next (R := (List DAnnotated)) (body := F1) (k := k28) (s := d29) (s' := (d29 ++ [(⟨(gt x1 k28), (impl_MatchSet_m x0 (gt x1 k28))⟩ : DAnnotated)])) (show k28 < x1.length from by omega) (cond_t g58 (rfl)) hF33
    exact QM_round (k28 + 1, (d29 ++ [(⟨(gt x1 k28), (impl_MatchSet_m x0 (gt x1 k28))⟩ : DAnnotated)]), (A67, c68)) sl5 (pk [0, 2]) ⟨(by omega), hn71, (show (d29 ++ [(⟨(gt x1 k28), (impl_MatchSet_m x0 (gt x1 k28))⟩ : DAnnotated)]).length ≤ 0 + (k28 + 1) from by first | omega | (simp only [List.length_append, List.length_cons, List.length_nil] at *; omega))⟩ (rl (by omega))
   ·have g58 := decide_eq_false h57
    refine CM_condF rfl g58 ?_
    refine CM_skip (QM_block_normal (QM_then (CM_region ?_)))
    refine wv (vadN k28 1 (by omega)) ?_
    refine wm (WM_nil ?_)
    have hn72 := rng_next (R := (List DAnnotated)) (body := F1) (k := k28) (s := d29) (s' := d29) (show k28 < x1.length from by omega) (cond_f g58 (rfl)) hF33
    exact QM_round (k28 + 1, d29, (A30, c31)) sl5 (pk [2, 3]) ⟨(by omega), hn72, (show d29.length ≤ 0 + (k28 + 1) from by first | omega | (simp only [List.length_append, List.length_cons, List.length_nil] at *; omega))⟩ (rl (by omega))
  ·have g37 := dlF hl36
   refine CM_condF rfl g37 ?_
   refine CM_exit (QM_then_exit (QM_then_exit ?_))
   have hE73 : R2 (x1.length - 0) 0 [] = Sum.inr d29 := rng_end hl36 hF33
   refine QM_block_hit (QM_then (sr (wm (wa (nt' (CM_ret ?_))))))
   have he74 := (show impl_AnnotateRows_m x0 x1 = d29 from cond_t g27 (fin_inr hE73 (rfl)))
   refine QM_r1 rfl (RR_tmp rfl) (fun W hm => ⟨.slice A30 d29.length c31, ?_, ?_⟩)
   ·first | rw [he74] | rfl
   ·rw [he74]; exact (hm.pick [0] (by decide))
 ·
  refine CM_condT rfl (nf g27) ?_
  refine sr (wm (wa (nt' (CM_ret (QM_then_ret ?_)))))
  have he75 := (show impl_AnnotateRows_m x0 x1 = [] from cond_f g27 (rfl))
  refine QM_r1 rfl (RR_tmp rfl) (fun W hm => ⟨.slice (some ⟨p24, 0, none⟩) 0 0, ?_, ?_⟩)
  ·first | rw [he75] | rfl
  ·rw [he75]; exact (hm.pick [0] (by decide))

def spec_l3Same_m (x0 : DRow) (x1 : DRow) : Bool :=
 cond (x0.Id == x1.Id) (spec_l2Ints_m x0.Values x1.Values) false
theorem cb28 : Cb Try.prog 28 := ⟨f28, _, func28, rfl, by decide⟩
theorem spec_l3Same_c (w : World) (z0 : List Value) (x0 : DRow) (z1 : List Value) (x1 : DRow) (r_0 : tyRow.rd w w.heap.size z0 x0) (r_1 : tyRow.rd w w.heap.size z1 x1) :
  Calls Try.prog 28 #[.agg z0.toArray, .agg z1.toArray] w fun e w' => e = .returned (.bool (spec_l3Same_m x0 x1)) ∧ Below w.heap.size w w' := by
 obtain ⟨v1, rfl, r2⟩ := tyRow_rd r_0
 obtain ⟨m3, A4, c5, rfl, q6, r7⟩ := rdS_op r2
 obtain ⟨v8, rfl, r9⟩ := tyRow_rd r_1
 obtain ⟨m10, A11, c12, rfl, q13, r14⟩ := rdS_op r9
 refine ce2 (L := [(0, .agg #[.int .i64 x0.Id, .slice A4 x0.Values.length c5]), (1, .agg #[.int .i64 x1.Id, .slice A11 x1.Values.length c12])]) (N := 17) func28 ?_
 refine sr ?_
 refine WM_box rfl (Wd_none rfl) (by decide) (fun p15 => ?_)
 refine WM_box rfl (Wd_none rfl) (by decide) (fun p16 => ?_)
 refine wa (nt' (sr ?_))
 refine wv (vf underlying50 rfl type3) ?_
 refine wv (vl 1 0 underlying3) ?_
 refine wv (vf underlying50 rfl type3) ?_
 refine wv (vl 0 0 underlying3) ?_
 refine wv (fun W hm => rv_eql rfl rfl) ?_
 refine wm ?_
 by_cases h17 : x0.Id = x1.Id
 ·have g18 := beq_iff_eq.2 h17
  refine wg (vf underlying50 rfl type37) g18 ?_
  refine wg (vl 1 1 underlying37) g18 ?_
  refine wg (vf underlying50 rfl type37) g18 ?_
  refine wg (vl 0 1 underlying37) g18 ?_
  refine WM_callV (cl_fn cb29 rfl) (fun W hm => spec_l2Ints_c W _ x0.Values _ x1.Values (hm.rdS0 r7) (hm.rdS0 r14)) (Wd_some rfl rfl rfl (bw g18 rfl)) (by decide) ?_
  refine wv (vpT g18) ?_
  refine wa (nt' (CM_ret ?_))
  exact rtb (h := cond_t g18 (rfl))
 ·have g18 := beq_eq_false_iff_ne.2 h17
  refine ws g18 ?_
  refine ws g18 ?_
  refine ws g18 ?_
  refine ws g18 ?_
  refine ws g18 ?_
  refine wv (vpF g18) ?_
  refine wa (nt' (CM_ret ?_))
  exact rtb (h := cond_f g18 (rfl))

def spec_EqualAnnotated_b1 (x0 : (List DAnnotated)) (x1 : (List DAnnotated)) (k13 : Nat) : Bool ⊕ (Unit) :=
 cond (spec_l3Same_m ((gt x0 k13).Row) ((gt x1 k13).Row)) (cond (spec_l2Ints_m ((gt x0 k13).Set) ((gt x1 k13).Set)) (Sum.inr ()) (Sum.inl false)) (Sum.inl false)
def spec_EqualAnnotated_m (x0 : (List DAnnotated)) (x1 : (List DAnnotated)) : Bool :=
 cond (((x0.length : Nat) : Int) != ((x1.length : Nat) : Int)) false (Sum.elim id (fun (s : Unit) => true) (rng (R := Bool) (fun k (_ : Unit) => spec_EqualAnnotated_b1 x0 x1 k) (x0.length - 0) 0 ()))
theorem cb7 : Cb Try.prog 7 := ⟨f7, _, func7, rfl, by decide⟩
theorem spec_EqualAnnotated_c (w : World) (z0 : Value) (x0 : (List DAnnotated)) (z1 : Value) (x1 : (List DAnnotated)) (r_0 : rdS tyAnnotated w w.heap.size z0 x0) (r_1 : rdS tyAnnotated w w.heap.size z1 x1) :
  Calls Try.prog 7 #[z0, z1] w fun e w' => e = .returned (.bool (spec_EqualAnnotated_m x0 x1)) ∧ Below w.heap.size w w' := by
 obtain ⟨m1, A2, c3, rfl, q4, r5⟩ := rdS_op r_0
 obtain ⟨m6, A7, c8, rfl, q9, r10⟩ := rdS_op r_1
 refine ce2 (L := [(0, .slice A2 x0.length c3), (1, .slice A7 x1.length c8)]) (N := 43) func7 ?_
 refine sr (wa (nt' (CM_seq (sr (wm ?_)))))
 refine wv (vlen underlying31) ?_
 refine wm ?_
 refine wv (vlen underlying31) ?_
 refine wv vneq ?_
 refine nt' ?_
 by_cases h11 : ((x0.length : Nat) : Int) = ((x1.length : Nat) : Int)
 ·have g12 : (((x0.length : Nat) : Int) != ((x1.length : Nat) : Int)) = false := by rw [h11]; exact bne_self_eq_false _
  refine CM_condF rfl g12 ?_
  refine CM_skip (QM_then (CM_seq (sr (wa (nt' (CM_block ?_))))))
  let F1 := fun k (_ : Unit) => spec_EqualAnnotated_b1 x0 x1 k
  let R2 := rng (R := Bool) F1
  refine CM_loop (σ := Nat × (Unit) × (Unit)) (fun s => [(0, .slice A2 x0.length c3), (1, .slice A7 x1.length c8), (5, .int .i64 ((s.1 : Nat) : Int))]) (fun s => []) (fun s => s.1 ≤ x0.length ∧ R2 (x0.length - s.1) s.1 s.2.1 = R2 (x0.length - 0) 0 ()) (fun s => x0.length - s.1) (0, (), ()) sl3 (fun W hm => hm) ⟨(by omega), rfl⟩ ?_
  rintro ⟨k13, ⟨⟩, ⟨⟩⟩ H16
  obtain ⟨hk14, hF15⟩ : k13 ≤ x0.length ∧ R2 (x0.length - k13) k13 () = R2 (x0.length - 0) 0 () := H16
  show CM Try.prog 43 _ _ _ _ [(0, .slice A2 x0.length c3), (1, .slice A7 x1.length c8), (5, .int .i64 ((k13 : Nat) : Int))] []
  refine CM_seq (sr (wm (wm ?_)))
  refine wv (vlen underlying31) ?_
  refine wv vlss ?_
  refine nt' ?_
  by_cases hl17 : k13 < x0.length
  ·have g18 := dlT hl17
   refine CM_condT rfl g18 ?_
   refine CM_skip (QM_then (CM_seq (CM_block (CM_seq ?_))))
   refine CM_regionD (by kernel_rfl) (by kernel_rfl) ?_
   refine qm (qm ?_)
   obtain ⟨a19, rfl, hb20, he21⟩ := q4 (by omega)
   refine qv (vix 3 k13 underlying31 type52) ?_
   refine qv (vf underlying52 rfl type50) ?_
   obtain ⟨_, e27, hc22⟩ := he21 k13 _ (gt_some (show k13 < x0.length from by omega))
   obtain ⟨v23, v25, rfl, r24, r26⟩ := tyAnnotated_rd e27
   obtain ⟨m28, A29, c30, rfl, q31, r32⟩ := rdS_op r24
   obtain ⟨m33, A34, c35, rfl, q36, r37⟩ := rdS_op r26
   refine qv (fun W hm => rv_loadN (cs := [.int .i64 ((gt x0 k13).Row.Id), .slice A29 ((gt x0 k13).Row.Values).length c30]) underlying50 type50 rfl rfl (hm.elPart (show (a19.add (k13 * 3)).block < w.heap.size from by rw [add_block]; exact hb20.1) hc22 rfl)) ?_
   refine qm (qm ?_)
   obtain ⟨a38, rfl, hb39, he40⟩ := q9 (by omega)
   refine qv (vix 3 k13 underlying31 type52) ?_
   refine qv (vf underlying52 rfl type50) ?_
   obtain ⟨_, e46, hc41⟩ := he40 k13 _ (gt_some (show k13 < x1.length from by omega))
   obtain ⟨v42, v44, rfl, r43, r45⟩ := tyAnnotated_rd e46
   obtain ⟨m47, A48, c49, rfl, q50, r51⟩ := rdS_op r43
   obtain ⟨m52, A53, c54, rfl, q55, r56⟩ := rdS_op r45
   refine qv (fun W hm => rv_loadN (cs := [.int .i64 ((gt x1 k13).Row.Id), .slice A48 ((gt x1 k13).Row.Values).length c49]) underlying50 type50 rfl rfl (hm.elPart (show (a38.add (k13 * 3)).block < w.heap.size from by rw [add_block]; exact hb39.1) hc41 rfl)) ?_
   refine QR_callV (cl_fn cb28 rfl) (fun W hm => spec_l3Same_c W _ ((gt x0 k13).Row) _ ((gt x1 k13).Row) (tyRow_mk (x := ((gt x0 k13).Row)) (hm.rdS0 r32)) (tyRow_mk (x := ((gt x1 k13).Row)) (hm.rdS0 r51))) (Wd_none rfl) (by decide) ?_
   refine qv vnot ?_
   refine qm ?_
   rcases Bool.eq_false_or_eq_true (spec_l3Same_m ((gt x0 k13).Row) ((gt x1 k13).Row)) with g58 | g58
   ·
    refine qg vmv (nt g58) ?_
    refine qg vmv (nt g58) ?_
    refine qg (vix 3 k13 underlying31 type52) (nt g58) ?_
    refine qg (vf underlying52 rfl type37) (nt g58) ?_
    refine qg (fun W hm => rv_load underlying37 rfl rfl ((hm.cell0 (show ((a19.add (k13 * 3)).add 2).block < w.heap.size from by rw [add_block, add_block]; exact hb20.1)).trans (hc22 2 _ rfl))) (nt g58) ?_
    refine qg vmv (nt g58) ?_
    refine qg vmv (nt g58) ?_
    refine qg (vix 3 k13 underlying31 type52) (nt g58) ?_
    refine qg (vf underlying52 rfl type37) (nt g58) ?_
    refine qg (fun W hm => rv_load underlying37 rfl rfl ((hm.cell0 (show ((a38.add (k13 * 3)).add 2).block < w.heap.size from by rw [add_block, add_block]; exact hb39.1)).trans (hc41 2 _ rfl))) (nt g58) ?_
    refine QR_callV (cl_fn cb29 rfl) (fun W hm => spec_l2Ints_c W _ ((gt x0 k13).Set) _ ((gt x1 k13).Set) (hm.rdS0 r37) (hm.rdS0 r56)) (Wd_some rfl rfl rfl (bw (nt g58) rfl)) (by decide) ?_
    refine qg vnot (nt g58) ?_
    refine qv (vpF (nt g58)) ?_
    refine nq' ?_
    rcases Bool.eq_false_or_eq_true (spec_l2Ints_m ((gt x0 k13).Set) ((gt x1 k13).Set)) with g60 | g60
    ·
     refine CM_condF rfl (nt g60) ?_
     refine CM_skip (QM_block_normal (QM_then (CM_region (wm ?_))))
     refine wv (vadN k13 1 (by omega)) ?_
     refine wa (WM_nil ?_)
     have hn61 := rng_next (R := Bool) (body := F1) (k := k13) (s := ()) (s' := ()) (show k13 < x0.length from by omega) (cond_t g58 (cond_t g60 (rfl))) hF15
     exact QM_round (k13 + 1, (), ()) sl3 (fun W hm => hm) ⟨(by omega), hn61⟩ (rl (by omega))
    ·
     refine CM_condT rfl (nf g60) ?_
     refine sr (wa (nt' (CM_ret (QM_block_ret (QM_then_ret (QM_then_ret (QM_block_ret (QM_then_ret ?_))))))))
     exact rtb (h := cond_f g12 (fin_inl (rng_ret (body := F1) (k := k13) (s := ()) (show k13 < x0.length from by omega) (cond_t g58 (cond_f g60 (rfl))) hF15) rfl))
   ·
    refine qs (nf g58) ?_
    refine qs (nf g58) ?_
    refine qs (nf g58) ?_
    refine qs (nf g58) ?_
    refine qs (nf g58) ?_
    refine qs (nf g58) ?_
    refine qs (nf g58) ?_
    refine qs (nf g58) ?_
    refine qs (nf g58) ?_
    refine qs (nf g58) ?_
    refine qs (nf g58) ?_
    refine qs (nf g58) ?_
    refine qv (vpT (nf g58)) ?_
    refine nq' ?_
    refine CM_condT rfl rfl ?_
    refine sr (wa (nt' (CM_ret (QM_block_ret (QM_then_ret (QM_then_ret (QM_block_ret (QM_then_ret ?_))))))))
    exact rtb (h := cond_f g12 (fin_inl (rng_ret (body := F1) (k := k13) (s := ()) (show k13 < x0.length from by omega) (cond_f g58 (rfl)) hF15) rfl))
  ·have g18 := dlF hl17
   refine CM_condF rfl g18 ?_
   refine CM_exit (QM_then_exit (QM_then_exit ?_))
   have hE62 : R2 (x0.length - 0) 0 () = Sum.inr () := rng_end hl17 hF15
   refine QM_block_hit (QM_then (sr (wa (nt' (CM_ret ?_)))))
   exact rtb (h := cond_f g12 (fin_inr hE62 (rfl)))
 ·have g12 : (((x0.length : Nat) : Int) != ((x1.length : Nat) : Int)) = true := bne_iff_ne.2 h11
  refine CM_condT rfl g12 ?_
  refine sr (wa (nt' (CM_ret (QM_then_ret ?_))))
  exact rtb (h := cond_t g12 (rfl))

def impl_RouteRows_b1 (x0 : (List DAnnotated)) (x1 : Int) (k9 : Nat) (d10 : (List DRow)) : (List DRow) ⊕ ((List DRow)) :=
 cond (impl_HasMember_m ((gt x0 k9).Set) x1) (Sum.inr (d10 ++ [((gt x0 k9).Row)])) (Sum.inr d10)
def impl_RouteRows_m (x0 : (List DAnnotated)) (x1 : Int) : (List DRow) :=
 Sum.elim id (fun (s : (List DRow)) => s) (rng (R := (List DRow)) (fun k (s : (List DRow)) => impl_RouteRows_b1 x0 x1 k s) (x0.length - 0) 0 [])
theorem cb10 : Cb Try.prog 10 := ⟨f10, _, func10, rfl, by decide⟩
theorem impl_RouteRows_c (w : World) (z0 : Value) (x0 : (List DAnnotated)) (x1 : Int) (r_0 : rdS tyAnnotated w w.heap.size z0 x0) (s_0 : (x0.length ≤ 68719476736 ∧ ∀ y ∈ x0, smAnnotated 68719476736 y)) :
  Calls Try.prog 10 #[z0, .int .i64 x1] w fun e w' => ∃ v : Value, e = .returned (v) ∧ Mem w.heap.size w [iOwn (tSl tyRow 50) [v] (impl_RouteRows_m x0 x1)] w' := by
 obtain ⟨m1, A2, c3, rfl, q4, r5⟩ := rdS_op r_0
 have l6 : x0.length ≤ 68719476736 := s_0.1
 refine ce2 (L := [(0, .slice A2 x0.length c3), (1, .int .i64 x1)]) (N := 27) func10 ?_
 refine sr (wa (nt' (sr ?_)))
 refine WM_build0 (E := tyRow) underlying28 type50 (Wd_none rfl) (by decide) (fun p7 => ?_)
 refine wa (nt' (CM_seq (sr (wm ?_))))
 refine wv (vlen underlying31) ?_
 refine wm (nt' (CM_block ?_))
 let F1 := fun k (s : (List DRow)) => impl_RouteRows_b1 x0 x1 k s
 let R2 := rng (R := (List DRow)) F1
 refine CM_loop (σ := Nat × ((List DRow)) × (Option Addr × Nat)) (fun s => [(1, .int .i64 x1), (5, .slice s.2.2.1 s.2.1.length s.2.2.2), (9, .slice A2 x0.length c3), (10, .int .i64 ((x0.length : Nat) : Int)), (11, .int .i64 ((s.1 : Nat) : Int))]) (fun s => [iOwn (tSl tyRow 50) [.slice s.2.2.1 s.2.1.length s.2.2.2] s.2.1]) (fun s => s.1 ≤ x0.length ∧ R2 (x0.length - s.1) s.1 s.2.1 = R2 (x0.length - 0) 0 [] ∧ s.2.1.length ≤ 0 + s.1) (fun s => x0.length - s.1) (0, [], ((some ⟨p7, 0, none⟩), 0)) sl5 (fun W hm => hm) ⟨(by omega), rfl, Nat.le_refl _⟩ ?_
 rintro ⟨k9, d10, ⟨A11, c12⟩⟩ H15
 obtain ⟨hk13, hF14, hi16⟩ : k9 ≤ x0.length ∧ R2 (x0.length - k9) k9 d10 = R2 (x0.length - 0) 0 [] ∧ d10.length ≤ 0 + k9 := H15
 let I5 : It := iOwn (tSl tyRow 50) [.slice A11 d10.length c12] d10
 show CM Try.prog 27 _ _ _ _ [(1, .int .i64 x1), (5, .slice A11 d10.length c12), (9, .slice A2 x0.length c3), (10, .int .i64 ((x0.length : Nat) : Int)), (11, .int .i64 ((k9 : Nat) : Int))] [I5]
 refine sr ?_
 refine wv vlss ?_
 refine nt' (CM_seq ?_)
 by_cases hl17 : k9 < x0.length
 ·have g18 := dlT hl17
  refine CM_condT rfl g18 ?_
  refine CM_skip (QM_then (CM_seq (CM_block (sr ?_))))
  obtain ⟨a19, rfl, hb20, he21⟩ := q4 (by omega)
  refine wv (vix 3 k9 underlying31 type52) ?_
  obtain ⟨_, e27, hc22⟩ := he21 k9 _ (gt_some (show k9 < x0.length from by omega))
  obtain ⟨v23, v25, rfl, r24, r26⟩ := tyAnnotated_rd e27
  have l28 : ((gt x0 k9).Row.Values).length ≤ 68719476736 := (s_0.2 _ (gt_mem (show k9 < x0.length from by omega))).1
  have l29 : ((gt x0 k9).Set).length ≤ 68719476736 := (s_0.2 _ (gt_mem (show k9 < x0.length from by omega))).2
  obtain ⟨m30, A31, c32, rfl, q33, r34⟩ := rdS_op r24
  obtain ⟨m35, A36, c37, rfl, q38, r39⟩ := rdS_op r26
  let K3 : List Value := [.int .i64 ((gt x0 k9).Row.Id), .slice A31 ((gt x0 k9).Row.Values).length c32, .slice A36 ((gt x0 k9).Set).length c37]
  refine wv (fun W hm => rv_loadN (cs := K3) underlying52 type52 rfl rfl (hm.elCells (show (a19.add (k9 * 3)).block < w.heap.size from by rw [add_block]; exact hb20.1) hc22)) ?_
  refine WM_alloc type52 rfl (Wd_none rfl) (by decide) (fun p40 => ?_)
  refine sb 0 K3 [I5] (fun W hm => hm) type52 ?_
  refine nt' (sr ?_)
  refine wv (vf underlying52 rfl type37) ?_
  refine wv (vl 0 2 underlying37) ?_
  refine wm ?_
  refine wcv (cl_fn cb35 rfl) (fun W hm => impl_HasMember_c W _ ((gt x0 k9).Set) x1 (hm.rdS0 r39)) ?_
  refine nt' ?_
  rcases Bool.eq_false_or_eq_true (impl_HasMember_m ((gt x0 k9).Set) x1) with g42 | g42
  ·
   refine CM_condT rfl g42 ?_
   refine CM_region (wm ?_)
   refine wv (vf underlying52 rfl type50) ?_
   refine wv (fun W hm => rv_loadN (cs := [.int .i64 ((gt x0 k9).Row.Id), .slice A31 ((gt x0 k9).Row.Values).length c32]) underlying50 type50 rfl rfl (hm.boxPart (n := 0) rfl rfl)) ?_
   refine wcs tyRow ((gt x0 k9).Row) (cl_fn cb27 rfl) (fun W hm => impl_copyRow_c2 W _ ((gt x0 k9).Row) (tyRow_mk (x := ((gt x0 k9).Row)) (hm.rdS0 r34)) (s_0.2 _ (gt_mem (show k9 < x0.length from by omega))).1) (fun z43 => ?_)
   refine tyRow_sp ?_
   rintro v44 rfl
   refine WM_form (n := 0) rfl ?_
   rintro A45 c46 rfl m47
   let K4 : List Value := [.int .i64 (((gt x0 k9).Row).Id), .slice A45 (((gt x0 k9).Row).Values).length c46]
   refine WM_build (cs := K4) underlying28 type50 rfl (by decide) (by decide) rfl (by kernel_rfl) (Wd_none rfl) (by decide) (fun p49 => ?_)
   refine ap1 tyRow 50 (.slice A11 d10.length c12) d10 ((gt x0 k9).Row) [iOwn (tSl tInt 3) [.slice A45 (((gt x0 k9).Row).Values).length c46] (((gt x0 k9).Row).Values)] [iBox p40 52 K3] K4 (pk [0, 3, 1, 2]) (fun _ _ hs => Els.single (tyRow_join (x := ((gt x0 k9).Row)) hs)) underlying28 type50 (show (d10.length + 1) * 32 ≤ 140737488355328 from by omega) (fun v50 => ?_)
   refine WM_form (n := 0) rfl ?_
   rintro A51 c52 rfl m53
   refine wa (WM_nil (QM_block_normal (QM_then (CM_region ?_))))
   refine wv (vadN k9 1 (by omega)) ?_
   refine wm (WM_nil ?_)
   have hn55 := rng_next (R := (List DRow)) (body := F1) (k := k9) (s := d10) (s' := (d10 ++ [((gt x0 k9).Row)])) (show k9 < x0.length from by omega) (cond_t g42 (rfl)) hF14
   exact QM_round (k9 + 1, (d10 ++ [((gt x0 k9).Row)]), (A51, c52)) sl5 (pk [0]) ⟨(by omega), hn55, (show (d10 ++ [((gt x0 k9).Row)]).length ≤ 0 + (k9 + 1) from by first | omega | (simp only [List.length_append, List.length_cons, List.length_nil] at *; omega))⟩ (rl (by omega))
  ·
   refine CM_condF rfl g42 ?_
   refine CM_skip (QM_block_normal (QM_then (CM_region ?_)))
   refine wv (vadN k9 1 (by omega)) ?_
   refine wm (WM_nil ?_)
   have hn56 := rng_next (R := (List DRow)) (body := F1) (k := k9) (s := d10) (s' := d10) (show k9 < x0.length from by omega) (cond_f g42 (rfl)) hF14
   exact QM_round (k9 + 1, d10, (A11, c12)) sl5 (pk [1]) ⟨(by omega), hn56, (show d10.length ≤ 0 + (k9 + 1) from by first | omega | (simp only [List.length_append, List.length_cons, List.length_nil] at *; omega))⟩ (rl (by omega))
 ·have g18 := dlF hl17
  refine CM_condF rfl g18 ?_
  refine CM_exit (QM_then_exit (QM_then_exit ?_))
  have hE57 : R2 (x0.length - 0) 0 [] = Sum.inr d10 := rng_end hl17 hF14
  refine QM_block_hit (QM_then (sr (wm (wa (nt' (CM_ret ?_))))))
  have he58 := (show impl_RouteRows_m x0 x1 = d10 from fin_inr hE57 (rfl))
  refine QM_r1 rfl (RR_tmp rfl) (fun W hm => ⟨.slice A11 d10.length c12, ?_, ?_⟩)
  ·first | rw [he58] | rfl
  ·rw [he58]; exact hm

def spec_l3LessInts_b1 (x0 : (List Int)) (x1 : (List Int)) (k11 : Nat) : Bool ⊕ ((Unit) ⊕ (Unit)) :=
 cond (decide (((k11 : Nat) : Int) < ((x1.length : Nat) : Int))) (cond ((gt x0 k11) != (gt x1 k11)) (Sum.inl (decide ((gt x0 k11) < (gt x1 k11)))) (Sum.inr (Sum.inr ()))) (Sum.inr (Sum.inl ()))
def spec_l3LessInts_m (x0 : (List Int)) (x1 : (List Int)) : Bool :=
 Sum.elim id (fun (s : Unit) => (decide (((x0.length : Nat) : Int) < ((x1.length : Nat) : Int)))) (rngb (R := Bool) (fun k (_ : Unit) => spec_l3LessInts_b1 x0 x1 k) (x0.length - 0) 0 ())
theorem cb62 : Cb Try.prog 62 := ⟨f62, _, func62, rfl, by decide⟩
theorem spec_l3LessInts_c (w : World) (z0 : Value) (x0 : (List Int)) (z1 : Value) (x1 : (List Int)) (r_0 : rdS tInt w w.heap.size z0 x0) (r_1 : rdS tInt w w.heap.size z1 x1) :
  Calls Try.prog 62 #[z0, z1] w fun e w' => e = .returned (.bool (spec_l3LessInts_m x0 x1)) ∧ Below w.heap.size w w' := by
 obtain ⟨m1, A2, c3, rfl, q4, r5⟩ := rdS_op r_0
 obtain ⟨m6, A7, c8, rfl, q9, r10⟩ := rdS_op r_1
 refine ce2 (L := [(0, .slice A2 x0.length c3), (1, .slice A7 x1.length c8)]) (N := 41) func62 ?_
 refine sr (wa (nt' (CM_seq (sr (wa (nt' ?_))))))
 let F1 := fun k (_ : Unit) => spec_l3LessInts_b1 x0 x1 k
 let R2 := rngb (R := Bool) F1
 refine CM_cut (σ := (Unit) × (Unit)) (fun s => [(0, .slice A2 x0.length c3), (1, .slice A7 x1.length c8)]) (fun s => []) (fun s => R2 (x0.length - 0) 0 () = Sum.inr s.1) ?_ ?_
 ·
  refine CM_block ?_
  refine CM_loop (σ := Nat × (Unit) × (Unit)) (fun s => [(0, .slice A2 x0.length c3), (1, .slice A7 x1.length c8), (5, .int .i64 ((s.1 : Nat) : Int))]) (fun s => []) (fun s => s.1 ≤ x0.length ∧ R2 (x0.length - s.1) s.1 s.2.1 = R2 (x0.length - 0) 0 ()) (fun s => x0.length - s.1) (0, (), ()) sl3 (fun W hm => hm) ⟨(by omega), rfl⟩ ?_
  rintro ⟨k11, ⟨⟩, ⟨⟩⟩ H14
  obtain ⟨hk12, hF13⟩ : k11 ≤ x0.length ∧ R2 (x0.length - k11) k11 () = R2 (x0.length - 0) 0 () := H14
  show CM Try.prog 41 _ _ _ _ [(0, .slice A2 x0.length c3), (1, .slice A7 x1.length c8), (5, .int .i64 ((k11 : Nat) : Int))] []
  refine CM_seq (sr (wm (wm ?_)))
  refine wv (vlen underlying37) ?_
  refine wv vlss ?_
  refine wm ?_
  by_cases hl15 : k11 < x0.length
  ·have g16 := dlT hl15
   refine wg vmv g16 ?_
   refine wg vmv g16 ?_
   refine wg (vlen underlying37) g16 ?_
   refine wg vlss g16 ?_
   refine wv (vpT g16) ?_
   refine nt' ?_
   by_cases h17 : ((k11 : Nat) : Int) < ((x1.length : Nat) : Int)
   ·have g18 := decide_eq_true h17
    refine CM_condT rfl g18 ?_
    refine CM_skip (QM_then (CM_seq (CM_block (CM_seq ?_))))
    refine CM_regionD (by kernel_rfl) (by kernel_rfl) ?_
    refine qm (qm ?_)
    obtain ⟨a19, rfl, hb20, he21⟩ := q4 (by omega)
    refine qv (vix 1 k11 underlying37 type3) ?_
    refine qv (fun W hm => rv_load underlying3 rfl rfl ((hm.cell0 (show (a19.add (k11 * 1)).block < w.heap.size from by rw [add_block]; exact hb20.1)).trans (rdS_int he21 k11 (by omega)))) ?_
    refine qm (qm ?_)
    obtain ⟨a22, rfl, hb23, he24⟩ := q9 (by omega)
    refine qv (vix 1 k11 underlying37 type3) ?_
    refine qv (fun W hm => rv_load underlying3 rfl rfl ((hm.cell0 (show (a22.add (k11 * 1)).block < w.heap.size from by rw [add_block]; exact hb23.1)).trans (rdS_int he24 k11 (by omega)))) ?_
    refine qv vneq ?_
    refine nq' ?_
    by_cases h25 : (gt x0 k11) = (gt x1 k11)
    ·have g26 : ((gt x0 k11) != (gt x1 k11)) = false := by rw [h25]; exact bne_self_eq_false _
     refine CM_condF rfl g26 ?_
     refine CM_skip (QM_block_normal (QM_then (CM_region (wm ?_))))
     refine wv (vadN k11 1 (by omega)) ?_
     refine wa (WM_nil ?_)
     have hn27 := rngb_next (R := Bool) (body := F1) (k := k11) (s := ()) (s' := ()) (show k11 < x0.length from by omega) (cond_t g18 (cond_f g26 (rfl))) hF13
     exact QM_round (k11 + 1, (), ()) sl3 (fun W hm => hm) ⟨(by omega), hn27⟩ (rl (by omega))
    ·have g26 : ((gt x0 k11) != (gt x1 k11)) = true := bne_iff_ne.2 h25
     refine CM_condT rfl g26 ?_
     refine CM_seq ?_
     refine CM_regionD (by kernel_rfl) (by kernel_rfl) ?_
     refine qm (qm ?_)
     refine qv (vix 1 k11 underlying37 type3) ?_
     refine qv (fun W hm => rv_load underlying3 rfl rfl ((hm.cell0 (show (a19.add (k11 * 1)).block < w.heap.size from by rw [add_block]; exact hb20.1)).trans (rdS_int he21 k11 (by omega)))) ?_
     refine qm (qm ?_)
     refine qv (vix 1 k11 underlying37 type3) ?_
     refine qv (fun W hm => rv_load underlying3 rfl rfl ((hm.cell0 (show (a22.add (k11 * 1)).block < w.heap.size from by rw [add_block]; exact hb23.1)).trans (rdS_int he24 k11 (by omega)))) ?_
     refine qv vlss ?_
     refine qv (fun W hm => rv_assign rfl) ?_
     refine nq' (CM_ret (QM_block_ret (QM_then_ret (QM_then_ret (QM_block_ret (QM_cut_ret (QM_then_ret ?_)))))))
     exact rtb (h := fin_inl (rngb_ret (body := F1) (k := k11) (s := ()) (show k11 < x0.length from by omega) (cond_t g18 (cond_t g26 (rfl))) hF13) rfl)
   ·have g18 := decide_eq_false h17
    refine CM_condF rfl g18 ?_
    refine CM_exit (QM_then_exit (QM_then_exit (QM_block_hit ?_)))
    have hE28 := rngb_brk (R := Bool) (body := F1) (k := k11) (s := ()) (s' := ()) (show k11 < x0.length from by omega) (cond_f g18 (rfl)) hF13
    exact QM_cut_normal ((), ()) sl2 (fun W hm => hm) hE28
  ·have g16 := dlF hl15
   refine ws g16 ?_
   refine ws g16 ?_
   refine ws g16 ?_
   refine ws g16 ?_
   refine wv (vpF g16) ?_
   refine nt' ?_
   refine CM_condF rfl rfl ?_
   refine CM_exit (QM_then_exit (QM_then_exit (QM_block_hit ?_)))
   have hE29 : R2 (x0.length - 0) 0 () = Sum.inr () := rngb_end hl15 hF13
   exact QM_cut_normal ((), ()) sl2 (fun W hm => hm) hE29
 ·
  rintro ⟨⟨⟩, ⟨⟩⟩ H31
  have hE30 : R2 (x0.length - 0) 0 () = Sum.inr () := H31
  show QM 41 _ _ _ .normal [(0, .slice A2 x0.length c3), (1, .slice A7 x1.length c8)] []
  refine QM_then (sr (wm ?_))
  refine wv (vlen underlying37) ?_
  refine wm ?_
  refine wv (vlen underlying37) ?_
  refine wv vlss ?_
  refine wa (nt' (CM_ret ?_))
  exact rtb (h := fin_inr hE30 (rfl))

def spec_l3Less_m (x0 : DRow) (x1 : DRow) : Bool :=
 cond (x0.Id != x1.Id) (decide (x0.Id < x1.Id)) (spec_l3LessInts_m x0.Values x1.Values)
theorem cb36 : Cb Try.prog 36 := ⟨f36, _, func36, rfl, by decide⟩
theorem spec_l3Less_c (w : World) (z0 : List Value) (x0 : DRow) (z1 : List Value) (x1 : DRow) (r_0 : tyRow.rd w w.heap.size z0 x0) (r_1 : tyRow.rd w w.heap.size z1 x1) :
  Calls Try.prog 36 #[.agg z0.toArray, .agg z1.toArray] w fun e w' => e = .returned (.bool (spec_l3Less_m x0 x1)) ∧ Below w.heap.size w w' := by
 obtain ⟨v1, rfl, r2⟩ := tyRow_rd r_0
 obtain ⟨m3, A4, c5, rfl, q6, r7⟩ := rdS_op r2
 obtain ⟨v8, rfl, r9⟩ := tyRow_rd r_1
 obtain ⟨m10, A11, c12, rfl, q13, r14⟩ := rdS_op r9
 refine ce2 (L := [(0, .agg #[.int .i64 x0.Id, .slice A4 x0.Values.length c5]), (1, .agg #[.int .i64 x1.Id, .slice A11 x1.Values.length c12])]) (N := 20) func36 ?_
 refine sr ?_
 refine WM_box rfl (Wd_none rfl) (by decide) (fun p15 => ?_)
 refine WM_box rfl (Wd_none rfl) (by decide) (fun p16 => ?_)
 refine wa (nt' (CM_seq (sr ?_)))
 refine wv (vf underlying50 rfl type3) ?_
 refine wv (vl 1 0 underlying3) ?_
 refine wv (vf underlying50 rfl type3) ?_
 refine wv (vl 0 0 underlying3) ?_
 refine wv vneq ?_
 refine nt' ?_
 by_cases h17 : x0.Id = x1.Id
 ·have g18 : (x0.Id != x1.Id) = false := by rw [h17]; exact bne_self_eq_false _
  refine CM_condF rfl g18 ?_
  refine CM_skip (QM_then (sr ?_))
  refine wv (vf underlying50 rfl type37) ?_
  refine wv (vl 1 1 underlying37) ?_
  refine wv (vf underlying50 rfl type37) ?_
  refine wv (vl 0 1 underlying37) ?_
  refine wcv (cl_fn cb62 rfl) (fun W hm => spec_l3LessInts_c W _ x0.Values _ x1.Values (hm.rdS0 r7) (hm.rdS0 r14)) ?_
  refine wa (nt' (CM_ret ?_))
  exact rtb (h := cond_f g18 (rfl))
 ·have g18 : (x0.Id != x1.Id) = true := bne_iff_ne.2 h17
  refine CM_condT rfl g18 ?_
  refine sr ?_
  refine wv (vf underlying50 rfl type3) ?_
  refine wv (vl 1 0 underlying3) ?_
  refine wv (vf underlying50 rfl type3) ?_
  refine wv (vl 0 0 underlying3) ?_
  refine wv vlss ?_
  refine wa (nt' (CM_ret (QM_then_ret ?_)))
  exact rtb (h := cond_t g18 (rfl))

def spec_SortRows_b2 (x0 : (List DRow)) (k9 : Nat) (d10 : (List DRow)) (k19 : Nat) (s20 : Nat) : (List DRow) ⊕ ((Nat) ⊕ (Nat)) :=
 cond (decide (0 < ((s20 : Nat) : Int))) (cond (spec_l3Less_m (gt x0 k9) (gt d10 (s20 - 1))) (Sum.inr (Sum.inr (s20 - 1))) (Sum.inr (Sum.inl s20))) (Sum.inr (Sum.inl s20))
def spec_SortRows_b1 (x0 : (List DRow)) (k9 : Nat) (d10 : (List DRow)) : (List DRow) ⊕ ((List DRow)) :=
 Sum.elim Sum.inl (fun (s : Nat) => Sum.inr ((List.take s d10 ++ [(gt x0 k9)]) ++ List.drop s d10)) (rngb (R := (List DRow)) (fun k (s : Nat) => spec_SortRows_b2 x0 k9 d10 k s) (d10.length + 1 - 0) 0 d10.length)
def spec_SortRows_m (x0 : (List DRow)) : (List DRow) :=
 Sum.elim id (fun (s : (List DRow)) => s) (rng (R := (List DRow)) (fun k (s : (List DRow)) => spec_SortRows_b1 x0 k s) (x0.length - 0) 0 [])
theorem cb12 : Cb Try.prog 12 := ⟨f12, _, func12, rfl, by decide⟩
theorem spec_SortRows_c (w : World) (z0 : Value) (x0 : (List DRow)) (r_0 : rdS tyRow w w.heap.size z0 x0) (s_0 : (x0.length ≤ 68719476736 ∧ ∀ y ∈ x0, smRow 68719476736 y)) :
  Calls Try.prog 12 #[z0] w fun e w' => ∃ v : Value, e = .returned (v) ∧ Mem w.heap.size w [iOwn (tSl tyRow 50) [v] (spec_SortRows_m x0)] w' := by
 obtain ⟨m1, A2, c3, rfl, q4, r5⟩ := rdS_op r_0
 have l6 : x0.length ≤ 68719476736 := s_0.1
 refine ce1 (L := [(0, .slice A2 x0.length c3)]) (N := 51) func12 ?_
 refine sr (wa (nt' (sr ?_)))
 refine WM_build0 (E := tyRow) underlying28 type50 (Wd_none rfl) (by decide) (fun p7 => ?_)
 refine wa (nt' (CM_seq (sr (wa (nt' (CM_block ?_))))))
 let F1 := fun k (s : (List DRow)) => spec_SortRows_b1 x0 k s
 let R3 := rng (R := (List DRow)) F1
 refine CM_loop (σ := Nat × ((List DRow)) × (Option Addr × Nat)) (fun s => [(0, .slice A2 x0.length c3), (3, .slice s.2.2.1 s.2.1.length s.2.2.2), (4, .int .i64 ((s.1 : Nat) : Int))]) (fun s => [iOwn (tSl tyRow 50) [.slice s.2.2.1 s.2.1.length s.2.2.2] s.2.1]) (fun s => s.1 ≤ x0.length ∧ R3 (x0.length - s.1) s.1 s.2.1 = R3 (x0.length - 0) 0 [] ∧ s.2.1.length ≤ 0 + s.1) (fun s => x0.length - s.1) (0, [], ((some ⟨p7, 0, none⟩), 0)) sl3 (fun W hm => hm) ⟨(by omega), rfl, Nat.le_refl _⟩ ?_
 rintro ⟨k9, d10, ⟨A11, c12⟩⟩ H15
 obtain ⟨hk13, hF14, hi16⟩ : k9 ≤ x0.length ∧ R3 (x0.length - k9) k9 d10 = R3 (x0.length - 0) 0 [] ∧ d10.length ≤ 0 + k9 := H15
 let I7 : It := iOwn (tSl tyRow 50) [.slice A11 d10.length c12] d10
 show CM Try.prog 51 _ _ _ _ [(0, .slice A2 x0.length c3), (3, .slice A11 d10.length c12), (4, .int .i64 ((k9 : Nat) : Int))] [I7]
 refine CM_seq (sr (wm (wm ?_)))
 refine wv (vlen underlying28) ?_
 refine wv vlss ?_
 refine nt' ?_
 by_cases hl17 : k9 < x0.length
 ·have g18 := dlT hl17
  refine CM_condT rfl g18 ?_
  refine CM_skip (QM_then (CM_seq (CM_block (sr (wm ?_)))))
  refine wv (vlen underlying28) ?_
  refine wa (nt' (CM_seq ?_))
  let F2 := fun k (s : Nat) => spec_SortRows_b2 x0 k9 d10 k s
  let R4 := rngb (R := (List DRow)) F2
  refine CM_cut (σ := (Nat) × (Unit)) (fun s => [(0, .slice A2 x0.length c3), (3, .slice A11 d10.length c12), (4, .int .i64 ((k9 : Nat) : Int)), (5, .int .i64 ((s.1 : Nat) : Int))]) (fun s => [I7]) (fun s => R4 (d10.length + 1 - 0) 0 d10.length = Sum.inr s.1 ∧ s.1 ≤ d10.length) ?_ ?_
  ·
   refine CM_block ?_
   refine CM_loop (σ := Nat × (Nat) × (Unit)) (fun s => [(0, .slice A2 x0.length c3), (3, .slice A11 d10.length c12), (4, .int .i64 ((k9 : Nat) : Int)), (5, .int .i64 ((s.2.1 : Nat) : Int))]) (fun s => [I7]) (fun s => s.1 + (s.2.1) + 1 ≤ d10.length + 1 ∧ R4 (d10.length + 1 - s.1) s.1 s.2.1 = R4 (d10.length + 1 - 0) 0 d10.length ∧ s.2.1 ≤ d10.length) (fun s => d10.length + 1 - s.1) (0, d10.length, ()) sl4 (fun W hm => hm) ⟨(show 0 + (d10.length) + 1 ≤ d10.length + 1 from by omega), rfl, (show d10.length ≤ d10.length from by omega)⟩ ?_
   rintro ⟨k19, s20, ⟨⟩⟩ H23
   obtain ⟨hk21, hF22, hi24⟩ : k19 + (s20) + 1 ≤ d10.length + 1 ∧ R4 (d10.length + 1 - k19) k19 s20 = R4 (d10.length + 1 - 0) 0 d10.length ∧ s20 ≤ d10.length := H23
   show CM Try.prog 51 _ _ _ _ [(0, .slice A2 x0.length c3), (3, .slice A11 d10.length c12), (4, .int .i64 ((k9 : Nat) : Int)), (5, .int .i64 ((s20 : Nat) : Int))] [I7]
   refine CM_seq (CM_seq ?_)
   by_cases h25 : 0 < ((s20 : Nat) : Int)
   ·have g26 := decide_eq_true h25
    refine CM_formO (n := 0) rfl (by omega) ?_
    rintro g27 rfl
    refine CM_focus (E := tyRow) (e := 50) (A := (some ⟨g27, 0, none⟩)) (n := d10.length) (c := c12) (xs := d10) (k := (s20 - 1)) (js := []) (by omega) (fun W hm => hm) (fun ck28 => ?_)
    refine CM_split (γ := Value) (js := fun g => [iOwn (tSl tInt 3) [g] ((gt d10 (s20 - 1)).Values)]) (C := fun g => ck28 = [.int .i64 ((gt d10 (s20 - 1)).Id), g]) (fun _ _ h => tyRow_split h) ?_
    rintro v29 rfl
    refine CM_form (n := 0) rfl ?_
    rintro A30 c31 rfl m32
    refine CM_regionD (by kernel_rfl) (by kernel_rfl) ?_
    refine qm ?_
    refine qv (fun W hm => rv_gtr rfl rfl) ?_
    refine qm ?_
    refine qg vmv g26 ?_
    refine qg vmv g26 ?_
    obtain ⟨a34, rfl, hb35, he36⟩ := q4 (by omega)
    refine qg (vix 2 k9 underlying28 type50) g26 ?_
    obtain ⟨_, e40, hc37⟩ := he36 k9 _ (gt_some (show k9 < x0.length from by omega))
    obtain ⟨v38, rfl, r39⟩ := tyRow_rd e40
    have l41 : ((gt x0 k9).Values).length ≤ 68719476736 := (s_0.2 _ (gt_mem (show k9 < x0.length from by omega)))
    obtain ⟨m42, A43, c44, rfl, q45, r46⟩ := rdS_op r39
    refine qg (fun W hm => rv_loadN (cs := [.int .i64 ((gt x0 k9).Id), .slice A43 ((gt x0 k9).Values).length c44]) underlying50 type50 rfl rfl (hm.elCells (show (a34.add (k9 * 2)).block < w.heap.size from by rw [add_block]; exact hb35.1) hc37)) g26 ?_
    refine qg vmv g26 ?_
    refine qg vmv g26 ?_
    refine qg (fun W hm => rv_subN (p := s20) (q := 1) rfl rfl (by omega) (by omega)) g26 ?_
    refine qg (fun W hm => rv_index (sz := 2) (k := s20 - 1) underlying28 type50 rfl rfl rfl (by omega)) g26 ?_
    let K5 : List Value := [.int .i64 ((gt d10 (s20 - 1)).Id), .slice A30 ((gt d10 (s20 - 1)).Values).length c31]
    refine qg (fun W hm => rv_loadN (cs := K5) underlying50 type50 rfl rfl (hm.focCells (i := 1) rfl rfl)) g26 ?_
    refine QR_callV (cl_fn cb36 rfl) (fun W hm => spec_l3Less_c W _ (gt x0 k9) _ (gt d10 (s20 - 1)) (tyRow_mk (x := (gt x0 k9)) (hm.rdS0 r46)) (tyRow_mk (x := (gt d10 (s20 - 1))) (hm.rdSI (n := 0) rfl))) (Wd_some rfl rfl rfl (bw g26 rfl)) (by decide) ?_
    refine qv (vpT g26) ?_
    refine nq' ?_
    rcases Bool.eq_false_or_eq_true (spec_l3Less_m (gt x0 k9) (gt d10 (s20 - 1))) with g48 | g48
    ·
     refine CM_condT rfl g48 ?_
     refine CM_skip (QM_then (CM_block (CM_region (wm ?_))))
     refine wv (fun W hm => rv_subN (p := s20) (q := 1) rfl rfl (by omega) (by omega)) ?_
     refine wa (WM_nil (QM_block_normal ?_))
     refine QM_items (fun W hm => Mem.unfocus0 (Mem.join (is := [iOwn (tSl tInt 3) [.slice A30 ((gt d10 (s20 - 1)).Values).length c31] ((gt d10 (s20 - 1)).Values)]) (js := (iFoc tyRow 50 (some ⟨g27, 0, none⟩) d10.length c12 d10 (s20 - 1) K5 :: [])) (fun _ _ hs => tyRow_join (x := (gt d10 (s20 - 1))) hs) hm)) ?_
     have hn49 := rngb_next (R := (List DRow)) (body := F2) (k := k19) (s := s20) (s' := s20 - 1) (show k19 < d10.length + 1 from by omega) (cond_t g26 (cond_t g48 (rfl))) hF22
     exact QM_round (k19 + 1, s20 - 1, ()) sl4 (fun W hm => hm) ⟨(show (k19 + 1) + ((s20 - 1)) + 1 ≤ d10.length + 1 from by omega), hn49, (show (s20 - 1) ≤ d10.length from by first | omega | (simp only [List.length_append, List.length_cons, List.length_nil] at *; omega))⟩ (show d10.length + 1 - (k19 + 1) < d10.length + 1 - k19 from by omega)
    ·
     refine CM_condF rfl g48 ?_
     refine CM_exit (QM_then_exit (QM_then_exit (QM_block_hit ?_)))
     refine QM_items (fun W hm => Mem.unfocus0 (Mem.join (is := [iOwn (tSl tInt 3) [.slice A30 ((gt d10 (s20 - 1)).Values).length c31] ((gt d10 (s20 - 1)).Values)]) (js := (iFoc tyRow 50 (some ⟨g27, 0, none⟩) d10.length c12 d10 (s20 - 1) K5 :: [])) (fun _ _ hs => tyRow_join (x := (gt d10 (s20 - 1))) hs) hm)) ?_
     have hE50 := rngb_brk (R := (List DRow)) (body := F2) (k := k19) (s := s20) (s' := s20) (show k19 < d10.length + 1 from by omega) (cond_t g26 (cond_f g48 (rfl))) hF22
     exact QM_cut_normal (s20, ()) sl4 (fun W hm => hm) ⟨hE50, (show s20 ≤ d10.length from by first | omega | (simp only [List.length_append, List.length_cons, List.length_nil] at *; omega))⟩
   ·have g26 := decide_eq_false h25
    refine CM_regionD (by kernel_rfl) (by kernel_rfl) ?_
    refine qm ?_
    refine qv (fun W hm => rv_gtr rfl rfl) ?_
    refine qm ?_
    refine qs g26 ?_
    refine qs g26 ?_
    refine qs g26 ?_
    refine qs g26 ?_
    refine qs g26 ?_
    refine qs g26 ?_
    refine qs g26 ?_
    refine qs g26 ?_
    refine qs g26 ?_
    refine qs g26 ?_
    refine qv (vpF g26) ?_
    refine nq' ?_
    refine CM_condF rfl rfl ?_
    refine CM_exit (QM_then_exit (QM_then_exit (QM_block_hit ?_)))
    have hE51 := rngb_brk (R := (List DRow)) (body := F2) (k := k19) (s := s20) (s' := s20) (show k19 < d10.length + 1 from by omega) (cond_f g26 (rfl)) hF22
    exact QM_cut_normal (s20, ()) sl4 (fun W hm => hm) ⟨hE51, (show s20 ≤ d10.length from by first | omega | (simp only [List.length_append, List.length_cons, List.length_nil] at *; omega))⟩
  ·
   rintro ⟨s20, ⟨⟩⟩ H53
   obtain ⟨hE52, hx54⟩ : R4 (d10.length + 1 - 0) 0 d10.length = Sum.inr s20 ∧ s20 ≤ d10.length := H53
   show QM 51 _ _ _ .normal [(0, .slice A2 x0.length c3), (3, .slice A11 d10.length c12), (4, .int .i64 ((k9 : Nat) : Int)), (5, .int .i64 ((s20 : Nat) : Int))] [I7]
   refine QM_then (sr ?_)
   refine WM_build0 (E := tyRow) underlying28 type50 (Wd_none rfl) (by decide) (fun p55 => ?_)
   refine wm (wm ?_)
   refine WM_toCk (E := tyRow) (e := 50) (v := .slice A11 d10.length c12) (xs := d10) (js := [iOwn (tSl tyRow 50) [.slice (some ⟨p55, 0, none⟩) 0 0] []]) (pk [1, 0]) (fun ps57 hps58 => ?_)
   have hl59 : ps57.length = d10.length := by rw [← hps58, List.length_map]
   refine wv (fun W hm => rv_sliceHi (k := s20) underlying28 type50 rfl rfl (by have := rdS_cap (hm.rdSI (n := 0) rfl); omega)) ?_
   refine WM_items (fun W hm => Mem.emptyAs (E := tyRow) (F := (tCk (ckA tyRow))) rfl (hm.pick [2, 0, 1] (by decide))) ?_
   refine apR (tCk (ckA tyRow)) (tCk (ckA tyRow)) 50 (.slice (some ⟨p55, 0, none⟩) 0 0) [] (List.take s20 ps57) [iOwn (tSl (tCk (ckA tyRow)) 50) [.slice A11 d10.length c12] ps57, iCk tyRow ps57] (fun W hm => hm) (fun W hm => src_flat flat_ck (rdS_take (k := s20) (by omega) (hm.rdSI (n := 1) rfl))) underlying28 type50 (show ([].length + (List.take s20 ps57).length) * 32 ≤ 140737488355328 from by first | omega | (simp only [List.length_append, List.length_cons, List.length_nil, List.length_take, List.length_drop] at *; omega)) (fun v60 => ?_)
   refine WM_form (n := 0) rfl ?_
   rintro A61 c62 rfl m63
   refine wa (nt' (sr (wm (wm (wm ?_)))))
   obtain ⟨a65, rfl, hb66, he67⟩ := q4 (by omega)
   refine wv (vix 2 k9 underlying28 type50) ?_
   obtain ⟨_, e71, hc68⟩ := he67 k9 _ (gt_some (show k9 < x0.length from by omega))
   obtain ⟨v69, rfl, r70⟩ := tyRow_rd e71
   have l72 : ((gt x0 k9).Values).length ≤ 68719476736 := (s_0.2 _ (gt_mem (show k9 < x0.length from by omega)))
   obtain ⟨m73, A74, c75, rfl, q76, r77⟩ := rdS_op r70
   refine wv (fun W hm => rv_loadN (cs := [.int .i64 ((gt x0 k9).Id), .slice A74 ((gt x0 k9).Values).length c75]) underlying50 type50 rfl rfl (hm.elCells (show (a65.add (k9 * 2)).block < w.heap.size from by rw [add_block]; exact hb66.1) hc68)) ?_
   refine wcs tyRow (gt x0 k9) (cl_fn cb31 rfl) (fun W hm => spec_l3Copy_c2 W _ (gt x0 k9) (tyRow_mk (x := (gt x0 k9)) (hm.rdS0 r77)) (s_0.2 _ (gt_mem (show k9 < x0.length from by omega)))) (fun z78 => ?_)
   refine tyRow_sp ?_
   rintro v79 rfl
   refine WM_form (n := 0) rfl ?_
   rintro A80 c81 rfl m82
   let K6 : List Value := [.int .i64 ((gt x0 k9).Id), .slice A80 ((gt x0 k9).Values).length c81]
   refine WM_build (cs := K6) underlying28 type50 rfl (by decide) (by decide) rfl (by kernel_rfl) (Wd_none rfl) (by decide) (fun p84 => ?_)
   let I8 : It := iOwn (tSl tInt 3) [.slice A80 ((gt x0 k9).Values).length c81] ((gt x0 k9).Values)
   refine ap1 (tCk (ckA tyRow)) 50 (.slice A61 (List.take s20 ps57).length c62) (List.take s20 ps57) ((K6, (gt x0 k9)) : List Value × DRow) [] [I8, iOwn (tSl (tCk (ckA tyRow)) 50) [.slice A11 d10.length c12] ps57, iCk tyRow ps57] K6 (pk [0, 2, 1, 3, 4]) (fun _ _ hs => by cases (Sep.nil hs); exact (els_ck1 rfl rfl)) underlying28 type50 (show ((List.take s20 ps57).length + 1) * 32 ≤ 140737488355328 from by first | omega | (simp only [List.length_append, List.length_cons, List.length_nil, List.length_take, List.length_drop] at *; omega)) (fun v85 => ?_)
   refine WM_form (n := 0) rfl ?_
   rintro A86 c87 rfl m88
   refine wa (nt' (CM_region (wm (wm (wm ?_)))))
   refine wv (fun W hm => rv_sliceLo (k := s20) (s := 2) underlying28 type50 rfl rfl rfl (by omega)) ?_
   refine apR (tCk (ckA tyRow)) (tCk (ckA tyRow)) 50 (.slice A86 ((List.take s20 ps57) ++ [((K6, (gt x0 k9)) : List Value × DRow)]).length c87) ((List.take s20 ps57) ++ [((K6, (gt x0 k9)) : List Value × DRow)]) (List.drop s20 ps57) [I8, iOwn (tSl (tCk (ckA tyRow)) 50) [.slice A11 d10.length c12] ps57, iCk tyRow ps57] (fun W hm => hm) (fun W hm => src_flat flat_ck (rdS_drop (k := s20) (by omega) (hm.rdSI (n := 2) rfl))) underlying28 type50 (show (((List.take s20 ps57) ++ [((K6, (gt x0 k9)) : List Value × DRow)]).length + (List.drop s20 ps57).length) * 32 ≤ 140737488355328 from by first | omega | (simp only [List.length_append, List.length_cons, List.length_nil, List.length_take, List.length_drop] at *; omega)) (fun v90 => ?_)
   refine WM_form (n := 0) rfl ?_
   rintro A91 c92 rfl m93
   refine wa (WM_nil (QM_block_normal (QM_then (CM_region (wm ?_)))))
   refine wv (vadN k9 1 (by omega)) ?_
   refine wa (WM_nil ?_)
   refine QM_items (fun W hm => Mem.ckInsert hps58 (Mem.join (is := [I8]) (js := (iOwn (tSl (tCk (ckA tyRow)) 50) [.slice A91 (((List.take s20 ps57) ++ [((K6, (gt x0 k9)) : List Value × DRow)]) ++ (List.drop s20 ps57)).length c92] (((List.take s20 ps57) ++ [((K6, (gt x0 k9)) : List Value × DRow)]) ++ (List.drop s20 ps57)) :: iCk tyRow ps57 :: [iOwn (tSl (tCk (ckA tyRow)) 50) [.slice A11 d10.length c12] ps57])) (fun _ _ hs => tyRow_join (x := (gt x0 k9)) hs) (hm.pick [1, 0, 3, 2] (by decide)))) ?_
   have hl95 : (((List.take s20 ps57) ++ [((K6, (gt x0 k9)) : List Value × DRow)]) ++ (List.drop s20 ps57)).length = ((List.take s20 d10 ++ [(gt x0 k9)]) ++ List.drop s20 d10).length := by rw [← hps58]; simp only [List.length_append, List.length_take, List.length_drop, List.length_map, List.length_cons, List.length_nil]
   rw [hl95]
   have hn96 := rng_next (R := (List DRow)) (body := F1) (k := k9) (s := d10) (s' := ((List.take s20 d10 ++ [(gt x0 k9)]) ++ List.drop s20 d10)) (show k9 < x0.length from by omega) (fin_inr hE52 (rfl)) hF14
   exact QM_round (k9 + 1, ((List.take s20 d10 ++ [(gt x0 k9)]) ++ List.drop s20 d10), (A91, c92)) sl3 (pk [0]) ⟨(by omega), hn96, (show ((List.take s20 d10 ++ [(gt x0 k9)]) ++ List.drop s20 d10).length ≤ 0 + (k9 + 1) from by first | omega | (simp only [List.length_append, List.length_cons, List.length_nil, List.length_take, List.length_drop] at *; omega))⟩ (rl (by omega))
 ·have g18 := dlF hl17
  refine CM_condF rfl g18 ?_
  refine CM_exit (QM_then_exit (QM_then_exit ?_))
  have hE97 : R3 (x0.length - 0) 0 [] = Sum.inr d10 := rng_end hl17 hF14
  refine QM_block_hit (QM_then (sr (wm (wa (nt' (CM_ret ?_))))))
  have he98 := (show spec_SortRows_m x0 = d10 from fin_inr hE97 (rfl))
  refine QM_r1 rfl (RR_tmp rfl) (fun W hm => ⟨.slice A11 d10.length c12, ?_, ?_⟩)
  ·first | rw [he98] | rfl
  ·rw [he98]; exact hm

theorem Query_fact {q : DQuery} (h : spec_IsQuery_m q = true) : (0 ≤ q.Id ∧ q.Id ≤ 23) ∧ ∀ c ∈ q.Conds, 0 ≤ c.Field ∧ c.Field ≤ 2 := by
  unfold spec_IsQuery_m at h
  rw [rng_allN (p := fun k => spec_IsCond_m (gt q.Conds k) && (!decide (0 < ((k : Nat) : Int)) || !decide ((gt q.Conds k).Field ≤ (gt q.Conds (k - 1)).Field))) (r := false) (fun k _ => by
    unfold spec_IsQuery_b1
    cases spec_IsCond_m (gt q.Conds k) <;> cases decide (0 < ((k : Nat) : Int)) <;> cases decide ((gt q.Conds k).Field ≤ (gt q.Conds (k - 1)).Field) <;> rfl), spec_l1In_iff q.Id] at h
  have ha : (List.range q.Conds.length).all (fun k => spec_IsCond_m (gt q.Conds k) && (!decide (0 < ((k : Nat) : Int)) || !decide ((gt q.Conds k).Field ≤ (gt q.Conds (k - 1)).Field))) = true ∧ decide (0 ≤ q.Id ∧ q.Id ≤ 23) = true := by
    revert h
    cases (List.range q.Conds.length).all (fun k => spec_IsCond_m (gt q.Conds k) && (!decide (0 < ((k : Nat) : Int)) || !decide ((gt q.Conds k).Field ≤ (gt q.Conds (k - 1)).Field))) <;> cases decide (0 ≤ q.Id ∧ q.Id ≤ 23) <;> intro h <;> first | exact ⟨rfl, rfl⟩ | cases h
  obtain ⟨ha, hi⟩ := ha
  rw [List.all_eq_true] at ha
  refine ⟨of_decide_eq_true hi, fun c hc => ?_⟩
  obtain ⟨i, hi, rfl⟩ := List.mem_iff_getElem.1 hc
  have := ha i (List.mem_range.2 hi)
  rw [Bool.and_eq_true, gt_at hi] at this
  have h1 := this.1
  unfold spec_IsCond_m at h1
  rw [spec_l1In_iff] at h1
  by_cases hf : 0 ≤ q.Conds[i].Field ∧ q.Conds[i].Field ≤ 2
  · exact hf
  · rw [decide_eq_false hf] at h1; cases h1
def spec_MatchesRow_b1 (x0 : DQuery) (x1 : DRow) (k24 : Nat) : Bool ⊕ ((Unit) ⊕ (Unit)) :=
 cond (spec_IsRow_m x1) (cond (spec_IsQuery_m x0) (cond (spec_l1In_m (gt x1.Values (((gt x0.Conds k24).Field).toNat)) ((gt x0.Conds k24).Low) ((gt x0.Conds k24).High)) (Sum.inr (Sum.inr ())) (Sum.inl false)) (Sum.inr (Sum.inl ()))) (Sum.inr (Sum.inl ()))
def spec_MatchesRow_m (x0 : DQuery) (x1 : DRow) : Bool :=
 Sum.elim id (fun (s : Unit) => cond (spec_IsRow_m x1) (spec_IsQuery_m x0) false) (rngb (R := Bool) (fun k (_ : Unit) => spec_MatchesRow_b1 x0 x1 k) (x0.Conds.length - 0) 0 ())
theorem cb37 : Cb Try.prog 37 := ⟨f37, _, func37, rfl, by decide⟩
theorem spec_MatchesRow_c (w : World) (z0 : List Value) (x0 : DQuery) (z1 : List Value) (x1 : DRow) (r_0 : tyQuery.rd w w.heap.size z0 x0) (r_1 : tyRow.rd w w.heap.size z1 x1) :
  Calls Try.prog 37 #[.agg z0.toArray, .agg z1.toArray] w fun e w' => e = .returned (.bool (spec_MatchesRow_m x0 x1)) ∧ Below w.heap.size w w' := by
 obtain ⟨v1, v3, rfl, r2, r4⟩ := tyQuery_rd r_0
 obtain ⟨m5, A6, c7, rfl, q8, r9⟩ := rdS_op r2
 obtain ⟨m10, A11, c12, rfl, q13, r14⟩ := rdS_op r4
 obtain ⟨v15, rfl, r16⟩ := tyRow_rd r_1
 obtain ⟨m17, A18, c19, rfl, q20, r21⟩ := rdS_op r16
 refine ce2 (L := [(0, .agg #[.int .i64 x0.Id, .int .i64 x0.Tenant, .slice A6 x0.Conds.length c7, .slice A11 x0.Out.length c12]), (1, .agg #[.int .i64 x1.Id, .slice A18 x1.Values.length c19])]) (N := 45) func37 ?_
 refine sr ?_
 refine WM_box rfl (Wd_none rfl) (by decide) (fun p22 => ?_)
 refine WM_box rfl (Wd_none rfl) (by decide) (fun p23 => ?_)
 refine wa (nt' (CM_seq (sr (wa (nt' ?_)))))
 let F1 := fun k (_ : Unit) => spec_MatchesRow_b1 x0 x1 k
 let R2 := rngb (R := Bool) F1
 let K3 : List Value := [.int .i64 x0.Id, .int .i64 x0.Tenant, .slice A6 x0.Conds.length c7, .slice A11 x0.Out.length c12]
 let I5 : It := iBox p23 50 [.int .i64 x1.Id, .slice A18 x1.Values.length c19]
 refine CM_cut (σ := (Unit) × (Unit)) (fun s => [(2, .pointer (some (⟨p22, 0, none⟩ : Addr))), (3, .pointer (some (⟨p23, 0, none⟩ : Addr)))]) (fun s => [I5, iBox p22 39 K3]) (fun s => R2 (x0.Conds.length - 0) 0 () = Sum.inr s.1) ?_ ?_
 ·
  refine CM_block ?_
  refine CM_loop (σ := Nat × (Unit) × (Unit)) (fun s => [(2, .pointer (some (⟨p22, 0, none⟩ : Addr))), (3, .pointer (some (⟨p23, 0, none⟩ : Addr))), (5, .int .i64 ((s.1 : Nat) : Int))]) (fun s => [I5, iBox p22 39 K3]) (fun s => s.1 ≤ x0.Conds.length ∧ R2 (x0.Conds.length - s.1) s.1 s.2.1 = R2 (x0.Conds.length - 0) 0 ()) (fun s => x0.Conds.length - s.1) (0, (), ()) sl3 (fun W hm => hm) ⟨(by omega), rfl⟩ ?_
  rintro ⟨k24, ⟨⟩, ⟨⟩⟩ H27
  obtain ⟨hk25, hF26⟩ : k24 ≤ x0.Conds.length ∧ R2 (x0.Conds.length - k24) k24 () = R2 (x0.Conds.length - 0) 0 () := H27
  show CM Try.prog 45 _ _ _ _ [(2, .pointer (some (⟨p22, 0, none⟩ : Addr))), (3, .pointer (some (⟨p23, 0, none⟩ : Addr))), (5, .int .i64 ((k24 : Nat) : Int))] [I5, iBox p22 39 K3]
  refine CM_seq (sr (wm ?_))
  refine wv (vf underlying39 rfl type36) ?_
  refine wv (vl 1 2 underlying36) ?_
  refine wv (vlen underlying36) ?_
  refine wv vlss ?_
  refine wm ?_
  by_cases hl28 : k24 < x0.Conds.length
  ·have g29 := dlT hl28
   have hqc : spec_IsQuery_m x0 = true → k24 < x0.Conds.length → 0 ≤ (gt x0.Conds k24).Field ∧ (gt x0.Conds k24).Field ≤ 2 := fun h hk => (Query_fact h).2 _ (gt_mem hk)
   refine wg (fun W hm => rv_loadN (cs := [.int .i64 x1.Id, .slice A18 x1.Values.length c19]) underlying50 type50 rfl rfl (hm.boxCells (n := 0) rfl)) g29 ?_
   refine WM_callV (cl_fn cb63 rfl) (fun W hm => spec_IsRow_c W _ x1 (tyRow_mk (x := x1) (hm.rdS0 r21))) (Wd_some rfl rfl rfl (bw g29 rfl)) (by decide) ?_
   refine wv (vpT g29) ?_
   refine wm ?_
   rcases Bool.eq_false_or_eq_true (spec_IsRow_m x1) with g31 | g31
   ·
    have hlr := spec_IsRow_len g31
    refine wg (fun W hm => rv_loadN (cs := K3) underlying39 type39 rfl rfl (hm.boxCells (n := 1) rfl)) g31 ?_
    refine WM_callV (cl_fn cb59 rfl) (fun W hm => spec_IsQuery_c W _ x0 (tyQuery_mk (x := x0) (hm.rdS0 r9) (hm.rdS0 r14))) (Wd_some rfl rfl rfl (bw g31 rfl)) (by decide) ?_
    refine wv (vpT g31) ?_
    refine nt' ?_
    rcases Bool.eq_false_or_eq_true (spec_IsQuery_m x0) with g33 | g33
    ·
     have hqd := hqc g33 (by omega)
     refine CM_condT rfl g33 ?_
     refine CM_skip (QM_then (CM_seq (CM_block (sr ?_))))
     refine wv (vf underlying39 rfl type36) ?_
     refine wv (vl 1 2 underlying36) ?_
     refine wm ?_
     obtain ⟨a34, rfl, hb35, he36⟩ := q8 (by omega)
     refine wv (vix 3 k24 underlying36 type90) ?_
     obtain ⟨_, e38, hc37⟩ := he36 k24 _ (gt_some (show k24 < x0.Conds.length from by omega))
     obtain rfl := tyCond_rd e38
     let K4 : List Value := [.int .i64 ((gt x0.Conds k24).Field), .int .i64 ((gt x0.Conds k24).Low), .int .i64 ((gt x0.Conds k24).High)]
     refine wv (fun W hm => rv_loadN (cs := K4) underlying90 type90 rfl rfl (hm.elCells (show (a34.add (k24 * 3)).block < w.heap.size from by rw [add_block]; exact hb35.1) hc37)) ?_
     refine WM_alloc type90 rfl (Wd_none rfl) (by decide) (fun p39 => ?_)
     refine sb 0 K4 [I5, iBox p22 39 [.int .i64 x0.Id, .int .i64 x0.Tenant, .slice (some a34) x0.Conds.length c7, .slice A11 x0.Out.length c12]] (fun W hm => hm) type90 ?_
     refine nt' (CM_seq ?_)
     refine CM_regionD (by kernel_rfl) (by kernel_rfl) ?_
     refine qv (vf underlying50 rfl type37) ?_
     refine qv (vl 1 1 underlying37) ?_
     refine qv (vf underlying90 rfl type3) ?_
     refine qv (vl 0 0 underlying3) ?_
     obtain ⟨a40, rfl, hb41, he42⟩ := q20 (by omega)
     refine qv (fun W hm => rv_indexI (sz := 1) (k := (gt x0.Conds k24).Field) underlying37 type3 rfl rfl rfl (by omega) (by omega)) ?_
     refine qv (fun W hm => rv_load underlying3 rfl rfl ((hm.cell0 (show (a40.add ((((gt x0.Conds k24).Field).toNat) * 1)).block < w.heap.size from by rw [add_block]; exact hb41.1)).trans (rdS_int he42 (((gt x0.Conds k24).Field).toNat) (by omega)))) ?_
     refine qv (vf underlying90 rfl type3) ?_
     refine qv (vl 0 1 underlying3) ?_
     refine qv (vf underlying90 rfl type3) ?_
     refine qv (vl 0 2 underlying3) ?_
     refine QR_callV (cl_fn cb42 rfl) (fun W hm => spec_l1In_c W (gt x1.Values (((gt x0.Conds k24).Field).toNat)) ((gt x0.Conds k24).Low) ((gt x0.Conds k24).High)) (Wd_none rfl) (by decide) ?_
     refine qv vnot ?_
     refine nq' ?_
     rcases Bool.eq_false_or_eq_true (spec_l1In_m (gt x1.Values (((gt x0.Conds k24).Field).toNat)) ((gt x0.Conds k24).Low) ((gt x0.Conds k24).High)) with g44 | g44
     ·
      have hw := spec_l1In_fact g44
      refine CM_condF rfl (nt g44) ?_
      refine CM_skip (QM_block_normal (QM_then (CM_region (wm ?_))))
      refine wv (vadN k24 1 (by omega)) ?_
      refine wa (WM_nil ?_)
      have hn45 := rngb_next (R := Bool) (body := F1) (k := k24) (s := ()) (s' := ()) (show k24 < x0.Conds.length from by omega) (cond_t g31 (cond_t g33 (cond_t g44 (rfl)))) hF26
      exact QM_round (k24 + 1, (), ()) sl3 (pk [1, 2]) ⟨(by omega), hn45⟩ (rl (by omega))
     ·
      refine CM_condT rfl (nf g44) ?_
      refine sr (wa (nt' (CM_ret (QM_block_ret (QM_then_ret (QM_then_ret (QM_block_ret (QM_cut_ret (QM_then_ret ?_)))))))))
      exact rtb (h := fin_inl (rngb_ret (body := F1) (k := k24) (s := ()) (show k24 < x0.Conds.length from by omega) (cond_t g31 (cond_t g33 (cond_f g44 (rfl)))) hF26) rfl)
    ·
     refine CM_condF rfl g33 ?_
     refine CM_exit (QM_then_exit (QM_then_exit (QM_block_hit ?_)))
     have hE46 := rngb_brk (R := Bool) (body := F1) (k := k24) (s := ()) (s' := ()) (show k24 < x0.Conds.length from by omega) (cond_t g31 (cond_f g33 (rfl))) hF26
     exact QM_cut_normal ((), ()) sl2 (fun W hm => hm) hE46
   ·
    refine ws g31 ?_
    refine ws g31 ?_
    refine wv (vpF g31) ?_
    refine nt' ?_
    refine CM_condF rfl rfl ?_
    refine CM_exit (QM_then_exit (QM_then_exit (QM_block_hit ?_)))
    have hE47 := rngb_brk (R := Bool) (body := F1) (k := k24) (s := ()) (s' := ()) (show k24 < x0.Conds.length from by omega) (cond_f g31 (rfl)) hF26
    exact QM_cut_normal ((), ()) sl2 (fun W hm => hm) hE47
  ·have g29 := dlF hl28
   refine ws g29 ?_
   refine ws g29 ?_
   refine wv (vpF g29) ?_
   refine wm ?_
   refine wk ?_
   refine wk ?_
   refine wv (vpF rfl) ?_
   refine nt' ?_
   refine CM_condF rfl rfl ?_
   refine CM_exit (QM_then_exit (QM_then_exit (QM_block_hit ?_)))
   have hE48 : R2 (x0.Conds.length - 0) 0 () = Sum.inr () := rngb_end hl28 hF26
   exact QM_cut_normal ((), ()) sl2 (fun W hm => hm) hE48
 ·
  rintro ⟨⟨⟩, ⟨⟩⟩ H50
  have hE49 : R2 (x0.Conds.length - 0) 0 () = Sum.inr () := H50
  show QM 45 _ _ _ .normal [(2, .pointer (some (⟨p22, 0, none⟩ : Addr))), (3, .pointer (some (⟨p23, 0, none⟩ : Addr)))] [I5, iBox p22 39 K3]
  refine QM_then (sr ?_)
  refine wv (fun W hm => rv_loadN (cs := [.int .i64 x1.Id, .slice A18 x1.Values.length c19]) underlying50 type50 rfl rfl (hm.boxCells (n := 0) rfl)) ?_
  refine wcv (cl_fn cb63 rfl) (fun W hm => spec_IsRow_c W _ x1 (tyRow_mk (x := x1) (hm.rdS0 r21))) ?_
  refine wm ?_
  rcases Bool.eq_false_or_eq_true (spec_IsRow_m x1) with g52 | g52
  ·
   have hlr := spec_IsRow_len g52
   refine wg (fun W hm => rv_loadN (cs := K3) underlying39 type39 rfl rfl (hm.boxCells (n := 1) rfl)) g52 ?_
   refine WM_callV (cl_fn cb59 rfl) (fun W hm => spec_IsQuery_c W _ x0 (tyQuery_mk (x := x0) (hm.rdS0 r9) (hm.rdS0 r14))) (Wd_some rfl rfl rfl (bw g52 rfl)) (by decide) ?_
   refine wv (vpT g52) ?_
   refine wa (nt' (CM_ret ?_))
   exact rtb (h := fin_inr hE49 (cond_t g52 (rfl)))
  ·
   refine ws g52 ?_
   refine ws g52 ?_
   refine wv (vpF g52) ?_
   refine wa (nt' (CM_ret ?_))
   exact rtb (h := fin_inr hE49 (cond_f g52 (rfl)))

def spec_AnswerAlone_b1 (x0 : DQuery) (x1 : (List DRow)) (k26 : Nat) (d27 : (List DRow)) : (List DRow) ⊕ ((List DRow)) :=
 cond (spec_MatchesRow_m x0 (gt x1 k26)) (Sum.inr (d27 ++ [(gt x1 k26)])) (Sum.inr d27)
def spec_AnswerAlone_m (x0 : DQuery) (x1 : (List DRow)) : (List DRow) :=
 Sum.elim id (fun (s : (List DRow)) => (spec_SortRows_m s)) (rng (R := (List DRow)) (fun k (s : (List DRow)) => spec_AnswerAlone_b1 x0 x1 k s) (x1.length - 0) 0 [])
theorem cb13 : Cb Try.prog 13 := ⟨f13, _, func13, rfl, by decide⟩
theorem spec_AnswerAlone_c (w : World) (z0 : List Value) (x0 : DQuery) (z1 : Value) (x1 : (List DRow)) (r_0 : tyQuery.rd w w.heap.size z0 x0) (r_1 : rdS tyRow w w.heap.size z1 x1) (s_0 : smQuery 68719476736 x0) (s_1 : (x1.length ≤ 68719476736 ∧ ∀ y ∈ x1, smRow 68719476736 y)) :
  Calls Try.prog 13 #[.agg z0.toArray, z1] w fun e w' => ∃ v : Value, e = .returned (v) ∧ Mem w.heap.size w [iOwn (tSl tyRow 50) [v] (spec_AnswerAlone_m x0 x1)] w' := by
 obtain ⟨v1, v3, rfl, r2, r4⟩ := tyQuery_rd r_0
 obtain ⟨m5, A6, c7, rfl, q8, r9⟩ := rdS_op r2
 obtain ⟨m10, A11, c12, rfl, q13, r14⟩ := rdS_op r4
 obtain ⟨m15, A16, c17, rfl, q18, r19⟩ := rdS_op r_1
 have l20 : x0.Conds.length ≤ 68719476736 := s_0.1
 have l21 : x0.Out.length ≤ 68719476736 := s_0.2
 have l22 : x1.length ≤ 68719476736 := s_1.1
 refine ce2 (L := [(0, .agg #[.int .i64 x0.Id, .int .i64 x0.Tenant, .slice A6 x0.Conds.length c7, .slice A11 x0.Out.length c12]), (1, .slice A16 x1.length c17)]) (N := 30) func13 ?_
 refine sr ?_
 refine WM_box rfl (Wd_none rfl) (by decide) (fun p23 => ?_)
 refine wa (nt' (sr ?_))
 refine WM_build0 (E := tyRow) underlying28 type50 (Wd_none rfl) (by decide) (fun p24 => ?_)
 refine wa (nt' (CM_seq (sr (wa (nt' (CM_block ?_))))))
 let F1 := fun k (s : (List DRow)) => spec_AnswerAlone_b1 x0 x1 k s
 let R2 := rng (R := (List DRow)) F1
 let K3 : List Value := [.int .i64 x0.Id, .int .i64 x0.Tenant, .slice A6 x0.Conds.length c7, .slice A11 x0.Out.length c12]
 refine CM_loop (σ := Nat × ((List DRow)) × (Option Addr × Nat)) (fun s => [(1, .slice A16 x1.length c17), (2, .pointer (some (⟨p23, 0, none⟩ : Addr))), (5, .slice s.2.2.1 s.2.1.length s.2.2.2), (6, .int .i64 ((s.1 : Nat) : Int))]) (fun s => [iOwn (tSl tyRow 50) [.slice s.2.2.1 s.2.1.length s.2.2.2] s.2.1, iBox p23 39 K3]) (fun s => s.1 ≤ x1.length ∧ R2 (x1.length - s.1) s.1 s.2.1 = R2 (x1.length - 0) 0 [] ∧ s.2.1.length ≤ 0 + s.1 ∧ ∀ y ∈ s.2.1, smRow 68719476736 y) (fun s => x1.length - s.1) (0, [], ((some ⟨p24, 0, none⟩), 0)) sl4 (fun W hm => hm) ⟨(by omega), rfl, Nat.le_refl _, fun _ h => by cases h⟩ ?_
 rintro ⟨k26, d27, ⟨A28, c29⟩⟩ H32
 obtain ⟨hk30, hF31, hi33, hi34⟩ : k26 ≤ x1.length ∧ R2 (x1.length - k26) k26 d27 = R2 (x1.length - 0) 0 [] ∧ d27.length ≤ 0 + k26 ∧ ∀ y ∈ d27, smRow 68719476736 y := H32
 show CM Try.prog 30 _ _ _ _ [(1, .slice A16 x1.length c17), (2, .pointer (some (⟨p23, 0, none⟩ : Addr))), (5, .slice A28 d27.length c29), (6, .int .i64 ((k26 : Nat) : Int))] [iOwn (tSl tyRow 50) [.slice A28 d27.length c29] d27, iBox p23 39 K3]
 refine CM_seq (sr (wm (wm ?_)))
 refine wv (vlen underlying28) ?_
 refine wv vlss ?_
 refine nt' ?_
 by_cases hl35 : k26 < x1.length
 ·have g36 := dlT hl35
  refine CM_condT rfl g36 ?_
  refine CM_skip (QM_then (CM_seq (CM_block (CM_seq ?_))))
  refine CM_regionD (by kernel_rfl) (by kernel_rfl) ?_
  refine qv (fun W hm => rv_loadN (cs := K3) underlying39 type39 rfl rfl (hm.boxCells (n := 1) rfl)) ?_
  refine qm (qm ?_)
  obtain ⟨a37, rfl, hb38, he39⟩ := q18 (by omega)
  refine qv (vix 2 k26 underlying28 type50) ?_
  obtain ⟨_, e43, hc40⟩ := he39 k26 _ (gt_some (show k26 < x1.length from by omega))
  obtain ⟨v41, rfl, r42⟩ := tyRow_rd e43
  have l44 : ((gt x1 k26).Values).length ≤ 68719476736 := (s_1.2 _ (gt_mem (show k26 < x1.length from by omega)))
  obtain ⟨m45, A46, c47, rfl, q48, r49⟩ := rdS_op r42
  let K4 : List Value := [.int .i64 ((gt x1 k26).Id), .slice A46 ((gt x1 k26).Values).length c47]
  refine qv (fun W hm => rv_loadN (cs := K4) underlying50 type50 rfl rfl (hm.elCells (show (a37.add (k26 * 2)).block < w.heap.size from by rw [add_block]; exact hb38.1) hc40)) ?_
  refine QR_callV (cl_fn cb37 rfl) (fun W hm => spec_MatchesRow_c W _ x0 _ (gt x1 k26) (tyQuery_mk (x := x0) (hm.rdS0 r9) (hm.rdS0 r14)) (tyRow_mk (x := (gt x1 k26)) (hm.rdS0 r49))) (Wd_none rfl) (by decide) ?_
  refine nq' ?_
  rcases Bool.eq_false_or_eq_true (spec_MatchesRow_m x0 (gt x1 k26)) with g51 | g51
  ·
   refine CM_condT rfl g51 ?_
   refine CM_region (wm (wm (wm ?_)))
   refine wv (vix 2 k26 underlying28 type50) ?_
   refine wv (fun W hm => rv_loadN (cs := K4) underlying50 type50 rfl rfl (hm.elCells (show (a37.add (k26 * 2)).block < w.heap.size from by rw [add_block]; exact hb38.1) hc40)) ?_
   refine wcs tyRow (gt x1 k26) (cl_fn cb31 rfl) (fun W hm => spec_l3Copy_c2 W _ (gt x1 k26) (tyRow_mk (x := (gt x1 k26)) (hm.rdS0 r49)) (s_1.2 _ (gt_mem (show k26 < x1.length from by omega)))) (fun z52 => ?_)
   refine tyRow_sp ?_
   rintro v53 rfl
   refine WM_form (n := 0) rfl ?_
   rintro A54 c55 rfl m56
   let K5 : List Value := [.int .i64 ((gt x1 k26).Id), .slice A54 ((gt x1 k26).Values).length c55]
   refine WM_build (cs := K5) underlying28 type50 rfl (by decide) (by decide) rfl (by kernel_rfl) (Wd_none rfl) (by decide) (fun p58 => ?_)
   refine ap1 tyRow 50 (.slice A28 d27.length c29) d27 (gt x1 k26) [iOwn (tSl tInt 3) [.slice A54 ((gt x1 k26).Values).length c55] ((gt x1 k26).Values)] [iBox p23 39 K3] K5 (pk [0, 2, 1, 3]) (fun _ _ hs => Els.single (tyRow_join (x := (gt x1 k26)) hs)) underlying28 type50 (show (d27.length + 1) * 32 ≤ 140737488355328 from by omega) (fun v59 => ?_)
   refine WM_form (n := 0) rfl ?_
   rintro A60 c61 rfl m62
   refine wa (WM_nil (QM_block_normal (QM_then (CM_region (wm ?_)))))
   refine wv (vadN k26 1 (by omega)) ?_
   refine wa (WM_nil ?_)
   have hn64 := rng_next (R := (List DRow)) (body := F1) (k := k26) (s := d27) (s' := (d27 ++ [(gt x1 k26)])) (show k26 < x1.length from by omega) (cond_t g51 (rfl)) hF31
   exact QM_round (k26 + 1, (d27 ++ [(gt x1 k26)]), (A60, c61)) sl4 (fun W hm => hm) ⟨(by omega), hn64, (show (d27 ++ [(gt x1 k26)]).length ≤ 0 + (k26 + 1) from by first | omega | (simp only [List.length_append, List.length_cons, List.length_nil] at *; omega)), (show ∀ y ∈ (d27 ++ [(gt x1 k26)]), smRow 68719476736 y from by first | exact hi34 | (intro y hy; rcases List.mem_append.1 hy with hy | hy; exact hi34 y hy; (rw [List.mem_singleton.1 hy]; exact s_1.2 _ (gt_mem (by omega)))))⟩ (rl (by omega))
  ·
   refine CM_condF rfl g51 ?_
   refine CM_skip (QM_block_normal (QM_then (CM_region (wm ?_))))
   refine wv (vadN k26 1 (by omega)) ?_
   refine wa (WM_nil ?_)
   have hn65 := rng_next (R := (List DRow)) (body := F1) (k := k26) (s := d27) (s' := d27) (show k26 < x1.length from by omega) (cond_f g51 (rfl)) hF31
   exact QM_round (k26 + 1, d27, (A28, c29)) sl4 (fun W hm => hm) ⟨(by omega), hn65, (show d27.length ≤ 0 + (k26 + 1) from by first | omega | (simp only [List.length_append, List.length_cons, List.length_nil] at *; omega)), (show ∀ y ∈ d27, smRow 68719476736 y from by first | exact hi34 | (intro y hy; rcases List.mem_append.1 hy with hy | hy; exact hi34 y hy; (rw [List.mem_singleton.1 hy]; exact s_1.2 _ (gt_mem (by omega)))))⟩ (rl (by omega))
 ·have g36 := dlF hl35
  refine CM_condF rfl g36 ?_
  refine CM_exit (QM_then_exit (QM_then_exit ?_))
  have hE66 : R2 (x1.length - 0) 0 [] = Sum.inr d27 := rng_end hl35 hF31
  have hsm : d27.length ≤ 68719476736 ∧ ∀ y ∈ d27, smRow 68719476736 y := ⟨by omega, hi34⟩
  refine QM_block_hit (QM_then (sr (wm ?_)))
  refine wcl (tSl tyRow 50) (spec_SortRows_m d27) (cl_fn cb12 rfl) (fun W hm => spec_SortRows_c W _ d27 (hm.rdSI (n := 0) rfl) hsm) (fun z67 => ?_)
  refine WM_form (n := 0) rfl ?_
  rintro A68 c69 rfl m70
  refine wa (nt' (CM_ret ?_))
  have he72 := (show spec_AnswerAlone_m x0 x1 = (spec_SortRows_m d27) from fin_inr hE66 (rfl))
  refine QM_r1 rfl (RR_tmp rfl) (fun W hm => ⟨.slice A68 (spec_SortRows_m d27).length c69, ?_, ?_⟩)
  ·first | rw [he72] | rfl
  ·rw [he72]; exact (hm.pick [0] (by decide))

def spec_EqualRows_b1 (x0 : (List DRow)) (x1 : (List DRow)) (k13 : Nat) : Bool ⊕ (Unit) :=
 cond (spec_l3Same_m (gt x0 k13) (gt x1 k13)) (Sum.inr ()) (Sum.inl false)
def spec_EqualRows_m (x0 : (List DRow)) (x1 : (List DRow)) : Bool :=
 cond (((x0.length : Nat) : Int) != ((x1.length : Nat) : Int)) false (Sum.elim id (fun (s : Unit) => true) (rng (R := Bool) (fun k (_ : Unit) => spec_EqualRows_b1 x0 x1 k) (x0.length - 0) 0 ()))
theorem cb11 : Cb Try.prog 11 := ⟨f11, _, func11, rfl, by decide⟩
theorem spec_EqualRows_c (w : World) (z0 : Value) (x0 : (List DRow)) (z1 : Value) (x1 : (List DRow)) (r_0 : rdS tyRow w w.heap.size z0 x0) (r_1 : rdS tyRow w w.heap.size z1 x1) :
  Calls Try.prog 11 #[z0, z1] w fun e w' => e = .returned (.bool (spec_EqualRows_m x0 x1)) ∧ Below w.heap.size w w' := by
 obtain ⟨m1, A2, c3, rfl, q4, r5⟩ := rdS_op r_0
 obtain ⟨m6, A7, c8, rfl, q9, r10⟩ := rdS_op r_1
 refine ce2 (L := [(0, .slice A2 x0.length c3), (1, .slice A7 x1.length c8)]) (N := 27) func11 ?_
 refine sr (wa (nt' (CM_seq (sr (wm ?_)))))
 refine wv (vlen underlying28) ?_
 refine wm ?_
 refine wv (vlen underlying28) ?_
 refine wv vneq ?_
 refine nt' ?_
 by_cases h11 : ((x0.length : Nat) : Int) = ((x1.length : Nat) : Int)
 ·have g12 : (((x0.length : Nat) : Int) != ((x1.length : Nat) : Int)) = false := by rw [h11]; exact bne_self_eq_false _
  refine CM_condF rfl g12 ?_
  refine CM_skip (QM_then (CM_seq (sr (wa (nt' (CM_block ?_))))))
  let F1 := fun k (_ : Unit) => spec_EqualRows_b1 x0 x1 k
  let R2 := rng (R := Bool) F1
  refine CM_loop (σ := Nat × (Unit) × (Unit)) (fun s => [(0, .slice A2 x0.length c3), (1, .slice A7 x1.length c8), (5, .int .i64 ((s.1 : Nat) : Int))]) (fun s => []) (fun s => s.1 ≤ x0.length ∧ R2 (x0.length - s.1) s.1 s.2.1 = R2 (x0.length - 0) 0 ()) (fun s => x0.length - s.1) (0, (), ()) sl3 (fun W hm => hm) ⟨(by omega), rfl⟩ ?_
  rintro ⟨k13, ⟨⟩, ⟨⟩⟩ H16
  obtain ⟨hk14, hF15⟩ : k13 ≤ x0.length ∧ R2 (x0.length - k13) k13 () = R2 (x0.length - 0) 0 () := H16
  show CM Try.prog 27 _ _ _ _ [(0, .slice A2 x0.length c3), (1, .slice A7 x1.length c8), (5, .int .i64 ((k13 : Nat) : Int))] []
  refine CM_seq (sr (wm (wm ?_)))
  refine wv (vlen underlying28) ?_
  refine wv vlss ?_
  refine nt' ?_
  by_cases hl17 : k13 < x0.length
  ·have g18 := dlT hl17
   refine CM_condT rfl g18 ?_
   refine CM_skip (QM_then (CM_seq (CM_block (CM_seq ?_))))
   refine CM_regionD (by kernel_rfl) (by kernel_rfl) ?_
   refine qm (qm ?_)
   obtain ⟨a19, rfl, hb20, he21⟩ := q4 (by omega)
   refine qv (vix 2 k13 underlying28 type50) ?_
   obtain ⟨_, e25, hc22⟩ := he21 k13 _ (gt_some (show k13 < x0.length from by omega))
   obtain ⟨v23, rfl, r24⟩ := tyRow_rd e25
   obtain ⟨m26, A27, c28, rfl, q29, r30⟩ := rdS_op r24
   refine qv (fun W hm => rv_loadN (cs := [.int .i64 ((gt x0 k13).Id), .slice A27 ((gt x0 k13).Values).length c28]) underlying50 type50 rfl rfl (hm.elCells (show (a19.add (k13 * 2)).block < w.heap.size from by rw [add_block]; exact hb20.1) hc22)) ?_
   refine qm (qm ?_)
   obtain ⟨a31, rfl, hb32, he33⟩ := q9 (by omega)
   refine qv (vix 2 k13 underlying28 type50) ?_
   obtain ⟨_, e37, hc34⟩ := he33 k13 _ (gt_some (show k13 < x1.length from by omega))
   obtain ⟨v35, rfl, r36⟩ := tyRow_rd e37
   obtain ⟨m38, A39, c40, rfl, q41, r42⟩ := rdS_op r36
   refine qv (fun W hm => rv_loadN (cs := [.int .i64 ((gt x1 k13).Id), .slice A39 ((gt x1 k13).Values).length c40]) underlying50 type50 rfl rfl (hm.elCells (show (a31.add (k13 * 2)).block < w.heap.size from by rw [add_block]; exact hb32.1) hc34)) ?_
   refine QR_callV (cl_fn cb28 rfl) (fun W hm => spec_l3Same_c W _ (gt x0 k13) _ (gt x1 k13) (tyRow_mk (x := (gt x0 k13)) (hm.rdS0 r30)) (tyRow_mk (x := (gt x1 k13)) (hm.rdS0 r42))) (Wd_none rfl) (by decide) ?_
   refine qv vnot ?_
   refine nq' ?_
   rcases Bool.eq_false_or_eq_true (spec_l3Same_m (gt x0 k13) (gt x1 k13)) with g44 | g44
   ·
    refine CM_condF rfl (nt g44) ?_
    refine CM_skip (QM_block_normal (QM_then (CM_region (wm ?_))))
    refine wv (vadN k13 1 (by omega)) ?_
    refine wa (WM_nil ?_)
    have hn45 := rng_next (R := Bool) (body := F1) (k := k13) (s := ()) (s' := ()) (show k13 < x0.length from by omega) (cond_t g44 (rfl)) hF15
    exact QM_round (k13 + 1, (), ()) sl3 (fun W hm => hm) ⟨(by omega), hn45⟩ (rl (by omega))
   ·
    refine CM_condT rfl (nf g44) ?_
    refine sr (wa (nt' (CM_ret (QM_block_ret (QM_then_ret (QM_then_ret (QM_block_ret (QM_then_ret ?_))))))))
    exact rtb (h := cond_f g12 (fin_inl (rng_ret (body := F1) (k := k13) (s := ()) (show k13 < x0.length from by omega) (cond_f g44 (rfl)) hF15) rfl))
  ·have g18 := dlF hl17
   refine CM_condF rfl g18 ?_
   refine CM_exit (QM_then_exit (QM_then_exit ?_))
   have hE46 : R2 (x0.length - 0) 0 () = Sum.inr () := rng_end hl17 hF15
   refine QM_block_hit (QM_then (sr (wa (nt' (CM_ret ?_)))))
   exact rtb (h := cond_f g12 (fin_inr hE46 (rfl)))
 ·have g12 : (((x0.length : Nat) : Int) != ((x1.length : Nat) : Int)) = true := bne_iff_ne.2 h11
  refine CM_condT rfl g12 ?_
  refine sr (wa (nt' (CM_ret (QM_then_ret ?_))))
  exact rtb (h := cond_t g12 (rfl))

theorem rowsP_sm {l : List DRow} (h : rowsP l) (hl : l.length ≤ 32) : l.length ≤ 68719476736 ∧ ∀ y ∈ l, smRow 68719476736 y := ⟨by omega, fun y hy => by show y.Values.length ≤ _; rw [(h.1 y hy).2.2.1]; omega⟩
def spec_l13Draw_m (x0b : List Int) (x0 : Dl1Cur) : ((List DQuery) × (List DRow) × (List DAnnotated) × Dl1Cur) :=
 ((spec_l4Queries_m x0b x0 5).1, (spec_l3Rows_m x0b ((spec_l4Queries_m x0b x0 5).2) 8).1, (spec_AnnotateRows_m (spec_BuildIndex_m ((spec_l4Queries_m x0b x0 5).1)) (spec_l3Rows_m x0b ((spec_l4Queries_m x0b x0 5).2) 8).1), (spec_l3Rows_m x0b ((spec_l4Queries_m x0b x0 5).2) 8).2)
theorem cb64 : Cb Try.prog 64 := ⟨f64, _, func64, rfl, by decide⟩
theorem spec_l13Draw_c (B : Nat) (w0 : World) (is : List It) (w : World) (p : Nat) (z0 : Value) (x0b : List Int) (x0 : Dl1Cur) (r_0 : rdS tU8 w0 B z0 x0b) (s_0 : x0b.length ≤ 68719476736) (hm : Mem B w0 (iBox p 74 [z0, .int .i64 ((x0.i : Nat) : Int), .int .i64 x0.h] :: is) w) :
  Calls Try.prog 64 #[.pointer (some ⟨p, 0, none⟩)] w fun e w' => ∃ x : Value × Value × Value, e = .returned (.tuple #[x.1, x.2.1, x.2.2]) ∧ Mem B w0 (iOwn (tSl tyQuery 39) [x.1] ((spec_l13Draw_m x0b x0).1) :: iOwn (tSl tyRow 50) [x.2.1] ((spec_l13Draw_m x0b x0).2.1) :: iOwn (tSl tyAnnotated 52) [x.2.2] ((spec_l13Draw_m x0b x0).2.2.1) :: iBox p 74 [z0, .int .i64 ((((spec_l13Draw_m x0b x0).2.2.2).i : Nat) : Int), .int .i64 ((spec_l13Draw_m x0b x0).2.2.2).h] :: is) w' := by
 obtain ⟨m1, A2, c3, rfl, q4, r5⟩ := rdS_op r_0
 refine call_enterW (L := [(0, .pointer (some ⟨p, 0, none⟩))]) (N := 17) func64 rfl rfl (Nat.le_of_ble_eq_true rfl) (argsL_cons rfl argsL_nil) hm ?_
 have l6 : x0b.length ≤ 68719476736 := s_0
 refine sr (wa (wa (wa (nt' (sr (wm ?_))))))
 refine WM_callW (χ := Value) (val := fun x => x) (js := fun x => (iOwn (tSl tyQuery 39) [x] ((spec_l4Queries_m x0b x0 5).1) :: iBox p 74 [.slice A2 x0b.length c3, .int .i64 ((((spec_l4Queries_m x0b x0 5).2).i : Nat) : Int), .int .i64 ((spec_l4Queries_m x0b x0 5).2).h] :: (is))) (cl_fn cb48 rfl) (fun W hm => spec_l4Queries_c B w0 (is) W p _ x0b x0 r5 5 s_0 (⟨by omega, by omega⟩) (hm.front (n := 0) rfl)) (Wd_none rfl) (by decide) (fun z7 => ?_)
 have hqs := spec_l4Queries_fact x0b x0 5 (by omega) (by omega)
 refine WM_form (n := 0) rfl ?_
 rintro A8 c9 rfl m10
 refine wa (nt' (sr (wm ?_)))
 let I1 : It := iOwn (tSl tyQuery 39) [.slice A8 ((spec_l4Queries_m x0b x0 5).1).length c9] ((spec_l4Queries_m x0b x0 5).1)
 refine WM_callW (χ := Value) (val := fun x => x) (js := fun x => (iOwn (tSl tyRow 50) [x] ((spec_l3Rows_m x0b ((spec_l4Queries_m x0b x0 5).2) 8).1) :: iBox p 74 [.slice A2 x0b.length c3, .int .i64 ((((spec_l3Rows_m x0b ((spec_l4Queries_m x0b x0 5).2) 8).2).i : Nat) : Int), .int .i64 ((spec_l3Rows_m x0b ((spec_l4Queries_m x0b x0 5).2) 8).2).h] :: (I1 :: is))) (cl_fn cb50 rfl) (fun W hm => spec_l3Rows_c B w0 (I1 :: is) W p _ x0b ((spec_l4Queries_m x0b x0 5).2) r5 8 s_0 (⟨by omega, by omega⟩) (hm.front (n := 1) rfl)) (Wd_none rfl) (by decide) (fun z12 => ?_)
 have hrw := spec_l3Rows_fact x0b ((spec_l4Queries_m x0b x0 5).2) 8 (by omega) (by omega)
 obtain ⟨G13, hG13⟩ : ∃ G, G = (spec_l3Rows_m x0b ((spec_l4Queries_m x0b x0 5).2) 8) := ⟨_, rfl⟩
 rw [← hG13]
 rw [← hG13] at hrw
 refine WM_form (n := 0) rfl ?_
 rintro A14 c15 rfl m16
 refine wa (nt' (sr (wm (wm (wm ?_)))))
 refine wcs tyIndex (spec_BuildIndex_m ((spec_l4Queries_m x0b x0 5).1)) (cl_fn cb47 rfl) (fun W hm => spec_BuildIndex_c W _ ((spec_l4Queries_m x0b x0 5).1) (hm.rdSI (n := 2) rfl) (Qs_sm hqs (by omega))) (fun z18 => ?_)
 refine tyIndex_sp ?_
 rintro ⟨v19, v20⟩ rfl
 refine WM_form (n := 0) rfl ?_
 rintro A21 c22 rfl m23
 refine WM_formP (n := 1) rfl ?_
 rintro A25 c26 rfl m27
 refine wm ?_
 refine wcl (tSl tyAnnotated 52) (spec_AnnotateRows_m (spec_BuildIndex_m ((spec_l4Queries_m x0b x0 5).1)) G13.1) (cl_fn cb8 rfl) (fun W hm => spec_AnnotateRows_c W _ (spec_BuildIndex_m ((spec_l4Queries_m x0b x0 5).1)) _ G13.1 (tyIndex_mk (x := (spec_BuildIndex_m ((spec_l4Queries_m x0b x0 5).1))) (hm.rdSI (n := 0) rfl) (hm.rdPI (n := 1) rfl)) (hm.rdSI (n := 2) rfl) (BuildIndex_sm hqs (by omega)) (by first | exact Qs_sm hqs (by omega) | exact rowsP_sm hrw.1 (by omega))) (fun z29 => ?_)
 refine WM_form (n := 0) rfl ?_
 rintro A30 c31 rfl m32
 refine wa (wa (wa (nt' (CM_ret ?_))))
 have he34 := (show spec_l13Draw_m x0b x0 = ((spec_l4Queries_m x0b x0 5).1, G13.1, (spec_AnnotateRows_m (spec_BuildIndex_m ((spec_l4Queries_m x0b x0 5).1)) G13.1), G13.2) from by subst hG13; exact rfl)
 refine QM_r3 rfl (RR_tmp rfl) (RR_tmp rfl) (RR_tmp rfl) (fun W hm => ⟨(.slice A8 ((spec_l4Queries_m x0b x0 5).1).length c9, .slice A14 G13.1.length c15, .slice A30 (spec_AnnotateRows_m (spec_BuildIndex_m ((spec_l4Queries_m x0b x0 5).1)) G13.1).length c31), ?_, ?_⟩)
 ·first | rw [he34] | rfl
 ·rw [he34]; exact ((((((hm.front (n := 4) rfl).front (n := 1) rfl).front (n := 4) rfl).front (n := 5) rfl).front (n := 4) rfl).tail.front (n := 4) rfl).tail

def spec_l2Set_b1 (x0b : List Int) (k12 : Nat) (d13 : (List Int)) (s16 : Int) (s17 : Int) (s18 : Nat) (s19 : Int) : ((List Int) × Dl1Cur) ⊕ (((List Int) × Int × Int × Nat × Int) ⊕ ((List Int) × Int × Int × Nat × Int)) :=
 cond (decide (0 < s17)) (cond (decide (s16 < 24)) (Sum.inr (Sum.inr ((d13 ++ [s16]), (IntKind.i64.wrap ((IntKind.i64.wrap (s16 + 1)) + (IntKind.i64.wrap ((spec_l1Below_m x0b (⟨s18, s19⟩ : Dl1Cur) 3).1 * ((spec_l1Below_m x0b (spec_l1Below_m x0b (⟨s18, s19⟩ : Dl1Cur) 3).2 2).1))))), (IntKind.i64.wrap (s17 - 1)), ((spec_l1Below_m x0b (spec_l1Below_m x0b (⟨s18, s19⟩ : Dl1Cur) 3).2 2).2).i, ((spec_l1Below_m x0b (spec_l1Below_m x0b (⟨s18, s19⟩ : Dl1Cur) 3).2 2).2).h))) (Sum.inr (Sum.inl (d13, s16, s17, s18, s19)))) (Sum.inr (Sum.inl (d13, s16, s17, s18, s19)))
def spec_l2Set_m (x0b : List Int) (x0 : Dl1Cur) : ((List Int) × Dl1Cur) :=
 Sum.elim id (fun (s : (List Int) × Int × Int × Nat × Int) => (s.1, (⟨s.2.2.2.1, s.2.2.2.2⟩ : Dl1Cur))) (rngb (R := ((List Int) × Dl1Cur)) (fun k (s : (List Int) × Int × Int × Nat × Int) => spec_l2Set_b1 x0b k s.1 s.2.1 s.2.2.1 s.2.2.2.1 s.2.2.2.2) (((spec_l1Below_m x0b ((spec_l1Below_m x0b x0 3).2) 7).1).toNat + 1 - 0) 0 ([], (spec_l1Below_m x0b x0 3).1, (spec_l1Below_m x0b ((spec_l1Below_m x0b x0 3).2) 7).1, (spec_l1Below_m x0b ((spec_l1Below_m x0b x0 3).2) 7).2.i, (spec_l1Below_m x0b ((spec_l1Below_m x0b x0 3).2) 7).2.h))
theorem cb65 : Cb Try.prog 65 := ⟨f65, _, func65, rfl, by decide⟩
theorem spec_l2Set_c (B : Nat) (w0 : World) (is : List It) (w : World) (p : Nat) (z0 : Value) (x0b : List Int) (x0 : Dl1Cur) (r_0 : rdS tU8 w0 B z0 x0b) (s_0 : x0b.length ≤ 68719476736) (hm : Mem B w0 (iBox p 74 [z0, .int .i64 ((x0.i : Nat) : Int), .int .i64 x0.h] :: is) w) :
  Calls Try.prog 65 #[.pointer (some ⟨p, 0, none⟩)] w fun e w' => ∃ x : Value, e = .returned (x) ∧ Mem B w0 (iOwn (tSl tInt 3) [x] ((spec_l2Set_m x0b x0).1) :: iBox p 74 [z0, .int .i64 ((((spec_l2Set_m x0b x0).2).i : Nat) : Int), .int .i64 ((spec_l2Set_m x0b x0).2).h] :: is) w' := by
 obtain ⟨m1, A2, c3, rfl, q4, r5⟩ := rdS_op r_0
 refine call_enterW (L := [(0, .pointer (some ⟨p, 0, none⟩))]) (N := 32) func65 rfl rfl (Nat.le_of_ble_eq_true rfl) (argsL_cons rfl argsL_nil) hm ?_
 have l6 : x0b.length ≤ 68719476736 := s_0
 refine sr (wa (nt' (sr ?_)))
 refine WM_build0 (E := tInt) underlying37 type3 (Wd_none rfl) (by decide) (fun p7 => ?_)
 refine wa (nt' (sr (wm ?_)))
 let I4 : It := iOwn (tSl tInt 3) [.slice (some ⟨p7, 0, none⟩) 0 0] []
 refine WM_callW (χ := Unit) (val := fun x => .int .i64 ((spec_l1Below_m x0b x0 3).1)) (js := fun x => (iBox p 74 [.slice A2 x0b.length c3, .int .i64 ((((spec_l1Below_m x0b x0 3).2).i : Nat) : Int), .int .i64 ((spec_l1Below_m x0b x0 3).2).h] :: (I4 :: is))) (cl_fn cb41 rfl) (fun W hm => spec_l1Below_c B w0 (I4 :: is) W p _ x0b x0 r5 3 s_0 (hm.front (n := 1) rfl)) (Wd_none rfl) (by decide) (fun z9 => ?_)
 have hb := spec_l1Below_rng x0b x0 3
 refine wa (nt' (CM_seq (sr (wm ?_))))
 refine WM_callW (χ := Unit) (val := fun x => .int .i64 ((spec_l1Below_m x0b ((spec_l1Below_m x0b x0 3).2) 7).1)) (js := fun x => (iBox p 74 [.slice A2 x0b.length c3, .int .i64 ((((spec_l1Below_m x0b ((spec_l1Below_m x0b x0 3).2) 7).2).i : Nat) : Int), .int .i64 ((spec_l1Below_m x0b ((spec_l1Below_m x0b x0 3).2) 7).2).h] :: (I4 :: is))) (cl_fn cb41 rfl) (fun W hm => spec_l1Below_c B w0 (I4 :: is) W p _ x0b ((spec_l1Below_m x0b x0 3).2) r5 7 s_0 (hm.front (n := 0) rfl)) (Wd_none rfl) (by decide) (fun z10 => ?_)
 have hb := spec_l1Below_rng x0b ((spec_l1Below_m x0b x0 3).2) 7
 obtain ⟨G11, hG11⟩ : ∃ G, G = (spec_l1Below_m x0b ((spec_l1Below_m x0b x0 3).2) 7) := ⟨_, rfl⟩
 rw [← hG11]
 rw [← hG11] at hb
 refine wa (nt' ?_)
 let F1 := fun k (s : (List Int) × Int × Int × Nat × Int) => spec_l2Set_b1 x0b k s.1 s.2.1 s.2.2.1 s.2.2.2.1 s.2.2.2.2
 let R2 := rngb (R := ((List Int) × Dl1Cur)) F1
 refine CM_cut (σ := ((List Int) × Int × Int × Nat × Int) × (Option Addr × Nat)) (fun s => [(3, .slice s.2.1 s.1.1.length s.2.2)]) (fun s => (iBox p 74 [.slice A2 x0b.length c3, .int .i64 ((s.1.2.2.2.1 : Nat) : Int), .int .i64 s.1.2.2.2.2] :: iOwn (tSl tInt 3) [.slice s.2.1 s.1.1.length s.2.2] s.1.1 :: is)) (fun s => R2 ((G11.1).toNat + 1 - 0) 0 ([], (spec_l1Below_m x0b x0 3).1, G11.1, G11.2.i, G11.2.h) = Sum.inr s.1) ?_ ?_
 ·
  refine CM_block ?_
  refine CM_loop (σ := Nat × ((List Int) × Int × Int × Nat × Int) × (Option Addr × Nat)) (fun s => [(0, .pointer (some (⟨p, 0, none⟩ : Addr))), (3, .slice s.2.2.1 s.2.1.1.length s.2.2.2), (4, .int .i64 s.2.1.2.1), (5, .int .i64 s.2.1.2.2.1)]) (fun s => (iBox p 74 [.slice A2 x0b.length c3, .int .i64 ((s.2.1.2.2.2.1 : Nat) : Int), .int .i64 s.2.1.2.2.2.2] :: iOwn (tSl tInt 3) [.slice s.2.2.1 s.2.1.1.length s.2.2.2] s.2.1.1 :: is)) (fun s => s.1 + ((s.2.1.2.2.1).toNat) + 1 ≤ (G11.1).toNat + 1 ∧ R2 ((G11.1).toNat + 1 - s.1) s.1 s.2.1 = R2 ((G11.1).toNat + 1 - 0) 0 ([], (spec_l1Below_m x0b x0 3).1, G11.1, G11.2.i, G11.2.h) ∧ s.2.1.1.length ≤ 0 + s.1 ∧ 0 ≤ s.2.1.2.2.1 ∧ s.2.1.2.2.1 ≤ 7) (fun s => (G11.1).toNat + 1 - s.1) (0, ([], (spec_l1Below_m x0b x0 3).1, G11.1, G11.2.i, G11.2.h), ((some ⟨p7, 0, none⟩), 0)) sl4 (fun W hm => hm) ⟨(show 0 + ((G11.1).toNat) + 1 ≤ (G11.1).toNat + 1 from by omega), rfl, Nat.le_refl _, (show 0 ≤ G11.1 from by omega), (show G11.1 ≤ 7 from by omega)⟩ ?_
  rintro ⟨k12, ⟨d13, s16, s17, s18, s19⟩, ⟨A14, c15⟩⟩ H22
  obtain ⟨hk20, hF21, hi23, hi24, hi25⟩ : k12 + ((s17).toNat) + 1 ≤ (G11.1).toNat + 1 ∧ R2 ((G11.1).toNat + 1 - k12) k12 (d13, s16, s17, s18, s19) = R2 ((G11.1).toNat + 1 - 0) 0 ([], (spec_l1Below_m x0b x0 3).1, G11.1, G11.2.i, G11.2.h) ∧ d13.length ≤ 0 + k12 ∧ 0 ≤ s17 ∧ s17 ≤ 7 := H22
  let K3 : List Value := [.slice A2 x0b.length c3, .int .i64 ((s18 : Nat) : Int), .int .i64 s19]
  show CM Try.prog 32 _ _ _ _ [(0, .pointer (some (⟨p, 0, none⟩ : Addr))), (3, .slice A14 d13.length c15), (4, .int .i64 s16), (5, .int .i64 s17)] (iBox p 74 K3 :: iOwn (tSl tInt 3) [.slice A14 d13.length c15] d13 :: is)
  have hw1 := wrap_id (n := s17 - 1) (by omega) (by omega)
  refine CM_seq (sr (wm ?_))
  refine wv (fun W hm => rv_gtr rfl rfl) ?_
  refine wm ?_
  by_cases h26 : 0 < s17
  ·have g27 := decide_eq_true h26
   refine wg vmv g27 ?_
   refine wg vlss g27 ?_
   refine wv (vpT g27) ?_
   refine nt' ?_
   by_cases h28 : s16 < 24
   ·have g29 := decide_eq_true h28
    refine CM_condT rfl g29 ?_
    refine CM_skip (QM_then (CM_seq (CM_block (sr (wm (wm ?_))))))
    refine WM_build (cs := [.int .i64 s16]) underlying37 type3 rfl (by decide) (by decide) rfl (by kernel_rfl) (Wd_none rfl) (by decide) (fun p30 => ?_)
    refine ap1 tInt 3 (.slice A14 d13.length c15) d13 s16 [] (iBox p 74 K3 :: is) [.int .i64 s16] (fun W hm => ((hm.front (n := 2) rfl).front (n := 1) rfl)) (fun _ _ hs => by cases (Sep.nil hs); exact (els_cons tInt_own els_nil)) underlying37 type3 (show (d13.length + 1) * 8 ≤ 140737488355328 from by omega) (fun v31 => ?_)
    refine WM_form (n := 0) rfl ?_
    rintro A32 c33 rfl m34
    refine wa (nt' (CM_region (wm ?_)))
    refine wv vadd ?_
    refine wm ?_
    let I5 : It := iOwn (tSl tInt 3) [.slice A32 (d13 ++ [s16]).length c33] (d13 ++ [s16])
    refine WM_callW (χ := Unit) (val := fun x => .int .i64 ((spec_l1Below_m x0b (⟨s18, s19⟩ : Dl1Cur) 3).1)) (js := fun x => (iBox p 74 [.slice A2 x0b.length c3, .int .i64 ((((spec_l1Below_m x0b (⟨s18, s19⟩ : Dl1Cur) 3).2).i : Nat) : Int), .int .i64 ((spec_l1Below_m x0b (⟨s18, s19⟩ : Dl1Cur) 3).2).h] :: (I5 :: is))) (cl_fn cb41 rfl) (fun W hm => spec_l1Below_c B w0 (I5 :: is) W p _ x0b (⟨s18, s19⟩ : Dl1Cur) r5 3 s_0 (hm.front (n := 1) rfl)) (Wd_none rfl) (by decide) (fun z36 => ?_)
    have hb := spec_l1Below_rng x0b (⟨s18, s19⟩ : Dl1Cur) 3
    obtain ⟨G37, hG37⟩ : ∃ G, G = (spec_l1Below_m x0b (⟨s18, s19⟩ : Dl1Cur) 3) := ⟨_, rfl⟩
    rw [← hG37]
    rw [← hG37] at hb
    refine wm ?_
    refine WM_callW (χ := Unit) (val := fun x => .int .i64 ((spec_l1Below_m x0b G37.2 2).1)) (js := fun x => (iBox p 74 [.slice A2 x0b.length c3, .int .i64 ((((spec_l1Below_m x0b G37.2 2).2).i : Nat) : Int), .int .i64 ((spec_l1Below_m x0b G37.2 2).2).h] :: (I5 :: is))) (cl_fn cb41 rfl) (fun W hm => spec_l1Below_c B w0 (I5 :: is) W p _ x0b G37.2 r5 2 s_0 (hm.front (n := 0) rfl)) (Wd_none rfl) (by decide) (fun z38 => ?_)
    have hb := spec_l1Below_rng x0b G37.2 2
    refine wv (fun W hm => rv_mul rfl rfl) ?_
    refine wv vadd ?_
    refine wa (WM_nil (QM_block_normal (QM_then (CM_region (wm ?_)))))
    refine wv (fun W hm => rv_sub rfl rfl) ?_
    refine wa (WM_nil ?_)
    have hn39 := rngb_next (R := ((List Int) × Dl1Cur)) (body := F1) (k := k12) (s := (d13, s16, s17, s18, s19)) (s' := ((d13 ++ [s16]), (IntKind.i64.wrap ((IntKind.i64.wrap (s16 + 1)) + (IntKind.i64.wrap (G37.1 * ((spec_l1Below_m x0b G37.2 2).1))))), (IntKind.i64.wrap (s17 - 1)), ((spec_l1Below_m x0b G37.2 2).2).i, ((spec_l1Below_m x0b G37.2 2).2).h)) (show k12 < (G11.1).toNat + 1 from by omega) (by subst hG11 hG37; exact cond_t g27 (cond_t g29 (rfl))) hF21
    exact QM_round (k12 + 1, ((d13 ++ [s16]), (IntKind.i64.wrap ((IntKind.i64.wrap (s16 + 1)) + (IntKind.i64.wrap (G37.1 * ((spec_l1Below_m x0b G37.2 2).1))))), (IntKind.i64.wrap (s17 - 1)), ((spec_l1Below_m x0b G37.2 2).2).i, ((spec_l1Below_m x0b G37.2 2).2).h), (A32, c33)) sl4 (fun W hm => hm) ⟨(show (k12 + 1) + (((IntKind.i64.wrap (s17 - 1))).toNat) + 1 ≤ (G11.1).toNat + 1 from by omega), hn39, (show (d13 ++ [s16]).length ≤ 0 + (k12 + 1) from by first | omega | (simp only [List.length_append, List.length_cons, List.length_nil] at *; omega)), (show 0 ≤ (IntKind.i64.wrap (s17 - 1)) from by first | omega | (simp only [List.length_append, List.length_cons, List.length_nil] at *; omega)), (show (IntKind.i64.wrap (s17 - 1)) ≤ 7 from by first | omega | (simp only [List.length_append, List.length_cons, List.length_nil] at *; omega))⟩ (show (G11.1).toNat + 1 - (k12 + 1) < (G11.1).toNat + 1 - k12 from by omega)
   ·have g29 := decide_eq_false h28
    refine CM_condF rfl g29 ?_
    refine CM_exit (QM_then_exit (QM_then_exit (QM_block_hit ?_)))
    have hE40 := rngb_brk (R := ((List Int) × Dl1Cur)) (body := F1) (k := k12) (s := (d13, s16, s17, s18, s19)) (s' := (d13, s16, s17, s18, s19)) (show k12 < (G11.1).toNat + 1 from by omega) (by subst hG11; exact cond_t g27 (cond_f g29 (rfl))) hF21
    exact QM_cut_normal ((d13, s16, s17, s18, s19), (A14, c15)) (subL_cons rfl subL_nil) (fun W hm => hm) hE40
  ·have g27 := decide_eq_false h26
   refine ws g27 ?_
   refine ws g27 ?_
   refine wv (vpF g27) ?_
   refine nt' ?_
   refine CM_condF rfl rfl ?_
   refine CM_exit (QM_then_exit (QM_then_exit (QM_block_hit ?_)))
   have hE41 := rngb_brk (R := ((List Int) × Dl1Cur)) (body := F1) (k := k12) (s := (d13, s16, s17, s18, s19)) (s' := (d13, s16, s17, s18, s19)) (show k12 < (G11.1).toNat + 1 from by omega) (by subst hG11; exact cond_f g27 (rfl)) hF21
   exact QM_cut_normal ((d13, s16, s17, s18, s19), (A14, c15)) (subL_cons rfl subL_nil) (fun W hm => hm) hE41
 ·
  rintro ⟨⟨d13, s16, s17, s18, s19⟩, ⟨A14, c15⟩⟩ H43
  have hE42 : R2 ((G11.1).toNat + 1 - 0) 0 ([], (spec_l1Below_m x0b x0 3).1, G11.1, G11.2.i, G11.2.h) = Sum.inr (d13, s16, s17, s18, s19) := H43
  show QM 32 _ _ _ .normal [(3, .slice A14 d13.length c15)] (iBox p 74 [.slice A2 x0b.length c3, .int .i64 ((s18 : Nat) : Int), .int .i64 s19] :: iOwn (tSl tInt 3) [.slice A14 d13.length c15] d13 :: is)
  refine QM_then (sr (wm (wa (nt' (CM_ret ?_)))))
  have he44 := (show spec_l2Set_m x0b x0 = (d13, (⟨s18, s19⟩ : Dl1Cur)) from by subst hG11; exact fin_inr hE42 (rfl))
  refine QM_r1 rfl (RR_tmp rfl) (fun W hm => ⟨.slice A14 d13.length c15, ?_, ?_⟩)
  ·first | rw [he44] | rfl
  ·rw [he44]; exact ((hm.front (n := 0) rfl).front (n := 1) rfl)

theorem spec_l2Set_fact (b : List Int) (D : Dl1Cur) : (spec_l2Set_m b D).1.length ≤ 6 := by
  have hb := spec_l1Below_rng b (spec_l1Below_m b D 3).2 7
  have hb' := hb.2.1 (by omega)
  have key : ∀ (m k : Nat) (s : (List Int) × Int × Int × Nat × Int), (s.2.2.1 ≤ 6 ∧ s.1.length + s.2.2.1.toNat ≤ 6) → (Sum.elim id (fun (s : (List Int) × Int × Int × Nat × Int) => (s.1, (⟨s.2.2.2.1, s.2.2.2.2⟩ : Dl1Cur))) (rngb (R := ((List Int) × Dl1Cur)) (fun k (s : (List Int) × Int × Int × Nat × Int) => spec_l2Set_b1 b k s.1 s.2.1 s.2.2.1 s.2.2.2.1 s.2.2.2.2) m k s)).1.length ≤ 6 := fun m k s hs => by
    obtain ⟨s', e1, e2⟩ := rngb_invP (R := ((List Int) × Dl1Cur)) (b := fun k (s : (List Int) × Int × Int × Nat × Int) => spec_l2Set_b1 b k s.1 s.2.1 s.2.2.1 s.2.2.2.1 s.2.2.2.2) (P := fun _ s => s.2.2.1 ≤ 6 ∧ s.1.length + s.2.2.1.toNat ≤ 6) (Q := fun s => s.1.length ≤ 6) (fun k s ⟨p1, p2⟩ => by
      show (∃ s', spec_l2Set_b1 b k s.1 s.2.1 s.2.2.1 s.2.2.2.1 s.2.2.2.2 = _ ∧ _) ∨ ∃ s', spec_l2Set_b1 b k s.1 s.2.1 s.2.2.1 s.2.2.2.1 s.2.2.2.2 = _ ∧ _
      unfold spec_l2Set_b1
      by_cases h : 0 < s.2.2.1
      · rw [decide_eq_true h, cond_true, wrap_id (n := s.2.2.1 - 1) (by omega) (by omega)]
        cases decide (s.2.1 < 24) with
        | true =>
          refine .inl ⟨_, rfl, ?_, ?_⟩
          · show s.2.2.1 - 1 ≤ 6; omega
          · show (s.1 ++ [_]).length + (s.2.2.1 - 1).toNat ≤ 6; rw [List.length_append]; show s.1.length + 1 + _ ≤ 6; omega
        | false => exact .inr ⟨_, rfl, by show s.1.length ≤ 6; omega⟩
      · rw [decide_eq_false h]
        exact .inr ⟨_, rfl, by show s.1.length ≤ 6; omega⟩) m k s hs
    rw [e1]
    show s'.1.length ≤ 6
    rcases e2 with h | h <;> omega
  unfold spec_l2Set_m
  exact key _ _ _ ⟨(by show (spec_l1Below_m b (spec_l1Below_m b D 3).2 7).1 ≤ 6; omega), (by show 0 + (spec_l1Below_m b (spec_l1Below_m b D 3).2 7).1.toNat ≤ 6; omega)⟩
def spec_l2Any_m (x0b : List Int) (x0 : Dl1Cur) : ((List Int) × Dl1Cur) :=
 cond ((spec_l1Once_m x0b ((spec_l2Set_m x0b x0).2) 8).1) (((spec_l2Set_m x0b x0).1 ++ [(spec_l1PickInt_m x0b (spec_l1Once_m x0b ((spec_l2Set_m x0b x0).2) 8).2 [(-1), 0, 23, 24]).1]), (spec_l1PickInt_m x0b (spec_l1Once_m x0b ((spec_l2Set_m x0b x0).2) 8).2 [(-1), 0, 23, 24]).2) ((spec_l2Set_m x0b x0).1, (spec_l1Once_m x0b ((spec_l2Set_m x0b x0).2) 8).2)
theorem cb39 : Cb Try.prog 39 := ⟨f39, _, func39, rfl, by decide⟩
theorem spec_l2Any_c (B : Nat) (w0 : World) (is : List It) (w : World) (p : Nat) (z0 : Value) (x0b : List Int) (x0 : Dl1Cur) (r_0 : rdS tU8 w0 B z0 x0b) (s_0 : x0b.length ≤ 68719476736) (hm : Mem B w0 (iBox p 74 [z0, .int .i64 ((x0.i : Nat) : Int), .int .i64 x0.h] :: is) w) :
  Calls Try.prog 39 #[.pointer (some ⟨p, 0, none⟩)] w fun e w' => ∃ x : Value, e = .returned (x) ∧ Mem B w0 (iOwn (tSl tInt 3) [x] ((spec_l2Any_m x0b x0).1) :: iBox p 74 [z0, .int .i64 ((((spec_l2Any_m x0b x0).2).i : Nat) : Int), .int .i64 ((spec_l2Any_m x0b x0).2).h] :: is) w' := by
 obtain ⟨m1, A2, c3, rfl, q4, r5⟩ := rdS_op r_0
 refine call_enterW (L := [(0, .pointer (some ⟨p, 0, none⟩))]) (N := 15) func39 rfl rfl (Nat.le_of_ble_eq_true rfl) (argsL_cons rfl argsL_nil) hm ?_
 have l6 : x0b.length ≤ 68719476736 := s_0
 refine sr (wa (nt' (sr (wm ?_))))
 refine WM_callW (χ := Value) (val := fun x => x) (js := fun x => (iOwn (tSl tInt 3) [x] ((spec_l2Set_m x0b x0).1) :: iBox p 74 [.slice A2 x0b.length c3, .int .i64 ((((spec_l2Set_m x0b x0).2).i : Nat) : Int), .int .i64 ((spec_l2Set_m x0b x0).2).h] :: (is))) (cl_fn cb65 rfl) (fun W hm => spec_l2Set_c B w0 (is) W p _ x0b x0 r5 s_0 (hm.front (n := 0) rfl)) (Wd_none rfl) (by decide) (fun z7 => ?_)
 have hsf := spec_l2Set_fact x0b x0
 refine WM_form (n := 0) rfl ?_
 rintro A8 c9 rfl m10
 refine wa (nt' (CM_seq (sr (wm ?_))))
 let I1 : It := iOwn (tSl tInt 3) [.slice A8 ((spec_l2Set_m x0b x0).1).length c9] ((spec_l2Set_m x0b x0).1)
 refine WM_callW (χ := Unit) (val := fun x => .bool ((spec_l1Once_m x0b ((spec_l2Set_m x0b x0).2) 8).1)) (js := fun x => (iBox p 74 [.slice A2 x0b.length c3, .int .i64 ((((spec_l1Once_m x0b ((spec_l2Set_m x0b x0).2) 8).2).i : Nat) : Int), .int .i64 ((spec_l1Once_m x0b ((spec_l2Set_m x0b x0).2) 8).2).h] :: (I1 :: is))) (cl_fn cb51 rfl) (fun W hm => spec_l1Once_c B w0 (I1 :: is) W p _ x0b ((spec_l2Set_m x0b x0).2) r5 8 s_0 (hm.front (n := 1) rfl)) (Wd_none rfl) (by decide) (fun z12 => ?_)
 obtain ⟨G13, hG13⟩ : ∃ G, G = (spec_l1Once_m x0b ((spec_l2Set_m x0b x0).2) 8) := ⟨_, rfl⟩
 rw [← hG13]
 refine nt' ?_
 rcases Bool.eq_false_or_eq_true G13.1 with g15 | g15
 ·
  refine CM_condT rfl g15 ?_
  refine CM_region (wm (wm ?_))
  refine WM_build (cs := [.int .i64 (-1), .int .i64 0, .int .i64 23, .int .i64 24]) underlying37 type3 rfl (by decide) (by decide) rfl (by kernel_rfl) (Wd_none rfl) (by decide) (fun p16 => ?_)
  refine WM_items (fun W hm => Mem.litOwn (E := tInt) (xs := [(-1), 0, 23, 24]) rfl (show 4 ≤ maxLen from by decide) (fun _ => (els_cons (E := tInt) (L1 := []) tInt_own (els_cons (E := tInt) (L1 := []) tInt_own (els_cons (E := tInt) (L1 := []) tInt_own (els_cons (E := tInt) (L1 := []) tInt_own els_nil))))) (hm.front (n := 0) rfl)) ?_
  let I2 : It := iOwn (tSl tInt 3) [.slice (some ⟨p16, 0, none⟩) 4 4] [(-1), 0, 23, 24]
  refine WM_callW (χ := Unit) (val := fun x => .int .i64 ((spec_l1PickInt_m x0b G13.2 [(-1), 0, 23, 24]).1)) (js := fun x => (iBox p 74 [.slice A2 x0b.length c3, .int .i64 ((((spec_l1PickInt_m x0b G13.2 [(-1), 0, 23, 24]).2).i : Nat) : Int), .int .i64 ((spec_l1PickInt_m x0b G13.2 [(-1), 0, 23, 24]).2).h] :: I2 :: (I1 :: is))) (cl_fn cb66 rfl) (fun W hm => spec_l1PickInt_c B w0 (I1 :: is) W p _ x0b G13.2 r5 _ [(-1), 0, 23, 24] s_0 (Nat.le_of_ble_eq_true rfl) (by first | decide | exact Nat.succ_pos _) ((hm.front (n := 0) rfl).front (n := 1) rfl)) (Wd_none rfl) (by decide) (fun z18 => ?_)
  obtain ⟨G19, hG19⟩ : ∃ G, G = (spec_l1PickInt_m x0b G13.2 [(-1), 0, 23, 24]) := ⟨_, rfl⟩
  rw [← hG19]
  refine WM_build (cs := [.int .i64 G19.1]) underlying37 type3 rfl (by decide) (by decide) rfl (by kernel_rfl) (Wd_none rfl) (by decide) (fun p20 => ?_)
  refine ap1 tInt 3 (.slice A8 ((spec_l2Set_m x0b x0).1).length c9) ((spec_l2Set_m x0b x0).1) G19.1 [] (iBox p 74 [.slice A2 x0b.length c3, .int .i64 ((G19.2.i : Nat) : Int), .int .i64 G19.2.h] :: I2 :: is) [.int .i64 G19.1] (fun W hm => ((hm.front (n := 3) rfl).front (n := 1) rfl)) (fun _ _ hs => by cases (Sep.nil hs); exact (els_cons tInt_own els_nil)) underlying37 type3 (show (((spec_l2Set_m x0b x0).1).length + 1) * 8 ≤ 140737488355328 from by omega) (fun v21 => ?_)
  refine WM_form (n := 0) rfl ?_
  rintro A22 c23 rfl m24
  refine wa (nt' (sr (wm (wa (nt' (CM_ret ?_))))))
  have he26 := (show spec_l2Any_m x0b x0 = (((spec_l2Set_m x0b x0).1 ++ [G19.1]), G19.2) from by subst hG13 hG19; exact cond_t g15 (rfl))
  refine QM_r1 rfl (RR_tmp rfl) (fun W hm => ⟨.slice A22 ((spec_l2Set_m x0b x0).1 ++ [G19.1]).length c23, ?_, ?_⟩)
  ·first | rw [he26] | rfl
  ·rw [he26]; exact (((hm.front (n := 1) rfl).front (n := 1) rfl).front (n := 2) rfl).tail
 ·
  refine CM_condF rfl g15 ?_
  refine CM_skip (QM_then (sr (wm (wa (nt' (CM_ret ?_))))))
  have he27 := (show spec_l2Any_m x0b x0 = ((spec_l2Set_m x0b x0).1, G13.2) from by subst hG13; exact cond_f g15 (rfl))
  refine QM_r1 rfl (RR_tmp rfl) (fun W hm => ⟨.slice A8 ((spec_l2Set_m x0b x0).1).length c9, ?_, ?_⟩)
  ·first | rw [he27] | rfl
  ·rw [he27]; exact ((hm.front (n := 0) rfl).front (n := 1) rfl)

theorem rngb_keep {R S : Type} {b : Nat → S → R ⊕ (S ⊕ S)} {P : S → Prop} (h : ∀ j s, P s → (∃ s', b j s = .inr (.inl s') ∧ P s') ∨ ∃ s', b j s = .inr (.inr s') ∧ P s') : ∀ m k s, P s → ∃ s', rngb b m k s = .inr s' ∧ P s'
  | 0, _, s, hs => ⟨s, rfl, hs⟩
  | m + 1, k, s, hs => by
    rcases h k s hs with ⟨s', h1, h2⟩ | ⟨s', h1, h2⟩
    · exact ⟨s', by rw [rngb, h1]; rfl, h2⟩
    · obtain ⟨s'', h3, h4⟩ := rngb_keep h m (k + 1) s' h2
      exact ⟨s'', by rw [rngb, h1]; exact h3, h4⟩
theorem cond_smR {b : Bool} {p q : DRow × Dl1Cur} (h1 : smRow 68719476736 p.1) (h2 : smRow 68719476736 q.1) : smRow 68719476736 (cond b p q).1 := by cases b <;> assumption
theorem spec_l3Any_sm (b : List Int) (D : Dl1Cur) : smRow 68719476736 (spec_l3Any_m b D).1 := by
  have hr := (spec_l3Row_fact b (spec_l1Below_m b D 9).2 (spec_l1Below_m b D 9).1).2.1
  unfold spec_l3Any_m
  repeat' (first | (show List.length _ ≤ 68719476736; first | omega | (simp only [List.length_set, List.length_append, List.length_take, List.length_cons, List.length_nil]; omega)) | apply cond_smR)
theorem spec_l2Any_fact (b : List Int) (D : Dl1Cur) : (spec_l2Any_m b D).1.length ≤ 7 := by
  have h := spec_l2Set_fact b D
  unfold spec_l2Any_m
  cases (spec_l1Once_m b (spec_l2Set_m b D).2 8).1 with
  | true => show ((spec_l2Set_m b D).1 ++ [_]).length ≤ 7; rw [List.length_append]; show _ + 1 ≤ 7; omega
  | false => show (spec_l2Set_m b D).1.length ≤ 7; omega
theorem spec_MatchSet_len (x : DIndex) (r : DRow) : (spec_MatchSet_m x r).length ≤ x.Queries.length := by
  unfold spec_MatchSet_m spec_ProbeSet_m
  cases spec_IsIndex_m x with
  | false => exact Nat.zero_le _
  | true =>
    cases spec_IsRow_m r with
    | false => exact Nat.zero_le _
    | true =>
      cases spec_l6Order_m [0, 1, 2] with
      | false => exact Nat.zero_le _
      | true =>
        show (spec_l6Probe_m x r [0, 1, 2]).1.length ≤ _
        unfold spec_l6Probe_m
        obtain ⟨s', h1, h2⟩ := rngb_keep (R := (List Int) × Int) (b := fun k (s : (List Int) × Int) => spec_l6Probe_b1 x r [0, 1, 2] k s.1 s.2) (P := fun s => s.1.length ≤ x.Queries.length) (fun j s hs => by
          show (∃ s', spec_l6Probe_b1 x r [0, 1, 2] j s.1 s.2 = _ ∧ _) ∨ ∃ s', spec_l6Probe_b1 x r [0, 1, 2] j s.1 s.2 = _ ∧ _
          unfold spec_l6Probe_b1
          cases decide (0 < ((s.1.length : Nat) : Int))
          · exact .inl ⟨_, rfl, hs⟩
          · exact .inr ⟨_, rfl, Nat.le_trans (spec_MeetSets_len _ _) hs⟩) (([0, 1, 2] : List Int).length - 0) 0 ((spec_l6All_m x.Queries), 0) (spec_l6All_len _)
        rw [h1]
        exact h2
theorem spec_Annotate_form (x : DIndex) (y : List DRow) : spec_AnnotateRows_m x y = cond (spec_IsIndex_m x) (((y.filter fun r => decide (0 < (((spec_MatchSet_m x r).length : Nat) : Int)))).map fun r => (⟨r, spec_MatchSet_m x r⟩ : DAnnotated)) [] := by
  unfold spec_AnnotateRows_m
  cases h : spec_IsIndex_m x with
  | false => rw [rngb_false (fun j s => by unfold spec_AnnotateRows_b1; rw [h]; rfl)]; rfl
  | true =>
    rw [rngb_as (b := fun k (d : List DAnnotated) => (.inr (cond (decide (0 < (((spec_MatchSet_m x (gt y k)).length : Nat) : Int))) (d ++ [(⟨gt y k, spec_MatchSet_m x (gt y k)⟩ : DAnnotated)]) d) : List DAnnotated ⊕ List DAnnotated)) (fun j s => by
      unfold spec_AnnotateRows_b1
      rw [h, cond_true]
      cases decide (0 < (((spec_MatchSet_m x (gt y j)).length : Nat) : Int)) <;> rfl),
      rng_fold (xs := y) (f := fun d r => cond (decide (0 < (((spec_MatchSet_m x r).length : Nat) : Int))) (d ++ [(⟨r, spec_MatchSet_m x r⟩ : DAnnotated)]) d) (fun j s _ => rfl), foldl_filterMap]
    rfl
def annP (m : Nat) (l : List DAnnotated) : Prop := l.length ≤ m ∧ ∀ a ∈ l, smAnnotated 68719476736 a
theorem annP_sm {m : Nat} {l : List DAnnotated} (h : annP m l) (hm : m ≤ 100) : l.length ≤ 68719476736 ∧ ∀ a ∈ l, smAnnotated 68719476736 a := ⟨by have := h.1; omega, h.2⟩
theorem spec_Annotate_P {x : DIndex} {y : List DRow} {m : Nat} (hx : x.Queries.length ≤ 68719476736) (hl : y.length ≤ m) (hy : ∀ r ∈ y, smRow 68719476736 r) : annP m (spec_AnnotateRows_m x y) := by
  rw [spec_Annotate_form]
  cases spec_IsIndex_m x with
  | false => exact ⟨Nat.zero_le _, fun a ha => by cases ha⟩
  | true =>
    refine ⟨?_, fun a ha => ?_⟩
    · show (List.map _ (List.filter _ y)).length ≤ m
      rw [List.length_map]
      exact Nat.le_trans (List.length_filter_le _ _) hl
    · obtain ⟨r, hr, rfl⟩ := List.mem_map.1 ha
      exact ⟨hy r (List.mem_filter.1 hr).1, Nat.le_trans (spec_MatchSet_len x r) hx⟩
theorem spec_l13Draw_fact (b : List Int) (D : Dl1Cur) : annP 8 (spec_l13Draw_m b D).2.2.1 := by
  show annP 8 (spec_AnnotateRows_m (spec_BuildIndex_m (spec_l4Queries_m b D 5).1) (spec_l3Rows_m b (spec_l4Queries_m b D 5).2 8).1)
  have hq := spec_l4Queries_fact b D 5 (by omega) (by omega)
  have hr := spec_l3Rows_fact b (spec_l4Queries_m b D 5).2 8 (by omega) (by omega)
  exact spec_Annotate_P (BuildIndex_sm hq (by omega)).1.1 (by omega) (rowsP_sm hr.1 (by omega)).2
def spec_l13Any_m (x0b : List Int) (x0 : Dl1Cur) : ((List DAnnotated) × Dl1Cur) :=
 cond ((spec_l1Once_m x0b ((spec_l13Draw_m x0b x0).2.2.2) 10).1) (((spec_l13Draw_m x0b x0).2.2.1 ++ [(⟨((spec_l3Any_m x0b (spec_l1Once_m x0b ((spec_l13Draw_m x0b x0).2.2.2) 10).2).1), (spec_l2Any_m x0b ((spec_l3Any_m x0b (spec_l1Once_m x0b ((spec_l13Draw_m x0b x0).2.2.2) 10).2).2)).1⟩ : DAnnotated)]), (spec_l2Any_m x0b ((spec_l3Any_m x0b (spec_l1Once_m x0b ((spec_l13Draw_m x0b x0).2.2.2) 10).2).2)).2) ((spec_l13Draw_m x0b x0).2.2.1, (spec_l1Once_m x0b ((spec_l13Draw_m x0b x0).2.2.2) 10).2)
theorem cb38 : Cb Try.prog 38 := ⟨f38, _, func38, rfl, by decide⟩
theorem spec_l13Any_c (B : Nat) (w0 : World) (is : List It) (w : World) (p : Nat) (z0 : Value) (x0b : List Int) (x0 : Dl1Cur) (r_0 : rdS tU8 w0 B z0 x0b) (s_0 : x0b.length ≤ 68719476736) (hm : Mem B w0 (iBox p 74 [z0, .int .i64 ((x0.i : Nat) : Int), .int .i64 x0.h] :: is) w) :
  Calls Try.prog 38 #[.pointer (some ⟨p, 0, none⟩)] w fun e w' => ∃ x : Value, e = .returned (x) ∧ Mem B w0 (iOwn (tSl tyAnnotated 52) [x] ((spec_l13Any_m x0b x0).1) :: iBox p 74 [z0, .int .i64 ((((spec_l13Any_m x0b x0).2).i : Nat) : Int), .int .i64 ((spec_l13Any_m x0b x0).2).h] :: is) w' := by
 obtain ⟨m1, A2, c3, rfl, q4, r5⟩ := rdS_op r_0
 refine call_enterW (L := [(0, .pointer (some ⟨p, 0, none⟩))]) (N := 23) func38 rfl rfl (Nat.le_of_ble_eq_true rfl) (argsL_cons rfl argsL_nil) hm ?_
 have l6 : x0b.length ≤ 68719476736 := s_0
 refine sr (wa (nt' (sr (wm ?_))))
 refine WM_callW (χ := Value × Value × Value) (val := fun x => .tuple #[x.1, x.2.1, x.2.2]) (js := fun x => (iOwn (tSl tyQuery 39) [x.1] ((spec_l13Draw_m x0b x0).1) :: iOwn (tSl tyRow 50) [x.2.1] ((spec_l13Draw_m x0b x0).2.1) :: iOwn (tSl tyAnnotated 52) [x.2.2] ((spec_l13Draw_m x0b x0).2.2.1) :: iBox p 74 [.slice A2 x0b.length c3, .int .i64 ((((spec_l13Draw_m x0b x0).2.2.2).i : Nat) : Int), .int .i64 ((spec_l13Draw_m x0b x0).2.2.2).h] :: (is))) (cl_fn cb64 rfl) (fun W hm => spec_l13Draw_c B w0 (is) W p _ x0b x0 r5 s_0 (hm.front (n := 0) rfl)) (Wd_none rfl) (by decide) (fun z7 => ?_)
 have hdd := (spec_l13Draw_fact x0b x0).1
 obtain ⟨z8, z9, z10⟩ := z7
 refine WM_form (n := 0) rfl ?_
 rintro A11 c12 rfl m13
 let K1 : List Value := [.slice A2 x0b.length c3, .int .i64 ((((spec_l13Draw_m x0b x0).2.2.2).i : Nat) : Int), .int .i64 (((spec_l13Draw_m x0b x0).2.2.2).h)]
 let I4 : It := iOwn (tSl tyQuery 39) [.slice A11 ((spec_l13Draw_m x0b x0).1).length c12] ((spec_l13Draw_m x0b x0).1)
 let I5 : It := iOwn (tSl tyAnnotated 52) [z10] ((spec_l13Draw_m x0b x0).2.2.1)
 refine WM_items (js := (iOwn (tSl tyRow 50) [z9] ((spec_l13Draw_m x0b x0).2.1) :: I4 :: I5 :: iBox p 74 K1 :: is)) (fun W hm => (hm.front (n := 1) rfl)) ?_
 refine WM_form (n := 0) rfl ?_
 rintro A15 c16 rfl m17
 let I6 : It := iOwn (tSl tyRow 50) [.slice A15 ((spec_l13Draw_m x0b x0).2.1).length c16] ((spec_l13Draw_m x0b x0).2.1)
 refine WM_items (js := (I5 :: I6 :: I4 :: iBox p 74 K1 :: is)) (fun W hm => (hm.front (n := 2) rfl)) ?_
 refine WM_form (n := 0) rfl ?_
 rintro A19 c20 rfl m21
 refine wm ?_
 refine wv (fun W hm => rv_extract rfl rfl) ?_
 refine wv (fun W hm => rv_extract rfl rfl) ?_
 refine wv (fun W hm => rv_extract rfl rfl) ?_
 refine wa (wa (wa (nt' (CM_seq (sr (wm ?_))))))
 let I7 : It := iOwn (tSl tyAnnotated 52) [.slice A19 ((spec_l13Draw_m x0b x0).2.2.1).length c20] ((spec_l13Draw_m x0b x0).2.2.1)
 refine WM_callW (χ := Unit) (val := fun x => .bool ((spec_l1Once_m x0b ((spec_l13Draw_m x0b x0).2.2.2) 10).1)) (js := fun x => (iBox p 74 [.slice A2 x0b.length c3, .int .i64 ((((spec_l1Once_m x0b ((spec_l13Draw_m x0b x0).2.2.2) 10).2).i : Nat) : Int), .int .i64 ((spec_l1Once_m x0b ((spec_l13Draw_m x0b x0).2.2.2) 10).2).h] :: (I7 :: I6 :: I4 :: is))) (cl_fn cb51 rfl) (fun W hm => spec_l1Once_c B w0 (I7 :: I6 :: I4 :: is) W p _ x0b ((spec_l13Draw_m x0b x0).2.2.2) r5 10 s_0 (hm.front (n := 3) rfl)) (Wd_none rfl) (by decide) (fun z23 => ?_)
 obtain ⟨G24, hG24⟩ : ∃ G, G = (spec_l1Once_m x0b ((spec_l13Draw_m x0b x0).2.2.2) 10) := ⟨_, rfl⟩
 rw [← hG24]
 refine nt' ?_
 rcases Bool.eq_false_or_eq_true G24.1 with g26 | g26
 ·
  refine CM_condT rfl g26 ?_
  refine CM_region (wm (wm ?_))
  refine WM_callW (χ := List Value) (val := fun x => .agg x.toArray) (js := fun x => (iOwn tyRow x ((spec_l3Any_m x0b G24.2).1) :: iBox p 74 [.slice A2 x0b.length c3, .int .i64 ((((spec_l3Any_m x0b G24.2).2).i : Nat) : Int), .int .i64 ((spec_l3Any_m x0b G24.2).2).h] :: (I7 :: I6 :: I4 :: is))) (cl_fn cb52 rfl) (fun W hm => spec_l3Any_c B w0 (I7 :: I6 :: I4 :: is) W p _ x0b G24.2 r5 s_0 (hm.front (n := 0) rfl)) (Wd_none rfl) (by decide) (fun z27 => ?_)
  refine tyRow_sp ?_
  rintro v28 rfl
  refine WM_form (n := 0) rfl ?_
  rintro A29 c30 rfl m31
  refine wm ?_
  let K2 : List Value := [.slice A29 (((spec_l3Any_m x0b G24.2).1).Values).length c30]
  let I8 : It := iOwn (tSl tInt 3) K2 (((spec_l3Any_m x0b G24.2).1).Values)
  refine WM_callW (χ := Value) (val := fun x => x) (js := fun x => (iOwn (tSl tInt 3) [x] ((spec_l2Any_m x0b ((spec_l3Any_m x0b G24.2).2)).1) :: iBox p 74 [.slice A2 x0b.length c3, .int .i64 ((((spec_l2Any_m x0b ((spec_l3Any_m x0b G24.2).2)).2).i : Nat) : Int), .int .i64 ((spec_l2Any_m x0b ((spec_l3Any_m x0b G24.2).2)).2).h] :: (I8 :: I7 :: I6 :: I4 :: is))) (cl_fn cb39 rfl) (fun W hm => spec_l2Any_c B w0 (I8 :: I7 :: I6 :: I4 :: is) W p _ x0b ((spec_l3Any_m x0b G24.2).2) r5 s_0 (hm.front (n := 1) rfl)) (Wd_none rfl) (by decide) (fun z33 => ?_)
  obtain ⟨G34, hG34⟩ : ∃ G, G = (spec_l2Any_m x0b ((spec_l3Any_m x0b G24.2).2)) := ⟨_, rfl⟩
  rw [← hG34]
  refine WM_form (n := 0) rfl ?_
  rintro A35 c36 rfl m37
  let K3 : List Value := [.int .i64 (((spec_l3Any_m x0b G24.2).1).Id), .slice A29 (((spec_l3Any_m x0b G24.2).1).Values).length c30, .slice A35 G34.1.length c36]
  refine wv (fun W hm => rv_build (cs := K3) rfl (by kernel_rfl)) ?_
  refine WM_build (cs := K3) underlying31 type52 rfl (by decide) (by decide) rfl (by kernel_rfl) (Wd_none rfl) (by decide) (fun p39 => ?_)
  refine ap1 tyAnnotated 52 (.slice A19 ((spec_l13Draw_m x0b x0).2.2.1).length c20) ((spec_l13Draw_m x0b x0).2.2.1) (⟨((spec_l3Any_m x0b G24.2).1), G34.1⟩ : DAnnotated) [I8, iOwn (tSl tInt 3) [.slice A35 G34.1.length c36] G34.1] (iBox p 74 [.slice A2 x0b.length c3, .int .i64 ((G34.2.i : Nat) : Int), .int .i64 G34.2.h] :: I6 :: I4 :: is) K3 (fun W hm => ((((hm.front (n := 1) rfl).front (n := 3) rfl).front (n := 4) rfl).front (n := 3) rfl)) (fun _ _ hs => Els.single (tyAnnotated_join (x := (⟨((spec_l3Any_m x0b G24.2).1), G34.1⟩ : DAnnotated)) hs)) underlying31 type52 (show (((spec_l13Draw_m x0b x0).2.2.1).length + 1) * 56 ≤ 140737488355328 from by omega) (fun v40 => ?_)
  refine WM_form (n := 0) rfl ?_
  rintro A41 c42 rfl m43
  refine wa (nt' (sr (wm (wa (nt' (CM_ret ?_))))))
  have he45 := (show spec_l13Any_m x0b x0 = (((spec_l13Draw_m x0b x0).2.2.1 ++ [(⟨((spec_l3Any_m x0b G24.2).1), G34.1⟩ : DAnnotated)]), G34.2) from by subst hG24 hG34; exact cond_t g26 (rfl))
  refine QM_r1 rfl (RR_tmp rfl) (fun W hm => ⟨.slice A41 ((spec_l13Draw_m x0b x0).2.2.1 ++ [(⟨((spec_l3Any_m x0b G24.2).1), G34.1⟩ : DAnnotated)]).length c42, ?_, ?_⟩)
  ·first | rw [he45] | rfl
  ·rw [he45]; exact ((((hm.front (n := 1) rfl).front (n := 1) rfl).front (n := 2) rfl).tail.front (n := 2) rfl).tail
 ·
  refine CM_condF rfl g26 ?_
  refine CM_skip (QM_then (sr (wm (wa (nt' (CM_ret ?_))))))
  have he46 := (show spec_l13Any_m x0b x0 = ((spec_l13Draw_m x0b x0).2.2.1, G24.2) from by subst hG24; exact cond_f g26 (rfl))
  refine QM_r1 rfl (RR_tmp rfl) (fun W hm => ⟨.slice A19 ((spec_l13Draw_m x0b x0).2.2.1).length c20, ?_, ?_⟩)
  ·first | rw [he46] | rfl
  ·rw [he46]; exact ((((hm.front (n := 0) rfl).front (n := 1) rfl).front (n := 2) rfl).tail.front (n := 2) rfl).tail

def spec_DrawKeepSet_m (x0 : (List Int)) : ((List DAnnotated) × (List Int)) :=
 ((spec_l13Any_m x0 (spec_l1New_m x0)).1, (spec_l2Any_m x0 (spec_l13Any_m x0 (spec_l1New_m x0)).2).1)
theorem cb14 : Cb Try.prog 14 := ⟨f14, _, func14, rfl, by decide⟩
theorem spec_DrawKeepSet_c (w : World) (z0 : Value) (x0 : (List Int)) (r_0 : rdS tU8 w w.heap.size z0 x0) (s_0 : x0.length ≤ 68719476736) :
  Calls Try.prog 14 #[z0] w fun e w' => ∃ v : Value × Value, e = .returned (.tuple #[v.1, v.2]) ∧ Mem w.heap.size w [iOwn (tSl tyAnnotated 52) [v.1] (spec_DrawKeepSet_m x0).1, iOwn (tSl tInt 3) [v.2] (spec_DrawKeepSet_m x0).2] w' := by
 obtain ⟨m1, A2, c3, rfl, q4, r5⟩ := rdS_op r_0
 have l6 : x0.length ≤ 68719476736 := s_0
 refine ce1 (L := [(0, .slice A2 x0.length c3)]) (N := 13) func14 ?_
 refine sr (wa (wa (nt' (sr (wm ?_)))))
 refine WM_call (χ := Nat) (val := fun p => .pointer (some ⟨p, 0, none⟩)) (js := fun p => [iBox p 74 [.slice A2 x0.length c3, .int .i64 (((spec_l1New_m x0).i : Nat) : Int), .int .i64 ((spec_l1New_m x0).h)]]) (cl_fn cb22 rfl) (fun W hm => spec_l1New_c W _ x0 (hm.rdS0 r5) s_0) (Wd_none rfl) (by decide) (fun p7 => ?_)
 refine wa (nt' (sr (wm ?_)))
 refine WM_callW (χ := Value) (val := fun x => x) (js := fun x => (iOwn (tSl tyAnnotated 52) [x] ((spec_l13Any_m x0 (spec_l1New_m x0)).1) :: iBox p7 74 [.slice A2 x0.length c3, .int .i64 ((((spec_l13Any_m x0 (spec_l1New_m x0)).2).i : Nat) : Int), .int .i64 ((spec_l13Any_m x0 (spec_l1New_m x0)).2).h] :: [])) (cl_fn cb38 rfl) (fun W hm => spec_l13Any_c w.heap.size w [] W p7 _ x0 (spec_l1New_m x0) r5 s_0 hm) (Wd_none rfl) (by decide) (fun z8 => ?_)
 obtain ⟨G9, hG9⟩ : ∃ G, G = (spec_l13Any_m x0 (spec_l1New_m x0)) := ⟨_, rfl⟩
 rw [← hG9]
 refine WM_form (n := 0) rfl ?_
 rintro A10 c11 rfl m12
 refine wa (nt' (sr (wm (wm ?_))))
 let I1 : It := iOwn (tSl tyAnnotated 52) [.slice A10 G9.1.length c11] G9.1
 refine WM_callW (χ := Value) (val := fun x => x) (js := fun x => (iOwn (tSl tInt 3) [x] ((spec_l2Any_m x0 G9.2).1) :: iBox p7 74 [.slice A2 x0.length c3, .int .i64 ((((spec_l2Any_m x0 G9.2).2).i : Nat) : Int), .int .i64 ((spec_l2Any_m x0 G9.2).2).h] :: [I1])) (cl_fn cb39 rfl) (fun W hm => spec_l2Any_c w.heap.size w [I1] W p7 _ x0 G9.2 r5 s_0 (hm.pick [1, 0] (by decide))) (Wd_none rfl) (by decide) (fun z14 => ?_)
 refine WM_form (n := 0) rfl ?_
 rintro A15 c16 rfl m17
 refine wa (wa (nt' (CM_ret ?_)))
 have he19 := (show spec_DrawKeepSet_m x0 = (G9.1, (spec_l2Any_m x0 G9.2).1) from by subst hG9; exact rfl)
 refine QM_r2 rfl (RR_tmp rfl) (RR_tmp rfl) (fun W hm => ⟨(.slice A10 G9.1.length c11, .slice A15 ((spec_l2Any_m x0 G9.2).1).length c16), ?_, ?_⟩)
 ·first | rw [he19] | rfl
  try rfl
 ·rw [he19]; exact (hm.pick [2, 0] (by decide))

def impl_KeepSet_b1 (x0 : (List DAnnotated)) (x1 : (List Int)) (k15 : Nat) (d16 : (List DAnnotated)) : (List DAnnotated) ⊕ ((List DAnnotated)) :=
 cond (decide (0 < (((impl_MeetSets_m ((gt x0 k15).Set) x1).length : Nat) : Int))) (Sum.inr (d16 ++ [(⟨((gt x0 k15).Row), (impl_MeetSets_m ((gt x0 k15).Set) x1)⟩ : DAnnotated)])) (Sum.inr d16)
def impl_KeepSet_m (x0 : (List DAnnotated)) (x1 : (List Int)) : (List DAnnotated) :=
 Sum.elim id (fun (s : (List DAnnotated)) => s) (rng (R := (List DAnnotated)) (fun k (s : (List DAnnotated)) => impl_KeepSet_b1 x0 x1 k s) (x0.length - 0) 0 [])
theorem cb15 : Cb Try.prog 15 := ⟨f15, _, func15, rfl, by decide⟩
theorem impl_KeepSet_c (w : World) (z0 : Value) (x0 : (List DAnnotated)) (z1 : Value) (x1 : (List Int)) (r_0 : rdS tyAnnotated w w.heap.size z0 x0) (r_1 : rdS tInt w w.heap.size z1 x1) (s_0 : (x0.length ≤ 68719476736 ∧ ∀ y ∈ x0, smAnnotated 68719476736 y)) (s_1 : x1.length ≤ 68719476736) :
  Calls Try.prog 15 #[z0, z1] w fun e w' => ∃ v : Value, e = .returned (v) ∧ Mem w.heap.size w [iOwn (tSl tyAnnotated 52) [v] (impl_KeepSet_m x0 x1)] w' := by
 obtain ⟨m1, A2, c3, rfl, q4, r5⟩ := rdS_op r_0
 obtain ⟨m6, A7, c8, rfl, q9, r10⟩ := rdS_op r_1
 have l11 : x0.length ≤ 68719476736 := s_0.1
 have l12 : x1.length ≤ 68719476736 := s_1
 refine ce2 (L := [(0, .slice A2 x0.length c3), (1, .slice A7 x1.length c8)]) (N := 33) func15 ?_
 refine sr (wa (nt' (sr ?_)))
 refine WM_build0 (E := tyAnnotated) underlying31 type52 (Wd_none rfl) (by decide) (fun p13 => ?_)
 refine wa (nt' (CM_seq (sr (wm ?_))))
 refine wv (vlen underlying31) ?_
 refine wm (nt' (CM_block ?_))
 let F1 := fun k (s : (List DAnnotated)) => impl_KeepSet_b1 x0 x1 k s
 let R2 := rng (R := (List DAnnotated)) F1
 refine CM_loop (σ := Nat × ((List DAnnotated)) × (Option Addr × Nat)) (fun s => [(1, .slice A7 x1.length c8), (5, .slice s.2.2.1 s.2.1.length s.2.2.2), (10, .slice A2 x0.length c3), (11, .int .i64 ((x0.length : Nat) : Int)), (12, .int .i64 ((s.1 : Nat) : Int))]) (fun s => [iOwn (tSl tyAnnotated 52) [.slice s.2.2.1 s.2.1.length s.2.2.2] s.2.1]) (fun s => s.1 ≤ x0.length ∧ R2 (x0.length - s.1) s.1 s.2.1 = R2 (x0.length - 0) 0 [] ∧ s.2.1.length ≤ 0 + s.1) (fun s => x0.length - s.1) (0, [], ((some ⟨p13, 0, none⟩), 0)) sl5 (fun W hm => hm) ⟨(by omega), rfl, Nat.le_refl _⟩ ?_
 rintro ⟨k15, d16, ⟨A17, c18⟩⟩ H21
 obtain ⟨hk19, hF20, hi22⟩ : k15 ≤ x0.length ∧ R2 (x0.length - k15) k15 d16 = R2 (x0.length - 0) 0 [] ∧ d16.length ≤ 0 + k15 := H21
 let I5 : It := iOwn (tSl tyAnnotated 52) [.slice A17 d16.length c18] d16
 show CM Try.prog 33 _ _ _ _ [(1, .slice A7 x1.length c8), (5, .slice A17 d16.length c18), (10, .slice A2 x0.length c3), (11, .int .i64 ((x0.length : Nat) : Int)), (12, .int .i64 ((k15 : Nat) : Int))] [I5]
 refine sr ?_
 refine wv vlss ?_
 refine nt' (CM_seq ?_)
 by_cases hl23 : k15 < x0.length
 ·have g24 := dlT hl23
  refine CM_condT rfl g24 ?_
  refine CM_skip (QM_then (CM_seq (CM_block (sr ?_))))
  obtain ⟨a25, rfl, hb26, he27⟩ := q4 (by omega)
  refine wv (vix 3 k15 underlying31 type52) ?_
  obtain ⟨_, e33, hc28⟩ := he27 k15 _ (gt_some (show k15 < x0.length from by omega))
  obtain ⟨v29, v31, rfl, r30, r32⟩ := tyAnnotated_rd e33
  have l34 : ((gt x0 k15).Row.Values).length ≤ 68719476736 := (s_0.2 _ (gt_mem (show k15 < x0.length from by omega))).1
  have l35 : ((gt x0 k15).Set).length ≤ 68719476736 := (s_0.2 _ (gt_mem (show k15 < x0.length from by omega))).2
  obtain ⟨m36, A37, c38, rfl, q39, r40⟩ := rdS_op r30
  obtain ⟨m41, A42, c43, rfl, q44, r45⟩ := rdS_op r32
  let K3 : List Value := [.int .i64 ((gt x0 k15).Row.Id), .slice A37 ((gt x0 k15).Row.Values).length c38, .slice A42 ((gt x0 k15).Set).length c43]
  refine wv (fun W hm => rv_loadN (cs := K3) underlying52 type52 rfl rfl (hm.elCells (show (a25.add (k15 * 3)).block < w.heap.size from by rw [add_block]; exact hb26.1) hc28)) ?_
  refine WM_alloc type52 rfl (Wd_none rfl) (by decide) (fun p46 => ?_)
  refine sb 0 K3 [I5] (fun W hm => hm) type52 ?_
  refine nt' (sr ?_)
  refine wv (vf underlying52 rfl type37) ?_
  refine wv (vl 0 2 underlying37) ?_
  refine wm ?_
  refine wcl (tSl tInt 3) (impl_MeetSets_m ((gt x0 k15).Set) x1) (cl_fn cb40 rfl) (fun W hm => impl_MeetSets_c W _ ((gt x0 k15).Set) _ x1 (hm.rdS0 r45) (hm.rdS0 r10) (s_0.2 _ (gt_mem (show k15 < x0.length from by omega))).2 s_1) (fun z47 => ?_)
  refine WM_form (n := 0) rfl ?_
  rintro A48 c49 rfl m50
  refine wa (nt' (sr (wm ?_)))
  refine wv (vlen underlying37) ?_
  refine wv (fun W hm => rv_gtr rfl rfl) ?_
  refine nt' ?_
  by_cases h52 : 0 < (((impl_MeetSets_m ((gt x0 k15).Set) x1).length : Nat) : Int)
  ·have g53 := decide_eq_true h52
   refine CM_condT rfl g53 ?_
   refine CM_region (wm ?_)
   refine wv (vf underlying52 rfl type50) ?_
   refine wv (fun W hm => rv_loadN (cs := [.int .i64 ((gt x0 k15).Row.Id), .slice A37 ((gt x0 k15).Row.Values).length c38]) underlying50 type50 rfl rfl (hm.boxPart (n := 1) rfl rfl)) ?_
   refine wcs tyRow ((gt x0 k15).Row) (cl_fn cb27 rfl) (fun W hm => impl_copyRow_c2 W _ ((gt x0 k15).Row) (tyRow_mk (x := ((gt x0 k15).Row)) (hm.rdS0 r40)) (s_0.2 _ (gt_mem (show k15 < x0.length from by omega))).1) (fun z54 => ?_)
   refine tyRow_sp ?_
   rintro v55 rfl
   refine WM_form (n := 0) rfl ?_
   rintro A56 c57 rfl m58
   refine wm ?_
   let K4 : List Value := [.int .i64 (((gt x0 k15).Row).Id), .slice A56 (((gt x0 k15).Row).Values).length c57, .slice A48 (impl_MeetSets_m ((gt x0 k15).Set) x1).length c49]
   refine wv (fun W hm => rv_build (cs := K4) rfl (by kernel_rfl)) ?_
   refine WM_build (cs := K4) underlying31 type52 rfl (by decide) (by decide) rfl (by kernel_rfl) (Wd_none rfl) (by decide) (fun p60 => ?_)
   refine ap1 tyAnnotated 52 (.slice A17 d16.length c18) d16 (⟨((gt x0 k15).Row), (impl_MeetSets_m ((gt x0 k15).Set) x1)⟩ : DAnnotated) [iOwn (tSl tInt 3) [.slice A56 (((gt x0 k15).Row).Values).length c57] (((gt x0 k15).Row).Values), iOwn (tSl tInt 3) [.slice A48 (impl_MeetSets_m ((gt x0 k15).Set) x1).length c49] (impl_MeetSets_m ((gt x0 k15).Set) x1)] [iBox p46 52 K3] K4 (pk [0, 4, 1, 2, 3]) (fun _ _ hs => Els.single (tyAnnotated_join (x := (⟨((gt x0 k15).Row), (impl_MeetSets_m ((gt x0 k15).Set) x1)⟩ : DAnnotated)) hs)) underlying31 type52 (show (d16.length + 1) * 56 ≤ 140737488355328 from by omega) (fun v61 => ?_)
   refine WM_form (n := 0) rfl ?_
   rintro A62 c63 rfl m64
   refine wa (WM_nil (QM_block_normal (QM_then (CM_region ?_))))
   refine wv (vadN k15 1 (by omega)) ?_
   refine wm (WM_nil ?_)
   have hn66 := rng_next (R := (List DAnnotated)) (body := F1) (k := k15) (s := d16) (s' := (d16 ++ [(⟨((gt x0 k15).Row), (impl_MeetSets_m ((gt x0 k15).Set) x1)⟩ : DAnnotated)])) (show k15 < x0.length from by omega) (cond_t g53 (rfl)) hF20
   exact QM_round (k15 + 1, (d16 ++ [(⟨((gt x0 k15).Row), (impl_MeetSets_m ((gt x0 k15).Set) x1)⟩ : DAnnotated)]), (A62, c63)) sl5 (pk [0]) ⟨(by omega), hn66, (show (d16 ++ [(⟨((gt x0 k15).Row), (impl_MeetSets_m ((gt x0 k15).Set) x1)⟩ : DAnnotated)]).length ≤ 0 + (k15 + 1) from by first | omega | (simp only [List.length_append, List.length_cons, List.length_nil] at *; omega))⟩ (rl (by omega))
  ·have g53 := decide_eq_false h52
   refine CM_condF rfl g53 ?_
   refine CM_skip (QM_block_normal (QM_then (CM_region ?_)))
   refine wv (vadN k15 1 (by omega)) ?_
   refine wm (WM_nil ?_)
   have hn67 := rng_next (R := (List DAnnotated)) (body := F1) (k := k15) (s := d16) (s' := d16) (show k15 < x0.length from by omega) (cond_f g53 (rfl)) hF20
   exact QM_round (k15 + 1, d16, (A17, c18)) sl5 (pk [2]) ⟨(by omega), hn67, (show d16.length ≤ 0 + (k15 + 1) from by first | omega | (simp only [List.length_append, List.length_cons, List.length_nil] at *; omega))⟩ (rl (by omega))
 ·have g24 := dlF hl23
  refine CM_condF rfl g24 ?_
  refine CM_exit (QM_then_exit (QM_then_exit ?_))
  have hE68 : R2 (x0.length - 0) 0 [] = Sum.inr d16 := rng_end hl23 hF20
  refine QM_block_hit (QM_then (sr (wm (wa (nt' (CM_ret ?_))))))
  have he69 := (show impl_KeepSet_m x0 x1 = d16 from fin_inr hE68 (rfl))
  refine QM_r1 rfl (RR_tmp rfl) (fun W hm => ⟨.slice A17 d16.length c18, ?_, ?_⟩)
  ·first | rw [he69] | rfl
  ·rw [he69]; exact hm

def spec_DrawRouteRows_m (x0 : (List Int)) : ((List DAnnotated) × Int) :=
 ((spec_l13Any_m x0 (spec_l1New_m x0)).1, (IntKind.i64.wrap (((spec_l1Below_m x0 (spec_l13Any_m x0 (spec_l1New_m x0)).2 9).1) - 1)))
theorem cb16 : Cb Try.prog 16 := ⟨f16, _, func16, rfl, by decide⟩
theorem spec_DrawRouteRows_c (w : World) (z0 : Value) (x0 : (List Int)) (r_0 : rdS tU8 w w.heap.size z0 x0) (s_0 : x0.length ≤ 68719476736) :
  Calls Try.prog 16 #[z0] w fun e w' => ∃ v : Value, e = .returned (.tuple #[v, .int .i64 ((spec_DrawRouteRows_m x0).2)]) ∧ Mem w.heap.size w [iOwn (tSl tyAnnotated 52) [v] (spec_DrawRouteRows_m x0).1] w' := by
 obtain ⟨m1, A2, c3, rfl, q4, r5⟩ := rdS_op r_0
 have l6 : x0.length ≤ 68719476736 := s_0
 refine ce1 (L := [(0, .slice A2 x0.length c3)]) (N := 14) func16 ?_
 refine sr (wa (wa (nt' (sr (wm ?_)))))
 refine WM_call (χ := Nat) (val := fun p => .pointer (some ⟨p, 0, none⟩)) (js := fun p => [iBox p 74 [.slice A2 x0.length c3, .int .i64 (((spec_l1New_m x0).i : Nat) : Int), .int .i64 ((spec_l1New_m x0).h)]]) (cl_fn cb22 rfl) (fun W hm => spec_l1New_c W _ x0 (hm.rdS0 r5) s_0) (Wd_none rfl) (by decide) (fun p7 => ?_)
 refine wa (nt' (sr (wm ?_)))
 refine WM_callW (χ := Value) (val := fun x => x) (js := fun x => (iOwn (tSl tyAnnotated 52) [x] ((spec_l13Any_m x0 (spec_l1New_m x0)).1) :: iBox p7 74 [.slice A2 x0.length c3, .int .i64 ((((spec_l13Any_m x0 (spec_l1New_m x0)).2).i : Nat) : Int), .int .i64 ((spec_l13Any_m x0 (spec_l1New_m x0)).2).h] :: [])) (cl_fn cb38 rfl) (fun W hm => spec_l13Any_c w.heap.size w [] W p7 _ x0 (spec_l1New_m x0) r5 s_0 hm) (Wd_none rfl) (by decide) (fun z8 => ?_)
 obtain ⟨G9, hG9⟩ : ∃ G, G = (spec_l13Any_m x0 (spec_l1New_m x0)) := ⟨_, rfl⟩
 rw [← hG9]
 refine WM_form (n := 0) rfl ?_
 rintro A10 c11 rfl m12
 refine wa (nt' (sr (wm (wm ?_))))
 let I1 : It := iOwn (tSl tyAnnotated 52) [.slice A10 G9.1.length c11] G9.1
 refine WM_callW (χ := Unit) (val := fun x => .int .i64 ((spec_l1Below_m x0 G9.2 9).1)) (js := fun x => (iBox p7 74 [.slice A2 x0.length c3, .int .i64 ((((spec_l1Below_m x0 G9.2 9).2).i : Nat) : Int), .int .i64 ((spec_l1Below_m x0 G9.2 9).2).h] :: [I1])) (cl_fn cb41 rfl) (fun W hm => spec_l1Below_c w.heap.size w [I1] W p7 _ x0 G9.2 r5 9 s_0 (hm.pick [1, 0] (by decide))) (Wd_none rfl) (by decide) (fun z14 => ?_)
 have hb := spec_l1Below_rng x0 G9.2 9
 refine wv (fun W hm => rv_sub rfl rfl) ?_
 refine wa (wa (nt' (CM_ret ?_)))
 have he15 := (show spec_DrawRouteRows_m x0 = (G9.1, (IntKind.i64.wrap (((spec_l1Below_m x0 G9.2 9).1) - 1))) from by subst hG9; exact rfl)
 refine QM_r2 rfl (RR_tmp rfl) (RR_tmp rfl) (fun W hm => ⟨.slice A10 G9.1.length c11, ?_, ?_⟩)
 ·first | rw [he15] | rfl
  try rfl
 ·rw [he15]; exact (hm.pick [1] (by decide))

def spec_KeepSet_b1 (x0 : (List DAnnotated)) (x1 : (List Int)) (k15 : Nat) (d16 : (List DAnnotated)) : (List DAnnotated) ⊕ ((List DAnnotated)) :=
 cond (decide (0 < (((spec_MeetSets_m ((gt x0 k15).Set) x1).length : Nat) : Int))) (Sum.inr (d16 ++ [(⟨((gt x0 k15).Row), (spec_MeetSets_m ((gt x0 k15).Set) x1)⟩ : DAnnotated)])) (Sum.inr d16)
def spec_KeepSet_m (x0 : (List DAnnotated)) (x1 : (List Int)) : (List DAnnotated) :=
 Sum.elim id (fun (s : (List DAnnotated)) => s) (rng (R := (List DAnnotated)) (fun k (s : (List DAnnotated)) => spec_KeepSet_b1 x0 x1 k s) (x0.length - 0) 0 [])
theorem cb18 : Cb Try.prog 18 := ⟨f18, _, func18, rfl, by decide⟩
theorem spec_KeepSet_c (w : World) (z0 : Value) (x0 : (List DAnnotated)) (z1 : Value) (x1 : (List Int)) (r_0 : rdS tyAnnotated w w.heap.size z0 x0) (r_1 : rdS tInt w w.heap.size z1 x1) (s_0 : (x0.length ≤ 68719476736 ∧ ∀ y ∈ x0, smAnnotated 68719476736 y)) (s_1 : x1.length ≤ 68719476736) :
  Calls Try.prog 18 #[z0, z1] w fun e w' => ∃ v : Value, e = .returned (v) ∧ Mem w.heap.size w [iOwn (tSl tyAnnotated 52) [v] (spec_KeepSet_m x0 x1)] w' := by
 obtain ⟨m1, A2, c3, rfl, q4, r5⟩ := rdS_op r_0
 obtain ⟨m6, A7, c8, rfl, q9, r10⟩ := rdS_op r_1
 have l11 : x0.length ≤ 68719476736 := s_0.1
 have l12 : x1.length ≤ 68719476736 := s_1
 refine ce2 (L := [(0, .slice A2 x0.length c3), (1, .slice A7 x1.length c8)]) (N := 37) func18 ?_
 refine sr (wa (nt' (sr ?_)))
 refine WM_build0 (E := tyAnnotated) underlying31 type52 (Wd_none rfl) (by decide) (fun p13 => ?_)
 refine wa (nt' (CM_seq (sr (wa (nt' (CM_block ?_))))))
 let F1 := fun k (s : (List DAnnotated)) => spec_KeepSet_b1 x0 x1 k s
 let R2 := rng (R := (List DAnnotated)) F1
 refine CM_loop (σ := Nat × ((List DAnnotated)) × (Option Addr × Nat)) (fun s => [(0, .slice A2 x0.length c3), (1, .slice A7 x1.length c8), (5, .slice s.2.2.1 s.2.1.length s.2.2.2), (6, .int .i64 ((s.1 : Nat) : Int))]) (fun s => [iOwn (tSl tyAnnotated 52) [.slice s.2.2.1 s.2.1.length s.2.2.2] s.2.1]) (fun s => s.1 ≤ x0.length ∧ R2 (x0.length - s.1) s.1 s.2.1 = R2 (x0.length - 0) 0 [] ∧ s.2.1.length ≤ 0 + s.1) (fun s => x0.length - s.1) (0, [], ((some ⟨p13, 0, none⟩), 0)) sl4 (fun W hm => hm) ⟨(by omega), rfl, Nat.le_refl _⟩ ?_
 rintro ⟨k15, d16, ⟨A17, c18⟩⟩ H21
 obtain ⟨hk19, hF20, hi22⟩ : k15 ≤ x0.length ∧ R2 (x0.length - k15) k15 d16 = R2 (x0.length - 0) 0 [] ∧ d16.length ≤ 0 + k15 := H21
 show CM Try.prog 37 _ _ _ _ [(0, .slice A2 x0.length c3), (1, .slice A7 x1.length c8), (5, .slice A17 d16.length c18), (6, .int .i64 ((k15 : Nat) : Int))] [iOwn (tSl tyAnnotated 52) [.slice A17 d16.length c18] d16]
 refine CM_seq (sr (wm (wm ?_)))
 refine wv (vlen underlying31) ?_
 refine wv vlss ?_
 refine nt' ?_
 by_cases hl23 : k15 < x0.length
 ·have g24 := dlT hl23
  refine CM_condT rfl g24 ?_
  refine CM_skip (QM_then (CM_seq (CM_block (sr (wm (wm ?_))))))
  obtain ⟨a25, rfl, hb26, he27⟩ := q4 (by omega)
  refine wv (vix 3 k15 underlying31 type52) ?_
  refine wv (vf underlying52 rfl type37) ?_
  obtain ⟨_, e33, hc28⟩ := he27 k15 _ (gt_some (show k15 < x0.length from by omega))
  obtain ⟨v29, v31, rfl, r30, r32⟩ := tyAnnotated_rd e33
  have l34 : ((gt x0 k15).Row.Values).length ≤ 68719476736 := (s_0.2 _ (gt_mem (show k15 < x0.length from by omega))).1
  have l35 : ((gt x0 k15).Set).length ≤ 68719476736 := (s_0.2 _ (gt_mem (show k15 < x0.length from by omega))).2
  obtain ⟨m36, A37, c38, rfl, q39, r40⟩ := rdS_op r30
  obtain ⟨m41, A42, c43, rfl, q44, r45⟩ := rdS_op r32
  refine wv (fun W hm => rv_load underlying37 rfl rfl ((hm.cell0 (show ((a25.add (k15 * 3)).add 2).block < w.heap.size from by rw [add_block, add_block]; exact hb26.1)).trans (hc28 2 _ rfl))) ?_
  refine wm ?_
  refine wcl (tSl tInt 3) (spec_MeetSets_m ((gt x0 k15).Set) x1) (cl_fn cb43 rfl) (fun W hm => spec_MeetSets_c W _ ((gt x0 k15).Set) _ x1 (hm.rdS0 r45) (hm.rdS0 r10) (s_0.2 _ (gt_mem (show k15 < x0.length from by omega))).2 s_1) (fun z46 => ?_)
  refine WM_form (n := 0) rfl ?_
  rintro A47 c48 rfl m49
  refine wa (nt' (sr (wm ?_)))
  refine wv (vlen underlying37) ?_
  refine wv (fun W hm => rv_gtr rfl rfl) ?_
  refine nt' ?_
  by_cases h51 : 0 < (((spec_MeetSets_m ((gt x0 k15).Set) x1).length : Nat) : Int)
  ·have g52 := decide_eq_true h51
   refine CM_condT rfl g52 ?_
   refine CM_region (wm (wm (wm ?_)))
   refine wv (vix 3 k15 underlying31 type52) ?_
   refine wv (vf underlying52 rfl type50) ?_
   refine wv (fun W hm => rv_loadN (cs := [.int .i64 ((gt x0 k15).Row.Id), .slice A37 ((gt x0 k15).Row.Values).length c38]) underlying50 type50 rfl rfl (hm.elPart (show (a25.add (k15 * 3)).block < w.heap.size from by rw [add_block]; exact hb26.1) hc28 rfl)) ?_
   refine wcs tyRow ((gt x0 k15).Row) (cl_fn cb31 rfl) (fun W hm => spec_l3Copy_c2 W _ ((gt x0 k15).Row) (tyRow_mk (x := ((gt x0 k15).Row)) (hm.rdS0 r40)) (s_0.2 _ (gt_mem (show k15 < x0.length from by omega))).1) (fun z53 => ?_)
   refine tyRow_sp ?_
   rintro v54 rfl
   refine WM_form (n := 0) rfl ?_
   rintro A55 c56 rfl m57
   refine wm ?_
   let K3 : List Value := [.int .i64 (((gt x0 k15).Row).Id), .slice A55 (((gt x0 k15).Row).Values).length c56, .slice A47 (spec_MeetSets_m ((gt x0 k15).Set) x1).length c48]
   refine wv (fun W hm => rv_build (cs := K3) rfl (by kernel_rfl)) ?_
   refine WM_build (cs := K3) underlying31 type52 rfl (by decide) (by decide) rfl (by kernel_rfl) (Wd_none rfl) (by decide) (fun p59 => ?_)
   refine ap1 tyAnnotated 52 (.slice A17 d16.length c18) d16 (⟨((gt x0 k15).Row), (spec_MeetSets_m ((gt x0 k15).Set) x1)⟩ : DAnnotated) [iOwn (tSl tInt 3) [.slice A55 (((gt x0 k15).Row).Values).length c56] (((gt x0 k15).Row).Values), iOwn (tSl tInt 3) [.slice A47 (spec_MeetSets_m ((gt x0 k15).Set) x1).length c48] (spec_MeetSets_m ((gt x0 k15).Set) x1)] [] K3 (pk [0, 3, 1, 2]) (fun _ _ hs => Els.single (tyAnnotated_join (x := (⟨((gt x0 k15).Row), (spec_MeetSets_m ((gt x0 k15).Set) x1)⟩ : DAnnotated)) hs)) underlying31 type52 (show (d16.length + 1) * 56 ≤ 140737488355328 from by omega) (fun v60 => ?_)
   refine WM_form (n := 0) rfl ?_
   rintro A61 c62 rfl m63
   refine wa (WM_nil (QM_block_normal (QM_then (CM_region (wm ?_)))))
   refine wv (vadN k15 1 (by omega)) ?_
   refine wa (WM_nil ?_)
   have hn65 := rng_next (R := (List DAnnotated)) (body := F1) (k := k15) (s := d16) (s' := (d16 ++ [(⟨((gt x0 k15).Row), (spec_MeetSets_m ((gt x0 k15).Set) x1)⟩ : DAnnotated)])) (show k15 < x0.length from by omega) (cond_t g52 (rfl)) hF20
   exact QM_round (k15 + 1, (d16 ++ [(⟨((gt x0 k15).Row), (spec_MeetSets_m ((gt x0 k15).Set) x1)⟩ : DAnnotated)]), (A61, c62)) sl4 (fun W hm => hm) ⟨(by omega), hn65, (show (d16 ++ [(⟨((gt x0 k15).Row), (spec_MeetSets_m ((gt x0 k15).Set) x1)⟩ : DAnnotated)]).length ≤ 0 + (k15 + 1) from by first | omega | (simp only [List.length_append, List.length_cons, List.length_nil] at *; omega))⟩ (rl (by omega))
  ·have g52 := decide_eq_false h51
   refine CM_condF rfl g52 ?_
   refine CM_skip (QM_block_normal (QM_then (CM_region (wm ?_))))
   refine wv (vadN k15 1 (by omega)) ?_
   refine wa (WM_nil ?_)
   have hn66 := rng_next (R := (List DAnnotated)) (body := F1) (k := k15) (s := d16) (s' := d16) (show k15 < x0.length from by omega) (cond_f g52 (rfl)) hF20
   exact QM_round (k15 + 1, d16, (A17, c18)) sl4 (pk [1]) ⟨(by omega), hn66, (show d16.length ≤ 0 + (k15 + 1) from by first | omega | (simp only [List.length_append, List.length_cons, List.length_nil] at *; omega))⟩ (rl (by omega))
 ·have g24 := dlF hl23
  refine CM_condF rfl g24 ?_
  refine CM_exit (QM_then_exit (QM_then_exit ?_))
  have hE67 : R2 (x0.length - 0) 0 [] = Sum.inr d16 := rng_end hl23 hF20
  refine QM_block_hit (QM_then (sr (wm (wa (nt' (CM_ret ?_))))))
  have he68 := (show spec_KeepSet_m x0 x1 = d16 from fin_inr hE67 (rfl))
  refine QM_r1 rfl (RR_tmp rfl) (fun W hm => ⟨.slice A17 d16.length c18, ?_, ?_⟩)
  ·first | rw [he68] | rfl
  ·rw [he68]; exact hm

def impl_CountRouted_b1 (x0 : (List DAnnotated)) (k6 : Nat) (s7 : Int) : Int ⊕ (Int) :=
 Sum.inr (IntKind.i64.wrap (s7 + ((((gt x0 k6).Set).length : Nat) : Int)))
def impl_CountRouted_m (x0 : (List DAnnotated)) : Int :=
 Sum.elim id (fun (s : Int) => s) (rng (R := Int) (fun k (s : Int) => impl_CountRouted_b1 x0 k s) (x0.length - 0) 0 0)
theorem cb19 : Cb Try.prog 19 := ⟨f19, _, func19, rfl, by decide⟩
theorem impl_CountRouted_c (w : World) (z0 : Value) (x0 : (List DAnnotated)) (r_0 : rdS tyAnnotated w w.heap.size z0 x0) :
  Calls Try.prog 19 #[z0] w fun e w' => e = .returned (.int .i64 (impl_CountRouted_m x0)) ∧ Below w.heap.size w w' := by
 obtain ⟨m1, A2, c3, rfl, q4, r5⟩ := rdS_op r_0
 refine ce1 (L := [(0, .slice A2 x0.length c3)]) (N := 19) func19 ?_
 refine sr (wa (nt' (sr (wa (nt' (CM_seq (sr (wm ?_))))))))
 refine wv (vlen underlying31) ?_
 refine wm (nt' (CM_block ?_))
 let F1 := fun k (s : Int) => impl_CountRouted_b1 x0 k s
 let R2 := rng (R := Int) F1
 refine CM_loop (σ := Nat × (Int) × (Unit)) (fun s => [(3, .int .i64 s.2.1), (6, .slice A2 x0.length c3), (7, .int .i64 ((x0.length : Nat) : Int)), (8, .int .i64 ((s.1 : Nat) : Int))]) (fun s => []) (fun s => s.1 ≤ x0.length ∧ R2 (x0.length - s.1) s.1 s.2.1 = R2 (x0.length - 0) 0 0) (fun s => x0.length - s.1) (0, 0, ()) sl4 (fun W hm => hm) ⟨(by omega), rfl⟩ ?_
 rintro ⟨k6, s7, ⟨⟩⟩ H10
 obtain ⟨hk8, hF9⟩ : k6 ≤ x0.length ∧ R2 (x0.length - k6) k6 s7 = R2 (x0.length - 0) 0 0 := H10
 show CM Try.prog 19 _ _ _ _ [(3, .int .i64 s7), (6, .slice A2 x0.length c3), (7, .int .i64 ((x0.length : Nat) : Int)), (8, .int .i64 ((k6 : Nat) : Int))] []
 refine sr ?_
 refine wv vlss ?_
 refine nt' (CM_seq ?_)
 by_cases hl11 : k6 < x0.length
 ·have g12 := dlT hl11
  refine CM_condT rfl g12 ?_
  refine CM_skip (QM_then (CM_seq (CM_block (sr ?_))))
  obtain ⟨a13, rfl, hb14, he15⟩ := q4 (by omega)
  refine wv (vix 3 k6 underlying31 type52) ?_
  obtain ⟨_, e21, hc16⟩ := he15 k6 _ (gt_some (show k6 < x0.length from by omega))
  obtain ⟨v17, v19, rfl, r18, r20⟩ := tyAnnotated_rd e21
  obtain ⟨m22, A23, c24, rfl, q25, r26⟩ := rdS_op r18
  obtain ⟨m27, A28, c29, rfl, q30, r31⟩ := rdS_op r20
  let K3 : List Value := [.int .i64 ((gt x0 k6).Row.Id), .slice A23 ((gt x0 k6).Row.Values).length c24, .slice A28 ((gt x0 k6).Set).length c29]
  refine wv (fun W hm => rv_loadN (cs := K3) underlying52 type52 rfl rfl (hm.elCells (show (a13.add (k6 * 3)).block < w.heap.size from by rw [add_block]; exact hb14.1) hc16)) ?_
  refine WM_alloc type52 rfl (Wd_none rfl) (by decide) (fun p32 => ?_)
  refine sb 0 K3 [] (fun W hm => hm) type52 ?_
  refine nt' (CM_region (wm ?_))
  refine wv (vf underlying52 rfl type37) ?_
  refine wv (vl 0 2 underlying37) ?_
  refine wv (vlen underlying37) ?_
  refine wv vadd ?_
  refine wa (WM_nil (QM_block_normal (QM_then (CM_region ?_))))
  refine wv (vadN k6 1 (by omega)) ?_
  refine wm (WM_nil ?_)
  have hn33 := rng_next (R := Int) (body := F1) (k := k6) (s := s7) (s' := (IntKind.i64.wrap (s7 + ((((gt x0 k6).Set).length : Nat) : Int)))) (show k6 < x0.length from by omega) (rfl) hF9
  exact QM_round (k6 + 1, (IntKind.i64.wrap (s7 + ((((gt x0 k6).Set).length : Nat) : Int))), ()) sl4 (pk []) ⟨(by omega), hn33⟩ (rl (by omega))
 ·have g12 := dlF hl11
  refine CM_condF rfl g12 ?_
  refine CM_exit (QM_then_exit (QM_then_exit ?_))
  have hE34 : R2 (x0.length - 0) 0 0 = Sum.inr s7 := rng_end hl11 hF9
  refine QM_block_hit (QM_then (sr (wm (wa (nt' (CM_ret ?_))))))
  exact rti (h := fin_inr hE34 (rfl))

def spec_RouteRows_b1 (x0 : (List DAnnotated)) (x1 : Int) (k9 : Nat) (d10 : (List DRow)) : (List DRow) ⊕ ((List DRow)) :=
 cond (spec_HasMember_m ((gt x0 k9).Set) x1) (Sum.inr (d10 ++ [((gt x0 k9).Row)])) (Sum.inr d10)
def spec_RouteRows_m (x0 : (List DAnnotated)) (x1 : Int) : (List DRow) :=
 Sum.elim id (fun (s : (List DRow)) => s) (rng (R := (List DRow)) (fun k (s : (List DRow)) => spec_RouteRows_b1 x0 x1 k s) (x0.length - 0) 0 [])
theorem cb20 : Cb Try.prog 20 := ⟨f20, _, func20, rfl, by decide⟩
theorem spec_RouteRows_c (w : World) (z0 : Value) (x0 : (List DAnnotated)) (x1 : Int) (r_0 : rdS tyAnnotated w w.heap.size z0 x0) (s_0 : (x0.length ≤ 68719476736 ∧ ∀ y ∈ x0, smAnnotated 68719476736 y)) :
  Calls Try.prog 20 #[z0, .int .i64 x1] w fun e w' => ∃ v : Value, e = .returned (v) ∧ Mem w.heap.size w [iOwn (tSl tyRow 50) [v] (spec_RouteRows_m x0 x1)] w' := by
 obtain ⟨m1, A2, c3, rfl, q4, r5⟩ := rdS_op r_0
 have l6 : x0.length ≤ 68719476736 := s_0.1
 refine ce2 (L := [(0, .slice A2 x0.length c3), (1, .int .i64 x1)]) (N := 31) func20 ?_
 refine sr (wa (nt' (sr ?_)))
 refine WM_build0 (E := tyRow) underlying28 type50 (Wd_none rfl) (by decide) (fun p7 => ?_)
 refine wa (nt' (CM_seq (sr (wa (nt' (CM_block ?_))))))
 let F1 := fun k (s : (List DRow)) => spec_RouteRows_b1 x0 x1 k s
 let R2 := rng (R := (List DRow)) F1
 refine CM_loop (σ := Nat × ((List DRow)) × (Option Addr × Nat)) (fun s => [(0, .slice A2 x0.length c3), (1, .int .i64 x1), (5, .slice s.2.2.1 s.2.1.length s.2.2.2), (6, .int .i64 ((s.1 : Nat) : Int))]) (fun s => [iOwn (tSl tyRow 50) [.slice s.2.2.1 s.2.1.length s.2.2.2] s.2.1]) (fun s => s.1 ≤ x0.length ∧ R2 (x0.length - s.1) s.1 s.2.1 = R2 (x0.length - 0) 0 [] ∧ s.2.1.length ≤ 0 + s.1) (fun s => x0.length - s.1) (0, [], ((some ⟨p7, 0, none⟩), 0)) sl4 (fun W hm => hm) ⟨(by omega), rfl, Nat.le_refl _⟩ ?_
 rintro ⟨k9, d10, ⟨A11, c12⟩⟩ H15
 obtain ⟨hk13, hF14, hi16⟩ : k9 ≤ x0.length ∧ R2 (x0.length - k9) k9 d10 = R2 (x0.length - 0) 0 [] ∧ d10.length ≤ 0 + k9 := H15
 show CM Try.prog 31 _ _ _ _ [(0, .slice A2 x0.length c3), (1, .int .i64 x1), (5, .slice A11 d10.length c12), (6, .int .i64 ((k9 : Nat) : Int))] [iOwn (tSl tyRow 50) [.slice A11 d10.length c12] d10]
 refine CM_seq (sr (wm (wm ?_)))
 refine wv (vlen underlying31) ?_
 refine wv vlss ?_
 refine nt' ?_
 by_cases hl17 : k9 < x0.length
 ·have g18 := dlT hl17
  refine CM_condT rfl g18 ?_
  refine CM_skip (QM_then (CM_seq (CM_block (sr (wm (wm ?_))))))
  obtain ⟨a19, rfl, hb20, he21⟩ := q4 (by omega)
  refine wv (vix 3 k9 underlying31 type52) ?_
  refine wv (vf underlying52 rfl type37) ?_
  obtain ⟨_, e27, hc22⟩ := he21 k9 _ (gt_some (show k9 < x0.length from by omega))
  obtain ⟨v23, v25, rfl, r24, r26⟩ := tyAnnotated_rd e27
  have l28 : ((gt x0 k9).Row.Values).length ≤ 68719476736 := (s_0.2 _ (gt_mem (show k9 < x0.length from by omega))).1
  have l29 : ((gt x0 k9).Set).length ≤ 68719476736 := (s_0.2 _ (gt_mem (show k9 < x0.length from by omega))).2
  obtain ⟨m30, A31, c32, rfl, q33, r34⟩ := rdS_op r24
  obtain ⟨m35, A36, c37, rfl, q38, r39⟩ := rdS_op r26
  refine wv (fun W hm => rv_load underlying37 rfl rfl ((hm.cell0 (show ((a19.add (k9 * 3)).add 2).block < w.heap.size from by rw [add_block, add_block]; exact hb20.1)).trans (hc22 2 _ rfl))) ?_
  refine wm ?_
  refine wcv (cl_fn cb44 rfl) (fun W hm => spec_HasMember_c W _ ((gt x0 k9).Set) x1 (hm.rdS0 r39)) ?_
  refine nt' ?_
  rcases Bool.eq_false_or_eq_true (spec_HasMember_m ((gt x0 k9).Set) x1) with g41 | g41
  ·
   refine CM_condT rfl g41 ?_
   refine CM_region (wm (wm (wm ?_)))
   refine wv (vix 3 k9 underlying31 type52) ?_
   refine wv (vf underlying52 rfl type50) ?_
   refine wv (fun W hm => rv_loadN (cs := [.int .i64 ((gt x0 k9).Row.Id), .slice A31 ((gt x0 k9).Row.Values).length c32]) underlying50 type50 rfl rfl (hm.elPart (show (a19.add (k9 * 3)).block < w.heap.size from by rw [add_block]; exact hb20.1) hc22 rfl)) ?_
   refine wcs tyRow ((gt x0 k9).Row) (cl_fn cb31 rfl) (fun W hm => spec_l3Copy_c2 W _ ((gt x0 k9).Row) (tyRow_mk (x := ((gt x0 k9).Row)) (hm.rdS0 r34)) (s_0.2 _ (gt_mem (show k9 < x0.length from by omega))).1) (fun z42 => ?_)
   refine tyRow_sp ?_
   rintro v43 rfl
   refine WM_form (n := 0) rfl ?_
   rintro A44 c45 rfl m46
   let K3 : List Value := [.int .i64 (((gt x0 k9).Row).Id), .slice A44 (((gt x0 k9).Row).Values).length c45]
   refine WM_build (cs := K3) underlying28 type50 rfl (by decide) (by decide) rfl (by kernel_rfl) (Wd_none rfl) (by decide) (fun p48 => ?_)
   refine ap1 tyRow 50 (.slice A11 d10.length c12) d10 ((gt x0 k9).Row) [iOwn (tSl tInt 3) [.slice A44 (((gt x0 k9).Row).Values).length c45] (((gt x0 k9).Row).Values)] [] K3 (pk [0, 2, 1]) (fun _ _ hs => Els.single (tyRow_join (x := ((gt x0 k9).Row)) hs)) underlying28 type50 (show (d10.length + 1) * 32 ≤ 140737488355328 from by omega) (fun v49 => ?_)
   refine WM_form (n := 0) rfl ?_
   rintro A50 c51 rfl m52
   refine wa (WM_nil (QM_block_normal (QM_then (CM_region (wm ?_)))))
   refine wv (vadN k9 1 (by omega)) ?_
   refine wa (WM_nil ?_)
   have hn54 := rng_next (R := (List DRow)) (body := F1) (k := k9) (s := d10) (s' := (d10 ++ [((gt x0 k9).Row)])) (show k9 < x0.length from by omega) (cond_t g41 (rfl)) hF14
   exact QM_round (k9 + 1, (d10 ++ [((gt x0 k9).Row)]), (A50, c51)) sl4 (fun W hm => hm) ⟨(by omega), hn54, (show (d10 ++ [((gt x0 k9).Row)]).length ≤ 0 + (k9 + 1) from by first | omega | (simp only [List.length_append, List.length_cons, List.length_nil] at *; omega))⟩ (rl (by omega))
  ·
   refine CM_condF rfl g41 ?_
   refine CM_skip (QM_block_normal (QM_then (CM_region (wm ?_))))
   refine wv (vadN k9 1 (by omega)) ?_
   refine wa (WM_nil ?_)
   have hn55 := rng_next (R := (List DRow)) (body := F1) (k := k9) (s := d10) (s' := d10) (show k9 < x0.length from by omega) (cond_f g41 (rfl)) hF14
   exact QM_round (k9 + 1, d10, (A11, c12)) sl4 (fun W hm => hm) ⟨(by omega), hn55, (show d10.length ≤ 0 + (k9 + 1) from by first | omega | (simp only [List.length_append, List.length_cons, List.length_nil] at *; omega))⟩ (rl (by omega))
 ·have g18 := dlF hl17
  refine CM_condF rfl g18 ?_
  refine CM_exit (QM_then_exit (QM_then_exit ?_))
  have hE56 : R2 (x0.length - 0) 0 [] = Sum.inr d10 := rng_end hl17 hF14
  refine QM_block_hit (QM_then (sr (wm (wa (nt' (CM_ret ?_))))))
  have he57 := (show spec_RouteRows_m x0 x1 = d10 from fin_inr hE56 (rfl))
  refine QM_r1 rfl (RR_tmp rfl) (fun W hm => ⟨.slice A11 d10.length c12, ?_, ?_⟩)
  ·first | rw [he57] | rfl
  ·rw [he57]; exact hm

def impl_equalRow_m (x0 : DRow) (x1 : DRow) : Bool :=
 cond (x0.Id == x1.Id) (impl_sameInts_m x0.Values x1.Values) false
theorem cb45 : Cb Try.prog 45 := ⟨f45, _, func45, rfl, by decide⟩
theorem impl_equalRow_c (w : World) (z0 : List Value) (x0 : DRow) (z1 : List Value) (x1 : DRow) (r_0 : tyRow.rd w w.heap.size z0 x0) (r_1 : tyRow.rd w w.heap.size z1 x1) :
  Calls Try.prog 45 #[.agg z0.toArray, .agg z1.toArray] w fun e w' => e = .returned (.bool (impl_equalRow_m x0 x1)) ∧ Below w.heap.size w w' := by
 obtain ⟨v1, rfl, r2⟩ := tyRow_rd r_0
 obtain ⟨m3, A4, c5, rfl, q6, r7⟩ := rdS_op r2
 obtain ⟨v8, rfl, r9⟩ := tyRow_rd r_1
 obtain ⟨m10, A11, c12, rfl, q13, r14⟩ := rdS_op r9
 refine ce2 (L := [(0, .agg #[.int .i64 x0.Id, .slice A4 x0.Values.length c5]), (1, .agg #[.int .i64 x1.Id, .slice A11 x1.Values.length c12])]) (N := 17) func45 ?_
 refine sr ?_
 refine WM_box rfl (Wd_none rfl) (by decide) (fun p15 => ?_)
 refine WM_box rfl (Wd_none rfl) (by decide) (fun p16 => ?_)
 refine wa (nt' (sr ?_))
 refine wv (vf underlying50 rfl type3) ?_
 refine wv (vl 1 0 underlying3) ?_
 refine wv (vf underlying50 rfl type3) ?_
 refine wv (vl 0 0 underlying3) ?_
 refine wv (fun W hm => rv_eql rfl rfl) ?_
 refine wm ?_
 by_cases h17 : x0.Id = x1.Id
 ·have g18 := beq_iff_eq.2 h17
  refine wg (vf underlying50 rfl type37) g18 ?_
  refine wg (vl 1 1 underlying37) g18 ?_
  refine wg (vf underlying50 rfl type37) g18 ?_
  refine wg (vl 0 1 underlying37) g18 ?_
  refine WM_callV (cl_fn cb46 rfl) (fun W hm => impl_sameInts_c W _ x0.Values _ x1.Values (hm.rdS0 r7) (hm.rdS0 r14)) (Wd_some rfl rfl rfl (bw g18 rfl)) (by decide) ?_
  refine wv (vpT g18) ?_
  refine wa (nt' (CM_ret ?_))
  exact rtb (h := cond_t g18 (rfl))
 ·have g18 := beq_eq_false_iff_ne.2 h17
  refine ws g18 ?_
  refine ws g18 ?_
  refine ws g18 ?_
  refine ws g18 ?_
  refine ws g18 ?_
  refine wv (vpF g18) ?_
  refine wa (nt' (CM_ret ?_))
  exact rtb (h := cond_f g18 (rfl))

def impl_EqualAnnotated_b1 (x0 : (List DAnnotated)) (x1 : (List DAnnotated)) (k13 : Nat) : Bool ⊕ (Unit) :=
 cond (impl_equalRow_m ((gt x0 k13).Row) ((gt x1 k13).Row)) (cond (impl_sameInts_m ((gt x0 k13).Set) ((gt x1 k13).Set)) (Sum.inr ()) (Sum.inl false)) (Sum.inl false)
def impl_EqualAnnotated_m (x0 : (List DAnnotated)) (x1 : (List DAnnotated)) : Bool :=
 cond (((x0.length : Nat) : Int) != ((x1.length : Nat) : Int)) false (Sum.elim id (fun (s : Unit) => true) (rng (R := Bool) (fun k (_ : Unit) => impl_EqualAnnotated_b1 x0 x1 k) (x0.length - 0) 0 ()))
theorem cb21 : Cb Try.prog 21 := ⟨f21, _, func21, rfl, by decide⟩
theorem impl_EqualAnnotated_c (w : World) (z0 : Value) (x0 : (List DAnnotated)) (z1 : Value) (x1 : (List DAnnotated)) (r_0 : rdS tyAnnotated w w.heap.size z0 x0) (r_1 : rdS tyAnnotated w w.heap.size z1 x1) :
  Calls Try.prog 21 #[z0, z1] w fun e w' => e = .returned (.bool (impl_EqualAnnotated_m x0 x1)) ∧ Below w.heap.size w w' := by
 obtain ⟨m1, A2, c3, rfl, q4, r5⟩ := rdS_op r_0
 obtain ⟨m6, A7, c8, rfl, q9, r10⟩ := rdS_op r_1
 refine ce2 (L := [(0, .slice A2 x0.length c3), (1, .slice A7 x1.length c8)]) (N := 43) func21 ?_
 refine sr (wa (nt' (CM_seq (sr (wm ?_)))))
 refine wv (vlen underlying31) ?_
 refine wm ?_
 refine wv (vlen underlying31) ?_
 refine wv vneq ?_
 refine nt' ?_
 by_cases h11 : ((x0.length : Nat) : Int) = ((x1.length : Nat) : Int)
 ·have g12 : (((x0.length : Nat) : Int) != ((x1.length : Nat) : Int)) = false := by rw [h11]; exact bne_self_eq_false _
  refine CM_condF rfl g12 ?_
  refine CM_skip (QM_then (CM_seq (sr (wm ?_))))
  refine wv (vlen underlying31) ?_
  refine wm (nt' (CM_block ?_))
  let F1 := fun k (_ : Unit) => impl_EqualAnnotated_b1 x0 x1 k
  let R2 := rng (R := Bool) F1
  refine CM_loop (σ := Nat × (Unit) × (Unit)) (fun s => [(0, .slice A2 x0.length c3), (1, .slice A7 x1.length c8), (12, .int .i64 ((x0.length : Nat) : Int)), (13, .int .i64 ((s.1 : Nat) : Int))]) (fun s => []) (fun s => s.1 ≤ x0.length ∧ R2 (x0.length - s.1) s.1 s.2.1 = R2 (x0.length - 0) 0 ()) (fun s => x0.length - s.1) (0, (), ()) sl4 (fun W hm => hm) ⟨(by omega), rfl⟩ ?_
  rintro ⟨k13, ⟨⟩, ⟨⟩⟩ H16
  obtain ⟨hk14, hF15⟩ : k13 ≤ x0.length ∧ R2 (x0.length - k13) k13 () = R2 (x0.length - 0) 0 () := H16
  show CM Try.prog 43 _ _ _ _ [(0, .slice A2 x0.length c3), (1, .slice A7 x1.length c8), (12, .int .i64 ((x0.length : Nat) : Int)), (13, .int .i64 ((k13 : Nat) : Int))] []
  refine sr ?_
  refine wv vlss ?_
  refine nt' (CM_seq ?_)
  by_cases hl17 : k13 < x0.length
  ·have g18 := dlT hl17
   refine CM_condT rfl g18 ?_
   refine CM_skip (QM_then (CM_seq (CM_block (sr (wm (wa (nt' (CM_seq ?_))))))))
   refine CM_regionD (by kernel_rfl) (by kernel_rfl) ?_
   refine qm (qm ?_)
   obtain ⟨a19, rfl, hb20, he21⟩ := q4 (by omega)
   refine qv (vix 3 k13 underlying31 type52) ?_
   refine qv (vf underlying52 rfl type50) ?_
   obtain ⟨_, e27, hc22⟩ := he21 k13 _ (gt_some (show k13 < x0.length from by omega))
   obtain ⟨v23, v25, rfl, r24, r26⟩ := tyAnnotated_rd e27
   obtain ⟨m28, A29, c30, rfl, q31, r32⟩ := rdS_op r24
   obtain ⟨m33, A34, c35, rfl, q36, r37⟩ := rdS_op r26
   refine qv (fun W hm => rv_loadN (cs := [.int .i64 ((gt x0 k13).Row.Id), .slice A29 ((gt x0 k13).Row.Values).length c30]) underlying50 type50 rfl rfl (hm.elPart (show (a19.add (k13 * 3)).block < w.heap.size from by rw [add_block]; exact hb20.1) hc22 rfl)) ?_
   refine qm (qm ?_)
   obtain ⟨a38, rfl, hb39, he40⟩ := q9 (by omega)
   refine qv (vix 3 k13 underlying31 type52) ?_
   refine qv (vf underlying52 rfl type50) ?_
   obtain ⟨_, e46, hc41⟩ := he40 k13 _ (gt_some (show k13 < x1.length from by omega))
   obtain ⟨v42, v44, rfl, r43, r45⟩ := tyAnnotated_rd e46
   obtain ⟨m47, A48, c49, rfl, q50, r51⟩ := rdS_op r43
   obtain ⟨m52, A53, c54, rfl, q55, r56⟩ := rdS_op r45
   refine qv (fun W hm => rv_loadN (cs := [.int .i64 ((gt x1 k13).Row.Id), .slice A48 ((gt x1 k13).Row.Values).length c49]) underlying50 type50 rfl rfl (hm.elPart (show (a38.add (k13 * 3)).block < w.heap.size from by rw [add_block]; exact hb39.1) hc41 rfl)) ?_
   refine QR_callV (cl_fn cb45 rfl) (fun W hm => impl_equalRow_c W _ ((gt x0 k13).Row) _ ((gt x1 k13).Row) (tyRow_mk (x := ((gt x0 k13).Row)) (hm.rdS0 r32)) (tyRow_mk (x := ((gt x1 k13).Row)) (hm.rdS0 r51))) (Wd_none rfl) (by decide) ?_
   refine qv vnot ?_
   refine qm ?_
   rcases Bool.eq_false_or_eq_true (impl_equalRow_m ((gt x0 k13).Row) ((gt x1 k13).Row)) with g58 | g58
   ·
    refine qg vmv (nt g58) ?_
    refine qg vmv (nt g58) ?_
    refine qg (vix 3 k13 underlying31 type52) (nt g58) ?_
    refine qg (vf underlying52 rfl type37) (nt g58) ?_
    refine qg (fun W hm => rv_load underlying37 rfl rfl ((hm.cell0 (show ((a19.add (k13 * 3)).add 2).block < w.heap.size from by rw [add_block, add_block]; exact hb20.1)).trans (hc22 2 _ rfl))) (nt g58) ?_
    refine qg vmv (nt g58) ?_
    refine qg vmv (nt g58) ?_
    refine qg (vix 3 k13 underlying31 type52) (nt g58) ?_
    refine qg (vf underlying52 rfl type37) (nt g58) ?_
    refine qg (fun W hm => rv_load underlying37 rfl rfl ((hm.cell0 (show ((a38.add (k13 * 3)).add 2).block < w.heap.size from by rw [add_block, add_block]; exact hb39.1)).trans (hc41 2 _ rfl))) (nt g58) ?_
    refine QR_callV (cl_fn cb46 rfl) (fun W hm => impl_sameInts_c W _ ((gt x0 k13).Set) _ ((gt x1 k13).Set) (hm.rdS0 r37) (hm.rdS0 r56)) (Wd_some rfl rfl rfl (bw (nt g58) rfl)) (by decide) ?_
    refine qg vnot (nt g58) ?_
    refine qv (vpF (nt g58)) ?_
    refine nq' ?_
    rcases Bool.eq_false_or_eq_true (impl_sameInts_m ((gt x0 k13).Set) ((gt x1 k13).Set)) with g60 | g60
    ·
     refine CM_condF rfl (nt g60) ?_
     refine CM_skip (QM_block_normal (QM_then (CM_region ?_)))
     refine wv (vadN k13 1 (by omega)) ?_
     refine wm (WM_nil ?_)
     have hn61 := rng_next (R := Bool) (body := F1) (k := k13) (s := ()) (s' := ()) (show k13 < x0.length from by omega) (cond_t g58 (cond_t g60 (rfl))) hF15
     exact QM_round (k13 + 1, (), ()) sl4 (fun W hm => hm) ⟨(by omega), hn61⟩ (rl (by omega))
    ·
     refine CM_condT rfl (nf g60) ?_
     refine sr (wa (nt' (CM_ret (QM_block_ret (QM_then_ret (QM_then_ret (QM_block_ret (QM_then_ret ?_))))))))
     exact rtb (h := cond_f g12 (fin_inl (rng_ret (body := F1) (k := k13) (s := ()) (show k13 < x0.length from by omega) (cond_t g58 (cond_f g60 (rfl))) hF15) rfl))
   ·
    refine qs (nf g58) ?_
    refine qs (nf g58) ?_
    refine qs (nf g58) ?_
    refine qs (nf g58) ?_
    refine qs (nf g58) ?_
    refine qs (nf g58) ?_
    refine qs (nf g58) ?_
    refine qs (nf g58) ?_
    refine qs (nf g58) ?_
    refine qs (nf g58) ?_
    refine qs (nf g58) ?_
    refine qs (nf g58) ?_
    refine qv (vpT (nf g58)) ?_
    refine nq' ?_
    refine CM_condT rfl rfl ?_
    refine sr (wa (nt' (CM_ret (QM_block_ret (QM_then_ret (QM_then_ret (QM_block_ret (QM_then_ret ?_))))))))
    exact rtb (h := cond_f g12 (fin_inl (rng_ret (body := F1) (k := k13) (s := ()) (show k13 < x0.length from by omega) (cond_f g58 (rfl)) hF15) rfl))
  ·have g18 := dlF hl17
   refine CM_condF rfl g18 ?_
   refine CM_exit (QM_then_exit (QM_then_exit ?_))
   have hE62 : R2 (x0.length - 0) 0 () = Sum.inr () := rng_end hl17 hF15
   refine QM_block_hit (QM_then (sr (wa (nt' (CM_ret ?_)))))
   exact rtb (h := cond_f g12 (fin_inr hE62 (rfl)))
 ·have g12 : (((x0.length : Nat) : Int) != ((x1.length : Nat) : Int)) = true := bne_iff_ne.2 h11
  refine CM_condT rfl g12 ?_
  refine sr (wa (nt' (CM_ret (QM_then_ret ?_))))
  exact rtb (h := cond_t g12 (rfl))

end Go.Proofs.Ytpijbmiahfnliaa
