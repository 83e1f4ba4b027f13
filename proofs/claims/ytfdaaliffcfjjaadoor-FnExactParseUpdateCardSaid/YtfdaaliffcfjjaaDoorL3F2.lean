/-
  Contracts of functions, printed by a program of ours.
-/
import Derived.Test.YtfdaaliffcfjjaaDoorL3F1
namespace Go.Proofs.YtfdaaliffcfjjaaDoor
open Go.RowKit
set_option maxRecDepth 100000
set_option maxHeartbeats 4000000
open _root_.Go.Proofs.Tryd
def laws_eqUpdate_m (x0 : DUpdate) (x1 : DUpdate) : Bool :=
 cond (x0.Kind != x1.Kind) false (cond (laws_eqRow_m x0.Row x1.Row) (cond (x0.Field != x1.Field) false (cond (x0.Value != x1.Value) false true)) false)
theorem cb6 : Cb Tryd.prog 6 := ⟨f6, _, func6, rfl, by decide⟩
theorem laws_eqUpdate_c (w : World) (z0 : List Value) (x0 : DUpdate) (z1 : List Value) (x1 : DUpdate) (r_0 : tyUpdate.rd w w.heap.size z0 x0) (r_1 : tyUpdate.rd w w.heap.size z1 x1) :
  Calls Tryd.prog 6 #[.agg z0.toArray, .agg z1.toArray] w fun e w' => e = .returned (.bool (laws_eqUpdate_m x0 x1)) ∧ Below w.heap.size w w' := by
 obtain ⟨v1, rfl, r2⟩ := tyUpdate_rd r_0
 obtain ⟨m3, A4, c5, rfl, q6, r7⟩ := rdS_op r2
 obtain ⟨v8, rfl, r9⟩ := tyUpdate_rd r_1
 obtain ⟨m10, A11, c12, rfl, q13, r14⟩ := rdS_op r9
 refine ce2 (L := [(0, .agg #[.int .i64 x0.Kind, .int .i64 x0.Row.Id, .slice A4 x0.Row.Values.length c5, .int .i64 x0.Field, .int .i64 x0.Value]), (1, .agg #[.int .i64 x1.Kind, .int .i64 x1.Row.Id, .slice A11 x1.Row.Values.length c12, .int .i64 x1.Field, .int .i64 x1.Value])]) (N := 26) func6 ?_
 refine sr ?_
 refine WM_box rfl (Wd_none rfl) (by decide) (fun p15 => ?_)
 refine WM_box rfl (Wd_none rfl) (by decide) (fun p16 => ?_)
 refine wa (nt' (CM_seq (sr ?_)))
 refine wv (vf underlying26 rfl type3) ?_
 refine wv (vl 1 0 underlying3) ?_
 refine wv (vf underlying26 rfl type3) ?_
 refine wv (vl 0 0 underlying3) ?_
 refine wv vneq ?_
 refine nt' ?_
 by_cases h17 : x0.Kind = x1.Kind
 ·have g18 : (x0.Kind != x1.Kind) = false := by rw [h17]; exact bne_self_eq_false _
  refine CM_condF rfl g18 ?_
  refine CM_skip (QM_then (CM_seq (sr ?_)))
  refine wv (vf underlying26 rfl type24) ?_
  refine wv (fun W hm => rv_loadN (cs := [.int .i64 x0.Row.Id, .slice A4 x0.Row.Values.length c5]) underlying24 type24 rfl rfl (hm.boxPart (n := 1) rfl rfl)) ?_
  refine wv (vf underlying26 rfl type24) ?_
  refine wv (fun W hm => rv_loadN (cs := [.int .i64 x1.Row.Id, .slice A11 x1.Row.Values.length c12]) underlying24 type24 rfl rfl (hm.boxPart (n := 0) rfl rfl)) ?_
  refine wcv (cl_fn cb18 rfl) (fun W hm => laws_eqRow_c W _ x0.Row _ x1.Row (tyRow_mk (x := x0.Row) (hm.rdS0 r7)) (tyRow_mk (x := x1.Row) (hm.rdS0 r14))) ?_
  refine wv vnot ?_
  refine nt' ?_
  rcases Bool.eq_false_or_eq_true (laws_eqRow_m x0.Row x1.Row) with g20 | g20
  ·
   refine CM_condF rfl (nt g20) ?_
   refine CM_skip (QM_then (CM_seq (sr ?_)))
   refine wv (vf underlying26 rfl type3) ?_
   refine wv (vl 1 3 underlying3) ?_
   refine wv (vf underlying26 rfl type3) ?_
   refine wv (vl 0 3 underlying3) ?_
   refine wv vneq ?_
   refine nt' ?_
   by_cases h21 : x0.Field = x1.Field
   ·have g22 : (x0.Field != x1.Field) = false := by rw [h21]; exact bne_self_eq_false _
    refine CM_condF rfl g22 ?_
    refine CM_skip (QM_then (CM_seq (sr ?_)))
    refine wv (vf underlying26 rfl type3) ?_
    refine wv (vl 1 4 underlying3) ?_
    refine wv (vf underlying26 rfl type3) ?_
    refine wv (vl 0 4 underlying3) ?_
    refine wv vneq ?_
    refine nt' ?_
    by_cases h23 : x0.Value = x1.Value
    ·have g24 : (x0.Value != x1.Value) = false := by rw [h23]; exact bne_self_eq_false _
     refine CM_condF rfl g24 ?_
     refine CM_skip (QM_then (sr (wa (nt' (CM_ret ?_)))))
     exact rtb (h := cond_f g18 (cond_t g20 (cond_f g22 (cond_f g24 (rfl)))))
    ·have g24 : (x0.Value != x1.Value) = true := bne_iff_ne.2 h23
     refine CM_condT rfl g24 ?_
     refine sr (wa (nt' (CM_ret (QM_then_ret ?_))))
     exact rtb (h := cond_f g18 (cond_t g20 (cond_f g22 (cond_t g24 (rfl)))))
   ·have g22 : (x0.Field != x1.Field) = true := bne_iff_ne.2 h21
    refine CM_condT rfl g22 ?_
    refine sr (wa (nt' (CM_ret (QM_then_ret ?_))))
    exact rtb (h := cond_f g18 (cond_t g20 (cond_t g22 (rfl))))
  ·
   refine CM_condT rfl (nf g20) ?_
   refine sr (wa (nt' (CM_ret (QM_then_ret ?_))))
   exact rtb (h := cond_f g18 (cond_f g20 (rfl)))
 ·have g18 : (x0.Kind != x1.Kind) = true := bne_iff_ne.2 h17
  refine CM_condT rfl g18 ?_
  refine sr (wa (nt' (CM_ret (QM_then_ret ?_))))
  exact rtb (h := cond_t g18 (rfl))

def laws_markIntS_b1 (k5 : Nat) (s6 : Int) (d7 : (List Int)) : (Int × (List Int)) ⊕ (Int × (List Int)) :=
 Sum.inr ((IntKind.i64.wrap (s6 + 1)), (d7.set k5 s6))
def laws_markIntS_m (x0 : (List Int)) (x1 : Int) : (Int × (List Int)) :=
 Sum.elim id (fun (s : Int × (List Int)) => (s.1, s.2)) (rng (R := (Int × (List Int))) (fun k (s : Int × (List Int)) => laws_markIntS_b1 k s.1 s.2) (x0.length - 0) 0 (x1, x0))
theorem cb35 : Cb Tryd.prog 35 := ⟨f35, _, func35, rfl, by decide⟩
theorem laws_markIntS_c (B : Nat) (w0 : World) (is : List It) (w : World) (z0 : Value) (x0 : (List Int)) (x1 : Int) (hm : Mem B w0 (iOwn (tSl tInt 3) [z0] x0 :: is) w) :
  Calls Tryd.prog 35 #[z0, .int .i64 x1] w fun e w' => e = .returned (.int .i64 (laws_markIntS_m x0 x1).1) ∧ Mem B w0 (iOwn (tSl tInt 3) [z0] (laws_markIntS_m x0 x1).2 :: is) w' := by
 refine call_enterW (L := [(0, z0), (1, .int .i64 x1)]) (N := 19) func35 rfl rfl (Nat.le_of_ble_eq_true rfl) (argsL_cons rfl (argsL_cons rfl argsL_nil)) hm ?_
 refine CM_form (n := 0) rfl ?_
 rintro A1 c2 rfl m3
 refine sr (wa (nt' (CM_seq (sr (wa (nt' (CM_block ?_)))))))
 let F1 := fun k (s : Int × (List Int)) => laws_markIntS_b1 k s.1 s.2
 let R2 := rng (R := (Int × (List Int))) F1
 refine CM_loop (σ := Nat × (Int × (List Int)) × (Unit)) (fun s => [(0, .slice A1 x0.length c2), (1, .int .i64 s.2.1.1), (5, .int .i64 ((s.1 : Nat) : Int))]) (fun s => (iOwn (tSl tInt 3) [.slice A1 x0.length c2] s.2.1.2 :: is)) (fun s => s.1 ≤ x0.length ∧ R2 (x0.length - s.1) s.1 s.2.1 = R2 (x0.length - 0) 0 (x1, x0)) (fun s => x0.length - s.1) (0, (x1, x0), ()) sl3 (fun W hm => hm) ⟨(by omega), rfl⟩ ?_
 rintro ⟨k5, ⟨s6, d7⟩, ⟨⟩⟩ H10
 obtain ⟨hk8, hF9⟩ : k5 ≤ x0.length ∧ R2 (x0.length - k5) k5 (s6, d7) = R2 (x0.length - 0) 0 (x1, x0) := H10
 show CM Tryd.prog 19 _ _ _ _ [(0, .slice A1 x0.length c2), (1, .int .i64 s6), (5, .int .i64 ((k5 : Nat) : Int))] (iOwn (tSl tInt 3) [.slice A1 x0.length c2] d7 :: is)
 refine CM_seq (sr (wm (wm ?_)))
 refine wv (vlen underlying22) ?_
 refine wv vlss ?_
 refine nt' ?_
 by_cases hl11 : k5 < x0.length
 ·have g12 := dlT hl11
  refine CM_condT rfl g12 ?_
  refine CM_skip (QM_then (CM_seq (CM_block (sr (wm (wm (wm ?_)))))))
  refine WM_formO (n := 0) rfl (by omega) ?_
  rintro g13 rfl
  refine wv (vix 1 k5 underlying22 type3) ?_
  refine WM_setEl (E := tInt) (e := 3) (u := .int .i64 s6) (k := k5) (p := g13) (n := x0.length) (xs := d7) (eis := []) (js := (is)) (yv := s6) (fun W hm => (hm.front (n := 0) rfl)) (fun _ _ hs => (Sep.nil hs ▸ tInt_own)) rfl type3 rfl (by omega) rfl rfl (Wd_none rfl) ?_
  refine nt' (CM_region (wm ?_))
  refine wv vadd ?_
  refine wa (WM_nil (QM_block_normal (QM_then (CM_region (wm ?_)))))
  refine wv (vadN k5 1 (by omega)) ?_
  refine wa (WM_nil ?_)
  have hn14 := rng_next (R := (Int × (List Int))) (body := F1) (k := k5) (s := (s6, d7)) (s' := ((IntKind.i64.wrap (s6 + 1)), (d7.set k5 s6))) (show k5 < x0.length from by omega) (rfl) hF9
  exact QM_round (k5 + 1, ((IntKind.i64.wrap (s6 + 1)), (d7.set k5 s6)), ()) sl3 (fun W hm => hm) ⟨(by omega), hn14⟩ (rl (by omega))
 ·have g12 := dlF hl11
  refine CM_condF rfl g12 ?_
  refine CM_exit (QM_then_exit (QM_then_exit ?_))
  have hE15 : R2 (x0.length - 0) 0 (x1, x0) = Sum.inr (s6, d7) := rng_end hl11 hF9
  refine QM_block_hit (QM_then (sr (wm (wa (nt' (CM_ret ?_))))))
  have he16 := (show laws_markIntS_m x0 x1 = (s6, d7) from fin_inr hE15 (rfl))
  refine QM_rW rfl rfl (fun W hm => ⟨?_, ?_⟩)
  ·rw [he16]
  ·rw [he16]; exact hm

def laws_markRow_m (x0 : DRow) (x1 : Int) : (Int × DRow) :=
 ((laws_markIntS_m x0.Values x1).1, (⟨x0.Id, (laws_markIntS_m x0.Values x1).2⟩ : DRow))
theorem cb19 : Cb Tryd.prog 19 := ⟨f19, _, func19, rfl, by decide⟩
theorem laws_markRow_c (B : Nat) (w0 : World) (is : List It) (w : World) (z0 : List Value) (x0 : DRow) (x1 : Int) (hm : Mem B w0 (iOwn tyRow z0 x0 :: is) w) :
  Calls Tryd.prog 19 #[.agg z0.toArray, .int .i64 x1] w fun e w' => e = .returned (.int .i64 (laws_markRow_m x0 x1).1) ∧ Mem B w0 (iOwn tyRow z0 (laws_markRow_m x0 x1).2 :: is) w' := by
 refine call_enterW (L := [(0, .agg z0.toArray), (1, .int .i64 x1)]) (N := 10) func19 rfl rfl (Nat.le_of_ble_eq_true rfl) (argsL_cons rfl (argsL_cons rfl argsL_nil)) hm ?_
 refine CM_split (γ := Value) (js := fun g => [iOwn (tSl tInt 3) [g] x0.Values]) (C := fun g => z0 = [.int .i64 x0.Id, g]) (fun _ _ h => tyRow_split h) ?_
 rintro v1 rfl
 refine CM_form (n := 0) rfl ?_
 rintro A2 c3 rfl m4
 refine sr ?_
 refine WM_box rfl (Wd_none rfl) (by decide) (fun p6 => ?_)
 refine wa (nt' (sr ?_))
 refine wv (vf underlying24 rfl type22) ?_
 refine wv (vl 0 1 underlying22) ?_
 refine wm ?_
 refine cw (cl_fn cb35 rfl) (fun W hm => laws_markIntS_c B w0 (iBox p6 24 [.int .i64 x0.Id, .slice A2 x0.Values.length c3] :: is) W (.slice A2 x0.Values.length c3) x0.Values x1 (hm.front (n := 1) rfl)) ?_
 refine wa (nt' (sr (wm (wa (nt' (CM_ret ?_))))))
 have he7 := (show laws_markRow_m x0 x1 = ((laws_markIntS_m x0.Values x1).1, (⟨x0.Id, (laws_markIntS_m x0.Values x1).2⟩ : DRow)) from rfl)
 refine QM_rW rfl rfl (fun W hm => ⟨?_, ?_⟩)
 ·rw [he7]
 ·rw [he7]; exact Mem.join (is := [iOwn (tSl tInt 3) [.slice A2 x0.Values.length c3] ((laws_markIntS_m x0.Values x1).2)]) (js := is) (fun _ _ hs => tyRow_join (x := (⟨x0.Id, (laws_markIntS_m x0.Values x1).2⟩ : DRow)) hs) ((hm.front (n := 0) rfl).front (n := 1) rfl).tail

def laws_markUpdate_m (x0 : DUpdate) (x1 : Int) : (Int × DUpdate) :=
 ((laws_markRow_m x0.Row x1).1, (⟨x0.Kind, (⟨x0.Row.Id, (laws_markRow_m x0.Row x1).2.Values⟩ : DRow), x0.Field, x0.Value⟩ : DUpdate))
theorem cb7 : Cb Tryd.prog 7 := ⟨f7, _, func7, rfl, by decide⟩
theorem laws_markUpdate_c (B : Nat) (w0 : World) (is : List It) (w : World) (z0 : List Value) (x0 : DUpdate) (x1 : Int) (hm : Mem B w0 (iOwn tyUpdate z0 x0 :: is) w) :
  Calls Tryd.prog 7 #[.agg z0.toArray, .int .i64 x1] w fun e w' => e = .returned (.int .i64 (laws_markUpdate_m x0 x1).1) ∧ Mem B w0 (iOwn tyUpdate z0 (laws_markUpdate_m x0 x1).2 :: is) w' := by
 refine call_enterW (L := [(0, .agg z0.toArray), (1, .int .i64 x1)]) (N := 10) func7 rfl rfl (Nat.le_of_ble_eq_true rfl) (argsL_cons rfl (argsL_cons rfl argsL_nil)) hm ?_
 refine CM_split (γ := Value) (js := fun g => [iOwn (tSl tInt 3) [g] x0.Row.Values]) (C := fun g => z0 = [.int .i64 x0.Kind, .int .i64 x0.Row.Id, g, .int .i64 x0.Field, .int .i64 x0.Value]) (fun _ _ h => tyUpdate_split h) ?_
 rintro v1 rfl
 refine CM_form (n := 0) rfl ?_
 rintro A2 c3 rfl m4
 refine sr ?_
 refine WM_box rfl (Wd_none rfl) (by decide) (fun p6 => ?_)
 refine wa (nt' (sr ?_))
 refine wv (vf underlying26 rfl type24) ?_
 refine wv (fun W hm => rv_loadN (cs := [.int .i64 x0.Row.Id, .slice A2 x0.Row.Values.length c3]) underlying24 type24 rfl rfl (hm.boxPart (n := 0) rfl rfl)) ?_
 refine wm ?_
 let K1 : List Value := [.int .i64 x0.Kind, .int .i64 x0.Row.Id, .slice A2 x0.Row.Values.length c3, .int .i64 x0.Field, .int .i64 x0.Value]
 refine WM_items (js := (iOwn tyRow [.int .i64 x0.Row.Id, .slice A2 x0.Row.Values.length c3] x0.Row :: (iBox p6 26 K1 :: is))) (fun W hm => Mem.join (is := [iOwn (tSl tInt 3) [.slice A2 x0.Row.Values.length c3] x0.Row.Values]) (js := (iBox p6 26 K1 :: is)) (fun _ _ hs => tyRow_join (x := x0.Row) hs) (hm.front (n := 1) rfl)) ?_
 refine cw (cl_fn cb19 rfl) (fun W hm => laws_markRow_c B w0 (iBox p6 26 K1 :: is) W [.int .i64 x0.Row.Id, .slice A2 x0.Row.Values.length c3] x0.Row x1 hm) ?_
 refine tyRow_sp ?_
 rintro v8 h7
 simp +zetaDelta only [List.cons.injEq] at h7
 obtain ⟨-, rfl, -⟩ := h7
 refine wa (nt' (sr (wm (wa (nt' (CM_ret ?_))))))
 have he9 := (show laws_markUpdate_m x0 x1 = ((laws_markRow_m x0.Row x1).1, (⟨x0.Kind, (⟨x0.Row.Id, (laws_markRow_m x0.Row x1).2.Values⟩ : DRow), x0.Field, x0.Value⟩ : DUpdate)) from rfl)
 refine QM_rW rfl rfl (fun W hm => ⟨?_, ?_⟩)
 ·rw [he9]
 ·rw [he9]; exact Mem.join (is := [iOwn (tSl tInt 3) [.slice A2 x0.Row.Values.length c3] ((laws_markRow_m x0.Row x1).2.Values)]) (js := is) (fun _ _ hs => tyUpdate_join (x := (⟨x0.Kind, (⟨x0.Row.Id, (laws_markRow_m x0.Row x1).2.Values⟩ : DRow), x0.Field, x0.Value⟩ : DUpdate)) hs) ((hm.front (n := 0) rfl).front (n := 1) rfl).tail

def laws_heldIntS_b1 (x0 : (List Int)) (k6 : Nat) (s7 : Int) : Int ⊕ (Int) :=
 cond ((gt x0 k6) != s7) (Sum.inl (-1)) (Sum.inr (IntKind.i64.wrap (s7 + 1)))
def laws_heldIntS_m (x0 : (List Int)) (x1 : Int) : Int :=
 Sum.elim id (fun (s : Int) => s) (rng (R := Int) (fun k (s : Int) => laws_heldIntS_b1 x0 k s) (x0.length - 0) 0 x1)
theorem cb36 : Cb Tryd.prog 36 := ⟨f36, _, func36, rfl, by decide⟩
theorem laws_heldIntS_c (w : World) (z0 : Value) (x0 : (List Int)) (x1 : Int) (r_0 : rdS tInt w w.heap.size z0 x0) :
  Calls Tryd.prog 36 #[z0, .int .i64 x1] w fun e w' => e = .returned (.int .i64 (laws_heldIntS_m x0 x1)) ∧ Below w.heap.size w w' := by
 obtain ⟨m1, A2, c3, rfl, q4, r5⟩ := rdS_op r_0
 refine ce2 (L := [(0, .slice A2 x0.length c3), (1, .int .i64 x1)]) (N := 21) func36 ?_
 refine sr (wa (nt' (CM_seq (sr (wa (nt' (CM_block ?_)))))))
 let F1 := fun k (s : Int) => laws_heldIntS_b1 x0 k s
 let R2 := rng (R := Int) F1
 refine CM_loop (σ := Nat × (Int) × (Unit)) (fun s => [(0, .slice A2 x0.length c3), (1, .int .i64 s.2.1), (5, .int .i64 ((s.1 : Nat) : Int))]) (fun s => []) (fun s => s.1 ≤ x0.length ∧ R2 (x0.length - s.1) s.1 s.2.1 = R2 (x0.length - 0) 0 x1) (fun s => x0.length - s.1) (0, x1, ()) sl3 (fun W hm => hm) ⟨(by omega), rfl⟩ ?_
 rintro ⟨k6, s7, ⟨⟩⟩ H10
 obtain ⟨hk8, hF9⟩ : k6 ≤ x0.length ∧ R2 (x0.length - k6) k6 s7 = R2 (x0.length - 0) 0 x1 := H10
 show CM Tryd.prog 21 _ _ _ _ [(0, .slice A2 x0.length c3), (1, .int .i64 s7), (5, .int .i64 ((k6 : Nat) : Int))] []
 refine CM_seq (sr (wm (wm ?_)))
 refine wv (vlen underlying22) ?_
 refine wv vlss ?_
 refine nt' ?_
 by_cases hl11 : k6 < x0.length
 ·have g12 := dlT hl11
  refine CM_condT rfl g12 ?_
  refine CM_skip (QM_then (CM_seq (CM_block (CM_seq (sr (wm (wm ?_)))))))
  obtain ⟨a13, rfl, hb14, he15⟩ := q4 (by omega)
  refine wv (vix 1 k6 underlying22 type3) ?_
  refine wv (fun W hm => rv_load underlying3 rfl rfl ((hm.cell0 (show (a13.add (k6 * 1)).block < w.heap.size from by rw [add_block]; exact hb14.1)).trans (rdS_int he15 k6 (by omega)))) ?_
  refine wm ?_
  refine wv vneq ?_
  refine nt' ?_
  by_cases h16 : (gt x0 k6) = s7
  ·have g17 : ((gt x0 k6) != s7) = false := by rw [h16]; exact bne_self_eq_false _
   refine CM_condF rfl g17 ?_
   refine CM_skip (QM_then (CM_region (wm ?_)))
   refine wv vadd ?_
   refine wa (WM_nil (QM_block_normal (QM_then (CM_region (wm ?_)))))
   refine wv (vadN k6 1 (by omega)) ?_
   refine wa (WM_nil ?_)
   have hn18 := rng_next (R := Int) (body := F1) (k := k6) (s := s7) (s' := (IntKind.i64.wrap (s7 + 1))) (show k6 < x0.length from by omega) (cond_f g17 (rfl)) hF9
   exact QM_round (k6 + 1, (IntKind.i64.wrap (s7 + 1)), ()) sl3 (fun W hm => hm) ⟨(by omega), hn18⟩ (rl (by omega))
  ·have g17 : ((gt x0 k6) != s7) = true := bne_iff_ne.2 h16
   refine CM_condT rfl g17 ?_
   refine sr (wa (nt' (CM_ret (QM_then_ret (QM_block_ret (QM_then_ret (QM_then_ret (QM_block_ret (QM_then_ret ?_)))))))))
   exact rti (h := fin_inl (rng_ret (body := F1) (k := k6) (s := s7) (show k6 < x0.length from by omega) (cond_t g17 (rfl)) hF9) rfl)
 ·have g12 := dlF hl11
  refine CM_condF rfl g12 ?_
  refine CM_exit (QM_then_exit (QM_then_exit ?_))
  have hE19 : R2 (x0.length - 0) 0 x1 = Sum.inr s7 := rng_end hl11 hF9
  refine QM_block_hit (QM_then (sr (wm (wa (nt' (CM_ret ?_))))))
  exact rti (h := fin_inr hE19 (rfl))

def laws_heldRow_m (x0 : DRow) (x1 : Int) : Int :=
 cond (decide ((laws_heldIntS_m x0.Values x1) < 0)) (-1) (laws_heldIntS_m x0.Values x1)
theorem cb20 : Cb Tryd.prog 20 := ⟨f20, _, func20, rfl, by decide⟩
theorem laws_heldRow_c (w : World) (z0 : List Value) (x0 : DRow) (x1 : Int) (r_0 : tyRow.rd w w.heap.size z0 x0) :
  Calls Tryd.prog 20 #[.agg z0.toArray, .int .i64 x1] w fun e w' => e = .returned (.int .i64 (laws_heldRow_m x0 x1)) ∧ Below w.heap.size w w' := by
 obtain ⟨v1, rfl, r2⟩ := tyRow_rd r_0
 obtain ⟨m3, A4, c5, rfl, q6, r7⟩ := rdS_op r2
 refine ce2 (L := [(0, .agg #[.int .i64 x0.Id, .slice A4 x0.Values.length c5]), (1, .int .i64 x1)]) (N := 12) func20 ?_
 refine sr ?_
 refine WM_box rfl (Wd_none rfl) (by decide) (fun p8 => ?_)
 refine wa (nt' (sr ?_))
 refine wv (vf underlying24 rfl type22) ?_
 refine wv (vl 0 1 underlying22) ?_
 refine wm ?_
 refine wcv (cl_fn cb36 rfl) (fun W hm => laws_heldIntS_c W _ x0.Values x1 (hm.rdS0 r7)) ?_
 refine wa (nt' (CM_seq (sr (wm ?_))))
 refine wv vlss ?_
 refine nt' ?_
 by_cases h9 : (laws_heldIntS_m x0.Values x1) < 0
 ·have g10 := decide_eq_true h9
  refine CM_condT rfl g10 ?_
  refine sr (wa (nt' (CM_ret (QM_then_ret ?_))))
  exact rti (h := cond_t g10 (rfl))
 ·have g10 := decide_eq_false h9
  refine CM_condF rfl g10 ?_
  refine CM_skip (QM_then (sr (wm (wa (nt' (CM_ret ?_))))))
  exact rti (h := cond_f g10 (rfl))

def laws_heldUpdate_m (x0 : DUpdate) (x1 : Int) : Int :=
 cond (decide ((laws_heldRow_m x0.Row x1) < 0)) (-1) (laws_heldRow_m x0.Row x1)
theorem cb8 : Cb Tryd.prog 8 := ⟨f8, _, func8, rfl, by decide⟩
theorem laws_heldUpdate_c (w : World) (z0 : List Value) (x0 : DUpdate) (x1 : Int) (r_0 : tyUpdate.rd w w.heap.size z0 x0) :
  Calls Tryd.prog 8 #[.agg z0.toArray, .int .i64 x1] w fun e w' => e = .returned (.int .i64 (laws_heldUpdate_m x0 x1)) ∧ Below w.heap.size w w' := by
 obtain ⟨v1, rfl, r2⟩ := tyUpdate_rd r_0
 obtain ⟨m3, A4, c5, rfl, q6, r7⟩ := rdS_op r2
 refine ce2 (L := [(0, .agg #[.int .i64 x0.Kind, .int .i64 x0.Row.Id, .slice A4 x0.Row.Values.length c5, .int .i64 x0.Field, .int .i64 x0.Value]), (1, .int .i64 x1)]) (N := 12) func8 ?_
 refine sr ?_
 refine WM_box rfl (Wd_none rfl) (by decide) (fun p8 => ?_)
 refine wa (nt' (sr ?_))
 refine wv (vf underlying26 rfl type24) ?_
 refine wv (fun W hm => rv_loadN (cs := [.int .i64 x0.Row.Id, .slice A4 x0.Row.Values.length c5]) underlying24 type24 rfl rfl (hm.boxPart (n := 0) rfl rfl)) ?_
 refine wm ?_
 refine wcv (cl_fn cb20 rfl) (fun W hm => laws_heldRow_c W _ x0.Row x1 (tyRow_mk (x := x0.Row) (hm.rdS0 r7))) ?_
 refine wa (nt' (CM_seq (sr (wm ?_))))
 refine wv vlss ?_
 refine nt' ?_
 by_cases h9 : (laws_heldRow_m x0.Row x1) < 0
 ·have g10 := decide_eq_true h9
  refine CM_condT rfl g10 ?_
  refine sr (wa (nt' (CM_ret (QM_then_ret ?_))))
  exact rti (h := cond_t g10 (rfl))
 ·have g10 := decide_eq_false h9
  refine CM_condF rfl g10 ?_
  refine CM_skip (QM_then (sr (wm (wa (nt' (CM_ret ?_))))))
  exact rti (h := cond_f g10 (rfl))

end Go.Proofs.YtfdaaliffcfjjaaDoor
