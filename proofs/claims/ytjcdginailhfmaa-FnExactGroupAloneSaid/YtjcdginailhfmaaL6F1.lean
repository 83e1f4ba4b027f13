/-
  Contracts of functions, printed by a program of ours.
-/
import Derived.Test.YtjcdginailhfmaaDat
namespace Go.Proofs.Ytjcdginailhfmaa
open Go.RowKit
def laws_szIntS_m (x0 : (List Int)) (x1 : Int) : Int :=
 cond (decide ((IntKind.i64.wrap (x1 - ((x0.length : Nat) : Int))) < 0)) (-1) (IntKind.i64.wrap (x1 - ((x0.length : Nat) : Int)))
set_option maxRecDepth 100000 in
theorem cb102 : Cb Try.prog 102 := ⟨Try.f102, _, Try.func102, rfl, by decide⟩
set_option maxRecDepth 10000 in
set_option maxHeartbeats 4000000 in
theorem laws_szIntS_c (w : World) (z0 : Value) (x0 : (List Int)) (x1 : Int) (r_0 : rdS tInt w w.heap.size z0 x0) :
  Calls Try.prog 102 #[z0, .int .i64 x1] w fun e w' => e = .returned (.int .i64 (laws_szIntS_m x0 x1)) ∧ Below w.heap.size w w' := by
 have r5 := r_0
 obtain ⟨m1, A2, c3, rfl, q4⟩ := r_0
 refine call_enterM (L := [(0, .slice A2 x0.length c3), (1, .int .i64 x1)]) (N := 12) Try.func102 rfl rfl (Nat.le_of_ble_eq_true rfl) (argsL_cons rfl (argsL_cons rfl argsL_nil)) ?_
 refine sr ?_
 refine wa ?_
 refine nt' ?_
 refine sr ?_
 refine wm ?_
 refine wm ?_
 refine wv (fun W hm => rv_len Try.underlying33 rfl) ?_
 refine wv (fun W hm => rv_sub rfl rfl) ?_
 refine wa ?_
 refine nt' ?_
 refine CM_seq ?_
 refine sr ?_
 refine wm ?_
 refine wv (fun W hm => rv_lss rfl rfl) ?_
 refine nt' ?_
 by_cases h6 : (IntKind.i64.wrap (x1 - ((x0.length : Nat) : Int))) < 0
 ·have g7 : (decide ((IntKind.i64.wrap (x1 - ((x0.length : Nat) : Int))) < 0)) = true := decide_eq_true h6
  refine CM_condT rfl g7 ?_
  refine sr ?_
  refine wa ?_
  refine nt' ?_
  refine CM_ret ?_
  refine QM_then_ret ?_
  exact QM_ret1 rfl rfl (fun W hm => ⟨ret_i (show laws_szIntS_m x0 x1 = (-1) from by unfold laws_szIntS_m; exact cond_t g7 (rfl)), hm.below⟩)
 ·have g7 : (decide ((IntKind.i64.wrap (x1 - ((x0.length : Nat) : Int))) < 0)) = false := decide_eq_false h6
  refine CM_condF rfl g7 ?_
  refine CM_skip ?_
  refine QM_then ?_
  refine sr ?_
  refine wm ?_
  refine wa ?_
  refine nt' ?_
  refine CM_ret ?_
  exact QM_ret1 rfl rfl (fun W hm => ⟨ret_i (show laws_szIntS_m x0 x1 = (IntKind.i64.wrap (x1 - ((x0.length : Nat) : Int))) from by unfold laws_szIntS_m; exact cond_f g7 (rfl)), hm.below⟩)

def laws_szRow_m (x0 : DRow) (x1 : Int) : Int :=
 cond (decide ((laws_szIntS_m x0.Values x1) < 0)) (-1) (laws_szIntS_m x0.Values x1)
set_option maxRecDepth 100000 in
theorem cb79 : Cb Try.prog 79 := ⟨Try.f79, _, Try.func79, rfl, by decide⟩
set_option maxRecDepth 10000 in
set_option maxHeartbeats 4000000 in
theorem laws_szRow_c (w : World) (z0 : List Value) (x0 : DRow) (x1 : Int) (r_0 : tyLRow.rd w w.heap.size z0 x0) :
  Calls Try.prog 79 #[.agg z0.toArray, .int .i64 x1] w fun e w' => e = .returned (.int .i64 (laws_szRow_m x0 x1)) ∧ Below w.heap.size w w' := by
 obtain ⟨v1, rfl, r2⟩ := tyLRow_rd r_0
 have r7 := r2
 obtain ⟨m3, A4, c5, rfl, q6⟩ := r2
 refine call_enterM (L := [(0, .agg #[.int .i64 x0.Id, .slice A4 x0.Values.length c5]), (1, .int .i64 x1)]) (N := 12) Try.func79 rfl rfl (Nat.le_of_ble_eq_true rfl) (argsL_cons rfl (argsL_cons rfl argsL_nil)) ?_
 refine sr ?_
 refine WM_box rfl (Wd_none rfl) (by decide) (fun p8 => ?_)
 refine wa ?_
 refine nt' ?_
 refine sr ?_
 refine wv (fun W hm => rv_field Try.underlying63 rfl Try.type33 (by decide) rfl rfl) ?_
 refine wv (fun W hm => rv_load Try.underlying33 rfl rfl (hm.boxCell (n := 0) (o := 1) rfl rfl)) ?_
 refine wm ?_
 refine WM_callV (cl_fn cb102 rfl) (fun W hm => laws_szIntS_c W _ x0.Values x1 (hm.rdS0 r7)) (Wd_none rfl) (by decide) ?_
 refine wa ?_
 refine nt' ?_
 refine CM_seq ?_
 refine sr ?_
 refine wm ?_
 refine wv (fun W hm => rv_lss rfl rfl) ?_
 refine nt' ?_
 by_cases h9 : (laws_szIntS_m x0.Values x1) < 0
 ·have g10 : (decide ((laws_szIntS_m x0.Values x1) < 0)) = true := decide_eq_true h9
  refine CM_condT rfl g10 ?_
  refine sr ?_
  refine wa ?_
  refine nt' ?_
  refine CM_ret ?_
  refine QM_then_ret ?_
  exact QM_ret1 rfl rfl (fun W hm => ⟨ret_i (show laws_szRow_m x0 x1 = (-1) from by unfold laws_szRow_m; exact cond_t g10 (rfl)), hm.below⟩)
 ·have g10 : (decide ((laws_szIntS_m x0.Values x1) < 0)) = false := decide_eq_false h9
  refine CM_condF rfl g10 ?_
  refine CM_skip ?_
  refine QM_then ?_
  refine sr ?_
  refine wm ?_
  refine wa ?_
  refine nt' ?_
  refine CM_ret ?_
  exact QM_ret1 rfl rfl (fun W hm => ⟨ret_i (show laws_szRow_m x0 x1 = (laws_szIntS_m x0.Values x1) from by unfold laws_szRow_m; exact cond_f g10 (rfl)), hm.below⟩)

def laws_szRowS_b1 (x0 : (List DRow)) (k8 : Nat) (s9 : Int) : Int ⊕ (Int) :=
 cond (decide ((laws_szRow_m (gt x0 k8) s9) < 0)) (Sum.inl (-1)) (Sum.inr (laws_szRow_m (gt x0 k8) s9))
def laws_szRowS_m (x0 : (List DRow)) (x1 : Int) : Int :=
 cond (decide ((IntKind.i64.wrap (x1 - ((x0.length : Nat) : Int))) < 0)) (-1) (Sum.elim id (fun (s : Int) => s) (rng (R := Int) (fun k (s : Int) => laws_szRowS_b1 x0 k s) (x0.length - 0) 0 (IntKind.i64.wrap (x1 - ((x0.length : Nat) : Int)))))
set_option maxRecDepth 100000 in
theorem cb33 : Cb Try.prog 33 := ⟨Try.f33, _, Try.func33, rfl, by decide⟩
set_option maxRecDepth 10000 in
set_option maxHeartbeats 4000000 in
theorem laws_szRowS_c (w : World) (z0 : Value) (x0 : (List DRow)) (x1 : Int) (r_0 : rdS tyLRow w w.heap.size z0 x0) :
  Calls Try.prog 33 #[z0, .int .i64 x1] w fun e w' => e = .returned (.int .i64 (laws_szRowS_m x0 x1)) ∧ Below w.heap.size w w' := by
 have r5 := r_0
 obtain ⟨m1, A2, c3, rfl, q4⟩ := r_0
 refine call_enterM (L := [(0, .slice A2 x0.length c3), (1, .int .i64 x1)]) (N := 27) Try.func33 rfl rfl (Nat.le_of_ble_eq_true rfl) (argsL_cons rfl (argsL_cons rfl argsL_nil)) ?_
 refine sr ?_
 refine wa ?_
 refine nt' ?_
 refine sr ?_
 refine wm ?_
 refine wm ?_
 refine wv (fun W hm => rv_len Try.underlying52 rfl) ?_
 refine wv (fun W hm => rv_sub rfl rfl) ?_
 refine wa ?_
 refine nt' ?_
 refine CM_seq ?_
 refine sr ?_
 refine wm ?_
 refine wv (fun W hm => rv_lss rfl rfl) ?_
 refine nt' ?_
 by_cases h6 : (IntKind.i64.wrap (x1 - ((x0.length : Nat) : Int))) < 0
 ·have g7 : (decide ((IntKind.i64.wrap (x1 - ((x0.length : Nat) : Int))) < 0)) = true := decide_eq_true h6
  refine CM_condT rfl g7 ?_
  refine sr ?_
  refine wa ?_
  refine nt' ?_
  refine CM_ret ?_
  refine QM_then_ret ?_
  exact QM_ret1 rfl rfl (fun W hm => ⟨ret_i (show laws_szRowS_m x0 x1 = (-1) from by unfold laws_szRowS_m; exact cond_t g7 (rfl)), hm.below⟩)
 ·have g7 : (decide ((IntKind.i64.wrap (x1 - ((x0.length : Nat) : Int))) < 0)) = false := decide_eq_false h6
  refine CM_condF rfl g7 ?_
  refine CM_skip ?_
  refine QM_then ?_
  refine CM_seq ?_
  refine sr ?_
  refine wa ?_
  refine nt' ?_
  refine CM_block ?_
  refine CM_loop (σ := Nat × (Int) × (Unit)) (fun s => [(0, .slice A2 x0.length c3), (1, .int .i64 s.2.1), (5, .int .i64 ((s.1 : Nat) : Int))]) (fun s => []) (fun s => s.1 ≤ x0.length ∧ rng (R := Int) (fun k (s : Int) => laws_szRowS_b1 x0 k s) (x0.length - s.1) s.1 s.2.1 = rng (R := Int) (fun k (s : Int) => laws_szRowS_b1 x0 k s) (x0.length - 0) 0 (IntKind.i64.wrap (x1 - ((x0.length : Nat) : Int)))) (fun s => x0.length - s.1) (0, (IntKind.i64.wrap (x1 - ((x0.length : Nat) : Int))), ()) (subL_cons rfl (subL_cons rfl (subL_cons rfl subL_nil))) (fun W hm => hm) ⟨(by omega), rfl⟩ ?_
  rintro ⟨k8, s9, ⟨⟩⟩ H12
  obtain ⟨hk10, hF11⟩ : k8 ≤ x0.length ∧ rng (R := Int) (fun k (s : Int) => laws_szRowS_b1 x0 k s) (x0.length - k8) k8 s9 = rng (R := Int) (fun k (s : Int) => laws_szRowS_b1 x0 k s) (x0.length - 0) 0 (IntKind.i64.wrap (x1 - ((x0.length : Nat) : Int))) := H12
  show CM Try.prog 27 _ _ _ _ [(0, .slice A2 x0.length c3), (1, .int .i64 s9), (5, .int .i64 ((k8 : Nat) : Int))] []
  refine CM_seq ?_
  refine sr ?_
  refine wm ?_
  refine wm ?_
  refine wv (fun W hm => rv_len Try.underlying52 rfl) ?_
  refine wv (fun W hm => rv_lss rfl rfl) ?_
  refine nt' ?_
  by_cases hl13 : k8 < x0.length
  ·have g14 : (decide (((k8 : Nat) : Int) < ((x0.length : Nat) : Int))) = true := decide_eq_true (by omega)
   refine CM_condT rfl g14 ?_
   refine CM_skip ?_
   refine QM_then ?_
   refine CM_seq ?_
   refine CM_block ?_
   refine sr ?_
   refine wm ?_
   refine wm ?_
   obtain ⟨a15, rfl, hb16, he17⟩ := q4 (by omega)
   refine wv (fun W hm => rv_index (sz := 2) (k := k8) Try.underlying52 Try.type63 rfl rfl rfl (by omega)) ?_
   obtain ⟨_, e21, hc18⟩ := he17 k8 _ (gt_some (show k8 < x0.length from by omega))
   obtain ⟨v19, rfl, r20⟩ := tyLRow_rd e21
   have r26 := r20
   obtain ⟨m22, A23, c24, rfl, q25⟩ := r20
   refine wv (fun W hm => rv_loadN (cs := [.int .i64 ((gt x0 k8).Id), .slice A23 ((gt x0 k8).Values).length c24]) Try.underlying63 Try.type63 rfl rfl (hm.elCells (show (a15.add (k8 * 2)).block < w.heap.size from by rw [add_block]; exact hb16.1) hc18)) ?_
   refine wm ?_
   refine WM_callV (cl_fn cb79 rfl) (fun W hm => laws_szRow_c W _ (gt x0 k8) s9 (tyLRow_mk (x := (gt x0 k8)) (hm.rdS0 r26))) (Wd_none rfl) (by decide) ?_
   refine wa ?_
   refine nt' ?_
   refine sr ?_
   refine wm ?_
   refine wv (fun W hm => rv_lss rfl rfl) ?_
   refine nt' ?_
   by_cases h27 : (laws_szRow_m (gt x0 k8) s9) < 0
   ·have g28 : (decide ((laws_szRow_m (gt x0 k8) s9) < 0)) = true := decide_eq_true h27
    refine CM_condT rfl g28 ?_
    refine sr ?_
    refine wa ?_
    refine nt' ?_
    refine CM_ret ?_
    refine QM_block_ret ?_
    refine QM_then_ret ?_
    refine QM_then_ret ?_
    refine QM_block_ret ?_
    refine QM_then_ret ?_
    exact QM_ret1 rfl rfl (fun W hm => ⟨ret_i (show laws_szRowS_m x0 x1 = (-1) from by unfold laws_szRowS_m; exact cond_f g7 (fin_inl (rng_ret (body := (fun k (s : Int) => laws_szRowS_b1 x0 k s)) (k := k8) (s := s9) (show k8 < x0.length from by omega) (show laws_szRowS_b1 x0 k8 s9 = Sum.inl (-1) from by unfold laws_szRowS_b1; exact cond_t g28 (rfl)) hF11) rfl)), hm.below⟩)
   ·have g28 : (decide ((laws_szRow_m (gt x0 k8) s9) < 0)) = false := decide_eq_false h27
    refine CM_condF rfl g28 ?_
    refine CM_skip ?_
    refine QM_block_normal ?_
    refine QM_then ?_
    refine CM_region ?_
    refine wm ?_
    refine wv (fun W hm => rv_addN (p := k8) (q := 1) rfl rfl (by omega)) ?_
    refine wa ?_
    refine WM_nil ?_
    have hn29 := rng_next (R := Int) (body := (fun k (s : Int) => laws_szRowS_b1 x0 k s)) (k := k8) (s := s9) (s' := (laws_szRow_m (gt x0 k8) s9)) (show k8 < x0.length from by omega) (show laws_szRowS_b1 x0 k8 s9 = Sum.inr (laws_szRow_m (gt x0 k8) s9) from by unfold laws_szRowS_b1; exact cond_f g28 (rfl)) hF11
    exact QM_round (k8 + 1, (laws_szRow_m (gt x0 k8) s9), ()) (subL_cons rfl (subL_cons rfl (subL_cons rfl subL_nil))) (fun W hm => hm) ⟨(by omega), hn29⟩ (show x0.length - (k8 + 1) < x0.length - k8 from by omega)
  ·have g14 : (decide (((k8 : Nat) : Int) < ((x0.length : Nat) : Int))) = false := decide_eq_false (by omega)
   refine CM_condF rfl g14 ?_
   refine CM_exit ?_
   refine QM_then_exit ?_
   refine QM_then_exit ?_
   have hE30 : rng (R := Int) (fun k (s : Int) => laws_szRowS_b1 x0 k s) (x0.length - 0) 0 (IntKind.i64.wrap (x1 - ((x0.length : Nat) : Int))) = Sum.inr s9 := rng_end hl13 hF11
   refine QM_block_hit ?_
   refine QM_then ?_
   refine sr ?_
   refine wm ?_
   refine wa ?_
   refine nt' ?_
   refine CM_ret ?_
   exact QM_ret1 rfl rfl (fun W hm => ⟨ret_i (show laws_szRowS_m x0 x1 = s9 from by unfold laws_szRowS_m; exact cond_f g7 (fin_inr hE30 (rfl))), hm.below⟩)

def laws_toIntS_b1 (x0 : (List Int)) (k9 : Nat) (d10 : (List Int)) : (List Int) ⊕ ((List Int)) :=
 Sum.inr (d10.set k9 (gt x0 k9))
def laws_toIntS_m (x0 : (List Int)) : (List Int) :=
 Sum.elim id (fun (s : (List Int)) => s) (rng (R := (List Int)) (fun k (s : (List Int)) => laws_toIntS_b1 x0 k s) (x0.length - 0) 0 (List.replicate x0.length (0 : Int)))
set_option maxRecDepth 100000 in
theorem cb21 : Cb Try.prog 21 := ⟨Try.f21, _, Try.func21, rfl, by decide⟩
set_option maxRecDepth 10000 in
set_option maxHeartbeats 4000000 in
theorem laws_toIntS_c (w : World) (z0 : Value) (x0 : (List Int)) (r_0 : rdS tInt w w.heap.size z0 x0) (s_0 : x0.length ≤ 68719476736) :
  Calls Try.prog 21 #[z0] w fun e w' => ∃ v : Value, e = .returned (v) ∧ Mem w.heap.size w [iOwn (tSl tInt 3) [v] (laws_toIntS_m x0)] w' := by
 have r5 := r_0
 obtain ⟨m1, A2, c3, rfl, q4⟩ := r_0
 have l6 : x0.length ≤ 68719476736 := s_0
 refine call_enterM (L := [(0, .slice A2 x0.length c3)]) (N := 22) Try.func21 rfl rfl (Nat.le_of_ble_eq_true rfl) (argsL_cons rfl argsL_nil) ?_
 refine sr ?_
 refine wa ?_
 refine nt' ?_
 refine sr ?_
 refine wm ?_
 refine wv (fun W hm => rv_len Try.underlying33 rfl) ?_
 refine WM_make (E := tInt) (n := x0.length) (x0 := (0 : Int)) Try.underlying33 Try.type3 rfl rfl rfl (fun _ => tInt_own) rfl rfl (show x0.length * 8 ≤ 281474976710656 from by omega) (by omega) (Wd_none rfl) (by decide) (fun p7 => ?_)
 refine wa ?_
 refine nt' ?_
 refine CM_seq ?_
 refine sr ?_
 refine wa ?_
 refine nt' ?_
 refine CM_block ?_
 refine CM_loop (σ := Nat × ((List Int)) × (Unit)) (fun s => [(0, .slice A2 x0.length c3), (3, .slice (some ⟨p7, 0, none⟩) x0.length x0.length), (4, .int .i64 ((s.1 : Nat) : Int))]) (fun s => [iOwn (tSl tInt 3) [.slice (some ⟨p7, 0, none⟩) x0.length x0.length] s.2.1]) (fun s => s.1 ≤ x0.length ∧ rng (R := (List Int)) (fun k (s : (List Int)) => laws_toIntS_b1 x0 k s) (x0.length - s.1) s.1 s.2.1 = rng (R := (List Int)) (fun k (s : (List Int)) => laws_toIntS_b1 x0 k s) (x0.length - 0) 0 (List.replicate x0.length (0 : Int))) (fun s => x0.length - s.1) (0, (List.replicate x0.length (0 : Int)), ()) (subL_cons rfl (subL_cons rfl (subL_cons rfl subL_nil))) (fun W hm => hm) ⟨(by omega), rfl⟩ ?_
 rintro ⟨k9, d10, ⟨⟩⟩ H13
 obtain ⟨hk11, hF12⟩ : k9 ≤ x0.length ∧ rng (R := (List Int)) (fun k (s : (List Int)) => laws_toIntS_b1 x0 k s) (x0.length - k9) k9 d10 = rng (R := (List Int)) (fun k (s : (List Int)) => laws_toIntS_b1 x0 k s) (x0.length - 0) 0 (List.replicate x0.length (0 : Int)) := H13
 show CM Try.prog 22 _ _ _ _ [(0, .slice A2 x0.length c3), (3, .slice (some ⟨p7, 0, none⟩) x0.length x0.length), (4, .int .i64 ((k9 : Nat) : Int))] [iOwn (tSl tInt 3) [.slice (some ⟨p7, 0, none⟩) x0.length x0.length] d10]
 refine CM_seq ?_
 refine sr ?_
 refine wm ?_
 refine wm ?_
 refine wv (fun W hm => rv_len Try.underlying33 rfl) ?_
 refine wv (fun W hm => rv_lss rfl rfl) ?_
 refine nt' ?_
 by_cases hl14 : k9 < x0.length
 ·have g15 : (decide (((k9 : Nat) : Int) < ((x0.length : Nat) : Int))) = true := decide_eq_true (by omega)
  refine CM_condT rfl g15 ?_
  refine CM_skip ?_
  refine QM_then ?_
  refine CM_seq ?_
  refine CM_block ?_
  refine CM_region ?_
  refine wm ?_
  refine wm ?_
  refine wm ?_
  refine wm ?_
  obtain ⟨a16, rfl, hb17, he18⟩ := q4 (by omega)
  refine wv (fun W hm => rv_index (sz := 1) (k := k9) Try.underlying33 Try.type3 rfl rfl rfl (by omega)) ?_
  refine wv (fun W hm => rv_load Try.underlying3 rfl rfl ((hm.cell0 (show (a16.add (k9 * 1)).block < w.heap.size from by rw [add_block]; exact hb17.1)).trans (rdS_int he18 k9 (by omega)))) ?_
  refine wv (fun W hm => rv_index (sz := 1) (k := k9) Try.underlying33 Try.type3 rfl rfl rfl (by omega)) ?_
  refine WM_setEl (E := tInt) (e := 3) (u := .int .i64 (gt x0 k9)) (k := k9) (p := p7) (n := x0.length) (xs := d10) (eis := []) (js := []) (yv := (gt x0 k9)) (fun W hm => hm) (fun _ _ hs => (Sep.nil hs ▸ tInt_own)) rfl Try.type3 rfl (by omega) rfl rfl (Wd_none rfl) ?_
  refine WM_nil ?_
  refine QM_block_normal ?_
  refine QM_then ?_
  refine CM_region ?_
  refine wm ?_
  refine wv (fun W hm => rv_addN (p := k9) (q := 1) rfl rfl (by omega)) ?_
  refine wa ?_
  refine WM_nil ?_
  have hn19 := rng_next (R := (List Int)) (body := (fun k (s : (List Int)) => laws_toIntS_b1 x0 k s)) (k := k9) (s := d10) (s' := (d10.set k9 (gt x0 k9))) (show k9 < x0.length from by omega) (show laws_toIntS_b1 x0 k9 d10 = Sum.inr (d10.set k9 (gt x0 k9)) from by unfold laws_toIntS_b1; exact rfl) hF12
  exact QM_round (k9 + 1, (d10.set k9 (gt x0 k9)), ()) (subL_cons rfl (subL_cons rfl (subL_cons rfl subL_nil))) (fun W hm => hm) ⟨(by omega), hn19⟩ (show x0.length - (k9 + 1) < x0.length - k9 from by omega)
 ·have g15 : (decide (((k9 : Nat) : Int) < ((x0.length : Nat) : Int))) = false := decide_eq_false (by omega)
  refine CM_condF rfl g15 ?_
  refine CM_exit ?_
  refine QM_then_exit ?_
  refine QM_then_exit ?_
  have hE20 : rng (R := (List Int)) (fun k (s : (List Int)) => laws_toIntS_b1 x0 k s) (x0.length - 0) 0 (List.replicate x0.length (0 : Int)) = Sum.inr d10 := rng_end hl14 hF12
  refine QM_block_hit ?_
  refine QM_then ?_
  refine sr ?_
  refine wm ?_
  refine wa ?_
  refine nt' ?_
  refine CM_ret ?_
  refine QM_r1 rfl (RR_tmp rfl) (fun W hm => ⟨.slice (some ⟨p7, 0, none⟩) x0.length x0.length, ?_, ?_⟩)
  ·first | rw [(show laws_toIntS_m x0 = d10 from by unfold laws_toIntS_m; exact fin_inr hE20 (rfl))] | rfl
  ·rw [(show laws_toIntS_m x0 = d10 from by unfold laws_toIntS_m; exact fin_inr hE20 (rfl))]; exact hm

def laws_toRow_m (x0 : DRow) : DRow :=
 (⟨x0.Id, (laws_toIntS_m x0.Values)⟩ : DRow)
set_option maxRecDepth 100000 in
theorem cb83 : Cb Try.prog 83 := ⟨Try.f83, _, Try.func83, rfl, by decide⟩
set_option maxRecDepth 10000 in
set_option maxHeartbeats 4000000 in
theorem laws_toRow_c (w : World) (z0 : List Value) (x0 : DRow) (r_0 : tyLRow.rd w w.heap.size z0 x0) (s_0 : smRow 68719476736 x0) :
  Calls Try.prog 83 #[.agg z0.toArray] w fun e w' => ∃ v : List Value, e = .returned (.agg v.toArray) ∧ Mem w.heap.size w [iOwn tyRow v (laws_toRow_m x0)] w' := by
 obtain ⟨v1, rfl, r2⟩ := tyLRow_rd r_0
 have r7 := r2
 obtain ⟨m3, A4, c5, rfl, q6⟩ := r2
 have l8 : x0.Values.length ≤ 68719476736 := s_0
 refine call_enterM (L := [(0, .agg #[.int .i64 x0.Id, .slice A4 x0.Values.length c5])]) (N := 12) Try.func83 rfl rfl (Nat.le_of_ble_eq_true rfl) (argsL_cons rfl argsL_nil) ?_
 refine sr ?_
 refine WM_box rfl (Wd_none rfl) (by decide) (fun p9 => ?_)
 refine WM_alloc Try.type69 rfl (Wd_none rfl) (by decide) (fun p10 => ?_)
 refine nt' ?_
 refine sr ?_
 refine WM_alloc Try.type69 rfl (Wd_none rfl) (by decide) (fun p11 => ?_)
 refine nt' ?_
 refine sr ?_
 refine wv (fun W hm => rv_field Try.underlying63 rfl Try.type3 (by decide) rfl rfl) ?_
 refine wv (fun W hm => rv_load Try.underlying3 rfl rfl (hm.boxCell (n := 2) (o := 0) rfl rfl)) ?_
 refine wv (fun W hm => rv_field Try.underlying69 rfl Try.type3 (by decide) rfl rfl) ?_
 refine WM_storeBox (p := p11) (o := 0) (cs' := [.int .i64 x0.Id, .slice none 0 0]) (js := [iBox p10 69 [.int .i64 0, .slice none 0 0], iBox p9 63 [.int .i64 x0.Id, .slice A4 x0.Values.length c5]]) (fun W hm => hm) Try.type3 rfl (Nat.le_of_ble_eq_true rfl) rfl rfl rfl rfl (Wd_none rfl) ?_
 refine nt' ?_
 refine sr ?_
 refine wv (fun W hm => rv_field Try.underlying63 rfl Try.type33 (by decide) rfl rfl) ?_
 refine wv (fun W hm => rv_load Try.underlying33 rfl rfl (hm.boxCell (n := 2) (o := 1) rfl rfl)) ?_
 refine WM_call (χ := Value) (val := fun x => x) (js := fun x => [iOwn (tSl tInt 3) [x] (laws_toIntS_m x0.Values)]) (cl_fn cb21 rfl) (fun W hm => laws_toIntS_c W _ x0.Values (hm.rdS0 r7) s_0) (Wd_none rfl) (by decide) (fun z12 => ?_)
 refine WM_form (n := 0) rfl ?_
 rintro A13 c14 rfl m15
 refine wv (fun W hm => rv_field Try.underlying69 rfl Try.type33 (by decide) rfl rfl) ?_
 refine WM_storeBox (p := p11) (o := 1) (cs' := [.int .i64 x0.Id, .slice A13 (laws_toIntS_m x0.Values).length c14]) (js := [iOwn (tSl tInt 3) [.slice A13 (laws_toIntS_m x0.Values).length c14] (laws_toIntS_m x0.Values), iBox p10 69 [.int .i64 0, .slice none 0 0], iBox p9 63 [.int .i64 x0.Id, .slice A4 x0.Values.length c5]]) (fun W hm => (hm.pick [1, 0, 2, 3] (by decide))) Try.type33 rfl (Nat.le_of_ble_eq_true rfl) rfl rfl rfl rfl (Wd_none rfl) ?_
 refine nt' ?_
 refine sr ?_
 refine wv (fun W hm => rv_loadN (cs := [.int .i64 x0.Id, .slice A13 (laws_toIntS_m x0.Values).length c14]) Try.underlying69 Try.type69 rfl rfl (hm.boxCells (n := 0) rfl)) ?_
 refine WM_storeBox (p := p10) (o := 0) (cs' := [.int .i64 x0.Id, .slice A13 (laws_toIntS_m x0.Values).length c14]) (js := [iBox p11 69 [.int .i64 x0.Id, .slice A13 (laws_toIntS_m x0.Values).length c14], iOwn (tSl tInt 3) [.slice A13 (laws_toIntS_m x0.Values).length c14] (laws_toIntS_m x0.Values), iBox p9 63 [.int .i64 x0.Id, .slice A4 x0.Values.length c5]]) (fun W hm => (hm.pick [2, 0, 1, 3] (by decide))) Try.type69 rfl (Nat.le_of_ble_eq_true rfl) rfl rfl rfl rfl (Wd_none rfl) ?_
 refine nt' ?_
 refine CM_ret ?_
 refine QM_r1 rfl (RR_cell (n := 0) rfl rfl Try.underlying69 Try.type69 rfl) (fun W hm => ⟨[.int .i64 x0.Id, .slice A13 (laws_toIntS_m x0.Values).length c14], ?_, ?_⟩)
 ·first | rw [(show laws_toRow_m x0 = (⟨x0.Id, (laws_toIntS_m x0.Values)⟩ : DRow) from by unfold laws_toRow_m; exact rfl)] | rfl
 ·rw [(show laws_toRow_m x0 = (⟨x0.Id, (laws_toIntS_m x0.Values)⟩ : DRow) from by unfold laws_toRow_m; exact rfl)]; exact Mem.join (is := [iOwn (tSl tInt 3) [.slice A13 (laws_toIntS_m x0.Values).length c14] (laws_toIntS_m x0.Values)]) (js := []) (fun _ _ hs => tyRow_join (x := (⟨x0.Id, (laws_toIntS_m x0.Values)⟩ : DRow)) hs) (hm.pick [2] (by decide))

def laws_toRowS_b1 (x0 : (List DRow)) (k9 : Nat) (d10 : (List DRow)) : (List DRow) ⊕ ((List DRow)) :=
 Sum.inr (d10.set k9 (laws_toRow_m (gt x0 k9)))
def laws_toRowS_m (x0 : (List DRow)) : (List DRow) :=
 Sum.elim id (fun (s : (List DRow)) => s) (rng (R := (List DRow)) (fun k (s : (List DRow)) => laws_toRowS_b1 x0 k s) (x0.length - 0) 0 (List.replicate x0.length (⟨(0 : Int), []⟩ : DRow)))
set_option maxRecDepth 100000 in
theorem cb35 : Cb Try.prog 35 := ⟨Try.f35, _, Try.func35, rfl, by decide⟩
set_option maxRecDepth 10000 in
set_option maxHeartbeats 4000000 in
theorem laws_toRowS_c (w : World) (z0 : Value) (x0 : (List DRow)) (r_0 : rdS tyLRow w w.heap.size z0 x0) (s_0 : (x0.length ≤ 68719476736 ∧ ∀ y ∈ x0, smRow 68719476736 y)) :
  Calls Try.prog 35 #[z0] w fun e w' => ∃ v : Value, e = .returned (v) ∧ Mem w.heap.size w [iOwn (tSl tyRow 69) [v] (laws_toRowS_m x0)] w' := by
 have r5 := r_0
 obtain ⟨m1, A2, c3, rfl, q4⟩ := r_0
 have l6 : x0.length ≤ 68719476736 := s_0.1
 refine call_enterM (L := [(0, .slice A2 x0.length c3)]) (N := 23) Try.func35 rfl rfl (Nat.le_of_ble_eq_true rfl) (argsL_cons rfl argsL_nil) ?_
 refine sr ?_
 refine wa ?_
 refine nt' ?_
 refine sr ?_
 refine wm ?_
 refine wv (fun W hm => rv_len Try.underlying52 rfl) ?_
 refine WM_make (E := tyRow) (n := x0.length) (x0 := (⟨(0 : Int), []⟩ : DRow)) Try.underlying24 Try.type69 rfl rfl rfl (fun _ => ⟨[], [], _, _, rfl, rfl, tInt_own, own_nil⟩) rfl rfl (show x0.length * 32 ≤ 281474976710656 from by omega) (by omega) (Wd_none rfl) (by decide) (fun p7 => ?_)
 refine wa ?_
 refine nt' ?_
 refine CM_seq ?_
 refine sr ?_
 refine wa ?_
 refine nt' ?_
 refine CM_block ?_
 refine CM_loop (σ := Nat × ((List DRow)) × (Unit)) (fun s => [(0, .slice A2 x0.length c3), (3, .slice (some ⟨p7, 0, none⟩) x0.length x0.length), (4, .int .i64 ((s.1 : Nat) : Int))]) (fun s => [iOwn (tSl tyRow 69) [.slice (some ⟨p7, 0, none⟩) x0.length x0.length] s.2.1]) (fun s => s.1 ≤ x0.length ∧ rng (R := (List DRow)) (fun k (s : (List DRow)) => laws_toRowS_b1 x0 k s) (x0.length - s.1) s.1 s.2.1 = rng (R := (List DRow)) (fun k (s : (List DRow)) => laws_toRowS_b1 x0 k s) (x0.length - 0) 0 (List.replicate x0.length (⟨(0 : Int), []⟩ : DRow))) (fun s => x0.length - s.1) (0, (List.replicate x0.length (⟨(0 : Int), []⟩ : DRow)), ()) (subL_cons rfl (subL_cons rfl (subL_cons rfl subL_nil))) (fun W hm => hm) ⟨(by omega), rfl⟩ ?_
 rintro ⟨k9, d10, ⟨⟩⟩ H13
 obtain ⟨hk11, hF12⟩ : k9 ≤ x0.length ∧ rng (R := (List DRow)) (fun k (s : (List DRow)) => laws_toRowS_b1 x0 k s) (x0.length - k9) k9 d10 = rng (R := (List DRow)) (fun k (s : (List DRow)) => laws_toRowS_b1 x0 k s) (x0.length - 0) 0 (List.replicate x0.length (⟨(0 : Int), []⟩ : DRow)) := H13
 show CM Try.prog 23 _ _ _ _ [(0, .slice A2 x0.length c3), (3, .slice (some ⟨p7, 0, none⟩) x0.length x0.length), (4, .int .i64 ((k9 : Nat) : Int))] [iOwn (tSl tyRow 69) [.slice (some ⟨p7, 0, none⟩) x0.length x0.length] d10]
 refine CM_seq ?_
 refine sr ?_
 refine wm ?_
 refine wm ?_
 refine wv (fun W hm => rv_len Try.underlying52 rfl) ?_
 refine wv (fun W hm => rv_lss rfl rfl) ?_
 refine nt' ?_
 by_cases hl14 : k9 < x0.length
 ·have g15 : (decide (((k9 : Nat) : Int) < ((x0.length : Nat) : Int))) = true := decide_eq_true (by omega)
  refine CM_condT rfl g15 ?_
  refine CM_skip ?_
  refine QM_then ?_
  refine CM_seq ?_
  refine CM_block ?_
  refine CM_region ?_
  refine wm ?_
  refine wm ?_
  refine wm ?_
  refine wm ?_
  obtain ⟨a16, rfl, hb17, he18⟩ := q4 (by omega)
  refine wv (fun W hm => rv_index (sz := 2) (k := k9) Try.underlying52 Try.type63 rfl rfl rfl (by omega)) ?_
  obtain ⟨_, e22, hc19⟩ := he18 k9 _ (gt_some (show k9 < x0.length from by omega))
  obtain ⟨v20, rfl, r21⟩ := tyLRow_rd e22
  have l23 : ((gt x0 k9).Values).length ≤ 68719476736 := (s_0.2 _ (gt_mem (show k9 < x0.length from by omega)))
  have r28 := r21
  obtain ⟨m24, A25, c26, rfl, q27⟩ := r21
  refine wv (fun W hm => rv_loadN (cs := [.int .i64 ((gt x0 k9).Id), .slice A25 ((gt x0 k9).Values).length c26]) Try.underlying63 Try.type63 rfl rfl (hm.elCells (show (a16.add (k9 * 2)).block < w.heap.size from by rw [add_block]; exact hb17.1) hc19)) ?_
  refine WM_call (χ := List Value) (val := fun x => .agg x.toArray) (js := fun x => [iOwn tyRow x (laws_toRow_m (gt x0 k9))]) (cl_fn cb83 rfl) (fun W hm => laws_toRow_c W _ (gt x0 k9) (tyLRow_mk (x := (gt x0 k9)) (hm.rdS0 r28)) (s_0.2 _ (gt_mem (show k9 < x0.length from by omega)))) (Wd_none rfl) (by decide) (fun z29 => ?_)
  refine WM_split (γ := Value) (js := fun g => [iOwn (tSl tInt 3) [g] ((laws_toRow_m (gt x0 k9)).Values)]) (C := fun g => z29 = [.int .i64 ((laws_toRow_m (gt x0 k9)).Id), g]) (fun _ _ h => tyRow_split h) ?_
  rintro v30 rfl
  refine WM_form (n := 0) rfl ?_
  rintro A31 c32 rfl m33
  refine wv (fun W hm => rv_index (sz := 2) (k := k9) Try.underlying24 Try.type69 rfl rfl rfl (by omega)) ?_
  refine WM_setEl (E := tyRow) (e := 69) (u := .agg #[.int .i64 ((laws_toRow_m (gt x0 k9)).Id), .slice A31 ((laws_toRow_m (gt x0 k9)).Values).length c32]) (k := k9) (p := p7) (n := x0.length) (xs := d10) (eis := [iOwn (tSl tInt 3) [.slice A31 ((laws_toRow_m (gt x0 k9)).Values).length c32] ((laws_toRow_m (gt x0 k9)).Values)]) (js := []) (yv := (laws_toRow_m (gt x0 k9))) (fun W hm => (hm.pick [1, 0] (by decide))) (fun _ _ hs => (tyRow_join (x := (laws_toRow_m (gt x0 k9))) hs)) rfl Try.type69 rfl (by omega) rfl rfl (Wd_none rfl) ?_
  refine WM_nil ?_
  refine QM_block_normal ?_
  refine QM_then ?_
  refine CM_region ?_
  refine wm ?_
  refine wv (fun W hm => rv_addN (p := k9) (q := 1) rfl rfl (by omega)) ?_
  refine wa ?_
  refine WM_nil ?_
  have hn35 := rng_next (R := (List DRow)) (body := (fun k (s : (List DRow)) => laws_toRowS_b1 x0 k s)) (k := k9) (s := d10) (s' := (d10.set k9 (laws_toRow_m (gt x0 k9)))) (show k9 < x0.length from by omega) (show laws_toRowS_b1 x0 k9 d10 = Sum.inr (d10.set k9 (laws_toRow_m (gt x0 k9))) from by unfold laws_toRowS_b1; exact rfl) hF12
  exact QM_round (k9 + 1, (d10.set k9 (laws_toRow_m (gt x0 k9))), ()) (subL_cons rfl (subL_cons rfl (subL_cons rfl subL_nil))) (fun W hm => hm) ⟨(by omega), hn35⟩ (show x0.length - (k9 + 1) < x0.length - k9 from by omega)
 ·have g15 : (decide (((k9 : Nat) : Int) < ((x0.length : Nat) : Int))) = false := decide_eq_false (by omega)
  refine CM_condF rfl g15 ?_
  refine CM_exit ?_
  refine QM_then_exit ?_
  refine QM_then_exit ?_
  have hE36 : rng (R := (List DRow)) (fun k (s : (List DRow)) => laws_toRowS_b1 x0 k s) (x0.length - 0) 0 (List.replicate x0.length (⟨(0 : Int), []⟩ : DRow)) = Sum.inr d10 := rng_end hl14 hF12
  refine QM_block_hit ?_
  refine QM_then ?_
  refine sr ?_
  refine wm ?_
  refine wa ?_
  refine nt' ?_
  refine CM_ret ?_
  refine QM_r1 rfl (RR_tmp rfl) (fun W hm => ⟨.slice (some ⟨p7, 0, none⟩) x0.length x0.length, ?_, ?_⟩)
  ·first | rw [(show laws_toRowS_m x0 = d10 from by unfold laws_toRowS_m; exact fin_inr hE36 (rfl))] | rfl
  ·rw [(show laws_toRowS_m x0 = d10 from by unfold laws_toRowS_m; exact fin_inr hE36 (rfl))]; exact hm

def spec_l1In_m (x0 : Int) (x1 : Int) (x2 : Int) : Bool :=
 cond (decide (x1 ≤ x0)) (decide (x0 ≤ x2)) false
set_option maxRecDepth 100000 in
theorem cb110 : Cb Try.prog 110 := ⟨Try.f110, _, Try.func110, rfl, by decide⟩
set_option maxRecDepth 10000 in
set_option maxHeartbeats 4000000 in
theorem spec_l1In_c (w : World) (x0 : Int) (x1 : Int) (x2 : Int) :
  Calls Try.prog 110 #[.int .i64 x0, .int .i64 x1, .int .i64 x2] w fun e w' => e = .returned (.bool (spec_l1In_m x0 x1 x2)) ∧ Below w.heap.size w w' := by
 refine call_enterM (L := [(0, .int .i64 x0), (1, .int .i64 x1), (2, .int .i64 x2)]) (N := 15) Try.func110 rfl rfl (Nat.le_of_ble_eq_true rfl) (argsL_cons rfl (argsL_cons rfl (argsL_cons rfl argsL_nil))) ?_
 refine sr ?_
 refine wa ?_
 refine nt' ?_
 refine sr ?_
 refine wm ?_
 refine wm ?_
 refine wv (fun W hm => rv_geq rfl rfl) ?_
 refine wm ?_
 by_cases h1 : x1 ≤ x0
 ·have g2 : (decide (x1 ≤ x0)) = true := decide_eq_true h1
  refine wg (fun W hm => rv_move rfl) g2 ?_
  refine wg (fun W hm => rv_move rfl) g2 ?_
  refine wg (fun W hm => rv_leq rfl rfl) g2 ?_
  refine wv (fun W hm => rv_pickT rfl g2 rfl) ?_
  refine wa ?_
  refine nt' ?_
  refine CM_ret ?_
  exact QM_ret1 rfl rfl (fun W hm => ⟨ret_b (show spec_l1In_m x0 x1 x2 = (decide (x0 ≤ x2)) from by unfold spec_l1In_m; exact cond_t g2 (rfl)), hm.below⟩)
 ·have g2 : (decide (x1 ≤ x0)) = false := decide_eq_false h1
  refine ws g2 ?_
  refine ws g2 ?_
  refine ws g2 ?_
  refine wv (fun W hm => rv_pickF rfl g2 rfl) ?_
  refine wa ?_
  refine nt' ?_
  refine CM_ret ?_
  exact QM_ret1 rfl rfl (fun W hm => ⟨ret_b (show spec_l1In_m x0 x1 x2 = false from by unfold spec_l1In_m; exact cond_f g2 (rfl)), hm.below⟩)

theorem spec_l1In_fact {x a b : Int} (h : spec_l1In_m x a b = true) : a ≤ x ∧ x ≤ b := by
  unfold spec_l1In_m at h
  by_cases h1 : a ≤ x
  · rw [decide_eq_true h1] at h
    exact ⟨h1, of_decide_eq_true h⟩
  · rw [decide_eq_false h1] at h
    cases h
theorem spec_l1In_iff (x a b : Int) : spec_l1In_m x a b = decide (a ≤ x ∧ x ≤ b) := by
  unfold spec_l1In_m
  by_cases h1 : a ≤ x
  · by_cases h2 : x ≤ b
    · simp [h1, h2]
    · simp [h1, h2]
  · simp [h1]

def spec_l14Fine_m (x0 : Int) (x1 : Int) : Bool :=
 cond (spec_l1In_m x0 0 2) (spec_l1In_m x1 0 2) false
set_option maxRecDepth 100000 in
theorem cb80 : Cb Try.prog 80 := ⟨Try.f80, _, Try.func80, rfl, by decide⟩
set_option maxRecDepth 10000 in
set_option maxHeartbeats 4000000 in
theorem spec_l14Fine_c (w : World) (x0 : Int) (x1 : Int) :
  Calls Try.prog 80 #[.int .i64 x0, .int .i64 x1] w fun e w' => e = .returned (.bool (spec_l14Fine_m x0 x1)) ∧ Below w.heap.size w w' := by
 refine call_enterM (L := [(0, .int .i64 x0), (1, .int .i64 x1)]) (N := 11) Try.func80 rfl rfl (Nat.le_of_ble_eq_true rfl) (argsL_cons rfl (argsL_cons rfl argsL_nil)) ?_
 refine sr ?_
 refine wa ?_
 refine nt' ?_
 refine sr ?_
 refine wm ?_
 refine WM_callV (cl_fn cb110 rfl) (fun W hm => spec_l1In_c W x0 0 2) (Wd_none rfl) (by decide) ?_
 refine wm ?_
 rcases Bool.eq_false_or_eq_true (spec_l1In_m x0 0 2) with g2 | g2
 ·
  have hw := spec_l1In_fact g2
  refine wg (fun W hm => rv_move rfl) g2 ?_
  refine WM_callV (cl_fn cb110 rfl) (fun W hm => spec_l1In_c W x1 0 2) (Wd_some rfl rfl rfl (bw g2 rfl)) (by decide) ?_
  refine wv (fun W hm => rv_pickT rfl g2 rfl) ?_
  refine wa ?_
  refine nt' ?_
  refine CM_ret ?_
  exact QM_ret1 rfl rfl (fun W hm => ⟨ret_b (show spec_l14Fine_m x0 x1 = (spec_l1In_m x1 0 2) from by unfold spec_l14Fine_m; exact cond_t g2 (rfl)), hm.below⟩)
 ·
  refine ws g2 ?_
  refine ws g2 ?_
  refine wv (fun W hm => rv_pickF rfl g2 rfl) ?_
  refine wa ?_
  refine nt' ?_
  refine CM_ret ?_
  exact QM_ret1 rfl rfl (fun W hm => ⟨ret_b (show spec_l14Fine_m x0 x1 = false from by unfold spec_l14Fine_m; exact cond_f g2 (rfl)), hm.below⟩)

def spec_IsRow_b1 (x0 : DRow) (k9 : Nat) : Bool ⊕ (Unit) :=
 cond (spec_l1In_m (gt x0.Values k9) 0 99) (Sum.inr ()) (Sum.inl false)
def spec_IsRow_m (x0 : DRow) : Bool :=
 Sum.elim id (fun (s : Unit) => cond (spec_l1In_m x0.Id 0 999) (((x0.Values.length : Nat) : Int) == 3) false) (rng (R := Bool) (fun k (_ : Unit) => spec_IsRow_b1 x0 k) (x0.Values.length - 0) 0 ())
set_option maxRecDepth 100000 in
theorem cb81 : Cb Try.prog 81 := ⟨Try.f81, _, Try.func81, rfl, by decide⟩
set_option maxRecDepth 10000 in
set_option maxHeartbeats 4000000 in
theorem spec_IsRow_c (w : World) (z0 : List Value) (x0 : DRow) (r_0 : tyRow.rd w w.heap.size z0 x0) :
  Calls Try.prog 81 #[.agg z0.toArray] w fun e w' => e = .returned (.bool (spec_IsRow_m x0)) ∧ Below w.heap.size w w' := by
 obtain ⟨v1, rfl, r2⟩ := tyRow_rd r_0
 have r7 := r2
 obtain ⟨m3, A4, c5, rfl, q6⟩ := r2
 refine call_enterM (L := [(0, .agg #[.int .i64 x0.Id, .slice A4 x0.Values.length c5])]) (N := 27) Try.func81 rfl rfl (Nat.le_of_ble_eq_true rfl) (argsL_cons rfl argsL_nil) ?_
 refine sr ?_
 refine WM_box rfl (Wd_none rfl) (by decide) (fun p8 => ?_)
 refine wa ?_
 refine nt' ?_
 refine CM_seq ?_
 refine sr ?_
 refine wa ?_
 refine nt' ?_
 refine CM_block ?_
 refine CM_loop (σ := Nat × (Unit) × (Unit)) (fun s => [(1, .pointer (some (⟨p8, 0, none⟩ : Addr))), (3, .int .i64 ((s.1 : Nat) : Int))]) (fun s => [iBox p8 69 [.int .i64 x0.Id, .slice A4 x0.Values.length c5]]) (fun s => s.1 ≤ x0.Values.length ∧ rng (R := Bool) (fun k (_ : Unit) => spec_IsRow_b1 x0 k) (x0.Values.length - s.1) s.1 s.2.1 = rng (R := Bool) (fun k (_ : Unit) => spec_IsRow_b1 x0 k) (x0.Values.length - 0) 0 ()) (fun s => x0.Values.length - s.1) (0, (), ()) (subL_cons rfl (subL_cons rfl subL_nil)) (fun W hm => hm) ⟨(by omega), rfl⟩ ?_
 rintro ⟨k9, ⟨⟩, ⟨⟩⟩ H12
 obtain ⟨hk10, hF11⟩ : k9 ≤ x0.Values.length ∧ rng (R := Bool) (fun k (_ : Unit) => spec_IsRow_b1 x0 k) (x0.Values.length - k9) k9 () = rng (R := Bool) (fun k (_ : Unit) => spec_IsRow_b1 x0 k) (x0.Values.length - 0) 0 () := H12
 show CM Try.prog 27 _ _ _ _ [(1, .pointer (some (⟨p8, 0, none⟩ : Addr))), (3, .int .i64 ((k9 : Nat) : Int))] [iBox p8 69 [.int .i64 x0.Id, .slice A4 x0.Values.length c5]]
 refine CM_seq ?_
 refine sr ?_
 refine wm ?_
 refine wv (fun W hm => rv_field Try.underlying69 rfl Try.type33 (by decide) rfl rfl) ?_
 refine wv (fun W hm => rv_load Try.underlying33 rfl rfl (hm.boxCell (n := 0) (o := 1) rfl rfl)) ?_
 refine wv (fun W hm => rv_len Try.underlying33 rfl) ?_
 refine wv (fun W hm => rv_lss rfl rfl) ?_
 refine nt' ?_
 by_cases hl13 : k9 < x0.Values.length
 ·have g14 : (decide (((k9 : Nat) : Int) < ((x0.Values.length : Nat) : Int))) = true := decide_eq_true (by omega)
  refine CM_condT rfl g14 ?_
  refine CM_skip ?_
  refine QM_then ?_
  refine CM_seq ?_
  refine CM_block ?_
  refine sr ?_
  refine wv (fun W hm => rv_field Try.underlying69 rfl Try.type33 (by decide) rfl rfl) ?_
  refine wv (fun W hm => rv_load Try.underlying33 rfl rfl (hm.boxCell (n := 0) (o := 1) rfl rfl)) ?_
  refine wm ?_
  obtain ⟨a15, rfl, hb16, he17⟩ := q6 (by omega)
  refine wv (fun W hm => rv_index (sz := 1) (k := k9) Try.underlying33 Try.type3 rfl rfl rfl (by omega)) ?_
  refine wv (fun W hm => rv_load Try.underlying3 rfl rfl ((hm.cell0 (show (a15.add (k9 * 1)).block < w.heap.size from by rw [add_block]; exact hb16.1)).trans (rdS_int he17 k9 (by omega)))) ?_
  refine WM_callV (cl_fn cb110 rfl) (fun W hm => spec_l1In_c W (gt x0.Values k9) 0 99) (Wd_none rfl) (by decide) ?_
  refine wv (fun W hm => rv_not rfl) ?_
  refine nt' ?_
  rcases Bool.eq_false_or_eq_true (spec_l1In_m (gt x0.Values k9) 0 99) with g19 | g19
  ·
   have hw := spec_l1In_fact g19
   refine CM_condF rfl (nt g19) ?_
   refine CM_skip ?_
   refine QM_block_normal ?_
   refine QM_then ?_
   refine CM_region ?_
   refine wm ?_
   refine wv (fun W hm => rv_addN (p := k9) (q := 1) rfl rfl (by omega)) ?_
   refine wa ?_
   refine WM_nil ?_
   have hn20 := rng_next (R := Bool) (body := (fun k (_ : Unit) => spec_IsRow_b1 x0 k)) (k := k9) (s := ()) (s' := ()) (show k9 < x0.Values.length from by omega) (show spec_IsRow_b1 x0 k9 = Sum.inr () from by unfold spec_IsRow_b1; exact cond_t g19 (rfl)) hF11
   exact QM_round (k9 + 1, (), ()) (subL_cons rfl (subL_cons rfl subL_nil)) (fun W hm => hm) ⟨(by omega), hn20⟩ (show x0.Values.length - (k9 + 1) < x0.Values.length - k9 from by omega)
  ·
   refine CM_condT rfl (nf g19) ?_
   refine sr ?_
   refine wa ?_
   refine nt' ?_
   refine CM_ret ?_
   refine QM_block_ret ?_
   refine QM_then_ret ?_
   refine QM_then_ret ?_
   refine QM_block_ret ?_
   refine QM_then_ret ?_
   exact QM_ret1 rfl rfl (fun W hm => ⟨ret_b (show spec_IsRow_m x0 = false from by unfold spec_IsRow_m; exact fin_inl (rng_ret (body := (fun k (_ : Unit) => spec_IsRow_b1 x0 k)) (k := k9) (s := ()) (show k9 < x0.Values.length from by omega) (show spec_IsRow_b1 x0 k9 = Sum.inl false from by unfold spec_IsRow_b1; exact cond_f g19 (rfl)) hF11) rfl), hm.below⟩)
 ·have g14 : (decide (((k9 : Nat) : Int) < ((x0.Values.length : Nat) : Int))) = false := decide_eq_false (by omega)
  refine CM_condF rfl g14 ?_
  refine CM_exit ?_
  refine QM_then_exit ?_
  refine QM_then_exit ?_
  have hE21 : rng (R := Bool) (fun k (_ : Unit) => spec_IsRow_b1 x0 k) (x0.Values.length - 0) 0 () = Sum.inr () := rng_end hl13 hF11
  refine QM_block_hit ?_
  refine QM_then ?_
  refine sr ?_
  refine wv (fun W hm => rv_field Try.underlying69 rfl Try.type3 (by decide) rfl rfl) ?_
  refine wv (fun W hm => rv_load Try.underlying3 rfl rfl (hm.boxCell (n := 0) (o := 0) rfl rfl)) ?_
  refine WM_callV (cl_fn cb110 rfl) (fun W hm => spec_l1In_c W x0.Id 0 999) (Wd_none rfl) (by decide) ?_
  refine wm ?_
  rcases Bool.eq_false_or_eq_true (spec_l1In_m x0.Id 0 999) with g23 | g23
  ·
   have hw := spec_l1In_fact g23
   refine wg (fun W hm => rv_field Try.underlying69 rfl Try.type33 (by decide) rfl rfl) g23 ?_
   refine wg (fun W hm => rv_load Try.underlying33 rfl rfl (hm.boxCell (n := 0) (o := 1) rfl rfl)) g23 ?_
   refine wg (fun W hm => rv_len Try.underlying33 rfl) g23 ?_
   refine wg (fun W hm => rv_eql rfl rfl) g23 ?_
   refine wv (fun W hm => rv_pickT rfl g23 rfl) ?_
   refine wa ?_
   refine nt' ?_
   refine CM_ret ?_
   exact QM_ret1 rfl rfl (fun W hm => ⟨ret_b (show spec_IsRow_m x0 = (((x0.Values.length : Nat) : Int) == 3) from by unfold spec_IsRow_m; exact fin_inr hE21 (cond_t g23 (rfl))), hm.below⟩)
  ·
   refine ws g23 ?_
   refine ws g23 ?_
   refine ws g23 ?_
   refine ws g23 ?_
   refine wv (fun W hm => rv_pickF rfl g23 rfl) ?_
   refine wa ?_
   refine nt' ?_
   refine CM_ret ?_
   exact QM_ret1 rfl rfl (fun W hm => ⟨ret_b (show spec_IsRow_m x0 = false from by unfold spec_IsRow_m; exact fin_inr hE21 (cond_f g23 (rfl))), hm.below⟩)

def spec_l14Put_b2 (x0 : (List DGroup)) (x1 : Int) (x2 : Int) (k21 : Nat) (s22 : Nat) : (List DGroup) ⊕ ((Nat) ⊕ (Nat)) :=
 cond (decide (((s22 : Nat) : Int) < ((x0.length : Nat) : Int))) (cond (decide (((gt x0 s22).Query) < x1)) (Sum.inr (Sum.inr (s22 + 1))) (cond (((gt x0 s22).Query) == x1) (cond (decide (((gt x0 s22).Value) < x2)) (Sum.inr (Sum.inr (s22 + 1))) (Sum.inr (Sum.inl s22))) (Sum.inr (Sum.inl s22)))) (Sum.inr (Sum.inl s22))
def spec_l14Put_b1 (x0 : (List DGroup)) (x1 : Int) (x2 : Int) (x3 : Int) (k6 : Nat) : (List DGroup) ⊕ (Unit) :=
 cond (((gt x0 k6).Query) == x1) (cond (((gt x0 k6).Value) == x2) (Sum.inl (x0.set k6 (⟨(gt x0 k6).Query, (gt x0 k6).Value, (IntKind.i64.wrap (((gt x0 k6).Count) + 1)), (IntKind.i64.wrap (((gt x0 k6).Sum) + x3))⟩ : DGroup))) (Sum.inr ())) (Sum.inr ())
def spec_l14Put_m (x0 : (List DGroup)) (x1 : Int) (x2 : Int) (x3 : Int) : (List DGroup) :=
 Sum.elim id (fun (s1_ : Unit) => Sum.elim id (fun (s : Nat) => (((List.take s x0) ++ [(⟨x1, x2, 1, x3⟩ : DGroup)]) ++ (List.drop s x0))) (rngb (R := (List DGroup)) (fun k (s : Nat) => spec_l14Put_b2 x0 x1 x2 k s) (x0.length + 1 - 0) 0 0)) (rng (R := (List DGroup)) (fun k (_ : Unit) => spec_l14Put_b1 x0 x1 x2 x3 k) (x0.length - 0) 0 ())
set_option maxRecDepth 100000 in
theorem cb82 : Cb Try.prog 82 := ⟨Try.f82, _, Try.func82, rfl, by decide⟩
set_option maxRecDepth 10000 in
set_option maxHeartbeats 4000000 in
theorem spec_l14Put_c (B : Nat) (w0 : World) (is : List It) (w : World) (z0 : Value) (x0 : (List DGroup)) (x1 : Int) (x2 : Int) (x3 : Int) (s_0 : x0.length ≤ 68719476736) (hm : Mem B w0 (iOwn (tSl tyGroup 117) [z0] x0 :: is) w) :
  Calls Try.prog 82 #[z0, .int .i64 x1, .int .i64 x2, .int .i64 x3] w fun e w' => ∃ v : Value, e = .returned (v) ∧ Mem B w0 (iOwn (tSl tyGroup 117) [v] (spec_l14Put_m x0 x1 x2 x3) :: is) w' := by
 refine call_enterW (L := [(0, z0), (1, .int .i64 x1), (2, .int .i64 x2), (3, .int .i64 x3)]) (N := 106) Try.func82 rfl rfl (Nat.le_of_ble_eq_true rfl) (argsL_cons rfl (argsL_cons rfl (argsL_cons rfl (argsL_cons rfl argsL_nil)))) hm ?_
 refine CM_form (n := 0) rfl ?_
 rintro A1 c2 rfl m3
 have l5 : x0.length ≤ 68719476736 := s_0
 refine sr ?_
 refine wa ?_
 refine nt' ?_
 refine CM_seq ?_
 refine sr ?_
 refine wa ?_
 refine nt' ?_
 refine CM_block ?_
 refine CM_loop (σ := Nat × (Unit) × (Unit)) (fun s => [(0, .slice A1 x0.length c2), (1, .int .i64 x1), (2, .int .i64 x2), (3, .int .i64 x3), (9, .int .i64 ((s.1 : Nat) : Int))]) (fun s => (iOwn (tSl tyGroup 117) [.slice A1 x0.length c2] x0 :: is)) (fun s => s.1 ≤ x0.length ∧ rng (R := (List DGroup)) (fun k (_ : Unit) => spec_l14Put_b1 x0 x1 x2 x3 k) (x0.length - s.1) s.1 s.2.1 = rng (R := (List DGroup)) (fun k (_ : Unit) => spec_l14Put_b1 x0 x1 x2 x3 k) (x0.length - 0) 0 ()) (fun s => x0.length - s.1) (0, (), ()) (subL_cons rfl (subL_cons rfl (subL_cons rfl (subL_cons rfl (subL_cons rfl subL_nil))))) (fun W hm => hm) ⟨(by omega), rfl⟩ ?_
 rintro ⟨k6, ⟨⟩, ⟨⟩⟩ H9
 obtain ⟨hk7, hF8⟩ : k6 ≤ x0.length ∧ rng (R := (List DGroup)) (fun k (_ : Unit) => spec_l14Put_b1 x0 x1 x2 x3 k) (x0.length - k6) k6 () = rng (R := (List DGroup)) (fun k (_ : Unit) => spec_l14Put_b1 x0 x1 x2 x3 k) (x0.length - 0) 0 () := H9
 show CM Try.prog 106 _ _ _ _ [(0, .slice A1 x0.length c2), (1, .int .i64 x1), (2, .int .i64 x2), (3, .int .i64 x3), (9, .int .i64 ((k6 : Nat) : Int))] (iOwn (tSl tyGroup 117) [.slice A1 x0.length c2] x0 :: is)
 refine CM_seq ?_
 refine sr ?_
 refine wm ?_
 refine wm ?_
 refine wv (fun W hm => rv_len Try.underlying54 rfl) ?_
 refine wv (fun W hm => rv_lss rfl rfl) ?_
 refine nt' ?_
 by_cases hl10 : k6 < x0.length
 ·have g11 : (decide (((k6 : Nat) : Int) < ((x0.length : Nat) : Int))) = true := decide_eq_true (by omega)
  refine CM_condT rfl g11 ?_
  refine CM_skip ?_
  refine QM_then ?_
  refine CM_seq ?_
  refine CM_block ?_
  refine sr ?_
  refine wm ?_
  refine wm ?_
  refine WM_formO (n := 0) rfl (by omega) ?_
  rintro g12 rfl
  refine wv (fun W hm => rv_index (sz := 4) (k := k6) Try.underlying54 Try.type117 rfl rfl rfl (by omega)) ?_
  refine wv (fun W hm => rv_field Try.underlying117 rfl Try.type3 (by decide) rfl rfl) ?_
  refine WM_focus (E := tyGroup) (e := 117) (A := (some ⟨g12, 0, none⟩)) (n := x0.length) (c := c2) (xs := x0) (k := k6) (js := (is)) (by omega) (fun W hm => (hm.front (n := 0) rfl)) (fun ck13 => ?_)
  refine WM_split (γ := Unit) (js := fun _ => []) (C := fun _ => ck13 = [.int .i64 ((gt x0 k6).Query), .int .i64 ((gt x0 k6).Value), .int .i64 ((gt x0 k6).Count), .int .i64 ((gt x0 k6).Sum)]) (fun _ _ h => tyGroup_split h) ?_
  rintro ⟨⟩ rfl
  refine wv (fun W hm => rv_load Try.underlying3 rfl rfl (hm.focCells (i := 0) rfl rfl 0 _ rfl)) ?_
  refine wm ?_
  refine wv (fun W hm => rv_eql rfl rfl) ?_
  refine wm ?_
  by_cases h14 : ((gt x0 k6).Query) = x1
  ·have g15 : (((gt x0 k6).Query) == x1) = true := beq_iff_eq.2 h14
   refine wg (fun W hm => rv_move rfl) g15 ?_
   refine wg (fun W hm => rv_move rfl) g15 ?_
   refine wg (fun W hm => rv_index (sz := 4) (k := k6) Try.underlying54 Try.type117 rfl rfl rfl (by omega)) g15 ?_
   refine wg (fun W hm => rv_field Try.underlying117 rfl Try.type3 (by decide) rfl rfl) g15 ?_
   refine wg (fun W hm => rv_load Try.underlying3 rfl rfl (hm.focCells (i := 0) rfl rfl 1 _ rfl)) g15 ?_
   refine wg (fun W hm => rv_move rfl) g15 ?_
   refine wg (fun W hm => rv_eql rfl rfl) g15 ?_
   refine wv (fun W hm => rv_pickT rfl g15 rfl) ?_
   refine nt' ?_
   by_cases h16 : ((gt x0 k6).Value) = x2
   ·have g17 : (((gt x0 k6).Value) == x2) = true := beq_iff_eq.2 h16
    refine CM_condT rfl g17 ?_
    refine sr ?_
    refine wm ?_
    refine wm ?_
    refine wm ?_
    refine wm ?_
    refine wv (fun W hm => rv_index (sz := 4) (k := k6) Try.underlying54 Try.type117 rfl rfl rfl (by omega)) ?_
    refine wv (fun W hm => rv_field Try.underlying117 rfl Try.type3 (by decide) rfl rfl) ?_
    refine wv (fun W hm => rv_load Try.underlying3 rfl rfl (hm.focCells (i := 0) rfl rfl 2 _ rfl)) ?_
    refine wv (fun W hm => rv_add rfl rfl) ?_
    refine wv (fun W hm => rv_index (sz := 4) (k := k6) Try.underlying54 Try.type117 rfl rfl rfl (by omega)) ?_
    refine wv (fun W hm => rv_field Try.underlying117 rfl Try.type3 (by decide) rfl rfl) ?_
    refine WM_storeFoc (E := tyGroup) (e := 117) (g := g12) (n := x0.length) (c := c2) (k := k6) (s := 4) (o := 2) (xs := x0) (ck := [.int .i64 ((gt x0 k6).Query), .int .i64 ((gt x0 k6).Value), .int .i64 ((gt x0 k6).Count), .int .i64 ((gt x0 k6).Sum)]) (ck' := [.int .i64 ((gt x0 k6).Query), .int .i64 ((gt x0 k6).Value), .int .i64 (IntKind.i64.wrap (((gt x0 k6).Count) + 1)), .int .i64 ((gt x0 k6).Sum)]) (js := (is)) (fun W hm => (hm.front (n := 0) rfl)) rfl rfl Try.type3 rfl (Nat.le_of_ble_eq_true rfl) rfl rfl rfl rfl (Wd_none rfl) ?_
    refine nt' ?_
    refine sr ?_
    refine wm ?_
    refine wm ?_
    refine wm ?_
    refine wm ?_
    refine wv (fun W hm => rv_index (sz := 4) (k := k6) Try.underlying54 Try.type117 rfl rfl rfl (by omega)) ?_
    refine wv (fun W hm => rv_field Try.underlying117 rfl Try.type3 (by decide) rfl rfl) ?_
    refine wv (fun W hm => rv_load Try.underlying3 rfl rfl (hm.focCells (i := 0) rfl rfl 3 _ rfl)) ?_
    refine wm ?_
    refine wv (fun W hm => rv_add rfl rfl) ?_
    refine wv (fun W hm => rv_index (sz := 4) (k := k6) Try.underlying54 Try.type117 rfl rfl rfl (by omega)) ?_
    refine wv (fun W hm => rv_field Try.underlying117 rfl Try.type3 (by decide) rfl rfl) ?_
    refine WM_storeFoc (E := tyGroup) (e := 117) (g := g12) (n := x0.length) (c := c2) (k := k6) (s := 4) (o := 3) (xs := x0) (ck := [.int .i64 ((gt x0 k6).Query), .int .i64 ((gt x0 k6).Value), .int .i64 (IntKind.i64.wrap (((gt x0 k6).Count) + 1)), .int .i64 ((gt x0 k6).Sum)]) (ck' := [.int .i64 ((gt x0 k6).Query), .int .i64 ((gt x0 k6).Value), .int .i64 (IntKind.i64.wrap (((gt x0 k6).Count) + 1)), .int .i64 (IntKind.i64.wrap (((gt x0 k6).Sum) + x3))]) (js := (is)) (fun W hm => (hm.front (n := 0) rfl)) rfl rfl Try.type3 rfl (Nat.le_of_ble_eq_true rfl) rfl rfl rfl rfl (Wd_none rfl) ?_
    refine nt' ?_
    refine sr ?_
    refine wm ?_
    refine wa ?_
    refine nt' ?_
    refine CM_ret ?_
    refine QM_block_ret ?_
    refine QM_then_ret ?_
    refine QM_then_ret ?_
    refine QM_block_ret ?_
    refine QM_then_ret ?_
    refine QM_items (fun W hm => Mem.unfocus (Mem.join (is := []) (js := (iFoc tyGroup 117 (some ⟨g12, 0, none⟩) x0.length c2 x0 k6 [.int .i64 ((gt x0 k6).Query), .int .i64 ((gt x0 k6).Value), .int .i64 (IntKind.i64.wrap (((gt x0 k6).Count) + 1)), .int .i64 (IntKind.i64.wrap (((gt x0 k6).Sum) + x3))] :: (is))) (fun _ _ hs => tyGroup_join (x := (⟨(gt x0 k6).Query, (gt x0 k6).Value, (IntKind.i64.wrap (((gt x0 k6).Count) + 1)), (IntKind.i64.wrap (((gt x0 k6).Sum) + x3))⟩ : DGroup)) hs) (hm.front (n := 0) rfl))) ?_
    refine QM_r1 rfl (RR_tmp rfl) (fun W hm => ⟨.slice (some ⟨g12, 0, none⟩) x0.length c2, ?_, ?_⟩)
    ·first | rw [(show spec_l14Put_m x0 x1 x2 x3 = (x0.set k6 (⟨(gt x0 k6).Query, (gt x0 k6).Value, (IntKind.i64.wrap (((gt x0 k6).Count) + 1)), (IntKind.i64.wrap (((gt x0 k6).Sum) + x3))⟩ : DGroup)) from by unfold spec_l14Put_m; exact fin_inl (rng_ret (body := (fun k (_ : Unit) => spec_l14Put_b1 x0 x1 x2 x3 k)) (k := k6) (s := ()) (show k6 < x0.length from by omega) (show spec_l14Put_b1 x0 x1 x2 x3 k6 = Sum.inl (x0.set k6 (⟨(gt x0 k6).Query, (gt x0 k6).Value, (IntKind.i64.wrap (((gt x0 k6).Count) + 1)), (IntKind.i64.wrap (((gt x0 k6).Sum) + x3))⟩ : DGroup)) from by unfold spec_l14Put_b1; exact cond_t g15 (cond_t g17 (rfl))) hF8) rfl)] | rfl
    ·rw [(show spec_l14Put_m x0 x1 x2 x3 = (x0.set k6 (⟨(gt x0 k6).Query, (gt x0 k6).Value, (IntKind.i64.wrap (((gt x0 k6).Count) + 1)), (IntKind.i64.wrap (((gt x0 k6).Sum) + x3))⟩ : DGroup)) from by unfold spec_l14Put_m; exact fin_inl (rng_ret (body := (fun k (_ : Unit) => spec_l14Put_b1 x0 x1 x2 x3 k)) (k := k6) (s := ()) (show k6 < x0.length from by omega) (show spec_l14Put_b1 x0 x1 x2 x3 k6 = Sum.inl (x0.set k6 (⟨(gt x0 k6).Query, (gt x0 k6).Value, (IntKind.i64.wrap (((gt x0 k6).Count) + 1)), (IntKind.i64.wrap (((gt x0 k6).Sum) + x3))⟩ : DGroup)) from by unfold spec_l14Put_b1; exact cond_t g15 (cond_t g17 (rfl))) hF8) rfl)]; exact hm
   ·have g17 : (((gt x0 k6).Value) == x2) = false := beq_eq_false_iff_ne.2 h16
    refine CM_condF rfl g17 ?_
    refine CM_skip ?_
    refine QM_block_normal ?_
    refine QM_then ?_
    refine CM_region ?_
    refine wm ?_
    refine wv (fun W hm => rv_addN (p := k6) (q := 1) rfl rfl (by omega)) ?_
    refine wa ?_
    refine WM_nil ?_
    refine QM_items (fun W hm => Mem.unfocus0 (Mem.join (is := []) (js := (iFoc tyGroup 117 (some ⟨g12, 0, none⟩) x0.length c2 x0 k6 [.int .i64 ((gt x0 k6).Query), .int .i64 ((gt x0 k6).Value), .int .i64 ((gt x0 k6).Count), .int .i64 ((gt x0 k6).Sum)] :: (is))) (fun _ _ hs => tyGroup_join (x := (gt x0 k6)) hs) (hm.front (n := 0) rfl))) ?_
    have hn18 := rng_next (R := (List DGroup)) (body := (fun k (_ : Unit) => spec_l14Put_b1 x0 x1 x2 x3 k)) (k := k6) (s := ()) (s' := ()) (show k6 < x0.length from by omega) (show spec_l14Put_b1 x0 x1 x2 x3 k6 = Sum.inr () from by unfold spec_l14Put_b1; exact cond_t g15 (cond_f g17 (rfl))) hF8
    exact QM_round (k6 + 1, (), ()) (subL_cons rfl (subL_cons rfl (subL_cons rfl (subL_cons rfl (subL_cons rfl subL_nil))))) (fun W hm => hm) ⟨(by omega), hn18⟩ (show x0.length - (k6 + 1) < x0.length - k6 from by omega)
  ·have g15 : (((gt x0 k6).Query) == x1) = false := beq_eq_false_iff_ne.2 h14
   refine ws g15 ?_
   refine ws g15 ?_
   refine ws g15 ?_
   refine ws g15 ?_
   refine ws g15 ?_
   refine ws g15 ?_
   refine ws g15 ?_
   refine wv (fun W hm => rv_pickF rfl g15 rfl) ?_
   refine nt' ?_
   refine CM_condF rfl rfl ?_
   refine CM_skip ?_
   refine QM_block_normal ?_
   refine QM_then ?_
   refine CM_region ?_
   refine wm ?_
   refine wv (fun W hm => rv_addN (p := k6) (q := 1) rfl rfl (by omega)) ?_
   refine wa ?_
   refine WM_nil ?_
   refine QM_items (fun W hm => Mem.unfocus0 (Mem.join (is := []) (js := (iFoc tyGroup 117 (some ⟨g12, 0, none⟩) x0.length c2 x0 k6 [.int .i64 ((gt x0 k6).Query), .int .i64 ((gt x0 k6).Value), .int .i64 ((gt x0 k6).Count), .int .i64 ((gt x0 k6).Sum)] :: (is))) (fun _ _ hs => tyGroup_join (x := (gt x0 k6)) hs) (hm.front (n := 0) rfl))) ?_
   have hn19 := rng_next (R := (List DGroup)) (body := (fun k (_ : Unit) => spec_l14Put_b1 x0 x1 x2 x3 k)) (k := k6) (s := ()) (s' := ()) (show k6 < x0.length from by omega) (show spec_l14Put_b1 x0 x1 x2 x3 k6 = Sum.inr () from by unfold spec_l14Put_b1; exact cond_f g15 (rfl)) hF8
   exact QM_round (k6 + 1, (), ()) (subL_cons rfl (subL_cons rfl (subL_cons rfl (subL_cons rfl (subL_cons rfl subL_nil))))) (fun W hm => hm) ⟨(by omega), hn19⟩ (show x0.length - (k6 + 1) < x0.length - k6 from by omega)
 ·have g11 : (decide (((k6 : Nat) : Int) < ((x0.length : Nat) : Int))) = false := decide_eq_false (by omega)
  refine CM_condF rfl g11 ?_
  refine CM_exit ?_
  refine QM_then_exit ?_
  refine QM_then_exit ?_
  have hE20 : rng (R := (List DGroup)) (fun k (_ : Unit) => spec_l14Put_b1 x0 x1 x2 x3 k) (x0.length - 0) 0 () = Sum.inr () := rng_end hl10 hF8
  refine QM_block_hit ?_
  refine QM_then ?_
  refine sr ?_
  refine wa ?_
  refine nt' ?_
  refine CM_seq ?_
  refine CM_cut (σ := (Nat) × (Unit)) (fun s => [(0, .slice A1 x0.length c2), (1, .int .i64 x1), (2, .int .i64 x2), (3, .int .i64 x3), (10, .int .i64 ((s.1 : Nat) : Int))]) (fun s => (iOwn (tSl tyGroup 117) [.slice A1 x0.length c2] x0 :: is)) (fun s => rngb (R := (List DGroup)) (fun k (s : Nat) => spec_l14Put_b2 x0 x1 x2 k s) (x0.length + 1 - 0) 0 0 = Sum.inr s.1 ∧ s.1 ≤ x0.length) ?_ ?_
  ·
   refine CM_block ?_
   refine CM_loop (σ := Nat × (Nat) × (Unit)) (fun s => [(0, .slice A1 x0.length c2), (1, .int .i64 x1), (2, .int .i64 x2), (3, .int .i64 x3), (10, .int .i64 ((s.2.1 : Nat) : Int))]) (fun s => (iOwn (tSl tyGroup 117) [.slice A1 x0.length c2] x0 :: is)) (fun s => s.1 + (x0.length - s.2.1) + 1 ≤ x0.length + 1 ∧ rngb (R := (List DGroup)) (fun k (s : Nat) => spec_l14Put_b2 x0 x1 x2 k s) (x0.length + 1 - s.1) s.1 s.2.1 = rngb (R := (List DGroup)) (fun k (s : Nat) => spec_l14Put_b2 x0 x1 x2 k s) (x0.length + 1 - 0) 0 0 ∧ s.2.1 ≤ x0.length) (fun s => x0.length + 1 - s.1) (0, 0, ()) (subL_cons rfl (subL_cons rfl (subL_cons rfl (subL_cons rfl (subL_cons rfl subL_nil))))) (fun W hm => hm) ⟨(show 0 + (x0.length - 0) + 1 ≤ x0.length + 1 from by omega), rfl, (show 0 ≤ x0.length from by omega)⟩ ?_
   rintro ⟨k21, s22, ⟨⟩⟩ H25
   obtain ⟨hk23, hF24, hi26⟩ : k21 + (x0.length - s22) + 1 ≤ x0.length + 1 ∧ rngb (R := (List DGroup)) (fun k (s : Nat) => spec_l14Put_b2 x0 x1 x2 k s) (x0.length + 1 - k21) k21 s22 = rngb (R := (List DGroup)) (fun k (s : Nat) => spec_l14Put_b2 x0 x1 x2 k s) (x0.length + 1 - 0) 0 0 ∧ s22 ≤ x0.length := H25
   show CM Try.prog 106 _ _ _ _ [(0, .slice A1 x0.length c2), (1, .int .i64 x1), (2, .int .i64 x2), (3, .int .i64 x3), (10, .int .i64 ((s22 : Nat) : Int))] (iOwn (tSl tyGroup 117) [.slice A1 x0.length c2] x0 :: is)
   refine CM_seq ?_
   refine sr ?_
   refine wm ?_
   refine wm ?_
   refine wv (fun W hm => rv_len Try.underlying54 rfl) ?_
   refine wv (fun W hm => rv_lss rfl rfl) ?_
   refine wm ?_
   by_cases h27 : ((s22 : Nat) : Int) < ((x0.length : Nat) : Int)
   ·have g28 : (decide (((s22 : Nat) : Int) < ((x0.length : Nat) : Int))) = true := decide_eq_true h27
    refine wg (fun W hm => rv_move rfl) g28 ?_
    refine wg (fun W hm => rv_move rfl) g28 ?_
    refine WM_formO (n := 0) rfl (by omega) ?_
    rintro g29 rfl
    refine wg (fun W hm => rv_index (sz := 4) (k := s22) Try.underlying54 Try.type117 rfl rfl rfl (by omega)) g28 ?_
    refine wg (fun W hm => rv_field Try.underlying117 rfl Try.type3 (by decide) rfl rfl) g28 ?_
    refine WM_focus (E := tyGroup) (e := 117) (A := (some ⟨g29, 0, none⟩)) (n := x0.length) (c := c2) (xs := x0) (k := s22) (js := (is)) (by omega) (fun W hm => (hm.front (n := 0) rfl)) (fun ck30 => ?_)
    refine WM_split (γ := Unit) (js := fun _ => []) (C := fun _ => ck30 = [.int .i64 ((gt x0 s22).Query), .int .i64 ((gt x0 s22).Value), .int .i64 ((gt x0 s22).Count), .int .i64 ((gt x0 s22).Sum)]) (fun _ _ h => tyGroup_split h) ?_
    rintro ⟨⟩ rfl
    refine wg (fun W hm => rv_load Try.underlying3 rfl rfl (hm.focCells (i := 0) rfl rfl 0 _ rfl)) g28 ?_
    refine wg (fun W hm => rv_move rfl) g28 ?_
    refine wg (fun W hm => rv_lss rfl rfl) g28 ?_
    refine wg (fun W hm => rv_move rfl) g28 ?_
    by_cases h31 : ((gt x0 s22).Query) < x1
    ·have g32 : (decide (((gt x0 s22).Query) < x1)) = true := decide_eq_true h31
     refine ws g32 ?_
     refine ws g32 ?_
     refine ws g32 ?_
     refine ws g32 ?_
     refine ws g32 ?_
     refine ws g32 ?_
     refine ws g32 ?_
     refine ws g32 ?_
     refine wu ?_
     refine wu ?_
     refine wu ?_
     refine wu ?_
     refine wu ?_
     refine wu ?_
     refine wu ?_
     refine ws g32 ?_
     refine wg (fun W hm => rv_pickT rfl g32 rfl) g28 ?_
     refine wv (fun W hm => rv_pickT rfl g28 rfl) ?_
     refine nt' ?_
     refine CM_condT rfl rfl ?_
     refine CM_skip ?_
     refine QM_then ?_
     refine CM_block ?_
     refine CM_region ?_
     refine wm ?_
     refine wv (fun W hm => rv_addN (p := s22) (q := 1) rfl rfl (by omega)) ?_
     refine wa ?_
     refine WM_nil ?_
     refine QM_block_normal ?_
     refine QM_items (fun W hm => Mem.unfocus0 (Mem.join (is := []) (js := (iFoc tyGroup 117 (some ⟨g29, 0, none⟩) x0.length c2 x0 s22 [.int .i64 ((gt x0 s22).Query), .int .i64 ((gt x0 s22).Value), .int .i64 ((gt x0 s22).Count), .int .i64 ((gt x0 s22).Sum)] :: (is))) (fun _ _ hs => tyGroup_join (x := (gt x0 s22)) hs) (hm.front (n := 0) rfl))) ?_
     have hn33 := rngb_next (R := (List DGroup)) (body := (fun k (s : Nat) => spec_l14Put_b2 x0 x1 x2 k s)) (k := k21) (s := s22) (s' := s22 + 1) (show k21 < x0.length + 1 from by omega) (show spec_l14Put_b2 x0 x1 x2 k21 s22 = Sum.inr (Sum.inr (s22 + 1)) from by unfold spec_l14Put_b2; exact cond_t g28 (cond_t g32 (rfl))) hF24
     exact QM_round (k21 + 1, s22 + 1, ()) (subL_cons rfl (subL_cons rfl (subL_cons rfl (subL_cons rfl (subL_cons rfl subL_nil))))) (fun W hm => hm) ⟨(show (k21 + 1) + (x0.length - (s22 + 1)) + 1 ≤ x0.length + 1 from by omega), hn33, (show (s22 + 1) ≤ x0.length from by first | omega | (simp only [List.length_append, List.length_cons, List.length_nil] at *; omega))⟩ (show x0.length + 1 - (k21 + 1) < x0.length + 1 - k21 from by omega)
    ·have g32 : (decide (((gt x0 s22).Query) < x1)) = false := decide_eq_false h31
     refine wg (fun W hm => rv_move rfl) g32 ?_
     refine wg (fun W hm => rv_move rfl) g32 ?_
     refine wg (fun W hm => rv_index (sz := 4) (k := s22) Try.underlying54 Try.type117 rfl rfl rfl (by omega)) g32 ?_
     refine wg (fun W hm => rv_field Try.underlying117 rfl Try.type3 (by decide) rfl rfl) g32 ?_
     refine wg (fun W hm => rv_load Try.underlying3 rfl rfl (hm.focCells (i := 0) rfl rfl 0 _ rfl)) g32 ?_
     refine wg (fun W hm => rv_move rfl) g32 ?_
     refine wg (fun W hm => rv_eql rfl rfl) g32 ?_
     refine wg (fun W hm => rv_move rfl) g32 ?_
     by_cases h34 : ((gt x0 s22).Query) = x1
     ·have g35 : (((gt x0 s22).Query) == x1) = true := beq_iff_eq.2 h34
      refine wg (fun W hm => rv_move rfl) g35 ?_
      refine wg (fun W hm => rv_move rfl) g35 ?_
      refine wg (fun W hm => rv_index (sz := 4) (k := s22) Try.underlying54 Try.type117 rfl rfl rfl (by omega)) g35 ?_
      refine wg (fun W hm => rv_field Try.underlying117 rfl Try.type3 (by decide) rfl rfl) g35 ?_
      refine wg (fun W hm => rv_load Try.underlying3 rfl rfl (hm.focCells (i := 0) rfl rfl 1 _ rfl)) g35 ?_
      refine wg (fun W hm => rv_move rfl) g35 ?_
      refine wg (fun W hm => rv_lss rfl rfl) g35 ?_
      refine wg (fun W hm => rv_pickT rfl g35 rfl) g32 ?_
      refine wg (fun W hm => rv_pickF rfl g32 rfl) g28 ?_
      refine wv (fun W hm => rv_pickT rfl g28 rfl) ?_
      refine nt' ?_
      by_cases h36 : ((gt x0 s22).Value) < x2
      ·have g37 : (decide (((gt x0 s22).Value) < x2)) = true := decide_eq_true h36
       refine CM_condT rfl g37 ?_
       refine CM_skip ?_
       refine QM_then ?_
       refine CM_block ?_
       refine CM_region ?_
       refine wm ?_
       refine wv (fun W hm => rv_addN (p := s22) (q := 1) rfl rfl (by omega)) ?_
       refine wa ?_
       refine WM_nil ?_
       refine QM_block_normal ?_
       refine QM_items (fun W hm => Mem.unfocus0 (Mem.join (is := []) (js := (iFoc tyGroup 117 (some ⟨g29, 0, none⟩) x0.length c2 x0 s22 [.int .i64 ((gt x0 s22).Query), .int .i64 ((gt x0 s22).Value), .int .i64 ((gt x0 s22).Count), .int .i64 ((gt x0 s22).Sum)] :: (is))) (fun _ _ hs => tyGroup_join (x := (gt x0 s22)) hs) (hm.front (n := 0) rfl))) ?_
       have hn38 := rngb_next (R := (List DGroup)) (body := (fun k (s : Nat) => spec_l14Put_b2 x0 x1 x2 k s)) (k := k21) (s := s22) (s' := s22 + 1) (show k21 < x0.length + 1 from by omega) (show spec_l14Put_b2 x0 x1 x2 k21 s22 = Sum.inr (Sum.inr (s22 + 1)) from by unfold spec_l14Put_b2; exact cond_t g28 (cond_f g32 (cond_t g35 (cond_t g37 (rfl))))) hF24
       exact QM_round (k21 + 1, s22 + 1, ()) (subL_cons rfl (subL_cons rfl (subL_cons rfl (subL_cons rfl (subL_cons rfl subL_nil))))) (fun W hm => hm) ⟨(show (k21 + 1) + (x0.length - (s22 + 1)) + 1 ≤ x0.length + 1 from by omega), hn38, (show (s22 + 1) ≤ x0.length from by first | omega | (simp only [List.length_append, List.length_cons, List.length_nil] at *; omega))⟩ (show x0.length + 1 - (k21 + 1) < x0.length + 1 - k21 from by omega)
      ·have g37 : (decide (((gt x0 s22).Value) < x2)) = false := decide_eq_false h36
       refine CM_condF rfl g37 ?_
       refine CM_exit ?_
       refine QM_then_exit ?_
       refine QM_then_exit ?_
       refine QM_block_hit ?_
       refine QM_items (fun W hm => Mem.unfocus0 (Mem.join (is := []) (js := (iFoc tyGroup 117 (some ⟨g29, 0, none⟩) x0.length c2 x0 s22 [.int .i64 ((gt x0 s22).Query), .int .i64 ((gt x0 s22).Value), .int .i64 ((gt x0 s22).Count), .int .i64 ((gt x0 s22).Sum)] :: (is))) (fun _ _ hs => tyGroup_join (x := (gt x0 s22)) hs) (hm.front (n := 0) rfl))) ?_
       have hE39 := rngb_brk (R := (List DGroup)) (body := (fun k (s : Nat) => spec_l14Put_b2 x0 x1 x2 k s)) (k := k21) (s := s22) (s' := s22) (show k21 < x0.length + 1 from by omega) (show spec_l14Put_b2 x0 x1 x2 k21 s22 = Sum.inr (Sum.inl s22) from by unfold spec_l14Put_b2; exact cond_t g28 (cond_f g32 (cond_t g35 (cond_f g37 (rfl))))) hF24
       exact QM_cut_normal (s22, ()) (subL_cons rfl (subL_cons rfl (subL_cons rfl (subL_cons rfl (subL_cons rfl subL_nil))))) (fun W hm => hm) ⟨hE39, (show s22 ≤ x0.length from by first | omega | (simp only [List.length_append, List.length_cons, List.length_nil] at *; omega))⟩
     ·have g35 : (((gt x0 s22).Query) == x1) = false := beq_eq_false_iff_ne.2 h34
      refine ws g35 ?_
      refine ws g35 ?_
      refine ws g35 ?_
      refine ws g35 ?_
      refine ws g35 ?_
      refine ws g35 ?_
      refine ws g35 ?_
      refine wg (fun W hm => rv_pickF rfl g35 rfl) g32 ?_
      refine wg (fun W hm => rv_pickF rfl g32 rfl) g28 ?_
      refine wv (fun W hm => rv_pickT rfl g28 rfl) ?_
      refine nt' ?_
      refine CM_condF rfl rfl ?_
      refine CM_exit ?_
      refine QM_then_exit ?_
      refine QM_then_exit ?_
      refine QM_block_hit ?_
      refine QM_items (fun W hm => Mem.unfocus0 (Mem.join (is := []) (js := (iFoc tyGroup 117 (some ⟨g29, 0, none⟩) x0.length c2 x0 s22 [.int .i64 ((gt x0 s22).Query), .int .i64 ((gt x0 s22).Value), .int .i64 ((gt x0 s22).Count), .int .i64 ((gt x0 s22).Sum)] :: (is))) (fun _ _ hs => tyGroup_join (x := (gt x0 s22)) hs) (hm.front (n := 0) rfl))) ?_
      have hE40 := rngb_brk (R := (List DGroup)) (body := (fun k (s : Nat) => spec_l14Put_b2 x0 x1 x2 k s)) (k := k21) (s := s22) (s' := s22) (show k21 < x0.length + 1 from by omega) (show spec_l14Put_b2 x0 x1 x2 k21 s22 = Sum.inr (Sum.inl s22) from by unfold spec_l14Put_b2; exact cond_t g28 (cond_f g32 (cond_f g35 (rfl)))) hF24
      exact QM_cut_normal (s22, ()) (subL_cons rfl (subL_cons rfl (subL_cons rfl (subL_cons rfl (subL_cons rfl subL_nil))))) (fun W hm => hm) ⟨hE40, (show s22 ≤ x0.length from by first | omega | (simp only [List.length_append, List.length_cons, List.length_nil] at *; omega))⟩
   ·have g28 : (decide (((s22 : Nat) : Int) < ((x0.length : Nat) : Int))) = false := decide_eq_false h27
    refine ws g28 ?_
    refine ws g28 ?_
    refine ws g28 ?_
    refine ws g28 ?_
    refine ws g28 ?_
    refine ws g28 ?_
    refine ws g28 ?_
    refine ws g28 ?_
    refine wu ?_
    refine wu ?_
    refine wu ?_
    refine wu ?_
    refine wu ?_
    refine wu ?_
    refine wu ?_
    refine wu ?_
    refine wu ?_
    refine wu ?_
    refine wu ?_
    refine wu ?_
    refine wu ?_
    refine wu ?_
    refine wu ?_
    refine wu ?_
    refine ws g28 ?_
    refine wv (fun W hm => rv_pickF rfl g28 rfl) ?_
    refine nt' ?_
    refine CM_condF rfl rfl ?_
    refine CM_exit ?_
    refine QM_then_exit ?_
    refine QM_then_exit ?_
    refine QM_block_hit ?_
    have hE41 := rngb_brk (R := (List DGroup)) (body := (fun k (s : Nat) => spec_l14Put_b2 x0 x1 x2 k s)) (k := k21) (s := s22) (s' := s22) (show k21 < x0.length + 1 from by omega) (show spec_l14Put_b2 x0 x1 x2 k21 s22 = Sum.inr (Sum.inl s22) from by unfold spec_l14Put_b2; exact cond_f g28 (rfl)) hF24
    exact QM_cut_normal (s22, ()) (subL_cons rfl (subL_cons rfl (subL_cons rfl (subL_cons rfl (subL_cons rfl subL_nil))))) (fun W hm => hm) ⟨hE41, (show s22 ≤ x0.length from by first | omega | (simp only [List.length_append, List.length_cons, List.length_nil] at *; omega))⟩
  ·
   rintro ⟨s22, ⟨⟩⟩ H43
   obtain ⟨hE42, hx44⟩ : rngb (R := (List DGroup)) (fun k (s : Nat) => spec_l14Put_b2 x0 x1 x2 k s) (x0.length + 1 - 0) 0 0 = Sum.inr s22 ∧ s22 ≤ x0.length := H43
   show QM 106 _ _ _ .normal [(0, .slice A1 x0.length c2), (1, .int .i64 x1), (2, .int .i64 x2), (3, .int .i64 x3), (10, .int .i64 ((s22 : Nat) : Int))] (iOwn (tSl tyGroup 117) [.slice A1 x0.length c2] x0 :: is)
   refine QM_then ?_
   refine sr ?_
   refine WM_build0 (E := tyGroup) Try.underlying54 Try.type117 (Wd_none rfl) (by decide) (fun p45 => ?_)
   refine wm ?_
   refine wm ?_
   refine wv (fun W hm => rv_sliceHi (k := s22) Try.underlying54 Try.type117 rfl rfl (by have := rdS_cap (hm.rdSI (n := 1) rfl); omega)) ?_
   refine WM_appendR (F := tyGroup) (E := tyGroup) (e := 117) (v := .slice (some ⟨p45, 0, none⟩) 0 0) (xs := []) (ys := (List.take s22 x0)) (js := (iOwn (tSl tyGroup 117) [.slice A1 x0.length c2] x0 :: is)) (fun W hm => (hm.front (n := 0) rfl)) (fun W hm => src_flat (flat_map (flat_pair flat_int (flat_pair flat_int (flat_pair flat_int flat_int)))) (rdS_take (k := s22) (by omega) (hm.rdSI (n := 1) rfl))) Try.underlying54 Try.type117 rfl rfl rfl (Nat.le_of_ble_eq_true rfl) rfl rfl (show ([].length + (List.take s22 x0).length) * 32 ≤ 140737488355328 from by first | omega | (simp only [List.length_append, List.length_cons, List.length_nil, List.length_take, List.length_drop] at *; omega)) (show [].length + (List.take s22 x0).length ≤ 9223372036854775807 from by first | omega | (simp only [List.length_append, List.length_cons, List.length_nil, List.length_take, List.length_drop] at *; omega)) (Wd_none rfl) (by decide) (fun v47 => ?_)
   refine WM_form (n := 0) rfl ?_
   rintro A48 c49 rfl m50
   refine wa ?_
   refine nt' ?_
   refine sr ?_
   refine wm ?_
   refine wm ?_
   refine wm ?_
   refine wm ?_
   refine wv (fun W hm => rv_build (cs := [.int .i64 x1, .int .i64 x2, .int .i64 1, .int .i64 x3]) rfl (by kernel_rfl)) ?_
   refine WM_build (cs := [.int .i64 x1, .int .i64 x2, .int .i64 1, .int .i64 x3]) Try.underlying54 Try.type117 rfl (by decide) (by decide) rfl (by kernel_rfl) (Wd_none rfl) (by decide) (fun p52 => ?_)
   refine WM_append (E := tyGroup) (e := 117) (v := .slice A48 (List.take s22 x0).length c49) (p := p52) (q := 1) (xs := (List.take s22 x0)) (ys := [(⟨x1, x2, 1, x3⟩ : DGroup)]) (eis := []) (js := (iOwn (tSl tyGroup 117) [.slice A1 x0.length c2] x0 :: is)) (news := [.int .i64 x1, .int .i64 x2, .int .i64 1, .int .i64 x3]) (fun W hm => ((hm.front (n := 1) rfl).front (n := 1) rfl)) (fun _ _ hs => by cases (Sep.nil hs); exact (els_cons (tyGroup_join (x := (⟨x1, x2, 1, x3⟩ : DGroup)) (L := []) rfl) els_nil)) Try.underlying54 Try.type117 rfl rfl rfl (Nat.le_of_ble_eq_true rfl) rfl rfl rfl (show ((List.take s22 x0).length + 1) * 32 ≤ 140737488355328 from by first | omega | (simp only [List.length_append, List.length_cons, List.length_nil, List.length_take, List.length_drop] at *; omega)) (show (List.take s22 x0).length + 1 ≤ 9223372036854775807 from by first | omega | (simp only [List.length_append, List.length_cons, List.length_nil, List.length_take, List.length_drop] at *; omega)) (Wd_none rfl) (by decide) (fun v53 => ?_)
   refine WM_form (n := 0) rfl ?_
   rintro A54 c55 rfl m56
   refine wa ?_
   refine nt' ?_
   refine sr ?_
   refine wm ?_
   refine wm ?_
   refine wm ?_
   refine wv (fun W hm => rv_sliceLo (k := s22) (s := 4) Try.underlying54 Try.type117 rfl rfl rfl (by omega)) ?_
   refine WM_appendR (F := tyGroup) (E := tyGroup) (e := 117) (v := .slice A54 ((List.take s22 x0) ++ [(⟨x1, x2, 1, x3⟩ : DGroup)]).length c55) (xs := ((List.take s22 x0) ++ [(⟨x1, x2, 1, x3⟩ : DGroup)])) (ys := (List.drop s22 x0)) (js := (iOwn (tSl tyGroup 117) [.slice A1 x0.length c2] x0 :: is)) (fun W hm => (hm.front (n := 0) rfl)) (fun W hm => src_flat (flat_map (flat_pair flat_int (flat_pair flat_int (flat_pair flat_int flat_int)))) (rdS_drop (k := s22) (by omega) (hm.rdSI (n := 1) rfl))) Try.underlying54 Try.type117 rfl rfl rfl (Nat.le_of_ble_eq_true rfl) rfl rfl (show (((List.take s22 x0) ++ [(⟨x1, x2, 1, x3⟩ : DGroup)]).length + (List.drop s22 x0).length) * 32 ≤ 140737488355328 from by first | omega | (simp only [List.length_append, List.length_cons, List.length_nil, List.length_take, List.length_drop] at *; omega)) (show ((List.take s22 x0) ++ [(⟨x1, x2, 1, x3⟩ : DGroup)]).length + (List.drop s22 x0).length ≤ 9223372036854775807 from by first | omega | (simp only [List.length_append, List.length_cons, List.length_nil, List.length_take, List.length_drop] at *; omega)) (Wd_none rfl) (by decide) (fun v58 => ?_)
   refine WM_form (n := 0) rfl ?_
   rintro A59 c60 rfl m61
   refine wa ?_
   refine nt' ?_
   refine CM_ret ?_
   refine QM_r1 rfl (RR_tmp rfl) (fun W hm => ⟨.slice A59 (((List.take s22 x0) ++ [(⟨x1, x2, 1, x3⟩ : DGroup)]) ++ (List.drop s22 x0)).length c60, ?_, ?_⟩)
   ·first | rw [(show spec_l14Put_m x0 x1 x2 x3 = (((List.take s22 x0) ++ [(⟨x1, x2, 1, x3⟩ : DGroup)]) ++ (List.drop s22 x0)) from by unfold spec_l14Put_m; exact fin_inr hE20 (fin_inr hE42 (rfl)))] | rfl
   ·rw [(show spec_l14Put_m x0 x1 x2 x3 = (((List.take s22 x0) ++ [(⟨x1, x2, 1, x3⟩ : DGroup)]) ++ (List.drop s22 x0)) from by unfold spec_l14Put_m; exact fin_inr hE20 (fin_inr hE42 (rfl)))]; exact ((hm.front (n := 0) rfl).front (n := 1) rfl).tail

theorem spec_IsRow_len {r : DRow} (h : spec_IsRow_m r = true) : r.Values.length = 3 := by
  unfold spec_IsRow_m at h
  rw [rng_allN (p := fun k => spec_l1In_m (gt r.Values k) 0 99) (r := false) (fun k _ => by
    unfold spec_IsRow_b1
    cases spec_l1In_m (gt r.Values k) 0 99 <;> rfl)] at h
  by_cases h1 : r.Values.length = 3
  · exact h1
  · rw [beq_eq_false_iff_ne.2 (show ¬ ((r.Values.length : Nat) : Int) = 3 by omega)] at h
    revert h
    cases (List.range r.Values.length).all (fun k => spec_l1In_m (gt r.Values k) 0 99) <;> cases spec_l1In_m r.Id 0 999 <;> intro h <;> cases h
theorem spec_Fine_fact {x y : Int} (h : spec_l14Fine_m x y = true) : (0 ≤ x ∧ x ≤ 2) ∧ (0 ≤ y ∧ y ≤ 2) := by
  unfold spec_l14Fine_m at h
  cases h1 : spec_l1In_m x 0 2 with
  | false => rw [h1] at h; cases h
  | true => rw [h1] at h; exact ⟨spec_l1In_fact h1, spec_l1In_fact h⟩
theorem spec_Put_len (l : List DGroup) (i v n : Int) : (spec_l14Put_m l i v n).length ≤ l.length + 1 := by
  unfold spec_l14Put_m
  rcases rng_find (P := fun r : List DGroup => r.length = l.length) (n := l.length) (b := fun k (_ : Unit) => spec_l14Put_b1 l i v n k) (fun j _ => by
    show (∃ r, spec_l14Put_b1 l i v n j = .inl r ∧ _) ∨ spec_l14Put_b1 l i v n j = .inr ()
    unfold spec_l14Put_b1
    cases (gt l j).Query == i <;> cases (gt l j).Value == v <;> first | exact .inr rfl | exact .inl ⟨_, rfl, List.length_set⟩) (l.length - 0) 0 (by omega) with ⟨r, h1, h2⟩ | h1
  · rw [h1]; show r.length ≤ _; omega
  · rw [h1]
    obtain ⟨s, h2⟩ := rngb_inr (R := List DGroup) (b := fun k (s : Nat) => spec_l14Put_b2 l i v k s) (fun j s => by
      unfold spec_l14Put_b2
      cases decide (((s : Nat) : Int) < ((l.length : Nat) : Int)) <;> cases decide ((gt l s).Query < i) <;> cases (gt l s).Query == i <;> cases decide ((gt l s).Value < v) <;> exact ⟨_, rfl⟩) (l.length + 1 - 0) 0 0
    rw [h2]
    show ((List.take s l ++ [_]) ++ List.drop s l).length ≤ _
    simp only [List.length_append, List.length_take, List.length_drop, List.length_cons, List.length_nil]
    omega
def spec_GroupAlone_b1 (x0 : Int) (x1 : (List DRow)) (x2 : Int) (x3 : Int) (k9 : Nat) (d10 : (List DGroup)) : (List DGroup) ⊕ (((List DGroup)) ⊕ ((List DGroup))) :=
 cond (spec_l14Fine_m x2 x3) (cond (spec_IsRow_m (gt x1 k9)) (Sum.inr (Sum.inr (spec_l14Put_m d10 x0 (gt ((gt x1 k9).Values) (x2.toNat)) (gt ((gt x1 k9).Values) (x3.toNat))))) (Sum.inr (Sum.inr d10))) (Sum.inr (Sum.inl d10))
def spec_GroupAlone_m (x0 : Int) (x1 : (List DRow)) (x2 : Int) (x3 : Int) : (List DGroup) :=
 Sum.elim id (fun (s : (List DGroup)) => s) (rngb (R := (List DGroup)) (fun k (s : (List DGroup)) => spec_GroupAlone_b1 x0 x1 x2 x3 k s) (x1.length - 0) 0 [])
set_option maxRecDepth 100000 in
theorem cb34 : Cb Try.prog 34 := ⟨Try.f34, _, Try.func34, rfl, by decide⟩
set_option maxRecDepth 10000 in
set_option maxHeartbeats 4000000 in
theorem spec_GroupAlone_c (w : World) (x0 : Int) (z1 : Value) (x1 : (List DRow)) (x2 : Int) (x3 : Int) (r_1 : rdS tyRow w w.heap.size z1 x1) (s_1 : (x1.length ≤ 68719476736 ∧ ∀ y ∈ x1, smRow 68719476736 y)) :
  Calls Try.prog 34 #[.int .i64 x0, z1, .int .i64 x2, .int .i64 x3] w fun e w' => ∃ v : Value, e = .returned (v) ∧ Mem w.heap.size w [iOwn (tSl tyGroup 117) [v] (spec_GroupAlone_m x0 x1 x2 x3)] w' := by
 have r5 := r_1
 obtain ⟨m1, A2, c3, rfl, q4⟩ := r_1
 have l6 : x1.length ≤ 68719476736 := s_1.1
 refine call_enterM (L := [(0, .int .i64 x0), (1, .slice A2 x1.length c3), (2, .int .i64 x2), (3, .int .i64 x3)]) (N := 48) Try.func34 rfl rfl (Nat.le_of_ble_eq_true rfl) (argsL_cons rfl (argsL_cons rfl (argsL_cons rfl (argsL_cons rfl argsL_nil)))) ?_
 refine sr ?_
 refine wa ?_
 refine nt' ?_
 refine sr ?_
 refine WM_build0 (E := tyGroup) Try.underlying54 Try.type117 (Wd_none rfl) (by decide) (fun p7 => ?_)
 refine wa ?_
 refine nt' ?_
 refine CM_seq ?_
 refine sr ?_
 refine wa ?_
 refine nt' ?_
 refine CM_cut (σ := ((List DGroup)) × (Option Addr × Nat)) (fun s => [(9, .slice s.2.1 s.1.length s.2.2)]) (fun s => [iOwn (tSl tyGroup 117) [.slice s.2.1 s.1.length s.2.2] s.1]) (fun s => rngb (R := (List DGroup)) (fun k (s : (List DGroup)) => spec_GroupAlone_b1 x0 x1 x2 x3 k s) (x1.length - 0) 0 [] = Sum.inr s.1) ?_ ?_
 ·
  refine CM_block ?_
  refine CM_loop (σ := Nat × ((List DGroup)) × (Option Addr × Nat)) (fun s => [(0, .int .i64 x0), (1, .slice A2 x1.length c3), (2, .int .i64 x2), (3, .int .i64 x3), (9, .slice s.2.2.1 s.2.1.length s.2.2.2), (10, .int .i64 ((s.1 : Nat) : Int))]) (fun s => [iOwn (tSl tyGroup 117) [.slice s.2.2.1 s.2.1.length s.2.2.2] s.2.1]) (fun s => s.1 ≤ x1.length ∧ rngb (R := (List DGroup)) (fun k (s : (List DGroup)) => spec_GroupAlone_b1 x0 x1 x2 x3 k s) (x1.length - s.1) s.1 s.2.1 = rngb (R := (List DGroup)) (fun k (s : (List DGroup)) => spec_GroupAlone_b1 x0 x1 x2 x3 k s) (x1.length - 0) 0 [] ∧ s.2.1.length ≤ 0 + s.1) (fun s => x1.length - s.1) (0, [], ((some ⟨p7, 0, none⟩), 0)) (subL_cons rfl (subL_cons rfl (subL_cons rfl (subL_cons rfl (subL_cons rfl (subL_cons rfl subL_nil)))))) (fun W hm => hm) ⟨(by omega), rfl, Nat.le_refl _⟩ ?_
  rintro ⟨k9, d10, ⟨A11, c12⟩⟩ H15
  obtain ⟨hk13, hF14, hi16⟩ : k9 ≤ x1.length ∧ rngb (R := (List DGroup)) (fun k (s : (List DGroup)) => spec_GroupAlone_b1 x0 x1 x2 x3 k s) (x1.length - k9) k9 d10 = rngb (R := (List DGroup)) (fun k (s : (List DGroup)) => spec_GroupAlone_b1 x0 x1 x2 x3 k s) (x1.length - 0) 0 [] ∧ d10.length ≤ 0 + k9 := H15
  show CM Try.prog 48 _ _ _ _ [(0, .int .i64 x0), (1, .slice A2 x1.length c3), (2, .int .i64 x2), (3, .int .i64 x3), (9, .slice A11 d10.length c12), (10, .int .i64 ((k9 : Nat) : Int))] [iOwn (tSl tyGroup 117) [.slice A11 d10.length c12] d10]
  refine CM_seq ?_
  refine sr ?_
  refine wm ?_
  refine wm ?_
  refine wv (fun W hm => rv_len Try.underlying24 rfl) ?_
  refine wv (fun W hm => rv_lss rfl rfl) ?_
  refine wm ?_
  by_cases hl17 : k9 < x1.length
  ·have g18 : (decide (((k9 : Nat) : Int) < ((x1.length : Nat) : Int))) = true := decide_eq_true (by omega)
   refine wg (fun W hm => rv_move rfl) g18 ?_
   refine wg (fun W hm => rv_move rfl) g18 ?_
   refine WM_callV (cl_fn cb80 rfl) (fun W hm => spec_l14Fine_c W x2 x3) (Wd_some rfl rfl rfl (bw g18 rfl)) (by decide) ?_
   refine wv (fun W hm => rv_pickT rfl g18 rfl) ?_
   refine nt' ?_
   rcases Bool.eq_false_or_eq_true (spec_l14Fine_m x2 x3) with g20 | g20
   ·
    have hfi := spec_Fine_fact g20
    refine CM_condT rfl g20 ?_
    refine CM_skip ?_
    refine QM_then ?_
    refine CM_seq ?_
    refine CM_block ?_
    refine sr ?_
    refine wm ?_
    refine wm ?_
    obtain ⟨a21, rfl, hb22, he23⟩ := q4 (by omega)
    refine wv (fun W hm => rv_index (sz := 2) (k := k9) Try.underlying24 Try.type69 rfl rfl rfl (by omega)) ?_
    obtain ⟨_, e27, hc24⟩ := he23 k9 _ (gt_some (show k9 < x1.length from by omega))
    obtain ⟨v25, rfl, r26⟩ := tyRow_rd e27
    have l28 : ((gt x1 k9).Values).length ≤ 68719476736 := (s_1.2 _ (gt_mem (show k9 < x1.length from by omega)))
    have r33 := r26
    obtain ⟨m29, A30, c31, rfl, q32⟩ := r26
    refine wv (fun W hm => rv_loadN (cs := [.int .i64 ((gt x1 k9).Id), .slice A30 ((gt x1 k9).Values).length c31]) Try.underlying69 Try.type69 rfl rfl (hm.elCells (show (a21.add (k9 * 2)).block < w.heap.size from by rw [add_block]; exact hb22.1) hc24)) ?_
    refine WM_callV (cl_fn cb81 rfl) (fun W hm => spec_IsRow_c W _ (gt x1 k9) (tyRow_mk (x := (gt x1 k9)) (hm.rdS0 r33))) (Wd_none rfl) (by decide) ?_
    refine nt' ?_
    rcases Bool.eq_false_or_eq_true (spec_IsRow_m (gt x1 k9)) with g35 | g35
    ·
     have hlr := spec_IsRow_len g35
     refine CM_condT rfl g35 ?_
     refine rb 20 (s := []) (fun W hm => (hm.pick [] (by decide))) ?_
     refine qt 20 0 1 rfl (fun W hm => rv_move rfl) ?_
     refine qt 20 1 3 rfl (fun W hm => rv_move rfl) ?_
     refine qt 20 2 7 rfl (fun W hm => rv_move rfl) ?_
     refine qt 20 3 15 rfl (fun W hm => rv_move rfl) ?_
     refine qt 20 4 31 rfl (fun W hm => rv_index (sz := 2) (k := k9) Try.underlying24 Try.type69 rfl rfl rfl (by omega)) ?_
     refine qt 20 5 63 rfl (fun W hm => rv_field Try.underlying69 rfl Try.type33 (by decide) rfl rfl) ?_
     refine qt 20 6 127 rfl (fun W hm => rv_load Try.underlying33 rfl rfl ((hm.cell0 (show ((a21.add (k9 * 2)).add 1).block < w.heap.size from by rw [add_block, add_block]; exact hb22.1)).trans (hc24 1 _ rfl))) ?_
     refine qt 20 7 255 rfl (fun W hm => rv_move rfl) ?_
     obtain ⟨a36, rfl, hb37, he38⟩ := q32 (by omega)
     refine qt 20 8 511 rfl (fun W hm => rv_indexI (sz := 1) (k := x2) Try.underlying33 Try.type3 rfl rfl rfl (by omega) (by omega)) ?_
     refine qt 20 9 1023 rfl (fun W hm => rv_load Try.underlying3 rfl rfl ((hm.cell0 (show (a36.add ((x2.toNat) * 1)).block < w.heap.size from by rw [add_block]; exact hb37.1)).trans (rdS_int he38 (x2.toNat) (by omega)))) ?_
     refine qt 20 10 2047 rfl (fun W hm => rv_move rfl) ?_
     refine qt 20 11 4095 rfl (fun W hm => rv_move rfl) ?_
     refine qt 20 12 8191 rfl (fun W hm => rv_index (sz := 2) (k := k9) Try.underlying24 Try.type69 rfl rfl rfl (by omega)) ?_
     refine qt 20 13 16383 rfl (fun W hm => rv_field Try.underlying69 rfl Try.type33 (by decide) rfl rfl) ?_
     refine qt 20 14 32767 rfl (fun W hm => rv_load Try.underlying33 rfl rfl ((hm.cell0 (show ((a21.add (k9 * 2)).add 1).block < w.heap.size from by rw [add_block, add_block]; exact hb22.1)).trans (hc24 1 _ rfl))) ?_
     refine qt 20 15 65535 rfl (fun W hm => rv_move rfl) ?_
     refine qt 20 16 131071 rfl (fun W hm => rv_indexI (sz := 1) (k := x3) Try.underlying33 Try.type3 rfl rfl rfl (by omega) (by omega)) ?_
     refine qt 20 17 262143 rfl (fun W hm => rv_load Try.underlying3 rfl rfl ((hm.cell0 (show (a36.add ((x3.toNat) * 1)).block < w.heap.size from by rw [add_block]; exact hb37.1)).trans (rdS_int he38 (x3.toNat) (by omega)))) ?_
     refine qo 20 18 524287 rfl ?_
     refine WM_callW (χ := Value) (val := fun x => x) (js := fun x => (iOwn (tSl tyGroup 117) [x] (spec_l14Put_m d10 x0 (gt ((gt x1 k9).Values) (x2.toNat)) (gt ((gt x1 k9).Values) (x3.toNat))) :: [])) (cl_fn cb82 rfl) (fun W hm => spec_l14Put_c w.heap.size w [] W (.slice A11 d10.length c12) d10 x0 (gt ((gt x1 k9).Values) (x2.toNat)) (gt ((gt x1 k9).Values) (x3.toNat)) (show _ ≤ 68719476736 from by omega) hm) (Wd_none rfl) (by decide) (fun z39 => ?_)
     refine WM_form (n := 0) rfl ?_
     rintro A40 c41 rfl m42
     have hp := spec_Put_len d10 x0 (gt ((gt x1 k9).Values) (x2.toNat)) (gt ((gt x1 k9).Values) (x3.toNat))
     refine qn (fun W hm => (hm.pick [] (by decide))) ?_
     refine qt 20 19 1048575 rfl (fun W hm => rv_assign rfl) ?_
     refine QB_done (by kernel_rfl) ?_
     refine QM_block_normal ?_
     refine QM_then ?_
     refine CM_region ?_
     refine wm ?_
     refine wv (fun W hm => rv_addN (p := k9) (q := 1) rfl rfl (by omega)) ?_
     refine wa ?_
     refine WM_nil ?_
     have hn44 := rngb_next (R := (List DGroup)) (body := (fun k (s : (List DGroup)) => spec_GroupAlone_b1 x0 x1 x2 x3 k s)) (k := k9) (s := d10) (s' := (spec_l14Put_m d10 x0 (gt ((gt x1 k9).Values) (x2.toNat)) (gt ((gt x1 k9).Values) (x3.toNat)))) (show k9 < x1.length from by omega) (show spec_GroupAlone_b1 x0 x1 x2 x3 k9 d10 = Sum.inr (Sum.inr (spec_l14Put_m d10 x0 (gt ((gt x1 k9).Values) (x2.toNat)) (gt ((gt x1 k9).Values) (x3.toNat)))) from by unfold spec_GroupAlone_b1; exact cond_t g20 (cond_t g35 (rfl))) hF14
     exact QM_round (k9 + 1, (spec_l14Put_m d10 x0 (gt ((gt x1 k9).Values) (x2.toNat)) (gt ((gt x1 k9).Values) (x3.toNat))), (A40, c41)) (subL_cons rfl (subL_cons rfl (subL_cons rfl (subL_cons rfl (subL_cons rfl (subL_cons rfl subL_nil)))))) (fun W hm => hm) ⟨(by omega), hn44, (show (spec_l14Put_m d10 x0 (gt ((gt x1 k9).Values) (x2.toNat)) (gt ((gt x1 k9).Values) (x3.toNat))).length ≤ 0 + (k9 + 1) from by first | omega | (simp only [List.length_append, List.length_cons, List.length_nil] at *; omega))⟩ (show x1.length - (k9 + 1) < x1.length - k9 from by omega)
    ·
     refine CM_condF rfl g35 ?_
     refine CM_skip ?_
     refine QM_block_normal ?_
     refine QM_then ?_
     refine CM_region ?_
     refine wm ?_
     refine wv (fun W hm => rv_addN (p := k9) (q := 1) rfl rfl (by omega)) ?_
     refine wa ?_
     refine WM_nil ?_
     have hn45 := rngb_next (R := (List DGroup)) (body := (fun k (s : (List DGroup)) => spec_GroupAlone_b1 x0 x1 x2 x3 k s)) (k := k9) (s := d10) (s' := d10) (show k9 < x1.length from by omega) (show spec_GroupAlone_b1 x0 x1 x2 x3 k9 d10 = Sum.inr (Sum.inr d10) from by unfold spec_GroupAlone_b1; exact cond_t g20 (cond_f g35 (rfl))) hF14
     exact QM_round (k9 + 1, d10, (A11, c12)) (subL_cons rfl (subL_cons rfl (subL_cons rfl (subL_cons rfl (subL_cons rfl (subL_cons rfl subL_nil)))))) (fun W hm => hm) ⟨(by omega), hn45, (show d10.length ≤ 0 + (k9 + 1) from by first | omega | (simp only [List.length_append, List.length_cons, List.length_nil] at *; omega))⟩ (show x1.length - (k9 + 1) < x1.length - k9 from by omega)
   ·
    refine CM_condF rfl g20 ?_
    refine CM_exit ?_
    refine QM_then_exit ?_
    refine QM_then_exit ?_
    refine QM_block_hit ?_
    have hE46 := rngb_brk (R := (List DGroup)) (body := (fun k (s : (List DGroup)) => spec_GroupAlone_b1 x0 x1 x2 x3 k s)) (k := k9) (s := d10) (s' := d10) (show k9 < x1.length from by omega) (show spec_GroupAlone_b1 x0 x1 x2 x3 k9 d10 = Sum.inr (Sum.inl d10) from by unfold spec_GroupAlone_b1; exact cond_f g20 (rfl)) hF14
    exact QM_cut_normal (d10, (A11, c12)) (subL_cons rfl subL_nil) (fun W hm => hm) hE46
  ·have g18 : (decide (((k9 : Nat) : Int) < ((x1.length : Nat) : Int))) = false := decide_eq_false (by omega)
   refine ws g18 ?_
   refine ws g18 ?_
   refine ws g18 ?_
   refine wv (fun W hm => rv_pickF rfl g18 rfl) ?_
   refine nt' ?_
   refine CM_condF rfl rfl ?_
   refine CM_exit ?_
   refine QM_then_exit ?_
   refine QM_then_exit ?_
   refine QM_block_hit ?_
   have hE47 : rngb (R := (List DGroup)) (fun k (s : (List DGroup)) => spec_GroupAlone_b1 x0 x1 x2 x3 k s) (x1.length - 0) 0 [] = Sum.inr d10 := rngb_end hl17 hF14
   exact QM_cut_normal (d10, (A11, c12)) (subL_cons rfl subL_nil) (fun W hm => hm) hE47
 ·
  rintro ⟨d10, ⟨A11, c12⟩⟩ H49
  have hE48 : rngb (R := (List DGroup)) (fun k (s : (List DGroup)) => spec_GroupAlone_b1 x0 x1 x2 x3 k s) (x1.length - 0) 0 [] = Sum.inr d10 := H49
  show QM 48 _ _ _ .normal [(9, .slice A11 d10.length c12)] [iOwn (tSl tyGroup 117) [.slice A11 d10.length c12] d10]
  refine QM_then ?_
  refine sr ?_
  refine wm ?_
  refine wa ?_
  refine nt' ?_
  refine CM_ret ?_
  refine QM_r1 rfl (RR_tmp rfl) (fun W hm => ⟨.slice A11 d10.length c12, ?_, ?_⟩)
  ·first | rw [(show spec_GroupAlone_m x0 x1 x2 x3 = d10 from by unfold spec_GroupAlone_m; exact fin_inr hE48 (rfl))] | rfl
  ·rw [(show spec_GroupAlone_m x0 x1 x2 x3 = d10 from by unfold spec_GroupAlone_m; exact fin_inr hE48 (rfl))]; exact hm

def impl_copyInts_m (x0 : (List Int)) : (List Int) :=
 x0
set_option maxRecDepth 100000 in
theorem cb95 : Cb Try.prog 95 := ⟨Try.f95, _, Try.func95, rfl, by decide⟩
set_option maxRecDepth 10000 in
set_option maxHeartbeats 4000000 in
theorem impl_copyInts_c (w : World) (z0 : Value) (x0 : (List Int)) (r_0 : rdS tInt w w.heap.size z0 x0) (s_0 : x0.length ≤ 68719476736) :
  Calls Try.prog 95 #[z0] w fun e w' => ∃ v : Value, e = .returned (v) ∧ Mem w.heap.size w [iOwn (tSl tInt 3) [v] (impl_copyInts_m x0)] w' := by
 have r5 := r_0
 obtain ⟨m1, A2, c3, rfl, q4⟩ := r_0
 have l6 : x0.length ≤ 68719476736 := s_0
 refine call_enterM (L := [(0, .slice A2 x0.length c3)]) (N := 6) Try.func95 rfl rfl (Nat.le_of_ble_eq_true rfl) (argsL_cons rfl argsL_nil) ?_
 refine sr ?_
 refine wa ?_
 refine nt' ?_
 refine sr ?_
 refine WM_build0 (E := tInt) Try.underlying33 Try.type3 (Wd_none rfl) (by decide) (fun p7 => ?_)
 refine wm ?_
 refine WM_appendR (F := tInt) (E := tInt) (e := 3) (v := .slice (some ⟨p7, 0, none⟩) 0 0) (xs := []) (ys := x0) (js := []) (fun W hm => hm) (fun W hm => src_flat flat_int (hm.rdS0 r5)) Try.underlying33 Try.type3 rfl rfl rfl (Nat.le_of_ble_eq_true rfl) rfl rfl (show ([].length + x0.length) * 8 ≤ 140737488355328 from by first | omega | (simp only [List.length_append, List.length_cons, List.length_nil, List.length_take, List.length_drop] at *; omega)) (show [].length + x0.length ≤ 9223372036854775807 from by first | omega | (simp only [List.length_append, List.length_cons, List.length_nil, List.length_take, List.length_drop] at *; omega)) (Wd_none rfl) (by decide) (fun v9 => ?_)
 refine WM_form (n := 0) rfl ?_
 rintro A10 c11 rfl m12
 refine wa ?_
 refine nt' ?_
 refine CM_ret ?_
 refine QM_r1 rfl (RR_tmp rfl) (fun W hm => ⟨.slice A10 x0.length c11, ?_, ?_⟩)
 ·first | rw [(show impl_copyInts_m x0 = x0 from by unfold impl_copyInts_m; exact rfl)] | rfl
 ·rw [(show impl_copyInts_m x0 = x0 from by unfold impl_copyInts_m; exact rfl)]; exact hm
theorem impl_copyInts_eq (x0 : (List Int)) : impl_copyInts_m x0 = x0 := by
 rfl
theorem impl_copyInts_c2 (w : World) (z0 : Value) (x0 : (List Int)) (r_0 : rdS tInt w w.heap.size z0 x0) (s_0 : x0.length ≤ 68719476736) :
  Calls Try.prog 95 #[z0] w fun e w' => ∃ v : Value, e = .returned (v) ∧ Mem w.heap.size w [iOwn (tSl tInt 3) [v] x0] w' := by
 have h := impl_copyInts_c w z0 x0 r_0 s_0
 rw [impl_copyInts_eq] at h
 exact h

def impl_copyRow_m (x0 : DRow) : DRow :=
 x0
set_option maxRecDepth 100000 in
theorem cb61 : Cb Try.prog 61 := ⟨Try.f61, _, Try.func61, rfl, by decide⟩
set_option maxRecDepth 10000 in
set_option maxHeartbeats 4000000 in
theorem impl_copyRow_c (w : World) (z0 : List Value) (x0 : DRow) (r_0 : tyRow.rd w w.heap.size z0 x0) (s_0 : smRow 68719476736 x0) :
  Calls Try.prog 61 #[.agg z0.toArray] w fun e w' => ∃ v : List Value, e = .returned (.agg v.toArray) ∧ Mem w.heap.size w [iOwn tyRow v (impl_copyRow_m x0)] w' := by
 obtain ⟨v1, rfl, r2⟩ := tyRow_rd r_0
 have r7 := r2
 obtain ⟨m3, A4, c5, rfl, q6⟩ := r2
 have l8 : x0.Values.length ≤ 68719476736 := s_0
 refine call_enterM (L := [(0, .agg #[.int .i64 x0.Id, .slice A4 x0.Values.length c5])]) (N := 9) Try.func61 rfl rfl (Nat.le_of_ble_eq_true rfl) (argsL_cons rfl argsL_nil) ?_
 refine sr ?_
 refine WM_box rfl (Wd_none rfl) (by decide) (fun p9 => ?_)
 refine WM_alloc Try.type69 rfl (Wd_none rfl) (by decide) (fun p10 => ?_)
 refine nt' ?_
 refine CM_seq ?_
 refine rb 7 (s := [iBox p9 69 [.int .i64 x0.Id, .slice A4 x0.Values.length c5]]) (fun W hm => (hm.pick [1] (by decide))) ?_
 refine qt 7 0 1 rfl (fun W hm => rv_field Try.underlying69 rfl Try.type3 (by decide) rfl rfl) ?_
 refine qt 7 1 3 rfl (fun W hm => rv_load Try.underlying3 rfl rfl (hm.boxCell (n := 0) (o := 0) rfl rfl)) ?_
 refine qt 7 2 7 rfl (fun W hm => rv_field Try.underlying69 rfl Try.type33 (by decide) rfl rfl) ?_
 refine qt 7 3 15 rfl (fun W hm => rv_load Try.underlying33 rfl rfl (hm.boxCell (n := 0) (o := 1) rfl rfl)) ?_
 refine qo 7 4 31 rfl ?_
 refine WM_call (χ := Value) (val := fun x => x) (js := fun x => [iOwn (tSl tInt 3) [x] x0.Values]) (cl_fn cb95 rfl) (fun W hm => impl_copyInts_c2 W _ x0.Values (hm.rdS0 r7) s_0) (Wd_none rfl) (by decide) (fun z11 => ?_)
 refine WM_form (n := 0) rfl ?_
 rintro A12 c13 rfl m14
 refine qn (fun W hm => (hm.pick [2] (by decide))) ?_
 refine qt 7 5 63 rfl (fun W hm => rv_build (cs := [.int .i64 x0.Id, .slice A12 x0.Values.length c13]) rfl (by kernel_rfl)) ?_
 refine qo 7 6 127 rfl ?_
 refine WM_storeBox (p := p10) (o := 0) (cs' := [.int .i64 x0.Id, .slice A12 x0.Values.length c13]) (js := [iOwn (tSl tInt 3) [.slice A12 x0.Values.length c13] x0.Values, iBox p9 69 [.int .i64 x0.Id, .slice A4 x0.Values.length c5]]) (fun W hm => (hm.pick [1, 0, 2] (by decide))) Try.type69 rfl (Nat.le_of_ble_eq_true rfl) rfl rfl rfl rfl (Wd_none rfl) ?_
 refine qn (fun W hm => (hm.pick [2] (by decide))) ?_
 refine QB_done (by kernel_rfl) ?_
 refine QM_then ?_
 refine CM_ret ?_
 refine QM_r1 rfl (RR_cell (n := 0) rfl rfl Try.underlying69 Try.type69 rfl) (fun W hm => ⟨[.int .i64 x0.Id, .slice A12 x0.Values.length c13], ?_, ?_⟩)
 ·first | rw [(show impl_copyRow_m x0 = x0 from by unfold impl_copyRow_m; exact rfl)] | rfl
 ·rw [(show impl_copyRow_m x0 = x0 from by unfold impl_copyRow_m; exact rfl)]; exact Mem.join (is := [iOwn (tSl tInt 3) [.slice A12 x0.Values.length c13] x0.Values]) (js := []) (fun _ _ hs => tyRow_join (x := x0) hs) (hm.pick [1] (by decide))
theorem impl_copyRow_eq (x0 : DRow) : impl_copyRow_m x0 = x0 := by
 rfl
theorem impl_copyRow_c2 (w : World) (z0 : List Value) (x0 : DRow) (r_0 : tyRow.rd w w.heap.size z0 x0) (s_0 : smRow 68719476736 x0) :
  Calls Try.prog 61 #[.agg z0.toArray] w fun e w' => ∃ v : List Value, e = .returned (.agg v.toArray) ∧ Mem w.heap.size w [iOwn tyRow v x0] w' := by
 have h := impl_copyRow_c w z0 x0 r_0 s_0
 rw [impl_copyRow_eq] at h
 exact h

def impl_annotateWith_b1 (x0 : (List DRow)) (x1 : Int) (k9 : Nat) (d10 : (List DAnnotated)) : (List DAnnotated) ⊕ ((List DAnnotated)) :=
 Sum.inr (d10 ++ [(⟨(gt x0 k9), [x1]⟩ : DAnnotated)])
def impl_annotateWith_m (x0 : (List DRow)) (x1 : Int) : (List DAnnotated) :=
 Sum.elim id (fun (s : (List DAnnotated)) => s) (rng (R := (List DAnnotated)) (fun k (s : (List DAnnotated)) => impl_annotateWith_b1 x0 x1 k s) (x0.length - 0) 0 [])
set_option maxRecDepth 100000 in
theorem cb84 : Cb Try.prog 84 := ⟨Try.f84, _, Try.func84, rfl, by decide⟩
set_option maxRecDepth 10000 in
set_option maxHeartbeats 4000000 in
theorem impl_annotateWith_c (w : World) (z0 : Value) (x0 : (List DRow)) (x1 : Int) (r_0 : rdS tyRow w w.heap.size z0 x0) (s_0 : (x0.length ≤ 68719476736 ∧ ∀ y ∈ x0, smRow 68719476736 y)) :
  Calls Try.prog 84 #[z0, .int .i64 x1] w fun e w' => ∃ v : Value, e = .returned (v) ∧ Mem w.heap.size w [iOwn (tSl tyAnnotated 91) [v] (impl_annotateWith_m x0 x1)] w' := by
 have r5 := r_0
 obtain ⟨m1, A2, c3, rfl, q4⟩ := r_0
 have l6 : x0.length ≤ 68719476736 := s_0.1
 refine call_enterM (L := [(0, .slice A2 x0.length c3), (1, .int .i64 x1)]) (N := 25) Try.func84 rfl rfl (Nat.le_of_ble_eq_true rfl) (argsL_cons rfl (argsL_cons rfl argsL_nil)) ?_
 refine sr ?_
 refine wa ?_
 refine nt' ?_
 refine sr ?_
 refine WM_build0 (E := tyAnnotated) Try.underlying26 Try.type91 (Wd_none rfl) (by decide) (fun p7 => ?_)
 refine wa ?_
 refine nt' ?_
 refine CM_seq ?_
 refine sr ?_
 refine wm ?_
 refine wv (fun W hm => rv_len Try.underlying24 rfl) ?_
 refine wm ?_
 refine nt' ?_
 refine CM_block ?_
 refine CM_loop (σ := Nat × ((List DAnnotated)) × (Option Addr × Nat)) (fun s => [(1, .int .i64 x1), (5, .slice s.2.2.1 s.2.1.length s.2.2.2), (9, .slice A2 x0.length c3), (10, .int .i64 ((x0.length : Nat) : Int)), (11, .int .i64 ((s.1 : Nat) : Int))]) (fun s => [iOwn (tSl tyAnnotated 91) [.slice s.2.2.1 s.2.1.length s.2.2.2] s.2.1]) (fun s => s.1 ≤ x0.length ∧ rng (R := (List DAnnotated)) (fun k (s : (List DAnnotated)) => impl_annotateWith_b1 x0 x1 k s) (x0.length - s.1) s.1 s.2.1 = rng (R := (List DAnnotated)) (fun k (s : (List DAnnotated)) => impl_annotateWith_b1 x0 x1 k s) (x0.length - 0) 0 [] ∧ s.2.1.length ≤ 0 + s.1) (fun s => x0.length - s.1) (0, [], ((some ⟨p7, 0, none⟩), 0)) (subL_cons rfl (subL_cons rfl (subL_cons rfl (subL_cons rfl (subL_cons rfl subL_nil))))) (fun W hm => hm) ⟨(by omega), rfl, Nat.le_refl _⟩ ?_
 rintro ⟨k9, d10, ⟨A11, c12⟩⟩ H15
 obtain ⟨hk13, hF14, hi16⟩ : k9 ≤ x0.length ∧ rng (R := (List DAnnotated)) (fun k (s : (List DAnnotated)) => impl_annotateWith_b1 x0 x1 k s) (x0.length - k9) k9 d10 = rng (R := (List DAnnotated)) (fun k (s : (List DAnnotated)) => impl_annotateWith_b1 x0 x1 k s) (x0.length - 0) 0 [] ∧ d10.length ≤ 0 + k9 := H15
 show CM Try.prog 25 _ _ _ _ [(1, .int .i64 x1), (5, .slice A11 d10.length c12), (9, .slice A2 x0.length c3), (10, .int .i64 ((x0.length : Nat) : Int)), (11, .int .i64 ((k9 : Nat) : Int))] [iOwn (tSl tyAnnotated 91) [.slice A11 d10.length c12] d10]
 refine sr ?_
 refine wv (fun W hm => rv_lss rfl rfl) ?_
 refine nt' ?_
 refine CM_seq ?_
 by_cases hl17 : k9 < x0.length
 ·have g18 : (decide (((k9 : Nat) : Int) < ((x0.length : Nat) : Int))) = true := decide_eq_true (by omega)
  refine CM_condT rfl g18 ?_
  refine CM_skip ?_
  refine QM_then ?_
  refine CM_seq ?_
  refine CM_block ?_
  refine sr ?_
  obtain ⟨a19, rfl, hb20, he21⟩ := q4 (by omega)
  refine wv (fun W hm => rv_index (sz := 2) (k := k9) Try.underlying24 Try.type69 rfl rfl rfl (by omega)) ?_
  obtain ⟨_, e25, hc22⟩ := he21 k9 _ (gt_some (show k9 < x0.length from by omega))
  obtain ⟨v23, rfl, r24⟩ := tyRow_rd e25
  have l26 : ((gt x0 k9).Values).length ≤ 68719476736 := (s_0.2 _ (gt_mem (show k9 < x0.length from by omega)))
  have r31 := r24
  obtain ⟨m27, A28, c29, rfl, q30⟩ := r24
  refine wv (fun W hm => rv_loadN (cs := [.int .i64 ((gt x0 k9).Id), .slice A28 ((gt x0 k9).Values).length c29]) Try.underlying69 Try.type69 rfl rfl (hm.elCells (show (a19.add (k9 * 2)).block < w.heap.size from by rw [add_block]; exact hb20.1) hc22)) ?_
  refine WM_alloc Try.type69 rfl (Wd_none rfl) (by decide) (fun p32 => ?_)
  refine WM_storeBox (p := p32) (o := 0) (cs' := [.int .i64 ((gt x0 k9).Id), .slice A28 ((gt x0 k9).Values).length c29]) (js := [iOwn (tSl tyAnnotated 91) [.slice A11 d10.length c12] d10]) (fun W hm => hm) Try.type69 rfl (Nat.le_of_ble_eq_true rfl) rfl rfl rfl rfl (Wd_none rfl) ?_
  refine nt' ?_
  refine CM_region ?_
  refine wm ?_
  refine wv (fun W hm => rv_loadN (cs := [.int .i64 ((gt x0 k9).Id), .slice A28 ((gt x0 k9).Values).length c29]) Try.underlying69 Try.type69 rfl rfl (hm.boxCells (n := 0) rfl)) ?_
  refine WM_call (χ := List Value) (val := fun x => .agg x.toArray) (js := fun x => [iOwn tyRow x (gt x0 k9)]) (cl_fn cb61 rfl) (fun W hm => impl_copyRow_c2 W _ (gt x0 k9) (tyRow_mk (x := (gt x0 k9)) (hm.rdS0 r31)) (s_0.2 _ (gt_mem (show k9 < x0.length from by omega)))) (Wd_none rfl) (by decide) (fun z33 => ?_)
  refine WM_split (γ := Value) (js := fun g => [iOwn (tSl tInt 3) [g] ((gt x0 k9).Values)]) (C := fun g => z33 = [.int .i64 ((gt x0 k9).Id), g]) (fun _ _ h => tyRow_split h) ?_
  rintro v34 rfl
  refine WM_form (n := 0) rfl ?_
  rintro A35 c36 rfl m37
  refine wm ?_
  refine WM_build (cs := [.int .i64 x1]) Try.underlying33 Try.type3 rfl (by decide) (by decide) rfl (by kernel_rfl) (Wd_none rfl) (by decide) (fun p39 => ?_)
  refine wv (fun W hm => rv_build (cs := [.int .i64 ((gt x0 k9).Id), .slice A35 ((gt x0 k9).Values).length c36, .slice (some ⟨p39, 0, none⟩) 1 1]) rfl (by kernel_rfl)) ?_
  refine WM_build (cs := [.int .i64 ((gt x0 k9).Id), .slice A35 ((gt x0 k9).Values).length c36, .slice (some ⟨p39, 0, none⟩) 1 1]) Try.underlying26 Try.type91 rfl (by decide) (by decide) rfl (by kernel_rfl) (Wd_none rfl) (by decide) (fun p40 => ?_)
  refine WM_items (fun W hm => Mem.litOwn (E := tInt) (xs := [x1]) rfl (show 1 ≤ maxLen from by decide) (fun _ => (els_cons (E := tInt) (L1 := []) tInt_own els_nil)) (hm.pick [1, 0, 2, 3, 4] (by decide))) ?_
  refine WM_append (E := tyAnnotated) (e := 91) (v := .slice A11 d10.length c12) (p := p40) (q := 1) (xs := d10) (ys := [(⟨(gt x0 k9), [x1]⟩ : DAnnotated)]) (eis := [iOwn (tSl tInt 3) [.slice A35 ((gt x0 k9).Values).length c36] ((gt x0 k9).Values), iOwn (tSl tInt 3) [.slice (some ⟨p39, 0, none⟩) 1 1] [x1]]) (js := [iBox p32 69 [.int .i64 ((gt x0 k9).Id), .slice A28 ((gt x0 k9).Values).length c29]]) (news := [.int .i64 ((gt x0 k9).Id), .slice A35 ((gt x0 k9).Values).length c36, .slice (some ⟨p39, 0, none⟩) 1 1]) (fun W hm => (hm.pick [1, 4, 2, 0, 3] (by decide))) (fun _ _ hs => Els.single (tyAnnotated_join (x := (⟨(gt x0 k9), [x1]⟩ : DAnnotated)) hs)) Try.underlying26 Try.type91 rfl rfl rfl (Nat.le_of_ble_eq_true rfl) rfl rfl rfl (show (d10.length + 1) * 56 ≤ 140737488355328 from by omega) (show d10.length + 1 ≤ 9223372036854775807 from by omega) (Wd_none rfl) (by decide) (fun v42 => ?_)
  refine WM_form (n := 0) rfl ?_
  rintro A43 c44 rfl m45
  refine wa ?_
  refine WM_nil ?_
  refine QM_block_normal ?_
  refine QM_then ?_
  refine CM_region ?_
  refine wv (fun W hm => rv_addN (p := k9) (q := 1) rfl rfl (by omega)) ?_
  refine wm ?_
  refine WM_nil ?_
  have hn47 := rng_next (R := (List DAnnotated)) (body := (fun k (s : (List DAnnotated)) => impl_annotateWith_b1 x0 x1 k s)) (k := k9) (s := d10) (s' := (d10 ++ [(⟨(gt x0 k9), [x1]⟩ : DAnnotated)])) (show k9 < x0.length from by omega) (show impl_annotateWith_b1 x0 x1 k9 d10 = Sum.inr (d10 ++ [(⟨(gt x0 k9), [x1]⟩ : DAnnotated)]) from by unfold impl_annotateWith_b1; exact rfl) hF14
  exact QM_round (k9 + 1, (d10 ++ [(⟨(gt x0 k9), [x1]⟩ : DAnnotated)]), (A43, c44)) (subL_cons rfl (subL_cons rfl (subL_cons rfl (subL_cons rfl (subL_cons rfl subL_nil))))) (fun W hm => (hm.pick [0] (by decide))) ⟨(by omega), hn47, (show (d10 ++ [(⟨(gt x0 k9), [x1]⟩ : DAnnotated)]).length ≤ 0 + (k9 + 1) from by first | omega | (simp only [List.length_append, List.length_cons, List.length_nil] at *; omega))⟩ (show x0.length - (k9 + 1) < x0.length - k9 from by omega)
 ·have g18 : (decide (((k9 : Nat) : Int) < ((x0.length : Nat) : Int))) = false := decide_eq_false (by omega)
  refine CM_condF rfl g18 ?_
  refine CM_exit ?_
  refine QM_then_exit ?_
  refine QM_then_exit ?_
  have hE48 : rng (R := (List DAnnotated)) (fun k (s : (List DAnnotated)) => impl_annotateWith_b1 x0 x1 k s) (x0.length - 0) 0 [] = Sum.inr d10 := rng_end hl17 hF14
  refine QM_block_hit ?_
  refine QM_then ?_
  refine sr ?_
  refine wm ?_
  refine wa ?_
  refine nt' ?_
  refine CM_ret ?_
  refine QM_r1 rfl (RR_tmp rfl) (fun W hm => ⟨.slice A11 d10.length c12, ?_, ?_⟩)
  ·first | rw [(show impl_annotateWith_m x0 x1 = d10 from by unfold impl_annotateWith_m; exact fin_inr hE48 (rfl))] | rfl
  ·rw [(show impl_annotateWith_m x0 x1 = d10 from by unfold impl_annotateWith_m; exact fin_inr hE48 (rfl))]; exact hm

def impl_within_m (x0 : Int) (x1 : Int) (x2 : Int) : Bool :=
 cond (decide (x1 ≤ x0)) (decide (x0 ≤ x2)) false
set_option maxRecDepth 100000 in
theorem cb114 : Cb Try.prog 114 := ⟨Try.f114, _, Try.func114, rfl, by decide⟩
set_option maxRecDepth 10000 in
set_option maxHeartbeats 4000000 in
theorem impl_within_c (w : World) (x0 : Int) (x1 : Int) (x2 : Int) :
  Calls Try.prog 114 #[.int .i64 x0, .int .i64 x1, .int .i64 x2] w fun e w' => e = .returned (.bool (impl_within_m x0 x1 x2)) ∧ Below w.heap.size w w' := by
 refine call_enterM (L := [(0, .int .i64 x0), (1, .int .i64 x1), (2, .int .i64 x2)]) (N := 15) Try.func114 rfl rfl (Nat.le_of_ble_eq_true rfl) (argsL_cons rfl (argsL_cons rfl (argsL_cons rfl argsL_nil))) ?_
 refine sr ?_
 refine wa ?_
 refine nt' ?_
 refine sr ?_
 refine wm ?_
 refine wm ?_
 refine wv (fun W hm => rv_geq rfl rfl) ?_
 refine wm ?_
 by_cases h1 : x1 ≤ x0
 ·have g2 : (decide (x1 ≤ x0)) = true := decide_eq_true h1
  refine wg (fun W hm => rv_move rfl) g2 ?_
  refine wg (fun W hm => rv_move rfl) g2 ?_
  refine wg (fun W hm => rv_leq rfl rfl) g2 ?_
  refine wv (fun W hm => rv_pickT rfl g2 rfl) ?_
  refine wa ?_
  refine nt' ?_
  refine CM_ret ?_
  exact QM_ret1 rfl rfl (fun W hm => ⟨ret_b (show impl_within_m x0 x1 x2 = (decide (x0 ≤ x2)) from by unfold impl_within_m; exact cond_t g2 (rfl)), hm.below⟩)
 ·have g2 : (decide (x1 ≤ x0)) = false := decide_eq_false h1
  refine ws g2 ?_
  refine ws g2 ?_
  refine ws g2 ?_
  refine wv (fun W hm => rv_pickF rfl g2 rfl) ?_
  refine wa ?_
  refine nt' ?_
  refine CM_ret ?_
  exact QM_ret1 rfl rfl (fun W hm => ⟨ret_b (show impl_within_m x0 x1 x2 = false from by unfold impl_within_m; exact cond_f g2 (rfl)), hm.below⟩)

theorem impl_within_fact {x a b : Int} (h : impl_within_m x a b = true) : a ≤ x ∧ x ≤ b := by
  unfold impl_within_m at h
  by_cases h1 : a ≤ x
  · rw [decide_eq_true h1] at h
    exact ⟨h1, of_decide_eq_true h⟩
  · rw [decide_eq_false h1] at h
    cases h
theorem impl_within_iff (x a b : Int) : impl_within_m x a b = decide (a ≤ x ∧ x ≤ b) := by
  unfold impl_within_m
  by_cases h1 : a ≤ x
  · by_cases h2 : x ≤ b
    · simp [h1, h2]
    · simp [h1, h2]
  · simp [h1]

def impl_isField_m (x0 : Int) : Bool :=
 (impl_within_m x0 0 2)
set_option maxRecDepth 100000 in
theorem cb86 : Cb Try.prog 86 := ⟨Try.f86, _, Try.func86, rfl, by decide⟩
set_option maxRecDepth 10000 in
set_option maxHeartbeats 4000000 in
theorem impl_isField_c (w : World) (x0 : Int) :
  Calls Try.prog 86 #[.int .i64 x0] w fun e w' => e = .returned (.bool (impl_isField_m x0)) ∧ Below w.heap.size w w' := by
 refine call_enterM (L := [(0, .int .i64 x0)]) (N := 5) Try.func86 rfl rfl (Nat.le_of_ble_eq_true rfl) (argsL_cons rfl argsL_nil) ?_
 refine sr ?_
 refine wa ?_
 refine nt' ?_
 refine sr ?_
 refine wm ?_
 refine WM_callV (cl_fn cb114 rfl) (fun W hm => impl_within_c W x0 0 2) (Wd_none rfl) (by decide) ?_
 refine wa ?_
 refine nt' ?_
 refine CM_ret ?_
 exact QM_ret1 rfl rfl (fun W hm => ⟨ret_b (show impl_isField_m x0 = (impl_within_m x0 0 2) from by unfold impl_isField_m; exact rfl), hm.below⟩)

def impl_IsRow_b1 (x0 : DRow) (k9 : Nat) : Bool ⊕ (Unit) :=
 cond (impl_within_m (gt x0.Values k9) 0 99) (Sum.inr ()) (Sum.inl false)
def impl_IsRow_m (x0 : DRow) : Bool :=
 Sum.elim id (fun (s : Unit) => cond (impl_within_m x0.Id 0 999) (((x0.Values.length : Nat) : Int) == 3) false) (rng (R := Bool) (fun k (_ : Unit) => impl_IsRow_b1 x0 k) (x0.Values.length - 0) 0 ())
set_option maxRecDepth 100000 in
theorem cb87 : Cb Try.prog 87 := ⟨Try.f87, _, Try.func87, rfl, by decide⟩
set_option maxRecDepth 10000 in
set_option maxHeartbeats 4000000 in
theorem impl_IsRow_c (w : World) (z0 : List Value) (x0 : DRow) (r_0 : tyRow.rd w w.heap.size z0 x0) :
  Calls Try.prog 87 #[.agg z0.toArray] w fun e w' => e = .returned (.bool (impl_IsRow_m x0)) ∧ Below w.heap.size w w' := by
 obtain ⟨v1, rfl, r2⟩ := tyRow_rd r_0
 have r7 := r2
 obtain ⟨m3, A4, c5, rfl, q6⟩ := r2
 refine call_enterM (L := [(0, .agg #[.int .i64 x0.Id, .slice A4 x0.Values.length c5])]) (N := 25) Try.func87 rfl rfl (Nat.le_of_ble_eq_true rfl) (argsL_cons rfl argsL_nil) ?_
 refine sr ?_
 refine WM_box rfl (Wd_none rfl) (by decide) (fun p8 => ?_)
 refine wa ?_
 refine nt' ?_
 refine CM_seq ?_
 refine sr ?_
 refine wv (fun W hm => rv_field Try.underlying69 rfl Try.type33 (by decide) rfl rfl) ?_
 refine wv (fun W hm => rv_load Try.underlying33 rfl rfl (hm.boxCell (n := 0) (o := 1) rfl rfl)) ?_
 refine wv (fun W hm => rv_len Try.underlying33 rfl) ?_
 refine wm ?_
 refine nt' ?_
 refine CM_block ?_
 refine CM_loop (σ := Nat × (Unit) × (Unit)) (fun s => [(1, .pointer (some (⟨p8, 0, none⟩ : Addr))), (6, .slice A4 x0.Values.length c5), (7, .int .i64 ((x0.Values.length : Nat) : Int)), (8, .int .i64 ((s.1 : Nat) : Int))]) (fun s => [iBox p8 69 [.int .i64 x0.Id, .slice A4 x0.Values.length c5]]) (fun s => s.1 ≤ x0.Values.length ∧ rng (R := Bool) (fun k (_ : Unit) => impl_IsRow_b1 x0 k) (x0.Values.length - s.1) s.1 s.2.1 = rng (R := Bool) (fun k (_ : Unit) => impl_IsRow_b1 x0 k) (x0.Values.length - 0) 0 ()) (fun s => x0.Values.length - s.1) (0, (), ()) (subL_cons rfl (subL_cons rfl (subL_cons rfl (subL_cons rfl subL_nil)))) (fun W hm => hm) ⟨(by omega), rfl⟩ ?_
 rintro ⟨k9, ⟨⟩, ⟨⟩⟩ H12
 obtain ⟨hk10, hF11⟩ : k9 ≤ x0.Values.length ∧ rng (R := Bool) (fun k (_ : Unit) => impl_IsRow_b1 x0 k) (x0.Values.length - k9) k9 () = rng (R := Bool) (fun k (_ : Unit) => impl_IsRow_b1 x0 k) (x0.Values.length - 0) 0 () := H12
 show CM Try.prog 25 _ _ _ _ [(1, .pointer (some (⟨p8, 0, none⟩ : Addr))), (6, .slice A4 x0.Values.length c5), (7, .int .i64 ((x0.Values.length : Nat) : Int)), (8, .int .i64 ((k9 : Nat) : Int))] [iBox p8 69 [.int .i64 x0.Id, .slice A4 x0.Values.length c5]]
 refine sr ?_
 refine wv (fun W hm => rv_lss rfl rfl) ?_
 refine nt' ?_
 refine CM_seq ?_
 by_cases hl13 : k9 < x0.Values.length
 ·have g14 : (decide (((k9 : Nat) : Int) < ((x0.Values.length : Nat) : Int))) = true := decide_eq_true (by omega)
  refine CM_condT rfl g14 ?_
  refine CM_skip ?_
  refine QM_then ?_
  refine CM_seq ?_
  refine CM_block ?_
  refine sr ?_
  obtain ⟨a15, rfl, hb16, he17⟩ := q6 (by omega)
  refine wv (fun W hm => rv_index (sz := 1) (k := k9) Try.underlying33 Try.type3 rfl rfl rfl (by omega)) ?_
  refine wv (fun W hm => rv_load Try.underlying3 rfl rfl ((hm.cell0 (show (a15.add (k9 * 1)).block < w.heap.size from by rw [add_block]; exact hb16.1)).trans (rdS_int he17 k9 (by omega)))) ?_
  refine wa ?_
  refine nt' ?_
  refine sr ?_
  refine wm ?_
  refine WM_callV (cl_fn cb114 rfl) (fun W hm => impl_within_c W (gt x0.Values k9) 0 99) (Wd_none rfl) (by decide) ?_
  refine wv (fun W hm => rv_not rfl) ?_
  refine nt' ?_
  rcases Bool.eq_false_or_eq_true (impl_within_m (gt x0.Values k9) 0 99) with g19 | g19
  ·
   have hw := impl_within_fact g19
   refine CM_condF rfl (nt g19) ?_
   refine CM_skip ?_
   refine QM_block_normal ?_
   refine QM_then ?_
   refine CM_region ?_
   refine wv (fun W hm => rv_addN (p := k9) (q := 1) rfl rfl (by omega)) ?_
   refine wm ?_
   refine WM_nil ?_
   have hn20 := rng_next (R := Bool) (body := (fun k (_ : Unit) => impl_IsRow_b1 x0 k)) (k := k9) (s := ()) (s' := ()) (show k9 < x0.Values.length from by omega) (show impl_IsRow_b1 x0 k9 = Sum.inr () from by unfold impl_IsRow_b1; exact cond_t g19 (rfl)) hF11
   exact QM_round (k9 + 1, (), ()) (subL_cons rfl (subL_cons rfl (subL_cons rfl (subL_cons rfl subL_nil)))) (fun W hm => hm) ⟨(by omega), hn20⟩ (show x0.Values.length - (k9 + 1) < x0.Values.length - k9 from by omega)
  ·
   refine CM_condT rfl (nf g19) ?_
   refine sr ?_
   refine wa ?_
   refine nt' ?_
   refine CM_ret ?_
   refine QM_block_ret ?_
   refine QM_then_ret ?_
   refine QM_then_ret ?_
   refine QM_block_ret ?_
   refine QM_then_ret ?_
   exact QM_ret1 rfl rfl (fun W hm => ⟨ret_b (show impl_IsRow_m x0 = false from by unfold impl_IsRow_m; exact fin_inl (rng_ret (body := (fun k (_ : Unit) => impl_IsRow_b1 x0 k)) (k := k9) (s := ()) (show k9 < x0.Values.length from by omega) (show impl_IsRow_b1 x0 k9 = Sum.inl false from by unfold impl_IsRow_b1; exact cond_f g19 (rfl)) hF11) rfl), hm.below⟩)
 ·have g14 : (decide (((k9 : Nat) : Int) < ((x0.Values.length : Nat) : Int))) = false := decide_eq_false (by omega)
  refine CM_condF rfl g14 ?_
  refine CM_exit ?_
  refine QM_then_exit ?_
  refine QM_then_exit ?_
  have hE21 : rng (R := Bool) (fun k (_ : Unit) => impl_IsRow_b1 x0 k) (x0.Values.length - 0) 0 () = Sum.inr () := rng_end hl13 hF11
  refine QM_block_hit ?_
  refine QM_then ?_
  refine sr ?_
  refine wv (fun W hm => rv_field Try.underlying69 rfl Try.type3 (by decide) rfl rfl) ?_
  refine wv (fun W hm => rv_load Try.underlying3 rfl rfl (hm.boxCell (n := 0) (o := 0) rfl rfl)) ?_
  refine WM_callV (cl_fn cb114 rfl) (fun W hm => impl_within_c W x0.Id 0 999) (Wd_none rfl) (by decide) ?_
  refine wm ?_
  rcases Bool.eq_false_or_eq_true (impl_within_m x0.Id 0 999) with g23 | g23
  ·
   have hw := impl_within_fact g23
   refine wg (fun W hm => rv_field Try.underlying69 rfl Try.type33 (by decide) rfl rfl) g23 ?_
   refine wg (fun W hm => rv_load Try.underlying33 rfl rfl (hm.boxCell (n := 0) (o := 1) rfl rfl)) g23 ?_
   refine wg (fun W hm => rv_len Try.underlying33 rfl) g23 ?_
   refine wg (fun W hm => rv_eql rfl rfl) g23 ?_
   refine wv (fun W hm => rv_pickT rfl g23 rfl) ?_
   refine wa ?_
   refine nt' ?_
   refine CM_ret ?_
   exact QM_ret1 rfl rfl (fun W hm => ⟨ret_b (show impl_IsRow_m x0 = (((x0.Values.length : Nat) : Int) == 3) from by unfold impl_IsRow_m; exact fin_inr hE21 (cond_t g23 (rfl))), hm.below⟩)
  ·
   refine ws g23 ?_
   refine ws g23 ?_
   refine ws g23 ?_
   refine ws g23 ?_
   refine wv (fun W hm => rv_pickF rfl g23 rfl) ?_
   refine wa ?_
   refine nt' ?_
   refine CM_ret ?_
   exact QM_ret1 rfl rfl (fun W hm => ⟨ret_b (show impl_IsRow_m x0 = false from by unfold impl_IsRow_m; exact fin_inr hE21 (cond_f g23 (rfl))), hm.below⟩)

def cmp_isNaN_int_m (x0 : Int) : Bool :=
 (x0 != x0)
set_option maxRecDepth 100000 in
theorem cb134 : Cb Try.prog 134 := ⟨Try.f134, _, Try.func134, rfl, by decide⟩
set_option maxRecDepth 10000 in
set_option maxHeartbeats 4000000 in
theorem cmp_isNaN_int_c (w : World) (x0 : Int) :
  Calls Try.prog 134 #[.int .i64 x0] w fun e w' => e = .returned (.bool (cmp_isNaN_int_m x0)) ∧ Below w.heap.size w w' := by
 refine call_enterM (L := [(0, .int .i64 x0)]) (N := 6) Try.func134 rfl rfl (Nat.le_of_ble_eq_true rfl) (argsL_cons rfl argsL_nil) ?_
 refine sr ?_
 refine wa ?_
 refine nt' ?_
 refine sr ?_
 refine wm ?_
 refine wm ?_
 refine wv (fun W hm => rv_neq rfl rfl) ?_
 refine wa ?_
 refine nt' ?_
 refine CM_ret ?_
 exact QM_ret1 rfl rfl (fun W hm => ⟨ret_b (show cmp_isNaN_int_m x0 = (x0 != x0) from by unfold cmp_isNaN_int_m; exact rfl), hm.below⟩)

def cmp_Compare_int_m (x0 : Int) (x1 : Int) : Int :=
 cond (cmp_isNaN_int_m x0) (cond (cmp_isNaN_int_m x1) 0 (-1)) (cond (cmp_isNaN_int_m x1) 1 (cond (decide (x0 < x1)) (-1) (cond (decide (x1 < x0)) 1 0)))
set_option maxRecDepth 100000 in
theorem cb122 : Cb Try.prog 122 := ⟨Try.f122, _, Try.func122, rfl, by decide⟩
set_option maxRecDepth 10000 in
set_option maxHeartbeats 4000000 in
theorem cmp_Compare_int_c (w : World) (x0 : Int) (x1 : Int) :
  Calls Try.prog 122 #[.int .i64 x0, .int .i64 x1] w fun e w' => e = .returned (.int .i64 (cmp_Compare_int_m x0 x1)) ∧ Below w.heap.size w w' := by
 refine call_enterM (L := [(0, .int .i64 x0), (1, .int .i64 x1)]) (N := 20) Try.func122 rfl rfl (Nat.le_of_ble_eq_true rfl) (argsL_cons rfl (argsL_cons rfl argsL_nil)) ?_
 refine sr ?_
 refine wa ?_
 refine nt' ?_
 refine sr ?_
 refine wm ?_
 refine WM_callV (cl_fn cb134 rfl) (fun W hm => cmp_isNaN_int_c W x0) (Wd_none rfl) (by decide) ?_
 refine wa ?_
 refine nt' ?_
 refine sr ?_
 refine wm ?_
 refine WM_callV (cl_fn cb134 rfl) (fun W hm => cmp_isNaN_int_c W x1) (Wd_none rfl) (by decide) ?_
 refine wa ?_
 refine nt' ?_
 refine CM_seq ?_
 refine sr ?_
 refine wm ?_
 refine nt' ?_
 rcases Bool.eq_false_or_eq_true (cmp_isNaN_int_m x0) with g2 | g2
 ·
  refine CM_condT rfl g2 ?_
  refine CM_seq ?_
  refine sr ?_
  refine wm ?_
  refine nt' ?_
  rcases Bool.eq_false_or_eq_true (cmp_isNaN_int_m x1) with g4 | g4
  ·
   refine CM_condT rfl g4 ?_
   refine sr ?_
   refine wa ?_
   refine nt' ?_
   refine CM_ret ?_
   refine QM_then_ret ?_
   refine QM_then_ret ?_
   exact QM_ret1 rfl rfl (fun W hm => ⟨ret_i (show cmp_Compare_int_m x0 x1 = 0 from by unfold cmp_Compare_int_m; exact cond_t g2 (cond_t g4 (rfl))), hm.below⟩)
  ·
   refine CM_condF rfl g4 ?_
   refine CM_skip ?_
   refine QM_then ?_
   refine sr ?_
   refine wa ?_
   refine nt' ?_
   refine CM_ret ?_
   refine QM_then_ret ?_
   exact QM_ret1 rfl rfl (fun W hm => ⟨ret_i (show cmp_Compare_int_m x0 x1 = (-1) from by unfold cmp_Compare_int_m; exact cond_t g2 (cond_f g4 (rfl))), hm.below⟩)
 ·
  refine CM_condF rfl g2 ?_
  refine CM_skip ?_
  refine QM_then ?_
  refine CM_seq ?_
  refine sr ?_
  refine wm ?_
  refine nt' ?_
  rcases Bool.eq_false_or_eq_true (cmp_isNaN_int_m x1) with g6 | g6
  ·
   refine CM_condT rfl g6 ?_
   refine sr ?_
   refine wa ?_
   refine nt' ?_
   refine CM_ret ?_
   refine QM_then_ret ?_
   exact QM_ret1 rfl rfl (fun W hm => ⟨ret_i (show cmp_Compare_int_m x0 x1 = 1 from by unfold cmp_Compare_int_m; exact cond_f g2 (cond_t g6 (rfl))), hm.below⟩)
  ·
   refine CM_condF rfl g6 ?_
   refine CM_skip ?_
   refine QM_then ?_
   refine CM_seq ?_
   refine sr ?_
   refine wm ?_
   refine wm ?_
   refine wv (fun W hm => rv_lss rfl rfl) ?_
   refine nt' ?_
   by_cases h7 : x0 < x1
   ·have g8 : (decide (x0 < x1)) = true := decide_eq_true h7
    refine CM_condT rfl g8 ?_
    refine sr ?_
    refine wa ?_
    refine nt' ?_
    refine CM_ret ?_
    refine QM_then_ret ?_
    exact QM_ret1 rfl rfl (fun W hm => ⟨ret_i (show cmp_Compare_int_m x0 x1 = (-1) from by unfold cmp_Compare_int_m; exact cond_f g2 (cond_f g6 (cond_t g8 (rfl)))), hm.below⟩)
   ·have g8 : (decide (x0 < x1)) = false := decide_eq_false h7
    refine CM_condF rfl g8 ?_
    refine CM_skip ?_
    refine QM_then ?_
    refine CM_seq ?_
    refine sr ?_
    refine wm ?_
    refine wm ?_
    refine wv (fun W hm => rv_gtr rfl rfl) ?_
    refine nt' ?_
    by_cases h9 : x1 < x0
    ·have g10 : (decide (x1 < x0)) = true := decide_eq_true h9
     refine CM_condT rfl g10 ?_
     refine sr ?_
     refine wa ?_
     refine nt' ?_
     refine CM_ret ?_
     refine QM_then_ret ?_
     exact QM_ret1 rfl rfl (fun W hm => ⟨ret_i (show cmp_Compare_int_m x0 x1 = 1 from by unfold cmp_Compare_int_m; exact cond_f g2 (cond_f g6 (cond_f g8 (cond_t g10 (rfl))))), hm.below⟩)
    ·have g10 : (decide (x1 < x0)) = false := decide_eq_false h9
     refine CM_condF rfl g10 ?_
     refine CM_skip ?_
     refine QM_then ?_
     refine sr ?_
     refine wa ?_
     refine nt' ?_
     refine CM_ret ?_
     exact QM_ret1 rfl rfl (fun W hm => ⟨ret_i (show cmp_Compare_int_m x0 x1 = 0 from by unfold cmp_Compare_int_m; exact cond_f g2 (cond_f g6 (cond_f g8 (cond_f g10 (rfl))))), hm.below⟩)

def impl_compareGroups_m (x0 : DGroup) (x1 : DGroup) : Int :=
 cond (x0.Query != x1.Query) (cmp_Compare_int_m x0.Query x1.Query) (cmp_Compare_int_m x0.Value x1.Value)
set_option maxRecDepth 100000 in
theorem cb89 : Cb Try.prog 89 := ⟨Try.f89, _, Try.func89, rfl, by decide⟩
set_option maxRecDepth 10000 in
set_option maxHeartbeats 4000000 in
theorem impl_compareGroups_c (w : World) (z0 : List Value) (x0 : DGroup) (z1 : List Value) (x1 : DGroup) (r_0 : tyGroup.rd w w.heap.size z0 x0) (r_1 : tyGroup.rd w w.heap.size z1 x1) :
  Calls Try.prog 89 #[.agg z0.toArray, .agg z1.toArray] w fun e w' => e = .returned (.int .i64 (impl_compareGroups_m x0 x1)) ∧ Below w.heap.size w w' := by
 obtain rfl := tyGroup_rd r_0
 obtain rfl := tyGroup_rd r_1
 refine call_enterM (L := [(0, .agg #[.int .i64 x0.Query, .int .i64 x0.Value, .int .i64 x0.Count, .int .i64 x0.Sum]), (1, .agg #[.int .i64 x1.Query, .int .i64 x1.Value, .int .i64 x1.Count, .int .i64 x1.Sum])]) (N := 20) Try.func89 rfl rfl (Nat.le_of_ble_eq_true rfl) (argsL_cons rfl (argsL_cons rfl argsL_nil)) ?_
 refine sr ?_
 refine WM_box rfl (Wd_none rfl) (by decide) (fun p1 => ?_)
 refine WM_box rfl (Wd_none rfl) (by decide) (fun p2 => ?_)
 refine wa ?_
 refine nt' ?_
 refine CM_seq ?_
 refine sr ?_
 refine wv (fun W hm => rv_field Try.underlying117 rfl Try.type3 (by decide) rfl rfl) ?_
 refine wv (fun W hm => rv_load Try.underlying3 rfl rfl (hm.boxCell (n := 1) (o := 0) rfl rfl)) ?_
 refine wv (fun W hm => rv_field Try.underlying117 rfl Try.type3 (by decide) rfl rfl) ?_
 refine wv (fun W hm => rv_load Try.underlying3 rfl rfl (hm.boxCell (n := 0) (o := 0) rfl rfl)) ?_
 refine wv (fun W hm => rv_neq rfl rfl) ?_
 refine nt' ?_
 by_cases h3 : x0.Query = x1.Query
 ·have g4 : (x0.Query != x1.Query) = false := by rw [h3]; exact bne_self_eq_false _
  refine CM_condF rfl g4 ?_
  refine CM_skip ?_
  refine QM_then ?_
  refine sr ?_
  refine wv (fun W hm => rv_field Try.underlying117 rfl Try.type3 (by decide) rfl rfl) ?_
  refine wv (fun W hm => rv_load Try.underlying3 rfl rfl (hm.boxCell (n := 1) (o := 1) rfl rfl)) ?_
  refine wv (fun W hm => rv_field Try.underlying117 rfl Try.type3 (by decide) rfl rfl) ?_
  refine wv (fun W hm => rv_load Try.underlying3 rfl rfl (hm.boxCell (n := 0) (o := 1) rfl rfl)) ?_
  refine WM_callV (cl_fn cb122 rfl) (fun W hm => cmp_Compare_int_c W x0.Value x1.Value) (Wd_none rfl) (by decide) ?_
  refine wa ?_
  refine nt' ?_
  refine CM_ret ?_
  exact QM_ret1 rfl rfl (fun W hm => ⟨ret_i (show impl_compareGroups_m x0 x1 = (cmp_Compare_int_m x0.Value x1.Value) from by unfold impl_compareGroups_m; exact cond_f g4 (rfl)), hm.below⟩)
 ·have g4 : (x0.Query != x1.Query) = true := bne_iff_ne.2 h3
  refine CM_condT rfl g4 ?_
  refine sr ?_
  refine wv (fun W hm => rv_field Try.underlying117 rfl Try.type3 (by decide) rfl rfl) ?_
  refine wv (fun W hm => rv_load Try.underlying3 rfl rfl (hm.boxCell (n := 1) (o := 0) rfl rfl)) ?_
  refine wv (fun W hm => rv_field Try.underlying117 rfl Try.type3 (by decide) rfl rfl) ?_
  refine wv (fun W hm => rv_load Try.underlying3 rfl rfl (hm.boxCell (n := 0) (o := 0) rfl rfl)) ?_
  refine WM_callV (cl_fn cb122 rfl) (fun W hm => cmp_Compare_int_c W x0.Query x1.Query) (Wd_none rfl) (by decide) ?_
  refine wa ?_
  refine nt' ?_
  refine CM_ret ?_
  refine QM_then_ret ?_
  exact QM_ret1 rfl rfl (fun W hm => ⟨ret_i (show impl_compareGroups_m x0 x1 = (cmp_Compare_int_m x0.Query x1.Query) from by unfold impl_compareGroups_m; exact cond_t g4 (rfl)), hm.below⟩)

set_option maxRecDepth 100000 in
theorem cb140 : Cb Try.prog 140 := ⟨Try.f140, _, Try.func140, rfl, by decide⟩
set_option maxRecDepth 10000 in
set_option maxHeartbeats 4000000 in
theorem srt88_swr_c {α : Type} [Inhabited α] (K : Ck α) (hK : K.s = 4) (cf : α → α → Int) (fc : FuncId) (B : Nat) (w0 : World) (is : List It) (H : CmpOk Try.prog fc K B w0 is cf) (A : Option Addr) (n c : Nat) (hn : n ≤ 68719476736) (a : Nat) (b : Nat) (k : Nat) (xs : List (List Value × α)) (h1 : a + k ≤ n) (h2 : b + k ≤ n) (w : World) (hm : Mem B w0 (iOwn (tSl (tCk K) 117) [.slice A n c] xs :: is) w) :
  Calls Try.prog 140 #[.slice A n c, .int .i64 ((a : Nat) : Int), .int .i64 ((b : Nat) : Int), .int .i64 ((k : Nat) : Int), .func (.func fc) #[] #[]] w fun e w' => e = .returned (.tuple #[]) ∧ Mem B w0 (iOwn (tSl (tCk K) 117) [.slice A n c] (swr k a b xs) :: is) w' := by
 refine call_enterW (L := [(0, .slice A n c), (1, .int .i64 ((a : Nat) : Int)), (2, .int .i64 ((b : Nat) : Int)), (3, .int .i64 ((k : Nat) : Int)), (4, .func (.func fc) #[] #[])]) (N := 38) Try.func140 rfl rfl (Nat.le_of_ble_eq_true rfl) (argsL_cons rfl (argsL_cons rfl (argsL_cons rfl (argsL_cons rfl (argsL_cons rfl argsL_nil))))) hm ?_
 refine sr ?_
 refine wa ?_
 refine nt' ?_
 refine CM_block ?_
 refine CM_loop (σ := Nat × List (List Value × α)) (fun s => [(0, .slice A n c), (1, .int .i64 ((a : Nat) : Int)), (2, .int .i64 ((b : Nat) : Int)), (3, .int .i64 ((k : Nat) : Int)), (10, .int .i64 ((s.1 : Nat) : Int))]) (fun s => (iOwn (tSl (tCk K) 117) [.slice A n c] s.2 :: is)) (fun s => swr (k - s.1) (a + s.1) (b + s.1) s.2 = swr k a b xs ∧ s.1 ≤ k) (fun s => k - s.1) (0, xs) (subL_cons rfl (subL_cons rfl (subL_cons rfl (subL_cons rfl (subL_cons rfl subL_nil))))) (fun W hm => hm) ⟨(show swr (k - 0) (a + 0) (b + 0) xs = swr k a b xs from rfl), (show 0 ≤ k from by omega)⟩ ?_
 rintro ⟨i, d⟩ H1
 obtain ⟨hF, hi⟩ : swr (k - i) (a + i) (b + i) d = swr k a b xs ∧ i ≤ k := H1
 show CM Try.prog 38 _ _ _ _ [(0, .slice A n c), (1, .int .i64 ((a : Nat) : Int)), (2, .int .i64 ((b : Nat) : Int)), (3, .int .i64 ((k : Nat) : Int)), (10, .int .i64 ((i : Nat) : Int))] (iOwn (tSl (tCk K) 117) [.slice A n c] d :: is)
 refine CM_seq ?_
 refine sr ?_
 refine wm ?_
 refine wm ?_
 refine wv (fun W hm => rv_lss rfl rfl) ?_
 refine nt' ?_
 by_cases h2 : ((i : Nat) : Int) < ((k : Nat) : Int)
 ·have g3 : (decide (((i : Nat) : Int) < ((k : Nat) : Int))) = true := decide_eq_true h2
  refine CM_condT rfl g3 ?_
  refine CM_skip ?_
  refine QM_then ?_
  refine CM_seq ?_
  refine CM_block ?_
  refine CM_formO (n := 0) rfl (by omega) ?_
  rintro g5 rfl
  refine CM_ck ?_
  intro hR4
  refine CM_cut (σ := Unit) (fun _ => [(0, .slice (some ⟨g5, 0, none⟩) n c), (1, .int .i64 ((a : Nat) : Int)), (2, .int .i64 ((b : Nat) : Int)), (3, .int .i64 ((k : Nat) : Int)), (10, .int .i64 ((i : Nat) : Int))]) (fun _ => (iOwn (tSl (tCk K) 117) [.slice (some ⟨g5, 0, none⟩) n c] ((d.set (a + i) (gt d (b + i))).set (b + i) (gt d (a + i))) :: is)) (fun _ => True) ?_ ?_
  ·
   refine rb 24 (s := (is)) (fun W hm => (hm).tail) ?_
   refine qt 24 0 1 rfl (fun W hm => rv_move rfl) ?_
   refine qt 24 1 3 rfl (fun W hm => rv_move rfl) ?_
   refine qt 24 2 7 rfl (fun W hm => rv_move rfl) ?_
   refine qt 24 3 15 rfl (fun W hm => rv_addN (p := a) (q := i) rfl rfl (by omega)) ?_
   refine qt 24 4 31 rfl (fun W hm => rv_move rfl) ?_
   refine qt 24 5 63 rfl (fun W hm => rv_move rfl) ?_
   refine qt 24 6 127 rfl (fun W hm => rv_move rfl) ?_
   refine qt 24 7 255 rfl (fun W hm => rv_addN (p := b) (q := i) rfl rfl (by omega)) ?_
   refine qt 24 8 511 rfl (fun W hm => rv_move rfl) ?_
   refine qt 24 9 1023 rfl (fun W hm => rv_move rfl) ?_
   refine qt 24 10 2047 rfl (fun W hm => rv_move rfl) ?_
   refine qt 24 11 4095 rfl (fun W hm => rv_addN (p := b) (q := i) rfl rfl (by omega)) ?_
   refine qt 24 12 8191 rfl (fun W hm => rv_index (sz := K.s) (k := b + i) Try.underlying54 Try.type117 hK.symm rfl rfl (by omega)) ?_
   refine qt 24 14 24575 rfl (fun W hm => rv_move rfl) ?_
   refine qt 24 15 57343 rfl (fun W hm => rv_move rfl) ?_
   refine qt 24 16 122879 rfl (fun W hm => rv_move rfl) ?_
   refine qt 24 17 253951 rfl (fun W hm => rv_addN (p := a) (q := i) rfl rfl (by omega)) ?_
   refine qt 24 18 516095 rfl (fun W hm => rv_index (sz := K.s) (k := a + i) Try.underlying54 Try.type117 hK.symm rfl rfl (by omega)) ?_
   refine qa [13, 19] ?_
   refine qc 24 524287 rfl ?_ ?_
   ·
    refine wv (fun W hm => rv_loadCk Try.underlying117 Try.type117 hK.symm rfl hm (by omega)) ?_
    refine qn (fun W hm => (hm).tail) ?_
    refine qo 24 19 1048575 rfl ?_
    refine wv (fun W hm => rv_loadCk Try.underlying117 Try.type117 hK.symm rfl hm (by omega)) ?_
    refine qn (fun W hm => (hm).tail) ?_
    refine qt 24 20 2097151 rfl (fun W hm => rv_index (sz := K.s) (k := a + i) Try.underlying54 Try.type117 hK.symm rfl rfl (by omega)) ?_
    refine qo 24 21 4194303 rfl ?_
    refine WM_setEl (E := tCk K) (e := 117) (u := .agg (gt d (b + i)).1.toArray) (k := (a + i)) (p := g5) (n := n) (xs := d) (eis := []) (js := is) (yv := (gt d (b + i))) (fun W hm => hm) (fun _ _ hs => ⟨hs, rfl, (hR4 (b + i) (by omega))⟩) rfl Try.type117 hK.symm (by omega) rfl rfl (Wd_none rfl) ?_
    refine qn (fun W hm => (hm).tail) ?_
    refine qt 24 22 8388607 rfl (fun W hm => rv_index (sz := K.s) (k := b + i) Try.underlying54 Try.type117 hK.symm rfl rfl (by omega)) ?_
    refine qo 24 23 16777215 rfl ?_
    refine WM_setEl (E := tCk K) (e := 117) (u := .agg (gt d (a + i)).1.toArray) (k := (b + i)) (p := g5) (n := n) (xs := (d.set (a + i) (gt d (b + i)))) (eis := []) (js := is) (yv := (gt d (a + i))) (fun W hm => hm) (fun _ _ hs => ⟨hs, rfl, (hR4 (a + i) (by omega))⟩) rfl Try.type117 hK.symm (by omega) rfl rfl (Wd_none rfl) ?_
    refine qn (fun W hm => (hm).tail) ?_
    refine QB_done (by kernel_rfl) ?_
    exact QM_cut_normal () (subL_cons rfl (subL_cons rfl (subL_cons rfl (subL_cons rfl (subL_cons rfl subL_nil))))) (fun W hm => hm) trivial
   refine qc 24 1040383 rfl ?_ ?_
   ·
    refine wv (fun W hm => rv_loadCk Try.underlying117 Try.type117 hK.symm rfl hm (by omega)) ?_
    refine qn (fun W hm => (hm).tail) ?_
    refine qo 24 13 1048575 rfl ?_
    refine wv (fun W hm => rv_loadCk Try.underlying117 Try.type117 hK.symm rfl hm (by omega)) ?_
    refine qn (fun W hm => (hm).tail) ?_
    refine qt 24 20 2097151 rfl (fun W hm => rv_index (sz := K.s) (k := a + i) Try.underlying54 Try.type117 hK.symm rfl rfl (by omega)) ?_
    refine qo 24 21 4194303 rfl ?_
    refine WM_setEl (E := tCk K) (e := 117) (u := .agg (gt d (b + i)).1.toArray) (k := (a + i)) (p := g5) (n := n) (xs := d) (eis := []) (js := is) (yv := (gt d (b + i))) (fun W hm => hm) (fun _ _ hs => ⟨hs, rfl, (hR4 (b + i) (by omega))⟩) rfl Try.type117 hK.symm (by omega) rfl rfl (Wd_none rfl) ?_
    refine qn (fun W hm => (hm).tail) ?_
    refine qt 24 22 8388607 rfl (fun W hm => rv_index (sz := K.s) (k := b + i) Try.underlying54 Try.type117 hK.symm rfl rfl (by omega)) ?_
    refine qo 24 23 16777215 rfl ?_
    refine WM_setEl (E := tCk K) (e := 117) (u := .agg (gt d (a + i)).1.toArray) (k := (b + i)) (p := g5) (n := n) (xs := (d.set (a + i) (gt d (b + i)))) (eis := []) (js := is) (yv := (gt d (a + i))) (fun W hm => hm) (fun _ _ hs => ⟨hs, rfl, (hR4 (a + i) (by omega))⟩) rfl Try.type117 hK.symm (by omega) rfl rfl (Wd_none rfl) ?_
    refine qn (fun W hm => (hm).tail) ?_
    refine QB_done (by kernel_rfl) ?_
    exact QM_cut_normal () (subL_cons rfl (subL_cons rfl (subL_cons rfl (subL_cons rfl (subL_cons rfl subL_nil))))) (fun W hm => hm) trivial
   exact QBs_nil
  ·
   rintro ⟨⟩ -
   show QM 38 _ _ _ .normal [(0, .slice (some ⟨g5, 0, none⟩) n c), (1, .int .i64 ((a : Nat) : Int)), (2, .int .i64 ((b : Nat) : Int)), (3, .int .i64 ((k : Nat) : Int)), (10, .int .i64 ((i : Nat) : Int))] (iOwn (tSl (tCk K) 117) [.slice (some ⟨g5, 0, none⟩) n c] ((d.set (a + i) (gt d (b + i))).set (b + i) (gt d (a + i))) :: is)
   refine QM_block_normal ?_
   refine QM_then ?_
   refine CM_region ?_
   refine wm ?_
   refine wv (fun W hm => rv_addN (p := i) (q := 1) rfl rfl (by omega)) ?_
   refine wa ?_
   refine WM_nil ?_
   exact QM_round (i + 1, ((d.set (a + i) (gt d (b + i))).set (b + i) (gt d (a + i)))) (subL_cons rfl (subL_cons rfl (subL_cons rfl (subL_cons rfl (subL_cons rfl subL_nil))))) (fun W hm => hm) ⟨(show swr (k - (i + 1)) (a + (i + 1)) (b + (i + 1)) ((d.set (a + i) (gt d (b + i))).set (b + i) (gt d (a + i))) = swr k a b xs from (swr_step (by omega)).symm.trans hF), (show (i + 1) ≤ k from by omega)⟩ (show k - (i + 1) < k - i from by omega)
 ·have g3 : (decide (((i : Nat) : Int) < ((k : Nat) : Int))) = false := decide_eq_false h2
  refine CM_condF rfl g3 ?_
  refine CM_exit ?_
  refine QM_then_exit ?_
  refine QM_then_exit ?_
  refine QM_block_hit ?_
  have hE : swr k a b xs = d := ((swr_end (by omega)).symm.trans hF).symm
  exact QM_ret0 rfl (fun W hm => ⟨rfl, by rw [hE]; exact hm⟩)

set_option maxRecDepth 100000 in
theorem cb132 : Cb Try.prog 132 := ⟨Try.f132, _, Try.func132, rfl, by decide⟩
set_option maxRecDepth 10000 in
set_option maxHeartbeats 4000000 in
theorem srt88_ins_c {α : Type} [Inhabited α] (K : Ck α) (hK : K.s = 4) (cf : α → α → Int) (fc : FuncId) (B : Nat) (w0 : World) (is : List It) (H : CmpOk Try.prog fc K B w0 is cf) (A : Option Addr) (n c : Nat) (hn : n ≤ 68719476736) (a : Nat) (b : Nat) (xs : List (List Value × α)) (h1 : a ≤ n) (h2 : b ≤ n) (w : World) (hm : Mem B w0 (iOwn (tSl (tCk K) 117) [.slice A n c] xs :: is) w) :
  Calls Try.prog 132 #[.slice A n c, .int .i64 ((a : Nat) : Int), .int .i64 ((b : Nat) : Int), .func (.func fc) #[] #[]] w fun e w' => e = .returned (.tuple #[]) ∧ Mem B w0 (iOwn (tSl (tCk K) 117) [.slice A n c] (insL (ltc cf) a (b - a - 1) (a + 1) xs) :: is) w' := by
 refine call_enterW (L := [(0, .slice A n c), (1, .int .i64 ((a : Nat) : Int)), (2, .int .i64 ((b : Nat) : Int)), (3, .func (.func fc) #[] #[])]) (N := 53) Try.func132 rfl rfl (Nat.le_of_ble_eq_true rfl) (argsL_cons rfl (argsL_cons rfl (argsL_cons rfl (argsL_cons rfl argsL_nil)))) hm ?_
 refine sr ?_
 refine wm ?_
 refine wv (fun W hm => rv_addN (p := a) (q := 1) rfl rfl (by omega)) ?_
 refine wa ?_
 refine nt' ?_
 refine CM_block ?_
 refine CM_loop (σ := Nat × List (List Value × α)) (fun s => [(0, .slice A n c), (1, .int .i64 ((a : Nat) : Int)), (2, .int .i64 ((b : Nat) : Int)), (3, .func (.func fc) #[] #[]), (8, .int .i64 ((s.1 : Nat) : Int))]) (fun s => (iOwn (tSl (tCk K) 117) [.slice A n c] s.2 :: is)) (fun s => insL (ltc cf) a (b - s.1) s.1 s.2 = insL (ltc cf) a (b - a - 1) (a + 1) xs ∧ a < s.1) (fun s => b - s.1) (a + 1, xs) (subL_cons rfl (subL_cons rfl (subL_cons rfl (subL_cons rfl (subL_cons rfl subL_nil))))) (fun W hm => hm) ⟨(show insL (ltc cf) a (b - (a + 1)) (a + 1) xs = insL (ltc cf) a (b - a - 1) (a + 1) xs from by rw [show b - (a + 1) = b - a - 1 by omega]), (show a < (a + 1) from by omega)⟩ ?_
 rintro ⟨i, d⟩ H1
 obtain ⟨hF, hai⟩ : insL (ltc cf) a (b - i) i d = insL (ltc cf) a (b - a - 1) (a + 1) xs ∧ a < i := H1
 show CM Try.prog 53 _ _ _ _ [(0, .slice A n c), (1, .int .i64 ((a : Nat) : Int)), (2, .int .i64 ((b : Nat) : Int)), (3, .func (.func fc) #[] #[]), (8, .int .i64 ((i : Nat) : Int))] (iOwn (tSl (tCk K) 117) [.slice A n c] d :: is)
 refine CM_seq ?_
 refine sr ?_
 refine wm ?_
 refine wm ?_
 refine wv (fun W hm => rv_lss rfl rfl) ?_
 refine nt' ?_
 by_cases h2 : ((i : Nat) : Int) < ((b : Nat) : Int)
 ·have g3 : (decide (((i : Nat) : Int) < ((b : Nat) : Int))) = true := decide_eq_true h2
  refine CM_condT rfl g3 ?_
  refine CM_skip ?_
  refine QM_then ?_
  refine CM_seq ?_
  refine CM_block ?_
  refine sr ?_
  refine wm ?_
  refine wa ?_
  refine nt' ?_
  refine CM_block ?_
  refine CM_loop (σ := Nat × List (List Value × α)) (fun s => [(0, .slice A n c), (1, .int .i64 ((a : Nat) : Int)), (2, .int .i64 ((b : Nat) : Int)), (3, .func (.func fc) #[] #[]), (8, .int .i64 ((i : Nat) : Int)), (9, .int .i64 ((s.1 : Nat) : Int))]) (fun s => (iOwn (tSl (tCk K) 117) [.slice A n c] s.2 :: is)) (fun s => ins1 (ltc cf) a s.1 s.2 = ins1 (ltc cf) a i d ∧ s.1 ≤ i ∧ a ≤ s.1) (fun s => s.1) (i, d) (subL_cons rfl (subL_cons rfl (subL_cons rfl (subL_cons rfl (subL_cons rfl (subL_cons rfl subL_nil)))))) (fun W hm => hm) ⟨(show ins1 (ltc cf) a i d = ins1 (ltc cf) a i d from rfl), (show i ≤ i from by omega), (show a ≤ i from by omega)⟩ ?_
  rintro ⟨j, e⟩ H4
  obtain ⟨hG, hji, haj⟩ : ins1 (ltc cf) a j e = ins1 (ltc cf) a i d ∧ j ≤ i ∧ a ≤ j := H4
  show CM Try.prog 53 _ _ _ _ [(0, .slice A n c), (1, .int .i64 ((a : Nat) : Int)), (2, .int .i64 ((b : Nat) : Int)), (3, .func (.func fc) #[] #[]), (8, .int .i64 ((i : Nat) : Int)), (9, .int .i64 ((j : Nat) : Int))] (iOwn (tSl (tCk K) 117) [.slice A n c] e :: is)
  refine CM_seq ?_
  refine CM_seq ?_
  refine CM_formO (n := 0) rfl (by omega) ?_
  rintro g5 rfl
  refine CM_regionD (by kernel_rfl) (by kernel_rfl) ?_
  refine qm ?_
  refine qm ?_
  refine qv (fun W hm => rv_gtr rfl rfl) ?_
  refine qm ?_
  by_cases h6 : ((a : Nat) : Int) < ((j : Nat) : Int)
  ·have g7 : (decide (((a : Nat) : Int) < ((j : Nat) : Int))) = true := decide_eq_true h6
   refine qg (fun W hm => rv_move rfl) g7 ?_
   refine qg (fun W hm => rv_move rfl) g7 ?_
   refine qg (fun W hm => rv_move rfl) g7 ?_
   refine qg (fun W hm => rv_index (sz := K.s) (k := j) Try.underlying54 Try.type117 hK.symm rfl rfl (by omega)) g7 ?_
   refine qg (fun W hm => rv_loadCk Try.underlying117 Try.type117 hK.symm rfl hm (by omega)) g7 ?_
   refine qg (fun W hm => rv_move rfl) g7 ?_
   refine qg (fun W hm => rv_move rfl) g7 ?_
   refine qg (fun W hm => rv_subN (p := j) (q := 1) rfl rfl (by omega) (by omega)) g7 ?_
   refine qg (fun W hm => rv_index (sz := K.s) (k := j - 1) Try.underlying54 Try.type117 hK.symm rfl rfl (by omega)) g7 ?_
   refine qg (fun W hm => rv_loadCk Try.underlying117 Try.type117 hK.symm rfl hm (by omega)) g7 ?_
   refine QR_callV (cl_val (first := []) (caps := []) (vs := [.agg (gt e j).1.toArray, .agg (gt e (j - 1)).1.toArray]) (args := [.agg (gt e j).1.toArray, .agg (gt e (j - 1)).1.toArray]) H.cb rfl rfl rfl) (fun W hm => H.go W (gt e j) (gt e (j - 1)) hm.tail (hm.ck (by omega)).1 (hm.ck (by omega)).1) (Wd_some rfl rfl rfl (bw g7 rfl)) (by decide) ?_
   refine qg (fun W hm => rv_lss rfl rfl) g7 ?_
   refine qv (fun W hm => rv_pickT rfl g7 rfl) ?_
   refine nq' ?_
   by_cases h8 : (cf (gt e j).2 (gt e (j - 1)).2) < 0
   ·have g9 : (decide ((cf (gt e j).2 (gt e (j - 1)).2) < 0)) = true := decide_eq_true h8
    refine CM_condT rfl g9 ?_
    refine CM_skip ?_
    refine QM_then ?_
    refine CM_seq ?_
    refine CM_block ?_
    refine CM_ck ?_
    intro hR10
    refine CM_cut (σ := Unit) (fun _ => [(0, .slice (some ⟨g5, 0, none⟩) n c), (1, .int .i64 ((a : Nat) : Int)), (2, .int .i64 ((b : Nat) : Int)), (3, .func (.func fc) #[] #[]), (8, .int .i64 ((i : Nat) : Int)), (9, .int .i64 ((j : Nat) : Int))]) (fun _ => (iOwn (tSl (tCk K) 117) [.slice (some ⟨g5, 0, none⟩) n c] ((e.set j (gt e (j - 1))).set (j - 1) (gt e j)) :: is)) (fun _ => True) ?_ ?_
    ·
     refine rb 18 (s := (is)) (fun W hm => (hm).tail) ?_
     refine qt 18 0 1 rfl (fun W hm => rv_move rfl) ?_
     refine qt 18 1 3 rfl (fun W hm => rv_move rfl) ?_
     refine qt 18 2 7 rfl (fun W hm => rv_move rfl) ?_
     refine qt 18 3 15 rfl (fun W hm => rv_move rfl) ?_
     refine qt 18 4 31 rfl (fun W hm => rv_subN (p := j) (q := 1) rfl rfl (by omega) (by omega)) ?_
     refine qt 18 5 63 rfl (fun W hm => rv_move rfl) ?_
     refine qt 18 6 127 rfl (fun W hm => rv_move rfl) ?_
     refine qt 18 7 255 rfl (fun W hm => rv_subN (p := j) (q := 1) rfl rfl (by omega) (by omega)) ?_
     refine qt 18 8 511 rfl (fun W hm => rv_index (sz := K.s) (k := j - 1) Try.underlying54 Try.type117 hK.symm rfl rfl (by omega)) ?_
     refine qt 18 10 1535 rfl (fun W hm => rv_move rfl) ?_
     refine qt 18 11 3583 rfl (fun W hm => rv_move rfl) ?_
     refine qt 18 12 7679 rfl (fun W hm => rv_index (sz := K.s) (k := j) Try.underlying54 Try.type117 hK.symm rfl rfl (by omega)) ?_
     refine qa [9, 13] ?_
     refine qc 18 8191 rfl ?_ ?_
     ·
      refine wv (fun W hm => rv_loadCk Try.underlying117 Try.type117 hK.symm rfl hm (by omega)) ?_
      refine qn (fun W hm => (hm).tail) ?_
      refine qo 18 13 16383 rfl ?_
      refine wv (fun W hm => rv_loadCk Try.underlying117 Try.type117 hK.symm rfl hm (by omega)) ?_
      refine qn (fun W hm => (hm).tail) ?_
      refine qt 18 14 32767 rfl (fun W hm => rv_index (sz := K.s) (k := j) Try.underlying54 Try.type117 hK.symm rfl rfl (by omega)) ?_
      refine qo 18 15 65535 rfl ?_
      refine WM_setEl (E := tCk K) (e := 117) (u := .agg (gt e (j - 1)).1.toArray) (k := j) (p := g5) (n := n) (xs := e) (eis := []) (js := is) (yv := (gt e (j - 1))) (fun W hm => hm) (fun _ _ hs => ⟨hs, rfl, (hR10 (j - 1) (by omega))⟩) rfl Try.type117 hK.symm (by omega) rfl rfl (Wd_none rfl) ?_
      refine qn (fun W hm => (hm).tail) ?_
      refine qt 18 16 131071 rfl (fun W hm => rv_index (sz := K.s) (k := j - 1) Try.underlying54 Try.type117 hK.symm rfl rfl (by omega)) ?_
      refine qo 18 17 262143 rfl ?_
      refine WM_setEl (E := tCk K) (e := 117) (u := .agg (gt e j).1.toArray) (k := (j - 1)) (p := g5) (n := n) (xs := (e.set j (gt e (j - 1)))) (eis := []) (js := is) (yv := (gt e j)) (fun W hm => hm) (fun _ _ hs => ⟨hs, rfl, (hR10 j (by omega))⟩) rfl Try.type117 hK.symm (by omega) rfl rfl (Wd_none rfl) ?_
      refine qn (fun W hm => (hm).tail) ?_
      refine QB_done (by kernel_rfl) ?_
      exact QM_cut_normal () (subL_cons rfl (subL_cons rfl (subL_cons rfl (subL_cons rfl (subL_cons rfl (subL_cons rfl subL_nil)))))) (fun W hm => hm) trivial
     refine qc 18 15871 rfl ?_ ?_
     ·
      refine wv (fun W hm => rv_loadCk Try.underlying117 Try.type117 hK.symm rfl hm (by omega)) ?_
      refine qn (fun W hm => (hm).tail) ?_
      refine qo 18 9 16383 rfl ?_
      refine wv (fun W hm => rv_loadCk Try.underlying117 Try.type117 hK.symm rfl hm (by omega)) ?_
      refine qn (fun W hm => (hm).tail) ?_
      refine qt 18 14 32767 rfl (fun W hm => rv_index (sz := K.s) (k := j) Try.underlying54 Try.type117 hK.symm rfl rfl (by omega)) ?_
      refine qo 18 15 65535 rfl ?_
      refine WM_setEl (E := tCk K) (e := 117) (u := .agg (gt e (j - 1)).1.toArray) (k := j) (p := g5) (n := n) (xs := e) (eis := []) (js := is) (yv := (gt e (j - 1))) (fun W hm => hm) (fun _ _ hs => ⟨hs, rfl, (hR10 (j - 1) (by omega))⟩) rfl Try.type117 hK.symm (by omega) rfl rfl (Wd_none rfl) ?_
      refine qn (fun W hm => (hm).tail) ?_
      refine qt 18 16 131071 rfl (fun W hm => rv_index (sz := K.s) (k := j - 1) Try.underlying54 Try.type117 hK.symm rfl rfl (by omega)) ?_
      refine qo 18 17 262143 rfl ?_
      refine WM_setEl (E := tCk K) (e := 117) (u := .agg (gt e j).1.toArray) (k := (j - 1)) (p := g5) (n := n) (xs := (e.set j (gt e (j - 1)))) (eis := []) (js := is) (yv := (gt e j)) (fun W hm => hm) (fun _ _ hs => ⟨hs, rfl, (hR10 j (by omega))⟩) rfl Try.type117 hK.symm (by omega) rfl rfl (Wd_none rfl) ?_
      refine qn (fun W hm => (hm).tail) ?_
      refine QB_done (by kernel_rfl) ?_
      exact QM_cut_normal () (subL_cons rfl (subL_cons rfl (subL_cons rfl (subL_cons rfl (subL_cons rfl (subL_cons rfl subL_nil)))))) (fun W hm => hm) trivial
     exact QBs_nil
    ·
     rintro ⟨⟩ -
     show QM 53 _ _ _ .normal [(0, .slice (some ⟨g5, 0, none⟩) n c), (1, .int .i64 ((a : Nat) : Int)), (2, .int .i64 ((b : Nat) : Int)), (3, .func (.func fc) #[] #[]), (8, .int .i64 ((i : Nat) : Int)), (9, .int .i64 ((j : Nat) : Int))] (iOwn (tSl (tCk K) 117) [.slice (some ⟨g5, 0, none⟩) n c] ((e.set j (gt e (j - 1))).set (j - 1) (gt e j)) :: is)
     refine QM_block_normal ?_
     refine QM_then ?_
     refine CM_region ?_
     refine wm ?_
     refine wv (fun W hm => rv_subN (p := j) (q := 1) rfl rfl (by omega) (by omega)) ?_
     refine wa ?_
     refine WM_nil ?_
     exact QM_round (j - 1, ((e.set j (gt e (j - 1))).set (j - 1) (gt e j))) (subL_cons rfl (subL_cons rfl (subL_cons rfl (subL_cons rfl (subL_cons rfl (subL_cons rfl subL_nil)))))) (fun W hm => hm) ⟨(show ins1 (ltc cf) a (j - 1) ((e.set j (gt e (j - 1))).set (j - 1) (gt e j)) = ins1 (ltc cf) a i d from (ins1_t (by omega) (show decide (cf (gt e j).2 (gt e (j - 1)).2 < 0) = true from decide_eq_true (by omega))).symm.trans hG), (show (j - 1) ≤ i from by omega), (show a ≤ (j - 1) from by omega)⟩ (show (j - 1) < j from by omega)
   ·have g9 : (decide ((cf (gt e j).2 (gt e (j - 1)).2) < 0)) = false := decide_eq_false h8
    refine CM_condF rfl g9 ?_
    refine CM_exit ?_
    refine QM_then_exit ?_
    refine QM_then_exit ?_
    refine QM_block_hit ?_
    refine QM_block_normal ?_
    refine QM_then ?_
    refine CM_region ?_
    refine wm ?_
    refine wv (fun W hm => rv_addN (p := i) (q := 1) rfl rfl (by omega)) ?_
    refine wa ?_
    refine WM_nil ?_
    exact QM_round (i + 1, e) (subL_cons rfl (subL_cons rfl (subL_cons rfl (subL_cons rfl (subL_cons rfl subL_nil))))) (fun W hm => hm) ⟨(show insL (ltc cf) a (b - (i + 1)) (i + 1) e = insL (ltc cf) a (b - a - 1) (a + 1) xs from (congrArg (insL (ltc cf) a (b - (i + 1)) (i + 1)) ((ins1_f (by rintro ⟨q1, q2⟩; have q3 := of_decide_eq_true (p := cf (gt e j).2 (gt e (j - 1)).2 < 0) q2; omega)).symm.trans hG)).trans ((insL_step (by omega)).symm.trans hF)), (show a < (i + 1) from by omega)⟩ (show b - (i + 1) < b - i from by omega)
  ·have g7 : (decide (((a : Nat) : Int) < ((j : Nat) : Int))) = false := decide_eq_false h6
   refine qs g7 ?_
   refine qs g7 ?_
   refine qs g7 ?_
   refine qs g7 ?_
   refine qs g7 ?_
   refine qs g7 ?_
   refine qs g7 ?_
   refine qs g7 ?_
   refine qs g7 ?_
   refine qs g7 ?_
   refine qs g7 ?_
   refine qs g7 ?_
   refine qv (fun W hm => rv_pickF rfl g7 rfl) ?_
   refine nq' ?_
   refine CM_condF rfl rfl ?_
   refine CM_exit ?_
   refine QM_then_exit ?_
   refine QM_then_exit ?_
   refine QM_block_hit ?_
   refine QM_block_normal ?_
   refine QM_then ?_
   refine CM_region ?_
   refine wm ?_
   refine wv (fun W hm => rv_addN (p := i) (q := 1) rfl rfl (by omega)) ?_
   refine wa ?_
   refine WM_nil ?_
   exact QM_round (i + 1, e) (subL_cons rfl (subL_cons rfl (subL_cons rfl (subL_cons rfl (subL_cons rfl subL_nil))))) (fun W hm => hm) ⟨(show insL (ltc cf) a (b - (i + 1)) (i + 1) e = insL (ltc cf) a (b - a - 1) (a + 1) xs from (congrArg (insL (ltc cf) a (b - (i + 1)) (i + 1)) ((ins1_f (by rintro ⟨q1, q2⟩; have q3 := of_decide_eq_true (p := cf (gt e j).2 (gt e (j - 1)).2 < 0) q2; omega)).symm.trans hG)).trans ((insL_step (by omega)).symm.trans hF)), (show a < (i + 1) from by omega)⟩ (show b - (i + 1) < b - i from by omega)
 ·have g3 : (decide (((i : Nat) : Int) < ((b : Nat) : Int))) = false := decide_eq_false h2
  refine CM_condF rfl g3 ?_
  refine CM_exit ?_
  refine QM_then_exit ?_
  refine QM_then_exit ?_
  refine QM_block_hit ?_
  have hE : insL (ltc cf) a (b - a - 1) (a + 1) xs = d := ((insL_end (by omega)).symm.trans hF).symm
  exact QM_ret0 rfl (fun W hm => ⟨rfl, by rw [hE]; exact hm⟩)

set_option maxRecDepth 100000 in
theorem cb137 : Cb Try.prog 137 := ⟨Try.f137, _, Try.func137, rfl, by decide⟩
set_option maxRecDepth 10000 in
set_option maxHeartbeats 4000000 in
theorem srt88_rot_c {α : Type} [Inhabited α] (K : Ck α) (hK : K.s = 4) (cf : α → α → Int) (fc : FuncId) (B : Nat) (w0 : World) (is : List It) (H : CmpOk Try.prog fc K B w0 is cf) (A : Option Addr) (n c : Nat) (hn : n ≤ 68719476736) (a : Nat) (m : Nat) (b : Nat) (xs : List (List Value × α)) (h1 : a < m) (h2 : m < b) (h3 : b ≤ n) (w : World) (hm : Mem B w0 (iOwn (tSl (tCk K) 117) [.slice A n c] xs :: is) w) :
  Calls Try.prog 137 #[.slice A n c, .int .i64 ((a : Nat) : Int), .int .i64 ((m : Nat) : Int), .int .i64 ((b : Nat) : Int), .func (.func fc) #[] #[]] w fun e w' => e = .returned (.tuple #[]) ∧ Mem B w0 (iOwn (tSl (tCk K) 117) [.slice A n c] (rot (b - a) m (m - a) (b - m) xs) :: is) w' := by
 refine call_enterW (L := [(0, .slice A n c), (1, .int .i64 ((a : Nat) : Int)), (2, .int .i64 ((m : Nat) : Int)), (3, .int .i64 ((b : Nat) : Int)), (4, .func (.func fc) #[] #[])]) (N := 58) Try.func137 rfl rfl (Nat.le_of_ble_eq_true rfl) (argsL_cons rfl (argsL_cons rfl (argsL_cons rfl (argsL_cons rfl (argsL_cons rfl argsL_nil))))) hm ?_
 refine sr ?_
 refine wm ?_
 refine wm ?_
 refine wv (fun W hm => rv_subN (p := m) (q := a) rfl rfl (by omega) (by omega)) ?_
 refine wa ?_
 refine nt' ?_
 refine sr ?_
 refine wm ?_
 refine wm ?_
 refine wv (fun W hm => rv_subN (p := b) (q := m) rfl rfl (by omega) (by omega)) ?_
 refine wa ?_
 refine nt' ?_
 refine CM_seq ?_
 refine CM_block ?_
 refine CM_loop (σ := Nat × Nat × Nat × List (List Value × α)) (fun s => [(0, .slice A n c), (2, .int .i64 ((m : Nat) : Int)), (4, .func (.func fc) #[] #[]), (10, .int .i64 ((s.1 : Nat) : Int)), (11, .int .i64 ((s.2.1 : Nat) : Int))]) (fun s => (iOwn (tSl (tCk K) 117) [.slice A n c] s.2.2.2 :: is)) (fun s => rot s.2.2.1 m s.1 s.2.1 s.2.2.2 = rot (b - a) m (m - a) (b - m) xs ∧ s.1 + s.2.1 ≤ s.2.2.1 ∧ 0 < s.1 ∧ 0 < s.2.1 ∧ a + s.1 ≤ m ∧ m + s.2.1 ≤ b) (fun s => s.1 + s.2.1) (m - a, b - m, b - a, xs) (subL_cons rfl (subL_cons rfl (subL_cons rfl (subL_cons rfl (subL_cons rfl subL_nil))))) (fun W hm => hm) ⟨(show rot (b - a) m (m - a) (b - m) xs = rot (b - a) m (m - a) (b - m) xs from rfl), (show (m - a) + (b - m) ≤ (b - a) from by omega), (show 0 < (m - a) from by omega), (show 0 < (b - m) from by omega), (show a + (m - a) ≤ m from by omega), (show m + (b - m) ≤ b from by omega)⟩ ?_
 rintro ⟨i, j, f, d⟩ H1
 obtain ⟨hF, hf5, hf6, hf7, hf8, hf9⟩ : rot f m i j d = rot (b - a) m (m - a) (b - m) xs ∧ i + j ≤ f ∧ 0 < i ∧ 0 < j ∧ a + i ≤ m ∧ m + j ≤ b := H1
 show CM Try.prog 58 _ _ _ _ [(0, .slice A n c), (2, .int .i64 ((m : Nat) : Int)), (4, .func (.func fc) #[] #[]), (10, .int .i64 ((i : Nat) : Int)), (11, .int .i64 ((j : Nat) : Int))] (iOwn (tSl (tCk K) 117) [.slice A n c] d :: is)
 refine CM_seq ?_
 refine sr ?_
 refine wm ?_
 refine wm ?_
 refine wv (fun W hm => rv_neq rfl rfl) ?_
 refine nt' ?_
 by_cases h2 : ((i : Nat) : Int) = ((j : Nat) : Int)
 ·have g3 : (((i : Nat) : Int) != ((j : Nat) : Int)) = false := by rw [h2]; exact bne_self_eq_false _
  refine CM_condF rfl g3 ?_
  refine CM_exit ?_
  refine QM_then_exit ?_
  refine QM_then_exit ?_
  refine QM_block_hit ?_
  refine QM_then ?_
  refine CM_region ?_
  refine wm ?_
  refine wm ?_
  refine wm ?_
  refine wv (fun W hm => rv_subN (p := m) (q := i) rfl rfl (by omega) (by omega)) ?_
  refine wm ?_
  refine wm ?_
  refine wm ?_
  refine WM_callW (χ := Unit) (val := fun _ => .tuple #[]) (js := fun _ => (iOwn (tSl (tCk K) 117) [.slice A n c] (swr i (m - i) m d) :: is)) (cl_fn cb140 rfl) (fun W hm => (srt88_swr_c K hK cf fc B w0 is H A n c hn (m - i) m i d (by omega) (by omega) W hm).mono (fun _ _ h => ⟨(), h.1, h.2⟩)) (Wd_none rfl) (by decide) (fun _ => ?_)
  refine WM_nil ?_
  have hE : rot (b - a) m (m - a) (b - m) xs = (swr i (m - i) m d) := ((rot_eq (by omega) hf5 hf6).symm.trans hF).symm
  exact QM_ret0 rfl (fun W hm => ⟨rfl, by rw [hE]; exact hm⟩)
 ·have g3 : (((i : Nat) : Int) != ((j : Nat) : Int)) = true := bne_iff_ne.2 h2
  refine CM_condT rfl g3 ?_
  refine CM_skip ?_
  refine QM_then ?_
  refine CM_block ?_
  refine sr ?_
  refine wm ?_
  refine wm ?_
  refine wv (fun W hm => rv_gtr rfl rfl) ?_
  refine nt' ?_
  by_cases h4 : ((j : Nat) : Int) < ((i : Nat) : Int)
  ·have g5 : (decide (((j : Nat) : Int) < ((i : Nat) : Int))) = true := decide_eq_true h4
   refine CM_condT rfl g5 ?_
   refine sr ?_
   refine wm ?_
   refine wm ?_
   refine wm ?_
   refine wv (fun W hm => rv_subN (p := m) (q := i) rfl rfl (by omega) (by omega)) ?_
   refine wm ?_
   refine wm ?_
   refine wm ?_
   refine WM_callW (χ := Unit) (val := fun _ => .tuple #[]) (js := fun _ => (iOwn (tSl (tCk K) 117) [.slice A n c] (swr j (m - i) m d) :: is)) (cl_fn cb140 rfl) (fun W hm => (srt88_swr_c K hK cf fc B w0 is H A n c hn (m - i) m j d (by omega) (by omega) W hm).mono (fun _ _ h => ⟨(), h.1, h.2⟩)) (Wd_none rfl) (by decide) (fun _ => ?_)
   refine nt' ?_
   refine CM_region ?_
   refine wm ?_
   refine wm ?_
   refine wv (fun W hm => rv_subN (p := i) (q := j) rfl rfl (by omega) (by omega)) ?_
   refine wa ?_
   refine WM_nil ?_
   refine QM_block_normal ?_
   exact QM_round (i - j, j, f - 1, (swr j (m - i) m d)) (subL_cons rfl (subL_cons rfl (subL_cons rfl (subL_cons rfl (subL_cons rfl subL_nil))))) (fun W hm => hm) ⟨(show rot (f - 1) m (i - j) j (swr j (m - i) m d) = rot (b - a) m (m - a) (b - m) xs from (rot_gt (by omega) hf5).symm.trans hF), (show (i - j) + j ≤ (f - 1) from by omega), (show 0 < (i - j) from by omega), (show 0 < j from by omega), (show a + (i - j) ≤ m from by omega), (show m + j ≤ b from by omega)⟩ (show (i - j) + j < i + j from by omega)
  ·have g5 : (decide (((j : Nat) : Int) < ((i : Nat) : Int))) = false := decide_eq_false h4
   refine CM_condF rfl g5 ?_
   refine sr ?_
   refine wm ?_
   refine wm ?_
   refine wm ?_
   refine wv (fun W hm => rv_subN (p := m) (q := i) rfl rfl (by omega) (by omega)) ?_
   refine wm ?_
   refine wm ?_
   refine wv (fun W hm => rv_addN (p := m) (q := j) rfl rfl (by omega)) ?_
   refine wm ?_
   refine wv (fun W hm => rv_subN (p := m + j) (q := i) rfl rfl (by omega) (by omega)) ?_
   refine wm ?_
   refine wm ?_
   refine WM_callW (χ := Unit) (val := fun _ => .tuple #[]) (js := fun _ => (iOwn (tSl (tCk K) 117) [.slice A n c] (swr i (m - i) (m + j - i) d) :: is)) (cl_fn cb140 rfl) (fun W hm => (srt88_swr_c K hK cf fc B w0 is H A n c hn (m - i) (m + j - i) i d (by omega) (by omega) W hm).mono (fun _ _ h => ⟨(), h.1, h.2⟩)) (Wd_none rfl) (by decide) (fun _ => ?_)
   refine nt' ?_
   refine CM_region ?_
   refine wm ?_
   refine wm ?_
   refine wv (fun W hm => rv_subN (p := j) (q := i) rfl rfl (by omega) (by omega)) ?_
   refine wa ?_
   refine WM_nil ?_
   refine QM_block_normal ?_
   exact QM_round (i, j - i, f - 1, (swr i (m - i) (m + j - i) d)) (subL_cons rfl (subL_cons rfl (subL_cons rfl (subL_cons rfl (subL_cons rfl subL_nil))))) (fun W hm => hm) ⟨(show rot (f - 1) m i (j - i) (swr i (m - i) (m + j - i) d) = rot (b - a) m (m - a) (b - m) xs from (rot_lt (by omega) hf5).symm.trans hF), (show i + (j - i) ≤ (f - 1) from by omega), (show 0 < i from by omega), (show 0 < (j - i) from by omega), (show a + i ≤ m from by omega), (show m + (j - i) ≤ b from by omega)⟩ (show i + (j - i) < i + j from by omega)

set_option maxRecDepth 100000 in
theorem cb133 : Cb Try.prog 133 := ⟨Try.f133, _, Try.func133, rfl, by decide⟩
set_option maxRecDepth 10000 in
set_option maxHeartbeats 4000000 in
theorem srt88_symm_c {α : Type} [Inhabited α] (K : Ck α) (hK : K.s = 4) (cf : α → α → Int) (fc : FuncId) (B : Nat) (w0 : World) (is : List It) (H : CmpOk Try.prog fc K B w0 is cf) (A : Option Addr) (n c : Nat) (hn : n ≤ 68719476736) :
  ∀ (f : Nat) (a : Nat) (m : Nat) (b : Nat) (xs : List (List Value × α)) (h1 : b - a ≤ f) (h2 : a < m) (h3 : m < b) (h4 : b ≤ n) (w : World) (hm : Mem B w0 (iOwn (tSl (tCk K) 117) [.slice A n c] xs :: is) w),
  Calls Try.prog 133 #[.slice A n c, .int .i64 ((a : Nat) : Int), .int .i64 ((m : Nat) : Int), .int .i64 ((b : Nat) : Int), .func (.func fc) #[] #[]] w fun e w' => e = .returned (.tuple #[]) ∧ Mem B w0 (iOwn (tSl (tCk K) 117) [.slice A n c] (symm (ltc cf) f a m b xs) :: is) w' := by
 intro f
 revert A
 induction f with
 | zero => intro A a m b xs h1 h2 h3 h4 w hm; exact absurd h1 (by omega)
 | succ f ih =>
 intro A a m b xs h1 h2 h3 h4 w hm
 replace ih := ih A
 refine call_enterW (L := [(0, .slice A n c), (1, .int .i64 ((a : Nat) : Int)), (2, .int .i64 ((m : Nat) : Int)), (3, .int .i64 ((b : Nat) : Int)), (4, .func (.func fc) #[] #[])]) (N := 220) Try.func133 rfl rfl (Nat.le_of_ble_eq_true rfl) (argsL_cons rfl (argsL_cons rfl (argsL_cons rfl (argsL_cons rfl (argsL_cons rfl argsL_nil))))) hm ?_
 refine CM_seq ?_
 refine sr ?_
 refine wm ?_
 refine wm ?_
 refine wv (fun W hm => rv_subN (p := m) (q := a) rfl rfl (by omega) (by omega)) ?_
 refine wv (fun W hm => rv_eql rfl rfl) ?_
 refine nt' ?_
 by_cases h1 : ((m - a : Nat) : Int) = 1
 ·have g2 : (((m - a : Nat) : Int) == 1) = true := beq_iff_eq.2 h1
  refine CM_condT rfl g2 ?_
  refine sr ?_
  refine wm ?_
  refine wa ?_
  refine nt' ?_
  refine sr ?_
  refine wm ?_
  refine wa ?_
  refine nt' ?_
  refine CM_seq ?_
  refine CM_block ?_
  refine CM_loop (σ := Nat × Nat × Nat) (fun s => [(0, .slice A n c), (1, .int .i64 ((a : Nat) : Int)), (4, .func (.func fc) #[] #[]), (10, .int .i64 ((s.1 : Nat) : Int)), (11, .int .i64 ((s.2.1 : Nat) : Int))]) (fun s => (iOwn (tSl (tCk K) 117) [.slice A n c] xs :: is)) (fun s => bsr (fun h => ltc cf (gt xs h) (gt xs a)) s.2.2 s.1 s.2.1 = bsr (fun h => ltc cf (gt xs h) (gt xs a)) (b - m) m b ∧ s.2.1 ≤ s.2.2 + s.1 ∧ m ≤ s.1 ∧ s.1 ≤ s.2.1 ∧ s.2.1 ≤ b) (fun s => s.2.1 - s.1) (m, b, b - m) (subL_cons rfl (subL_cons rfl (subL_cons rfl (subL_cons rfl (subL_cons rfl subL_nil))))) (fun W hm => hm) ⟨(show bsr (fun h => ltc cf (gt xs h) (gt xs a)) (b - m) m b = bsr (fun h => ltc cf (gt xs h) (gt xs a)) (b - m) m b from rfl), (show b ≤ (b - m) + m from by omega), (show m ≤ m from by omega), (show m ≤ b from by omega), (show b ≤ b from by omega)⟩ ?_
  rintro ⟨i, j, f0⟩ H3
  obtain ⟨hB, hf5, hf6, hf7, hf8⟩ : bsr (fun h => ltc cf (gt xs h) (gt xs a)) f0 i j = bsr (fun h => ltc cf (gt xs h) (gt xs a)) (b - m) m b ∧ j ≤ f0 + i ∧ m ≤ i ∧ i ≤ j ∧ j ≤ b := H3
  show CM Try.prog 220 _ _ _ _ [(0, .slice A n c), (1, .int .i64 ((a : Nat) : Int)), (4, .func (.func fc) #[] #[]), (10, .int .i64 ((i : Nat) : Int)), (11, .int .i64 ((j : Nat) : Int))] (iOwn (tSl (tCk K) 117) [.slice A n c] xs :: is)
  refine CM_seq ?_
  refine sr ?_
  refine wm ?_
  refine wm ?_
  refine wv (fun W hm => rv_lss rfl rfl) ?_
  refine nt' ?_
  by_cases h4 : ((i : Nat) : Int) < ((j : Nat) : Int)
  ·have g5 : (decide (((i : Nat) : Int) < ((j : Nat) : Int))) = true := decide_eq_true h4
   refine CM_condT rfl g5 ?_
   refine CM_skip ?_
   refine QM_then ?_
   refine CM_block ?_
   refine sr ?_
   refine wm ?_
   refine wm ?_
   refine wv (fun W hm => rv_addN (p := i) (q := j) rfl rfl (by omega)) ?_
   refine wv (fun W hm => rv_convIU (p := i + j) Try.underlying3 Try.underlying152 rfl (by omega)) ?_
   refine wv (fun W hm => rv_half rfl) ?_
   refine wv (fun W hm => rv_convUI (p := (i + j) / 2) Try.underlying152 Try.underlying3 rfl (by omega)) ?_
   refine wa ?_
   refine nt' ?_
   refine CM_seq ?_
   refine CM_formO (n := 0) rfl (by omega) ?_
   rintro g6 rfl
   refine CM_regionD (by kernel_rfl) (by kernel_rfl) ?_
   refine qm ?_
   refine qm ?_
   refine qm ?_
   refine qv (fun W hm => rv_index (sz := K.s) (k := (i + j) / 2) Try.underlying54 Try.type117 hK.symm rfl rfl (by omega)) ?_
   refine qv (fun W hm => rv_loadCk Try.underlying117 Try.type117 hK.symm rfl hm (by omega)) ?_
   refine qm ?_
   refine qm ?_
   refine qv (fun W hm => rv_index (sz := K.s) (k := a) Try.underlying54 Try.type117 hK.symm rfl rfl (by omega)) ?_
   refine qv (fun W hm => rv_loadCk Try.underlying117 Try.type117 hK.symm rfl hm (by omega)) ?_
   refine QR_callV (cl_val (first := []) (caps := []) (vs := [.agg (gt xs ((i + j) / 2)).1.toArray, .agg (gt xs a).1.toArray]) (args := [.agg (gt xs ((i + j) / 2)).1.toArray, .agg (gt xs a).1.toArray]) H.cb rfl rfl rfl) (fun W hm => H.go W (gt xs ((i + j) / 2)) (gt xs a) hm.tail (hm.ck (by omega)).1 (hm.ck (by omega)).1) (Wd_none rfl) (by decide) ?_
   refine qv (fun W hm => rv_lss rfl rfl) ?_
   refine nq' ?_
   by_cases h7 : (cf (gt xs ((i + j) / 2)).2 (gt xs a).2) < 0
   ·have g8 : (decide ((cf (gt xs ((i + j) / 2)).2 (gt xs a).2) < 0)) = true := decide_eq_true h7
    refine CM_condT rfl g8 ?_
    refine CM_region ?_
    refine wm ?_
    refine wv (fun W hm => rv_addN (p := (i + j) / 2) (q := 1) rfl rfl (by omega)) ?_
    refine wa ?_
    refine WM_nil ?_
    refine QM_block_normal ?_
    exact QM_round ((i + j) / 2 + 1, j, f0 - 1) (subL_cons rfl (subL_cons rfl (subL_cons rfl (subL_cons rfl (subL_cons rfl subL_nil))))) (fun W hm => hm) ⟨(show bsr (fun h => ltc cf (gt xs h) (gt xs a)) (f0 - 1) ((i + j) / 2 + 1) j = bsr (fun h => ltc cf (gt xs h) (gt xs a)) (b - m) m b from (bsr_t (by omega) hf5 (show decide (cf (gt xs ((i + j) / 2)).2 (gt xs a).2 < 0) = true from decide_eq_true (by omega))).symm.trans hB), (show j ≤ (f0 - 1) + ((i + j) / 2 + 1) from by omega), (show m ≤ ((i + j) / 2 + 1) from by omega), (show ((i + j) / 2 + 1) ≤ j from by omega), (show j ≤ b from by omega)⟩ (show j - ((i + j) / 2 + 1) < j - i from by omega)
   ·have g8 : (decide ((cf (gt xs ((i + j) / 2)).2 (gt xs a).2) < 0)) = false := decide_eq_false h7
    refine CM_condF rfl g8 ?_
    refine CM_region ?_
    refine wm ?_
    refine wa ?_
    refine WM_nil ?_
    refine QM_block_normal ?_
    exact QM_round (i, (i + j) / 2, f0 - 1) (subL_cons rfl (subL_cons rfl (subL_cons rfl (subL_cons rfl (subL_cons rfl subL_nil))))) (fun W hm => hm) ⟨(show bsr (fun h => ltc cf (gt xs h) (gt xs a)) (f0 - 1) i ((i + j) / 2) = bsr (fun h => ltc cf (gt xs h) (gt xs a)) (b - m) m b from (bsr_f (by omega) hf5 (show decide (cf (gt xs ((i + j) / 2)).2 (gt xs a).2 < 0) = false from decide_eq_false (by omega))).symm.trans hB), (show ((i + j) / 2) ≤ (f0 - 1) + i from by omega), (show m ≤ i from by omega), (show i ≤ ((i + j) / 2) from by omega), (show ((i + j) / 2) ≤ b from by omega)⟩ (show ((i + j) / 2) - i < j - i from by omega)
  ·have g5 : (decide (((i : Nat) : Int) < ((j : Nat) : Int))) = false := decide_eq_false h4
   refine CM_condF rfl g5 ?_
   refine CM_exit ?_
   refine QM_then_exit ?_
   refine QM_then_exit ?_
   have hA : bsr (fun h => ltc cf (gt xs h) (gt xs a)) (b - m) m b = i := hB.symm.trans (bsr_e (by omega))
   refine QM_block_hit ?_
   refine QM_then ?_
   refine CM_seq ?_
   refine sr ?_
   refine wm ?_
   refine wa ?_
   refine nt' ?_
   refine CM_block ?_
   refine CM_loop (σ := Nat × List (List Value × α)) (fun s => [(0, .slice A n c), (10, .int .i64 ((i : Nat) : Int)), (13, .int .i64 ((s.1 : Nat) : Int))]) (fun s => (iOwn (tSl (tCk K) 117) [.slice A n c] s.2 :: is)) (fun s => mvU (i - 1 - s.1) s.1 s.2 = mvU (i - 1 - a) a xs ∧ a ≤ s.1) (fun s => i - 1 - s.1) (a, xs) (subL_cons rfl (subL_cons rfl (subL_cons rfl subL_nil))) (fun W hm => hm) ⟨(show mvU (i - 1 - a) a xs = mvU (i - 1 - a) a xs from rfl), (show a ≤ a from by omega)⟩ ?_
   rintro ⟨k, d⟩ H9
   obtain ⟨hU, hf9⟩ : mvU (i - 1 - k) k d = mvU (i - 1 - a) a xs ∧ a ≤ k := H9
   show CM Try.prog 220 _ _ _ _ [(0, .slice A n c), (10, .int .i64 ((i : Nat) : Int)), (13, .int .i64 ((k : Nat) : Int))] (iOwn (tSl (tCk K) 117) [.slice A n c] d :: is)
   refine CM_seq ?_
   refine sr ?_
   refine wm ?_
   refine wm ?_
   refine wv (fun W hm => rv_subN (p := i) (q := 1) rfl rfl (by omega) (by omega)) ?_
   refine wv (fun W hm => rv_lss rfl rfl) ?_
   refine nt' ?_
   by_cases h10 : ((k : Nat) : Int) < ((i - 1 : Nat) : Int)
   ·have g11 : (decide (((k : Nat) : Int) < ((i - 1 : Nat) : Int))) = true := decide_eq_true h10
    refine CM_condT rfl g11 ?_
    refine CM_skip ?_
    refine QM_then ?_
    refine CM_seq ?_
    refine CM_block ?_
    refine CM_formO (n := 0) rfl (by omega) ?_
    rintro g13 rfl
    refine CM_ck ?_
    intro hR12
    refine CM_cut (σ := Unit) (fun _ => [(0, .slice (some ⟨g13, 0, none⟩) n c), (10, .int .i64 ((i : Nat) : Int)), (13, .int .i64 ((k : Nat) : Int))]) (fun _ => (iOwn (tSl (tCk K) 117) [.slice (some ⟨g13, 0, none⟩) n c] ((d.set k (gt d (k + 1))).set (k + 1) (gt d k)) :: is)) (fun _ => True) ?_ ?_
    ·
     refine rb 18 (s := (is)) (fun W hm => (hm).tail) ?_
     refine qt 18 0 1 rfl (fun W hm => rv_move rfl) ?_
     refine qt 18 1 3 rfl (fun W hm => rv_move rfl) ?_
     refine qt 18 2 7 rfl (fun W hm => rv_move rfl) ?_
     refine qt 18 3 15 rfl (fun W hm => rv_move rfl) ?_
     refine qt 18 4 31 rfl (fun W hm => rv_addN (p := k) (q := 1) rfl rfl (by omega)) ?_
     refine qt 18 5 63 rfl (fun W hm => rv_move rfl) ?_
     refine qt 18 6 127 rfl (fun W hm => rv_move rfl) ?_
     refine qt 18 7 255 rfl (fun W hm => rv_addN (p := k) (q := 1) rfl rfl (by omega)) ?_
     refine qt 18 8 511 rfl (fun W hm => rv_index (sz := K.s) (k := k + 1) Try.underlying54 Try.type117 hK.symm rfl rfl (by omega)) ?_
     refine qt 18 10 1535 rfl (fun W hm => rv_move rfl) ?_
     refine qt 18 11 3583 rfl (fun W hm => rv_move rfl) ?_
     refine qt 18 12 7679 rfl (fun W hm => rv_index (sz := K.s) (k := k) Try.underlying54 Try.type117 hK.symm rfl rfl (by omega)) ?_
     refine qa [9, 13] ?_
     refine qc 18 8191 rfl ?_ ?_
     ·
      refine wv (fun W hm => rv_loadCk Try.underlying117 Try.type117 hK.symm rfl hm (by omega)) ?_
      refine qn (fun W hm => (hm).tail) ?_
      refine qo 18 13 16383 rfl ?_
      refine wv (fun W hm => rv_loadCk Try.underlying117 Try.type117 hK.symm rfl hm (by omega)) ?_
      refine qn (fun W hm => (hm).tail) ?_
      refine qt 18 14 32767 rfl (fun W hm => rv_index (sz := K.s) (k := k) Try.underlying54 Try.type117 hK.symm rfl rfl (by omega)) ?_
      refine qo 18 15 65535 rfl ?_
      refine WM_setEl (E := tCk K) (e := 117) (u := .agg (gt d (k + 1)).1.toArray) (k := k) (p := g13) (n := n) (xs := d) (eis := []) (js := is) (yv := (gt d (k + 1))) (fun W hm => hm) (fun _ _ hs => ⟨hs, rfl, (hR12 (k + 1) (by omega))⟩) rfl Try.type117 hK.symm (by omega) rfl rfl (Wd_none rfl) ?_
      refine qn (fun W hm => (hm).tail) ?_
      refine qt 18 16 131071 rfl (fun W hm => rv_index (sz := K.s) (k := k + 1) Try.underlying54 Try.type117 hK.symm rfl rfl (by omega)) ?_
      refine qo 18 17 262143 rfl ?_
      refine WM_setEl (E := tCk K) (e := 117) (u := .agg (gt d k).1.toArray) (k := (k + 1)) (p := g13) (n := n) (xs := (d.set k (gt d (k + 1)))) (eis := []) (js := is) (yv := (gt d k)) (fun W hm => hm) (fun _ _ hs => ⟨hs, rfl, (hR12 k (by omega))⟩) rfl Try.type117 hK.symm (by omega) rfl rfl (Wd_none rfl) ?_
      refine qn (fun W hm => (hm).tail) ?_
      refine QB_done (by kernel_rfl) ?_
      exact QM_cut_normal () (subL_cons rfl (subL_cons rfl (subL_cons rfl subL_nil))) (fun W hm => hm) trivial
     refine qc 18 15871 rfl ?_ ?_
     ·
      refine wv (fun W hm => rv_loadCk Try.underlying117 Try.type117 hK.symm rfl hm (by omega)) ?_
      refine qn (fun W hm => (hm).tail) ?_
      refine qo 18 9 16383 rfl ?_
      refine wv (fun W hm => rv_loadCk Try.underlying117 Try.type117 hK.symm rfl hm (by omega)) ?_
      refine qn (fun W hm => (hm).tail) ?_
      refine qt 18 14 32767 rfl (fun W hm => rv_index (sz := K.s) (k := k) Try.underlying54 Try.type117 hK.symm rfl rfl (by omega)) ?_
      refine qo 18 15 65535 rfl ?_
      refine WM_setEl (E := tCk K) (e := 117) (u := .agg (gt d (k + 1)).1.toArray) (k := k) (p := g13) (n := n) (xs := d) (eis := []) (js := is) (yv := (gt d (k + 1))) (fun W hm => hm) (fun _ _ hs => ⟨hs, rfl, (hR12 (k + 1) (by omega))⟩) rfl Try.type117 hK.symm (by omega) rfl rfl (Wd_none rfl) ?_
      refine qn (fun W hm => (hm).tail) ?_
      refine qt 18 16 131071 rfl (fun W hm => rv_index (sz := K.s) (k := k + 1) Try.underlying54 Try.type117 hK.symm rfl rfl (by omega)) ?_
      refine qo 18 17 262143 rfl ?_
      refine WM_setEl (E := tCk K) (e := 117) (u := .agg (gt d k).1.toArray) (k := (k + 1)) (p := g13) (n := n) (xs := (d.set k (gt d (k + 1)))) (eis := []) (js := is) (yv := (gt d k)) (fun W hm => hm) (fun _ _ hs => ⟨hs, rfl, (hR12 k (by omega))⟩) rfl Try.type117 hK.symm (by omega) rfl rfl (Wd_none rfl) ?_
      refine qn (fun W hm => (hm).tail) ?_
      refine QB_done (by kernel_rfl) ?_
      exact QM_cut_normal () (subL_cons rfl (subL_cons rfl (subL_cons rfl subL_nil))) (fun W hm => hm) trivial
     exact QBs_nil
    ·
     rintro ⟨⟩ -
     show QM 220 _ _ _ .normal [(0, .slice (some ⟨g13, 0, none⟩) n c), (10, .int .i64 ((i : Nat) : Int)), (13, .int .i64 ((k : Nat) : Int))] (iOwn (tSl (tCk K) 117) [.slice (some ⟨g13, 0, none⟩) n c] ((d.set k (gt d (k + 1))).set (k + 1) (gt d k)) :: is)
     refine QM_block_normal ?_
     refine QM_then ?_
     refine CM_region ?_
     refine wm ?_
     refine wv (fun W hm => rv_addN (p := k) (q := 1) rfl rfl (by omega)) ?_
     refine wa ?_
     refine WM_nil ?_
     exact QM_round (k + 1, ((d.set k (gt d (k + 1))).set (k + 1) (gt d k))) (subL_cons rfl (subL_cons rfl (subL_cons rfl subL_nil))) (fun W hm => hm) ⟨(show mvU (i - 1 - (k + 1)) (k + 1) ((d.set k (gt d (k + 1))).set (k + 1) (gt d k)) = mvU (i - 1 - a) a xs from (mvU_step (by omega)).symm.trans hU), (show a ≤ (k + 1) from by omega)⟩ (show i - 1 - (k + 1) < i - 1 - k from by omega)
   ·have g11 : (decide (((k : Nat) : Int) < ((i - 1 : Nat) : Int))) = false := decide_eq_false h10
    refine CM_condF rfl g11 ?_
    refine CM_exit ?_
    refine QM_then_exit ?_
    refine QM_then_exit ?_
    refine QM_block_hit ?_
    refine QM_then ?_
    refine CM_ret ?_
    refine QM_then_ret ?_
    have hE : symm (ltc cf) (f + 1) a m b xs = d := (symm_a (by omega)).trans (by rw [hA]; exact ((mvU_end (by omega)).symm.trans hU).symm)
    exact QM_ret0r rfl (fun W hm => ⟨rfl, by rw [hE]; exact hm⟩)
 ·have g2 : (((m - a : Nat) : Int) == 1) = false := beq_eq_false_iff_ne.2 h1
  refine CM_condF rfl g2 ?_
  refine CM_skip ?_
  refine QM_then ?_
  refine CM_seq ?_
  refine sr ?_
  refine wm ?_
  refine wm ?_
  refine wv (fun W hm => rv_subN (p := b) (q := m) rfl rfl (by omega) (by omega)) ?_
  refine wv (fun W hm => rv_eql rfl rfl) ?_
  refine nt' ?_
  by_cases h14 : ((b - m : Nat) : Int) = 1
  ·have g15 : (((b - m : Nat) : Int) == 1) = true := beq_iff_eq.2 h14
   refine CM_condT rfl g15 ?_
   refine sr ?_
   refine wm ?_
   refine wa ?_
   refine nt' ?_
   refine sr ?_
   refine wm ?_
   refine wa ?_
   refine nt' ?_
   refine CM_seq ?_
   refine CM_block ?_
   refine CM_loop (σ := Nat × Nat × Nat) (fun s => [(0, .slice A n c), (2, .int .i64 ((m : Nat) : Int)), (4, .func (.func fc) #[] #[]), (14, .int .i64 ((s.1 : Nat) : Int)), (15, .int .i64 ((s.2.1 : Nat) : Int))]) (fun s => (iOwn (tSl (tCk K) 117) [.slice A n c] xs :: is)) (fun s => bsr (fun h => !ltc cf (gt xs m) (gt xs h)) s.2.2 s.1 s.2.1 = bsr (fun h => !ltc cf (gt xs m) (gt xs h)) (m - a) a m ∧ s.2.1 ≤ s.2.2 + s.1 ∧ a ≤ s.1 ∧ s.1 ≤ s.2.1 ∧ s.2.1 ≤ m) (fun s => s.2.1 - s.1) (a, m, m - a) (subL_cons rfl (subL_cons rfl (subL_cons rfl (subL_cons rfl (subL_cons rfl subL_nil))))) (fun W hm => hm) ⟨(show bsr (fun h => !ltc cf (gt xs m) (gt xs h)) (m - a) a m = bsr (fun h => !ltc cf (gt xs m) (gt xs h)) (m - a) a m from rfl), (show m ≤ (m - a) + a from by omega), (show a ≤ a from by omega), (show a ≤ m from by omega), (show m ≤ m from by omega)⟩ ?_
   rintro ⟨i, j, f0⟩ H16
   obtain ⟨hB, hf5, hf6, hf7, hf8⟩ : bsr (fun h => !ltc cf (gt xs m) (gt xs h)) f0 i j = bsr (fun h => !ltc cf (gt xs m) (gt xs h)) (m - a) a m ∧ j ≤ f0 + i ∧ a ≤ i ∧ i ≤ j ∧ j ≤ m := H16
   show CM Try.prog 220 _ _ _ _ [(0, .slice A n c), (2, .int .i64 ((m : Nat) : Int)), (4, .func (.func fc) #[] #[]), (14, .int .i64 ((i : Nat) : Int)), (15, .int .i64 ((j : Nat) : Int))] (iOwn (tSl (tCk K) 117) [.slice A n c] xs :: is)
   refine CM_seq ?_
   refine sr ?_
   refine wm ?_
   refine wm ?_
   refine wv (fun W hm => rv_lss rfl rfl) ?_
   refine nt' ?_
   by_cases h17 : ((i : Nat) : Int) < ((j : Nat) : Int)
   ·have g18 : (decide (((i : Nat) : Int) < ((j : Nat) : Int))) = true := decide_eq_true h17
    refine CM_condT rfl g18 ?_
    refine CM_skip ?_
    refine QM_then ?_
    refine CM_block ?_
    refine sr ?_
    refine wm ?_
    refine wm ?_
    refine wv (fun W hm => rv_addN (p := i) (q := j) rfl rfl (by omega)) ?_
    refine wv (fun W hm => rv_convIU (p := i + j) Try.underlying3 Try.underlying152 rfl (by omega)) ?_
    refine wv (fun W hm => rv_half rfl) ?_
    refine wv (fun W hm => rv_convUI (p := (i + j) / 2) Try.underlying152 Try.underlying3 rfl (by omega)) ?_
    refine wa ?_
    refine nt' ?_
    refine CM_seq ?_
    refine CM_formO (n := 0) rfl (by omega) ?_
    rintro g19 rfl
    refine CM_regionD (by kernel_rfl) (by kernel_rfl) ?_
    refine qm ?_
    refine qm ?_
    refine qm ?_
    refine qv (fun W hm => rv_index (sz := K.s) (k := m) Try.underlying54 Try.type117 hK.symm rfl rfl (by omega)) ?_
    refine qv (fun W hm => rv_loadCk Try.underlying117 Try.type117 hK.symm rfl hm (by omega)) ?_
    refine qm ?_
    refine qm ?_
    refine qv (fun W hm => rv_index (sz := K.s) (k := (i + j) / 2) Try.underlying54 Try.type117 hK.symm rfl rfl (by omega)) ?_
    refine qv (fun W hm => rv_loadCk Try.underlying117 Try.type117 hK.symm rfl hm (by omega)) ?_
    refine QR_callV (cl_val (first := []) (caps := []) (vs := [.agg (gt xs m).1.toArray, .agg (gt xs ((i + j) / 2)).1.toArray]) (args := [.agg (gt xs m).1.toArray, .agg (gt xs ((i + j) / 2)).1.toArray]) H.cb rfl rfl rfl) (fun W hm => H.go W (gt xs m) (gt xs ((i + j) / 2)) hm.tail (hm.ck (by omega)).1 (hm.ck (by omega)).1) (Wd_none rfl) (by decide) ?_
    refine qv (fun W hm => rv_lss rfl rfl) ?_
    refine qv (fun W hm => rv_not rfl) ?_
    refine nq' ?_
    by_cases h20 : (cf (gt xs m).2 (gt xs ((i + j) / 2)).2) < 0
    ·have g21 : (decide ((cf (gt xs m).2 (gt xs ((i + j) / 2)).2) < 0)) = true := decide_eq_true h20
     refine CM_condF rfl (nt g21) ?_
     refine CM_region ?_
     refine wm ?_
     refine wa ?_
     refine WM_nil ?_
     refine QM_block_normal ?_
     exact QM_round (i, (i + j) / 2, f0 - 1) (subL_cons rfl (subL_cons rfl (subL_cons rfl (subL_cons rfl (subL_cons rfl subL_nil))))) (fun W hm => hm) ⟨(show bsr (fun h => !ltc cf (gt xs m) (gt xs h)) (f0 - 1) i ((i + j) / 2) = bsr (fun h => !ltc cf (gt xs m) (gt xs h)) (m - a) a m from (bsr_f (by omega) hf5 (show (!decide (cf (gt xs m).2 (gt xs ((i + j) / 2)).2 < 0)) = false from by rw [decide_eq_true (show cf (gt xs m).2 (gt xs ((i + j) / 2)).2 < 0 by omega)]; rfl)).symm.trans hB), (show ((i + j) / 2) ≤ (f0 - 1) + i from by omega), (show a ≤ i from by omega), (show i ≤ ((i + j) / 2) from by omega), (show ((i + j) / 2) ≤ m from by omega)⟩ (show ((i + j) / 2) - i < j - i from by omega)
    ·have g21 : (decide ((cf (gt xs m).2 (gt xs ((i + j) / 2)).2) < 0)) = false := decide_eq_false h20
     refine CM_condT rfl (nf g21) ?_
     refine CM_region ?_
     refine wm ?_
     refine wv (fun W hm => rv_addN (p := (i + j) / 2) (q := 1) rfl rfl (by omega)) ?_
     refine wa ?_
     refine WM_nil ?_
     refine QM_block_normal ?_
     exact QM_round ((i + j) / 2 + 1, j, f0 - 1) (subL_cons rfl (subL_cons rfl (subL_cons rfl (subL_cons rfl (subL_cons rfl subL_nil))))) (fun W hm => hm) ⟨(show bsr (fun h => !ltc cf (gt xs m) (gt xs h)) (f0 - 1) ((i + j) / 2 + 1) j = bsr (fun h => !ltc cf (gt xs m) (gt xs h)) (m - a) a m from (bsr_t (by omega) hf5 (show (!decide (cf (gt xs m).2 (gt xs ((i + j) / 2)).2 < 0)) = true from by rw [decide_eq_false (show ¬ cf (gt xs m).2 (gt xs ((i + j) / 2)).2 < 0 by omega)]; rfl)).symm.trans hB), (show j ≤ (f0 - 1) + ((i + j) / 2 + 1) from by omega), (show a ≤ ((i + j) / 2 + 1) from by omega), (show ((i + j) / 2 + 1) ≤ j from by omega), (show j ≤ m from by omega)⟩ (show j - ((i + j) / 2 + 1) < j - i from by omega)
   ·have g18 : (decide (((i : Nat) : Int) < ((j : Nat) : Int))) = false := decide_eq_false h17
    refine CM_condF rfl g18 ?_
    refine CM_exit ?_
    refine QM_then_exit ?_
    refine QM_then_exit ?_
    have hA : bsr (fun h => !ltc cf (gt xs m) (gt xs h)) (m - a) a m = i := hB.symm.trans (bsr_e (by omega))
    refine QM_block_hit ?_
    refine QM_then ?_
    refine CM_seq ?_
    refine sr ?_
    refine wm ?_
    refine wa ?_
    refine nt' ?_
    refine CM_block ?_
    refine CM_loop (σ := Nat × List (List Value × α)) (fun s => [(0, .slice A n c), (14, .int .i64 ((i : Nat) : Int)), (17, .int .i64 ((s.1 : Nat) : Int))]) (fun s => (iOwn (tSl (tCk K) 117) [.slice A n c] s.2 :: is)) (fun s => mvD (s.1 - i) s.1 s.2 = mvD (m - i) m xs ∧ s.1 ≤ m) (fun s => s.1) (m, xs) (subL_cons rfl (subL_cons rfl (subL_cons rfl subL_nil))) (fun W hm => hm) ⟨(show mvD (m - i) m xs = mvD (m - i) m xs from rfl), (show m ≤ m from by omega)⟩ ?_
    rintro ⟨k, d⟩ H22
    obtain ⟨hU, hf9⟩ : mvD (k - i) k d = mvD (m - i) m xs ∧ k ≤ m := H22
    show CM Try.prog 220 _ _ _ _ [(0, .slice A n c), (14, .int .i64 ((i : Nat) : Int)), (17, .int .i64 ((k : Nat) : Int))] (iOwn (tSl (tCk K) 117) [.slice A n c] d :: is)
    refine CM_seq ?_
    refine sr ?_
    refine wm ?_
    refine wm ?_
    refine wv (fun W hm => rv_gtr rfl rfl) ?_
    refine nt' ?_
    by_cases h23 : ((i : Nat) : Int) < ((k : Nat) : Int)
    ·have g24 : (decide (((i : Nat) : Int) < ((k : Nat) : Int))) = true := decide_eq_true h23
     refine CM_condT rfl g24 ?_
     refine CM_skip ?_
     refine QM_then ?_
     refine CM_seq ?_
     refine CM_block ?_
     refine CM_formO (n := 0) rfl (by omega) ?_
     rintro g26 rfl
     refine CM_ck ?_
     intro hR25
     refine CM_cut (σ := Unit) (fun _ => [(0, .slice (some ⟨g26, 0, none⟩) n c), (14, .int .i64 ((i : Nat) : Int)), (17, .int .i64 ((k : Nat) : Int))]) (fun _ => (iOwn (tSl (tCk K) 117) [.slice (some ⟨g26, 0, none⟩) n c] ((d.set k (gt d (k - 1))).set (k - 1) (gt d k)) :: is)) (fun _ => True) ?_ ?_
     ·
      refine rb 18 (s := (is)) (fun W hm => (hm).tail) ?_
      refine qt 18 0 1 rfl (fun W hm => rv_move rfl) ?_
      refine qt 18 1 3 rfl (fun W hm => rv_move rfl) ?_
      refine qt 18 2 7 rfl (fun W hm => rv_move rfl) ?_
      refine qt 18 3 15 rfl (fun W hm => rv_move rfl) ?_
      refine qt 18 4 31 rfl (fun W hm => rv_subN (p := k) (q := 1) rfl rfl (by omega) (by omega)) ?_
      refine qt 18 5 63 rfl (fun W hm => rv_move rfl) ?_
      refine qt 18 6 127 rfl (fun W hm => rv_move rfl) ?_
      refine qt 18 7 255 rfl (fun W hm => rv_subN (p := k) (q := 1) rfl rfl (by omega) (by omega)) ?_
      refine qt 18 8 511 rfl (fun W hm => rv_index (sz := K.s) (k := k - 1) Try.underlying54 Try.type117 hK.symm rfl rfl (by omega)) ?_
      refine qt 18 10 1535 rfl (fun W hm => rv_move rfl) ?_
      refine qt 18 11 3583 rfl (fun W hm => rv_move rfl) ?_
      refine qt 18 12 7679 rfl (fun W hm => rv_index (sz := K.s) (k := k) Try.underlying54 Try.type117 hK.symm rfl rfl (by omega)) ?_
      refine qa [9, 13] ?_
      refine qc 18 8191 rfl ?_ ?_
      ·
       refine wv (fun W hm => rv_loadCk Try.underlying117 Try.type117 hK.symm rfl hm (by omega)) ?_
       refine qn (fun W hm => (hm).tail) ?_
       refine qo 18 13 16383 rfl ?_
       refine wv (fun W hm => rv_loadCk Try.underlying117 Try.type117 hK.symm rfl hm (by omega)) ?_
       refine qn (fun W hm => (hm).tail) ?_
       refine qt 18 14 32767 rfl (fun W hm => rv_index (sz := K.s) (k := k) Try.underlying54 Try.type117 hK.symm rfl rfl (by omega)) ?_
       refine qo 18 15 65535 rfl ?_
       refine WM_setEl (E := tCk K) (e := 117) (u := .agg (gt d (k - 1)).1.toArray) (k := k) (p := g26) (n := n) (xs := d) (eis := []) (js := is) (yv := (gt d (k - 1))) (fun W hm => hm) (fun _ _ hs => ⟨hs, rfl, (hR25 (k - 1) (by omega))⟩) rfl Try.type117 hK.symm (by omega) rfl rfl (Wd_none rfl) ?_
       refine qn (fun W hm => (hm).tail) ?_
       refine qt 18 16 131071 rfl (fun W hm => rv_index (sz := K.s) (k := k - 1) Try.underlying54 Try.type117 hK.symm rfl rfl (by omega)) ?_
       refine qo 18 17 262143 rfl ?_
       refine WM_setEl (E := tCk K) (e := 117) (u := .agg (gt d k).1.toArray) (k := (k - 1)) (p := g26) (n := n) (xs := (d.set k (gt d (k - 1)))) (eis := []) (js := is) (yv := (gt d k)) (fun W hm => hm) (fun _ _ hs => ⟨hs, rfl, (hR25 k (by omega))⟩) rfl Try.type117 hK.symm (by omega) rfl rfl (Wd_none rfl) ?_
       refine qn (fun W hm => (hm).tail) ?_
       refine QB_done (by kernel_rfl) ?_
       exact QM_cut_normal () (subL_cons rfl (subL_cons rfl (subL_cons rfl subL_nil))) (fun W hm => hm) trivial
      refine qc 18 15871 rfl ?_ ?_
      ·
       refine wv (fun W hm => rv_loadCk Try.underlying117 Try.type117 hK.symm rfl hm (by omega)) ?_
       refine qn (fun W hm => (hm).tail) ?_
       refine qo 18 9 16383 rfl ?_
       refine wv (fun W hm => rv_loadCk Try.underlying117 Try.type117 hK.symm rfl hm (by omega)) ?_
       refine qn (fun W hm => (hm).tail) ?_
       refine qt 18 14 32767 rfl (fun W hm => rv_index (sz := K.s) (k := k) Try.underlying54 Try.type117 hK.symm rfl rfl (by omega)) ?_
       refine qo 18 15 65535 rfl ?_
       refine WM_setEl (E := tCk K) (e := 117) (u := .agg (gt d (k - 1)).1.toArray) (k := k) (p := g26) (n := n) (xs := d) (eis := []) (js := is) (yv := (gt d (k - 1))) (fun W hm => hm) (fun _ _ hs => ⟨hs, rfl, (hR25 (k - 1) (by omega))⟩) rfl Try.type117 hK.symm (by omega) rfl rfl (Wd_none rfl) ?_
       refine qn (fun W hm => (hm).tail) ?_
       refine qt 18 16 131071 rfl (fun W hm => rv_index (sz := K.s) (k := k - 1) Try.underlying54 Try.type117 hK.symm rfl rfl (by omega)) ?_
       refine qo 18 17 262143 rfl ?_
       refine WM_setEl (E := tCk K) (e := 117) (u := .agg (gt d k).1.toArray) (k := (k - 1)) (p := g26) (n := n) (xs := (d.set k (gt d (k - 1)))) (eis := []) (js := is) (yv := (gt d k)) (fun W hm => hm) (fun _ _ hs => ⟨hs, rfl, (hR25 k (by omega))⟩) rfl Try.type117 hK.symm (by omega) rfl rfl (Wd_none rfl) ?_
       refine qn (fun W hm => (hm).tail) ?_
       refine QB_done (by kernel_rfl) ?_
       exact QM_cut_normal () (subL_cons rfl (subL_cons rfl (subL_cons rfl subL_nil))) (fun W hm => hm) trivial
      exact QBs_nil
     ·
      rintro ⟨⟩ -
      show QM 220 _ _ _ .normal [(0, .slice (some ⟨g26, 0, none⟩) n c), (14, .int .i64 ((i : Nat) : Int)), (17, .int .i64 ((k : Nat) : Int))] (iOwn (tSl (tCk K) 117) [.slice (some ⟨g26, 0, none⟩) n c] ((d.set k (gt d (k - 1))).set (k - 1) (gt d k)) :: is)
      refine QM_block_normal ?_
      refine QM_then ?_
      refine CM_region ?_
      refine wm ?_
      refine wv (fun W hm => rv_subN (p := k) (q := 1) rfl rfl (by omega) (by omega)) ?_
      refine wa ?_
      refine WM_nil ?_
      exact QM_round (k - 1, ((d.set k (gt d (k - 1))).set (k - 1) (gt d k))) (subL_cons rfl (subL_cons rfl (subL_cons rfl subL_nil))) (fun W hm => hm) ⟨(show mvD ((k - 1) - i) (k - 1) ((d.set k (gt d (k - 1))).set (k - 1) (gt d k)) = mvD (m - i) m xs from (mvD_step (by omega)).symm.trans hU), (show (k - 1) ≤ m from by omega)⟩ (show (k - 1) < k from by omega)
    ·have g24 : (decide (((i : Nat) : Int) < ((k : Nat) : Int))) = false := decide_eq_false h23
     refine CM_condF rfl g24 ?_
     refine CM_exit ?_
     refine QM_then_exit ?_
     refine QM_then_exit ?_
     refine QM_block_hit ?_
     refine QM_then ?_
     refine CM_ret ?_
     refine QM_then_ret ?_
     have hE : symm (ltc cf) (f + 1) a m b xs = d := (symm_b (by omega) (by omega)).trans (by rw [hA]; exact ((mvD_end (by omega)).symm.trans hU).symm)
     exact QM_ret0r rfl (fun W hm => ⟨rfl, by rw [hE]; exact hm⟩)
  ·have g15 : (((b - m : Nat) : Int) == 1) = false := beq_eq_false_iff_ne.2 h14
   refine CM_condF rfl g15 ?_
   refine CM_skip ?_
   refine QM_then ?_
   refine sr ?_
   refine wm ?_
   refine wm ?_
   refine wv (fun W hm => rv_addN (p := a) (q := b) rfl rfl (by omega)) ?_
   refine wv (fun W hm => rv_convIU (p := a + b) Try.underlying3 Try.underlying152 rfl (by omega)) ?_
   refine wv (fun W hm => rv_half rfl) ?_
   refine wv (fun W hm => rv_convUI (p := (a + b) / 2) Try.underlying152 Try.underlying3 rfl (by omega)) ?_
   refine wa ?_
   refine nt' ?_
   refine sr ?_
   refine wm ?_
   refine wm ?_
   refine wv (fun W hm => rv_addN (p := (a + b) / 2) (q := m) rfl rfl (by omega)) ?_
   refine wa ?_
   refine nt' ?_
   refine sr ?_
   refine wa ?_
   refine wa ?_
   refine nt' ?_
   refine CM_seq ?_
   refine sr ?_
   refine wm ?_
   refine wm ?_
   refine wv (fun W hm => rv_gtr rfl rfl) ?_
   refine nt' ?_
   refine CM_cut (σ := Nat × Nat) (fun s => [(0, .slice A n c), (1, .int .i64 ((a : Nat) : Int)), (2, .int .i64 ((m : Nat) : Int)), (3, .int .i64 ((b : Nat) : Int)), (4, .func (.func fc) #[] #[]), (18, .int .i64 (((a + b) / 2 : Nat) : Int)), (19, .int .i64 (((a + b) / 2 + m : Nat) : Int)), (20, .int .i64 ((s.1 : Nat) : Int)), (21, .int .i64 ((s.2 : Nat) : Int))]) (fun _ => (iOwn (tSl (tCk K) 117) [.slice A n c] xs :: is)) (fun s => s.1 = cond (decide ((a + b) / 2 < m)) ((a + b) / 2 + m - b) a ∧ s.2 = cond (decide ((a + b) / 2 < m)) ((a + b) / 2) m ∧ (((a + b) / 2 < m ∧ s.1 = (a + b) / 2 + m - b ∧ s.2 = (a + b) / 2) ∨ (m ≤ (a + b) / 2 ∧ s.1 = a ∧ s.2 = m))) ?_ ?_
   ·
    by_cases h27 : (((a + b) / 2 : Nat) : Int) < ((m : Nat) : Int)
    ·have g28 : (decide ((((a + b) / 2 : Nat) : Int) < ((m : Nat) : Int))) = true := decide_eq_true h27
     refine CM_condT rfl g28 ?_
     refine sr ?_
     refine wm ?_
     refine wm ?_
     refine wv (fun W hm => rv_subN (p := (a + b) / 2 + m) (q := b) rfl rfl (by omega) (by omega)) ?_
     refine wa ?_
     refine nt' ?_
     refine CM_region ?_
     refine wm ?_
     refine wa ?_
     refine WM_nil ?_
     exact QM_cut_normal ((a + b) / 2 + m - b, (a + b) / 2) (subL_cons rfl (subL_cons rfl (subL_cons rfl (subL_cons rfl (subL_cons rfl (subL_cons rfl (subL_cons rfl (subL_cons rfl (subL_cons rfl subL_nil))))))))) (fun W hm => hm) ⟨by rw [decide_eq_true (show (a + b) / 2 < m by omega)]; rfl, by rw [decide_eq_true (show (a + b) / 2 < m by omega)]; rfl, .inl ⟨by omega, rfl, rfl⟩⟩
    ·have g28 : (decide ((((a + b) / 2 : Nat) : Int) < ((m : Nat) : Int))) = false := decide_eq_false h27
     refine CM_condF rfl g28 ?_
     refine sr ?_
     refine wm ?_
     refine wa ?_
     refine nt' ?_
     refine CM_region ?_
     refine wm ?_
     refine wa ?_
     refine WM_nil ?_
     exact QM_cut_normal (a, m) (subL_cons rfl (subL_cons rfl (subL_cons rfl (subL_cons rfl (subL_cons rfl (subL_cons rfl (subL_cons rfl (subL_cons rfl (subL_cons rfl subL_nil))))))))) (fun W hm => hm) ⟨by rw [decide_eq_false (show ¬ (a + b) / 2 < m by omega)]; rfl, by rw [decide_eq_false (show ¬ (a + b) / 2 < m by omega)]; rfl, .inr ⟨by omega, rfl, rfl⟩⟩
   ·
    rintro ⟨s0, r0⟩ ⟨hs0, hr0, hs⟩
    show QM 220 _ _ _ .normal [(0, .slice A n c), (1, .int .i64 ((a : Nat) : Int)), (2, .int .i64 ((m : Nat) : Int)), (3, .int .i64 ((b : Nat) : Int)), (4, .func (.func fc) #[] #[]), (18, .int .i64 (((a + b) / 2 : Nat) : Int)), (19, .int .i64 (((a + b) / 2 + m : Nat) : Int)), (20, .int .i64 ((s0 : Nat) : Int)), (21, .int .i64 ((r0 : Nat) : Int))] (iOwn (tSl (tCk K) 117) [.slice A n c] xs :: is)
    refine QM_then ?_
    refine sr ?_
    refine wm ?_
    refine wv (fun W hm => rv_subN (p := (a + b) / 2 + m) (q := 1) rfl rfl (by omega) (by omega)) ?_
    refine wa ?_
    refine nt' ?_
    refine CM_seq ?_
    refine CM_block ?_
    refine CM_loop (σ := Nat × Nat × Nat) (fun s => [(0, .slice A n c), (1, .int .i64 ((a : Nat) : Int)), (2, .int .i64 ((m : Nat) : Int)), (3, .int .i64 ((b : Nat) : Int)), (4, .func (.func fc) #[] #[]), (18, .int .i64 (((a + b) / 2 : Nat) : Int)), (19, .int .i64 (((a + b) / 2 + m : Nat) : Int)), (20, .int .i64 ((s.1 : Nat) : Int)), (21, .int .i64 ((s.2.1 : Nat) : Int)), (22, .int .i64 (((a + b) / 2 + m - 1 : Nat) : Int))]) (fun s => (iOwn (tSl (tCk K) 117) [.slice A n c] xs :: is)) (fun s => bsr (fun c => !ltc cf (gt xs ((a + b) / 2 + m - 1 - c)) (gt xs c)) s.2.2 s.1 s.2.1 = bsr (fun c => !ltc cf (gt xs ((a + b) / 2 + m - 1 - c)) (gt xs c)) (r0 - s0) s0 r0 ∧ s.2.1 ≤ s.2.2 + s.1 ∧ s0 ≤ s.1 ∧ s.1 ≤ s.2.1 ∧ s.2.1 ≤ r0) (fun s => s.2.1 - s.1) (s0, r0, r0 - s0) (subL_cons rfl (subL_cons rfl (subL_cons rfl (subL_cons rfl (subL_cons rfl (subL_cons rfl (subL_cons rfl (subL_cons rfl (subL_cons rfl (subL_cons rfl subL_nil)))))))))) (fun W hm => hm) ⟨(show bsr (fun c => !ltc cf (gt xs ((a + b) / 2 + m - 1 - c)) (gt xs c)) (r0 - s0) s0 r0 = bsr (fun c => !ltc cf (gt xs ((a + b) / 2 + m - 1 - c)) (gt xs c)) (r0 - s0) s0 r0 from rfl), (show r0 ≤ (r0 - s0) + s0 from by omega), (show s0 ≤ s0 from by omega), (show s0 ≤ r0 from by omega), (show r0 ≤ r0 from by omega)⟩ ?_
    rintro ⟨i, j, f0⟩ H29
    obtain ⟨hB, hf5, hf6, hf7, hf8⟩ : bsr (fun c => !ltc cf (gt xs ((a + b) / 2 + m - 1 - c)) (gt xs c)) f0 i j = bsr (fun c => !ltc cf (gt xs ((a + b) / 2 + m - 1 - c)) (gt xs c)) (r0 - s0) s0 r0 ∧ j ≤ f0 + i ∧ s0 ≤ i ∧ i ≤ j ∧ j ≤ r0 := H29
    show CM Try.prog 220 _ _ _ _ [(0, .slice A n c), (1, .int .i64 ((a : Nat) : Int)), (2, .int .i64 ((m : Nat) : Int)), (3, .int .i64 ((b : Nat) : Int)), (4, .func (.func fc) #[] #[]), (18, .int .i64 (((a + b) / 2 : Nat) : Int)), (19, .int .i64 (((a + b) / 2 + m : Nat) : Int)), (20, .int .i64 ((i : Nat) : Int)), (21, .int .i64 ((j : Nat) : Int)), (22, .int .i64 (((a + b) / 2 + m - 1 : Nat) : Int))] (iOwn (tSl (tCk K) 117) [.slice A n c] xs :: is)
    refine CM_seq ?_
    refine sr ?_
    refine wm ?_
    refine wm ?_
    refine wv (fun W hm => rv_lss rfl rfl) ?_
    refine nt' ?_
    by_cases h30 : ((i : Nat) : Int) < ((j : Nat) : Int)
    ·have g31 : (decide (((i : Nat) : Int) < ((j : Nat) : Int))) = true := decide_eq_true h30
     refine CM_condT rfl g31 ?_
     refine CM_skip ?_
     refine QM_then ?_
     refine CM_block ?_
     refine sr ?_
     refine wm ?_
     refine wm ?_
     refine wv (fun W hm => rv_addN (p := i) (q := j) rfl rfl (by omega)) ?_
     refine wv (fun W hm => rv_convIU (p := i + j) Try.underlying3 Try.underlying152 rfl (by omega)) ?_
     refine wv (fun W hm => rv_half rfl) ?_
     refine wv (fun W hm => rv_convUI (p := (i + j) / 2) Try.underlying152 Try.underlying3 rfl (by omega)) ?_
     refine wa ?_
     refine nt' ?_
     refine CM_seq ?_
     refine CM_formO (n := 0) rfl (by omega) ?_
     rintro g32 rfl
     refine CM_regionD (by kernel_rfl) (by kernel_rfl) ?_
     refine qm ?_
     refine qm ?_
     refine qm ?_
     refine qm ?_
     refine qv (fun W hm => rv_subN (p := (a + b) / 2 + m - 1) (q := (i + j) / 2) rfl rfl (by omega) (by omega)) ?_
     refine qv (fun W hm => rv_index (sz := K.s) (k := (a + b) / 2 + m - 1 - ((i + j) / 2)) Try.underlying54 Try.type117 hK.symm rfl rfl (by omega)) ?_
     refine qv (fun W hm => rv_loadCk Try.underlying117 Try.type117 hK.symm rfl hm (by omega)) ?_
     refine qm ?_
     refine qm ?_
     refine qv (fun W hm => rv_index (sz := K.s) (k := (i + j) / 2) Try.underlying54 Try.type117 hK.symm rfl rfl (by omega)) ?_
     refine qv (fun W hm => rv_loadCk Try.underlying117 Try.type117 hK.symm rfl hm (by omega)) ?_
     refine QR_callV (cl_val (first := []) (caps := []) (vs := [.agg (gt xs ((a + b) / 2 + m - 1 - ((i + j) / 2))).1.toArray, .agg (gt xs ((i + j) / 2)).1.toArray]) (args := [.agg (gt xs ((a + b) / 2 + m - 1 - ((i + j) / 2))).1.toArray, .agg (gt xs ((i + j) / 2)).1.toArray]) H.cb rfl rfl rfl) (fun W hm => H.go W (gt xs ((a + b) / 2 + m - 1 - ((i + j) / 2))) (gt xs ((i + j) / 2)) hm.tail (hm.ck (by omega)).1 (hm.ck (by omega)).1) (Wd_none rfl) (by decide) ?_
     refine qv (fun W hm => rv_lss rfl rfl) ?_
     refine qv (fun W hm => rv_not rfl) ?_
     refine nq' ?_
     by_cases h33 : (cf (gt xs ((a + b) / 2 + m - 1 - ((i + j) / 2))).2 (gt xs ((i + j) / 2)).2) < 0
     ·have g34 : (decide ((cf (gt xs ((a + b) / 2 + m - 1 - ((i + j) / 2))).2 (gt xs ((i + j) / 2)).2) < 0)) = true := decide_eq_true h33
      refine CM_condF rfl (nt g34) ?_
      refine CM_region ?_
      refine wm ?_
      refine wa ?_
      refine WM_nil ?_
      refine QM_block_normal ?_
      exact QM_round (i, (i + j) / 2, f0 - 1) (subL_cons rfl (subL_cons rfl (subL_cons rfl (subL_cons rfl (subL_cons rfl (subL_cons rfl (subL_cons rfl (subL_cons rfl (subL_cons rfl (subL_cons rfl subL_nil)))))))))) (fun W hm => hm) ⟨(show bsr (fun c => !ltc cf (gt xs ((a + b) / 2 + m - 1 - c)) (gt xs c)) (f0 - 1) i ((i + j) / 2) = bsr (fun c => !ltc cf (gt xs ((a + b) / 2 + m - 1 - c)) (gt xs c)) (r0 - s0) s0 r0 from (bsr_f (by omega) hf5 (show (!decide (cf (gt xs ((a + b) / 2 + m - 1 - ((i + j) / 2))).2 (gt xs ((i + j) / 2)).2 < 0)) = false from by rw [decide_eq_true (show cf (gt xs ((a + b) / 2 + m - 1 - ((i + j) / 2))).2 (gt xs ((i + j) / 2)).2 < 0 by omega)]; rfl)).symm.trans hB), (show ((i + j) / 2) ≤ (f0 - 1) + i from by omega), (show s0 ≤ i from by omega), (show i ≤ ((i + j) / 2) from by omega), (show ((i + j) / 2) ≤ r0 from by omega)⟩ (show ((i + j) / 2) - i < j - i from by omega)
     ·have g34 : (decide ((cf (gt xs ((a + b) / 2 + m - 1 - ((i + j) / 2))).2 (gt xs ((i + j) / 2)).2) < 0)) = false := decide_eq_false h33
      refine CM_condT rfl (nf g34) ?_
      refine CM_region ?_
      refine wm ?_
      refine wv (fun W hm => rv_addN (p := (i + j) / 2) (q := 1) rfl rfl (by omega)) ?_
      refine wa ?_
      refine WM_nil ?_
      refine QM_block_normal ?_
      exact QM_round ((i + j) / 2 + 1, j, f0 - 1) (subL_cons rfl (subL_cons rfl (subL_cons rfl (subL_cons rfl (subL_cons rfl (subL_cons rfl (subL_cons rfl (subL_cons rfl (subL_cons rfl (subL_cons rfl subL_nil)))))))))) (fun W hm => hm) ⟨(show bsr (fun c => !ltc cf (gt xs ((a + b) / 2 + m - 1 - c)) (gt xs c)) (f0 - 1) ((i + j) / 2 + 1) j = bsr (fun c => !ltc cf (gt xs ((a + b) / 2 + m - 1 - c)) (gt xs c)) (r0 - s0) s0 r0 from (bsr_t (by omega) hf5 (show (!decide (cf (gt xs ((a + b) / 2 + m - 1 - ((i + j) / 2))).2 (gt xs ((i + j) / 2)).2 < 0)) = true from by rw [decide_eq_false (show ¬ cf (gt xs ((a + b) / 2 + m - 1 - ((i + j) / 2))).2 (gt xs ((i + j) / 2)).2 < 0 by omega)]; rfl)).symm.trans hB), (show j ≤ (f0 - 1) + ((i + j) / 2 + 1) from by omega), (show s0 ≤ ((i + j) / 2 + 1) from by omega), (show ((i + j) / 2 + 1) ≤ j from by omega), (show j ≤ r0 from by omega)⟩ (show j - ((i + j) / 2 + 1) < j - i from by omega)
    ·have g31 : (decide (((i : Nat) : Int) < ((j : Nat) : Int))) = false := decide_eq_false h30
     refine CM_condF rfl g31 ?_
     refine CM_exit ?_
     refine QM_then_exit ?_
     refine QM_then_exit ?_
     have hA : bsr (fun c => !ltc cf (gt xs ((a + b) / 2 + m - 1 - c)) (gt xs c)) (r0 - s0) s0 r0 = i := hB.symm.trans (bsr_e (by omega))
     refine QM_block_hit ?_
     refine QM_then ?_
     refine sr ?_
     refine wm ?_
     refine wm ?_
     refine wv (fun W hm => rv_subN (p := (a + b) / 2 + m) (q := i) rfl rfl (by omega) (by omega)) ?_
     refine wa ?_
     refine nt' ?_
     refine CM_seq ?_
     refine sr ?_
     refine wm ?_
     refine wm ?_
     refine wv (fun W hm => rv_lss rfl rfl) ?_
     refine wm ?_
     by_cases h35 : ((i : Nat) : Int) < ((m : Nat) : Int)
     ·have g36 : (decide (((i : Nat) : Int) < ((m : Nat) : Int))) = true := decide_eq_true h35
      refine wg (fun W hm => rv_move rfl) g36 ?_
      refine wg (fun W hm => rv_move rfl) g36 ?_
      refine wg (fun W hm => rv_lss rfl rfl) g36 ?_
      refine wv (fun W hm => rv_pickT rfl g36 rfl) ?_
      refine nt' ?_
      by_cases h37 : ((m : Nat) : Int) < (((a + b) / 2 + m - i : Nat) : Int)
      ·have g38 : (decide (((m : Nat) : Int) < (((a + b) / 2 + m - i : Nat) : Int))) = true := decide_eq_true h37
       refine CM_condT rfl g38 ?_
       refine CM_region ?_
       refine wm ?_
       refine wm ?_
       refine wm ?_
       refine wm ?_
       refine wm ?_
       refine WM_callW (χ := Unit) (val := fun _ => .tuple #[]) (js := fun _ => (iOwn (tSl (tCk K) 117) [.slice A n c] (rot ((a + b) / 2 + m - i - i) m (m - i) ((a + b) / 2 + m - i - m) xs) :: is)) (cl_fn cb137 rfl) (fun W hm => (srt88_rot_c K hK cf fc B w0 is H A n c hn i m ((a + b) / 2 + m - i) xs (by omega) (by omega) (by omega) W hm).mono (fun _ _ h => ⟨(), h.1, h.2⟩)) (Wd_none rfl) (by decide) (fun _ => ?_)
       refine nt' ?_
       refine CM_seq ?_
       refine sr ?_
       refine wm ?_
       refine wm ?_
       refine wv (fun W hm => rv_lss rfl rfl) ?_
       refine wm ?_
       by_cases h39 : ((a : Nat) : Int) < ((i : Nat) : Int)
       ·have g40 : (decide (((a : Nat) : Int) < ((i : Nat) : Int))) = true := decide_eq_true h39
        refine wg (fun W hm => rv_move rfl) g40 ?_
        refine wg (fun W hm => rv_move rfl) g40 ?_
        refine wg (fun W hm => rv_lss rfl rfl) g40 ?_
        refine wv (fun W hm => rv_pickT rfl g40 rfl) ?_
        refine nt' ?_
        have g41 : (decide (((i : Nat) : Int) < (((a + b) / 2 : Nat) : Int))) = true := decide_eq_true (by omega)
        refine CM_condT rfl g41 ?_
        refine CM_region ?_
        refine wm ?_
        refine wm ?_
        refine wm ?_
        refine wm ?_
        refine wm ?_
        refine WM_callW (χ := Unit) (val := fun _ => .tuple #[]) (js := fun _ => (iOwn (tSl (tCk K) 117) [.slice A n c] (symm (ltc cf) f a i ((a + b) / 2) (rot ((a + b) / 2 + m - i - i) m (m - i) ((a + b) / 2 + m - i - m) xs)) :: is)) (cl_fn cb133 rfl) (fun W hm => (ih a i ((a + b) / 2) (rot ((a + b) / 2 + m - i - i) m (m - i) ((a + b) / 2 + m - i - m) xs) (by omega) (by omega) (by omega) (by omega) W hm).mono (fun _ _ h => ⟨(), h.1, h.2⟩)) (Wd_none rfl) (by decide) (fun _ => ?_)
        refine nt' ?_
        refine sr ?_
        refine wm ?_
        refine wm ?_
        refine wv (fun W hm => rv_lss rfl rfl) ?_
        refine wm ?_
        have g42 : (decide ((((a + b) / 2 : Nat) : Int) < (((a + b) / 2 + m - i : Nat) : Int))) = true := decide_eq_true (by omega)
        refine wg (fun W hm => rv_move rfl) g42 ?_
        refine wg (fun W hm => rv_move rfl) g42 ?_
        refine wg (fun W hm => rv_lss rfl rfl) g42 ?_
        refine wv (fun W hm => rv_pickT rfl g42 rfl) ?_
        refine nt' ?_
        by_cases h43 : (((a + b) / 2 + m - i : Nat) : Int) < ((b : Nat) : Int)
        ·have g44 : (decide ((((a + b) / 2 + m - i : Nat) : Int) < ((b : Nat) : Int))) = true := decide_eq_true h43
         refine CM_condT rfl g44 ?_
         refine CM_region ?_
         refine wm ?_
         refine wm ?_
         refine wm ?_
         refine wm ?_
         refine wm ?_
         refine WM_callW (χ := Unit) (val := fun _ => .tuple #[]) (js := fun _ => (iOwn (tSl (tCk K) 117) [.slice A n c] (symm (ltc cf) f ((a + b) / 2) ((a + b) / 2 + m - i) b (symm (ltc cf) f a i ((a + b) / 2) (rot ((a + b) / 2 + m - i - i) m (m - i) ((a + b) / 2 + m - i - m) xs))) :: is)) (cl_fn cb133 rfl) (fun W hm => (ih ((a + b) / 2) ((a + b) / 2 + m - i) b (symm (ltc cf) f a i ((a + b) / 2) (rot ((a + b) / 2 + m - i - i) m (m - i) ((a + b) / 2 + m - i - m) xs)) (by omega) (by omega) (by omega) (by omega) W hm).mono (fun _ _ h => ⟨(), h.1, h.2⟩)) (Wd_none rfl) (by decide) (fun _ => ?_)
         refine WM_nil ?_
         have hE : symm (ltc cf) (f + 1) a m b xs = (symm (ltc cf) f ((a + b) / 2) ((a + b) / 2 + m - i) b (symm (ltc cf) f a i ((a + b) / 2) (rot ((a + b) / 2 + m - i - i) m (m - i) ((a + b) / 2 + m - i - m) xs))) := symm_c (x1 := (rot ((a + b) / 2 + m - i - i) m (m - i) ((a + b) / 2 + m - i - m) xs)) (x2 := (symm (ltc cf) f a i ((a + b) / 2) (rot ((a + b) / 2 + m - i - i) m (m - i) ((a + b) / 2 + m - i - m) xs))) (x3 := (symm (ltc cf) f ((a + b) / 2) ((a + b) / 2 + m - i) b (symm (ltc cf) f a i ((a + b) / 2) (rot ((a + b) / 2 + m - i - i) m (m - i) ((a + b) / 2 + m - i - m) xs)))) (mid := (a + b) / 2) (n := (a + b) / 2 + m) (s0 := s0) (r0 := r0) (st := i) (en := (a + b) / 2 + m - i) (by omega) (by omega) rfl rfl hs0 hr0 hA.symm rfl ((cond_and_t (by omega) (by omega)).symm) ((cond_and_t (by omega) (by omega)).symm) ((cond_and_t (by omega) (by omega)).symm)
         exact QM_ret0 rfl (fun W hm => ⟨rfl, by rw [hE]; exact hm⟩)
        ·have g44 : (decide ((((a + b) / 2 + m - i : Nat) : Int) < ((b : Nat) : Int))) = false := decide_eq_false h43
         refine CM_condF rfl g44 ?_
         refine CM_skip ?_
         have hE : symm (ltc cf) (f + 1) a m b xs = (symm (ltc cf) f a i ((a + b) / 2) (rot ((a + b) / 2 + m - i - i) m (m - i) ((a + b) / 2 + m - i - m) xs)) := symm_c (x1 := (rot ((a + b) / 2 + m - i - i) m (m - i) ((a + b) / 2 + m - i - m) xs)) (x2 := (symm (ltc cf) f a i ((a + b) / 2) (rot ((a + b) / 2 + m - i - i) m (m - i) ((a + b) / 2 + m - i - m) xs))) (x3 := (symm (ltc cf) f a i ((a + b) / 2) (rot ((a + b) / 2 + m - i - i) m (m - i) ((a + b) / 2 + m - i - m) xs))) (mid := (a + b) / 2) (n := (a + b) / 2 + m) (s0 := s0) (r0 := r0) (st := i) (en := (a + b) / 2 + m - i) (by omega) (by omega) rfl rfl hs0 hr0 hA.symm rfl ((cond_and_t (by omega) (by omega)).symm) ((cond_and_t (by omega) (by omega)).symm) ((cond_and_f (by omega)).symm)
         exact QM_ret0 rfl (fun W hm => ⟨rfl, by rw [hE]; exact hm⟩)
       ·have g40 : (decide (((a : Nat) : Int) < ((i : Nat) : Int))) = false := decide_eq_false h39
        refine ws g40 ?_
        refine ws g40 ?_
        refine ws g40 ?_
        refine wv (fun W hm => rv_pickF rfl g40 rfl) ?_
        refine nt' ?_
        refine CM_condF rfl rfl ?_
        refine CM_skip ?_
        refine QM_then ?_
        refine sr ?_
        refine wm ?_
        refine wm ?_
        refine wv (fun W hm => rv_lss rfl rfl) ?_
        refine wm ?_
        have g45 : (decide ((((a + b) / 2 : Nat) : Int) < (((a + b) / 2 + m - i : Nat) : Int))) = true := decide_eq_true (by omega)
        refine wg (fun W hm => rv_move rfl) g45 ?_
        refine wg (fun W hm => rv_move rfl) g45 ?_
        refine wg (fun W hm => rv_lss rfl rfl) g45 ?_
        refine wv (fun W hm => rv_pickT rfl g45 rfl) ?_
        refine nt' ?_
        by_cases h46 : (((a + b) / 2 + m - i : Nat) : Int) < ((b : Nat) : Int)
        ·have g47 : (decide ((((a + b) / 2 + m - i : Nat) : Int) < ((b : Nat) : Int))) = true := decide_eq_true h46
         refine CM_condT rfl g47 ?_
         refine CM_region ?_
         refine wm ?_
         refine wm ?_
         refine wm ?_
         refine wm ?_
         refine wm ?_
         refine WM_callW (χ := Unit) (val := fun _ => .tuple #[]) (js := fun _ => (iOwn (tSl (tCk K) 117) [.slice A n c] (symm (ltc cf) f ((a + b) / 2) ((a + b) / 2 + m - i) b (rot ((a + b) / 2 + m - i - i) m (m - i) ((a + b) / 2 + m - i - m) xs)) :: is)) (cl_fn cb133 rfl) (fun W hm => (ih ((a + b) / 2) ((a + b) / 2 + m - i) b (rot ((a + b) / 2 + m - i - i) m (m - i) ((a + b) / 2 + m - i - m) xs) (by omega) (by omega) (by omega) (by omega) W hm).mono (fun _ _ h => ⟨(), h.1, h.2⟩)) (Wd_none rfl) (by decide) (fun _ => ?_)
         refine WM_nil ?_
         have hE : symm (ltc cf) (f + 1) a m b xs = (symm (ltc cf) f ((a + b) / 2) ((a + b) / 2 + m - i) b (rot ((a + b) / 2 + m - i - i) m (m - i) ((a + b) / 2 + m - i - m) xs)) := symm_c (x1 := (rot ((a + b) / 2 + m - i - i) m (m - i) ((a + b) / 2 + m - i - m) xs)) (x2 := (rot ((a + b) / 2 + m - i - i) m (m - i) ((a + b) / 2 + m - i - m) xs)) (x3 := (symm (ltc cf) f ((a + b) / 2) ((a + b) / 2 + m - i) b (rot ((a + b) / 2 + m - i - i) m (m - i) ((a + b) / 2 + m - i - m) xs))) (mid := (a + b) / 2) (n := (a + b) / 2 + m) (s0 := s0) (r0 := r0) (st := i) (en := (a + b) / 2 + m - i) (by omega) (by omega) rfl rfl hs0 hr0 hA.symm rfl ((cond_and_t (by omega) (by omega)).symm) ((cond_and_f (by omega)).symm) ((cond_and_t (by omega) (by omega)).symm)
         exact QM_ret0 rfl (fun W hm => ⟨rfl, by rw [hE]; exact hm⟩)
        ·have g47 : (decide ((((a + b) / 2 + m - i : Nat) : Int) < ((b : Nat) : Int))) = false := decide_eq_false h46
         refine CM_condF rfl g47 ?_
         refine CM_skip ?_
         have hE : symm (ltc cf) (f + 1) a m b xs = (rot ((a + b) / 2 + m - i - i) m (m - i) ((a + b) / 2 + m - i - m) xs) := symm_c (x1 := (rot ((a + b) / 2 + m - i - i) m (m - i) ((a + b) / 2 + m - i - m) xs)) (x2 := (rot ((a + b) / 2 + m - i - i) m (m - i) ((a + b) / 2 + m - i - m) xs)) (x3 := (rot ((a + b) / 2 + m - i - i) m (m - i) ((a + b) / 2 + m - i - m) xs)) (mid := (a + b) / 2) (n := (a + b) / 2 + m) (s0 := s0) (r0 := r0) (st := i) (en := (a + b) / 2 + m - i) (by omega) (by omega) rfl rfl hs0 hr0 hA.symm rfl ((cond_and_t (by omega) (by omega)).symm) ((cond_and_f (by omega)).symm) ((cond_and_f (by omega)).symm)
         exact QM_ret0 rfl (fun W hm => ⟨rfl, by rw [hE]; exact hm⟩)
      ·have g38 : (decide (((m : Nat) : Int) < (((a + b) / 2 + m - i : Nat) : Int))) = false := decide_eq_false h37
       refine CM_condF rfl g38 ?_
       refine CM_skip ?_
       refine QM_then ?_
       refine CM_seq ?_
       refine sr ?_
       refine wm ?_
       refine wm ?_
       refine wv (fun W hm => rv_lss rfl rfl) ?_
       refine wm ?_
       by_cases h48 : ((a : Nat) : Int) < ((i : Nat) : Int)
       ·have g49 : (decide (((a : Nat) : Int) < ((i : Nat) : Int))) = true := decide_eq_true h48
        refine wg (fun W hm => rv_move rfl) g49 ?_
        refine wg (fun W hm => rv_move rfl) g49 ?_
        refine wg (fun W hm => rv_lss rfl rfl) g49 ?_
        refine wv (fun W hm => rv_pickT rfl g49 rfl) ?_
        refine nt' ?_
        have g50 : (decide (((i : Nat) : Int) < (((a + b) / 2 : Nat) : Int))) = false := decide_eq_false (by omega)
        refine CM_condF rfl g50 ?_
        refine CM_skip ?_
        refine QM_then ?_
        refine sr ?_
        refine wm ?_
        refine wm ?_
        refine wv (fun W hm => rv_lss rfl rfl) ?_
        refine wm ?_
        have g51 : (decide ((((a + b) / 2 : Nat) : Int) < (((a + b) / 2 + m - i : Nat) : Int))) = true := decide_eq_true (by omega)
        refine wg (fun W hm => rv_move rfl) g51 ?_
        refine wg (fun W hm => rv_move rfl) g51 ?_
        refine wg (fun W hm => rv_lss rfl rfl) g51 ?_
        refine wv (fun W hm => rv_pickT rfl g51 rfl) ?_
        refine nt' ?_
        by_cases h52 : (((a + b) / 2 + m - i : Nat) : Int) < ((b : Nat) : Int)
        ·have g53 : (decide ((((a + b) / 2 + m - i : Nat) : Int) < ((b : Nat) : Int))) = true := decide_eq_true h52
         refine CM_condT rfl g53 ?_
         refine CM_region ?_
         refine wm ?_
         refine wm ?_
         refine wm ?_
         refine wm ?_
         refine wm ?_
         refine WM_callW (χ := Unit) (val := fun _ => .tuple #[]) (js := fun _ => (iOwn (tSl (tCk K) 117) [.slice A n c] (symm (ltc cf) f ((a + b) / 2) ((a + b) / 2 + m - i) b xs) :: is)) (cl_fn cb133 rfl) (fun W hm => (ih ((a + b) / 2) ((a + b) / 2 + m - i) b xs (by omega) (by omega) (by omega) (by omega) W hm).mono (fun _ _ h => ⟨(), h.1, h.2⟩)) (Wd_none rfl) (by decide) (fun _ => ?_)
         refine WM_nil ?_
         have hE : symm (ltc cf) (f + 1) a m b xs = (symm (ltc cf) f ((a + b) / 2) ((a + b) / 2 + m - i) b xs) := symm_c (x1 := xs) (x2 := xs) (x3 := (symm (ltc cf) f ((a + b) / 2) ((a + b) / 2 + m - i) b xs)) (mid := (a + b) / 2) (n := (a + b) / 2 + m) (s0 := s0) (r0 := r0) (st := i) (en := (a + b) / 2 + m - i) (by omega) (by omega) rfl rfl hs0 hr0 hA.symm rfl ((cond_and_f (by omega)).symm) ((cond_and_f (by omega)).symm) ((cond_and_t (by omega) (by omega)).symm)
         exact QM_ret0 rfl (fun W hm => ⟨rfl, by rw [hE]; exact hm⟩)
        ·have g53 : (decide ((((a + b) / 2 + m - i : Nat) : Int) < ((b : Nat) : Int))) = false := decide_eq_false h52
         refine CM_condF rfl g53 ?_
         refine CM_skip ?_
         have hE : symm (ltc cf) (f + 1) a m b xs = xs := symm_c (x1 := xs) (x2 := xs) (x3 := xs) (mid := (a + b) / 2) (n := (a + b) / 2 + m) (s0 := s0) (r0 := r0) (st := i) (en := (a + b) / 2 + m - i) (by omega) (by omega) rfl rfl hs0 hr0 hA.symm rfl ((cond_and_f (by omega)).symm) ((cond_and_f (by omega)).symm) ((cond_and_f (by omega)).symm)
         exact QM_ret0 rfl (fun W hm => ⟨rfl, by rw [hE]; exact hm⟩)
       ·have g49 : (decide (((a : Nat) : Int) < ((i : Nat) : Int))) = false := decide_eq_false h48
        refine ws g49 ?_
        refine ws g49 ?_
        refine ws g49 ?_
        refine wv (fun W hm => rv_pickF rfl g49 rfl) ?_
        refine nt' ?_
        refine CM_condF rfl rfl ?_
        refine CM_skip ?_
        refine QM_then ?_
        refine sr ?_
        refine wm ?_
        refine wm ?_
        refine wv (fun W hm => rv_lss rfl rfl) ?_
        refine wm ?_
        have g54 : (decide ((((a + b) / 2 : Nat) : Int) < (((a + b) / 2 + m - i : Nat) : Int))) = true := decide_eq_true (by omega)
        refine wg (fun W hm => rv_move rfl) g54 ?_
        refine wg (fun W hm => rv_move rfl) g54 ?_
        refine wg (fun W hm => rv_lss rfl rfl) g54 ?_
        refine wv (fun W hm => rv_pickT rfl g54 rfl) ?_
        refine nt' ?_
        by_cases h55 : (((a + b) / 2 + m - i : Nat) : Int) < ((b : Nat) : Int)
        ·have g56 : (decide ((((a + b) / 2 + m - i : Nat) : Int) < ((b : Nat) : Int))) = true := decide_eq_true h55
         refine CM_condT rfl g56 ?_
         refine CM_region ?_
         refine wm ?_
         refine wm ?_
         refine wm ?_
         refine wm ?_
         refine wm ?_
         refine WM_callW (χ := Unit) (val := fun _ => .tuple #[]) (js := fun _ => (iOwn (tSl (tCk K) 117) [.slice A n c] (symm (ltc cf) f ((a + b) / 2) ((a + b) / 2 + m - i) b xs) :: is)) (cl_fn cb133 rfl) (fun W hm => (ih ((a + b) / 2) ((a + b) / 2 + m - i) b xs (by omega) (by omega) (by omega) (by omega) W hm).mono (fun _ _ h => ⟨(), h.1, h.2⟩)) (Wd_none rfl) (by decide) (fun _ => ?_)
         refine WM_nil ?_
         have hE : symm (ltc cf) (f + 1) a m b xs = (symm (ltc cf) f ((a + b) / 2) ((a + b) / 2 + m - i) b xs) := symm_c (x1 := xs) (x2 := xs) (x3 := (symm (ltc cf) f ((a + b) / 2) ((a + b) / 2 + m - i) b xs)) (mid := (a + b) / 2) (n := (a + b) / 2 + m) (s0 := s0) (r0 := r0) (st := i) (en := (a + b) / 2 + m - i) (by omega) (by omega) rfl rfl hs0 hr0 hA.symm rfl ((cond_and_f (by omega)).symm) ((cond_and_f (by omega)).symm) ((cond_and_t (by omega) (by omega)).symm)
         exact QM_ret0 rfl (fun W hm => ⟨rfl, by rw [hE]; exact hm⟩)
        ·have g56 : (decide ((((a + b) / 2 + m - i : Nat) : Int) < ((b : Nat) : Int))) = false := decide_eq_false h55
         refine CM_condF rfl g56 ?_
         refine CM_skip ?_
         have hE : symm (ltc cf) (f + 1) a m b xs = xs := symm_c (x1 := xs) (x2 := xs) (x3 := xs) (mid := (a + b) / 2) (n := (a + b) / 2 + m) (s0 := s0) (r0 := r0) (st := i) (en := (a + b) / 2 + m - i) (by omega) (by omega) rfl rfl hs0 hr0 hA.symm rfl ((cond_and_f (by omega)).symm) ((cond_and_f (by omega)).symm) ((cond_and_f (by omega)).symm)
         exact QM_ret0 rfl (fun W hm => ⟨rfl, by rw [hE]; exact hm⟩)
     ·have g36 : (decide (((i : Nat) : Int) < ((m : Nat) : Int))) = false := decide_eq_false h35
      refine ws g36 ?_
      refine ws g36 ?_
      refine ws g36 ?_
      refine wv (fun W hm => rv_pickF rfl g36 rfl) ?_
      refine nt' ?_
      refine CM_condF rfl rfl ?_
      refine CM_skip ?_
      refine QM_then ?_
      refine CM_seq ?_
      refine sr ?_
      refine wm ?_
      refine wm ?_
      refine wv (fun W hm => rv_lss rfl rfl) ?_
      refine wm ?_
      by_cases h57 : ((a : Nat) : Int) < ((i : Nat) : Int)
      ·have g58 : (decide (((a : Nat) : Int) < ((i : Nat) : Int))) = true := decide_eq_true h57
       refine wg (fun W hm => rv_move rfl) g58 ?_
       refine wg (fun W hm => rv_move rfl) g58 ?_
       refine wg (fun W hm => rv_lss rfl rfl) g58 ?_
       refine wv (fun W hm => rv_pickT rfl g58 rfl) ?_
       refine nt' ?_
       by_cases h59 : ((i : Nat) : Int) < (((a + b) / 2 : Nat) : Int)
       ·have g60 : (decide (((i : Nat) : Int) < (((a + b) / 2 : Nat) : Int))) = true := decide_eq_true h59
        refine CM_condT rfl g60 ?_
        refine CM_region ?_
        refine wm ?_
        refine wm ?_
        refine wm ?_
        refine wm ?_
        refine wm ?_
        refine WM_callW (χ := Unit) (val := fun _ => .tuple #[]) (js := fun _ => (iOwn (tSl (tCk K) 117) [.slice A n c] (symm (ltc cf) f a i ((a + b) / 2) xs) :: is)) (cl_fn cb133 rfl) (fun W hm => (ih a i ((a + b) / 2) xs (by omega) (by omega) (by omega) (by omega) W hm).mono (fun _ _ h => ⟨(), h.1, h.2⟩)) (Wd_none rfl) (by decide) (fun _ => ?_)
        refine nt' ?_
        refine sr ?_
        refine wm ?_
        refine wm ?_
        refine wv (fun W hm => rv_lss rfl rfl) ?_
        refine wm ?_
        have g61 : (decide ((((a + b) / 2 : Nat) : Int) < (((a + b) / 2 + m - i : Nat) : Int))) = false := decide_eq_false (by omega)
        refine ws g61 ?_
        refine ws g61 ?_
        refine ws g61 ?_
        refine wv (fun W hm => rv_pickF rfl g61 rfl) ?_
        refine nt' ?_
        refine CM_condF rfl rfl ?_
        refine CM_skip ?_
        have hE : symm (ltc cf) (f + 1) a m b xs = (symm (ltc cf) f a i ((a + b) / 2) xs) := symm_c (x1 := xs) (x2 := (symm (ltc cf) f a i ((a + b) / 2) xs)) (x3 := (symm (ltc cf) f a i ((a + b) / 2) xs)) (mid := (a + b) / 2) (n := (a + b) / 2 + m) (s0 := s0) (r0 := r0) (st := i) (en := (a + b) / 2 + m - i) (by omega) (by omega) rfl rfl hs0 hr0 hA.symm rfl ((cond_and_f (by omega)).symm) ((cond_and_t (by omega) (by omega)).symm) ((cond_and_f (by omega)).symm)
        exact QM_ret0 rfl (fun W hm => ⟨rfl, by rw [hE]; exact hm⟩)
       ·have g60 : (decide (((i : Nat) : Int) < (((a + b) / 2 : Nat) : Int))) = false := decide_eq_false h59
        refine CM_condF rfl g60 ?_
        refine CM_skip ?_
        refine QM_then ?_
        refine sr ?_
        refine wm ?_
        refine wm ?_
        refine wv (fun W hm => rv_lss rfl rfl) ?_
        refine wm ?_
        have g62 : (decide ((((a + b) / 2 : Nat) : Int) < (((a + b) / 2 + m - i : Nat) : Int))) = false := decide_eq_false (by omega)
        refine ws g62 ?_
        refine ws g62 ?_
        refine ws g62 ?_
        refine wv (fun W hm => rv_pickF rfl g62 rfl) ?_
        refine nt' ?_
        refine CM_condF rfl rfl ?_
        refine CM_skip ?_
        have hE : symm (ltc cf) (f + 1) a m b xs = xs := symm_c (x1 := xs) (x2 := xs) (x3 := xs) (mid := (a + b) / 2) (n := (a + b) / 2 + m) (s0 := s0) (r0 := r0) (st := i) (en := (a + b) / 2 + m - i) (by omega) (by omega) rfl rfl hs0 hr0 hA.symm rfl ((cond_and_f (by omega)).symm) ((cond_and_f (by omega)).symm) ((cond_and_f (by omega)).symm)
        exact QM_ret0 rfl (fun W hm => ⟨rfl, by rw [hE]; exact hm⟩)
      ·have g58 : (decide (((a : Nat) : Int) < ((i : Nat) : Int))) = false := decide_eq_false h57
       refine ws g58 ?_
       refine ws g58 ?_
       refine ws g58 ?_
       refine wv (fun W hm => rv_pickF rfl g58 rfl) ?_
       refine nt' ?_
       refine CM_condF rfl rfl ?_
       refine CM_skip ?_
       refine QM_then ?_
       refine sr ?_
       refine wm ?_
       refine wm ?_
       refine wv (fun W hm => rv_lss rfl rfl) ?_
       refine wm ?_
       have g63 : (decide ((((a + b) / 2 : Nat) : Int) < (((a + b) / 2 + m - i : Nat) : Int))) = false := decide_eq_false (by omega)
       refine ws g63 ?_
       refine ws g63 ?_
       refine ws g63 ?_
       refine wv (fun W hm => rv_pickF rfl g63 rfl) ?_
       refine nt' ?_
       refine CM_condF rfl rfl ?_
       refine CM_skip ?_
       have hE : symm (ltc cf) (f + 1) a m b xs = xs := symm_c (x1 := xs) (x2 := xs) (x3 := xs) (mid := (a + b) / 2) (n := (a + b) / 2 + m) (s0 := s0) (r0 := r0) (st := i) (en := (a + b) / 2 + m - i) (by omega) (by omega) rfl rfl hs0 hr0 hA.symm rfl ((cond_and_f (by omega)).symm) ((cond_and_f (by omega)).symm) ((cond_and_f (by omega)).symm)
       exact QM_ret0 rfl (fun W hm => ⟨rfl, by rw [hE]; exact hm⟩)

set_option maxRecDepth 100000 in
theorem cb121 : Cb Try.prog 121 := ⟨Try.f121, _, Try.func121, rfl, by decide⟩
set_option maxRecDepth 10000 in
set_option maxHeartbeats 4000000 in
theorem srt88_stable_c {α : Type} [Inhabited α] (K : Ck α) (hK : K.s = 4) (cf : α → α → Int) (fc : FuncId) (B : Nat) (w0 : World) (is : List It) (H : CmpOk Try.prog fc K B w0 is cf) (A : Option Addr) (n c : Nat) (hn : n ≤ 68719476736) (xs : List (List Value × α)) (w : World) (hm : Mem B w0 (iOwn (tSl (tCk K) 117) [.slice A n c] xs :: is) w) :
  Calls Try.prog 121 #[.slice A n c, .int .i64 ((n : Nat) : Int), .func (.func fc) #[] #[]] w fun e w' => e = .returned (.tuple #[]) ∧ Mem B w0 (iOwn (tSl (tCk K) 117) [.slice A n c] (mlev (ltc cf) n (n + 1) 20 (blk (ltc cf) n (n + 1) 0 xs)) :: is) w' := by
 refine call_enterW (L := [(0, .slice A n c), (1, .int .i64 ((n : Nat) : Int)), (2, .func (.func fc) #[] #[])]) (N := 63) Try.func121 rfl rfl (Nat.le_of_ble_eq_true rfl) (argsL_cons rfl (argsL_cons rfl (argsL_cons rfl argsL_nil))) hm ?_
 refine sr ?_
 refine wa ?_
 refine nt' ?_
 refine sr ?_
 refine wm ?_
 refine wa ?_
 refine wa ?_
 refine nt' ?_
 refine CM_seq ?_
 refine CM_block ?_
 refine CM_loop (σ := Nat × Nat × Nat × List (List Value × α)) (fun s => [(0, .slice A n c), (1, .int .i64 ((n : Nat) : Int)), (2, .func (.func fc) #[] #[]), (6, .int .i64 20), (7, .int .i64 ((s.1 : Nat) : Int)), (8, .int .i64 ((s.2.1 : Nat) : Int))]) (fun s => (iOwn (tSl (tCk K) 117) [.slice A n c] s.2.2.2 :: is)) (fun s => s.2.1 = s.1 + 20 ∧ n ≤ s.2.2.1 + s.1 ∧ s.1 ≤ n ∧ blk (ltc cf) n s.2.2.1 s.1 s.2.2.2 = blk (ltc cf) n (n + 1) 0 xs) (fun s => n - s.1) (0, 20, n + 1, xs) (subL_cons rfl (subL_cons rfl (subL_cons rfl (subL_cons rfl (subL_cons rfl (subL_cons rfl subL_nil)))))) (fun W hm => hm) ⟨(show 20 = 0 + 20 from by omega), (show n ≤ (n + 1) + 0 from by omega), (show 0 ≤ n from by omega), (show blk (ltc cf) n (n + 1) 0 xs = blk (ltc cf) n (n + 1) 0 xs from rfl)⟩ ?_
 rintro ⟨p, q, f, d⟩ H1
 obtain ⟨hq, hf5, hf6, hF⟩ : q = p + 20 ∧ n ≤ f + p ∧ p ≤ n ∧ blk (ltc cf) n f p d = blk (ltc cf) n (n + 1) 0 xs := H1
 show CM Try.prog 63 _ _ _ _ [(0, .slice A n c), (1, .int .i64 ((n : Nat) : Int)), (2, .func (.func fc) #[] #[]), (6, .int .i64 20), (7, .int .i64 ((p : Nat) : Int)), (8, .int .i64 ((q : Nat) : Int))] (iOwn (tSl (tCk K) 117) [.slice A n c] d :: is)
 subst hq
 refine CM_seq ?_
 refine sr ?_
 refine wm ?_
 refine wm ?_
 refine wv (fun W hm => rv_leq rfl rfl) ?_
 refine nt' ?_
 by_cases h2 : ((p + 20 : Nat) : Int) ≤ ((n : Nat) : Int)
 ·have g3 : (decide (((p + 20 : Nat) : Int) ≤ ((n : Nat) : Int))) = true := decide_eq_true h2
  refine CM_condT rfl g3 ?_
  refine CM_skip ?_
  refine QM_then ?_
  refine CM_block ?_
  refine sr ?_
  refine wm ?_
  refine wm ?_
  refine wm ?_
  refine wm ?_
  refine WM_callW (χ := Unit) (val := fun _ => .tuple #[]) (js := fun _ => (iOwn (tSl (tCk K) 117) [.slice A n c] (insL (ltc cf) p (p + 20 - p - 1) (p + 1) d) :: is)) (cl_fn cb132 rfl) (fun W hm => (srt88_ins_c K hK cf fc B w0 is H A n c hn p (p + 20) d (by omega) (by omega) W hm).mono (fun _ _ h => ⟨(), h.1, h.2⟩)) (Wd_none rfl) (by decide) (fun _ => ?_)
  refine nt' ?_
  refine sr ?_
  refine wm ?_
  refine wa ?_
  refine nt' ?_
  refine CM_region ?_
  refine wm ?_
  refine wm ?_
  refine wv (fun W hm => rv_addN (p := p + 20) (q := 20) rfl rfl (by omega)) ?_
  refine wa ?_
  refine WM_nil ?_
  refine QM_block_normal ?_
  exact QM_round (p + 20, p + 20 + 20, f - 1, (insL (ltc cf) p (p + 20 - p - 1) (p + 1) d)) (subL_cons rfl (subL_cons rfl (subL_cons rfl (subL_cons rfl (subL_cons rfl (subL_cons rfl subL_nil)))))) (fun W hm => hm) ⟨(show (p + 20 + 20) = (p + 20) + 20 from by omega), (show n ≤ (f - 1) + (p + 20) from by omega), (show (p + 20) ≤ n from by omega), (show blk (ltc cf) n (f - 1) (p + 20) (insL (ltc cf) p (p + 20 - p - 1) (p + 1) d) = blk (ltc cf) n (n + 1) 0 xs from (blk_step (by omega) (by omega)).symm.trans hF)⟩ (show n - (p + 20) < n - p from by omega)
 ·have g3 : (decide (((p + 20 : Nat) : Int) ≤ ((n : Nat) : Int))) = false := decide_eq_false h2
  refine CM_condF rfl g3 ?_
  refine CM_exit ?_
  refine QM_then_exit ?_
  refine QM_then_exit ?_
  have hY := (blk_end (lt := ltc cf) (f := f) (xs := d) (show ¬ p + 20 ≤ n by omega)).symm.trans hF
  refine QM_block_hit ?_
  refine QM_then ?_
  refine sr ?_
  refine wm ?_
  refine wm ?_
  refine wm ?_
  refine wm ?_
  refine WM_callW (χ := Unit) (val := fun _ => .tuple #[]) (js := fun _ => (iOwn (tSl (tCk K) 117) [.slice A n c] (insL (ltc cf) p (n - p - 1) (p + 1) d) :: is)) (cl_fn cb132 rfl) (fun W hm => (srt88_ins_c K hK cf fc B w0 is H A n c hn p n d (by omega) (by omega) W hm).mono (fun _ _ h => ⟨(), h.1, h.2⟩)) (Wd_none rfl) (by decide) (fun _ => ?_)
  refine nt' ?_
  refine CM_block ?_
  refine CM_loop (σ := Nat × Nat × List (List Value × α)) (fun s => [(0, .slice A n c), (1, .int .i64 ((n : Nat) : Int)), (2, .func (.func fc) #[] #[]), (6, .int .i64 ((s.1 : Nat) : Int))]) (fun s => (iOwn (tSl (tCk K) 117) [.slice A n c] s.2.2 :: is)) (fun s => 0 < s.1 ∧ n < s.2.1 + s.1 ∧ mlev (ltc cf) n s.2.1 s.1 s.2.2 = mlev (ltc cf) n (n + 1) 20 (blk (ltc cf) n (n + 1) 0 xs)) (fun s => n - s.1) (20, n + 1, (insL (ltc cf) p (n - p - 1) (p + 1) d)) (subL_cons rfl (subL_cons rfl (subL_cons rfl (subL_cons rfl subL_nil)))) (fun W hm => hm) ⟨(show 0 < 20 from by omega), (show n < (n + 1) + 20 from by omega), (show mlev (ltc cf) n (n + 1) 20 (insL (ltc cf) p (n - p - 1) (p + 1) d) = mlev (ltc cf) n (n + 1) 20 (blk (ltc cf) n (n + 1) 0 xs) from by rw [hY])⟩ ?_
  rintro ⟨w, f2, d2⟩ H4
  obtain ⟨hw, hf7, hF2⟩ : 0 < w ∧ n < f2 + w ∧ mlev (ltc cf) n f2 w d2 = mlev (ltc cf) n (n + 1) 20 (blk (ltc cf) n (n + 1) 0 xs) := H4
  show CM Try.prog 63 _ _ _ _ [(0, .slice A n c), (1, .int .i64 ((n : Nat) : Int)), (2, .func (.func fc) #[] #[]), (6, .int .i64 ((w : Nat) : Int))] (iOwn (tSl (tCk K) 117) [.slice A n c] d2 :: is)
  refine CM_seq ?_
  refine sr ?_
  refine wm ?_
  refine wm ?_
  refine wv (fun W hm => rv_lss rfl rfl) ?_
  refine nt' ?_
  by_cases h5 : ((w : Nat) : Int) < ((n : Nat) : Int)
  ·have g6 : (decide (((w : Nat) : Int) < ((n : Nat) : Int))) = true := decide_eq_true h5
   refine CM_condT rfl g6 ?_
   refine CM_skip ?_
   refine QM_then ?_
   refine CM_block ?_
   refine sr ?_
   refine wm ?_
   refine wv (fun W hm => rv_mulN (p := 2) (q := w) rfl rfl (by omega)) ?_
   refine wa ?_
   refine wa ?_
   refine nt' ?_
   refine CM_seq ?_
   refine CM_block ?_
   refine CM_loop (σ := Nat × Nat × Nat × List (List Value × α)) (fun s => [(0, .slice A n c), (1, .int .i64 ((n : Nat) : Int)), (2, .func (.func fc) #[] #[]), (6, .int .i64 ((w : Nat) : Int)), (7, .int .i64 ((s.1 : Nat) : Int)), (8, .int .i64 ((s.2.1 : Nat) : Int))]) (fun s => (iOwn (tSl (tCk K) 117) [.slice A n c] s.2.2.2 :: is)) (fun s => s.2.1 = s.1 + 2 * w ∧ n < s.2.2.1 + s.1 ∧ s.1 ≤ n ∧ mrg (ltc cf) n w s.2.2.1 s.1 s.2.2.2 = mrg (ltc cf) n w (n + 1) 0 d2) (fun s => n - s.1) (0, 2 * w, n + 1, d2) (subL_cons rfl (subL_cons rfl (subL_cons rfl (subL_cons rfl (subL_cons rfl (subL_cons rfl subL_nil)))))) (fun W hm => hm) ⟨(show (2 * w) = 0 + 2 * w from by omega), (show n < (n + 1) + 0 from by omega), (show 0 ≤ n from by omega), (show mrg (ltc cf) n w (n + 1) 0 d2 = mrg (ltc cf) n w (n + 1) 0 d2 from rfl)⟩ ?_
   rintro ⟨p2, q2, f3, d3⟩ H7
   obtain ⟨hq2, hf8, hf9, hF3⟩ : q2 = p2 + 2 * w ∧ n < f3 + p2 ∧ p2 ≤ n ∧ mrg (ltc cf) n w f3 p2 d3 = mrg (ltc cf) n w (n + 1) 0 d2 := H7
   show CM Try.prog 63 _ _ _ _ [(0, .slice A n c), (1, .int .i64 ((n : Nat) : Int)), (2, .func (.func fc) #[] #[]), (6, .int .i64 ((w : Nat) : Int)), (7, .int .i64 ((p2 : Nat) : Int)), (8, .int .i64 ((q2 : Nat) : Int))] (iOwn (tSl (tCk K) 117) [.slice A n c] d3 :: is)
   subst hq2
   refine CM_seq ?_
   refine sr ?_
   refine wm ?_
   refine wm ?_
   refine wv (fun W hm => rv_leq rfl rfl) ?_
   refine nt' ?_
   by_cases h8 : ((p2 + 2 * w : Nat) : Int) ≤ ((n : Nat) : Int)
   ·have g9 : (decide (((p2 + 2 * w : Nat) : Int) ≤ ((n : Nat) : Int))) = true := decide_eq_true h8
    refine CM_condT rfl g9 ?_
    refine CM_skip ?_
    refine QM_then ?_
    refine CM_block ?_
    refine sr ?_
    refine wm ?_
    refine wm ?_
    refine wm ?_
    refine wm ?_
    refine wv (fun W hm => rv_addN (p := p2) (q := w) rfl rfl (by omega)) ?_
    refine wm ?_
    refine wm ?_
    refine WM_callW (χ := Unit) (val := fun _ => .tuple #[]) (js := fun _ => (iOwn (tSl (tCk K) 117) [.slice A n c] (symm (ltc cf) (2 * w) p2 (p2 + w) (p2 + 2 * w) d3) :: is)) (cl_fn cb133 rfl) (fun W hm => (srt88_symm_c K hK cf fc B w0 is H A n c hn (2 * w) p2 (p2 + w) (p2 + 2 * w) d3 (by omega) (by omega) (by omega) (by omega) W hm).mono (fun _ _ h => ⟨(), h.1, h.2⟩)) (Wd_none rfl) (by decide) (fun _ => ?_)
    refine nt' ?_
    refine sr ?_
    refine wm ?_
    refine wa ?_
    refine nt' ?_
    refine CM_region ?_
    refine wm ?_
    refine wm ?_
    refine wv (fun W hm => rv_mulN (p := 2) (q := w) rfl rfl (by omega)) ?_
    refine wv (fun W hm => rv_addN (p := p2 + 2 * w) (q := 2 * w) rfl rfl (by omega)) ?_
    refine wa ?_
    refine WM_nil ?_
    refine QM_block_normal ?_
    exact QM_round (p2 + 2 * w, p2 + 2 * w + 2 * w, f3 - 1, (symm (ltc cf) (2 * w) p2 (p2 + w) (p2 + 2 * w) d3)) (subL_cons rfl (subL_cons rfl (subL_cons rfl (subL_cons rfl (subL_cons rfl (subL_cons rfl subL_nil)))))) (fun W hm => hm) ⟨(show (p2 + 2 * w + 2 * w) = (p2 + 2 * w) + 2 * w from by omega), (show n < (f3 - 1) + (p2 + 2 * w) from by omega), (show (p2 + 2 * w) ≤ n from by omega), (show mrg (ltc cf) n w (f3 - 1) (p2 + 2 * w) (symm (ltc cf) (2 * w) p2 (p2 + w) (p2 + 2 * w) d3) = mrg (ltc cf) n w (n + 1) 0 d2 from (mrg_step (by omega) (by omega)).symm.trans hF3)⟩ (show n - (p2 + 2 * w) < n - p2 from by omega)
   ·have g9 : (decide (((p2 + 2 * w : Nat) : Int) ≤ ((n : Nat) : Int))) = false := decide_eq_false h8
    refine CM_condF rfl g9 ?_
    refine CM_exit ?_
    refine QM_then_exit ?_
    refine QM_then_exit ?_
    have hM := (mrg_end (lt := ltc cf) (xs := d3) (show ¬ p2 + 2 * w ≤ n by omega) hf8 hf9).symm.trans hF3
    refine QM_block_hit ?_
    refine QM_then ?_
    refine CM_seq ?_
    refine sr ?_
    refine wm ?_
    refine wm ?_
    refine wv (fun W hm => rv_addN (p := p2) (q := w) rfl rfl (by omega)) ?_
    refine wa ?_
    refine nt' ?_
    refine sr ?_
    refine wm ?_
    refine wm ?_
    refine wv (fun W hm => rv_lss rfl rfl) ?_
    refine nt' ?_
    by_cases h10 : ((p2 + w : Nat) : Int) < ((n : Nat) : Int)
    ·have g11 : (decide (((p2 + w : Nat) : Int) < ((n : Nat) : Int))) = true := decide_eq_true h10
     refine CM_condT rfl g11 ?_
     refine CM_region ?_
     refine wm ?_
     refine wm ?_
     refine wm ?_
     refine wm ?_
     refine wm ?_
     refine WM_callW (χ := Unit) (val := fun _ => .tuple #[]) (js := fun _ => (iOwn (tSl (tCk K) 117) [.slice A n c] (symm (ltc cf) (n - p2) p2 (p2 + w) n d3) :: is)) (cl_fn cb133 rfl) (fun W hm => (srt88_symm_c K hK cf fc B w0 is H A n c hn (n - p2) p2 (p2 + w) n d3 (by omega) (by omega) (by omega) (by omega) W hm).mono (fun _ _ h => ⟨(), h.1, h.2⟩)) (Wd_none rfl) (by decide) (fun _ => ?_)
     refine nt' ?_
     refine CM_region ?_
     refine wm ?_
     refine wv (fun W hm => rv_mulN (p := w) (q := 2) rfl rfl (by omega)) ?_
     refine wa ?_
     refine WM_nil ?_
     refine QM_block_normal ?_
     exact QM_round (w * 2, f2 - 1, (symm (ltc cf) (n - p2) p2 (p2 + w) n d3)) (subL_cons rfl (subL_cons rfl (subL_cons rfl (subL_cons rfl subL_nil)))) (fun W hm => hm) ⟨(show 0 < (w * 2) from by omega), (show n < (f2 - 1) + (w * 2) from by omega), (show mlev (ltc cf) n (f2 - 1) (w * 2) (symm (ltc cf) (n - p2) p2 (p2 + w) n d3) = mlev (ltc cf) n (n + 1) 20 (blk (ltc cf) n (n + 1) 0 xs) from (congrArg (mlev (ltc cf) n (f2 - 1) (w * 2)) (by rw [decide_eq_true (show p2 + w < n by omega)] at hM; exact hM)).trans ((mlev_step (by omega) (by omega)).symm.trans hF2))⟩ (show n - (w * 2) < n - w from by omega)
    ·have g11 : (decide (((p2 + w : Nat) : Int) < ((n : Nat) : Int))) = false := decide_eq_false h10
     refine CM_condF rfl g11 ?_
     refine CM_skip ?_
     refine QM_then ?_
     refine CM_region ?_
     refine wm ?_
     refine wv (fun W hm => rv_mulN (p := w) (q := 2) rfl rfl (by omega)) ?_
     refine wa ?_
     refine WM_nil ?_
     refine QM_block_normal ?_
     exact QM_round (w * 2, f2 - 1, d3) (subL_cons rfl (subL_cons rfl (subL_cons rfl (subL_cons rfl subL_nil)))) (fun W hm => hm) ⟨(show 0 < (w * 2) from by omega), (show n < (f2 - 1) + (w * 2) from by omega), (show mlev (ltc cf) n (f2 - 1) (w * 2) d3 = mlev (ltc cf) n (n + 1) 20 (blk (ltc cf) n (n + 1) 0 xs) from (congrArg (mlev (ltc cf) n (f2 - 1) (w * 2)) (by rw [decide_eq_false (show ¬ p2 + w < n by omega)] at hM; exact hM)).trans ((mlev_step (by omega) (by omega)).symm.trans hF2))⟩ (show n - (w * 2) < n - w from by omega)
  ·have g6 : (decide (((w : Nat) : Int) < ((n : Nat) : Int))) = false := decide_eq_false h5
   refine CM_condF rfl g6 ?_
   refine CM_exit ?_
   refine QM_then_exit ?_
   refine QM_then_exit ?_
   refine QM_block_hit ?_
   have hE : mlev (ltc cf) n (n + 1) 20 (blk (ltc cf) n (n + 1) 0 xs) = d2 := ((mlev_end (by omega)).symm.trans hF2).symm
   exact QM_ret0 rfl (fun W hm => ⟨rfl, by rw [hE]; exact hm⟩)

set_option maxRecDepth 100000 in
theorem cb88 : Cb Try.prog 88 := ⟨Try.f88, _, Try.func88, rfl, by decide⟩
set_option maxRecDepth 10000 in
set_option maxHeartbeats 4000000 in
theorem srt88_sort_c {α : Type} [Inhabited α] (K : Ck α) (hK : K.s = 4) (cf : α → α → Int) (fc : FuncId) (B : Nat) (w0 : World) (is : List It) (H : CmpOk Try.prog fc K B w0 is cf) (A : Option Addr) (n c : Nat) (hn : n ≤ 68719476736) (xs : List (List Value × α)) (w : World) (hm : Mem B w0 (iOwn (tSl (tCk K) 117) [.slice A n c] xs :: is) w) :
  Calls Try.prog 88 #[.slice A n c, .func (.func fc) #[] #[]] w fun e w' => e = .returned (.tuple #[]) ∧ Mem B w0 (iOwn (tSl (tCk K) 117) [.slice A n c] (mlev (ltc cf) n (n + 1) 20 (blk (ltc cf) n (n + 1) 0 xs)) :: is) w' := by
 refine call_enterW (L := [(0, .slice A n c), (1, .func (.func fc) #[] #[])]) (N := 9) Try.func88 rfl rfl (Nat.le_of_ble_eq_true rfl) (argsL_cons rfl (argsL_cons rfl argsL_nil)) hm ?_
 refine CM_region ?_
 refine wm ?_
 refine wm ?_
 refine wv (fun W hm => rv_len Try.underlying54 rfl) ?_
 refine wm ?_
 refine WM_callW (χ := Unit) (val := fun _ => .tuple #[]) (js := fun _ => (iOwn (tSl (tCk K) 117) [.slice A n c] (mlev (ltc cf) n (n + 1) 20 (blk (ltc cf) n (n + 1) 0 xs)) :: is)) (cl_fn cb121 rfl) (fun W hm => (srt88_stable_c K hK cf fc B w0 is H A n c hn xs W hm).mono (fun _ _ h => ⟨(), h.1, h.2⟩)) (Wd_none rfl) (by decide) (fun _ => ?_)
 refine WM_nil ?_
 have hE : mlev (ltc cf) n (n + 1) 20 (blk (ltc cf) n (n + 1) 0 xs) = (mlev (ltc cf) n (n + 1) 20 (blk (ltc cf) n (n + 1) 0 xs)) := rfl
 exact QM_ret0 rfl (fun W hm => ⟨rfl, by rw [hE]; exact hm⟩)

end Go.Proofs.Ytjcdginailhfmaa
