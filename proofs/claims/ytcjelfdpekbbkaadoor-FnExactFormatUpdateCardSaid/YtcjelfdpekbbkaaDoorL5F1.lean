/-
  Contracts of functions, printed by a program of ours.
-/
import Derived.Test.YtcjelfdpekbbkaaDoorDat
namespace Go.Proofs.YtcjelfdpekbbkaaDoor
open Go.RowKit
set_option maxRecDepth 100000
set_option maxHeartbeats 4000000
open _root_.Go.Proofs.Tryd
def laws_szIntS_m (x0 : (List Int)) (x1 : Int) : Int :=
 cond (decide ((IntKind.i64.wrap (x1 - ((x0.length : Nat) : Int))) < 0)) (-1) (IntKind.i64.wrap (x1 - ((x0.length : Nat) : Int)))
theorem cb53 : Cb Tryd.prog 53 := ⟨f53, _, func53, rfl, by decide⟩
theorem laws_szIntS_c (w : World) (z0 : Value) (x0 : (List Int)) (x1 : Int) (r_0 : rdS tInt w w.heap.size z0 x0) :
  Calls Tryd.prog 53 #[z0, .int .i64 x1] w fun e w' => e = .returned (.int .i64 (laws_szIntS_m x0 x1)) ∧ Below w.heap.size w w' := by
 obtain ⟨m1, A2, c3, rfl, q4, r5⟩ := rdS_op r_0
 refine ce2 (L := [(0, .slice A2 x0.length c3), (1, .int .i64 x1)]) (N := 12) func53 ?_
 refine sr (wa (nt' (sr (wm (wm ?_)))))
 refine wv (vlen underlying28) ?_
 refine wv (fun W hm => rv_sub rfl rfl) ?_
 refine wa (nt' (CM_seq (sr (wm ?_))))
 refine wv vlss ?_
 refine nt' ?_
 by_cases h6 : (IntKind.i64.wrap (x1 - ((x0.length : Nat) : Int))) < 0
 ·have g7 := decide_eq_true h6
  refine CM_condT rfl g7 ?_
  refine sr (wa (nt' (CM_ret (QM_then_ret ?_))))
  exact rti (h := cond_t g7 (rfl))
 ·have g7 := decide_eq_false h6
  refine CM_condF rfl g7 ?_
  refine CM_skip (QM_then (sr (wm (wa (nt' (CM_ret ?_))))))
  exact rti (h := cond_f g7 (rfl))

def laws_szRow_m (x0 : DRow) (x1 : Int) : Int :=
 cond (decide ((laws_szIntS_m x0.Values x1) < 0)) (-1) (laws_szIntS_m x0.Values x1)
theorem cb56 : Cb Tryd.prog 56 := ⟨f56, _, func56, rfl, by decide⟩
theorem laws_szRow_c (w : World) (z0 : List Value) (x0 : DRow) (x1 : Int) (r_0 : tyLRow.rd w w.heap.size z0 x0) :
  Calls Tryd.prog 56 #[.agg z0.toArray, .int .i64 x1] w fun e w' => e = .returned (.int .i64 (laws_szRow_m x0 x1)) ∧ Below w.heap.size w w' := by
 obtain ⟨v1, rfl, r2⟩ := tyLRow_rd r_0
 obtain ⟨m3, A4, c5, rfl, q6, r7⟩ := rdS_op r2
 refine ce2 (L := [(0, .agg #[.int .i64 x0.Id, .slice A4 x0.Values.length c5]), (1, .int .i64 x1)]) (N := 12) func56 ?_
 refine sr ?_
 refine WM_box rfl (Wd_none rfl) (by decide) (fun p8 => ?_)
 refine wa (nt' (sr ?_))
 refine wv (vf underlying38 rfl type28) ?_
 refine wv (vl 0 1 underlying28) ?_
 refine wm ?_
 refine wcv (cl_fn cb53 rfl) (fun W hm => laws_szIntS_c W _ x0.Values x1 (hm.rdS0 r7)) ?_
 refine wa (nt' (CM_seq (sr (wm ?_))))
 refine wv vlss ?_
 refine nt' ?_
 by_cases h9 : (laws_szIntS_m x0.Values x1) < 0
 ·have g10 := decide_eq_true h9
  refine CM_condT rfl g10 ?_
  refine sr (wa (nt' (CM_ret (QM_then_ret ?_))))
  exact rti (h := cond_t g10 (rfl))
 ·have g10 := decide_eq_false h9
  refine CM_condF rfl g10 ?_
  refine CM_skip (QM_then (sr (wm (wa (nt' (CM_ret ?_))))))
  exact rti (h := cond_f g10 (rfl))

def laws_szUpdate_m (x0 : DUpdate) (x1 : Int) : Int :=
 cond (decide ((laws_szRow_m x0.Row x1) < 0)) (-1) (laws_szRow_m x0.Row x1)
theorem cb16 : Cb Tryd.prog 16 := ⟨f16, _, func16, rfl, by decide⟩
theorem laws_szUpdate_c (w : World) (z0 : List Value) (x0 : DUpdate) (x1 : Int) (r_0 : tyLUpdate.rd w w.heap.size z0 x0) :
  Calls Tryd.prog 16 #[.agg z0.toArray, .int .i64 x1] w fun e w' => e = .returned (.int .i64 (laws_szUpdate_m x0 x1)) ∧ Below w.heap.size w w' := by
 obtain ⟨v1, rfl, r2⟩ := tyLUpdate_rd r_0
 obtain ⟨m3, A4, c5, rfl, q6, r7⟩ := rdS_op r2
 refine ce2 (L := [(0, .agg #[.int .i64 x0.Kind, .int .i64 x0.Row.Id, .slice A4 x0.Row.Values.length c5, .int .i64 x0.Field, .int .i64 x0.Value]), (1, .int .i64 x1)]) (N := 12) func16 ?_
 refine sr ?_
 refine WM_box rfl (Wd_none rfl) (by decide) (fun p8 => ?_)
 refine wa (nt' (sr ?_))
 refine wv (vf underlying40 rfl type38) ?_
 refine wv (fun W hm => rv_loadN (cs := [.int .i64 x0.Row.Id, .slice A4 x0.Row.Values.length c5]) underlying38 type38 rfl rfl (hm.boxPart (n := 0) rfl rfl)) ?_
 refine wm ?_
 refine wcv (cl_fn cb56 rfl) (fun W hm => laws_szRow_c W _ x0.Row x1 (tyLRow_mk (x := x0.Row) (hm.rdS0 r7))) ?_
 refine wa (nt' (CM_seq (sr (wm ?_))))
 refine wv vlss ?_
 refine nt' ?_
 by_cases h9 : (laws_szRow_m x0.Row x1) < 0
 ·have g10 := decide_eq_true h9
  refine CM_condT rfl g10 ?_
  refine sr (wa (nt' (CM_ret (QM_then_ret ?_))))
  exact rti (h := cond_t g10 (rfl))
 ·have g10 := decide_eq_false h9
  refine CM_condF rfl g10 ?_
  refine CM_skip (QM_then (sr (wm (wa (nt' (CM_ret ?_))))))
  exact rti (h := cond_f g10 (rfl))

def laws_toIntS_b1 (x0 : (List Int)) (k9 : Nat) (d10 : (List Int)) : (List Int) ⊕ ((List Int)) :=
 Sum.inr (d10.set k9 (gt x0 k9))
def laws_toIntS_m (x0 : (List Int)) : (List Int) :=
 Sum.elim id (fun (s : (List Int)) => s) (rng (R := (List Int)) (fun k (s : (List Int)) => laws_toIntS_b1 x0 k s) (x0.length - 0) 0 (List.replicate x0.length (0 : Int)))
theorem cb54 : Cb Tryd.prog 54 := ⟨f54, _, func54, rfl, by decide⟩
theorem laws_toIntS_c (w : World) (z0 : Value) (x0 : (List Int)) (r_0 : rdS tInt w w.heap.size z0 x0) (s_0 : x0.length ≤ 68719476736) :
  Calls Tryd.prog 54 #[z0] w fun e w' => ∃ v : Value, e = .returned (v) ∧ Mem w.heap.size w [iOwn (tSl tInt 3) [v] (laws_toIntS_m x0)] w' := by
 obtain ⟨m1, A2, c3, rfl, q4, r5⟩ := rdS_op r_0
 have l6 : x0.length ≤ 68719476736 := s_0
 refine ce1 (L := [(0, .slice A2 x0.length c3)]) (N := 22) func54 ?_
 refine sr (wa (nt' (sr (wm ?_))))
 refine wv (vlen underlying28) ?_
 refine WM_make (E := tInt) (n := x0.length) (x0 := (0 : Int)) underlying28 type3 rfl rfl rfl (fun _ => tInt_own) rfl rfl (show x0.length * 8 ≤ 281474976710656 from by omega) (by omega) (Wd_none rfl) (by decide) (fun p7 => ?_)
 refine wa (nt' (CM_seq (sr (wa (nt' (CM_block ?_))))))
 let F1 := fun k (s : (List Int)) => laws_toIntS_b1 x0 k s
 let R2 := rng (R := (List Int)) F1
 refine CM_loop (σ := Nat × ((List Int)) × (Unit)) (fun s => [(0, .slice A2 x0.length c3), (3, .slice (some ⟨p7, 0, none⟩) x0.length x0.length), (4, .int .i64 ((s.1 : Nat) : Int))]) (fun s => [iOwn (tSl tInt 3) [.slice (some ⟨p7, 0, none⟩) x0.length x0.length] s.2.1]) (fun s => s.1 ≤ x0.length ∧ R2 (x0.length - s.1) s.1 s.2.1 = R2 (x0.length - 0) 0 (List.replicate x0.length (0 : Int))) (fun s => x0.length - s.1) (0, (List.replicate x0.length (0 : Int)), ()) sl3 (fun W hm => hm) ⟨(by omega), rfl⟩ ?_
 rintro ⟨k9, d10, ⟨⟩⟩ H13
 obtain ⟨hk11, hF12⟩ : k9 ≤ x0.length ∧ R2 (x0.length - k9) k9 d10 = R2 (x0.length - 0) 0 (List.replicate x0.length (0 : Int)) := H13
 show CM Tryd.prog 22 _ _ _ _ [(0, .slice A2 x0.length c3), (3, .slice (some ⟨p7, 0, none⟩) x0.length x0.length), (4, .int .i64 ((k9 : Nat) : Int))] [iOwn (tSl tInt 3) [.slice (some ⟨p7, 0, none⟩) x0.length x0.length] d10]
 refine CM_seq (sr (wm (wm ?_)))
 refine wv (vlen underlying28) ?_
 refine wv vlss ?_
 refine nt' ?_
 by_cases hl14 : k9 < x0.length
 ·have g15 := dlT hl14
  refine CM_condT rfl g15 ?_
  refine CM_skip (QM_then (CM_seq (CM_block (CM_region (wm (wm (wm (wm ?_))))))))
  obtain ⟨a16, rfl, hb17, he18⟩ := q4 (by omega)
  refine wv (vix 1 k9 underlying28 type3) ?_
  refine wv (fun W hm => rv_load underlying3 rfl rfl ((hm.cell0 (show (a16.add (k9 * 1)).block < w.heap.size from by rw [add_block]; exact hb17.1)).trans (rdS_int he18 k9 (by omega)))) ?_
  refine wv (vix 1 k9 underlying28 type3) ?_
  refine WM_setEl (E := tInt) (e := 3) (u := .int .i64 (gt x0 k9)) (k := k9) (p := p7) (n := x0.length) (xs := d10) (eis := []) (js := []) (yv := (gt x0 k9)) (fun W hm => hm) (fun _ _ hs => (Sep.nil hs ▸ tInt_own)) rfl type3 rfl (by omega) rfl rfl (Wd_none rfl) ?_
  refine WM_nil (QM_block_normal (QM_then (CM_region (wm ?_))))
  refine wv (vadN k9 1 (by omega)) ?_
  refine wa (WM_nil ?_)
  have hn19 := rng_next (R := (List Int)) (body := F1) (k := k9) (s := d10) (s' := (d10.set k9 (gt x0 k9))) (show k9 < x0.length from by omega) (rfl) hF12
  exact QM_round (k9 + 1, (d10.set k9 (gt x0 k9)), ()) sl3 (fun W hm => hm) ⟨(by omega), hn19⟩ (rl (by omega))
 ·have g15 := dlF hl14
  refine CM_condF rfl g15 ?_
  refine CM_exit (QM_then_exit (QM_then_exit ?_))
  have hE20 : R2 (x0.length - 0) 0 (List.replicate x0.length (0 : Int)) = Sum.inr d10 := rng_end hl14 hF12
  refine QM_block_hit (QM_then (sr (wm (wa (nt' (CM_ret ?_))))))
  have he21 := (show laws_toIntS_m x0 = d10 from fin_inr hE20 (rfl))
  refine QM_r1 rfl (RR_tmp rfl) (fun W hm => ⟨.slice (some ⟨p7, 0, none⟩) x0.length x0.length, ?_, ?_⟩)
  ·first | rw [he21] | rfl
  ·rw [he21]; exact hm

def laws_toRow_m (x0 : DRow) : DRow :=
 (⟨x0.Id, (laws_toIntS_m x0.Values)⟩ : DRow)
theorem cb59 : Cb Tryd.prog 59 := ⟨f59, _, func59, rfl, by decide⟩
theorem laws_toRow_c (w : World) (z0 : List Value) (x0 : DRow) (r_0 : tyLRow.rd w w.heap.size z0 x0) (s_0 : smRow 68719476736 x0) :
  Calls Tryd.prog 59 #[.agg z0.toArray] w fun e w' => ∃ v : List Value, e = .returned (.agg v.toArray) ∧ Mem w.heap.size w [iOwn tyRow v (laws_toRow_m x0)] w' := by
 obtain ⟨v1, rfl, r2⟩ := tyLRow_rd r_0
 obtain ⟨m3, A4, c5, rfl, q6, r7⟩ := rdS_op r2
 have l8 : x0.Values.length ≤ 68719476736 := s_0
 refine ce1 (L := [(0, .agg #[.int .i64 x0.Id, .slice A4 x0.Values.length c5])]) (N := 12) func59 ?_
 refine sr ?_
 refine WM_box rfl (Wd_none rfl) (by decide) (fun p9 => ?_)
 refine WM_alloc type43 rfl (Wd_none rfl) (by decide) (fun p10 => ?_)
 refine nt' (sr ?_)
 refine WM_alloc type43 rfl (Wd_none rfl) (by decide) (fun p11 => ?_)
 refine nt' (sr ?_)
 refine wv (vf underlying38 rfl type3) ?_
 refine wv (vl 2 0 underlying3) ?_
 refine wv (vf underlying43 rfl type3) ?_
 let I2 : It := iBox p9 38 [.int .i64 x0.Id, .slice A4 x0.Values.length c5]
 refine sb 0 [.int .i64 x0.Id, .slice none 0 0] [iBox p10 43 [.int .i64 0, .slice none 0 0], I2] (fun W hm => hm) type3 ?_
 refine nt' (sr ?_)
 refine wv (vf underlying38 rfl type28) ?_
 refine wv (vl 2 1 underlying28) ?_
 refine wcl (tSl tInt 3) (laws_toIntS_m x0.Values) (cl_fn cb54 rfl) (fun W hm => laws_toIntS_c W _ x0.Values (hm.rdS0 r7) s_0) (fun z12 => ?_)
 refine WM_form (n := 0) rfl ?_
 rintro A13 c14 rfl m15
 refine wv (vf underlying43 rfl type28) ?_
 let K1 : List Value := [.int .i64 x0.Id, .slice A13 (laws_toIntS_m x0.Values).length c14]
 let I3 : It := iOwn (tSl tInt 3) [.slice A13 (laws_toIntS_m x0.Values).length c14] (laws_toIntS_m x0.Values)
 refine sb 1 K1 [I3, iBox p10 43 [.int .i64 0, .slice none 0 0], I2] (pk [1, 0, 2, 3]) type28 ?_
 refine nt' (sr ?_)
 refine wv (fun W hm => rv_loadN (cs := K1) underlying43 type43 rfl rfl (hm.boxCells (n := 0) rfl)) ?_
 refine sb 0 K1 [iBox p11 43 K1, I3, I2] (pk [2, 0, 1, 3]) type43 ?_
 refine nt' (CM_ret ?_)
 have he17 := (show laws_toRow_m x0 = (⟨x0.Id, (laws_toIntS_m x0.Values)⟩ : DRow) from rfl)
 refine QM_r1 rfl (RR_cell (n := 0) rfl rfl underlying43 type43 rfl) (fun W hm => ⟨K1, ?_, ?_⟩)
 ·first | rw [he17] | rfl
 ·rw [he17]; exact Mem.join (is := [I3]) (js := []) (fun _ _ hs => tyRow_join (x := (⟨x0.Id, (laws_toIntS_m x0.Values)⟩ : DRow)) hs) (hm.pick [2] (by decide))

def laws_toUpdate_m (x0 : DUpdate) : DUpdate :=
 (⟨x0.Kind, (laws_toRow_m x0.Row), x0.Field, x0.Value⟩ : DUpdate)
theorem cb18 : Cb Tryd.prog 18 := ⟨f18, _, func18, rfl, by decide⟩
theorem laws_toUpdate_c (w : World) (z0 : List Value) (x0 : DUpdate) (r_0 : tyLUpdate.rd w w.heap.size z0 x0) (s_0 : smUpdate 68719476736 x0) :
  Calls Tryd.prog 18 #[.agg z0.toArray] w fun e w' => ∃ v : List Value, e = .returned (.agg v.toArray) ∧ Mem w.heap.size w [iOwn tyUpdate v (laws_toUpdate_m x0)] w' := by
 obtain ⟨v1, rfl, r2⟩ := tyLUpdate_rd r_0
 obtain ⟨m3, A4, c5, rfl, q6, r7⟩ := rdS_op r2
 have l8 : x0.Row.Values.length ≤ 68719476736 := s_0
 refine ce1 (L := [(0, .agg #[.int .i64 x0.Kind, .int .i64 x0.Row.Id, .slice A4 x0.Row.Values.length c5, .int .i64 x0.Field, .int .i64 x0.Value])]) (N := 18) func18 ?_
 refine sr ?_
 refine WM_box rfl (Wd_none rfl) (by decide) (fun p9 => ?_)
 refine WM_alloc type45 rfl (Wd_none rfl) (by decide) (fun p10 => ?_)
 refine nt' (sr ?_)
 refine WM_alloc type45 rfl (Wd_none rfl) (by decide) (fun p11 => ?_)
 refine nt' (sr ?_)
 refine wv (vf underlying40 rfl type3) ?_
 refine wv (vl 2 0 underlying3) ?_
 refine wv (vf underlying45 rfl type3) ?_
 let K1 : List Value := [.int .i64 0, .int .i64 0, .slice none 0 0, .int .i64 0, .int .i64 0]
 let K2 : List Value := [.int .i64 x0.Kind, .int .i64 x0.Row.Id, .slice A4 x0.Row.Values.length c5, .int .i64 x0.Field, .int .i64 x0.Value]
 refine sb 0 [.int .i64 x0.Kind, .int .i64 0, .slice none 0 0, .int .i64 0, .int .i64 0] [iBox p10 45 K1, iBox p9 40 K2] (fun W hm => hm) type3 ?_
 refine nt' (sr ?_)
 refine wv (vf underlying40 rfl type38) ?_
 refine wv (fun W hm => rv_loadN (cs := [.int .i64 x0.Row.Id, .slice A4 x0.Row.Values.length c5]) underlying38 type38 rfl rfl (hm.boxPart (n := 2) rfl rfl)) ?_
 refine wcs tyRow (laws_toRow_m x0.Row) (cl_fn cb59 rfl) (fun W hm => laws_toRow_c W _ x0.Row (tyLRow_mk (x := x0.Row) (hm.rdS0 r7)) s_0) (fun z12 => ?_)
 refine tyRow_sp ?_
 rintro v13 rfl
 refine WM_form (n := 0) rfl ?_
 rintro A14 c15 rfl m16
 refine wv (vf underlying45 rfl type43) ?_
 let I4 : It := iOwn (tSl tInt 3) [.slice A14 ((laws_toRow_m x0.Row).Values).length c15] ((laws_toRow_m x0.Row).Values)
 refine sb 1 [.int .i64 x0.Kind, .int .i64 ((laws_toRow_m x0.Row).Id), .slice A14 ((laws_toRow_m x0.Row).Values).length c15, .int .i64 0, .int .i64 0] [I4, iBox p10 45 K1, iBox p9 40 K2] (pk [1, 0, 2, 3]) type43 ?_
 refine nt' (sr ?_)
 refine wv (vf underlying40 rfl type3) ?_
 refine wv (vl 3 3 underlying3) ?_
 refine wv (vf underlying45 rfl type3) ?_
 refine sb 3 [.int .i64 x0.Kind, .int .i64 ((laws_toRow_m x0.Row).Id), .slice A14 ((laws_toRow_m x0.Row).Values).length c15, .int .i64 x0.Field, .int .i64 0] [I4, iBox p10 45 K1, iBox p9 40 K2] (fun W hm => hm) type3 ?_
 refine nt' (sr ?_)
 refine wv (vf underlying40 rfl type3) ?_
 refine wv (vl 3 4 underlying3) ?_
 refine wv (vf underlying45 rfl type3) ?_
 let K3 : List Value := [.int .i64 x0.Kind, .int .i64 ((laws_toRow_m x0.Row).Id), .slice A14 ((laws_toRow_m x0.Row).Values).length c15, .int .i64 x0.Field, .int .i64 x0.Value]
 refine sb 4 K3 [I4, iBox p10 45 K1, iBox p9 40 K2] (fun W hm => hm) type3 ?_
 refine nt' (sr ?_)
 refine wv (fun W hm => rv_loadN (cs := K3) underlying45 type45 rfl rfl (hm.boxCells (n := 0) rfl)) ?_
 refine sb 0 K3 [iBox p11 45 K3, I4, iBox p9 40 K2] (pk [2, 0, 1, 3]) type45 ?_
 refine nt' (CM_ret ?_)
 have he18 := (show laws_toUpdate_m x0 = (⟨x0.Kind, (laws_toRow_m x0.Row), x0.Field, x0.Value⟩ : DUpdate) from rfl)
 refine QM_r1 rfl (RR_cell (n := 0) rfl rfl underlying45 type45 rfl) (fun W hm => ⟨K3, ?_, ?_⟩)
 ·first | rw [he18] | rfl
 ·rw [he18]; exact Mem.join (is := [I4]) (js := []) (fun _ _ hs => tyUpdate_join (x := (⟨x0.Kind, (laws_toRow_m x0.Row), x0.Field, x0.Value⟩ : DUpdate)) hs) (hm.pick [2] (by decide))

def spec_l1In_m (x0 : Int) (x1 : Int) (x2 : Int) : Bool :=
 cond (decide (x1 ≤ x0)) (decide (x0 ≤ x2)) false
theorem cb48 : Cb Tryd.prog 48 := ⟨f48, _, func48, rfl, by decide⟩
theorem spec_l1In_c (w : World) (x0 : Int) (x1 : Int) (x2 : Int) :
  Calls Tryd.prog 48 #[.int .i64 x0, .int .i64 x1, .int .i64 x2] w fun e w' => e = .returned (.bool (spec_l1In_m x0 x1 x2)) ∧ Below w.heap.size w w' := by
 refine ce3 (L := [(0, .int .i64 x0), (1, .int .i64 x1), (2, .int .i64 x2)]) (N := 15) func48 ?_
 refine sr (wa (nt' (sr (wm (wm ?_)))))
 refine wv (fun W hm => rv_geq rfl rfl) ?_
 refine wm ?_
 by_cases h1 : x1 ≤ x0
 ·have g2 := decide_eq_true h1
  refine wg vmv g2 ?_
  refine wg vmv g2 ?_
  refine wg (fun W hm => rv_leq rfl rfl) g2 ?_
  refine wv (vpT g2) ?_
  refine wa (nt' (CM_ret ?_))
  exact rtb (h := cond_t g2 (rfl))
 ·have g2 := decide_eq_false h1
  refine ws g2 ?_
  refine ws g2 ?_
  refine ws g2 ?_
  refine wv (vpF g2) ?_
  refine wa (nt' (CM_ret ?_))
  exact rtb (h := cond_f g2 (rfl))

theorem spec_l1In_fact {x a b : Int} (h : spec_l1In_m x a b = true) : a ≤ x ∧ x ≤ b := by
  unfold spec_l1In_m at h
  by_cases h1 : a ≤ x
  · rw [decide_eq_true h1] at h
    exact ⟨h1, of_decide_eq_true h⟩
  · rw [decide_eq_false h1] at h
    cases h
theorem spec_l1In_iff (x a b : Int) : spec_l1In_m x a b = decide (a ≤ x ∧ x ≤ b) := by
  unfold spec_l1In_m
  by_cases h1 : a ≤ x
  · by_cases h2 : x ≤ b
    · simp [h1, h2]
    · simp [h1, h2]
  · simp [h1]

def spec_IsRow_b1 (x0 : DRow) (k9 : Nat) : Bool ⊕ (Unit) :=
 cond (spec_l1In_m (gt x0.Values k9) 0 99) (Sum.inr ()) (Sum.inl false)
def spec_IsRow_m (x0 : DRow) : Bool :=
 Sum.elim id (fun (s : Unit) => cond (spec_l1In_m x0.Id 0 999) (((x0.Values.length : Nat) : Int) == 3) false) (rng (R := Bool) (fun k (_ : Unit) => spec_IsRow_b1 x0 k) (x0.Values.length - 0) 0 ())
theorem cb76 : Cb Tryd.prog 76 := ⟨f76, _, func76, rfl, by decide⟩
theorem spec_IsRow_c (w : World) (z0 : List Value) (x0 : DRow) (r_0 : tyRow.rd w w.heap.size z0 x0) :
  Calls Tryd.prog 76 #[.agg z0.toArray] w fun e w' => e = .returned (.bool (spec_IsRow_m x0)) ∧ Below w.heap.size w w' := by
 obtain ⟨v1, rfl, r2⟩ := tyRow_rd r_0
 obtain ⟨m3, A4, c5, rfl, q6, r7⟩ := rdS_op r2
 refine ce1 (L := [(0, .agg #[.int .i64 x0.Id, .slice A4 x0.Values.length c5])]) (N := 27) func76 ?_
 refine sr ?_
 refine WM_box rfl (Wd_none rfl) (by decide) (fun p8 => ?_)
 refine wa (nt' (CM_seq (sr (wa (nt' (CM_block ?_))))))
 let F1 := fun k (_ : Unit) => spec_IsRow_b1 x0 k
 let R2 := rng (R := Bool) F1
 let I3 : It := iBox p8 43 [.int .i64 x0.Id, .slice A4 x0.Values.length c5]
 refine CM_loop (σ := Nat × (Unit) × (Unit)) (fun s => [(1, .pointer (some (⟨p8, 0, none⟩ : Addr))), (3, .int .i64 ((s.1 : Nat) : Int))]) (fun s => [I3]) (fun s => s.1 ≤ x0.Values.length ∧ R2 (x0.Values.length - s.1) s.1 s.2.1 = R2 (x0.Values.length - 0) 0 ()) (fun s => x0.Values.length - s.1) (0, (), ()) sl2 (fun W hm => hm) ⟨(by omega), rfl⟩ ?_
 rintro ⟨k9, ⟨⟩, ⟨⟩⟩ H12
 obtain ⟨hk10, hF11⟩ : k9 ≤ x0.Values.length ∧ R2 (x0.Values.length - k9) k9 () = R2 (x0.Values.length - 0) 0 () := H12
 show CM Tryd.prog 27 _ _ _ _ [(1, .pointer (some (⟨p8, 0, none⟩ : Addr))), (3, .int .i64 ((k9 : Nat) : Int))] [I3]
 refine CM_seq (sr (wm ?_))
 refine wv (vf underlying43 rfl type28) ?_
 refine wv (vl 0 1 underlying28) ?_
 refine wv (vlen underlying28) ?_
 refine wv vlss ?_
 refine nt' ?_
 by_cases hl13 : k9 < x0.Values.length
 ·have g14 := dlT hl13
  refine CM_condT rfl g14 ?_
  refine CM_skip (QM_then (CM_seq (CM_block (sr ?_))))
  refine wv (vf underlying43 rfl type28) ?_
  refine wv (vl 0 1 underlying28) ?_
  refine wm ?_
  obtain ⟨a15, rfl, hb16, he17⟩ := q6 (by omega)
  refine wv (vix 1 k9 underlying28 type3) ?_
  refine wv (fun W hm => rv_load underlying3 rfl rfl ((hm.cell0 (show (a15.add (k9 * 1)).block < w.heap.size from by rw [add_block]; exact hb16.1)).trans (rdS_int he17 k9 (by omega)))) ?_
  refine wcv (cl_fn cb48 rfl) (fun W hm => spec_l1In_c W (gt x0.Values k9) 0 99) ?_
  refine wv vnot ?_
  refine nt' ?_
  rcases Bool.eq_false_or_eq_true (spec_l1In_m (gt x0.Values k9) 0 99) with g19 | g19
  ·
   have hw := spec_l1In_fact g19
   refine CM_condF rfl (nt g19) ?_
   refine CM_skip (QM_block_normal (QM_then (CM_region (wm ?_))))
   refine wv (vadN k9 1 (by omega)) ?_
   refine wa (WM_nil ?_)
   have hn20 := rng_next (R := Bool) (body := F1) (k := k9) (s := ()) (s' := ()) (show k9 < x0.Values.length from by omega) (cond_t g19 (rfl)) hF11
   exact QM_round (k9 + 1, (), ()) sl2 (fun W hm => hm) ⟨(by omega), hn20⟩ (rl (by omega))
  ·
   refine CM_condT rfl (nf g19) ?_
   refine sr (wa (nt' (CM_ret (QM_block_ret (QM_then_ret (QM_then_ret (QM_block_ret (QM_then_ret ?_))))))))
   exact rtb (h := fin_inl (rng_ret (body := F1) (k := k9) (s := ()) (show k9 < x0.Values.length from by omega) (cond_f g19 (rfl)) hF11) rfl)
 ·have g14 := dlF hl13
  refine CM_condF rfl g14 ?_
  refine CM_exit (QM_then_exit (QM_then_exit ?_))
  have hE21 : R2 (x0.Values.length - 0) 0 () = Sum.inr () := rng_end hl13 hF11
  refine QM_block_hit (QM_then (sr ?_))
  refine wv (vf underlying43 rfl type3) ?_
  refine wv (vl 0 0 underlying3) ?_
  refine wcv (cl_fn cb48 rfl) (fun W hm => spec_l1In_c W x0.Id 0 999) ?_
  refine wm ?_
  rcases Bool.eq_false_or_eq_true (spec_l1In_m x0.Id 0 999) with g23 | g23
  ·
   have hw := spec_l1In_fact g23
   refine wg (vf underlying43 rfl type28) g23 ?_
   refine wg (vl 0 1 underlying28) g23 ?_
   refine wg (vlen underlying28) g23 ?_
   refine wg (fun W hm => rv_eql rfl rfl) g23 ?_
   refine wv (vpT g23) ?_
   refine wa (nt' (CM_ret ?_))
   exact rtb (h := fin_inr hE21 (cond_t g23 (rfl)))
  ·
   refine ws g23 ?_
   refine ws g23 ?_
   refine ws g23 ?_
   refine ws g23 ?_
   refine wv (vpF g23) ?_
   refine wa (nt' (CM_ret ?_))
   exact rtb (h := fin_inr hE21 (cond_f g23 (rfl)))

def spec_IsUpdate_m (x0 : DUpdate) : Bool :=
 cond (x0.Kind == 1) (cond (spec_IsRow_m x0.Row) (cond (x0.Field == 0) (x0.Value == 0) false) false) (cond (x0.Kind == 2) (cond (spec_l1In_m x0.Row.Id 0 999) (cond (((x0.Row.Values.length : Nat) : Int) == 0) (cond (x0.Field == 0) (x0.Value == 0) false) false) false) (cond (x0.Kind == 3) (cond (spec_l1In_m x0.Row.Id 0 999) (cond (((x0.Row.Values.length : Nat) : Int) == 0) (cond (spec_l1In_m x0.Field 0 2) (spec_l1In_m x0.Value 0 99) false) false) false) false))
theorem cb57 : Cb Tryd.prog 57 := ⟨f57, _, func57, rfl, by decide⟩
theorem spec_IsUpdate_c (w : World) (z0 : List Value) (x0 : DUpdate) (r_0 : tyUpdate.rd w w.heap.size z0 x0) :
  Calls Tryd.prog 57 #[.agg z0.toArray] w fun e w' => e = .returned (.bool (spec_IsUpdate_m x0)) ∧ Below w.heap.size w w' := by
 obtain ⟨v1, rfl, r2⟩ := tyUpdate_rd r_0
 obtain ⟨m3, A4, c5, rfl, q6, r7⟩ := rdS_op r2
 refine ce1 (L := [(0, .agg #[.int .i64 x0.Kind, .int .i64 x0.Row.Id, .slice A4 x0.Row.Values.length c5, .int .i64 x0.Field, .int .i64 x0.Value])]) (N := 66) func57 ?_
 refine sr ?_
 refine WM_box rfl (Wd_none rfl) (by decide) (fun p8 => ?_)
 refine wa (nt' (CM_seq (sr ?_)))
 refine wv (vf underlying45 rfl type3) ?_
 refine wv (vl 0 0 underlying3) ?_
 refine nt' (CM_block (sr ?_))
 refine wv (fun W hm => rv_eql rfl rfl) ?_
 refine wa (nt' ?_)
 by_cases h9 : x0.Kind = 1
 ·have g10 := beq_iff_eq.2 h9
  refine CM_condT rfl g10 ?_
  refine sr ?_
  refine wv (vf underlying45 rfl type43) ?_
  refine wv (fun W hm => rv_loadN (cs := [.int .i64 x0.Row.Id, .slice A4 x0.Row.Values.length c5]) underlying43 type43 rfl rfl (hm.boxPart (n := 0) rfl rfl)) ?_
  refine wcv (cl_fn cb76 rfl) (fun W hm => spec_IsRow_c W _ x0.Row (tyRow_mk (x := x0.Row) (hm.rdS0 r7))) ?_
  refine wm ?_
  rcases Bool.eq_false_or_eq_true (spec_IsRow_m x0.Row) with g12 | g12
  ·
   refine wg (vf underlying45 rfl type3) g12 ?_
   refine wg (vl 0 3 underlying3) g12 ?_
   refine wg (fun W hm => rv_eql rfl rfl) g12 ?_
   refine wv (vpT g12) ?_
   refine wm ?_
   by_cases h13 : x0.Field = 0
   ·have g14 := beq_iff_eq.2 h13
    refine wg (vf underlying45 rfl type3) g14 ?_
    refine wg (vl 0 4 underlying3) g14 ?_
    refine wg (fun W hm => rv_eql rfl rfl) g14 ?_
    refine wv (vpT g14) ?_
    refine wa (nt' (CM_ret (QM_block_ret (QM_then_ret ?_))))
    exact rtb (h := cond_t g10 (cond_t g12 (cond_t g14 (rfl))))
   ·have g14 := beq_eq_false_iff_ne.2 h13
    refine ws g14 ?_
    refine ws g14 ?_
    refine ws g14 ?_
    refine wv (vpF g14) ?_
    refine wa (nt' (CM_ret (QM_block_ret (QM_then_ret ?_))))
    exact rtb (h := cond_t g10 (cond_t g12 (cond_f g14 (rfl))))
  ·
   refine ws g12 ?_
   refine ws g12 ?_
   refine ws g12 ?_
   refine wv (vpF g12) ?_
   refine wm ?_
   refine wk ?_
   refine wk ?_
   refine wk ?_
   refine wv (vpF rfl) ?_
   refine wa (nt' (CM_ret (QM_block_ret (QM_then_ret ?_))))
   exact rtb (h := cond_t g10 (cond_f g12 (rfl)))
 ·have g10 := beq_eq_false_iff_ne.2 h9
  refine CM_condF rfl g10 ?_
  refine sr ?_
  refine wv (fun W hm => rv_eql rfl rfl) ?_
  refine wa (nt' ?_)
  by_cases h15 : x0.Kind = 2
  ·have g16 := beq_iff_eq.2 h15
   refine CM_condT rfl g16 ?_
   refine sr ?_
   refine wv (vf underlying45 rfl type43) ?_
   refine wv (fun W hm => rv_fieldA (o := 1) underlying43 rfl type3 (by decide) rfl rfl) ?_
   refine wv (vl 0 1 underlying3) ?_
   refine wcv (cl_fn cb48 rfl) (fun W hm => spec_l1In_c W x0.Row.Id 0 999) ?_
   refine wm ?_
   rcases Bool.eq_false_or_eq_true (spec_l1In_m x0.Row.Id 0 999) with g18 | g18
   ·
    have hw := spec_l1In_fact g18
    refine wg (vf underlying45 rfl type43) g18 ?_
    refine wg (fun W hm => rv_fieldA (o := 2) underlying43 rfl type28 (by decide) rfl rfl) g18 ?_
    refine wg (vl 0 2 underlying28) g18 ?_
    refine wg (vlen underlying28) g18 ?_
    refine wg (fun W hm => rv_eql rfl rfl) g18 ?_
    refine wv (vpT g18) ?_
    refine wm ?_
    by_cases h19 : ((x0.Row.Values.length : Nat) : Int) = 0
    ·have g20 := beq_iff_eq.2 h19
     refine wg (vf underlying45 rfl type3) g20 ?_
     refine wg (vl 0 3 underlying3) g20 ?_
     refine wg (fun W hm => rv_eql rfl rfl) g20 ?_
     refine wv (vpT g20) ?_
     refine wm ?_
     by_cases h21 : x0.Field = 0
     ·have g22 := beq_iff_eq.2 h21
      refine wg (vf underlying45 rfl type3) g22 ?_
      refine wg (vl 0 4 underlying3) g22 ?_
      refine wg (fun W hm => rv_eql rfl rfl) g22 ?_
      refine wv (vpT g22) ?_
      refine wa (nt' (CM_ret (QM_block_ret (QM_then_ret ?_))))
      exact rtb (h := cond_f g10 (cond_t g16 (cond_t g18 (cond_t g20 (cond_t g22 (rfl))))))
     ·have g22 := beq_eq_false_iff_ne.2 h21
      refine ws g22 ?_
      refine ws g22 ?_
      refine ws g22 ?_
      refine wv (vpF g22) ?_
      refine wa (nt' (CM_ret (QM_block_ret (QM_then_ret ?_))))
      exact rtb (h := cond_f g10 (cond_t g16 (cond_t g18 (cond_t g20 (cond_f g22 (rfl))))))
    ·have g20 := beq_eq_false_iff_ne.2 h19
     refine ws g20 ?_
     refine ws g20 ?_
     refine ws g20 ?_
     refine wv (vpF g20) ?_
     refine wm ?_
     refine wk ?_
     refine wk ?_
     refine wk ?_
     refine wv (vpF rfl) ?_
     refine wa (nt' (CM_ret (QM_block_ret (QM_then_ret ?_))))
     exact rtb (h := cond_f g10 (cond_t g16 (cond_t g18 (cond_f g20 (rfl)))))
   ·
    refine ws g18 ?_
    refine ws g18 ?_
    refine ws g18 ?_
    refine ws g18 ?_
    refine ws g18 ?_
    refine wv (vpF g18) ?_
    refine wm ?_
    refine wk ?_
    refine wk ?_
    refine wk ?_
    refine wv (vpF rfl) ?_
    refine wm ?_
    refine wk ?_
    refine wk ?_
    refine wk ?_
    refine wv (vpF rfl) ?_
    refine wa (nt' (CM_ret (QM_block_ret (QM_then_ret ?_))))
    exact rtb (h := cond_f g10 (cond_t g16 (cond_f g18 (rfl))))
  ·have g16 := beq_eq_false_iff_ne.2 h15
   refine CM_condF rfl g16 ?_
   refine sr ?_
   refine wv (fun W hm => rv_eql rfl rfl) ?_
   refine wa (nt' ?_)
   by_cases h23 : x0.Kind = 3
   ·have g24 := beq_iff_eq.2 h23
    refine CM_condT rfl g24 ?_
    refine sr ?_
    refine wv (vf underlying45 rfl type43) ?_
    refine wv (fun W hm => rv_fieldA (o := 1) underlying43 rfl type3 (by decide) rfl rfl) ?_
    refine wv (vl 0 1 underlying3) ?_
    refine wcv (cl_fn cb48 rfl) (fun W hm => spec_l1In_c W x0.Row.Id 0 999) ?_
    refine wm ?_
    rcases Bool.eq_false_or_eq_true (spec_l1In_m x0.Row.Id 0 999) with g26 | g26
    ·
     have hw := spec_l1In_fact g26
     refine wg (vf underlying45 rfl type43) g26 ?_
     refine wg (fun W hm => rv_fieldA (o := 2) underlying43 rfl type28 (by decide) rfl rfl) g26 ?_
     refine wg (vl 0 2 underlying28) g26 ?_
     refine wg (vlen underlying28) g26 ?_
     refine wg (fun W hm => rv_eql rfl rfl) g26 ?_
     refine wv (vpT g26) ?_
     refine wm ?_
     by_cases h27 : ((x0.Row.Values.length : Nat) : Int) = 0
     ·have g28 := beq_iff_eq.2 h27
      refine wg (vf underlying45 rfl type3) g28 ?_
      refine wg (vl 0 3 underlying3) g28 ?_
      refine WM_callV (cl_fn cb48 rfl) (fun W hm => spec_l1In_c W x0.Field 0 2) (Wd_some rfl rfl rfl (bw g28 rfl)) (by decide) ?_
      refine wv (vpT g28) ?_
      refine wm ?_
      rcases Bool.eq_false_or_eq_true (spec_l1In_m x0.Field 0 2) with g30 | g30
      ·
       have hw := spec_l1In_fact g30
       refine wg (vf underlying45 rfl type3) g30 ?_
       refine wg (vl 0 4 underlying3) g30 ?_
       refine WM_callV (cl_fn cb48 rfl) (fun W hm => spec_l1In_c W x0.Value 0 99) (Wd_some rfl rfl rfl (bw g30 rfl)) (by decide) ?_
       refine wv (vpT g30) ?_
       refine wa (nt' (CM_ret (QM_block_ret (QM_then_ret ?_))))
       exact rtb (h := cond_f g10 (cond_f g16 (cond_t g24 (cond_t g26 (cond_t g28 (cond_t g30 (rfl)))))))
      ·
       refine ws g30 ?_
       refine ws g30 ?_
       refine ws g30 ?_
       refine wv (vpF g30) ?_
       refine wa (nt' (CM_ret (QM_block_ret (QM_then_ret ?_))))
       exact rtb (h := cond_f g10 (cond_f g16 (cond_t g24 (cond_t g26 (cond_t g28 (cond_f g30 (rfl)))))))
     ·have g28 := beq_eq_false_iff_ne.2 h27
      refine ws g28 ?_
      refine ws g28 ?_
      refine ws g28 ?_
      refine wv (vpF g28) ?_
      refine wm ?_
      refine wk ?_
      refine wk ?_
      refine wk ?_
      refine wv (vpF rfl) ?_
      refine wa (nt' (CM_ret (QM_block_ret (QM_then_ret ?_))))
      exact rtb (h := cond_f g10 (cond_f g16 (cond_t g24 (cond_t g26 (cond_f g28 (rfl))))))
    ·
     refine ws g26 ?_
     refine ws g26 ?_
     refine ws g26 ?_
     refine ws g26 ?_
     refine ws g26 ?_
     refine wv (vpF g26) ?_
     refine wm ?_
     refine wk ?_
     refine wk ?_
     refine wk ?_
     refine wv (vpF rfl) ?_
     refine wm ?_
     refine wk ?_
     refine wk ?_
     refine wk ?_
     refine wv (vpF rfl) ?_
     refine wa (nt' (CM_ret (QM_block_ret (QM_then_ret ?_))))
     exact rtb (h := cond_f g10 (cond_f g16 (cond_t g24 (cond_f g26 (rfl)))))
   ·have g24 := beq_eq_false_iff_ne.2 h23
    refine CM_condF rfl g24 ?_
    refine CM_skip (QM_block_normal (QM_then (sr (wa (nt' (CM_ret ?_))))))
    exact rtb (h := cond_f g10 (cond_f g16 (cond_f g24 (rfl))))

def spec_FormatInt_b1 (k3 : Nat) (s4 : Int) (s5 : ByteArray) : ByteArray ⊕ ((Int × ByteArray) ⊕ (Int × ByteArray)) :=
 cond (s4 != 0) (cond (decide ((Int.tmod s4 10) < 0)) (Sum.inr (Sum.inr ((IntKind.i64.wrap (Int.tdiv s4 10)), ((sB [u8c (IntKind.u8.wrap (IntKind.i64.wrap (48 + (IntKind.i64.wrap (-(Int.tmod s4 10))))))]) ++ s5)))) (Sum.inr (Sum.inr ((IntKind.i64.wrap (Int.tdiv s4 10)), ((sB [u8c (IntKind.u8.wrap (IntKind.i64.wrap (48 + (Int.tmod s4 10))))]) ++ s5))))) (Sum.inr (Sum.inl (s4, s5)))
def spec_FormatInt_m (x0 : Int) : ByteArray :=
 cond (x0 == 0) (sB [48]) (Sum.elim id (fun (s : Int × ByteArray) => cond (decide (x0 < 0)) ((sB [45]) ++ s.2) s.2) (rngb (R := ByteArray) (fun k (s : Int × ByteArray) => spec_FormatInt_b1 k s.1 s.2) ((x0).natAbs + 1 - 0) 0 (x0, (sB []))))
def digN (n : Nat) : List UInt8 :=
 if h : n = 0 then [] else digN (n / 10) ++ [UInt8.ofNat (48 + n % 10)]
termination_by n
decreasing_by omega
theorem digN_pos {n : Nat} (h : 0 < n) : digN n = Lib.decDigits n := by
 induction n using Nat.strongRecOn with
 | _ n ih =>
  rw [digN, dif_neg (by omega), Lib.decDigits]
  by_cases h10 : n < 10
  ·rw [dif_pos h10, show n / 10 = 0 by omega, digN, dif_pos rfl, Nat.mod_eq_of_lt h10]
   rfl
  ·rw [dif_neg h10, ih (n / 10) (by omega) (by omega)]
theorem u8c_dig {d : Int} {m : Nat} (hm : m < 10) (h : d = ((m : Nat) : Int)) : u8c (IntKind.u8.wrap (IntKind.i64.wrap (48 + d))) = UInt8.ofNat (48 + m) := by
 subst h
 have h1 : IntKind.i64.wrap (48 + ((m : Nat) : Int)) = 48 + ((m : Nat) : Int) := wrap_id (by omega) (by omega)
 have h2 : IntKind.u8.wrap (48 + ((m : Nat) : Int)) = 48 + ((m : Nat) : Int) := by simp only [IntKind.wrap_u8]; omega
 rw [h1, h2]
 unfold u8c
 rw [show (48 + ((m : Nat) : Int)).toNat = 48 + m by omega]
theorem spec_FormatInt_step (n : Int) (out : List UInt8) (k : Nat) (h0 : n ≠ 0) (hr : -9223372036854775808 ≤ n ∧ n ≤ 9223372036854775807) : spec_FormatInt_b1 k n (sB out) = .inr (.inr (Int.tdiv n 10, sB (UInt8.ofNat (48 + n.natAbs % 10) :: out))) := by
 unfold spec_FormatInt_b1
 rw [bne_iff_ne.2 h0, cond_true, (tdv10 hr).1]
 have hm : (Int.tmod n 10).natAbs = n.natAbs % 10 := by rw [Int.natAbs_tmod]; rfl
 by_cases hn : Int.tmod n 10 < 0
 ·rw [decide_eq_true hn, cond_true, sB_app, wrap_id (n := -(Int.tmod n 10)) (by omega) (by omega), u8c_dig (m := n.natAbs % 10) (by omega) (by omega)]
  rfl
 ·rw [decide_eq_false hn, cond_false, sB_app, u8c_dig (m := n.natAbs % 10) (by omega) (by omega)]
  rfl
theorem spec_FormatInt_loop : ∀ (m k : Nat) (n : Int) (out : List UInt8), n.natAbs < m → (-9223372036854775808 ≤ n ∧ n ≤ 9223372036854775807) → rngb (R := ByteArray) (fun k (s : Int × ByteArray) => spec_FormatInt_b1 k s.1 s.2) m k (n, sB out) = .inr (0, sB (digN n.natAbs ++ out))
 | 0, _, n, _, h, _ => by omega
 | m + 1, k, n, out, h, hr => by
  rw [rngb]
  by_cases h0 : n = 0
  ·subst h0
   rw [show (0 : Int).natAbs = 0 from rfl, digN, dif_pos rfl]
   rfl
  ·show Sum.elim _ _ (spec_FormatInt_b1 k n (sB out)) = _
   rw [spec_FormatInt_step n out k h0 hr]
   have h2 := (tdv10 hr).2
   have ih := spec_FormatInt_loop m (k + 1) (Int.tdiv n 10) (UInt8.ofNat (48 + n.natAbs % 10) :: out) (by omega) (by omega)
   show rngb _ m (k + 1) (Int.tdiv n 10, sB (UInt8.ofNat (48 + n.natAbs % 10) :: out)) = _
   rw [ih, h2]
   have e : digN n.natAbs = digN (n.natAbs / 10) ++ [UInt8.ofNat (48 + n.natAbs % 10)] := by rw [digN, dif_neg (by omega)]
   rw [e, List.append_assoc]
   rfl
theorem spec_FormatInt_out {x : Int} (h : -9223372036854775808 ≤ x ∧ x ≤ 9223372036854775807) {a : Int} {b : ByteArray} (hE : rngb (R := ByteArray) (fun k (s : Int × ByteArray) => spec_FormatInt_b1 k s.1 s.2) (x.natAbs + 1 - 0) 0 (x, sB []) = .inr (a, b)) : b.size ≤ 20 := by
 rw [spec_FormatInt_loop (x.natAbs + 1 - 0) 0 x [] (by omega) h, List.append_nil] at hE
 cases hE
 show (sB (digN x.natAbs)).size ≤ 20
 rw [sB_size]
 by_cases h0 : 0 < x.natAbs
 ·rw [digN_pos h0, Lib.decDigits_length]
  exact Lib.nDigits_le20 _ (by omega)
 ·rw [show x.natAbs = 0 by omega, digN, dif_pos rfl]
  exact Nat.zero_le _
theorem cb49 : Cb Tryd.prog 49 := ⟨f49, _, func49, rfl, by decide⟩
theorem spec_FormatInt_c (w : World) (x0 : Int) (hr : -9223372036854775808 ≤ x0 ∧ x0 ≤ 9223372036854775807) :
  Calls Tryd.prog 49 #[.int .i64 x0] w fun e w' => e = .returned (.string (spec_FormatInt_m x0)) ∧ Below w.heap.size w w' := by
 refine ce1 (L := [(0, .int .i64 x0)]) (N := 31) func49 ?_
 refine sr (wa (nt' (CM_seq (sr (wm ?_)))))
 refine wv (fun W hm => rv_eql rfl rfl) ?_
 refine nt' ?_
 by_cases h1 : x0 = 0
 ·have g2 := beq_iff_eq.2 h1
  refine CM_condT rfl g2 ?_
  refine sr (wa (nt' (CM_ret (QM_then_ret ?_))))
  exact QM_ret1 rfl rfl (fun W hm => ⟨ret_s (show spec_FormatInt_m x0 = (sB [48]) from cond_t g2 (rfl)), hm.below⟩)
 ·have g2 := beq_eq_false_iff_ne.2 h1
  refine CM_condF rfl g2 ?_
  refine CM_skip (QM_then (sr (wa (nt' (sr (wm ?_))))))
  refine wv vlss ?_
  refine wa (nt' (CM_seq ?_))
  let F1 := fun k (s : Int × ByteArray) => spec_FormatInt_b1 k s.1 s.2
  let R2 := rngb (R := ByteArray) F1
  refine CM_cut (σ := (Int × ByteArray) × (Unit)) (fun s => [(3, .string s.1.2), (4, .bool (decide (x0 < 0)))]) (fun s => []) (fun s => R2 ((x0).natAbs + 1 - 0) 0 (x0, (sB [])) = Sum.inr s.1) ?_ ?_
  ·
   refine CM_block ?_
   refine CM_loop (σ := Nat × (Int × ByteArray) × (Unit)) (fun s => [(0, .int .i64 s.2.1.1), (3, .string s.2.1.2), (4, .bool (decide (x0 < 0)))]) (fun s => []) (fun s => s.1 + ((s.2.1.1).natAbs) + 1 ≤ (x0).natAbs + 1 ∧ R2 ((x0).natAbs + 1 - s.1) s.1 s.2.1 = R2 ((x0).natAbs + 1 - 0) 0 (x0, (sB [])) ∧ -9223372036854775808 ≤ s.2.1.1 ∧ s.2.1.1 ≤ 9223372036854775807 ∧ (s.2.1.2.size = 0 ∨ s.2.1.2.size + (s.2.1.1).natAbs ≤ 922337203685477582)) (fun s => (x0).natAbs + 1 - s.1) (0, (x0, (sB [])), ()) sl3 (fun W hm => hm) ⟨(show 0 + ((x0).natAbs) + 1 ≤ (x0).natAbs + 1 from by omega), rfl, (show -9223372036854775808 ≤ x0 from by omega), (show x0 ≤ 9223372036854775807 from by omega), (show ((sB []).size = 0 ∨ (sB []).size + (x0).natAbs ≤ 922337203685477582) from by (left; rfl))⟩ ?_
   rintro ⟨k3, ⟨s4, s5⟩, ⟨⟩⟩ H8
   obtain ⟨hk6, hF7, hi9, hi10, hi11⟩ : k3 + ((s4).natAbs) + 1 ≤ (x0).natAbs + 1 ∧ R2 ((x0).natAbs + 1 - k3) k3 (s4, s5) = R2 ((x0).natAbs + 1 - 0) 0 (x0, (sB [])) ∧ -9223372036854775808 ≤ s4 ∧ s4 ≤ 9223372036854775807 ∧ (s5.size = 0 ∨ s5.size + (s4).natAbs ≤ 922337203685477582) := H8
   show CM Tryd.prog 31 _ _ _ _ [(0, .int .i64 s4), (3, .string s5), (4, .bool (decide (x0 < 0)))] []
   refine CM_seq (sr (wm ?_))
   refine wv vneq ?_
   refine nt' ?_
   by_cases h12 : s4 = 0
   ·have g13 : (s4 != 0) = false := by rw [h12]; exact bne_self_eq_false _
    refine CM_condF rfl g13 ?_
    refine CM_exit (QM_then_exit (QM_then_exit (QM_block_hit ?_)))
    have hE14 := rngb_brk (R := ByteArray) (body := F1) (k := k3) (s := (s4, s5)) (s' := (s4, s5)) (show k3 < (x0).natAbs + 1 from by omega) (cond_f g13 (rfl)) hF7
    exact QM_cut_normal ((s4, s5), ()) sl2 (fun W hm => hm) hE14
   ·have g13 : (s4 != 0) = true := bne_iff_ne.2 h12
    refine CM_condT rfl g13 ?_
    refine CM_skip (QM_then (CM_block (sr (wm ?_))))
    refine wv (fun W hm => rv_rem rfl rfl (by omega)) ?_
    refine wa (nt' (CM_seq (sr (wm ?_))))
    refine wv vlss ?_
    refine nt' ?_
    by_cases h15 : (Int.tmod s4 10) < 0
    ·have g16 := decide_eq_true h15
     refine CM_condT rfl g16 ?_
     refine CM_region (wm ?_)
     refine wv (fun W hm => rv_neg rfl) ?_
     refine wa (nt' (sr (wm ?_)))
     refine wv vadd ?_
     refine wv (fun W hm => rv_convU8 underlying3 underlying5 rfl) ?_
     refine WM_build (cs := [.int .u8 (IntKind.u8.wrap (IntKind.i64.wrap (48 + (IntKind.i64.wrap (-(Int.tmod s4 10))))))]) underlying49 type5 rfl (by decide) (by decide) rfl (by kernel_rfl) (Wd_none rfl) (by decide) (fun p17 => ?_)
     refine wv (fun W hm => rv_byteS hm (i := 0) rfl underlying49 underlying5 underlying9 rfl) ?_
     refine wm ?_
     have hz18 : ByteArray.size (sB [u8c (IntKind.u8.wrap (IntKind.i64.wrap (48 + (IntKind.i64.wrap (-(Int.tmod s4 10))))))]) = 1 := rfl
     refine wv (fun W hm => rv_addS (p := (sB [u8c (IntKind.u8.wrap (IntKind.i64.wrap (48 + (IntKind.i64.wrap (-(Int.tmod s4 10))))))])) (q := s5) rfl rfl (by omega)) ?_
     have hz19 := sz_app (sB [u8c (IntKind.u8.wrap (IntKind.i64.wrap (48 + (IntKind.i64.wrap (-(Int.tmod s4 10))))))]) s5
     refine wa (nt' (CM_region (wm ?_)))
     have ht20 := tdv10 (n := s4) (by omega)
     refine wv (fun W hm => rv_quo rfl rfl (by omega)) ?_
     refine wa (WM_nil (QM_block_normal ?_))
     have hn21 := rngb_next (R := ByteArray) (body := F1) (k := k3) (s := (s4, s5)) (s' := ((IntKind.i64.wrap (Int.tdiv s4 10)), ((sB [u8c (IntKind.u8.wrap (IntKind.i64.wrap (48 + (IntKind.i64.wrap (-(Int.tmod s4 10))))))]) ++ s5))) (show k3 < (x0).natAbs + 1 from by omega) (cond_t g13 (cond_t g16 (rfl))) hF7
     exact QM_round (k3 + 1, ((IntKind.i64.wrap (Int.tdiv s4 10)), ((sB [u8c (IntKind.u8.wrap (IntKind.i64.wrap (48 + (IntKind.i64.wrap (-(Int.tmod s4 10))))))]) ++ s5)), ()) sl3 (pk []) ⟨(show (k3 + 1) + (((IntKind.i64.wrap (Int.tdiv s4 10))).natAbs) + 1 ≤ (x0).natAbs + 1 from by omega), hn21, (show -9223372036854775808 ≤ (IntKind.i64.wrap (Int.tdiv s4 10)) from by first | omega | (simp only [List.length_append, List.length_cons, List.length_nil] at *; omega)), (show (IntKind.i64.wrap (Int.tdiv s4 10)) ≤ 9223372036854775807 from by first | omega | (simp only [List.length_append, List.length_cons, List.length_nil] at *; omega)), (show (((sB [u8c (IntKind.u8.wrap (IntKind.i64.wrap (48 + (IntKind.i64.wrap (-(Int.tmod s4 10))))))]) ++ s5).size = 0 ∨ ((sB [u8c (IntKind.u8.wrap (IntKind.i64.wrap (48 + (IntKind.i64.wrap (-(Int.tmod s4 10))))))]) ++ s5).size + ((IntKind.i64.wrap (Int.tdiv s4 10))).natAbs ≤ 922337203685477582) from by first | omega | (simp only [List.length_append, List.length_cons, List.length_nil] at *; omega))⟩ (show (x0).natAbs + 1 - (k3 + 1) < (x0).natAbs + 1 - k3 from by omega)
    ·have g16 := decide_eq_false h15
     refine CM_condF rfl g16 ?_
     refine CM_skip (QM_then (sr (wm ?_)))
     refine wv vadd ?_
     refine wv (fun W hm => rv_convU8 underlying3 underlying5 rfl) ?_
     refine WM_build (cs := [.int .u8 (IntKind.u8.wrap (IntKind.i64.wrap (48 + (Int.tmod s4 10))))]) underlying49 type5 rfl (by decide) (by decide) rfl (by kernel_rfl) (Wd_none rfl) (by decide) (fun p22 => ?_)
     refine wv (fun W hm => rv_byteS hm (i := 0) rfl underlying49 underlying5 underlying9 rfl) ?_
     refine wm ?_
     have hz23 : ByteArray.size (sB [u8c (IntKind.u8.wrap (IntKind.i64.wrap (48 + (Int.tmod s4 10))))]) = 1 := rfl
     refine wv (fun W hm => rv_addS (p := (sB [u8c (IntKind.u8.wrap (IntKind.i64.wrap (48 + (Int.tmod s4 10))))])) (q := s5) rfl rfl (by omega)) ?_
     have hz24 := sz_app (sB [u8c (IntKind.u8.wrap (IntKind.i64.wrap (48 + (Int.tmod s4 10))))]) s5
     refine wa (nt' (CM_region (wm ?_)))
     have ht25 := tdv10 (n := s4) (by omega)
     refine wv (fun W hm => rv_quo rfl rfl (by omega)) ?_
     refine wa (WM_nil (QM_block_normal ?_))
     have hn26 := rngb_next (R := ByteArray) (body := F1) (k := k3) (s := (s4, s5)) (s' := ((IntKind.i64.wrap (Int.tdiv s4 10)), ((sB [u8c (IntKind.u8.wrap (IntKind.i64.wrap (48 + (Int.tmod s4 10))))]) ++ s5))) (show k3 < (x0).natAbs + 1 from by omega) (cond_t g13 (cond_f g16 (rfl))) hF7
     exact QM_round (k3 + 1, ((IntKind.i64.wrap (Int.tdiv s4 10)), ((sB [u8c (IntKind.u8.wrap (IntKind.i64.wrap (48 + (Int.tmod s4 10))))]) ++ s5)), ()) sl3 (pk []) ⟨(show (k3 + 1) + (((IntKind.i64.wrap (Int.tdiv s4 10))).natAbs) + 1 ≤ (x0).natAbs + 1 from by omega), hn26, (show -9223372036854775808 ≤ (IntKind.i64.wrap (Int.tdiv s4 10)) from by first | omega | (simp only [List.length_append, List.length_cons, List.length_nil] at *; omega)), (show (IntKind.i64.wrap (Int.tdiv s4 10)) ≤ 9223372036854775807 from by first | omega | (simp only [List.length_append, List.length_cons, List.length_nil] at *; omega)), (show (((sB [u8c (IntKind.u8.wrap (IntKind.i64.wrap (48 + (Int.tmod s4 10))))]) ++ s5).size = 0 ∨ ((sB [u8c (IntKind.u8.wrap (IntKind.i64.wrap (48 + (Int.tmod s4 10))))]) ++ s5).size + ((IntKind.i64.wrap (Int.tdiv s4 10))).natAbs ≤ 922337203685477582) from by first | omega | (simp only [List.length_append, List.length_cons, List.length_nil] at *; omega))⟩ (show (x0).natAbs + 1 - (k3 + 1) < (x0).natAbs + 1 - k3 from by omega)
  ·
   rintro ⟨⟨s4, s5⟩, ⟨⟩⟩ H28
   have hE27 : R2 ((x0).natAbs + 1 - 0) 0 (x0, (sB [])) = Sum.inr (s4, s5) := H28
   have hzo := spec_FormatInt_out hr hE27
   show QM 31 _ _ _ .normal [(3, .string s5), (4, .bool (decide (x0 < 0)))] []
   refine QM_then (CM_seq (sr (wm (nt' ?_))))
   by_cases h29 : x0 < 0
   ·have g30 := decide_eq_true h29
    refine CM_condT rfl g30 ?_
    refine sr (wm ?_)
    have hz31 : ByteArray.size (sB [45]) = 1 := rfl
    refine wv (fun W hm => rv_addS (p := (sB [45])) (q := s5) rfl rfl (by omega)) ?_
    have hz32 := sz_app (sB [45]) s5
    refine wa (nt' (CM_ret (QM_then_ret ?_)))
    exact QM_ret1 rfl rfl (fun W hm => ⟨ret_s (show spec_FormatInt_m x0 = ((sB [45]) ++ s5) from cond_f g2 (fin_inr hE27 (cond_t g30 (rfl)))), hm.below⟩)
   ·have g30 := decide_eq_false h29
    refine CM_condF rfl g30 ?_
    refine CM_skip (QM_then (sr (wm (wa (nt' (CM_ret ?_))))))
    exact QM_ret1 rfl rfl (fun W hm => ⟨ret_s (show spec_FormatInt_m x0 = s5 from cond_f g2 (fin_inr hE27 (cond_f g30 (rfl)))), hm.below⟩)
theorem spec_FormatInt_is (x : Int) (h : -9223372036854775808 ≤ x ∧ x ≤ 9223372036854775807) : spec_FormatInt_m x = itoaB x := by
  unfold spec_FormatInt_m itoaB
  by_cases h0 : x = 0
  · subst h0
    rw [show Lib.itoa 0 = [48] by rw [show (0 : Int) = ((0 : Nat) : Int) from rfl, Lib.itoa_nonneg, Lib.decDigits_one (by omega)]; rfl]
    rfl
  · rw [beq_eq_false_iff_ne.2 h0, cond_false, spec_FormatInt_loop (x.natAbs + 1 - 0) 0 x [] (by omega) h, List.append_nil, digN_pos (by omega)]
    show cond (decide (x < 0)) (sB [45] ++ sB (Lib.decDigits x.natAbs)) (sB (Lib.decDigits x.natAbs)) = _
    by_cases hn : x < 0
    · rw [decide_eq_true hn, cond_true, sB_app, Lib.itoa, if_pos hn]
      rfl
    · rw [decide_eq_false hn, cond_false, Lib.itoa, if_neg hn, show x.natAbs = x.toNat by omega]
theorem spec_FormatInt_sz (x : Int) (h : -9223372036854775808 ≤ x ∧ x ≤ 9223372036854775807) : (spec_FormatInt_m x).size ≤ 21 := by
  rw [spec_FormatInt_is x h]; exact itoaB_sz x h

def spec_l3List_b1 (x0 : (List Int)) (k6 : Nat) (s7 : ByteArray) : ByteArray ⊕ (ByteArray) :=
 cond (decide (0 < ((k6 : Nat) : Int))) (Sum.inr ((s7 ++ (sB [44])) ++ (spec_FormatInt_m (gt x0 k6)))) (Sum.inr (s7 ++ (spec_FormatInt_m (gt x0 k6))))
def spec_l3List_m (x0 : (List Int)) : ByteArray :=
 Sum.elim id (fun (s : ByteArray) => s) (rng (R := ByteArray) (fun k (s : ByteArray) => spec_l3List_b1 x0 k s) (x0.length - 0) 0 (sB []))
theorem cb84 : Cb Tryd.prog 84 := ⟨f84, _, func84, rfl, by decide⟩
theorem spec_l3List_c (w : World) (z0 : Value) (x0 : (List Int)) (r_0 : rdS tInt w w.heap.size z0 x0) (hv : x0.length = 3 ∧ ∀ k, k < 3 → 0 ≤ gt x0 k ∧ gt x0 k ≤ 99) :
  Calls Tryd.prog 84 #[z0] w fun e w' => e = .returned (.string (spec_l3List_m x0)) ∧ Below w.heap.size w w' := by
 obtain ⟨m1, A2, c3, rfl, q4, r5⟩ := rdS_op r_0
 refine ce1 (L := [(0, .slice A2 x0.length c3)]) (N := 23) func84 ?_
 refine sr (wa (nt' (sr (wa (nt' (CM_seq (sr (wa (nt' (CM_block ?_))))))))))
 let F1 := fun k (s : ByteArray) => spec_l3List_b1 x0 k s
 let R2 := rng (R := ByteArray) F1
 refine CM_loop (σ := Nat × (ByteArray) × (Unit)) (fun s => [(0, .slice A2 x0.length c3), (3, .string s.2.1), (4, .int .i64 ((s.1 : Nat) : Int))]) (fun s => []) (fun s => s.1 ≤ x0.length ∧ R2 (x0.length - s.1) s.1 s.2.1 = R2 (x0.length - 0) 0 (sB []) ∧ s.2.1.size ≤ 60 * s.1) (fun s => x0.length - s.1) (0, (sB []), ()) sl3 (fun W hm => hm) ⟨(by omega), rfl, (by exact Nat.zero_le _)⟩ ?_
 rintro ⟨k6, s7, ⟨⟩⟩ H10
 obtain ⟨hk8, hF9, hi11⟩ : k6 ≤ x0.length ∧ R2 (x0.length - k6) k6 s7 = R2 (x0.length - 0) 0 (sB []) ∧ s7.size ≤ 60 * k6 := H10
 show CM Tryd.prog 23 _ _ _ _ [(0, .slice A2 x0.length c3), (3, .string s7), (4, .int .i64 ((k6 : Nat) : Int))] []
 refine CM_seq (sr (wm (wm ?_)))
 refine wv (vlen underlying28) ?_
 refine wv vlss ?_
 refine nt' ?_
 by_cases hl12 : k6 < x0.length
 ·have g13 := dlT hl12
  have hvk := hv.2 k6 (by omega)
  refine CM_condT rfl g13 ?_
  refine CM_skip (QM_then (CM_seq (CM_block (CM_seq (sr (wm ?_))))))
  refine wv (fun W hm => rv_gtr rfl rfl) ?_
  refine nt' ?_
  by_cases h14 : 0 < ((k6 : Nat) : Int)
  ·have g15 := decide_eq_true h14
   refine CM_condT rfl g15 ?_
   refine CM_region (wm ?_)
   have hz16 : ByteArray.size (sB [44]) = 1 := rfl
   refine wv (fun W hm => rv_addS (p := s7) (q := (sB [44])) rfl rfl (by omega)) ?_
   have hz17 := sz_app s7 (sB [44])
   refine wa (nt' (CM_region (wm (wm (wm ?_)))))
   obtain ⟨a18, rfl, hb19, he20⟩ := q4 (by omega)
   refine wv (vix 1 k6 underlying28 type3) ?_
   refine wv (fun W hm => rv_load underlying3 rfl rfl ((hm.cell0 (show (a18.add (k6 * 1)).block < w.heap.size from by rw [add_block]; exact hb19.1)).trans (rdS_int he20 k6 (by omega)))) ?_
   refine wcv (cl_fn cb49 rfl) (fun W hm => spec_FormatInt_c W (gt x0 k6) (⟨by omega, by omega⟩)) ?_
   have hz21 := spec_FormatInt_sz (gt x0 k6) (by omega)
   refine wv (fun W hm => rv_addS (p := (s7 ++ (sB [44]))) (q := (spec_FormatInt_m (gt x0 k6))) rfl rfl (by omega)) ?_
   have hz22 := sz_app (s7 ++ (sB [44])) (spec_FormatInt_m (gt x0 k6))
   refine wa (WM_nil (QM_block_normal (QM_then (CM_region (wm ?_)))))
   refine wv (vadN k6 1 (by omega)) ?_
   refine wa (WM_nil ?_)
   have hn23 := rng_next (R := ByteArray) (body := F1) (k := k6) (s := s7) (s' := ((s7 ++ (sB [44])) ++ (spec_FormatInt_m (gt x0 k6)))) (show k6 < x0.length from by omega) (cond_t g15 (rfl)) hF9
   exact QM_round (k6 + 1, ((s7 ++ (sB [44])) ++ (spec_FormatInt_m (gt x0 k6))), ()) sl3 (fun W hm => hm) ⟨(by omega), hn23, (show ((s7 ++ (sB [44])) ++ (spec_FormatInt_m (gt x0 k6))).size ≤ 60 * (k6 + 1) from by omega)⟩ (rl (by omega))
  ·have g15 := decide_eq_false h14
   refine CM_condF rfl g15 ?_
   refine CM_skip (QM_then (CM_region (wm (wm (wm ?_)))))
   obtain ⟨a24, rfl, hb25, he26⟩ := q4 (by omega)
   refine wv (vix 1 k6 underlying28 type3) ?_
   refine wv (fun W hm => rv_load underlying3 rfl rfl ((hm.cell0 (show (a24.add (k6 * 1)).block < w.heap.size from by rw [add_block]; exact hb25.1)).trans (rdS_int he26 k6 (by omega)))) ?_
   refine wcv (cl_fn cb49 rfl) (fun W hm => spec_FormatInt_c W (gt x0 k6) (⟨by omega, by omega⟩)) ?_
   have hz27 := spec_FormatInt_sz (gt x0 k6) (by omega)
   refine wv (fun W hm => rv_addS (p := s7) (q := (spec_FormatInt_m (gt x0 k6))) rfl rfl (by omega)) ?_
   have hz28 := sz_app s7 (spec_FormatInt_m (gt x0 k6))
   refine wa (WM_nil (QM_block_normal (QM_then (CM_region (wm ?_)))))
   refine wv (vadN k6 1 (by omega)) ?_
   refine wa (WM_nil ?_)
   have hn29 := rng_next (R := ByteArray) (body := F1) (k := k6) (s := s7) (s' := (s7 ++ (spec_FormatInt_m (gt x0 k6)))) (show k6 < x0.length from by omega) (cond_f g15 (rfl)) hF9
   exact QM_round (k6 + 1, (s7 ++ (spec_FormatInt_m (gt x0 k6))), ()) sl3 (fun W hm => hm) ⟨(by omega), hn29, (show (s7 ++ (spec_FormatInt_m (gt x0 k6))).size ≤ 60 * (k6 + 1) from by omega)⟩ (rl (by omega))
 ·have g13 := dlF hl12
  refine CM_condF rfl g13 ?_
  refine CM_exit (QM_then_exit (QM_then_exit ?_))
  have hE30 : R2 (x0.length - 0) 0 (sB []) = Sum.inr s7 := rng_end hl12 hF9
  refine QM_block_hit (QM_then (sr (wm (wa (nt' (CM_ret ?_))))))
  exact QM_ret1 rfl rfl (fun W hm => ⟨ret_s (show spec_l3List_m x0 = s7 from fin_inr hE30 (rfl)), hm.below⟩)

theorem IsRow_iff (r : DRow) : spec_IsRow_m r = true ↔ (∀ z ∈ r.Values, 0 ≤ z ∧ z ≤ 99) ∧ (0 ≤ r.Id ∧ r.Id ≤ 999) ∧ r.Values.length = 3 := by
  unfold spec_IsRow_m
  rw [rng_allB (xs := r.Values) (p := fun z => decide (0 ≤ z ∧ z ≤ 99)) (r := false) (fun k _ => by
    unfold spec_IsRow_b1
    rw [spec_l1In_iff]), spec_l1In_iff]
  have e : (r.Values.all fun z => decide (0 ≤ z ∧ z ≤ 99)) = true ↔ ∀ z ∈ r.Values, 0 ≤ z ∧ z ≤ 99 := by simp only [List.all_eq_true, decide_eq_true_eq]
  rw [← e]
  cases (r.Values.all fun z => decide (0 ≤ z ∧ z ≤ 99)) with
  | false => exact ⟨fun h => (by cases h), fun h => (by cases h.1)⟩
  | true =>
    show cond (decide (0 ≤ r.Id ∧ r.Id ≤ 999)) (((r.Values.length : Nat) : Int) == 3) false = true ↔ _
    by_cases h1 : 0 ≤ r.Id ∧ r.Id ≤ 999
    · rw [decide_eq_true h1, cond_true, beq_iff_eq]
      exact ⟨fun h => ⟨rfl, h1, by omega⟩, fun h => by omega⟩
    · rw [decide_eq_false h1]
      exact ⟨fun h => (by cases h), fun h => absurd h.2.1 h1⟩
theorem spec_Row_rng {x : DRow} (h : spec_IsRow_m x = true) : (0 ≤ x.Id ∧ x.Id ≤ 999) ∧ x.Values.length = 3 ∧ ∀ k, k < 3 → 0 ≤ gt x.Values k ∧ gt x.Values k ≤ 99 := by
  obtain ⟨h1, h2, h3⟩ := (IsRow_iff x).1 h
  exact ⟨h2, h3, fun k hk => h1 _ (gt_mem (by omega))⟩
theorem spec_l3List_sz (x : List Int) (hv : x.length = 3 ∧ ∀ k, k < 3 → 0 ≤ gt x k ∧ gt x k ≤ 99) : (spec_l3List_m x).size ≤ 2000000 := by
  unfold spec_l3List_m
  obtain ⟨s, e, h⟩ := rng_inv (R := ByteArray) (body := fun k (s : ByteArray) => spec_l3List_b1 x k s) (n := x.length) (fun k s => s.size ≤ 60 * k) (fun k s hk h => by
    have hv1 := hv.2 k (by omega)
    have h1 := spec_FormatInt_sz (gt x k) (by omega)
    have h44 : ByteArray.size (sB [44]) = 1 := rfl
    unfold spec_l3List_b1
    cases decide (0 < ((k : Nat) : Int)) with
    | true => exact ⟨_, rfl, by rw [sz_app, sz_app]; omega⟩
    | false => exact ⟨_, rfl, by rw [sz_app]; omega⟩) (x.length - 0) 0 (sB []) (by omega) (Nat.zero_le _)
  rw [e]
  show s.size ≤ _
  omega
def spec_FormatRow_m (x0 : DRow) : ByteArray :=
 cond (spec_IsRow_m x0) (((spec_FormatInt_m x0.Id) ++ (sB [58])) ++ (spec_l3List_m x0.Values)) (sB [])
theorem cb58 : Cb Tryd.prog 58 := ⟨f58, _, func58, rfl, by decide⟩
theorem spec_FormatRow_c (w : World) (z0 : List Value) (x0 : DRow) (r_0 : tyRow.rd w w.heap.size z0 x0) :
  Calls Tryd.prog 58 #[.agg z0.toArray] w fun e w' => e = .returned (.string (spec_FormatRow_m x0)) ∧ Below w.heap.size w w' := by
 obtain ⟨v1, rfl, r2⟩ := tyRow_rd r_0
 obtain ⟨m3, A4, c5, rfl, q6, r7⟩ := rdS_op r2
 refine ce1 (L := [(0, .agg #[.int .i64 x0.Id, .slice A4 x0.Values.length c5])]) (N := 14) func58 ?_
 refine sr ?_
 refine WM_box rfl (Wd_none rfl) (by decide) (fun p8 => ?_)
 refine wa (nt' (CM_seq (sr ?_)))
 refine wv (fun W hm => rv_loadN (cs := [.int .i64 x0.Id, .slice A4 x0.Values.length c5]) underlying43 type43 rfl rfl (hm.boxCells (n := 0) rfl)) ?_
 refine wcv (cl_fn cb76 rfl) (fun W hm => spec_IsRow_c W _ x0 (tyRow_mk (x := x0) (hm.rdS0 r7))) ?_
 refine wv vnot ?_
 refine nt' ?_
 rcases Bool.eq_false_or_eq_true (spec_IsRow_m x0) with g10 | g10
 ·
  have hrw := spec_Row_rng g10
  refine CM_condF rfl (nt g10) ?_
  refine CM_skip (QM_then (CM_seq ?_))
  refine CM_regionD (by kernel_rfl) (by kernel_rfl) ?_
  refine qv (vf underlying43 rfl type3) ?_
  refine qv (vl 0 0 underlying3) ?_
  refine QR_callV (cl_fn cb49 rfl) (fun W hm => spec_FormatInt_c W x0.Id (⟨by omega, by omega⟩)) (Wd_none rfl) (by decide) ?_
  have hz11 := spec_FormatInt_sz x0.Id (by omega)
  have hz12 : ByteArray.size (sB [58]) = 1 := rfl
  refine qv (fun W hm => rv_addS (p := (spec_FormatInt_m x0.Id)) (q := (sB [58])) rfl rfl (by omega)) ?_
  have hz13 := sz_app (spec_FormatInt_m x0.Id) (sB [58])
  refine qv (vf underlying43 rfl type28) ?_
  refine qv (vl 0 1 underlying28) ?_
  refine QR_callV (cl_fn cb84 rfl) (fun W hm => spec_l3List_c W _ x0.Values (hm.rdS0 r7) (hrw.2)) (Wd_none rfl) (by decide) ?_
  have hzn := spec_l3List_sz x0.Values hrw.2
  refine qv (fun W hm => rv_addS (p := ((spec_FormatInt_m x0.Id) ++ (sB [58]))) (q := (spec_l3List_m x0.Values)) rfl rfl (by omega)) ?_
  have hz14 := sz_app ((spec_FormatInt_m x0.Id) ++ (sB [58])) (spec_l3List_m x0.Values)
  refine qv (fun W hm => rv_assign rfl) ?_
  refine nq' (CM_ret ?_)
  exact QM_ret1 rfl rfl (fun W hm => ⟨ret_s (show spec_FormatRow_m x0 = (((spec_FormatInt_m x0.Id) ++ (sB [58])) ++ (spec_l3List_m x0.Values)) from cond_t g10 (rfl)), hm.below⟩)
 ·
  refine CM_condT rfl (nf g10) ?_
  refine sr (wa (nt' (CM_ret (QM_then_ret ?_))))
  exact QM_ret1 rfl rfl (fun W hm => ⟨ret_s (show spec_FormatRow_m x0 = (sB []) from cond_f g10 (rfl)), hm.below⟩)
theorem spec_FormatRow_sz (x : DRow) : (spec_FormatRow_m x).size ≤ 3000000 := by
  unfold spec_FormatRow_m
  cases h : spec_IsRow_m x with
  | false => exact Nat.zero_le _
  | true =>
    have hr := spec_Row_rng h
    have h1 := spec_FormatInt_sz x.Id (by omega)
    have h2 := spec_l3List_sz x.Values hr.2
    have h58 : ByteArray.size (sB [58]) = 1 := rfl
    rw [cond_true, sz_app, sz_app]
    omega

theorem cond_tt {a b : Bool} (h : cond a b false = true) : a = true ∧ b = true := by cases a <;> simp_all
theorem spec_Update_rng {x : DUpdate} (h : spec_IsUpdate_m x = true) : (0 ≤ x.Row.Id ∧ x.Row.Id ≤ 999) ∧ (0 ≤ x.Field ∧ x.Field ≤ 2) ∧ (0 ≤ x.Value ∧ x.Value ≤ 99) := by
  unfold spec_IsUpdate_m at h
  cases h1 : x.Kind == 1 with
  | true =>
    rw [h1] at h
    obtain ⟨h2, h⟩ := cond_tt h
    obtain ⟨h3, h⟩ := cond_tt h
    rw [beq_iff_eq] at h3 h
    exact ⟨(spec_Row_rng h2).1, by omega, by omega⟩
  | false =>
    rw [h1, cond_false] at h
    cases h2 : x.Kind == 2 with
    | true =>
      rw [h2, cond_true] at h
      obtain ⟨h3, h⟩ := cond_tt h
      obtain ⟨_, h⟩ := cond_tt h
      obtain ⟨h4, h⟩ := cond_tt h
      rw [beq_iff_eq] at h4 h
      rw [spec_l1In_iff, decide_eq_true_eq] at h3
      exact ⟨h3, by omega, by omega⟩
    | false =>
      rw [h2, cond_false] at h
      obtain ⟨_, h⟩ := cond_tt h
      obtain ⟨h3, h⟩ := cond_tt h
      obtain ⟨_, h⟩ := cond_tt h
      obtain ⟨h4, h⟩ := cond_tt h
      rw [spec_l1In_iff, decide_eq_true_eq] at h3 h4 h
      exact ⟨h3, h4, h⟩
def spec_FormatUpdate_m (x0 : DUpdate) : ByteArray :=
 cond (spec_IsUpdate_m x0) (cond (x0.Kind == 1) ((sB [105, 110, 115, 101, 114, 116, 32]) ++ (spec_FormatRow_m x0.Row)) (cond (x0.Kind == 2) ((sB [100, 101, 108, 101, 116, 101, 32]) ++ (spec_FormatInt_m x0.Row.Id)) ((((((sB [115, 101, 116, 32]) ++ (spec_FormatInt_m x0.Row.Id)) ++ (sB [32, 102])) ++ (spec_FormatInt_m x0.Field)) ++ (sB [32])) ++ (spec_FormatInt_m x0.Value)))) (sB [])
theorem cb17 : Cb Tryd.prog 17 := ⟨f17, _, func17, rfl, by decide⟩
theorem spec_FormatUpdate_c (w : World) (z0 : List Value) (x0 : DUpdate) (r_0 : tyUpdate.rd w w.heap.size z0 x0) :
  Calls Tryd.prog 17 #[.agg z0.toArray] w fun e w' => e = .returned (.string (spec_FormatUpdate_m x0)) ∧ Below w.heap.size w w' := by
 obtain ⟨v1, rfl, r2⟩ := tyUpdate_rd r_0
 obtain ⟨m3, A4, c5, rfl, q6, r7⟩ := rdS_op r2
 refine ce1 (L := [(0, .agg #[.int .i64 x0.Kind, .int .i64 x0.Row.Id, .slice A4 x0.Row.Values.length c5, .int .i64 x0.Field, .int .i64 x0.Value])]) (N := 36) func17 ?_
 refine sr ?_
 refine WM_box rfl (Wd_none rfl) (by decide) (fun p8 => ?_)
 refine wa (nt' (CM_seq (sr ?_)))
 refine wv (fun W hm => rv_loadN (cs := [.int .i64 x0.Kind, .int .i64 x0.Row.Id, .slice A4 x0.Row.Values.length c5, .int .i64 x0.Field, .int .i64 x0.Value]) underlying45 type45 rfl rfl (hm.boxCells (n := 0) rfl)) ?_
 refine wcv (cl_fn cb57 rfl) (fun W hm => spec_IsUpdate_c W _ x0 (tyUpdate_mk (x := x0) (hm.rdS0 r7))) ?_
 refine wv vnot ?_
 refine nt' ?_
 rcases Bool.eq_false_or_eq_true (spec_IsUpdate_m x0) with g10 | g10
 ·
  have hup := spec_Update_rng g10
  refine CM_condF rfl (nt g10) ?_
  refine CM_skip (QM_then (CM_seq (sr ?_)))
  refine wv (vf underlying45 rfl type3) ?_
  refine wv (vl 0 0 underlying3) ?_
  refine nt' (CM_block (sr ?_))
  refine wv (fun W hm => rv_eql rfl rfl) ?_
  refine wa (nt' ?_)
  by_cases h11 : x0.Kind = 1
  ·have g12 := beq_iff_eq.2 h11
   refine CM_condT rfl g12 ?_
   refine sr ?_
   refine wv (vf underlying45 rfl type43) ?_
   refine wv (fun W hm => rv_loadN (cs := [.int .i64 x0.Row.Id, .slice A4 x0.Row.Values.length c5]) underlying43 type43 rfl rfl (hm.boxPart (n := 0) rfl rfl)) ?_
   refine wcv (cl_fn cb58 rfl) (fun W hm => spec_FormatRow_c W _ x0.Row (tyRow_mk (x := x0.Row) (hm.rdS0 r7))) ?_
   have hzr := spec_FormatRow_sz x0.Row
   have hz13 : ByteArray.size (sB [105, 110, 115, 101, 114, 116, 32]) = 7 := rfl
   refine wv (fun W hm => rv_addS (p := (sB [105, 110, 115, 101, 114, 116, 32])) (q := (spec_FormatRow_m x0.Row)) rfl rfl (by omega)) ?_
   have hz14 := sz_app (sB [105, 110, 115, 101, 114, 116, 32]) (spec_FormatRow_m x0.Row)
   refine wa (nt' (CM_ret (QM_block_ret (QM_then_ret ?_))))
   exact QM_ret1 rfl rfl (fun W hm => ⟨ret_s (show spec_FormatUpdate_m x0 = ((sB [105, 110, 115, 101, 114, 116, 32]) ++ (spec_FormatRow_m x0.Row)) from cond_t g10 (cond_t g12 (rfl))), hm.below⟩)
  ·have g12 := beq_eq_false_iff_ne.2 h11
   refine CM_condF rfl g12 ?_
   refine sr ?_
   refine wv (fun W hm => rv_eql rfl rfl) ?_
   refine wa (nt' ?_)
   by_cases h15 : x0.Kind = 2
   ·have g16 := beq_iff_eq.2 h15
    refine CM_condT rfl g16 ?_
    refine sr ?_
    refine wv (vf underlying45 rfl type43) ?_
    refine wv (fun W hm => rv_fieldA (o := 1) underlying43 rfl type3 (by decide) rfl rfl) ?_
    refine wv (vl 0 1 underlying3) ?_
    refine wcv (cl_fn cb49 rfl) (fun W hm => spec_FormatInt_c W x0.Row.Id (⟨by omega, by omega⟩)) ?_
    have hz17 := spec_FormatInt_sz x0.Row.Id (by omega)
    have hz18 : ByteArray.size (sB [100, 101, 108, 101, 116, 101, 32]) = 7 := rfl
    refine wv (fun W hm => rv_addS (p := (sB [100, 101, 108, 101, 116, 101, 32])) (q := (spec_FormatInt_m x0.Row.Id)) rfl rfl (by omega)) ?_
    have hz19 := sz_app (sB [100, 101, 108, 101, 116, 101, 32]) (spec_FormatInt_m x0.Row.Id)
    refine wa (nt' (CM_ret (QM_block_ret (QM_then_ret ?_))))
    exact QM_ret1 rfl rfl (fun W hm => ⟨ret_s (show spec_FormatUpdate_m x0 = ((sB [100, 101, 108, 101, 116, 101, 32]) ++ (spec_FormatInt_m x0.Row.Id)) from cond_t g10 (cond_f g12 (cond_t g16 (rfl)))), hm.below⟩)
   ·have g16 := beq_eq_false_iff_ne.2 h15
    refine CM_condF rfl g16 ?_
    refine CM_skip (QM_block_normal (QM_then (CM_seq ?_)))
    refine CM_regionD (by kernel_rfl) (by kernel_rfl) ?_
    refine qv (vf underlying45 rfl type43) ?_
    refine qv (fun W hm => rv_fieldA (o := 1) underlying43 rfl type3 (by decide) rfl rfl) ?_
    refine qv (vl 0 1 underlying3) ?_
    refine QR_callV (cl_fn cb49 rfl) (fun W hm => spec_FormatInt_c W x0.Row.Id (⟨by omega, by omega⟩)) (Wd_none rfl) (by decide) ?_
    have hz20 := spec_FormatInt_sz x0.Row.Id (by omega)
    have hz21 : ByteArray.size (sB [115, 101, 116, 32]) = 4 := rfl
    refine qv (fun W hm => rv_addS (p := (sB [115, 101, 116, 32])) (q := (spec_FormatInt_m x0.Row.Id)) rfl rfl (by omega)) ?_
    have hz22 := sz_app (sB [115, 101, 116, 32]) (spec_FormatInt_m x0.Row.Id)
    have hz23 : ByteArray.size (sB [32, 102]) = 2 := rfl
    refine qv (fun W hm => rv_addS (p := ((sB [115, 101, 116, 32]) ++ (spec_FormatInt_m x0.Row.Id))) (q := (sB [32, 102])) rfl rfl (by omega)) ?_
    have hz24 := sz_app ((sB [115, 101, 116, 32]) ++ (spec_FormatInt_m x0.Row.Id)) (sB [32, 102])
    refine qv (vf underlying45 rfl type3) ?_
    refine qv (vl 0 3 underlying3) ?_
    refine QR_callV (cl_fn cb49 rfl) (fun W hm => spec_FormatInt_c W x0.Field (⟨by omega, by omega⟩)) (Wd_none rfl) (by decide) ?_
    have hz25 := spec_FormatInt_sz x0.Field (by omega)
    refine qv (fun W hm => rv_addS (p := (((sB [115, 101, 116, 32]) ++ (spec_FormatInt_m x0.Row.Id)) ++ (sB [32, 102]))) (q := (spec_FormatInt_m x0.Field)) rfl rfl (by omega)) ?_
    have hz26 := sz_app (((sB [115, 101, 116, 32]) ++ (spec_FormatInt_m x0.Row.Id)) ++ (sB [32, 102])) (spec_FormatInt_m x0.Field)
    have hz27 : ByteArray.size (sB [32]) = 1 := rfl
    refine qv (fun W hm => rv_addS (p := ((((sB [115, 101, 116, 32]) ++ (spec_FormatInt_m x0.Row.Id)) ++ (sB [32, 102])) ++ (spec_FormatInt_m x0.Field))) (q := (sB [32])) rfl rfl (by omega)) ?_
    have hz28 := sz_app ((((sB [115, 101, 116, 32]) ++ (spec_FormatInt_m x0.Row.Id)) ++ (sB [32, 102])) ++ (spec_FormatInt_m x0.Field)) (sB [32])
    refine qv (vf underlying45 rfl type3) ?_
    refine qv (vl 0 4 underlying3) ?_
    refine QR_callV (cl_fn cb49 rfl) (fun W hm => spec_FormatInt_c W x0.Value (⟨by omega, by omega⟩)) (Wd_none rfl) (by decide) ?_
    have hz29 := spec_FormatInt_sz x0.Value (by omega)
    refine qv (fun W hm => rv_addS (p := (((((sB [115, 101, 116, 32]) ++ (spec_FormatInt_m x0.Row.Id)) ++ (sB [32, 102])) ++ (spec_FormatInt_m x0.Field)) ++ (sB [32]))) (q := (spec_FormatInt_m x0.Value)) rfl rfl (by omega)) ?_
    have hz30 := sz_app (((((sB [115, 101, 116, 32]) ++ (spec_FormatInt_m x0.Row.Id)) ++ (sB [32, 102])) ++ (spec_FormatInt_m x0.Field)) ++ (sB [32])) (spec_FormatInt_m x0.Value)
    refine qv (fun W hm => rv_assign rfl) ?_
    refine nq' (CM_ret ?_)
    exact QM_ret1 rfl rfl (fun W hm => ⟨ret_s (show spec_FormatUpdate_m x0 = ((((((sB [115, 101, 116, 32]) ++ (spec_FormatInt_m x0.Row.Id)) ++ (sB [32, 102])) ++ (spec_FormatInt_m x0.Field)) ++ (sB [32])) ++ (spec_FormatInt_m x0.Value)) from cond_t g10 (cond_f g12 (cond_f g16 (rfl)))), hm.below⟩)
 ·
  refine CM_condT rfl (nf g10) ?_
  refine sr (wa (nt' (CM_ret (QM_then_ret ?_))))
  exact QM_ret1 rfl rfl (fun W hm => ⟨ret_s (show spec_FormatUpdate_m x0 = (sB []) from cond_f g10 (rfl)), hm.below⟩)

def impl_within_m (x0 : Int) (x1 : Int) (x2 : Int) : Bool :=
 cond (decide (x1 ≤ x0)) (decide (x0 ≤ x2)) false
theorem cb50 : Cb Tryd.prog 50 := ⟨f50, _, func50, rfl, by decide⟩
theorem impl_within_c (w : World) (x0 : Int) (x1 : Int) (x2 : Int) :
  Calls Tryd.prog 50 #[.int .i64 x0, .int .i64 x1, .int .i64 x2] w fun e w' => e = .returned (.bool (impl_within_m x0 x1 x2)) ∧ Below w.heap.size w w' := by
 refine ce3 (L := [(0, .int .i64 x0), (1, .int .i64 x1), (2, .int .i64 x2)]) (N := 15) func50 ?_
 refine sr (wa (nt' (sr (wm (wm ?_)))))
 refine wv (fun W hm => rv_geq rfl rfl) ?_
 refine wm ?_
 by_cases h1 : x1 ≤ x0
 ·have g2 := decide_eq_true h1
  refine wg vmv g2 ?_
  refine wg vmv g2 ?_
  refine wg (fun W hm => rv_leq rfl rfl) g2 ?_
  refine wv (vpT g2) ?_
  refine wa (nt' (CM_ret ?_))
  exact rtb (h := cond_t g2 (rfl))
 ·have g2 := decide_eq_false h1
  refine ws g2 ?_
  refine ws g2 ?_
  refine ws g2 ?_
  refine wv (vpF g2) ?_
  refine wa (nt' (CM_ret ?_))
  exact rtb (h := cond_f g2 (rfl))

theorem impl_within_fact {x a b : Int} (h : impl_within_m x a b = true) : a ≤ x ∧ x ≤ b := by
  unfold impl_within_m at h
  by_cases h1 : a ≤ x
  · rw [decide_eq_true h1] at h
    exact ⟨h1, of_decide_eq_true h⟩
  · rw [decide_eq_false h1] at h
    cases h
theorem impl_within_iff (x a b : Int) : impl_within_m x a b = decide (a ≤ x ∧ x ≤ b) := by
  unfold impl_within_m
  by_cases h1 : a ≤ x
  · by_cases h2 : x ≤ b
    · simp [h1, h2]
    · simp [h1, h2]
  · simp [h1]

def impl_IsRow_b1 (x0 : DRow) (k9 : Nat) : Bool ⊕ (Unit) :=
 cond (impl_within_m (gt x0.Values k9) 0 99) (Sum.inr ()) (Sum.inl false)
def impl_IsRow_m (x0 : DRow) : Bool :=
 Sum.elim id (fun (s : Unit) => cond (impl_within_m x0.Id 0 999) (((x0.Values.length : Nat) : Int) == 3) false) (rng (R := Bool) (fun k (_ : Unit) => impl_IsRow_b1 x0 k) (x0.Values.length - 0) 0 ())
theorem cb72 : Cb Tryd.prog 72 := ⟨f72, _, func72, rfl, by decide⟩
theorem impl_IsRow_c (w : World) (z0 : List Value) (x0 : DRow) (r_0 : tyRow.rd w w.heap.size z0 x0) :
  Calls Tryd.prog 72 #[.agg z0.toArray] w fun e w' => e = .returned (.bool (impl_IsRow_m x0)) ∧ Below w.heap.size w w' := by
 obtain ⟨v1, rfl, r2⟩ := tyRow_rd r_0
 obtain ⟨m3, A4, c5, rfl, q6, r7⟩ := rdS_op r2
 refine ce1 (L := [(0, .agg #[.int .i64 x0.Id, .slice A4 x0.Values.length c5])]) (N := 25) func72 ?_
 refine sr ?_
 refine WM_box rfl (Wd_none rfl) (by decide) (fun p8 => ?_)
 refine wa (nt' (CM_seq (sr ?_)))
 refine wv (vf underlying43 rfl type28) ?_
 refine wv (vl 0 1 underlying28) ?_
 refine wv (vlen underlying28) ?_
 refine wm (nt' (CM_block ?_))
 let F1 := fun k (_ : Unit) => impl_IsRow_b1 x0 k
 let R2 := rng (R := Bool) F1
 let I3 : It := iBox p8 43 [.int .i64 x0.Id, .slice A4 x0.Values.length c5]
 refine CM_loop (σ := Nat × (Unit) × (Unit)) (fun s => [(1, .pointer (some (⟨p8, 0, none⟩ : Addr))), (6, .slice A4 x0.Values.length c5), (7, .int .i64 ((x0.Values.length : Nat) : Int)), (8, .int .i64 ((s.1 : Nat) : Int))]) (fun s => [I3]) (fun s => s.1 ≤ x0.Values.length ∧ R2 (x0.Values.length - s.1) s.1 s.2.1 = R2 (x0.Values.length - 0) 0 ()) (fun s => x0.Values.length - s.1) (0, (), ()) sl4 (fun W hm => hm) ⟨(by omega), rfl⟩ ?_
 rintro ⟨k9, ⟨⟩, ⟨⟩⟩ H12
 obtain ⟨hk10, hF11⟩ : k9 ≤ x0.Values.length ∧ R2 (x0.Values.length - k9) k9 () = R2 (x0.Values.length - 0) 0 () := H12
 show CM Tryd.prog 25 _ _ _ _ [(1, .pointer (some (⟨p8, 0, none⟩ : Addr))), (6, .slice A4 x0.Values.length c5), (7, .int .i64 ((x0.Values.length : Nat) : Int)), (8, .int .i64 ((k9 : Nat) : Int))] [I3]
 refine sr ?_
 refine wv vlss ?_
 refine nt' (CM_seq ?_)
 by_cases hl13 : k9 < x0.Values.length
 ·have g14 := dlT hl13
  refine CM_condT rfl g14 ?_
  refine CM_skip (QM_then (CM_seq (CM_block (sr ?_))))
  obtain ⟨a15, rfl, hb16, he17⟩ := q6 (by omega)
  refine wv (vix 1 k9 underlying28 type3) ?_
  refine wv (fun W hm => rv_load underlying3 rfl rfl ((hm.cell0 (show (a15.add (k9 * 1)).block < w.heap.size from by rw [add_block]; exact hb16.1)).trans (rdS_int he17 k9 (by omega)))) ?_
  refine wa (nt' (sr (wm ?_)))
  refine wcv (cl_fn cb50 rfl) (fun W hm => impl_within_c W (gt x0.Values k9) 0 99) ?_
  refine wv vnot ?_
  refine nt' ?_
  rcases Bool.eq_false_or_eq_true (impl_within_m (gt x0.Values k9) 0 99) with g19 | g19
  ·
   have hw := impl_within_fact g19
   refine CM_condF rfl (nt g19) ?_
   refine CM_skip (QM_block_normal (QM_then (CM_region ?_)))
   refine wv (vadN k9 1 (by omega)) ?_
   refine wm (WM_nil ?_)
   have hn20 := rng_next (R := Bool) (body := F1) (k := k9) (s := ()) (s' := ()) (show k9 < x0.Values.length from by omega) (cond_t g19 (rfl)) hF11
   exact QM_round (k9 + 1, (), ()) sl4 (fun W hm => hm) ⟨(by omega), hn20⟩ (rl (by omega))
  ·
   refine CM_condT rfl (nf g19) ?_
   refine sr (wa (nt' (CM_ret (QM_block_ret (QM_then_ret (QM_then_ret (QM_block_ret (QM_then_ret ?_))))))))
   exact rtb (h := fin_inl (rng_ret (body := F1) (k := k9) (s := ()) (show k9 < x0.Values.length from by omega) (cond_f g19 (rfl)) hF11) rfl)
 ·have g14 := dlF hl13
  refine CM_condF rfl g14 ?_
  refine CM_exit (QM_then_exit (QM_then_exit ?_))
  have hE21 : R2 (x0.Values.length - 0) 0 () = Sum.inr () := rng_end hl13 hF11
  refine QM_block_hit (QM_then (sr ?_))
  refine wv (vf underlying43 rfl type3) ?_
  refine wv (vl 0 0 underlying3) ?_
  refine wcv (cl_fn cb50 rfl) (fun W hm => impl_within_c W x0.Id 0 999) ?_
  refine wm ?_
  rcases Bool.eq_false_or_eq_true (impl_within_m x0.Id 0 999) with g23 | g23
  ·
   have hw := impl_within_fact g23
   refine wg (vf underlying43 rfl type28) g23 ?_
   refine wg (vl 0 1 underlying28) g23 ?_
   refine wg (vlen underlying28) g23 ?_
   refine wg (fun W hm => rv_eql rfl rfl) g23 ?_
   refine wv (vpT g23) ?_
   refine wa (nt' (CM_ret ?_))
   exact rtb (h := fin_inr hE21 (cond_t g23 (rfl)))
  ·
   refine ws g23 ?_
   refine ws g23 ?_
   refine ws g23 ?_
   refine ws g23 ?_
   refine wv (vpF g23) ?_
   refine wa (nt' (CM_ret ?_))
   exact rtb (h := fin_inr hE21 (cond_f g23 (rfl)))

def impl_isField_m (x0 : Int) : Bool :=
 (impl_within_m x0 0 2)
theorem cb71 : Cb Tryd.prog 71 := ⟨f71, _, func71, rfl, by decide⟩
theorem impl_isField_c (w : World) (x0 : Int) :
  Calls Tryd.prog 71 #[.int .i64 x0] w fun e w' => e = .returned (.bool (impl_isField_m x0)) ∧ Below w.heap.size w w' := by
 refine ce1 (L := [(0, .int .i64 x0)]) (N := 5) func71 ?_
 refine sr (wa (nt' (sr (wm ?_))))
 refine wcv (cl_fn cb50 rfl) (fun W hm => impl_within_c W x0 0 2) ?_
 refine wa (nt' (CM_ret ?_))
 exact rtb (h := rfl)

def impl_IsUpdate_m (x0 : DUpdate) : Bool :=
 cond (impl_within_m x0.Row.Id 0 999) (cond (x0.Kind == 1) (cond (impl_IsRow_m x0.Row) (cond (x0.Field == 0) (x0.Value == 0) false) false) (cond (x0.Kind == 2) (cond (((x0.Row.Values.length : Nat) : Int) == 0) (cond (x0.Field == 0) (x0.Value == 0) false) false) (cond (x0.Kind == 3) (cond (((x0.Row.Values.length : Nat) : Int) == 0) (cond (impl_isField_m x0.Field) (impl_within_m x0.Value 0 99) false) false) false))) (cond (x0.Kind == 1) (cond (impl_IsRow_m x0.Row) (cond (x0.Field == 0) (x0.Value == 0) false) false) (cond (x0.Kind == 2) false (cond (x0.Kind == 3) false false)))
theorem cb60 : Cb Tryd.prog 60 := ⟨f60, _, func60, rfl, by decide⟩
theorem impl_IsUpdate_c (w : World) (z0 : List Value) (x0 : DUpdate) (r_0 : tyUpdate.rd w w.heap.size z0 x0) :
  Calls Tryd.prog 60 #[.agg z0.toArray] w fun e w' => e = .returned (.bool (impl_IsUpdate_m x0)) ∧ Below w.heap.size w w' := by
 obtain ⟨v1, rfl, r2⟩ := tyUpdate_rd r_0
 obtain ⟨m3, A4, c5, rfl, q6, r7⟩ := rdS_op r2
 refine ce1 (L := [(0, .agg #[.int .i64 x0.Kind, .int .i64 x0.Row.Id, .slice A4 x0.Row.Values.length c5, .int .i64 x0.Field, .int .i64 x0.Value])]) (N := 58) func60 ?_
 refine sr ?_
 refine WM_box rfl (Wd_none rfl) (by decide) (fun p8 => ?_)
 refine wa (nt' (sr ?_))
 refine wv (vf underlying45 rfl type43) ?_
 refine wv (fun W hm => rv_fieldA (o := 1) underlying43 rfl type3 (by decide) rfl rfl) ?_
 refine wv (vl 0 1 underlying3) ?_
 refine wcv (cl_fn cb50 rfl) (fun W hm => impl_within_c W x0.Row.Id 0 999) ?_
 refine wm ?_
 rcases Bool.eq_false_or_eq_true (impl_within_m x0.Row.Id 0 999) with g10 | g10
 ·
  have hw := impl_within_fact g10
  refine wg (vf underlying45 rfl type43) g10 ?_
  refine wg (fun W hm => rv_fieldA (o := 2) underlying43 rfl type28 (by decide) rfl rfl) g10 ?_
  refine wg (vl 0 2 underlying28) g10 ?_
  refine wg (vlen underlying28) g10 ?_
  refine wg (fun W hm => rv_eql rfl rfl) g10 ?_
  refine wv (vpT g10) ?_
  refine wa (nt' (CM_seq (sr ?_)))
  refine wv (vf underlying45 rfl type3) ?_
  refine wv (vl 0 0 underlying3) ?_
  refine nt' (CM_block (sr ?_))
  refine wv (fun W hm => rv_eql rfl rfl) ?_
  refine wa (nt' ?_)
  by_cases h11 : x0.Kind = 1
  ·have g12 := beq_iff_eq.2 h11
   refine CM_condT rfl g12 ?_
   refine sr ?_
   refine wv (vf underlying45 rfl type43) ?_
   refine wv (fun W hm => rv_loadN (cs := [.int .i64 x0.Row.Id, .slice A4 x0.Row.Values.length c5]) underlying43 type43 rfl rfl (hm.boxPart (n := 0) rfl rfl)) ?_
   refine wcv (cl_fn cb72 rfl) (fun W hm => impl_IsRow_c W _ x0.Row (tyRow_mk (x := x0.Row) (hm.rdS0 r7))) ?_
   refine wm ?_
   rcases Bool.eq_false_or_eq_true (impl_IsRow_m x0.Row) with g14 | g14
   ·
    refine wg (vf underlying45 rfl type3) g14 ?_
    refine wg (vl 0 3 underlying3) g14 ?_
    refine wg (fun W hm => rv_eql rfl rfl) g14 ?_
    refine wv (vpT g14) ?_
    refine wm ?_
    by_cases h15 : x0.Field = 0
    ·have g16 := beq_iff_eq.2 h15
     refine wg (vf underlying45 rfl type3) g16 ?_
     refine wg (vl 0 4 underlying3) g16 ?_
     refine wg (fun W hm => rv_eql rfl rfl) g16 ?_
     refine wv (vpT g16) ?_
     refine wa (nt' (CM_ret (QM_block_ret (QM_then_ret ?_))))
     exact rtb (h := cond_t g10 (cond_t g12 (cond_t g14 (cond_t g16 (rfl)))))
    ·have g16 := beq_eq_false_iff_ne.2 h15
     refine ws g16 ?_
     refine ws g16 ?_
     refine ws g16 ?_
     refine wv (vpF g16) ?_
     refine wa (nt' (CM_ret (QM_block_ret (QM_then_ret ?_))))
     exact rtb (h := cond_t g10 (cond_t g12 (cond_t g14 (cond_f g16 (rfl)))))
   ·
    refine ws g14 ?_
    refine ws g14 ?_
    refine ws g14 ?_
    refine wv (vpF g14) ?_
    refine wm ?_
    refine wk ?_
    refine wk ?_
    refine wk ?_
    refine wv (vpF rfl) ?_
    refine wa (nt' (CM_ret (QM_block_ret (QM_then_ret ?_))))
    exact rtb (h := cond_t g10 (cond_t g12 (cond_f g14 (rfl))))
  ·have g12 := beq_eq_false_iff_ne.2 h11
   refine CM_condF rfl g12 ?_
   refine sr ?_
   refine wv (fun W hm => rv_eql rfl rfl) ?_
   refine wa (nt' ?_)
   by_cases h17 : x0.Kind = 2
   ·have g18 := beq_iff_eq.2 h17
    refine CM_condT rfl g18 ?_
    refine sr (wm (wm ?_))
    by_cases h19 : ((x0.Row.Values.length : Nat) : Int) = 0
    ·have g20 := beq_iff_eq.2 h19
     refine wg (vf underlying45 rfl type3) g20 ?_
     refine wg (vl 0 3 underlying3) g20 ?_
     refine wg (fun W hm => rv_eql rfl rfl) g20 ?_
     refine wv (vpT g20) ?_
     refine wm ?_
     by_cases h21 : x0.Field = 0
     ·have g22 := beq_iff_eq.2 h21
      refine wg (vf underlying45 rfl type3) g22 ?_
      refine wg (vl 0 4 underlying3) g22 ?_
      refine wg (fun W hm => rv_eql rfl rfl) g22 ?_
      refine wv (vpT g22) ?_
      refine wa (nt' (CM_ret (QM_block_ret (QM_then_ret ?_))))
      exact rtb (h := cond_t g10 (cond_f g12 (cond_t g18 (cond_t g20 (cond_t g22 (rfl))))))
     ·have g22 := beq_eq_false_iff_ne.2 h21
      refine ws g22 ?_
      refine ws g22 ?_
      refine ws g22 ?_
      refine wv (vpF g22) ?_
      refine wa (nt' (CM_ret (QM_block_ret (QM_then_ret ?_))))
      exact rtb (h := cond_t g10 (cond_f g12 (cond_t g18 (cond_t g20 (cond_f g22 (rfl))))))
    ·have g20 := beq_eq_false_iff_ne.2 h19
     refine ws g20 ?_
     refine ws g20 ?_
     refine ws g20 ?_
     refine wv (vpF g20) ?_
     refine wm ?_
     refine wk ?_
     refine wk ?_
     refine wk ?_
     refine wv (vpF rfl) ?_
     refine wa (nt' (CM_ret (QM_block_ret (QM_then_ret ?_))))
     exact rtb (h := cond_t g10 (cond_f g12 (cond_t g18 (cond_f g20 (rfl)))))
   ·have g18 := beq_eq_false_iff_ne.2 h17
    refine CM_condF rfl g18 ?_
    refine sr ?_
    refine wv (fun W hm => rv_eql rfl rfl) ?_
    refine wa (nt' ?_)
    by_cases h23 : x0.Kind = 3
    ·have g24 := beq_iff_eq.2 h23
     refine CM_condT rfl g24 ?_
     refine sr (wm (wm ?_))
     by_cases h25 : ((x0.Row.Values.length : Nat) : Int) = 0
     ·have g26 := beq_iff_eq.2 h25
      refine wg (vf underlying45 rfl type3) g26 ?_
      refine wg (vl 0 3 underlying3) g26 ?_
      refine WM_callV (cl_fn cb71 rfl) (fun W hm => impl_isField_c W x0.Field) (Wd_some rfl rfl rfl (bw g26 rfl)) (by decide) ?_
      refine wv (vpT g26) ?_
      refine wm ?_
      rcases Bool.eq_false_or_eq_true (impl_isField_m x0.Field) with g28 | g28
      ·
       refine wg (vf underlying45 rfl type3) g28 ?_
       refine wg (vl 0 4 underlying3) g28 ?_
       refine WM_callV (cl_fn cb50 rfl) (fun W hm => impl_within_c W x0.Value 0 99) (Wd_some rfl rfl rfl (bw g28 rfl)) (by decide) ?_
       refine wv (vpT g28) ?_
       refine wa (nt' (CM_ret (QM_block_ret (QM_then_ret ?_))))
       exact rtb (h := cond_t g10 (cond_f g12 (cond_f g18 (cond_t g24 (cond_t g26 (cond_t g28 (rfl)))))))
      ·
       refine ws g28 ?_
       refine ws g28 ?_
       refine ws g28 ?_
       refine wv (vpF g28) ?_
       refine wa (nt' (CM_ret (QM_block_ret (QM_then_ret ?_))))
       exact rtb (h := cond_t g10 (cond_f g12 (cond_f g18 (cond_t g24 (cond_t g26 (cond_f g28 (rfl)))))))
     ·have g26 := beq_eq_false_iff_ne.2 h25
      refine ws g26 ?_
      refine ws g26 ?_
      refine ws g26 ?_
      refine wv (vpF g26) ?_
      refine wm ?_
      refine wk ?_
      refine wk ?_
      refine wk ?_
      refine wv (vpF rfl) ?_
      refine wa (nt' (CM_ret (QM_block_ret (QM_then_ret ?_))))
      exact rtb (h := cond_t g10 (cond_f g12 (cond_f g18 (cond_t g24 (cond_f g26 (rfl))))))
    ·have g24 := beq_eq_false_iff_ne.2 h23
     refine CM_condF rfl g24 ?_
     refine CM_skip (QM_block_normal (QM_then (sr (wa (nt' (CM_ret ?_))))))
     exact rtb (h := cond_t g10 (cond_f g12 (cond_f g18 (cond_f g24 (rfl)))))
 ·
  refine ws g10 ?_
  refine ws g10 ?_
  refine ws g10 ?_
  refine ws g10 ?_
  refine ws g10 ?_
  refine wv (vpF g10) ?_
  refine wa (nt' (CM_seq (sr ?_)))
  refine wv (vf underlying45 rfl type3) ?_
  refine wv (vl 0 0 underlying3) ?_
  refine nt' (CM_block (sr ?_))
  refine wv (fun W hm => rv_eql rfl rfl) ?_
  refine wa (nt' ?_)
  by_cases h29 : x0.Kind = 1
  ·have g30 := beq_iff_eq.2 h29
   refine CM_condT rfl g30 ?_
   refine sr ?_
   refine wv (vf underlying45 rfl type43) ?_
   refine wv (fun W hm => rv_loadN (cs := [.int .i64 x0.Row.Id, .slice A4 x0.Row.Values.length c5]) underlying43 type43 rfl rfl (hm.boxPart (n := 0) rfl rfl)) ?_
   refine wcv (cl_fn cb72 rfl) (fun W hm => impl_IsRow_c W _ x0.Row (tyRow_mk (x := x0.Row) (hm.rdS0 r7))) ?_
   refine wm ?_
   rcases Bool.eq_false_or_eq_true (impl_IsRow_m x0.Row) with g32 | g32
   ·
    refine wg (vf underlying45 rfl type3) g32 ?_
    refine wg (vl 0 3 underlying3) g32 ?_
    refine wg (fun W hm => rv_eql rfl rfl) g32 ?_
    refine wv (vpT g32) ?_
    refine wm ?_
    by_cases h33 : x0.Field = 0
    ·have g34 := beq_iff_eq.2 h33
     refine wg (vf underlying45 rfl type3) g34 ?_
     refine wg (vl 0 4 underlying3) g34 ?_
     refine wg (fun W hm => rv_eql rfl rfl) g34 ?_
     refine wv (vpT g34) ?_
     refine wa (nt' (CM_ret (QM_block_ret (QM_then_ret ?_))))
     exact rtb (h := cond_f g10 (cond_t g30 (cond_t g32 (cond_t g34 (rfl)))))
    ·have g34 := beq_eq_false_iff_ne.2 h33
     refine ws g34 ?_
     refine ws g34 ?_
     refine ws g34 ?_
     refine wv (vpF g34) ?_
     refine wa (nt' (CM_ret (QM_block_ret (QM_then_ret ?_))))
     exact rtb (h := cond_f g10 (cond_t g30 (cond_t g32 (cond_f g34 (rfl)))))
   ·
    refine ws g32 ?_
    refine ws g32 ?_
    refine ws g32 ?_
    refine wv (vpF g32) ?_
    refine wm ?_
    refine wk ?_
    refine wk ?_
    refine wk ?_
    refine wv (vpF rfl) ?_
    refine wa (nt' (CM_ret (QM_block_ret (QM_then_ret ?_))))
    exact rtb (h := cond_f g10 (cond_t g30 (cond_f g32 (rfl))))
  ·have g30 := beq_eq_false_iff_ne.2 h29
   refine CM_condF rfl g30 ?_
   refine sr ?_
   refine wv (fun W hm => rv_eql rfl rfl) ?_
   refine wa (nt' ?_)
   by_cases h35 : x0.Kind = 2
   ·have g36 := beq_iff_eq.2 h35
    refine CM_condT rfl g36 ?_
    refine sr (wm (wm ?_))
    refine wk ?_
    refine wk ?_
    refine wk ?_
    refine wv (vpF rfl) ?_
    refine wm ?_
    refine wk ?_
    refine wk ?_
    refine wk ?_
    refine wv (vpF rfl) ?_
    refine wa (nt' (CM_ret (QM_block_ret (QM_then_ret ?_))))
    exact rtb (h := cond_f g10 (cond_f g30 (cond_t g36 (rfl))))
   ·have g36 := beq_eq_false_iff_ne.2 h35
    refine CM_condF rfl g36 ?_
    refine sr ?_
    refine wv (fun W hm => rv_eql rfl rfl) ?_
    refine wa (nt' ?_)
    by_cases h37 : x0.Kind = 3
    ·have g38 := beq_iff_eq.2 h37
     refine CM_condT rfl g38 ?_
     refine sr (wm (wm ?_))
     refine wk ?_
     refine wk ?_
     refine wk ?_
     refine wv (vpF rfl) ?_
     refine wm ?_
     refine wk ?_
     refine wk ?_
     refine wk ?_
     refine wv (vpF rfl) ?_
     refine wa (nt' (CM_ret (QM_block_ret (QM_then_ret ?_))))
     exact rtb (h := cond_f g10 (cond_f g30 (cond_f g36 (cond_t g38 (rfl)))))
    ·have g38 := beq_eq_false_iff_ne.2 h37
     refine CM_condF rfl g38 ?_
     refine CM_skip (QM_block_normal (QM_then (sr (wa (nt' (CM_ret ?_))))))
     exact rtb (h := cond_f g10 (cond_f g30 (cond_f g36 (cond_f g38 (rfl)))))

def impl_FormatInt_m (x0 : Int) : ByteArray :=
 (itoaB x0)
theorem cb52 : Cb Tryd.prog 52 := ⟨f52, _, func52, rfl, by decide⟩
theorem impl_FormatInt_c (w : World) (x0 : Int) (hr : -9223372036854775808 ≤ x0 ∧ x0 ≤ 9223372036854775807) (hT : TabOK w.heap.size w) :
  Calls Tryd.prog 52 #[.int .i64 x0] w fun e w' => e = .returned (.string (impl_FormatInt_m x0)) ∧ Below w.heap.size w w' := by
 refine ce1 (L := [(0, .int .i64 x0)]) (N := 5) func52 ?_
 refine sr (wa (nt' (sr (wm ?_))))
 refine wcv (cl_fn ⟨f83, _, func83, rfl, by decide⟩ rfl) (fun W hm => itoa_c W x0 (by omega) (hT.mem hm)) ?_
 have hz1 := itoaB_sz x0 (by omega)
 refine wa (nt' (CM_ret ?_))
 exact QM_ret1 rfl rfl (fun W hm => ⟨ret_s (show impl_FormatInt_m x0 = (itoaB x0) from rfl), hm.below⟩)
theorem impl_FormatInt_sz (x : Int) (h : -9223372036854775808 ≤ x ∧ x ≤ 9223372036854775807) : (impl_FormatInt_m x).size ≤ 21 := itoaB_sz x h

def impl_numbersText_b1 (x0 : (List Int)) (k8 : Nat) (d9 : (List ByteArray)) : ByteArray ⊕ ((List ByteArray)) :=
 Sum.inr (d9 ++ [(impl_FormatInt_m (gt x0 k8))])
def impl_numbersText_m (x0 : (List Int)) : ByteArray :=
 Sum.elim id (fun (s : (List ByteArray)) => (joinB s (sB [44]))) (rng (R := ByteArray) (fun k (s : (List ByteArray)) => impl_numbersText_b1 x0 k s) (x0.length - 0) 0 [])
theorem cb85 : Cb Tryd.prog 85 := ⟨f85, _, func85, rfl, by decide⟩
theorem impl_numbersText_c (w : World) (z0 : Value) (x0 : (List Int)) (r_0 : rdS tInt w w.heap.size z0 x0) (hv : x0.length = 3 ∧ ∀ k, k < 3 → 0 ≤ gt x0 k ∧ gt x0 k ≤ 99) (hT : TabOK w.heap.size w) :
  Calls Tryd.prog 85 #[z0] w fun e w' => e = .returned (.string (impl_numbersText_m x0)) ∧ Below w.heap.size w w' := by
 obtain ⟨m1, A2, c3, rfl, q4, r5⟩ := rdS_op r_0
 refine ce1 (L := [(0, .slice A2 x0.length c3)]) (N := 21) func85 ?_
 refine sr (wa (nt' (sr ?_)))
 refine WM_build0 (E := tStr) underlying80 type9 (Wd_none rfl) (by decide) (fun p6 => ?_)
 refine wa (nt' (CM_seq (sr (wm ?_))))
 refine wv (vlen underlying28) ?_
 refine wm (nt' (CM_block ?_))
 let F1 := fun k (s : (List ByteArray)) => impl_numbersText_b1 x0 k s
 let R2 := rng (R := ByteArray) F1
 refine CM_loop (σ := Nat × ((List ByteArray)) × (Option Addr × Nat)) (fun s => [(3, .slice s.2.2.1 s.2.1.length s.2.2.2), (7, .slice A2 x0.length c3), (8, .int .i64 ((x0.length : Nat) : Int)), (9, .int .i64 ((s.1 : Nat) : Int))]) (fun s => [iOwn (tSl tStr 9) [.slice s.2.2.1 s.2.1.length s.2.2.2] s.2.1]) (fun s => s.1 ≤ x0.length ∧ R2 (x0.length - s.1) s.1 s.2.1 = R2 (x0.length - 0) 0 [] ∧ s.2.1.length ≤ 0 + s.1 ∧ s.2.1.length = s.1 ∧ ∀ z ∈ s.2.1, z.size ≤ 1000) (fun s => x0.length - s.1) (0, [], ((some ⟨p6, 0, none⟩), 0)) sl4 (fun W hm => hm) ⟨(by omega), rfl, Nat.le_refl _, rfl, (by intro z hz; cases hz)⟩ ?_
 rintro ⟨k8, d9, ⟨A10, c11⟩⟩ H14
 obtain ⟨hk12, hF13, hi15, hi16, hi17⟩ : k8 ≤ x0.length ∧ R2 (x0.length - k8) k8 d9 = R2 (x0.length - 0) 0 [] ∧ d9.length ≤ 0 + k8 ∧ d9.length = k8 ∧ ∀ z ∈ d9, z.size ≤ 1000 := H14
 show CM Tryd.prog 21 _ _ _ _ [(3, .slice A10 d9.length c11), (7, .slice A2 x0.length c3), (8, .int .i64 ((x0.length : Nat) : Int)), (9, .int .i64 ((k8 : Nat) : Int))] [iOwn (tSl tStr 9) [.slice A10 d9.length c11] d9]
 refine sr ?_
 refine wv vlss ?_
 refine nt' (CM_seq ?_)
 by_cases hl18 : k8 < x0.length
 ·have g19 := dlT hl18
  have hvk := hv.2 k8 (by omega)
  refine CM_condT rfl g19 ?_
  refine CM_skip (QM_then (CM_seq (CM_block (sr ?_))))
  obtain ⟨a20, rfl, hb21, he22⟩ := q4 (by omega)
  refine wv (vix 1 k8 underlying28 type3) ?_
  refine wv (fun W hm => rv_load underlying3 rfl rfl ((hm.cell0 (show (a20.add (k8 * 1)).block < w.heap.size from by rw [add_block]; exact hb21.1)).trans (rdS_int he22 k8 (by omega)))) ?_
  refine wa (nt' (CM_region (wm (wm ?_))))
  refine wcv (cl_fn cb52 rfl) (fun W hm => impl_FormatInt_c W (gt x0 k8) (⟨by omega, by omega⟩) (hT.mem hm)) ?_
  have hz23 := impl_FormatInt_sz (gt x0 k8) (by omega)
  refine WM_build (cs := [.string (impl_FormatInt_m (gt x0 k8))]) underlying80 type9 rfl (by decide) (by decide) rfl (by kernel_rfl) (Wd_none rfl) (by decide) (fun p24 => ?_)
  refine ap1 tStr 9 (.slice A10 d9.length c11) d9 (impl_FormatInt_m (gt x0 k8)) [] [] [.string (impl_FormatInt_m (gt x0 k8))] (fun W hm => hm) (fun _ _ hs => by cases (Sep.nil hs); exact (els_cons (tStr_own (by omega)) els_nil)) underlying80 type9 (show (d9.length + 1) * 16 ≤ 140737488355328 from by omega) (fun v25 => ?_)
  refine WM_form (n := 0) rfl ?_
  rintro A26 c27 rfl m28
  refine wa (WM_nil (QM_block_normal (QM_then (CM_region ?_))))
  refine wv (vadN k8 1 (by omega)) ?_
  refine wm (WM_nil ?_)
  have hn30 := rng_next (R := ByteArray) (body := F1) (k := k8) (s := d9) (s' := (d9 ++ [(impl_FormatInt_m (gt x0 k8))])) (show k8 < x0.length from by omega) (rfl) hF13
  exact QM_round (k8 + 1, (d9 ++ [(impl_FormatInt_m (gt x0 k8))]), (A26, c27)) sl4 (fun W hm => hm) ⟨(by omega), hn30, (show (d9 ++ [(impl_FormatInt_m (gt x0 k8))]).length ≤ 0 + (k8 + 1) from by first | omega | (simp only [List.length_append, List.length_cons, List.length_nil] at *; omega)), (show (d9 ++ [(impl_FormatInt_m (gt x0 k8))]).length = (k8 + 1) from by rw [List.length_append]; show _ + 1 = _; omega), (show ∀ z ∈ (d9 ++ [(impl_FormatInt_m (gt x0 k8))]), z.size ≤ 1000 from by intro z hz; rcases List.mem_append.1 hz with hz | hz; exact hi17 z hz; rw [List.mem_singleton.1 hz]; exact Nat.le_trans (impl_FormatInt_sz _ (by omega)) (by decide))⟩ (rl (by omega))
 ·have g19 := dlF hl18
  refine CM_condF rfl g19 ?_
  refine CM_exit (QM_then_exit (QM_then_exit ?_))
  have hE31 : R2 (x0.length - 0) 0 [] = Sum.inr d9 := rng_end hl18 hF13
  refine QM_block_hit (QM_then (sr (wm ?_)))
  refine WM_formO (n := 0) rfl (by omega) ?_
  rintro g32 rfl
  have hz34 : ByteArray.size (sB [44]) = 1 := rfl
  refine wcv (cl_fn ⟨f51, _, func51, rfl, by decide⟩ rfl) (fun W hm => join_c W g32 _ d9 (sB [44]) (hm.rdSI (n := 0) rfl) (show 1 ≤ List.length d9 ∧ List.length d9 ≤ 1000 from by omega) (by assumption) (by omega)) ?_
  have hz35 := joinB_sz (show 1 ≤ List.length d9 ∧ List.length d9 ≤ 1000 from by omega).2 (by assumption) (show ByteArray.size (sB [44]) ≤ 1000 by omega)
  refine wa (nt' (CM_ret ?_))
  exact QM_ret1 rfl rfl (fun W hm => ⟨ret_s (show impl_numbersText_m x0 = (joinB d9 (sB [44])) from fin_inr hE31 (rfl)), hm.below⟩)

theorem IsRow_same (x : DRow) : impl_IsRow_m x = spec_IsRow_m x := rfl
theorem impl_Row_rng {x : DRow} (h : impl_IsRow_m x = true) : (0 ≤ x.Id ∧ x.Id ≤ 999) ∧ x.Values.length = 3 ∧ ∀ k, k < 3 → 0 ≤ gt x.Values k ∧ gt x.Values k ≤ 99 := spec_Row_rng ((IsRow_same x).symm.trans h)
theorem impl_numbersText_fold (x : List Int) : impl_numbersText_m x = joinB (x.map impl_FormatInt_m) (sB [44]) := by
  unfold impl_numbersText_m
  rw [rng_fold (xs := x) (f := fun d n => d ++ [impl_FormatInt_m n]) (b := fun k s => impl_numbersText_b1 x k s) (fun j s _ => rfl)]
  show joinB (List.foldl _ [] x) _ = _
  have h := foldl_filterMap (fun _ => true) impl_FormatInt_m x []
  have e : List.foldl (fun d n => d ++ [impl_FormatInt_m n]) [] x = x.map impl_FormatInt_m := by
    have h2 : List.filter (fun _ : Int => true) x = x := List.filter_eq_self.2 fun _ _ => rfl
    rw [h2] at h
    exact h
  rw [e]
theorem impl_numbersText_sz (x : List Int) (hv : x.length = 3 ∧ ∀ k, k < 3 → 0 ≤ gt x k ∧ gt x k ≤ 99) : (impl_numbersText_m x).size ≤ 2000000 := by
  rw [impl_numbersText_fold]
  refine joinB_sz (by rw [List.length_map]; omega) (fun z hz => ?_) (by decide)
  obtain ⟨n, hn, rfl⟩ := List.mem_map.1 hz
  obtain ⟨i, hi, rfl⟩ := List.mem_iff_getElem.1 hn
  have := hv.2 i (by omega)
  rw [gt_at hi] at this
  have h2 := impl_FormatInt_sz x[i] (by omega)
  omega
def impl_FormatRow_m (x0 : DRow) : ByteArray :=
 cond (impl_IsRow_m x0) (((impl_FormatInt_m x0.Id) ++ (sB [58])) ++ (impl_numbersText_m x0.Values)) (sB [])
theorem cb61 : Cb Tryd.prog 61 := ⟨f61, _, func61, rfl, by decide⟩
theorem impl_FormatRow_c (w : World) (z0 : List Value) (x0 : DRow) (r_0 : tyRow.rd w w.heap.size z0 x0) (hT : TabOK w.heap.size w) :
  Calls Tryd.prog 61 #[.agg z0.toArray] w fun e w' => e = .returned (.string (impl_FormatRow_m x0)) ∧ Below w.heap.size w w' := by
 obtain ⟨v1, rfl, r2⟩ := tyRow_rd r_0
 obtain ⟨m3, A4, c5, rfl, q6, r7⟩ := rdS_op r2
 refine ce1 (L := [(0, .agg #[.int .i64 x0.Id, .slice A4 x0.Values.length c5])]) (N := 14) func61 ?_
 refine sr ?_
 refine WM_box rfl (Wd_none rfl) (by decide) (fun p8 => ?_)
 refine wa (nt' (CM_seq (sr ?_)))
 refine wv (fun W hm => rv_loadN (cs := [.int .i64 x0.Id, .slice A4 x0.Values.length c5]) underlying43 type43 rfl rfl (hm.boxCells (n := 0) rfl)) ?_
 refine wcv (cl_fn cb72 rfl) (fun W hm => impl_IsRow_c W _ x0 (tyRow_mk (x := x0) (hm.rdS0 r7))) ?_
 refine wv vnot ?_
 refine nt' ?_
 rcases Bool.eq_false_or_eq_true (impl_IsRow_m x0) with g10 | g10
 ·
  have hrw := impl_Row_rng g10
  refine CM_condF rfl (nt g10) ?_
  refine CM_skip (QM_then (CM_seq ?_))
  refine CM_regionD (by kernel_rfl) (by kernel_rfl) ?_
  refine qv (vf underlying43 rfl type3) ?_
  refine qv (vl 0 0 underlying3) ?_
  refine QR_callV (cl_fn cb52 rfl) (fun W hm => impl_FormatInt_c W x0.Id (⟨by omega, by omega⟩) (hT.mem hm)) (Wd_none rfl) (by decide) ?_
  have hz11 := impl_FormatInt_sz x0.Id (by omega)
  have hz12 : ByteArray.size (sB [58]) = 1 := rfl
  refine qv (fun W hm => rv_addS (p := (impl_FormatInt_m x0.Id)) (q := (sB [58])) rfl rfl (by omega)) ?_
  have hz13 := sz_app (impl_FormatInt_m x0.Id) (sB [58])
  refine qv (vf underlying43 rfl type28) ?_
  refine qv (vl 0 1 underlying28) ?_
  refine QR_callV (cl_fn cb85 rfl) (fun W hm => impl_numbersText_c W _ x0.Values (hm.rdS0 r7) (hrw.2) (hT.mem hm)) (Wd_none rfl) (by decide) ?_
  have hzn := impl_numbersText_sz x0.Values hrw.2
  refine qv (fun W hm => rv_addS (p := ((impl_FormatInt_m x0.Id) ++ (sB [58]))) (q := (impl_numbersText_m x0.Values)) rfl rfl (by omega)) ?_
  have hz14 := sz_app ((impl_FormatInt_m x0.Id) ++ (sB [58])) (impl_numbersText_m x0.Values)
  refine qv (fun W hm => rv_assign rfl) ?_
  refine nq' (CM_ret ?_)
  exact QM_ret1 rfl rfl (fun W hm => ⟨ret_s (show impl_FormatRow_m x0 = (((impl_FormatInt_m x0.Id) ++ (sB [58])) ++ (impl_numbersText_m x0.Values)) from cond_t g10 (rfl)), hm.below⟩)
 ·
  refine CM_condT rfl (nf g10) ?_
  refine sr (wa (nt' (CM_ret (QM_then_ret ?_))))
  exact QM_ret1 rfl rfl (fun W hm => ⟨ret_s (show impl_FormatRow_m x0 = (sB []) from cond_f g10 (rfl)), hm.below⟩)
theorem impl_FormatRow_sz (x : DRow) : (impl_FormatRow_m x).size ≤ 3000000 := by
  unfold impl_FormatRow_m
  cases h : impl_IsRow_m x with
  | false => exact Nat.zero_le _
  | true =>
    have hr := impl_Row_rng h
    have h1 := impl_FormatInt_sz x.Id (by omega)
    have h2 := impl_numbersText_sz x.Values hr.2
    have h58 : ByteArray.size (sB [58]) = 1 := rfl
    rw [cond_true, sz_app, sz_app]
    omega

theorem within_same (x a b : Int) : impl_within_m x a b = spec_l1In_m x a b := rfl
theorem isField_same (x : Int) : impl_isField_m x = spec_l1In_m x 0 2 := rfl
theorem IsUpdate_same (x : DUpdate) : impl_IsUpdate_m x = spec_IsUpdate_m x := by
  unfold impl_IsUpdate_m spec_IsUpdate_m
  rw [IsRow_same, within_same, within_same, isField_same]
  cases spec_l1In_m x.Row.Id 0 999 <;> cases h1 : x.Kind == 1 <;> cases x.Kind == 2 <;> cases x.Kind == 3 <;> cases spec_IsRow_m x.Row <;> cases (((x.Row.Values.length : Nat) : Int) == 0) <;> rfl
theorem impl_Update_rng {x : DUpdate} (h : impl_IsUpdate_m x = true) : (0 ≤ x.Row.Id ∧ x.Row.Id ≤ 999) ∧ (0 ≤ x.Field ∧ x.Field ≤ 2) ∧ (0 ≤ x.Value ∧ x.Value ≤ 99) := spec_Update_rng ((IsUpdate_same x).symm.trans h)
def impl_FormatUpdate_m (x0 : DUpdate) : ByteArray :=
 cond (impl_IsUpdate_m x0) (cond (x0.Kind == 1) ((sB [105, 110, 115, 101, 114, 116, 32]) ++ (impl_FormatRow_m x0.Row)) (cond (x0.Kind == 2) ((sB [100, 101, 108, 101, 116, 101, 32]) ++ (impl_FormatInt_m x0.Row.Id)) ((((((sB [115, 101, 116, 32]) ++ (impl_FormatInt_m x0.Row.Id)) ++ (sB [32, 102])) ++ (impl_FormatInt_m x0.Field)) ++ (sB [32])) ++ (impl_FormatInt_m x0.Value)))) (sB [])
theorem cb19 : Cb Tryd.prog 19 := ⟨f19, _, func19, rfl, by decide⟩
theorem impl_FormatUpdate_c (w : World) (z0 : List Value) (x0 : DUpdate) (r_0 : tyUpdate.rd w w.heap.size z0 x0) (hT : TabOK w.heap.size w) :
  Calls Tryd.prog 19 #[.agg z0.toArray] w fun e w' => e = .returned (.string (impl_FormatUpdate_m x0)) ∧ Below w.heap.size w w' := by
 obtain ⟨v1, rfl, r2⟩ := tyUpdate_rd r_0
 obtain ⟨m3, A4, c5, rfl, q6, r7⟩ := rdS_op r2
 refine ce1 (L := [(0, .agg #[.int .i64 x0.Kind, .int .i64 x0.Row.Id, .slice A4 x0.Row.Values.length c5, .int .i64 x0.Field, .int .i64 x0.Value])]) (N := 36) func19 ?_
 refine sr ?_
 refine WM_box rfl (Wd_none rfl) (by decide) (fun p8 => ?_)
 refine wa (nt' (CM_seq (sr ?_)))
 refine wv (fun W hm => rv_loadN (cs := [.int .i64 x0.Kind, .int .i64 x0.Row.Id, .slice A4 x0.Row.Values.length c5, .int .i64 x0.Field, .int .i64 x0.Value]) underlying45 type45 rfl rfl (hm.boxCells (n := 0) rfl)) ?_
 refine wcv (cl_fn cb60 rfl) (fun W hm => impl_IsUpdate_c W _ x0 (tyUpdate_mk (x := x0) (hm.rdS0 r7))) ?_
 refine wv vnot ?_
 refine nt' ?_
 rcases Bool.eq_false_or_eq_true (impl_IsUpdate_m x0) with g10 | g10
 ·
  have hup := impl_Update_rng g10
  refine CM_condF rfl (nt g10) ?_
  refine CM_skip (QM_then (CM_seq (sr ?_)))
  refine wv (vf underlying45 rfl type3) ?_
  refine wv (vl 0 0 underlying3) ?_
  refine nt' (CM_block (sr ?_))
  refine wv (fun W hm => rv_eql rfl rfl) ?_
  refine wa (nt' ?_)
  by_cases h11 : x0.Kind = 1
  ·have g12 := beq_iff_eq.2 h11
   refine CM_condT rfl g12 ?_
   refine sr ?_
   refine wv (vf underlying45 rfl type43) ?_
   refine wv (fun W hm => rv_loadN (cs := [.int .i64 x0.Row.Id, .slice A4 x0.Row.Values.length c5]) underlying43 type43 rfl rfl (hm.boxPart (n := 0) rfl rfl)) ?_
   refine wcv (cl_fn cb61 rfl) (fun W hm => impl_FormatRow_c W _ x0.Row (tyRow_mk (x := x0.Row) (hm.rdS0 r7)) (hT.mem hm)) ?_
   have hzr := impl_FormatRow_sz x0.Row
   have hz13 : ByteArray.size (sB [105, 110, 115, 101, 114, 116, 32]) = 7 := rfl
   refine wv (fun W hm => rv_addS (p := (sB [105, 110, 115, 101, 114, 116, 32])) (q := (impl_FormatRow_m x0.Row)) rfl rfl (by omega)) ?_
   have hz14 := sz_app (sB [105, 110, 115, 101, 114, 116, 32]) (impl_FormatRow_m x0.Row)
   refine wa (nt' (CM_ret (QM_block_ret (QM_then_ret ?_))))
   exact QM_ret1 rfl rfl (fun W hm => ⟨ret_s (show impl_FormatUpdate_m x0 = ((sB [105, 110, 115, 101, 114, 116, 32]) ++ (impl_FormatRow_m x0.Row)) from cond_t g10 (cond_t g12 (rfl))), hm.below⟩)
  ·have g12 := beq_eq_false_iff_ne.2 h11
   refine CM_condF rfl g12 ?_
   refine sr ?_
   refine wv (fun W hm => rv_eql rfl rfl) ?_
   refine wa (nt' ?_)
   by_cases h15 : x0.Kind = 2
   ·have g16 := beq_iff_eq.2 h15
    refine CM_condT rfl g16 ?_
    refine sr ?_
    refine wv (vf underlying45 rfl type43) ?_
    refine wv (fun W hm => rv_fieldA (o := 1) underlying43 rfl type3 (by decide) rfl rfl) ?_
    refine wv (vl 0 1 underlying3) ?_
    refine wcv (cl_fn cb52 rfl) (fun W hm => impl_FormatInt_c W x0.Row.Id (⟨by omega, by omega⟩) (hT.mem hm)) ?_
    have hz17 := impl_FormatInt_sz x0.Row.Id (by omega)
    have hz18 : ByteArray.size (sB [100, 101, 108, 101, 116, 101, 32]) = 7 := rfl
    refine wv (fun W hm => rv_addS (p := (sB [100, 101, 108, 101, 116, 101, 32])) (q := (impl_FormatInt_m x0.Row.Id)) rfl rfl (by omega)) ?_
    have hz19 := sz_app (sB [100, 101, 108, 101, 116, 101, 32]) (impl_FormatInt_m x0.Row.Id)
    refine wa (nt' (CM_ret (QM_block_ret (QM_then_ret ?_))))
    exact QM_ret1 rfl rfl (fun W hm => ⟨ret_s (show impl_FormatUpdate_m x0 = ((sB [100, 101, 108, 101, 116, 101, 32]) ++ (impl_FormatInt_m x0.Row.Id)) from cond_t g10 (cond_f g12 (cond_t g16 (rfl)))), hm.below⟩)
   ·have g16 := beq_eq_false_iff_ne.2 h15
    refine CM_condF rfl g16 ?_
    refine CM_skip (QM_block_normal (QM_then (CM_seq ?_)))
    refine CM_regionD (by kernel_rfl) (by kernel_rfl) ?_
    refine qv (vf underlying45 rfl type43) ?_
    refine qv (fun W hm => rv_fieldA (o := 1) underlying43 rfl type3 (by decide) rfl rfl) ?_
    refine qv (vl 0 1 underlying3) ?_
    refine QR_callV (cl_fn cb52 rfl) (fun W hm => impl_FormatInt_c W x0.Row.Id (⟨by omega, by omega⟩) (hT.mem hm)) (Wd_none rfl) (by decide) ?_
    have hz20 := impl_FormatInt_sz x0.Row.Id (by omega)
    have hz21 : ByteArray.size (sB [115, 101, 116, 32]) = 4 := rfl
    refine qv (fun W hm => rv_addS (p := (sB [115, 101, 116, 32])) (q := (impl_FormatInt_m x0.Row.Id)) rfl rfl (by omega)) ?_
    have hz22 := sz_app (sB [115, 101, 116, 32]) (impl_FormatInt_m x0.Row.Id)
    have hz23 : ByteArray.size (sB [32, 102]) = 2 := rfl
    refine qv (fun W hm => rv_addS (p := ((sB [115, 101, 116, 32]) ++ (impl_FormatInt_m x0.Row.Id))) (q := (sB [32, 102])) rfl rfl (by omega)) ?_
    have hz24 := sz_app ((sB [115, 101, 116, 32]) ++ (impl_FormatInt_m x0.Row.Id)) (sB [32, 102])
    refine qv (vf underlying45 rfl type3) ?_
    refine qv (vl 0 3 underlying3) ?_
    refine QR_callV (cl_fn cb52 rfl) (fun W hm => impl_FormatInt_c W x0.Field (⟨by omega, by omega⟩) (hT.mem hm)) (Wd_none rfl) (by decide) ?_
    have hz25 := impl_FormatInt_sz x0.Field (by omega)
    refine qv (fun W hm => rv_addS (p := (((sB [115, 101, 116, 32]) ++ (impl_FormatInt_m x0.Row.Id)) ++ (sB [32, 102]))) (q := (impl_FormatInt_m x0.Field)) rfl rfl (by omega)) ?_
    have hz26 := sz_app (((sB [115, 101, 116, 32]) ++ (impl_FormatInt_m x0.Row.Id)) ++ (sB [32, 102])) (impl_FormatInt_m x0.Field)
    have hz27 : ByteArray.size (sB [32]) = 1 := rfl
    refine qv (fun W hm => rv_addS (p := ((((sB [115, 101, 116, 32]) ++ (impl_FormatInt_m x0.Row.Id)) ++ (sB [32, 102])) ++ (impl_FormatInt_m x0.Field))) (q := (sB [32])) rfl rfl (by omega)) ?_
    have hz28 := sz_app ((((sB [115, 101, 116, 32]) ++ (impl_FormatInt_m x0.Row.Id)) ++ (sB [32, 102])) ++ (impl_FormatInt_m x0.Field)) (sB [32])
    refine qv (vf underlying45 rfl type3) ?_
    refine qv (vl 0 4 underlying3) ?_
    refine QR_callV (cl_fn cb52 rfl) (fun W hm => impl_FormatInt_c W x0.Value (⟨by omega, by omega⟩) (hT.mem hm)) (Wd_none rfl) (by decide) ?_
    have hz29 := impl_FormatInt_sz x0.Value (by omega)
    refine qv (fun W hm => rv_addS (p := (((((sB [115, 101, 116, 32]) ++ (impl_FormatInt_m x0.Row.Id)) ++ (sB [32, 102])) ++ (impl_FormatInt_m x0.Field)) ++ (sB [32]))) (q := (impl_FormatInt_m x0.Value)) rfl rfl (by omega)) ?_
    have hz30 := sz_app (((((sB [115, 101, 116, 32]) ++ (impl_FormatInt_m x0.Row.Id)) ++ (sB [32, 102])) ++ (impl_FormatInt_m x0.Field)) ++ (sB [32])) (impl_FormatInt_m x0.Value)
    refine qv (fun W hm => rv_assign rfl) ?_
    refine nq' (CM_ret ?_)
    exact QM_ret1 rfl rfl (fun W hm => ⟨ret_s (show impl_FormatUpdate_m x0 = ((((((sB [115, 101, 116, 32]) ++ (impl_FormatInt_m x0.Row.Id)) ++ (sB [32, 102])) ++ (impl_FormatInt_m x0.Field)) ++ (sB [32])) ++ (impl_FormatInt_m x0.Value)) from cond_t g10 (cond_f g12 (cond_f g16 (rfl)))), hm.below⟩)
 ·
  refine CM_condT rfl (nf g10) ?_
  refine sr (wa (nt' (CM_ret (QM_then_ret ?_))))
  exact QM_ret1 rfl rfl (fun W hm => ⟨ret_s (show impl_FormatUpdate_m x0 = (sB []) from cond_f g10 (rfl)), hm.below⟩)

def laws_eqIntS_b1 (x0 : (List Int)) (x1 : (List Int)) (k13 : Nat) : Bool ⊕ (Unit) :=
 cond ((gt x0 k13) != (gt x1 k13)) (Sum.inl false) (Sum.inr ())
def laws_eqIntS_m (x0 : (List Int)) (x1 : (List Int)) : Bool :=
 cond (((x0.length : Nat) : Int) != ((x1.length : Nat) : Int)) false (Sum.elim id (fun (s : Unit) => true) (rng (R := Bool) (fun k (_ : Unit) => laws_eqIntS_b1 x0 x1 k) (x0.length - 0) 0 ()))
theorem cb55 : Cb Tryd.prog 55 := ⟨f55, _, func55, rfl, by decide⟩
theorem laws_eqIntS_c (w : World) (z0 : Value) (x0 : (List Int)) (z1 : Value) (x1 : (List Int)) (r_0 : rdS tInt w w.heap.size z0 x0) (r_1 : rdS tInt w w.heap.size z1 x1) :
  Calls Tryd.prog 55 #[z0, z1] w fun e w' => e = .returned (.bool (laws_eqIntS_m x0 x1)) ∧ Below w.heap.size w w' := by
 obtain ⟨m1, A2, c3, rfl, q4, r5⟩ := rdS_op r_0
 obtain ⟨m6, A7, c8, rfl, q9, r10⟩ := rdS_op r_1
 refine ce2 (L := [(0, .slice A2 x0.length c3), (1, .slice A7 x1.length c8)]) (N := 26) func55 ?_
 refine sr (wa (nt' (CM_seq (sr (wm ?_)))))
 refine wv (vlen underlying28) ?_
 refine wm ?_
 refine wv (vlen underlying28) ?_
 refine wv vneq ?_
 refine nt' ?_
 by_cases h11 : ((x0.length : Nat) : Int) = ((x1.length : Nat) : Int)
 ·have g12 : (((x0.length : Nat) : Int) != ((x1.length : Nat) : Int)) = false := by rw [h11]; exact bne_self_eq_false _
  refine CM_condF rfl g12 ?_
  refine CM_skip (QM_then (CM_seq (sr (wa (nt' (CM_block ?_))))))
  let F1 := fun k (_ : Unit) => laws_eqIntS_b1 x0 x1 k
  let R2 := rng (R := Bool) F1
  refine CM_loop (σ := Nat × (Unit) × (Unit)) (fun s => [(0, .slice A2 x0.length c3), (1, .slice A7 x1.length c8), (5, .int .i64 ((s.1 : Nat) : Int))]) (fun s => []) (fun s => s.1 ≤ x0.length ∧ R2 (x0.length - s.1) s.1 s.2.1 = R2 (x0.length - 0) 0 ()) (fun s => x0.length - s.1) (0, (), ()) sl3 (fun W hm => hm) ⟨(by omega), rfl⟩ ?_
  rintro ⟨k13, ⟨⟩, ⟨⟩⟩ H16
  obtain ⟨hk14, hF15⟩ : k13 ≤ x0.length ∧ R2 (x0.length - k13) k13 () = R2 (x0.length - 0) 0 () := H16
  show CM Tryd.prog 26 _ _ _ _ [(0, .slice A2 x0.length c3), (1, .slice A7 x1.length c8), (5, .int .i64 ((k13 : Nat) : Int))] []
  refine CM_seq (sr (wm (wm ?_)))
  refine wv (vlen underlying28) ?_
  refine wv vlss ?_
  refine nt' ?_
  by_cases hl17 : k13 < x0.length
  ·have g18 := dlT hl17
   refine CM_condT rfl g18 ?_
   refine CM_skip (QM_then (CM_seq (CM_block (CM_seq ?_))))
   refine CM_regionD (by kernel_rfl) (by kernel_rfl) ?_
   refine qm (qm ?_)
   obtain ⟨a19, rfl, hb20, he21⟩ := q4 (by omega)
   refine qv (vix 1 k13 underlying28 type3) ?_
   refine qv (fun W hm => rv_load underlying3 rfl rfl ((hm.cell0 (show (a19.add (k13 * 1)).block < w.heap.size from by rw [add_block]; exact hb20.1)).trans (rdS_int he21 k13 (by omega)))) ?_
   refine qm (qm ?_)
   obtain ⟨a22, rfl, hb23, he24⟩ := q9 (by omega)
   refine qv (vix 1 k13 underlying28 type3) ?_
   refine qv (fun W hm => rv_load underlying3 rfl rfl ((hm.cell0 (show (a22.add (k13 * 1)).block < w.heap.size from by rw [add_block]; exact hb23.1)).trans (rdS_int he24 k13 (by omega)))) ?_
   refine qv vneq ?_
   refine nq' ?_
   by_cases h25 : (gt x0 k13) = (gt x1 k13)
   ·have g26 : ((gt x0 k13) != (gt x1 k13)) = false := by rw [h25]; exact bne_self_eq_false _
    refine CM_condF rfl g26 ?_
    refine CM_skip (QM_block_normal (QM_then (CM_region (wm ?_))))
    refine wv (vadN k13 1 (by omega)) ?_
    refine wa (WM_nil ?_)
    have hn27 := rng_next (R := Bool) (body := F1) (k := k13) (s := ()) (s' := ()) (show k13 < x0.length from by omega) (cond_f g26 (rfl)) hF15
    exact QM_round (k13 + 1, (), ()) sl3 (fun W hm => hm) ⟨(by omega), hn27⟩ (rl (by omega))
   ·have g26 : ((gt x0 k13) != (gt x1 k13)) = true := bne_iff_ne.2 h25
    refine CM_condT rfl g26 ?_
    refine sr (wa (nt' (CM_ret (QM_block_ret (QM_then_ret (QM_then_ret (QM_block_ret (QM_then_ret ?_))))))))
    exact rtb (h := cond_f g12 (fin_inl (rng_ret (body := F1) (k := k13) (s := ()) (show k13 < x0.length from by omega) (cond_t g26 (rfl)) hF15) rfl))
  ·have g18 := dlF hl17
   refine CM_condF rfl g18 ?_
   refine CM_exit (QM_then_exit (QM_then_exit ?_))
   have hE28 : R2 (x0.length - 0) 0 () = Sum.inr () := rng_end hl17 hF15
   refine QM_block_hit (QM_then (sr (wa (nt' (CM_ret ?_)))))
   exact rtb (h := cond_f g12 (fin_inr hE28 (rfl)))
 ·have g12 : (((x0.length : Nat) : Int) != ((x1.length : Nat) : Int)) = true := bne_iff_ne.2 h11
  refine CM_condT rfl g12 ?_
  refine sr (wa (nt' (CM_ret (QM_then_ret ?_))))
  exact rtb (h := cond_t g12 (rfl))

def laws_eqRow_m (x0 : DRow) (x1 : DRow) : Bool :=
 cond (x0.Id != x1.Id) false (cond (laws_eqIntS_m x0.Values x1.Values) true false)
theorem cb62 : Cb Tryd.prog 62 := ⟨f62, _, func62, rfl, by decide⟩
theorem laws_eqRow_c (w : World) (z0 : List Value) (x0 : DRow) (z1 : List Value) (x1 : DRow) (r_0 : tyRow.rd w w.heap.size z0 x0) (r_1 : tyRow.rd w w.heap.size z1 x1) :
  Calls Tryd.prog 62 #[.agg z0.toArray, .agg z1.toArray] w fun e w' => e = .returned (.bool (laws_eqRow_m x0 x1)) ∧ Below w.heap.size w w' := by
 obtain ⟨v1, rfl, r2⟩ := tyRow_rd r_0
 obtain ⟨m3, A4, c5, rfl, q6, r7⟩ := rdS_op r2
 obtain ⟨v8, rfl, r9⟩ := tyRow_rd r_1
 obtain ⟨m10, A11, c12, rfl, q13, r14⟩ := rdS_op r9
 refine ce2 (L := [(0, .agg #[.int .i64 x0.Id, .slice A4 x0.Values.length c5]), (1, .agg #[.int .i64 x1.Id, .slice A11 x1.Values.length c12])]) (N := 16) func62 ?_
 refine sr ?_
 refine WM_box rfl (Wd_none rfl) (by decide) (fun p15 => ?_)
 refine WM_box rfl (Wd_none rfl) (by decide) (fun p16 => ?_)
 refine wa (nt' (CM_seq (sr ?_)))
 refine wv (vf underlying43 rfl type3) ?_
 refine wv (vl 1 0 underlying3) ?_
 refine wv (vf underlying43 rfl type3) ?_
 refine wv (vl 0 0 underlying3) ?_
 refine wv vneq ?_
 refine nt' ?_
 by_cases h17 : x0.Id = x1.Id
 ·have g18 : (x0.Id != x1.Id) = false := by rw [h17]; exact bne_self_eq_false _
  refine CM_condF rfl g18 ?_
  refine CM_skip (QM_then (CM_seq (sr ?_)))
  refine wv (vf underlying43 rfl type28) ?_
  refine wv (vl 1 1 underlying28) ?_
  refine wv (vf underlying43 rfl type28) ?_
  refine wv (vl 0 1 underlying28) ?_
  refine wcv (cl_fn cb55 rfl) (fun W hm => laws_eqIntS_c W _ x0.Values _ x1.Values (hm.rdS0 r7) (hm.rdS0 r14)) ?_
  refine wv vnot ?_
  refine nt' ?_
  rcases Bool.eq_false_or_eq_true (laws_eqIntS_m x0.Values x1.Values) with g20 | g20
  ·
   refine CM_condF rfl (nt g20) ?_
   refine CM_skip (QM_then (sr (wa (nt' (CM_ret ?_)))))
   exact rtb (h := cond_f g18 (cond_t g20 (rfl)))
  ·
   refine CM_condT rfl (nf g20) ?_
   refine sr (wa (nt' (CM_ret (QM_then_ret ?_))))
   exact rtb (h := cond_f g18 (cond_f g20 (rfl)))
 ·have g18 : (x0.Id != x1.Id) = true := bne_iff_ne.2 h17
  refine CM_condT rfl g18 ?_
  refine sr (wa (nt' (CM_ret (QM_then_ret ?_))))
  exact rtb (h := cond_t g18 (rfl))

def laws_eqUpdate_m (x0 : DUpdate) (x1 : DUpdate) : Bool :=
 cond (x0.Kind != x1.Kind) false (cond (laws_eqRow_m x0.Row x1.Row) (cond (x0.Field != x1.Field) false (cond (x0.Value != x1.Value) false true)) false)
theorem cb20 : Cb Tryd.prog 20 := ⟨f20, _, func20, rfl, by decide⟩
theorem laws_eqUpdate_c (w : World) (z0 : List Value) (x0 : DUpdate) (z1 : List Value) (x1 : DUpdate) (r_0 : tyUpdate.rd w w.heap.size z0 x0) (r_1 : tyUpdate.rd w w.heap.size z1 x1) :
  Calls Tryd.prog 20 #[.agg z0.toArray, .agg z1.toArray] w fun e w' => e = .returned (.bool (laws_eqUpdate_m x0 x1)) ∧ Below w.heap.size w w' := by
 obtain ⟨v1, rfl, r2⟩ := tyUpdate_rd r_0
 obtain ⟨m3, A4, c5, rfl, q6, r7⟩ := rdS_op r2
 obtain ⟨v8, rfl, r9⟩ := tyUpdate_rd r_1
 obtain ⟨m10, A11, c12, rfl, q13, r14⟩ := rdS_op r9
 refine ce2 (L := [(0, .agg #[.int .i64 x0.Kind, .int .i64 x0.Row.Id, .slice A4 x0.Row.Values.length c5, .int .i64 x0.Field, .int .i64 x0.Value]), (1, .agg #[.int .i64 x1.Kind, .int .i64 x1.Row.Id, .slice A11 x1.Row.Values.length c12, .int .i64 x1.Field, .int .i64 x1.Value])]) (N := 26) func20 ?_
 refine sr ?_
 refine WM_box rfl (Wd_none rfl) (by decide) (fun p15 => ?_)
 refine WM_box rfl (Wd_none rfl) (by decide) (fun p16 => ?_)
 refine wa (nt' (CM_seq (sr ?_)))
 refine wv (vf underlying45 rfl type3) ?_
 refine wv (vl 1 0 underlying3) ?_
 refine wv (vf underlying45 rfl type3) ?_
 refine wv (vl 0 0 underlying3) ?_
 refine wv vneq ?_
 refine nt' ?_
 by_cases h17 : x0.Kind = x1.Kind
 ·have g18 : (x0.Kind != x1.Kind) = false := by rw [h17]; exact bne_self_eq_false _
  refine CM_condF rfl g18 ?_
  refine CM_skip (QM_then (CM_seq (sr ?_)))
  refine wv (vf underlying45 rfl type43) ?_
  refine wv (fun W hm => rv_loadN (cs := [.int .i64 x0.Row.Id, .slice A4 x0.Row.Values.length c5]) underlying43 type43 rfl rfl (hm.boxPart (n := 1) rfl rfl)) ?_
  refine wv (vf underlying45 rfl type43) ?_
  refine wv (fun W hm => rv_loadN (cs := [.int .i64 x1.Row.Id, .slice A11 x1.Row.Values.length c12]) underlying43 type43 rfl rfl (hm.boxPart (n := 0) rfl rfl)) ?_
  refine wcv (cl_fn cb62 rfl) (fun W hm => laws_eqRow_c W _ x0.Row _ x1.Row (tyRow_mk (x := x0.Row) (hm.rdS0 r7)) (tyRow_mk (x := x1.Row) (hm.rdS0 r14))) ?_
  refine wv vnot ?_
  refine nt' ?_
  rcases Bool.eq_false_or_eq_true (laws_eqRow_m x0.Row x1.Row) with g20 | g20
  ·
   refine CM_condF rfl (nt g20) ?_
   refine CM_skip (QM_then (CM_seq (sr ?_)))
   refine wv (vf underlying45 rfl type3) ?_
   refine wv (vl 1 3 underlying3) ?_
   refine wv (vf underlying45 rfl type3) ?_
   refine wv (vl 0 3 underlying3) ?_
   refine wv vneq ?_
   refine nt' ?_
   by_cases h21 : x0.Field = x1.Field
   ·have g22 : (x0.Field != x1.Field) = false := by rw [h21]; exact bne_self_eq_false _
    refine CM_condF rfl g22 ?_
    refine CM_skip (QM_then (CM_seq (sr ?_)))
    refine wv (vf underlying45 rfl type3) ?_
    refine wv (vl 1 4 underlying3) ?_
    refine wv (vf underlying45 rfl type3) ?_
    refine wv (vl 0 4 underlying3) ?_
    refine wv vneq ?_
    refine nt' ?_
    by_cases h23 : x0.Value = x1.Value
    ·have g24 : (x0.Value != x1.Value) = false := by rw [h23]; exact bne_self_eq_false _
     refine CM_condF rfl g24 ?_
     refine CM_skip (QM_then (sr (wa (nt' (CM_ret ?_)))))
     exact rtb (h := cond_f g18 (cond_t g20 (cond_f g22 (cond_f g24 (rfl)))))
    ·have g24 : (x0.Value != x1.Value) = true := bne_iff_ne.2 h23
     refine CM_condT rfl g24 ?_
     refine sr (wa (nt' (CM_ret (QM_then_ret ?_))))
     exact rtb (h := cond_f g18 (cond_t g20 (cond_f g22 (cond_t g24 (rfl)))))
   ·have g22 : (x0.Field != x1.Field) = true := bne_iff_ne.2 h21
    refine CM_condT rfl g22 ?_
    refine sr (wa (nt' (CM_ret (QM_then_ret ?_))))
    exact rtb (h := cond_f g18 (cond_t g20 (cond_t g22 (rfl))))
  ·
   refine CM_condT rfl (nf g20) ?_
   refine sr (wa (nt' (CM_ret (QM_then_ret ?_))))
   exact rtb (h := cond_f g18 (cond_f g20 (rfl)))
 ·have g18 : (x0.Kind != x1.Kind) = true := bne_iff_ne.2 h17
  refine CM_condT rfl g18 ?_
  refine sr (wa (nt' (CM_ret (QM_then_ret ?_))))
  exact rtb (h := cond_t g18 (rfl))

end Go.Proofs.YtcjelfdpekbbkaaDoor
