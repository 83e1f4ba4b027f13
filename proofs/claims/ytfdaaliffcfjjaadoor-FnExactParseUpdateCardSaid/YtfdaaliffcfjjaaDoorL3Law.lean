/-
  The contract of the law.
-/
import Derived.Test.YtfdaaliffcfjjaaDoorL3Pl
namespace Go.Proofs.YtfdaaliffcfjjaaDoor
open Go.RowKit
set_option maxRecDepth 100000
set_option maxHeartbeats 4000000
open _root_.Go.Proofs.Tryd
def laws_FnExactParseUpdate_m (x0 : ByteArray) : Bool :=
 cond (decide (1048576 < ((x0.size : Nat) : Int))) true (cond (laws_eqUpdate_m ((impl_ParseUpdate_m x0).1) ((spec_ParseUpdate_m x0).1)) (cond ((impl_ParseUpdate_m x0).2 != (spec_ParseUpdate_m x0).2) false (cond (decide ((laws_heldUpdate_m (⟨((impl_ParseUpdate_m x0).1).Kind, (⟨((impl_ParseUpdate_m x0).1).Row.Id, (laws_markUpdate_m ((impl_ParseUpdate_m x0).1) 1).2.Row.Values⟩ : DRow), ((impl_ParseUpdate_m x0).1).Field, ((impl_ParseUpdate_m x0).1).Value⟩ : DUpdate) 1) < 0)) false (cond ((laws_heldUpdate_m (⟨((impl_ParseUpdate_m x0).1).Kind, (⟨((impl_ParseUpdate_m x0).1).Row.Id, (laws_markUpdate_m ((impl_ParseUpdate_m x0).1) 1).2.Row.Values⟩ : DRow), ((impl_ParseUpdate_m x0).1).Field, ((impl_ParseUpdate_m x0).1).Value⟩ : DUpdate) 1) != (laws_markUpdate_m ((impl_ParseUpdate_m x0).1) 1).1) false true))) false)
theorem cb3 : Cb Tryd.prog 3 := ⟨f3, _, func3, rfl, by decide⟩
theorem laws_FnExactParseUpdate_c (w : World) (x0 : ByteArray) (hs_0 : x0.size ≤ 9223372036854775807) (hT : TabOK w.heap.size w) :
  Calls Tryd.prog 3 #[.string x0] w fun e w' => e = .returned (.bool (laws_FnExactParseUpdate_m x0)) ∧ Below w.heap.size w w' := by
 refine ce1 (L := [(0, .string x0)]) (N := 66) func3 ?_
 refine sr (wa (nt' (CM_seq (sr (wm ?_)))))
 refine wv (fun W hm => rv_lenS underlying9 rfl) ?_
 refine wv (fun W hm => rv_gtr rfl rfl) ?_
 refine nt' ?_
 by_cases h1 : 1048576 < ((x0.size : Nat) : Int)
 ·have g2 := decide_eq_true h1
  refine CM_condT rfl g2 ?_
  refine sr (wa (nt' (CM_ret (QM_then_ret ?_))))
  exact rtb (h := cond_t g2 (rfl))
 ·have g2 := decide_eq_false h1
  refine CM_condF rfl g2 ?_
  refine CM_skip (QM_then (sr (wm ?_)))
  refine WM_call (χ := List Value) (val := fun x => .tuple #[.agg x.toArray, .bool ((spec_ParseUpdate_m x0).2)]) (js := fun x => [iOwn tyUpdate x ((spec_ParseUpdate_m x0).1)]) (cl_fn cb4 rfl) (fun W hm => spec_ParseUpdate_c W x0 (by omega)) (Wd_none rfl) (by decide) (fun z3 => ?_)
  refine tyUpdate_sp ?_
  rintro v4 rfl
  refine WM_form (n := 0) rfl ?_
  rintro A5 c6 rfl m7
  refine wm ?_
  refine wv (fun W hm => rv_extract rfl rfl) ?_
  refine wv (fun W hm => rv_extract rfl rfl) ?_
  refine WM_alloc type26 rfl (Wd_none rfl) (by decide) (fun p9 => ?_)
  let K1 : List Value := [.int .i64 (((spec_ParseUpdate_m x0).1).Kind), .int .i64 (((spec_ParseUpdate_m x0).1).Row.Id), .slice A5 (((spec_ParseUpdate_m x0).1).Row.Values).length c6, .int .i64 (((spec_ParseUpdate_m x0).1).Field), .int .i64 (((spec_ParseUpdate_m x0).1).Value)]
  let K2 : List Value := [.slice A5 (((spec_ParseUpdate_m x0).1).Row.Values).length c6]
  let I6 : It := iOwn (tSl tInt 3) K2 (((spec_ParseUpdate_m x0).1).Row.Values)
  refine sb 0 K1 [I6] (fun W hm => hm) type26 ?_
  refine wa (nt' (sr (wm ?_)))
  refine WM_call (χ := List Value) (val := fun x => .tuple #[.agg x.toArray, .bool ((impl_ParseUpdate_m x0).2)]) (js := fun x => [iOwn tyUpdate x ((impl_ParseUpdate_m x0).1)]) (cl_fn cb5 rfl) (fun W hm => impl_ParseUpdate_c W x0 (by omega) (hT.mem hm)) (Wd_none rfl) (by decide) (fun z10 => ?_)
  refine tyUpdate_sp ?_
  rintro v11 rfl
  refine WM_form (n := 0) rfl ?_
  rintro A12 c13 rfl m14
  refine wm ?_
  refine wv (fun W hm => rv_extract rfl rfl) ?_
  refine wv (fun W hm => rv_extract rfl rfl) ?_
  refine WM_alloc type26 rfl (Wd_none rfl) (by decide) (fun p16 => ?_)
  let K3 : List Value := [.int .i64 (((impl_ParseUpdate_m x0).1).Kind), .int .i64 (((impl_ParseUpdate_m x0).1).Row.Id), .slice A12 (((impl_ParseUpdate_m x0).1).Row.Values).length c13, .int .i64 (((impl_ParseUpdate_m x0).1).Field), .int .i64 (((impl_ParseUpdate_m x0).1).Value)]
  let K4 : List Value := [.slice A12 (((impl_ParseUpdate_m x0).1).Row.Values).length c13]
  let I7 : It := iOwn (tSl tInt 3) K4 (((impl_ParseUpdate_m x0).1).Row.Values)
  refine sb 0 K3 [I7, iBox p9 26 K1, I6] (fun W hm => hm) type26 ?_
  refine wa (nt' (CM_seq (sr ?_)))
  refine wv (fun W hm => rv_loadN (cs := K3) underlying26 type26 rfl rfl (hm.boxCells (n := 0) rfl)) ?_
  refine wv (fun W hm => rv_loadN (cs := K1) underlying26 type26 rfl rfl (hm.boxCells (n := 2) rfl)) ?_
  refine wcv (cl_fn cb6 rfl) (fun W hm => laws_eqUpdate_c W _ ((impl_ParseUpdate_m x0).1) _ ((spec_ParseUpdate_m x0).1) (tyUpdate_mk (x := ((impl_ParseUpdate_m x0).1)) (hm.rdSI (n := 1) rfl)) (tyUpdate_mk (x := ((spec_ParseUpdate_m x0).1)) (hm.rdSI (n := 3) rfl))) ?_
  refine wv vnot ?_
  refine wm ?_
  rcases Bool.eq_false_or_eq_true (laws_eqUpdate_m ((impl_ParseUpdate_m x0).1) ((spec_ParseUpdate_m x0).1)) with g18 | g18
  ·
   refine wg vmv (nt g18) ?_
   refine wg vmv (nt g18) ?_
   refine wg (fun W hm => rv_neqB underlying4 rfl rfl) (nt g18) ?_
   refine wv (vpF (nt g18)) ?_
   refine nt' ?_
   rcases Bool.eq_false_or_eq_true ((impl_ParseUpdate_m x0).2 != (spec_ParseUpdate_m x0).2) with g20 | g20
   ·
    refine CM_condT rfl g20 ?_
    refine sr (wa (nt' (CM_ret (QM_then_ret ?_))))
    exact rtb (h := cond_f g2 (cond_t g18 (cond_t g20 (rfl))))
   ·
    refine CM_condF rfl g20 ?_
    refine CM_skip (QM_then (sr (wa (nt' (sr ?_)))))
    refine wv (fun W hm => rv_loadN (cs := K3) underlying26 type26 rfl rfl (hm.boxCells (n := 0) rfl)) ?_
    refine wm ?_
    refine WM_items (js := (iOwn tyUpdate K3 ((impl_ParseUpdate_m x0).1) :: [iBox p16 26 K3, iBox p9 26 K1, I6])) (fun W hm => Mem.join (is := [I7]) (js := [iBox p16 26 K3, iBox p9 26 K1, I6]) (fun _ _ hs => tyUpdate_join (x := ((impl_ParseUpdate_m x0).1)) hs) (hm.pick [1, 0, 2, 3] (by decide))) ?_
    refine cw (cl_fn cb7 rfl) (fun W hm => laws_markUpdate_c w.heap.size w [iBox p16 26 K3, iBox p9 26 K1, I6] W K3 ((impl_ParseUpdate_m x0).1) 1 hm) ?_
    obtain ⟨G21, hG21⟩ : ∃ G, G = (laws_markUpdate_m ((impl_ParseUpdate_m x0).1) 1) := ⟨_, rfl⟩
    rw [← hG21]
    refine tyUpdate_sp ?_
    rintro v23 h22
    simp +zetaDelta only [List.cons.injEq] at h22
    obtain ⟨-, -, rfl, -, -, -⟩ := h22
    refine wa (nt' (sr (wa (nt' (sr ?_)))))
    refine wv (fun W hm => rv_loadN (cs := K3) underlying26 type26 rfl rfl (hm.boxCells (n := 1) rfl)) ?_
    refine wm ?_
    refine wcv (cl_fn cb8 rfl) (fun W hm => laws_heldUpdate_c W _ (⟨((impl_ParseUpdate_m x0).1).Kind, (⟨((impl_ParseUpdate_m x0).1).Row.Id, G21.2.Row.Values⟩ : DRow), ((impl_ParseUpdate_m x0).1).Field, ((impl_ParseUpdate_m x0).1).Value⟩ : DUpdate) 1 (tyUpdate_mk (x := (⟨((impl_ParseUpdate_m x0).1).Kind, (⟨((impl_ParseUpdate_m x0).1).Row.Id, G21.2.Row.Values⟩ : DRow), ((impl_ParseUpdate_m x0).1).Field, ((impl_ParseUpdate_m x0).1).Value⟩ : DUpdate)) (hm.rdSI (n := 0) rfl))) ?_
    refine wa (nt' (CM_seq (sr (wm ?_))))
    refine wv vlss ?_
    refine nt' ?_
    by_cases h24 : (laws_heldUpdate_m (⟨((impl_ParseUpdate_m x0).1).Kind, (⟨((impl_ParseUpdate_m x0).1).Row.Id, G21.2.Row.Values⟩ : DRow), ((impl_ParseUpdate_m x0).1).Field, ((impl_ParseUpdate_m x0).1).Value⟩ : DUpdate) 1) < 0
    ·have g25 := decide_eq_true h24
     refine CM_condT rfl g25 ?_
     refine sr (wa (nt' (CM_ret (QM_then_ret ?_))))
     exact rtb (h := by subst hG21; exact cond_f g2 (cond_t g18 (cond_f g20 (cond_t g25 (rfl)))))
    ·have g25 := decide_eq_false h24
     refine CM_condF rfl g25 ?_
     refine CM_skip (QM_then (CM_seq (sr (wm (wm ?_)))))
     refine wv vneq ?_
     refine nt' ?_
     by_cases h26 : (laws_heldUpdate_m (⟨((impl_ParseUpdate_m x0).1).Kind, (⟨((impl_ParseUpdate_m x0).1).Row.Id, G21.2.Row.Values⟩ : DRow), ((impl_ParseUpdate_m x0).1).Field, ((impl_ParseUpdate_m x0).1).Value⟩ : DUpdate) 1) = G21.1
     ·have g27 : ((laws_heldUpdate_m (⟨((impl_ParseUpdate_m x0).1).Kind, (⟨((impl_ParseUpdate_m x0).1).Row.Id, G21.2.Row.Values⟩ : DRow), ((impl_ParseUpdate_m x0).1).Field, ((impl_ParseUpdate_m x0).1).Value⟩ : DUpdate) 1) != G21.1) = false := by rw [h26]; exact bne_self_eq_false _
      refine CM_condF rfl g27 ?_
      refine CM_skip (QM_then (sr (wm ?_)))
      refine WM_call (χ := List Value) (val := fun x => .tuple #[.agg x.toArray, .bool ((impl_ParseUpdate_m x0).2)]) (js := fun x => [iOwn tyUpdate x ((impl_ParseUpdate_m x0).1)]) (cl_fn cb5 rfl) (fun W hm => impl_ParseUpdate_c W x0 (by omega) (hT.mem hm)) (Wd_none rfl) (by decide) (fun z28 => ?_)
      refine tyUpdate_sp ?_
      rintro v29 rfl
      refine WM_form (n := 0) rfl ?_
      rintro A30 c31 rfl m32
      refine wm ?_
      refine wv (fun W hm => rv_extract rfl rfl) ?_
      refine wv (fun W hm => rv_extract rfl rfl) ?_
      refine WM_alloc type26 rfl (Wd_none rfl) (by decide) (fun p34 => ?_)
      let K5 : List Value := [.int .i64 (((impl_ParseUpdate_m x0).1).Kind), .int .i64 (((impl_ParseUpdate_m x0).1).Row.Id), .slice A30 (((impl_ParseUpdate_m x0).1).Row.Values).length c31, .int .i64 (((impl_ParseUpdate_m x0).1).Field), .int .i64 (((impl_ParseUpdate_m x0).1).Value)]
      refine sb 0 K5 [iOwn (tSl tInt 3) [.slice A30 (((impl_ParseUpdate_m x0).1).Row.Values).length c31] (((impl_ParseUpdate_m x0).1).Row.Values), iOwn (tSl tInt 3) K4 G21.2.Row.Values, iBox p16 26 K3, iBox p9 26 K1, I6] (fun W hm => hm) type26 ?_
      refine wa (nt' (CM_seq (sr ?_)))
      refine wv (fun W hm => rv_loadN (cs := K5) underlying26 type26 rfl rfl (hm.boxCells (n := 0) rfl)) ?_
      refine wv (fun W hm => rv_loadN (cs := K1) underlying26 type26 rfl rfl (hm.boxCells (n := 4) rfl)) ?_
      refine wcv (cl_fn cb6 rfl) (fun W hm => laws_eqUpdate_c W _ ((impl_ParseUpdate_m x0).1) _ ((spec_ParseUpdate_m x0).1) (tyUpdate_mk (x := ((impl_ParseUpdate_m x0).1)) (hm.rdSI (n := 1) rfl)) (tyUpdate_mk (x := ((spec_ParseUpdate_m x0).1)) (hm.rdSI (n := 5) rfl))) ?_
      refine wv vnot ?_
      refine wm ?_
      refine wg vmv (nt g18) ?_
      refine wg vmv (nt g18) ?_
      refine wg (fun W hm => rv_neqB underlying4 rfl rfl) (nt g18) ?_
      refine wv (vpF (nt g18)) ?_
      refine nt' ?_
      refine CM_condF rfl g20 ?_
      refine CM_skip (QM_then (CM_seq ?_))
      refine CM_items (pk [2, 3]) ?_
      refine CM_region (wa (nt' (sr ?_)))
      refine wv (fun W hm => rv_loadN (cs := K3) underlying26 type26 rfl rfl (hm.boxCells (n := 1) rfl)) ?_
      refine wm ?_
      refine wcv (cl_fn cb8 rfl) (fun W hm => laws_heldUpdate_c W _ (⟨((impl_ParseUpdate_m x0).1).Kind, (⟨((impl_ParseUpdate_m x0).1).Row.Id, G21.2.Row.Values⟩ : DRow), ((impl_ParseUpdate_m x0).1).Field, ((impl_ParseUpdate_m x0).1).Value⟩ : DUpdate) 1 (tyUpdate_mk (x := (⟨((impl_ParseUpdate_m x0).1).Kind, (⟨((impl_ParseUpdate_m x0).1).Row.Id, G21.2.Row.Values⟩ : DRow), ((impl_ParseUpdate_m x0).1).Field, ((impl_ParseUpdate_m x0).1).Value⟩ : DUpdate)) (hm.rdSI (n := 0) rfl))) ?_
      refine wa (nt' (CM_seq (sr (wm ?_))))
      refine wv vlss ?_
      refine nt' ?_
      refine CM_condF rfl g25 ?_
      refine CM_skip (QM_then (CM_seq (sr (wm (wm ?_)))))
      refine wv vneq ?_
      refine nt' ?_
      refine CM_condF rfl g27 ?_
      refine CM_skip (QM_then (sr (wa (nt' (CM_ret ?_)))))
      exact rtb (h := by subst hG21; exact cond_f g2 (cond_t g18 (cond_f g20 (cond_f g25 (cond_f g27 (rfl))))))
     ·have g27 : ((laws_heldUpdate_m (⟨((impl_ParseUpdate_m x0).1).Kind, (⟨((impl_ParseUpdate_m x0).1).Row.Id, G21.2.Row.Values⟩ : DRow), ((impl_ParseUpdate_m x0).1).Field, ((impl_ParseUpdate_m x0).1).Value⟩ : DUpdate) 1) != G21.1) = true := bne_iff_ne.2 h26
      refine CM_condT rfl g27 ?_
      refine sr (wa (nt' (CM_ret (QM_then_ret ?_))))
      exact rtb (h := by subst hG21; exact cond_f g2 (cond_t g18 (cond_f g20 (cond_f g25 (cond_t g27 (rfl))))))
  ·
   refine ws (nf g18) ?_
   refine ws (nf g18) ?_
   refine ws (nf g18) ?_
   refine wv (vpT (nf g18)) ?_
   refine nt' ?_
   refine CM_condT rfl rfl ?_
   refine sr (wa (nt' (CM_ret (QM_then_ret ?_))))
   exact rtb (h := cond_f g2 (cond_f g18 (rfl)))

end Go.Proofs.YtfdaaliffcfjjaaDoor
