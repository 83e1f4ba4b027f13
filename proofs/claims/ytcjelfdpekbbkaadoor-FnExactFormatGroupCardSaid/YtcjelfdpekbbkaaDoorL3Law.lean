/-
  The contract of the law.
-/
import Derived.Test.YtcjelfdpekbbkaaDoorL3Pl
namespace Go.Proofs.YtcjelfdpekbbkaaDoor
open Go.RowKit
set_option maxRecDepth 100000
set_option maxHeartbeats 4000000
open _root_.Go.Proofs.Tryd
def laws_FnExactFormatGroup_m (x0 : DGroup) : Bool :=
 cond (eqS (impl_FormatGroup_m (laws_toGroup_m x0)) (spec_FormatGroup_m (laws_toGroup_m x0))) true false
theorem cb3 : Cb Tryd.prog 3 := ⟨f3, _, func3, rfl, by decide⟩
theorem laws_FnExactFormatGroup_c (w : World) (z0 : List Value) (x0 : DGroup) (r_0 : tyLGroup.rd w w.heap.size z0 x0) (hc : (-9223372036854775808 ≤ x0.Count ∧ x0.Count ≤ 9223372036854775807) ∧ (-9223372036854775808 ≤ x0.Sum ∧ x0.Sum ≤ 9223372036854775807)) (hT : TabOK w.heap.size w) :
  Calls Tryd.prog 3 #[.agg z0.toArray] w fun e w' => e = .returned (.bool (laws_FnExactFormatGroup_m x0)) ∧ Below w.heap.size w w' := by
 obtain rfl := tyLGroup_rd r_0
 refine ce1 (L := [(0, .agg #[.int .i64 x0.Query, .int .i64 x0.Value, .int .i64 x0.Count, .int .i64 x0.Sum])]) (N := 14) func3 ?_
 refine sr ?_
 refine WM_box rfl (Wd_none rfl) (by decide) (fun p1 => ?_)
 refine wa (nt' (sr ?_))
 let K1 : List Value := [.int .i64 x0.Query, .int .i64 x0.Value, .int .i64 x0.Count, .int .i64 x0.Sum]
 refine wv (fun W hm => rv_loadN (cs := K1) underlying23 type23 rfl rfl (hm.boxCells (n := 0) rfl)) ?_
 refine wcs tyGroup (laws_toGroup_m x0) (cl_fn cb9 rfl) (fun W hm => laws_toGroup_c W _ x0 (tyLGroup_mk (x := x0))) (fun z2 => ?_)
 refine tyGroup_sp ?_
 rintro ⟨⟩ rfl
 refine wcv (cl_fn cb8 rfl) (fun W hm => spec_FormatGroup_c W _ (laws_toGroup_m x0) (tyGroup_mk (x := (laws_toGroup_m x0))) (hc)) ?_
 refine wa (nt' (sr ?_))
 refine wv (fun W hm => rv_loadN (cs := K1) underlying23 type23 rfl rfl (hm.boxCells (n := 0) rfl)) ?_
 refine wcs tyGroup (laws_toGroup_m x0) (cl_fn cb9 rfl) (fun W hm => laws_toGroup_c W _ x0 (tyLGroup_mk (x := x0))) (fun z3 => ?_)
 refine tyGroup_sp ?_
 rintro ⟨⟩ rfl
 refine wcv (cl_fn cb10 rfl) (fun W hm => impl_FormatGroup_c W _ (laws_toGroup_m x0) (tyGroup_mk (x := (laws_toGroup_m x0))) (hc) (hT.mem hm)) ?_
 refine wa (nt' (CM_seq (sr (wm (wm ?_)))))
 refine wv (fun W hm => rv_neqS (p := (impl_FormatGroup_m (laws_toGroup_m x0))) (q := (spec_FormatGroup_m (laws_toGroup_m x0))) underlying9 rfl rfl) ?_
 refine nt' ?_
 rcases Bool.eq_false_or_eq_true (eqS (impl_FormatGroup_m (laws_toGroup_m x0)) (spec_FormatGroup_m (laws_toGroup_m x0))) with g5 | g5
 ·
  refine CM_condF rfl (nt g5) ?_
  refine CM_skip (QM_then (sr (wa (nt' (CM_ret ?_)))))
  exact rtb (h := cond_t g5 (rfl))
 ·
  refine CM_condT rfl (nf g5) ?_
  refine sr (wa (nt' (CM_ret (QM_then_ret ?_))))
  exact rtb (h := cond_f g5 (rfl))

end Go.Proofs.YtcjelfdpekbbkaaDoor
