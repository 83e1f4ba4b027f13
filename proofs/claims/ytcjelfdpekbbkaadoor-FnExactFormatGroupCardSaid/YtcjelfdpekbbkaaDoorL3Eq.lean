/-
  The program and the reference compute the same: plain laws over what the walks showed.
-/
import Derived.Test.YtcjelfdpekbbkaaDoorL3Law
namespace Go.Proofs.YtcjelfdpekbbkaaDoor
open Go.RowKit
theorem within_same (x a b : Int) : impl_within_m x a b = spec_l1In_m x a b := rfl
theorem FI_same (x : Int) (h : -9223372036854775808 ≤ x ∧ x ≤ 9223372036854775807) : spec_FormatInt_m x = impl_FormatInt_m x := spec_FormatInt_is x h
theorem join6 (a b c d e f s : List UInt8) : joinB [sB a, sB b, sB c, sB d, sB e, sB f] (sB s) = sB (a ++ (s ++ (b ++ (s ++ (c ++ (s ++ (d ++ (s ++ (e ++ (s ++ f)))))))))) := by
  unfold joinB
  refine congrArg sB ?_
  show Lib.join [a, b, c, d, e, f] s = _
  unfold Lib.join
  simp [List.intercalate, List.append_assoc]
theorem FormatGroup_same (x : DGroup) (hc : (-9223372036854775808 ≤ x.Count ∧ x.Count ≤ 9223372036854775807) ∧ (-9223372036854775808 ≤ x.Sum ∧ x.Sum ≤ 9223372036854775807)) : impl_FormatGroup_m x = spec_FormatGroup_m x := by
  unfold impl_FormatGroup_m spec_FormatGroup_m
  rw [within_same, within_same]
  by_cases h1 : 0 ≤ x.Query ∧ x.Query ≤ 23
  · rw [spec_l1In_iff, decide_eq_true h1, cond_true, cond_true]
    by_cases h2 : 0 ≤ x.Value ∧ x.Value ≤ 99
    · rw [spec_l1In_iff, decide_eq_true h2, cond_true, cond_true]
      cases decide (x.Count < 1) with
      | true => rfl
      | false =>
        cases decide (x.Sum < 0) with
        | true => rfl
        | false =>
          rw [cond_false, cond_false, cond_false, cond_false, FI_same x.Query (by omega), FI_same x.Value (by omega), FI_same x.Count hc.1, FI_same x.Sum hc.2]
          show joinB [sB [113] ++ sB (Lib.itoa x.Query), sB (Lib.itoa x.Value), sB [99, 111, 117, 110, 116], sB (Lib.itoa x.Count), sB [115, 117, 109], sB (Lib.itoa x.Sum)] (sB [32]) = sB [113] ++ sB (Lib.itoa x.Query) ++ sB [32] ++ sB (Lib.itoa x.Value) ++ sB [32, 99, 111, 117, 110, 116, 32] ++ sB (Lib.itoa x.Count) ++ sB [32, 115, 117, 109, 32] ++ sB (Lib.itoa x.Sum)
          rw [sB_app, join6, sB_app, sB_app, sB_app, sB_app, sB_app, sB_app]
          refine congrArg sB ?_
          simp
    · rw [spec_l1In_iff, decide_eq_false h2, cond_false, cond_false]
  · rw [spec_l1In_iff, decide_eq_false h1, cond_false, cond_false]
theorem law_FormatGroup (x0 : DGroup) (hc : (-9223372036854775808 ≤ x0.Count ∧ x0.Count ≤ 9223372036854775807) ∧ (-9223372036854775808 ≤ x0.Sum ∧ x0.Sum ≤ 9223372036854775807)) : laws_FnExactFormatGroup_m x0 = true := by
  unfold laws_FnExactFormatGroup_m
  rw [show laws_toGroup_m x0 = x0 from rfl, FormatGroup_same _ hc, eqS_refl]
  rfl

end Go.Proofs.YtcjelfdpekbbkaaDoor
