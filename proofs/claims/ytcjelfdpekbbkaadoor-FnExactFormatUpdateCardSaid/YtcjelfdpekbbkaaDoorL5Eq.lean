/-
  The program and the reference compute the same: plain laws over what the walks showed.
-/
import Derived.Test.YtcjelfdpekbbkaaDoorL5Law
namespace Go.Proofs.YtcjelfdpekbbkaaDoor
open Go.RowKit
theorem FI_same (x : Int) (h : -9223372036854775808 ≤ x ∧ x ≤ 9223372036854775807) : spec_FormatInt_m x = impl_FormatInt_m x := spec_FormatInt_is x h
theorem join3 (a b c s : List UInt8) : joinB [sB a, sB b, sB c] (sB s) = sB (a ++ (s ++ (b ++ (s ++ c)))) := by
  unfold joinB
  refine congrArg sB ?_
  show Lib.join [a, b, c] s = _
  unfold Lib.join
  simp [List.intercalate, List.append_assoc]
theorem nt_three (a b c : Int) : impl_numbersText_m [a, b, c] = joinB [impl_FormatInt_m a, impl_FormatInt_m b, impl_FormatInt_m c] (sB [44]) := rfl
theorem l3_three (a b c : Int) : spec_l3List_m [a, b, c] = ((((sB [] ++ spec_FormatInt_m a) ++ sB [44]) ++ spec_FormatInt_m b) ++ sB [44]) ++ spec_FormatInt_m c := rfl
theorem numbersText_same {l : List Int} (h : l.length = 3 ∧ ∀ k, k < 3 → 0 ≤ gt l k ∧ gt l k ≤ 99) : impl_numbersText_m l = spec_l3List_m l := by
  obtain ⟨h1, h2⟩ := h
  match l, h1 with
  | [a, b, c], _ =>
    have ha : 0 ≤ a ∧ a ≤ 99 := h2 0 (by omega)
    have hb : 0 ≤ b ∧ b ≤ 99 := h2 1 (by omega)
    have hc : 0 ≤ c ∧ c ≤ 99 := h2 2 (by omega)
    rw [nt_three, l3_three, FI_same a (by omega), FI_same b (by omega), FI_same c (by omega)]
    show joinB [sB (Lib.itoa a), sB (Lib.itoa b), sB (Lib.itoa c)] (sB [44]) = sB [] ++ sB (Lib.itoa a) ++ sB [44] ++ sB (Lib.itoa b) ++ sB [44] ++ sB (Lib.itoa c)
    rw [join3, sB_app, sB_app, sB_app, sB_app, sB_app]
    refine congrArg sB ?_
    simp
theorem FormatRow_same (x : DRow) : impl_FormatRow_m x = spec_FormatRow_m x := by
  unfold impl_FormatRow_m spec_FormatRow_m
  rw [IsRow_same]
  cases h : spec_IsRow_m x with
  | false => rfl
  | true =>
    have hr := spec_Row_rng h
    rw [cond_true, cond_true, FI_same x.Id (by omega), numbersText_same hr.2]
theorem FormatUpdate_same (x : DUpdate) : impl_FormatUpdate_m x = spec_FormatUpdate_m x := by
  unfold impl_FormatUpdate_m spec_FormatUpdate_m
  rw [IsUpdate_same]
  cases h : spec_IsUpdate_m x with
  | false => rfl
  | true =>
    have hr := spec_Update_rng h
    rw [cond_true, cond_true, FI_same x.Row.Id (by omega), FI_same x.Field (by omega), FI_same x.Value (by omega), FormatRow_same]
theorem law_FormatUpdate (x : DUpdate) : laws_FnExactFormatUpdate_m x = true := by
  unfold laws_FnExactFormatUpdate_m
  rw [laws_toUpdate_eq, FormatUpdate_same, eqS_refl, laws_eqUpdate_refl]
  cases decide (laws_szUpdate_m x 1048576 < 0) <;> rfl

end Go.Proofs.YtcjelfdpekbbkaaDoor
