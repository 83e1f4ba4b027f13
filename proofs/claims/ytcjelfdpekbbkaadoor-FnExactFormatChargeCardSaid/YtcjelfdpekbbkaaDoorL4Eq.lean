/-
  The program and the reference compute the same: plain laws over what the walks showed.
-/
import Derived.Test.YtcjelfdpekbbkaaDoorL4Law
namespace Go.Proofs.YtcjelfdpekbbkaaDoor
open Go.RowKit
theorem rng_rel {R R' S T : Type} {b : Nat → S → R ⊕ S} {c : Nat → T → R' ⊕ T} (I : S → T → Prop) (h : ∀ j s t, I s t → ∃ s' t', b j s = .inr s' ∧ c j t = .inr t' ∧ I s' t') : ∀ m k s t, I s t → ∃ s' t', rng b m k s = .inr s' ∧ rng c m k t = .inr t' ∧ I s' t'
  | 0, _, s, t, hi => ⟨s, t, rfl, rfl, hi⟩
  | m + 1, k, s, t, hi => by
    obtain ⟨s', t', h1, h2, h3⟩ := h k s t hi
    obtain ⟨s'', t'', h4, h5, h6⟩ := rng_rel I h m (k + 1) s' t' h3
    exact ⟨s'', t'', by rw [rng, h1]; exact h4, by rw [rng, h2]; exact h5, h6⟩
theorem FI_same (x : Int) (h : -9223372036854775808 ≤ x ∧ x ≤ 9223372036854775807) : spec_FormatInt_m x = impl_FormatInt_m x := spec_FormatInt_is x h
theorem join3 (a b c s : List UInt8) : joinB [sB a, sB b, sB c] (sB s) = sB (a ++ (s ++ (b ++ (s ++ c)))) := by
  unfold joinB
  refine congrArg sB ?_
  show Lib.join [a, b, c] s = _
  unfold Lib.join
  simp [List.intercalate, List.append_assoc]
theorem join_snoc (sep y : List UInt8) : ∀ {xs : List (List UInt8)}, xs ≠ [] → Lib.join (xs ++ [y]) sep = Lib.join xs sep ++ (sep ++ y)
  | [], h => absurd rfl h
  | [x], _ => by
    unfold Lib.join
    simp [List.intercalate]
  | x :: z :: r, _ => by
    have ih := join_snoc sep y (xs := z :: r) (by simp)
    have e : ∀ (u v : List UInt8) (q : List (List UInt8)), Lib.join (u :: v :: q) sep = u ++ (sep ++ Lib.join (v :: q) sep) := fun u v q => by
      unfold Lib.join
      simp [List.intercalate]
    show Lib.join (x :: z :: (r ++ [y])) sep = _
    rw [e, e]
    show x ++ (sep ++ Lib.join ((z :: r) ++ [y]) sep) = _
    rw [ih]
    simp
theorem joinB_snoc {xs : List ByteArray} (y sep : ByteArray) (h : xs ≠ []) : joinB (xs ++ [y]) sep = joinB xs sep ++ (sep ++ y) := by
  unfold joinB
  rw [List.map_append]
  show sB (Lib.join (xs.map (·.data.toList) ++ [y.data.toList]) sep.data.toList) = _
  rw [join_snoc _ _ (by simpa using h), ← sB_app, ← sB_app, sB_data, sB_data]
theorem FormatCharge_same (x : DCharge) : impl_FormatCharge_m x = spec_FormatCharge_m x := by
  unfold impl_FormatCharge_m spec_FormatCharge_m
  rw [IsCharge_same]
  cases h : spec_IsCharge_m x with
  | false => rfl
  | true =>
    obtain ⟨h1, h2⟩ := spec_Charge_rng h
    rw [cond_true, cond_true, rng_congr (n := x.Ids.length) (b := fun k (s : ByteArray) => spec_FormatCharge_b1 x k s) (b' := fun k (s : ByteArray) => (.inr ((((s ++ (sB [32, 113])) ++ (impl_FormatInt_m (gt x.Ids k))) ++ (sB [43])) ++ (impl_FormatInt_m (gt x.Rows k))) : ByteArray ⊕ ByteArray)) (fun j s hj => by
      have := h2 j hj
      unfold spec_FormatCharge_b1
      rw [FI_same _ (by omega), FI_same _ (by omega)]) (x.Ids.length - 0) 0 _ (by omega), FI_same x.Segment (by omega), FI_same x.Base (by omega)]
    obtain ⟨s, t, e1, e2, hI⟩ := rng_rel (b := fun k (s : List ByteArray) => impl_FormatCharge_b1 x k s) (c := fun k (s : ByteArray) => (.inr ((((s ++ (sB [32, 113])) ++ (impl_FormatInt_m (gt x.Ids k))) ++ (sB [43])) ++ (impl_FormatInt_m (gt x.Rows k))) : ByteArray ⊕ ByteArray)) (fun s t => s ≠ [] ∧ joinB s (sB [32]) = t) (fun j s t ⟨i1, i2⟩ => by
      refine ⟨_, _, rfl, rfl, by simp, ?_⟩
      rw [joinB_snoc _ _ i1, i2]
      rw [show sB [32, 113] = sB [32] ++ sB [113] from (sB_app [32] [113]).symm]
      simp only [ByteArray.append_assoc]) (x.Ids.length - 0) 0 [impl_FormatInt_m x.Segment, sB [98, 97, 115, 101], impl_FormatInt_m x.Base] ((impl_FormatInt_m x.Segment ++ sB [32, 98, 97, 115, 101, 32]) ++ impl_FormatInt_m x.Base) ⟨by simp, by
        show joinB [sB (Lib.itoa x.Segment), sB [98, 97, 115, 101], sB (Lib.itoa x.Base)] (sB [32]) = sB (Lib.itoa x.Segment) ++ sB [32, 98, 97, 115, 101, 32] ++ sB (Lib.itoa x.Base)
        rw [join3, sB_app, sB_app]
        refine congrArg sB ?_
        simp⟩
    rw [e1, e2]
    exact hI.2
theorem law_FormatCharge (x : DCharge) : laws_FnExactFormatCharge_m x = true := by
  unfold laws_FnExactFormatCharge_m
  rw [laws_toCharge_eq, FormatCharge_same, eqS_refl, laws_eqCharge_refl]
  cases decide (laws_szCharge_m x 1048576 < 0) <;> rfl

end Go.Proofs.YtcjelfdpekbbkaaDoor
