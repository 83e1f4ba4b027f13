/-
  The program and the reference compute the same: plain laws over what the walks showed.
-/
import Derived.Test.YtlpgopanikikkaaL10Law
namespace Go.Proofs.Ytlpgopanikikkaa
open Go.RowKit
theorem rng_bool {n : Nat} {b : Nat → Unit → Bool ⊕ Unit} (h : ∀ j, b j () = .inr () ∨ b j () = .inl false) : ∀ m k, rng b m k () = .inr () ∨ rng b m k () = .inl false
  | 0, _ => .inl rfl
  | m + 1, k => by
    rcases h k with h1 | h1
    · rw [rng, h1]; exact rng_bool (n := n) h m (k + 1)
    · right; rw [rng, h1]; rfl
theorem within_same (x a b : Int) : impl_within_m x a b = spec_l1In_m x a b := rfl
theorem IsSet_b_same (x : List Int) (k : Nat) : impl_IsSet_b1 x k = spec_IsSet_b1 x k := by
  unfold impl_IsSet_b1 spec_IsSet_b1 spec_l1In_m
  by_cases h1 : gt x k < 0
  · have h2 : ¬ 0 ≤ gt x k := by omega
    simp only [decide_eq_true h1, decide_eq_false h2, cond_true, cond_false]
  · have h2 : 0 ≤ gt x k := by omega
    by_cases h3 : 24 ≤ gt x k
    · have h4 : ¬ gt x k ≤ 23 := by omega
      simp only [decide_eq_false h1, decide_eq_true h2, decide_eq_true h3, decide_eq_false h4, cond_true, cond_false]
    · have h4 : gt x k ≤ 23 := by omega
      simp only [decide_eq_false h1, decide_eq_true h2, decide_eq_false h3, decide_eq_true h4, cond_true, cond_false]
theorem IsSet_same (x : List Int) : impl_IsSet_m x = spec_IsSet_m x := by
  unfold impl_IsSet_m spec_IsSet_m
  simp only [IsSet_b_same]
theorem IsCharge_b_same (x : DCharge) (k : Nat) : impl_IsCharge_b1 x k = spec_IsCharge_b1 x k := rfl
theorem IsCharge_b_two (x : DCharge) (k : Nat) : spec_IsCharge_b1 x k = .inr () ∨ spec_IsCharge_b1 x k = .inl false := by
  unfold spec_IsCharge_b1
  cases spec_l1In_m (gt x.Tenants k) 0 3 <;> cases spec_l1In_m (gt x.Rows k) 0 x.Base <;> simp
theorem IsCharge_same (x : DCharge) : impl_IsCharge_m x = spec_IsCharge_m x := by
  unfold impl_IsCharge_m spec_IsCharge_m
  rw [IsSet_same]
  simp only [IsCharge_b_same, within_same]
  have h8 : spec_l1In_m ((x.Ids.length : Nat) : Int) 1 8 = cond (((x.Ids.length : Nat) : Int) == 0) false (cond (decide (8 < ((x.Ids.length : Nat) : Int))) false true) := by
    unfold spec_l1In_m
    by_cases h1 : ((x.Ids.length : Nat) : Int) = 0
    · rw [beq_iff_eq.2 h1, decide_eq_false (show ¬ 1 ≤ ((x.Ids.length : Nat) : Int) by omega)]; rfl
    · rw [beq_eq_false_iff_ne.2 h1, decide_eq_true (show 1 ≤ ((x.Ids.length : Nat) : Int) by omega)]
      by_cases h2 : 8 < ((x.Ids.length : Nat) : Int)
      · rw [decide_eq_true h2, decide_eq_false (show ¬ ((x.Ids.length : Nat) : Int) ≤ 8 by omega)]; rfl
      · rw [decide_eq_false h2, decide_eq_true (show ((x.Ids.length : Nat) : Int) ≤ 8 by omega)]; rfl
  rw [h8]
  have hr := rng_bool (n := 0) (b := fun k (_ : Unit) => spec_IsCharge_b1 x k) (IsCharge_b_two x) (x.Ids.length - 0) 0
  rcases hr with hr | hr <;> rw [hr] <;> cases spec_IsSet_m x.Ids <;> cases (((x.Ids.length : Nat) : Int) == 0) <;> cases (decide (8 < ((x.Ids.length : Nat) : Int))) <;>
    cases (((x.Tenants.length : Nat) : Int) != ((x.Ids.length : Nat) : Int)) <;> cases (((x.Rows.length : Nat) : Int) != ((x.Ids.length : Nat) : Int)) <;> cases spec_l1In_m x.Segment 0 7 <;> cases spec_l1In_m x.Base 0 4 <;> rfl
theorem rngb_as {R S : Type} {b : Nat → S → R ⊕ S} {b' : Nat → S → R ⊕ (S ⊕ S)} (h : ∀ j s, b' j s = Sum.elim Sum.inl (fun s => Sum.inr (Sum.inr s)) (b j s)) : ∀ m k s, rngb b' m k s = rng b m k s
  | 0, _, _ => rfl
  | m + 1, k, s => by
    rw [rngb, rng, h]
    cases b k s with
    | inl r => rfl
    | inr s' => exact rngb_as h m (k + 1) s'
theorem SharesOf_same (x : DCharge) : impl_SharesOf_m x = spec_SharesOf_m x := by
  unfold impl_SharesOf_m spec_SharesOf_m
  rw [IsCharge_same]
  cases h : spec_IsCharge_m x with
  | false =>
    have hb : ∀ j s, spec_SharesOf_b1 x j s = .inr (.inl s) := fun j s => by unfold spec_SharesOf_b1; rw [h]; rfl
    cases hn : x.Ids.length - 0 with
    | zero => rfl
    | succ m => rw [rngb, hb]; rfl
  | true =>
    obtain ⟨_, h2, h3⟩ := spec_IsCharge_fact h
    rw [cond_true, h3, rngb_as (b := fun k s => impl_SharesOf_b1 x k s) (fun j s => by
      unfold spec_SharesOf_b1 impl_SharesOf_b1
      rw [h, Int.add_comm (gt x.Rows j)]
      cases decide (((j : Nat) : Int) < (Int.tmod x.Base ((x.Ids.length : Nat) : Int))) <;> rfl)]
theorem law_SharesOf (x : DCharge) (ok : smCharge 9223372036854775807 x) : laws_FnExactSharesOf_m x = true := by
  unfold laws_FnExactSharesOf_m
  rw [laws_toCharge_eq, ← SharesOf_same, laws_eqIntS_refl, laws_eqCharge_refl]
  cases hs : decide (laws_szCharge_m x 1048576 < 0) with
  | true => rfl
  | false =>
    have hi := impl_SharesOf_len x
    obtain ⟨h1, _, _⟩ := sz_small laws_szCharge_ok ok (by omega) (by omega) hs
    have h2 : x.Tenants.length ≤ 1048576 := by unfold wtCharge at h1; omega
    obtain ⟨p1, _⟩ := laws_markCharge_ok.go x 1 (by omega) (by omega)
    obtain ⟨p2, _, r2⟩ := laws_markIntS_ok.go (impl_SharesOf_m x) 1 (by omega) (by omega)
    rw [r2, decide_eq_false (by omega), decide_eq_false (by omega), bne_self_eq_false]
    rfl

end Go.Proofs.Ytlpgopanikikkaa
