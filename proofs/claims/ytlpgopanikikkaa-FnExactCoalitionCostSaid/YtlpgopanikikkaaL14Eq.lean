/-
  The program and the reference compute the same: plain laws over what the walks showed.
-/
import Derived.Test.YtlpgopanikikkaaL14Law
namespace Go.Proofs.Ytlpgopanikikkaa
open Go.RowKit
theorem rng_bool {n : Nat} {b : Nat → Unit → Bool ⊕ Unit} (h : ∀ j, b j () = .inr () ∨ b j () = .inl false) : ∀ m k, rng b m k () = .inr () ∨ rng b m k () = .inl false
  | 0, _ => .inl rfl
  | m + 1, k => by
    rcases h k with h1 | h1
    · rw [rng, h1]; exact rng_bool (n := n) h m (k + 1)
    · right; rw [rng, h1]; rfl
theorem within_same (x a b : Int) : impl_within_m x a b = spec_l1In_m x a b := rfl
theorem IsSet_b_same (x : List Int) (k : Nat) : impl_IsSet_b1 x k = spec_IsSet_b1 x k := by
  unfold impl_IsSet_b1 spec_IsSet_b1 spec_l1In_m
  by_cases h1 : gt x k < 0
  · have h2 : ¬ 0 ≤ gt x k := by omega
    simp only [decide_eq_true h1, decide_eq_false h2, cond_true, cond_false]
  · have h2 : 0 ≤ gt x k := by omega
    by_cases h3 : 24 ≤ gt x k
    · have h4 : ¬ gt x k ≤ 23 := by omega
      simp only [decide_eq_false h1, decide_eq_true h2, decide_eq_true h3, decide_eq_false h4, cond_true, cond_false]
    · have h4 : gt x k ≤ 23 := by omega
      simp only [decide_eq_false h1, decide_eq_true h2, decide_eq_false h3, decide_eq_true h4, cond_true, cond_false]
theorem IsSet_same (x : List Int) : impl_IsSet_m x = spec_IsSet_m x := by
  unfold impl_IsSet_m spec_IsSet_m
  simp only [IsSet_b_same]
theorem IsCharge_b_same (x : DCharge) (k : Nat) : impl_IsCharge_b1 x k = spec_IsCharge_b1 x k := rfl
theorem IsCharge_b_two (x : DCharge) (k : Nat) : spec_IsCharge_b1 x k = .inr () ∨ spec_IsCharge_b1 x k = .inl false := by
  unfold spec_IsCharge_b1
  cases spec_l1In_m (gt x.Tenants k) 0 3 <;> cases spec_l1In_m (gt x.Rows k) 0 x.Base <;> simp
theorem IsCharge_same (x : DCharge) : impl_IsCharge_m x = spec_IsCharge_m x := by
  unfold impl_IsCharge_m spec_IsCharge_m
  rw [IsSet_same]
  simp only [IsCharge_b_same, within_same]
  have h8 : spec_l1In_m ((x.Ids.length : Nat) : Int) 1 8 = cond (((x.Ids.length : Nat) : Int) == 0) false (cond (decide (8 < ((x.Ids.length : Nat) : Int))) false true) := by
    unfold spec_l1In_m
    by_cases h1 : ((x.Ids.length : Nat) : Int) = 0
    · rw [beq_iff_eq.2 h1, decide_eq_false (show ¬ 1 ≤ ((x.Ids.length : Nat) : Int) by omega)]; rfl
    · rw [beq_eq_false_iff_ne.2 h1, decide_eq_true (show 1 ≤ ((x.Ids.length : Nat) : Int) by omega)]
      by_cases h2 : 8 < ((x.Ids.length : Nat) : Int)
      · rw [decide_eq_true h2, decide_eq_false (show ¬ ((x.Ids.length : Nat) : Int) ≤ 8 by omega)]; rfl
      · rw [decide_eq_false h2, decide_eq_true (show ((x.Ids.length : Nat) : Int) ≤ 8 by omega)]; rfl
  rw [h8]
  have hr := rng_bool (n := 0) (b := fun k (_ : Unit) => spec_IsCharge_b1 x k) (IsCharge_b_two x) (x.Ids.length - 0) 0
  rcases hr with hr | hr <;> rw [hr] <;> cases spec_IsSet_m x.Ids <;> cases (((x.Ids.length : Nat) : Int) == 0) <;> cases (decide (8 < ((x.Ids.length : Nat) : Int))) <;>
    cases (((x.Tenants.length : Nat) : Int) != ((x.Ids.length : Nat) : Int)) <;> cases (((x.Rows.length : Nat) : Int) != ((x.Ids.length : Nat) : Int)) <;> cases spec_l1In_m x.Segment 0 7 <;> cases spec_l1In_m x.Base 0 4 <;> rfl
theorem rngb_as {R S : Type} {b : Nat → S → R ⊕ S} {b' : Nat → S → R ⊕ (S ⊕ S)} (h : ∀ j s, b' j s = Sum.elim Sum.inl (fun s => Sum.inr (Sum.inr s)) (b j s)) : ∀ m k s, rngb b' m k s = rng b m k s
  | 0, _, _ => rfl
  | m + 1, k, s => by
    rw [rngb, rng, h]
    cases b k s with
    | inl r => rfl
    | inr s' => exact rngb_as h m (k + 1) s'
theorem rng_rel {R R' S T : Type} {b : Nat → S → R ⊕ S} {c : Nat → T → R' ⊕ T} (I : S → T → Prop) (h : ∀ j s t, I s t → ∃ s' t', b j s = .inr s' ∧ c j t = .inr t' ∧ I s' t') : ∀ m k s t, I s t → ∃ s' t', rng b m k s = .inr s' ∧ rng c m k t = .inr t' ∧ I s' t'
  | 0, _, s, t, hi => ⟨s, t, rfl, rfl, hi⟩
  | m + 1, k, s, t, hi => by
    obtain ⟨s', t', h1, h2, h3⟩ := h k s t hi
    obtain ⟨s'', t'', h4, h5, h6⟩ := rng_rel I h m (k + 1) s' t' h3
    exact ⟨s'', t'', by rw [rng, h1]; exact h4, by rw [rng, h2]; exact h5, h6⟩
theorem HasMember_same (x : List Int) (i : Int) : impl_hasInt_m x i = spec_HasMember_m x i := rfl
def Coal (n : Int) (s t : Int × Bool) : Prop := s.2 = t.2 ∧ (s.2 = false → s.1 = n ∧ t.1 = 0) ∧ (s.2 = true → s.1 = IntKind.i64.wrap (n + t.1))
theorem Coalition_b1_same (x : List DCharge) (y : List Int) (k : Nat) (n : Int) : impl_CoalitionCost_b1 x y k n = spec_CoalitionCost_b1 x y k n := by
  unfold impl_CoalitionCost_b1 spec_CoalitionCost_b1
  rw [IsCharge_same]
  cases h : spec_IsCharge_m (gt x k) with
  | false =>
    have hb : ∀ j (s : Int × Bool), spec_CoalitionCost_b2 x y k j s.1 s.2 = .inr (.inl s) := fun j s => by unfold spec_CoalitionCost_b2; rw [h]; rfl
    cases hn : (gt x k).Ids.length - 0 with
    | zero => rfl
    | succ m => rw [rngb, hb]; rfl
  | true =>
    obtain ⟨_, h2, h3⟩ := spec_IsCharge_fact h
    have hb : ∀ j (s : Int × Bool), spec_CoalitionCost_b2 x y k j s.1 s.2 = Sum.elim Sum.inl (fun s => Sum.inr (Sum.inr s)) (cond (spec_HasMember_m y (gt ((gt x k).Tenants) j)) (Sum.inr ((IntKind.i64.wrap (s.1 + (gt ((gt x k).Rows) j))), true)) (Sum.inr (s.1, s.2)) : Int ⊕ (Int × Bool)) := fun j s => by
      unfold spec_CoalitionCost_b2
      rw [h]
      cases spec_HasMember_m y (gt ((gt x k).Tenants) j) <;> rfl
    rw [cond_true, h2, rngb_as hb]
    obtain ⟨s', t', h4, h5, h6, h7, h8⟩ := rng_rel (b := fun j (s : Int × Bool) => (cond (spec_HasMember_m y (gt ((gt x k).Tenants) j)) (Sum.inr ((IntKind.i64.wrap (s.1 + (gt ((gt x k).Rows) j))), true)) (Sum.inr (s.1, s.2)) : Int ⊕ (Int × Bool)))
      (c := fun j (s : Int × Bool) => impl_CoalitionCost_b2 x y k j s.1 s.2) (Coal n) (fun j s t ⟨i1, i2, i3⟩ => by
        unfold impl_CoalitionCost_b2
        rw [HasMember_same]
        cases spec_HasMember_m y (gt ((gt x k).Tenants) j) with
        | false => exact ⟨_, _, rfl, rfl, i1, i2, i3⟩
        | true =>
          refine ⟨_, _, rfl, rfl, rfl, (fun e => by cases e), fun _ => ?_⟩
          dsimp only
          cases hs : s.2 with
          | false =>
            obtain ⟨e1, e2⟩ := i2 hs
            rw [e1, e2]
            simp only [IntKind.wrap_i64]
            omega
          | true =>
            rw [i3 hs]
            simp only [IntKind.wrap_i64]
            omega) ((gt x k).Ids.length - 0) 0 (n, false) (0, false) ⟨rfl, fun _ => ⟨rfl, rfl⟩, fun e => by cases e⟩
    rw [h4, h5]
    dsimp only [Sum.elim_inr]
    rw [← h6]
    cases hs : s'.2 with
    | false => rw [(h7 hs).1]; rfl
    | true =>
      rw [h8 hs, cond_true, cond_true]
      congr 1
      simp only [IntKind.wrap_i64]
      omega
theorem CoalitionCost_same (x : List DCharge) (y : List Int) : impl_CoalitionCost_m x y = spec_CoalitionCost_m x y := by
  unfold impl_CoalitionCost_m spec_CoalitionCost_m
  simp only [Coalition_b1_same]
theorem law_CoalitionCost (x : List DCharge) (y : List Int) : laws_FnExactCoalitionCost_m x y = true := by
  unfold laws_FnExactCoalitionCost_m
  rw [CoalitionCost_same, bne_self_eq_false, laws_eqChargeS_refl, laws_eqIntS_refl]
  cases decide (1048576 < ((y.length : Nat) : Int)) <;> cases decide (laws_szChargeS_m x 1048576 < 0) <;> rfl

end Go.Proofs.Ytlpgopanikikkaa
