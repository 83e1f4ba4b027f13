/-
  The program and the reference compute the same: plain laws over what the walks showed.
-/
import Derived.Test.YtjcdginailhfmaaL4Law
namespace Go.Proofs.Ytjcdginailhfmaa
open Go.RowKit
theorem IsSet_b_same (x : List Int) (k : Nat) : impl_IsSet_b1 x k = spec_IsSet_b1 x k := by
  unfold impl_IsSet_b1 spec_IsSet_b1 spec_l1In_m
  by_cases h1 : gt x k < 0
  · have h2 : ¬ 0 ≤ gt x k := by omega
    simp only [decide_eq_true h1, decide_eq_false h2, cond_true, cond_false]
  · have h2 : 0 ≤ gt x k := by omega
    by_cases h3 : 24 ≤ gt x k
    · have h4 : ¬ gt x k ≤ 23 := by omega
      simp only [decide_eq_false h1, decide_eq_true h2, decide_eq_true h3, decide_eq_false h4, cond_true, cond_false]
    · have h4 : gt x k ≤ 23 := by omega
      simp only [decide_eq_false h1, decide_eq_true h2, decide_eq_false h3, decide_eq_true h4, cond_true, cond_false]
theorem IsSet_same (x : List Int) : impl_IsSet_m x = spec_IsSet_m x := by
  unfold impl_IsSet_m spec_IsSet_m
  simp only [IsSet_b_same]
theorem rngb_as {R S : Type} {b : Nat → S → R ⊕ S} {b' : Nat → S → R ⊕ (S ⊕ S)} (h : ∀ j s, b' j s = Sum.elim Sum.inl (fun s => Sum.inr (Sum.inr s)) (b j s)) : ∀ m k s, rngb b' m k s = rng b m k s
  | 0, _, _ => rfl
  | m + 1, k, s => by
    rw [rngb, rng, h]
    cases b k s with
    | inl r => rfl
    | inr s' => exact rngb_as h m (k + 1) s'
theorem HasMember_same (x : List Int) (i : Int) : impl_hasInt_m x i = spec_HasMember_m x i := rfl
theorem hasInt_any (x : List Int) (i : Int) : impl_hasInt_m x i = x.any fun y => y == i := by
  unfold impl_hasInt_m
  rw [rng_any (p := fun y => y == i) (r := true) (fun j _ => rfl)]
  cases x.any fun y => y == i <;> rfl
theorem IsSet_facts {x : List Int} (h : spec_IsSet_m x = true) : x.Pairwise (· < ·) ∧ ∀ y ∈ x, 0 ≤ y ∧ y < 24 := by
  unfold spec_IsSet_m at h
  rw [rng_allN (p := fun k => spec_IsSet_b1 x k == .inr ()) (r := false) (fun k _ => by
    unfold spec_IsSet_b1
    cases spec_l1In_m (gt x k) 0 23 <;> cases decide (0 < ((k : Nat) : Int)) <;> cases decide (gt x k ≤ gt x (k - 1)) <;> rfl), cb_rng, Bool.and_true, List.all_eq_true] at h
  have h1 : ∀ k, k < x.length → (0 ≤ gt x k ∧ gt x k < 24) ∧ (0 < k → gt x (k - 1) < gt x k) := by
    intro k hk
    have h2 := h k (List.mem_range.2 hk)
    unfold spec_IsSet_b1 at h2
    cases h3 : spec_l1In_m (gt x k) 0 23 with
    | false => rw [h3] at h2; cases h2
    | true =>
      have h4 := spec_l1In_fact h3
      refine ⟨by omega, fun hp => ?_⟩
      rw [h3, decide_eq_true (show 0 < ((k : Nat) : Int) by omega)] at h2
      by_cases h5 : gt x k ≤ gt x (k - 1)
      · rw [decide_eq_true h5] at h2; cases h2
      · omega
  refine ⟨adj_rise fun k hp hk => (h1 k hk).2 hp, fun y hy => ?_⟩
  obtain ⟨k, hk, rfl⟩ := List.getElem_of_mem hy
  rw [← gt_at hk]
  exact (h1 k hk).1
theorem spec_MeetSets_form (x y : List Int) : spec_MeetSets_m x y = cond (spec_IsSet_m x && spec_IsSet_m y) (x.filter fun z => spec_HasMember_m y z) [] := by
  unfold spec_MeetSets_m
  cases hx : spec_IsSet_m x with
  | false => rw [rngb_false (fun j s => by unfold spec_MeetSets_b1; rw [hx]; rfl)]; rfl
  | true =>
    cases hy : spec_IsSet_m y with
    | false => rw [rngb_false (fun j s => by unfold spec_MeetSets_b1; rw [hx, hy]; rfl)]; rfl
    | true =>
      rw [rngb_as (b := fun k d => cond (spec_HasMember_m y (gt x k)) (Sum.inr (d ++ [gt x k])) (Sum.inr d)) (fun j s => by unfold spec_MeetSets_b1; rw [hx, hy, cond_true, cond_true]; cases spec_HasMember_m y (gt x j) <;> rfl)]
      rw [rng_fold (xs := x) (f := fun d z => cond (spec_HasMember_m y z) (d ++ [z]) d) (b := fun k d => cond (spec_HasMember_m y (gt x k)) (Sum.inr (d ++ [gt x k])) (Sum.inr d)) (fun j s _ => by cases spec_HasMember_m y (gt x j) <;> rfl), foldl_filter]
      rfl
theorem MeetSets_same (x y : List Int) : impl_MeetSets_m x y = spec_MeetSets_m x y := by
  rw [spec_MeetSets_form]
  unfold impl_MeetSets_m
  rw [IsSet_same, IsSet_same]
  cases hx : spec_IsSet_m x with
  | false => rfl
  | true =>
    cases hy : spec_IsSet_m y with
    | false => rfl
    | true =>
      obtain ⟨h1, h2⟩ := IsSet_facts hx
      show impl_pick_impl_MeetSets_1_m x y = List.filter _ x
      unfold impl_pick_impl_MeetSets_1_m
      rw [rng_rangeFM (n := 24) (c := fun k => x.any (fun z => z == ((k : Nat) : Int)) && spec_HasMember_m y ((k : Nat) : Int)) (g := fun k => ((k : Nat) : Int)) (fun j d _ => by
        unfold impl_pick_impl_MeetSets_1_b1 impl_MeetSets_1_m impl_HasMember_m
        rw [hasInt_any, HasMember_same]
        cases x.any (fun z => z == ((j : Nat) : Int)) <;> cases spec_HasMember_m y ((j : Nat) : Int) <;> rfl), List.range_eq_range']
      exact set_filter (fun z => spec_HasMember_m y z) 24 0 x h1 (fun z hz => by have := h2 z hz; omega)
theorem MeetSets_len (x y : List Int) : (impl_MeetSets_m x y).length ≤ x.length := by
  rw [MeetSets_same, spec_MeetSets_form]
  cases (spec_IsSet_m x && spec_IsSet_m y)
  · exact Nat.zero_le _
  · exact List.length_filter_le _ _
theorem KeepSet_same (x : List DAnnotated) (y : List Int) : impl_KeepSet_m x y = spec_KeepSet_m x y := by
  unfold impl_KeepSet_m spec_KeepSet_m
  have h : (fun k (s : List DAnnotated) => impl_KeepSet_b1 x y k s) = fun k s => spec_KeepSet_b1 x y k s := by
    funext k s; unfold impl_KeepSet_b1 spec_KeepSet_b1; rw [MeetSets_same]
  rw [h]
theorem KeepSet_wt (x : List DAnnotated) (y : List Int) : wtS wtAnnotated (impl_KeepSet_m x y) ≤ wtS wtAnnotated x := by
  unfold impl_KeepSet_m
  rw [rng_fold (xs := x) (f := fun d a => cond (decide (0 < ((impl_MeetSets_m a.Set y).length : Int))) (d ++ [(⟨a.Row, impl_MeetSets_m a.Set y⟩ : DAnnotated)]) d) (b := fun k s => impl_KeepSet_b1 x y k s) (fun j s _ => by
    unfold impl_KeepSet_b1
    cases decide (0 < ((impl_MeetSets_m (gt x j).Set y).length : Int)) <;> rfl), foldl_filterMap]
  show wtS wtAnnotated ([] ++ _) ≤ _
  rw [List.nil_append]
  exact Nat.le_trans (wtS_map wtAnnotated wtAnnotated _ (fun a => by have := MeetSets_len a.Set y; unfold wtAnnotated; show wtRow a.Row + (impl_MeetSets_m a.Set y).length ≤ _; omega) _) (wtS_filter _ _ _)
theorem law_KeepSet (x : List DAnnotated) (y : List Int) (ok : x.length ≤ 9223372036854775807 ∧ ∀ y ∈ x, smAnnotated 9223372036854775807 y) (hy : y.length ≤ 9223372036854775807) : laws_FnExactKeepSet_m x y = true := by
  unfold laws_FnExactKeepSet_m
  rw [laws_toAnnotatedS_eq, laws_toIntS_eq, ← KeepSet_same, laws_eqAnnotatedS_refl, laws_eqAnnotatedS_refl, laws_eqIntS_refl]
  cases hk : decide (1048576 < ((y.length : Nat) : Int)) with
  | true => rfl
  | false =>
  cases hs : decide (laws_szAnnotatedS_m x 1048576 < 0) with
  | true => rfl
  | false =>
    have h2 := of_decide_eq_false hk
    obtain ⟨h1, _, _⟩ := sz_small laws_szAnnotatedS_ok ok (by omega) (by omega) hs
    have hi := KeepSet_wt x y
    obtain ⟨p1, q1, _⟩ := laws_markAnnotatedS_ok.go x 1 (by omega) (by omega)
    obtain ⟨p3, _, _⟩ := laws_markIntS_ok.go y (laws_markAnnotatedS_m x 1).1 (by omega) (by omega)
    obtain ⟨p2, _, r2⟩ := laws_markAnnotatedS_ok.go (impl_KeepSet_m x y) 1 (by omega) (by omega)
    rw [r2, decide_eq_false (by omega), decide_eq_false (by omega), bne_self_eq_false]
    rfl

end Go.Proofs.Ytjcdginailhfmaa
