/-
  The program and the reference compute the same: plain laws over what the walks showed.
-/
import Derived.Test.YtdjendhffbjnhaaL4Law
namespace Go.Proofs.Ytdjendhffbjnhaa
open Go.RowKit
theorem isField_same (x : Int) : impl_isField_m x = spec_l1In_m x 0 2 := rfl
theorem within_same2 : impl_within_m = spec_l1In_m := rfl
theorem IsCond_same (x : DCond) : impl_IsCond_m x = spec_IsCond_m x := by
  unfold impl_IsCond_m spec_IsCond_m
  rw [isField_same, spec_l1In_iff x.Low]
  simp only [cb_and, Bool.decide_and, Bool.and_assoc]
theorem IsQuery_same (x : DQuery) : impl_IsQuery_m x = spec_IsQuery_m x := by
  unfold impl_IsQuery_m spec_IsQuery_m spec_l4Fields_m
  have h1 : (fun k (_ : Unit) => impl_IsQuery_b1 x k) = fun k (_ : Unit) => spec_IsQuery_b1 x k := by
    funext k u; unfold impl_IsQuery_b1 spec_IsQuery_b1; rw [IsCond_same]
  have h2 : (fun k (_ : Unit) => impl_IsQuery_b2 x k) = fun k (_ : Unit) => spec_l4Fields_b1 x.Out k := rfl
  rw [h1, h2]
  rw [rng_allN (b := fun k (_ : Unit) => spec_IsQuery_b1 x k) (p := fun k => spec_IsQuery_b1 x k == .inr ()) (r := false) (fun k _ => by
    unfold spec_IsQuery_b1
    cases spec_IsCond_m (gt x.Conds k) <;> cases decide (0 < ((k : Nat) : Int)) <;> cases decide ((gt x.Conds k).Field ≤ (gt x.Conds (k - 1)).Field) <;> rfl)]
  rw [rng_allN (b := fun k (_ : Unit) => spec_l4Fields_b1 x.Out k) (p := fun k => spec_l4Fields_b1 x.Out k == .inr ()) (r := false) (fun k _ => by
    unfold spec_l4Fields_b1
    cases spec_l1In_m (gt x.Out k) 0 2 <;> rfl)]
  simp only [within_same2, cb_rng, cb_and, cb_nand, cb_lt, Bool.not_not]
  ac_rfl
theorem AreQueries_same (l : List DQuery) : impl_AreQueries_m l = spec_AreQueries_m l := by
  unfold impl_AreQueries_m spec_AreQueries_m
  have h : (fun k (_ : Unit) => impl_AreQueries_b1 l k) = fun k (_ : Unit) => spec_AreQueries_b1 l k := by
    funext k u; unfold impl_AreQueries_b1 spec_AreQueries_b1; rw [IsQuery_same]
  rw [h]
theorem admits_same (q : DQuery) (f v : Int) : impl_admits_m q f v = spec_l5Admits_m q f v := rfl
theorem StabSet_same {l : List DQuery} {f v : Int} (hq : spec_AreQueries_m l = true) (hf : spec_l1In_m f 0 2 = true) (hv : spec_l1In_m v 0 99 = true) : impl_stab_m l f v = spec_StabSet_m l f v := by
  unfold impl_stab_m spec_StabSet_m
  rw [rngb_as (b := fun k d => impl_stab_b1 l f v k d) (fun j s => by
    unfold spec_StabSet_b1 impl_stab_b1
    rw [hq, hf, hv, cond_true, cond_true, cond_true, admits_same]
    cases spec_l5Admits_m (gt l j) f v <;> rfl)]
theorem rng_congr0 {R S : Type} {b b' : Nat → S → R ⊕ S} {n : Nat} (s : S) (h : ∀ j s, j < n → b j s = b' j s) : rng b (n - 0) 0 s = rng b' (n - 0) 0 s := rng_congr h (n - 0) 0 s (by omega)
theorem StabIndex_b_same {l : List DQuery} {f : Int} (hq : spec_AreQueries_m l = true) (hf : spec_l1In_m f 0 2 = true) (j : Nat) (s : List DSpan) (hj : j < 100) : impl_StabIndex_b1 l f j s = spec_StabIndex_b1 l f j s := by
  unfold impl_StabIndex_b1 spec_StabIndex_b1
  rw [StabSet_same hq hf (by rw [l1In_and, decide_eq_true (by omega), decide_eq_true (by omega)]; rfl)]
  rfl
theorem StabIndex_same (l : List DQuery) (f : Int) : impl_StabIndex_m l f = spec_StabIndex_m l f := by
  unfold impl_StabIndex_m spec_StabIndex_m
  rw [AreQueries_same, isField_same]
  cases hq : spec_AreQueries_m l with
  | false => rw [cond_false, cond_false]
  | true =>
    cases hf : spec_l1In_m f 0 2 with
    | false => rw [cond_true, cond_true, cond_false, cond_false]
    | true =>
      rw [rng_congr0 (n := 100) (b := fun k s => impl_StabIndex_b1 l f k s) (b' := fun k s => spec_StabIndex_b1 l f k s) [] (fun j s hj => StabIndex_b_same hq hf j s hj)]
theorem IsIndex_same (x : DIndex) : impl_IsIndex_m x = spec_IsIndex_m x := by
  unfold impl_IsIndex_m spec_IsIndex_m
  rw [AreQueries_same]
  cases spec_AreQueries_m x.Queries with
  | false => rfl
  | true =>
    cases hb : (((x.Fields.length : Nat) : Int) != 3) with
    | true => rfl
    | false =>
      have h3 : x.Fields.length = 3 := by
        by_cases h : ((x.Fields.length : Nat) : Int) = 3
        · omega
        · rw [bne_iff_ne.2 h] at hb; cases hb
      rw [cond_true, cond_true, cond_false, cond_false, h3]
      have hh : (fun k (_ : Unit) => impl_IsIndex_b1 x k) = fun k (_ : Unit) => spec_IsIndex_b1 x k := by
        funext k u; unfold impl_IsIndex_b1 spec_IsIndex_b1; rw [StabIndex_same]; rfl
      rw [hh]
theorem rngb_keep {R S : Type} {b : Nat → S → R ⊕ (S ⊕ S)} {P : S → Prop} (h : ∀ j s, P s → (∃ s', b j s = .inr (.inl s') ∧ P s') ∨ ∃ s', b j s = .inr (.inr s') ∧ P s') : ∀ m k s, P s → ∃ s', rngb b m k s = .inr s' ∧ P s'
  | 0, _, s, hs => ⟨s, rfl, hs⟩
  | m + 1, k, s, hs => by
    rcases h k s hs with ⟨s', h1, h2⟩ | ⟨s', h1, h2⟩
    · exact ⟨s', by rw [rngb, h1]; rfl, h2⟩
    · obtain ⟨s'', h3, h4⟩ := rngb_keep h m (k + 1) s' h2
      exact ⟨s'', by rw [rngb, h1]; exact h3, h4⟩
theorem wrap_probe (s m : Int) : IntKind.i64.wrap (s + IntKind.i64.wrap (1 + m)) = IntKind.i64.wrap (IntKind.i64.wrap (s + 1) + m) := by simp only [IntKind.wrap_i64]; omega
theorem probe_same (x : DIndex) (r : DRow) (o : List Int) : impl_probe_m x r o = spec_l6Probe_m x r o := by
  unfold impl_probe_m spec_l6Probe_m spec_l6All_m
  rw [rng_fold (R := (List Int) × Int) (xs := x.Queries) (f := fun d q => d ++ [q.Id]) (b := fun k s => impl_probe_b1 x k s) (fun _ _ _ => rfl), rng_fold (R := List Int) (xs := x.Queries) (f := fun d q => d ++ [q.Id]) (b := fun k s => spec_l6All_b1 x.Queries k s) (fun _ _ _ => rfl)]
  have hb : (fun k (s : (List Int) × Int) => impl_probe_b2 x r o k s.1 s.2) = fun k (s : (List Int) × Int) => spec_l6Probe_b1 x r o k s.1 s.2 := by
    funext k s
    unfold impl_probe_b2 spec_l6Probe_b1
    rw [wrap_probe, MeetSets_same]
    by_cases h : ((s.1.length : Nat) : Int) = 0
    · rw [beq_iff_eq.2 h, decide_eq_false (by omega)]; rfl
    · rw [beq_eq_false_iff_ne.2 h, decide_eq_true (by omega)]; rfl
  rw [hb]
  rfl
theorem ProbeSet_same (x : DIndex) (r : DRow) (o : List Int) : impl_ProbeSet_m x r o = spec_ProbeSet_m x r o := by
  unfold impl_ProbeSet_m spec_ProbeSet_m
  rw [IsIndex_same, IsRow_same, isOrder_same, probe_same]
theorem MatchSet_same (x : DIndex) (r : DRow) : impl_MatchSet_m x r = spec_MatchSet_m x r := by
  unfold impl_MatchSet_m spec_MatchSet_m
  rw [ProbeSet_same]
theorem MatchSet_len (x : DIndex) (r : DRow) : (impl_MatchSet_m x r).length ≤ x.Queries.length := by
  rw [MatchSet_same]
  unfold spec_MatchSet_m spec_ProbeSet_m
  cases spec_IsIndex_m x with
  | false => exact Nat.zero_le _
  | true =>
    cases spec_IsRow_m r with
    | false => exact Nat.zero_le _
    | true =>
      cases spec_l6Order_m [0, 1, 2] with
      | false => exact Nat.zero_le _
      | true =>
        show (spec_l6Probe_m x r [0, 1, 2]).1.length ≤ _
        unfold spec_l6Probe_m
        obtain ⟨s', h1, h2⟩ := rngb_keep (R := (List Int) × Int) (b := fun k (s : (List Int) × Int) => spec_l6Probe_b1 x r [0, 1, 2] k s.1 s.2) (P := fun s => s.1.length ≤ x.Queries.length) (fun j s hs => by
          show (∃ s', spec_l6Probe_b1 x r [0, 1, 2] j s.1 s.2 = _ ∧ _) ∨ ∃ s', spec_l6Probe_b1 x r [0, 1, 2] j s.1 s.2 = _ ∧ _
          unfold spec_l6Probe_b1
          cases decide (0 < ((s.1.length : Nat) : Int))
          · exact .inl ⟨_, rfl, hs⟩
          · exact .inr ⟨_, rfl, Nat.le_trans (spec_MeetSets_len _ _) hs⟩) (([0, 1, 2] : List Int).length - 0) 0 ((spec_l6All_m x.Queries), 0) (spec_l6All_len _)
        rw [h1]
        exact h2
theorem AnnotateRows_form (x : DIndex) (y : List DRow) : impl_AnnotateRows_m x y = cond (impl_IsIndex_m x) (((y.filter fun r => decide (0 < (((impl_MatchSet_m x r).length : Nat) : Int)))).map fun r => (⟨r, impl_MatchSet_m x r⟩ : DAnnotated)) [] := by
  unfold impl_AnnotateRows_m
  rw [rng_fold (xs := y) (f := fun d r => cond (decide (0 < (((impl_MatchSet_m x r).length : Nat) : Int))) (d ++ [(⟨r, impl_MatchSet_m x r⟩ : DAnnotated)]) d) (b := fun k s => impl_AnnotateRows_b1 x y k s) (fun j s _ => by
    unfold impl_AnnotateRows_b1
    cases decide (0 < (((impl_MatchSet_m x (gt y j)).length : Nat) : Int)) <;> rfl), foldl_filterMap]
  rfl
theorem AnnotateRows_same (x : DIndex) (y : List DRow) : impl_AnnotateRows_m x y = spec_AnnotateRows_m x y := by
  unfold impl_AnnotateRows_m spec_AnnotateRows_m
  rw [IsIndex_same]
  cases h : spec_IsIndex_m x with
  | false => rw [rngb_false (fun j s => by unfold spec_AnnotateRows_b1; rw [h]; rfl)]; rfl
  | true =>
    rw [rngb_as (b := fun k d => impl_AnnotateRows_b1 x y k d) (fun j s => by
      unfold spec_AnnotateRows_b1 impl_AnnotateRows_b1
      rw [h, cond_true, MatchSet_same]
      cases decide (0 < (((spec_MatchSet_m x (gt y j)).length : Nat) : Int)) <;> rfl)]
    rfl
theorem wtS_mapc {α β : Type} (w : α → Nat) (v : β → Nat) (f : α → β) (c : Nat) (h : ∀ x, v (f x) ≤ w x + c) : ∀ xs : List α, wtS v (xs.map f) ≤ wtS w xs + xs.length * c
  | [] => Nat.zero_le _
  | x :: xs => by
    have ih := wtS_mapc w v f c h xs
    have h1 := h x
    have e1 : wtS v ((x :: xs).map f) = 1 + v (f x) + wtS v (xs.map f) := by rw [List.map_cons, ← List.singleton_append, wtS_append, wtS_one]
    have e2 : wtS w (x :: xs) = 1 + w x + wtS w xs := by rw [← List.singleton_append, wtS_append, wtS_one]
    have e3 : (x :: xs).length * c = xs.length * c + c := by rw [List.length_cons, Nat.succ_mul]
    omega
theorem AnnotateRows_wt (x : DIndex) (y : List DRow) : wtS wtAnnotated (impl_AnnotateRows_m x y) ≤ wtS wtRow y + y.length * x.Queries.length := by
  rw [AnnotateRows_form]
  cases impl_IsIndex_m x with
  | false => exact Nat.zero_le _
  | true =>
    show wtS wtAnnotated (List.map _ (List.filter _ y)) ≤ _
    refine Nat.le_trans (wtS_mapc wtRow wtAnnotated _ x.Queries.length (fun r => ?_) _) (Nat.add_le_add (wtS_filter _ _ _) (Nat.mul_le_mul_right _ (List.length_filter_le _ _)))
    have h := MatchSet_len x r
    unfold wtAnnotated
    show wtRow r + (impl_MatchSet_m x r).length ≤ _
    omega
theorem law_AnnotateRows (x : DIndex) (y : List DRow) (ok : smIndex 9223372036854775807 x) (hy : y.length ≤ 9223372036854775807 ∧ ∀ z ∈ y, smRow 9223372036854775807 z) : laws_FnExactAnnotateRows_m x y = true := by
  unfold laws_FnExactAnnotateRows_m
  rw [laws_toIndex_eq, laws_toRowS_eq, ← AnnotateRows_same, laws_eqAnnotatedS_refl, laws_eqIndex_refl, laws_eqRowS_refl]
  cases hs : decide (laws_szIndex_m x 1048576 < 0) with
  | true => rfl
  | false =>
  cases hk : decide (laws_szRowS_m y (laws_szIndex_m x 1048576) < 0) with
  | true => rfl
  | false =>
    obtain ⟨h1, h1b, h1c⟩ := sz_small laws_szIndex_ok ok (by omega) (by omega) hs
    obtain ⟨h2, _, _⟩ := sz_small laws_szRowS_ok hy (by omega) (by omega) hk
    have hi := AnnotateRows_wt x y
    have e1 : wtS wtRow y = y.length + (y.map wtRow).sum := rfl
    have e2 : wtS wtQuery x.Queries = x.Queries.length + (x.Queries.map wtQuery).sum := rfl
    have hq : x.Queries.length ≤ 1048576 := by unfold wtIndex at h1; omega
    have hm : y.length * x.Queries.length ≤ 1048576 * 1048576 := Nat.mul_le_mul (by omega) hq
    have q1 := laws_markIndex_ok.go x 1 (by omega) (by omega)
    have q3 := laws_markRowS_ok.go y (laws_markIndex_m x 1).1 (by omega) (by omega)
    obtain ⟨p2, _, r2⟩ := laws_markAnnotatedS_ok.go (impl_AnnotateRows_m x y) 1 (by omega) (by omega)
    rw [r2, decide_eq_false (by omega), decide_eq_false (by omega), bne_self_eq_false]
    rfl

end Go.Proofs.Ytdjendhffbjnhaa
