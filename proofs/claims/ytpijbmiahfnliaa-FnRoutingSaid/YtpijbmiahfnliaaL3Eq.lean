/-
  The program and the reference compute the same: plain laws over what the walks showed.
-/
import Derived.Test.YtpijbmiahfnliaaL3Law
namespace Go.Proofs.Ytpijbmiahfnliaa
open Go.RowKit
theorem EqualAnnotated_same (x y : List DAnnotated) : impl_EqualAnnotated_m x y = spec_EqualAnnotated_m x y := rfl
theorem RouteRows_same (x : List DAnnotated) (i : Int) : impl_RouteRows_m x i = spec_RouteRows_m x i := rfl
theorem KeepSet_same (x : List DAnnotated) (y : List Int) : impl_KeepSet_m x y = spec_KeepSet_m x y := by
  unfold impl_KeepSet_m spec_KeepSet_m
  have h : (fun k (s : List DAnnotated) => impl_KeepSet_b1 x y k s) = fun k s => spec_KeepSet_b1 x y k s := by
    funext k s; unfold impl_KeepSet_b1 spec_KeepSet_b1; rw [MeetSets_same]
  rw [h]
theorem IsRow_iff (r : DRow) : spec_IsRow_m r = true ↔ (∀ z ∈ r.Values, 0 ≤ z ∧ z ≤ 99) ∧ (0 ≤ r.Id ∧ r.Id ≤ 999) ∧ r.Values.length = 3 := by
  unfold spec_IsRow_m
  rw [rng_allB (xs := r.Values) (p := fun z => decide (0 ≤ z ∧ z ≤ 99)) (r := false) (fun k _ => by
    unfold spec_IsRow_b1
    rw [spec_l1In_iff]), spec_l1In_iff]
  have e : (r.Values.all fun z => decide (0 ≤ z ∧ z ≤ 99)) = true ↔ ∀ z ∈ r.Values, 0 ≤ z ∧ z ≤ 99 := by simp only [List.all_eq_true, decide_eq_true_eq]
  rw [← e]
  cases (r.Values.all fun z => decide (0 ≤ z ∧ z ≤ 99)) with
  | false => exact ⟨fun h => (by cases h), fun h => (by cases h.1)⟩
  | true =>
    show cond (decide (0 ≤ r.Id ∧ r.Id ≤ 999)) (((r.Values.length : Nat) : Int) == 3) false = true ↔ _
    by_cases h1 : 0 ≤ r.Id ∧ r.Id ≤ 999
    · rw [decide_eq_true h1, cond_true, beq_iff_eq]
      exact ⟨fun h => ⟨rfl, h1, by omega⟩, fun h => by omega⟩
    · rw [decide_eq_false h1]
      exact ⟨fun h => (by cases h), fun h => absurd h.2.1 h1⟩
theorem l2Ints_refl (z : List Int) : spec_l2Ints_m z z = true := by
  unfold spec_l2Ints_m
  rw [bne_self_eq_false, rng_all (fun j _ => by unfold spec_l2Ints_b1; rw [bne_self_eq_false]; rfl)]
  rfl
theorem EqualRows_refl (z : List DRow) : spec_EqualRows_m z z = true := by
  unfold spec_EqualRows_m
  rw [bne_self_eq_false, rng_all (fun j _ => by unfold spec_EqualRows_b1 spec_l3Same_m; rw [beq_self_eq_true, l2Ints_refl]; rfl)]
  rfl
theorem l2Ints_of {x y : List Int} (h : spec_l2Ints_m x y = true) : x = y := by
  unfold spec_l2Ints_m at h
  by_cases hl : x.length = y.length
  · rw [show (((x.length : Nat) : Int) != ((y.length : Nat) : Int)) = false from by rw [hl, bne_self_eq_false], cond_false, rng_allN (p := fun k => !(gt x k != gt y k)) (r := false) (fun k _ => by unfold spec_l2Ints_b1; cases gt x k != gt y k <;> rfl)] at h
    have ha : (List.range x.length).all (fun k => !(gt x k != gt y k)) = true := by
      cases hc : (List.range x.length).all (fun k => !(gt x k != gt y k)) with
      | true => rfl
      | false => rw [hc] at h; cases h
    rw [List.all_eq_true] at ha
    apply List.ext_getElem hl
    intro i h1 h2
    have := ha i (List.mem_range.2 h1)
    rw [Bool.not_eq_true', bne_eq_false_iff_eq, gt_at h1, gt_at h2] at this
    exact this
  · rw [bne_iff_ne.2 (show ((x.length : Nat) : Int) ≠ ((y.length : Nat) : Int) by omega)] at h
    cases h
def inSpan (s : DSpan) (v : Int) : Bool := decide (s.From ≤ v ∧ v ≤ s.To)
def findS : List DSpan → Int → List Int
  | [], _ => []
  | s :: l, v => cond (inSpan s v) s.Set (findS l v)
theorem FindSpan_form (l : List DSpan) (v : Int) : spec_FindSpan_m l v = findS l v := by
  have key : ∀ m k, m + k = l.length → Sum.elim id (fun (_ : Unit) => []) (rng (R := List Int) (fun k (_ : Unit) => spec_FindSpan_b1 l v k) m k ()) = findS (l.drop k) v := by
    intro m
    induction m with
    | zero => intro k hk; rw [List.drop_of_length_le (by omega)]; rfl
    | succ m ih =>
      intro k hk
      have hlt : k < l.length := by omega
      rw [List.drop_eq_getElem_cons hlt, ← gt_at hlt, rng]
      show Sum.elim id (fun (_ : Unit) => []) (Sum.elim Sum.inl (fun s' => rng (R := List Int) (fun k (_ : Unit) => spec_FindSpan_b1 l v k) m (k + 1) s') (spec_FindSpan_b1 l v k)) = cond (inSpan (gt l k) v) (gt l k).Set (findS (l.drop (k + 1)) v)
      unfold spec_FindSpan_b1 inSpan
      rw [spec_l1In_iff]
      cases decide ((gt l k).From ≤ v ∧ v ≤ (gt l k).To) with
      | true => rfl
      | false => exact ih (k + 1) (by omega)
  have := key (l.length - 0) 0 (by omega)
  rw [List.drop_zero] at this
  exact this
theorem findS_out {z : DSpan} {v : Int} (h : inSpan z v = false) : ∀ p : List DSpan, findS (p ++ [z]) v = findS p v
  | [] => by show cond (inSpan z v) _ _ = _; rw [h]; rfl
  | s :: p => by show cond (inSpan s v) _ (findS (p ++ [z]) v) = cond (inSpan s v) _ (findS p v); rw [findS_out h p]
theorem findS_in {z : DSpan} {v : Int} (h : inSpan z v = true) : ∀ p : List DSpan, (∀ s ∈ p, inSpan s v = false) → findS (p ++ [z]) v = z.Set
  | [], _ => by show cond (inSpan z v) _ _ = _; rw [h]; rfl
  | s :: p, hp => by
    show cond (inSpan s v) _ (findS (p ++ [z]) v) = _
    rw [hp s (List.mem_cons_self ..), findS_in h p (fun s' hs => hp s' (List.mem_cons_of_mem _ hs))]
    rfl
theorem findS_last {z z' : DSpan} {v : Int} (h : inSpan z v = inSpan z' v) (hs : z.Set = z'.Set) : ∀ p : List DSpan, findS (p ++ [z]) v = findS (p ++ [z']) v
  | [] => by show cond (inSpan z v) _ _ = cond (inSpan z' v) _ _; rw [h, hs]
  | s :: p => by show cond (inSpan s v) _ (findS (p ++ [z]) v) = cond (inSpan s v) _ (findS (p ++ [z']) v); rw [findS_last h hs p]
def StabJ (T : Int → List Int) (k : Nat) (d : List DSpan) : Prop :=
  (k = 0 ∧ d = []) ∨ ∃ p z, d = p ++ [z] ∧ z.To = ((k : Nat) : Int) - 1 ∧ z.From ≤ ((k : Nat) : Int) - 1 ∧ z.Set = T (((k : Nat) : Int) - 1) ∧ (∀ s ∈ p, s.To < z.From) ∧ ∀ v : Int, 0 ≤ v → v < ((k : Nat) : Int) → findS d v = T v
theorem Stab_step {l : List DQuery} {f : Int} (k : Nat) (d : List DSpan) (h : StabJ (fun v => spec_StabSet_m l f v) k d) : ∃ d', spec_StabIndex_b1 l f k d = .inr d' ∧ StabJ (fun v => spec_StabSet_m l f v) (k + 1) d' := by
  unfold spec_StabIndex_b1
  rcases h with ⟨rfl, rfl⟩ | ⟨p, z, rfl, h1, h2, h3, h4, h5⟩
  · refine ⟨[⟨0, 0, spec_StabSet_m l f 0⟩], rfl, .inr ⟨[], _, rfl, rfl, (by show (0 : Int) ≤ _; omega), rfl, (fun s hs => by cases hs), fun v v0 v1 => ?_⟩⟩
    have hv : v = 0 := by omega
    subst hv
    rfl
  · have hl : (p ++ [z]).length - 1 = p.length := by rw [List.length_append]; show p.length + 1 - 1 = _; omega
    have hg : gt (p ++ [z]) p.length = z := by
      rw [gt_at (by rw [List.length_append]; show p.length < p.length + 1; omega), List.getElem_append_right (Nat.le_refl _)]
      simp
    have hset : ∀ y, (p ++ [z]).set p.length y = p ++ [y] := fun y => by
      rw [List.set_append_right _ _ (Nat.le_refl _), Nat.sub_self]; rfl
    rw [decide_eq_true (show (0 : Int) < (((p ++ [z]).length : Nat) : Int) by rw [List.length_append]; show (0 : Int) < ((p.length + 1 : Nat) : Int); omega), cond_true, hl, hg, hset]
    have hz : ∀ s ∈ p, inSpan s ((k : Nat) : Int) = false := fun s hs => decide_eq_false (by have := h4 s hs; omega)
    cases hc : spec_l2Ints_m z.Set (spec_StabSet_m l f ((k : Nat) : Int)) with
    | true =>
      have he := l2Ints_of hc
      refine ⟨_, rfl, .inr ⟨p, _, rfl, (by show ((k : Nat) : Int) = ((k + 1 : Nat) : Int) - 1; omega), (by show z.From ≤ ((k + 1 : Nat) : Int) - 1; omega), (by show z.Set = spec_StabSet_m l f (((k + 1 : Nat) : Int) - 1); rw [he]; congr 1; omega), h4, fun v v0 v1 => ?_⟩⟩
      by_cases hv : v = ((k : Nat) : Int)
      · rw [hv, findS_in (decide_eq_true (by show z.From ≤ ((k : Nat) : Int) ∧ ((k : Nat) : Int) ≤ ((k : Nat) : Int); omega)) p hz]
        exact he
      · rw [← h5 v v0 (by omega)]
        refine (findS_last (z := z) (z' := ⟨z.From, ((k : Nat) : Int), z.Set⟩) (v := v) ?_ rfl p).symm
        unfold inSpan
        apply decide_eq_decide.2
        show _ ↔ (z.From ≤ v ∧ v ≤ ((k : Nat) : Int))
        omega
    | false =>
      refine ⟨_, rfl, .inr ⟨p ++ [z], _, rfl, (by show ((k : Nat) : Int) = ((k + 1 : Nat) : Int) - 1; omega), (by show ((k : Nat) : Int) ≤ ((k + 1 : Nat) : Int) - 1; omega), (by show spec_StabSet_m l f ((k : Nat) : Int) = spec_StabSet_m l f (((k + 1 : Nat) : Int) - 1); congr 1; omega), fun s hs => ?_, fun v v0 v1 => ?_⟩⟩
      · show s.To < ((k : Nat) : Int)
        rcases List.mem_append.1 hs with h | h
        · have := h4 s h; omega
        · rw [List.mem_singleton.1 h]; omega
      · by_cases hv : v = ((k : Nat) : Int)
        · rw [hv, findS_in (decide_eq_true (by show ((k : Nat) : Int) ≤ ((k : Nat) : Int) ∧ ((k : Nat) : Int) ≤ ((k : Nat) : Int); omega)) (p ++ [z]) (fun s hs => by
            rcases List.mem_append.1 hs with h | h
            · exact hz s h
            · rw [List.mem_singleton.1 h]; exact decide_eq_false (by omega))]
        · rw [findS_out (decide_eq_false (by show ¬ (((k : Nat) : Int) ≤ v ∧ _); omega)), h5 v v0 (by omega)]
theorem Find_Stab {l : List DQuery} {f v : Int} (hq : spec_AreQueries_m l = true) (hf : 0 ≤ f ∧ f ≤ 2) (hv : 0 ≤ v ∧ v ≤ 99) : spec_FindSpan_m (spec_StabIndex_m l f) v = spec_StabSet_m l f v := by
  rw [FindSpan_form]
  unfold spec_StabIndex_m
  rw [hq, spec_l1In_iff, decide_eq_true hf, cond_true, cond_true]
  obtain ⟨d, e, h⟩ := rng_inv (R := List DSpan) (body := fun k (s : List DSpan) => spec_StabIndex_b1 l f k s) (n := 100) (StabJ (fun v => spec_StabSet_m l f v)) (fun k d _ h => Stab_step k d h) (100 - 0) 0 [] (by omega) (.inl ⟨rfl, rfl⟩)
  rw [e]
  rcases h with ⟨h, _⟩ | ⟨p, z, _, _, _, _, _, h⟩
  · exact absurd h (by omega)
  · exact h v (by omega) (by show v < 100; omega)
theorem StabSet_form {l : List DQuery} {f v : Int} (hq : spec_AreQueries_m l = true) (hf : 0 ≤ f ∧ f ≤ 2) (hv : 0 ≤ v ∧ v ≤ 99) : spec_StabSet_m l f v = (l.filter fun q => spec_l5Admits_m q f v).map fun q => q.Id := by
  unfold spec_StabSet_m
  rw [rngb_as (b := fun k d => cond (spec_l5Admits_m (gt l k) f v) (Sum.inr (d ++ [(gt l k).Id])) (Sum.inr d)) (fun j s => by
    unfold spec_StabSet_b1
    rw [hq, spec_l1In_iff, spec_l1In_iff, decide_eq_true hf, decide_eq_true hv]
    cases spec_l5Admits_m (gt l j) f v <;> rfl)]
  rw [rng_fold (xs := l) (f := fun d q => cond (spec_l5Admits_m q f v) (d ++ [q.Id]) d) (b := fun k d => cond (spec_l5Admits_m (gt l k) f v) (Sum.inr (d ++ [(gt l k).Id])) (Sum.inr d)) (fun j s _ => by cases spec_l5Admits_m (gt l j) f v <;> rfl), foldl_filterMap]
  rfl
theorem EqualSpans_of {x y : List DSpan} (h : spec_EqualSpans_m x y = true) : x = y := by
  unfold spec_EqualSpans_m at h
  by_cases hl : x.length = y.length
  · rw [show (((x.length : Nat) : Int) != ((y.length : Nat) : Int)) = false from by rw [hl, bne_self_eq_false], cond_false, rng_allN (p := fun k => !((gt x k).From != (gt y k).From) && !((gt x k).To != (gt y k).To) && spec_l2Ints_m (gt x k).Set (gt y k).Set) (r := false) (fun k _ => by
      unfold spec_EqualSpans_b1
      cases (gt x k).From != (gt y k).From <;> cases (gt x k).To != (gt y k).To <;> cases spec_l2Ints_m (gt x k).Set (gt y k).Set <;> rfl)] at h
    have ha : (List.range x.length).all (fun k => !((gt x k).From != (gt y k).From) && !((gt x k).To != (gt y k).To) && spec_l2Ints_m (gt x k).Set (gt y k).Set) = true := by
      revert h
      cases (List.range x.length).all (fun k => !((gt x k).From != (gt y k).From) && !((gt x k).To != (gt y k).To) && spec_l2Ints_m (gt x k).Set (gt y k).Set) with
      | true => intro _; rfl
      | false => intro h; cases h
    rw [List.all_eq_true] at ha
    apply List.ext_getElem hl
    intro i h1 h2
    have := ha i (List.mem_range.2 h1)
    rw [Bool.and_eq_true, Bool.and_eq_true, Bool.not_eq_true', Bool.not_eq_true', bne_eq_false_iff_eq, bne_eq_false_iff_eq, gt_at h1, gt_at h2] at this
    obtain ⟨⟨a, b⟩, c⟩ := this
    have c := l2Ints_of c
    revert a b c
    cases x[i]; cases y[i]
    rintro rfl rfl rfl
    rfl
  · rw [bne_iff_ne.2 (show ((x.length : Nat) : Int) ≠ ((y.length : Nat) : Int) by omega)] at h
    cases h
theorem Index_parts {x : DIndex} (h : spec_IsIndex_m x = true) : spec_AreQueries_m x.Queries = true ∧ x.Fields.length = 3 ∧ ∀ k, k < 3 → gt x.Fields k = spec_StabIndex_m x.Queries ((k : Nat) : Int) := by
  unfold spec_IsIndex_m at h
  cases hq : spec_AreQueries_m x.Queries with
  | false => rw [hq] at h; cases h
  | true =>
    rw [hq, cond_true] at h
    by_cases h3 : ((x.Fields.length : Nat) : Int) = 3
    · rw [show (((x.Fields.length : Nat) : Int) != 3) = false from by rw [h3]; rfl, cond_false, rng_allN (p := fun k => spec_EqualSpans_m (gt x.Fields k) (spec_StabIndex_m x.Queries ((k : Nat) : Int))) (r := false) (fun k _ => by
        unfold spec_IsIndex_b1
        cases spec_EqualSpans_m (gt x.Fields k) (spec_StabIndex_m x.Queries ((k : Nat) : Int)) <;> rfl)] at h
      have ha : (List.range 3).all (fun k => spec_EqualSpans_m (gt x.Fields k) (spec_StabIndex_m x.Queries ((k : Nat) : Int))) = true := by
        revert h
        cases (List.range 3).all (fun k => spec_EqualSpans_m (gt x.Fields k) (spec_StabIndex_m x.Queries ((k : Nat) : Int))) with
        | true => intro _; rfl
        | false => intro h; cases h
      rw [List.all_eq_true] at ha
      exact ⟨rfl, by omega, fun k hk => EqualSpans_of (ha k (List.mem_range.2 hk))⟩
    · rw [bne_iff_ne.2 h3] at h; cases h
def ordQ (l : List DQuery) (k : Nat) : Bool := !decide (0 < ((k : Nat) : Int)) || !decide ((gt l k).Id ≤ (gt l (k - 1)).Id)
theorem chain_pw {α : Type} [Inhabited α] {g : α → Int} {l : List α} (h : ∀ k, 0 < k → k < l.length → g (gt l (k - 1)) < g (gt l k)) : l.Pairwise (fun a b => g a < g b) := by
  have hc : ∀ c i, i + c + 1 < l.length → g (gt l i) < g (gt l (i + c + 1)) := fun c => by
    induction c with
    | zero => intro i hi; exact h (i + 1) (by omega) hi
    | succ c ih =>
      intro i hi
      have a := ih i (by omega)
      have b := h (i + (c + 1) + 1) (by omega) hi
      rw [show i + (c + 1) + 1 - 1 = i + c + 1 by omega] at b
      omega
  rw [List.pairwise_iff_getElem]
  intro i j hi hj hij
  have := hc (j - i - 1) i (by omega)
  rw [show i + (j - i - 1) + 1 = j by omega, gt_at hi, gt_at hj] at this
  exact this
theorem Queries_fact {l : List DQuery} (h : spec_AreQueries_m l = true) : l.length ≤ 24 ∧ (∀ q ∈ l, spec_IsQuery_m q = true) ∧ l.Pairwise (fun a b => a.Id < b.Id) := by
  unfold spec_AreQueries_m at h
  rw [rng_allN (p := fun k => spec_IsQuery_m (gt l k) && ordQ l k) (r := false) (fun k _ => by
    unfold spec_AreQueries_b1 ordQ
    cases spec_IsQuery_m (gt l k) <;> cases decide (0 < ((k : Nat) : Int)) <;> cases decide ((gt l k).Id ≤ (gt l (k - 1)).Id) <;> rfl)] at h
  have ha : (List.range l.length).all (fun k => spec_IsQuery_m (gt l k) && ordQ l k) = true ∧ decide (((l.length : Nat) : Int) ≤ 24) = true := by
    revert h
    cases (List.range l.length).all (fun k => spec_IsQuery_m (gt l k) && ordQ l k) with
    | true => intro h; exact ⟨rfl, h⟩
    | false => intro h; cases h
  obtain ⟨ha, hl⟩ := ha
  rw [decide_eq_true_eq] at hl
  rw [List.all_eq_true] at ha
  refine ⟨by omega, fun q hq => ?_, chain_pw (g := fun q : DQuery => q.Id) fun k k0 k1 => ?_⟩
  · obtain ⟨i, hi, rfl⟩ := List.mem_iff_getElem.1 hq
    have := ha i (List.mem_range.2 hi)
    rw [Bool.and_eq_true] at this
    rw [← gt_at hi]; exact this.1
  · have := ha k (List.mem_range.2 k1)
    rw [Bool.and_eq_true] at this
    have h2 := this.2
    unfold ordQ at h2
    rw [decide_eq_true (show (0 : Int) < ((k : Nat) : Int) by omega), Bool.not_true, Bool.false_or, Bool.not_eq_true', decide_eq_false_iff_not] at h2
    omega
def admB (q : DQuery) (f v : Int) : Bool := q.Conds.all fun c => !(c.Field == f) || decide (c.Low ≤ v ∧ v ≤ c.High)
theorem Admits_form (q : DQuery) (f v : Int) : spec_l5Admits_m q f v = admB q f v := by
  unfold spec_l5Admits_m admB
  rw [rng_allB (xs := q.Conds) (p := fun c => !(c.Field == f) || decide (c.Low ≤ v ∧ v ≤ c.High)) (r := false) (fun k _ => by
    unfold spec_l5Admits_b1
    rw [spec_l1In_iff]
    cases (gt q.Conds k).Field == f <;> cases decide ((gt q.Conds k).Low ≤ v ∧ v ≤ (gt q.Conds k).High) <;> rfl)]
  cases q.Conds.all fun c => !(c.Field == f) || decide (c.Low ≤ v ∧ v ≤ c.High) <;> rfl
theorem IsSet_of {x : List Int} (h1 : x.Pairwise (fun a b => a < b)) (h2 : ∀ y ∈ x, 0 ≤ y ∧ y ≤ 23) : spec_IsSet_m x = true := by
  unfold spec_IsSet_m
  rw [rng_all (fun k hk => by
    unfold spec_IsSet_b1
    rw [spec_l1In_iff, decide_eq_true (h2 _ (gt_mem hk)), cond_true]
    by_cases h0 : 0 < k
    · rw [decide_eq_true (show (0 : Int) < ((k : Nat) : Int) by omega), decide_eq_false (show ¬ gt x k ≤ gt x (k - 1) by
        have := List.pairwise_iff_getElem.1 h1 (k - 1) k (by omega) hk (by omega)
        rw [gt_at hk, gt_at (by omega)]
        omega)]
      rfl
    · rw [decide_eq_false (show ¬ (0 : Int) < ((k : Nat) : Int) by omega)]
      rfl)]
  rfl
theorem ids_set {l : List DQuery} (hq : spec_AreQueries_m l = true) (p : DQuery → Bool) : spec_IsSet_m ((l.filter p).map fun q => q.Id) = true := by
  obtain ⟨_, hq1, hpw⟩ := Queries_fact hq
  refine IsSet_of ?_ (fun y hy => ?_)
  · rw [List.pairwise_map]; exact hpw.filter p
  · obtain ⟨q, hq', rfl⟩ := List.mem_map.1 hy
    exact (Query_fact (hq1 q (List.mem_filter.1 hq').1)).1
theorem id_inj {l : List DQuery} (h : l.Pairwise (fun a b => a.Id < b.Id)) {a b : DQuery} (ha : a ∈ l) (hb : b ∈ l) (he : a.Id = b.Id) : a = b := by
  obtain ⟨i, hi, rfl⟩ := List.mem_iff_getElem.1 ha
  obtain ⟨j, hj, rfl⟩ := List.mem_iff_getElem.1 hb
  rcases Nat.lt_trichotomy i j with c | rfl | c
  · have := List.pairwise_iff_getElem.1 h i j hi hj c; omega
  · rfl
  · have := List.pairwise_iff_getElem.1 h j i hj hi c; omega
theorem member_any (x : List Int) (i : Int) : spec_HasMember_m x i = x.any fun y => y == i := by
  unfold spec_HasMember_m
  rw [rng_any (p := fun y => y == i) (r := true) (fun j _ => rfl)]
  cases x.any fun y => y == i <;> rfl
theorem member_ids {l : List DQuery} (hq : spec_AreQueries_m l = true) (r : DQuery → Bool) {q : DQuery} (hm : q ∈ l) : spec_HasMember_m ((l.filter r).map fun q => q.Id) q.Id = r q := by
  obtain ⟨_, _, hpw⟩ := Queries_fact hq
  rw [member_any]
  cases hr : r q with
  | true => rw [List.any_eq_true]; exact ⟨q.Id, List.mem_map.2 ⟨q, List.mem_filter.2 ⟨hm, hr⟩, rfl⟩, beq_self_eq_true _⟩
  | false =>
    rw [List.any_eq_false]
    intro y hy
    obtain ⟨q', h1, rfl⟩ := List.mem_map.1 hy
    rw [beq_iff_eq]
    intro he
    obtain ⟨h2, h3⟩ := List.mem_filter.1 h1
    rw [id_inj hpw h2 hm he, hr] at h3
    cases h3
theorem meet_ids {l : List DQuery} (hq : spec_AreQueries_m l = true) (p r : DQuery → Bool) : spec_MeetSets_m ((l.filter p).map fun q => q.Id) ((l.filter r).map fun q => q.Id) = (l.filter fun q => p q && r q).map fun q => q.Id := by
  rw [spec_MeetSets_form, ids_set hq, ids_set hq]
  show List.filter _ (List.map _ _) = _
  rw [List.filter_map, List.filter_filter]
  refine congrArg (List.map _) (List.filter_congr fun q hq' => ?_)
  show (spec_HasMember_m ((l.filter r).map fun q => q.Id) q.Id && p q) = (p q && r q)
  rw [member_ids hq r hq', Bool.and_comm]
def admN (r : DRow) (k : Nat) (q : DQuery) : Bool := (List.range k).all fun f => admB q ((f : Nat) : Int) (gt r.Values f)
theorem admN_succ (r : DRow) (k : Nat) (q : DQuery) : admN r (k + 1) q = (admN r k q && admB q ((k : Nat) : Int) (gt r.Values k)) := by
  unfold admN
  rw [List.range_succ, List.all_append]
  simp
theorem admN_mono {r : DRow} {k n : Nat} {q : DQuery} (hk : k ≤ n) (h : admN r n q = true) : admN r k q = true := by
  unfold admN at h ⊢
  rw [List.all_eq_true] at h ⊢
  intro f hf
  exact h f (List.mem_range.2 (by have := List.mem_range.1 hf; omega))
theorem Probe_is {x : DIndex} {r : DRow} (hx : spec_IsIndex_m x = true) (hr : spec_IsRow_m r = true) : (spec_l6Probe_m x r [0, 1, 2]).1 = (x.Queries.filter (admN r 3)).map fun q => q.Id := by
  obtain ⟨hq, _, hf⟩ := Index_parts hx
  obtain ⟨hv, _, h3⟩ := (IsRow_iff r).1 hr
  have hfind : ∀ k, k < 3 → spec_FindSpan_m (gt x.Fields k) (gt r.Values k) = (x.Queries.filter fun q => admB q ((k : Nat) : Int) (gt r.Values k)).map fun q => q.Id := fun k hk => by
    rw [hf k hk, Find_Stab hq (by omega) (hv _ (gt_mem (by omega))), StabSet_form hq (by omega) (hv _ (gt_mem (by omega)))]
    refine congrArg (List.map _) (List.filter_congr fun q _ => Admits_form q _ _)
  have hg : ∀ k, k < 3 → (gt ([0, 1, 2] : List Int) k).toNat = k := fun k hk => by
    rcases k with _ | _ | _ | k
    · rfl
    · rfl
    · rfl
    · omega
  unfold spec_l6Probe_m
  have hall : spec_l6All_m x.Queries = (x.Queries.filter (admN r 0)).map fun q => q.Id := by
    unfold spec_l6All_m
    rw [rng_fold (xs := x.Queries) (f := fun d q => d ++ [q.Id]) (b := fun k s => spec_l6All_b1 x.Queries k s) (fun _ _ _ => rfl)]
    show x.Queries.foldl _ [] = _
    have h1 := foldl_filterMap (fun _ : DQuery => true) (fun q : DQuery => q.Id) x.Queries []
    have h2 : x.Queries.filter (admN r 0) = x.Queries.filter (fun _ => true) := List.filter_congr fun q _ => rfl
    rw [h2]
    exact h1
  obtain ⟨s', e, h⟩ := rngb_invN (R := (List Int) × Int) (b := fun k (s : (List Int) × Int) => spec_l6Probe_b1 x r [0, 1, 2] k s.1 s.2) (n := 3) (P := fun k s => s.1 = (x.Queries.filter (admN r k)).map fun q => q.Id) (Q := fun s => s.1 = (x.Queries.filter (admN r 3)).map fun q => q.Id) (fun k s hk hs => by
    show (∃ s', spec_l6Probe_b1 x r [0, 1, 2] k s.1 s.2 = _ ∧ _) ∨ ∃ s', spec_l6Probe_b1 x r [0, 1, 2] k s.1 s.2 = _ ∧ _
    unfold spec_l6Probe_b1
    by_cases h0 : 0 < s.1.length
    · rw [decide_eq_true (show (0 : Int) < ((s.1.length : Nat) : Int) by omega), cond_true, hg k hk]
      refine .inl ⟨_, rfl, ?_⟩
      show spec_MeetSets_m s.1 _ = _
      rw [hfind k hk, hs, meet_ids hq]
      exact congrArg (List.map _) (List.filter_congr fun q _ => (admN_succ r k q).symm)
    · rw [decide_eq_false (show ¬ (0 : Int) < ((s.1.length : Nat) : Int) by omega), cond_false]
      refine .inr ⟨_, rfl, ?_⟩
      have hnil : s.1 = [] := List.eq_nil_of_length_eq_zero (by omega)
      rw [hnil] at hs
      show s.1 = _
      rw [hnil]
      have h1 : x.Queries.filter (admN r k) = [] := List.map_eq_nil_iff.1 hs.symm
      have h2 : x.Queries.filter (admN r 3) = [] := by
        rw [List.filter_eq_nil_iff] at h1 ⊢
        exact fun q hq' h => h1 q hq' (admN_mono (by omega) h)
      rw [h2]
      rfl) (([0, 1, 2] : List Int).length - 0) 0 ((spec_l6All_m x.Queries), 0) rfl hall
  rw [e]
  exact h.elim id id
theorem Match_is {x : DIndex} {r : DRow} (hx : spec_IsIndex_m x = true) (hr : spec_IsRow_m r = true) : spec_MatchSet_m x r = (x.Queries.filter (admN r 3)).map fun q => q.Id := by
  unfold spec_MatchSet_m spec_ProbeSet_m
  rw [hx, hr]
  rw [show spec_l6Order_m [0, 1, 2] = true from rfl]
  exact Probe_is hx hr
theorem Matches_is {q : DQuery} {r : DRow} (hq : spec_IsQuery_m q = true) (hr : spec_IsRow_m r = true) : spec_MatchesRow_m q r = admN r 3 q := by
  have hf := (Query_fact hq).2
  unfold spec_MatchesRow_m
  rw [hq, hr]
  rw [rngb_as (b := fun k (_ : Unit) => cond (decide ((gt q.Conds k).Low ≤ gt r.Values (gt q.Conds k).Field.toNat ∧ gt r.Values (gt q.Conds k).Field.toNat ≤ (gt q.Conds k).High)) (Sum.inr ()) (Sum.inl false)) (fun j s => by
    unfold spec_MatchesRow_b1
    rw [hq, hr, spec_l1In_iff]
    cases decide ((gt q.Conds j).Low ≤ gt r.Values (gt q.Conds j).Field.toNat ∧ gt r.Values (gt q.Conds j).Field.toNat ≤ (gt q.Conds j).High) <;> rfl)]
  rw [rng_allB (xs := q.Conds) (p := fun c => decide (c.Low ≤ gt r.Values c.Field.toNat ∧ gt r.Values c.Field.toNat ≤ c.High)) (r := false) (fun k _ => rfl)]
  have e : (q.Conds.all fun c => decide (c.Low ≤ gt r.Values c.Field.toNat ∧ gt r.Values c.Field.toNat ≤ c.High)) = admN r 3 q := by
    rw [Bool.eq_iff_iff]
    unfold admN admB
    simp only [List.all_eq_true, List.mem_range, Bool.or_eq_true, Bool.not_eq_true', beq_eq_false_iff_ne, decide_eq_true_eq]
    constructor
    · intro h f hf3 c hc
      by_cases he : c.Field = ((f : Nat) : Int)
      · right
        have := h c hc
        rw [he, Int.toNat_natCast] at this
        exact this
      · exact .inl he
    · intro h c hc
      have hb := hf c hc
      rcases h c.Field.toNat (by omega) c hc with h1 | h1
      · exact absurd (by omega) h1
      · exact h1
  rw [e]
  cases admN r 3 q <;> rfl
theorem EqualAnnotated_refl (z : List DAnnotated) : spec_EqualAnnotated_m z z = true := by
  unfold spec_EqualAnnotated_m
  rw [bne_self_eq_false, rng_all (fun j _ => by unfold spec_EqualAnnotated_b1 spec_l3Same_m; rw [beq_self_eq_true, l2Ints_refl, l2Ints_refl]; rfl)]
  rfl
theorem Matches_no {q : DQuery} {r : DRow} (hr : spec_IsRow_m r = false) : spec_MatchesRow_m q r = false := by
  unfold spec_MatchesRow_m
  rw [hr, rngb_false (fun j s => by unfold spec_MatchesRow_b1; rw [hr]; rfl)]
  rfl
theorem range_gt {α : Type} [Inhabited α] (xs : List α) : (List.range xs.length).map (gt xs) = xs := by
  refine List.ext_getElem (by rw [List.length_map, List.length_range]) fun i h1 h2 => ?_
  rw [List.getElem_map, List.getElem_range, gt_at h2]
theorem sum_range_le {f : Nat → Nat} {c : Nat} : ∀ k, (∀ j, j < k → f j ≤ c) → ((List.range k).map f).sum ≤ k * c
  | 0, _ => Nat.zero_le _
  | k + 1, h => by
    rw [List.range_succ, List.map_append, List.sum_append, Nat.add_mul]
    have h1 := sum_range_le k fun j hj => h j (by omega)
    have h2 := h k (by omega)
    show _ + (f k + 0) ≤ _
    omega
theorem rng_sumB {R : Type} {n : Nat} {f : Nat → Nat} {b : Nat → Int → R ⊕ Int} (hb : ∀ j s, j < n → b j s = .inr (IntKind.i64.wrap (s + ((f j : Nat) : Int)))) (hf : ∀ j, j < n → f j ≤ 1000) (hn : n ≤ 1000) : rng b (n - 0) 0 0 = .inr ((((List.range n).map f).sum : Nat) : Int) := by
  obtain ⟨s, e, h⟩ := rng_inv (body := b) (n := n) (fun k s => s = ((((List.range k).map f).sum : Nat) : Int)) (fun k s hk h => by
    refine ⟨_, hb k s hk, ?_⟩
    have h1 := sum_range_le (f := f) (c := 1000) k fun j hj => hf j (by omega)
    have h2 := hf k hk
    have h3 : k * 1000 ≤ 1000 * 1000 := Nat.mul_le_mul_right _ (by omega)
    show IntKind.i64.wrap (s + ((f k : Nat) : Int)) = _
    rw [List.range_succ, List.map_append, List.sum_append]
    show _ = (((((List.range k).map f).sum + (f k + 0) : Nat)) : Int)
    rw [wrap_id (by omega) (by omega)]
    omega) (n - 0) 0 0 (by omega) rfl
  rw [e, h]
theorem sum_zero {α : Type} {f : α → Nat} : ∀ xs : List α, (∀ x ∈ xs, f x = 0) → (xs.map f).sum = 0
  | [], _ => rfl
  | x :: xs, h => by
    rw [List.map_cons, List.sum_cons, h x (List.mem_cons_self ..), sum_zero xs fun y hy => h y (List.mem_cons_of_mem _ hy)]
theorem sum_add {α : Type} {f g : α → Nat} : ∀ xs : List α, (xs.map fun x => f x + g x).sum = (xs.map f).sum + (xs.map g).sum
  | [] => rfl
  | x :: xs => by
    rw [List.map_cons, List.sum_cons, List.map_cons, List.sum_cons, List.map_cons, List.sum_cons, sum_add xs]
    omega
theorem sum_ind {α : Type} {p : α → Bool} : ∀ xs : List α, (xs.map fun x => if p x = true then 1 else 0).sum = (xs.filter p).length
  | [] => rfl
  | x :: xs => by
    rw [List.map_cons, List.sum_cons, sum_ind xs, List.filter_cons]
    split
    · rw [List.length_cons]; omega
    · omega
theorem sum_swap {α β : Type} (p : α → β → Bool) (ys : List β) : ∀ xs : List α, (xs.map fun x => (ys.filter fun y => p x y).length).sum = (ys.map fun y => (xs.filter fun x => p x y).length).sum
  | [] => (sum_zero ys fun _ _ => rfl).symm
  | x :: xs => by
    rw [List.map_cons, List.sum_cons, sum_swap p ys xs, ← sum_ind, ← sum_add]
    refine congrArg List.sum (List.map_congr_left fun y _ => ?_)
    rw [List.filter_cons]
    split
    · rw [List.length_cons]; omega
    · omega
theorem sum_filter0 {α : Type} {f : α → Nat} {p : α → Bool} : ∀ xs : List α, (∀ x ∈ xs, p x = false → f x = 0) → ((xs.filter p).map f).sum = (xs.map f).sum
  | [], _ => rfl
  | x :: xs, h => by
    have ih := sum_filter0 (f := f) (p := p) xs fun y hy => h y (List.mem_cons_of_mem _ hy)
    rw [List.filter_cons]
    split
    · rw [List.map_cons, List.sum_cons, ih, List.map_cons, List.sum_cons]
    · rename_i hp
      rw [ih, List.map_cons, List.sum_cons, h x (List.mem_cons_self ..) (Bool.eq_false_iff.2 hp), Nat.zero_add]
theorem MatchSet_no {x : DIndex} {r : DRow} (hr : spec_IsRow_m r = false) : spec_MatchSet_m x r = [] := by
  unfold spec_MatchSet_m spec_ProbeSet_m
  rw [hr]
  cases spec_IsIndex_m x <;> rfl
theorem Match_len {x : DIndex} (hx : spec_IsIndex_m x = true) (r : DRow) : (spec_MatchSet_m x r).length = (x.Queries.filter fun q => spec_MatchesRow_m q r).length := by
  obtain ⟨hq, _, _⟩ := Index_parts hx
  obtain ⟨_, hq1, _⟩ := Queries_fact hq
  cases hr : spec_IsRow_m r with
  | false =>
    rw [MatchSet_no hr, List.filter_eq_nil_iff.2 (fun q _ => by rw [Matches_no hr]; exact Bool.false_ne_true)]
    rfl
  | true =>
    rw [Match_is hx hr, List.length_map]
    exact congrArg List.length (List.filter_congr fun q hm => (Matches_is (hq1 q hm) hr).symm)
theorem Match_member {x : DIndex} (hx : spec_IsIndex_m x = true) (r : DRow) {q : DQuery} (hm : q ∈ x.Queries) : spec_HasMember_m (spec_MatchSet_m x r) q.Id = spec_MatchesRow_m q r := by
  obtain ⟨hq, _, _⟩ := Index_parts hx
  obtain ⟨_, hq1, _⟩ := Queries_fact hq
  cases hr : spec_IsRow_m r with
  | false => rw [MatchSet_no hr, Matches_no hr]; rfl
  | true => rw [Match_is hx hr, member_ids hq _ hm, Matches_is (hq1 q hm) hr]
theorem HasMember_both (x : List Int) (i : Int) : impl_HasMember_m x i = spec_HasMember_m x i := HasMember_same x i
theorem Route_is {x : DIndex} (hx : spec_IsIndex_m x = true) (rows : List DRow) {q : DQuery} (hm : q ∈ x.Queries) : impl_RouteRows_m (spec_AnnotateRows_m x rows) q.Id = rows.filter fun r => spec_MatchesRow_m q r := by
  rw [RouteRows_form, spec_Annotate_form, hx, cond_true, List.filter_map, List.map_map, List.filter_filter]
  show List.map (fun r => r) _ = _
  rw [List.map_id']
  refine List.filter_congr fun r _ => ?_
  show (impl_HasMember_m (spec_MatchSet_m x r) q.Id && decide (0 < (((spec_MatchSet_m x r).length : Nat) : Int))) = _
  rw [HasMember_both, Match_member hx r hm]
  cases h : spec_MatchesRow_m q r with
  | false => rfl
  | true =>
    have h1 := Match_member hx r hm
    rw [h] at h1
    rw [Bool.true_and, decide_eq_true_eq]
    cases e : spec_MatchSet_m x r with
    | nil => rw [e] at h1; cases h1
    | cons a l => rw [List.length_cons]; omega
theorem AnswerAlone_form (q : DQuery) (rows : List DRow) : spec_AnswerAlone_m q rows = spec_SortRows_m (rows.filter fun r => spec_MatchesRow_m q r) := by
  unfold spec_AnswerAlone_m
  rw [rng_fold (xs := rows) (f := fun d r => cond (spec_MatchesRow_m q r) (d ++ [r]) d) (b := fun k s => spec_AnswerAlone_b1 q rows k s) (fun j s _ => by
    unfold spec_AnswerAlone_b1
    cases spec_MatchesRow_m q (gt rows j) <;> rfl)]
  have h := foldl_filterMap (fun r => spec_MatchesRow_m q r) (fun r : DRow => r) rows []
  show spec_SortRows_m (List.foldl _ [] rows) = _
  rw [h, List.map_id']
  rfl
theorem rngb_or {R : Type} {b : Nat → Unit → R ⊕ (Unit ⊕ Unit)} {n : Nat} {r : R} (h : ∀ k, k < n → b k () = .inr (.inr ()) ∨ b k () = .inr (.inl ()) ∨ b k () = .inl r) : ∀ m k, m + k = n → rngb b m k () = .inr () ∨ rngb b m k () = .inl r
  | 0, _, _ => .inl rfl
  | m + 1, k, e => by
    rcases h k (by omega) with h1 | h1 | h1
    · rw [rngb, h1]; exact rngb_or h m (k + 1) (by omega)
    · rw [rngb, h1]; exact .inl rfl
    · rw [rngb, h1]; exact .inr rfl
theorem Keep_route {a : List DAnnotated} {set : List Int} {i : Int} (hs : spec_IsSet_m set = true) (ha : ∀ y ∈ a, spec_IsSet_m y.Set = true) (hi : i ∈ set) : impl_RouteRows_m (impl_KeepSet_m a set) i = impl_RouteRows_m a i := by
  rw [RouteRows_form, RouteRows_form, KeepSet_form, List.filter_map, List.map_map, List.filter_filter]
  show List.map (fun y : DAnnotated => y.Row) _ = _
  refine congrArg (List.map fun y : DAnnotated => y.Row) (List.filter_congr fun y hy => ?_)
  show (impl_HasMember_m (impl_MeetSets_m y.Set set) i && decide (0 < ((impl_MeetSets_m y.Set set).length : Int))) = impl_HasMember_m y.Set i
  rw [MeetSets_same, spec_MeetSets_form, hs, ha y hy, Bool.and_true, cond_true, HasMember_both, HasMember_both, member_any, member_any]
  have hsi : spec_HasMember_m set i = true := by rw [member_any, List.any_eq_true]; exact ⟨i, hi, beq_self_eq_true i⟩
  cases h : y.Set.any fun z => z == i with
  | false =>
    have : ((y.Set.filter fun z => spec_HasMember_m set z).any fun z => z == i) = false := by
      rw [List.any_eq_false] at h ⊢
      exact fun z hz => h z (List.mem_filter.1 hz).1
    rw [this]
    rfl
  | true =>
    obtain ⟨z, hz, he⟩ := List.any_eq_true.1 h
    have he' : z = i := by rwa [beq_iff_eq] at he
    subst he'
    have hmem : z ∈ y.Set.filter fun z => spec_HasMember_m set z := List.mem_filter.2 ⟨hz, hsi⟩
    rw [show ((y.Set.filter fun z => spec_HasMember_m set z).any fun y => y == z) = true from List.any_eq_true.2 ⟨z, hmem, beq_self_eq_true z⟩, Bool.true_and, decide_eq_true_eq]
    have := List.length_pos_of_mem hmem
    omega
theorem CountRouted_sum (l : List DAnnotated) (h1 : l.length ≤ 1000) (h2 : ∀ a ∈ l, a.Set.length ≤ 1000) : impl_CountRouted_m l = (((l.map fun a => a.Set.length).sum : Nat) : Int) := by
  unfold impl_CountRouted_m
  rw [rng_sumB (b := fun k s => impl_CountRouted_b1 l k s) (n := l.length) (f := fun j => (gt l j).Set.length) (fun j s _ => rfl) (fun j hj => h2 _ (gt_mem hj)) h1]
  show (((List.map (fun j => (gt l j).Set.length) (List.range l.length)).sum : Nat) : Int) = _
  have e : List.map (fun j => (gt l j).Set.length) (List.range l.length) = l.map fun a => a.Set.length := by
    have := congrArg (List.map fun a : DAnnotated => a.Set.length) (range_gt l)
    rw [List.map_map] at this
    exact this
  rw [e]
theorem law_Routing (x0 : List Int) : laws_FnRouting_m x0 = true := by
  unfold laws_FnRouting_m
  cases laws_big_m x0 with
  | true => rfl
  | false =>
  rw [AnnotateRows_same, EqualAnnotated_refl, cond_false, cond_true]
  have hk : rngb (R := Bool) (fun k (_ : Unit) => laws_FnRouting_b2 x0 k) (((spec_DrawKeepSet_m x0).2).length - 0) 0 () = .inr () ∨ rngb (R := Bool) (fun k (_ : Unit) => laws_FnRouting_b2 x0 k) (((spec_DrawKeepSet_m x0).2).length - 0) 0 () = .inl true := by
    refine rngb_or (n := (spec_DrawKeepSet_m x0).2.length) (fun k hk => ?_) _ 0 (by omega)
    show laws_FnRouting_b2 x0 k = _ ∨ laws_FnRouting_b2 x0 k = _ ∨ laws_FnRouting_b2 x0 k = _
    unfold laws_FnRouting_b2
    cases hs : spec_IsSet_m (spec_DrawKeepSet_m x0).2 with
    | false => exact .inr (.inl rfl)
    | true =>
      rw [cond_true, rng_allB (xs := (spec_DrawKeepSet_m x0).1) (p := fun y => spec_IsSet_m y.Set) (r := true) (fun j _ => by
        unfold laws_FnRouting_b3
        rw [KeepSet_same, EqualAnnotated_refl])]
      cases ha : (spec_DrawKeepSet_m x0).1.all fun y => spec_IsSet_m y.Set with
      | false => exact .inr (.inr rfl)
      | true =>
        rw [List.all_eq_true] at ha
        show cond (spec_EqualRows_m (impl_RouteRows_m (impl_KeepSet_m (spec_DrawKeepSet_m x0).1 (spec_DrawKeepSet_m x0).2) _) _) _ _ = _ ∨ cond _ _ _ = _ ∨ cond _ _ _ = _
        rw [Keep_route hs ha (gt_mem hk), EqualRows_refl]
        exact .inl rfl
  have hn : rngb (R := Bool) (fun k (s : Int) => laws_FnRouting_b1 x0 k s) ((((spec_DrawAnnotateRows_m x0).1).Queries).length - 0) 0 0 = .inr (impl_CountRouted_m (spec_AnnotateRows_m (spec_DrawAnnotateRows_m x0).1 (spec_DrawAnnotateRows_m x0).2)) := by
    have hd := (spec_DrawAnnotateRows_fact x0).2.1
    cases hx : spec_IsIndex_m (spec_DrawAnnotateRows_m x0).1 with
    | false =>
      rw [rngb_false (fun j s => by unfold laws_FnRouting_b1; rw [hx]; rfl), spec_Annotate_form, hx]
      rfl
    | true =>
      obtain ⟨hq, _, _⟩ := Index_parts hx
      obtain ⟨hql, _, _⟩ := Queries_fact hq
      rw [rngb_rng (n := (spec_DrawAnnotateRows_m x0).1.Queries.length) (b := fun k (s : Int) => (.inr (IntKind.i64.wrap (s + ((((spec_DrawAnnotateRows_m x0).2.filter fun r => spec_MatchesRow_m (gt (spec_DrawAnnotateRows_m x0).1.Queries k) r).length : Nat) : Int))) : Bool ⊕ Int)) (fun j s hj => by
        unfold laws_FnRouting_b1
        rw [hx, cond_true, AnnotateRows_same, Route_is hx _ (gt_mem hj), AnswerAlone_form, EqualRows_refl]
        rfl) _ 0 0 (by omega)]
      rw [rng_sumB (n := (spec_DrawAnnotateRows_m x0).1.Queries.length) (f := fun k => ((spec_DrawAnnotateRows_m x0).2.filter fun r => spec_MatchesRow_m (gt (spec_DrawAnnotateRows_m x0).1.Queries k) r).length) (fun j s _ => rfl) (fun j hj => by have := List.length_filter_le (fun r => spec_MatchesRow_m (gt (spec_DrawAnnotateRows_m x0).1.Queries j) r) (spec_DrawAnnotateRows_m x0).2; omega) (by omega)]
      have hP := spec_Annotate_form (spec_DrawAnnotateRows_m x0).1 (spec_DrawAnnotateRows_m x0).2
      rw [hx, cond_true] at hP
      have hM : ∀ r, (spec_MatchSet_m (spec_DrawAnnotateRows_m x0).1 r).length ≤ 1000 := fun r => by have := spec_MatchSet_len (spec_DrawAnnotateRows_m x0).1 r; omega
      rw [CountRouted_sum _ (by rw [hP, List.length_map]; have := List.length_filter_le (fun r => decide (0 < (((spec_MatchSet_m (spec_DrawAnnotateRows_m x0).1 r).length : Nat) : Int))) (spec_DrawAnnotateRows_m x0).2; omega) (fun a ha => by
        rw [hP] at ha
        obtain ⟨r, _, rfl⟩ := List.mem_map.1 ha
        exact hM r), hP, List.map_map]
      refine congrArg (fun n : Nat => (.inr ((n : Nat) : Int) : Bool ⊕ Int)) ?_
      have e1 : List.map (fun k => ((spec_DrawAnnotateRows_m x0).2.filter fun r => spec_MatchesRow_m (gt (spec_DrawAnnotateRows_m x0).1.Queries k) r).length) (List.range (spec_DrawAnnotateRows_m x0).1.Queries.length) = (spec_DrawAnnotateRows_m x0).1.Queries.map fun q => ((spec_DrawAnnotateRows_m x0).2.filter fun r => spec_MatchesRow_m q r).length := by
        have := congrArg (List.map fun q => ((spec_DrawAnnotateRows_m x0).2.filter fun r => spec_MatchesRow_m q r).length) (range_gt (spec_DrawAnnotateRows_m x0).1.Queries)
        rw [List.map_map] at this
        exact this
      rw [e1, sum_swap]
      show _ = (List.map (fun r => (spec_MatchSet_m (spec_DrawAnnotateRows_m x0).1 r).length) (List.filter _ _)).sum
      rw [sum_filter0 _ (fun r _ h => by rw [decide_eq_false_iff_not] at h; omega)]
      exact congrArg List.sum (List.map_congr_left fun r _ => (Match_len hx r).symm)
  rw [hn]
  show Sum.elim id _ (rngb (R := Bool) (fun k (_ : Unit) => laws_FnRouting_b2 x0 k) (((spec_DrawKeepSet_m x0).2).length - 0) 0 ()) = true
  rcases hk with hk | hk
  · rw [hk]
    show cond (impl_CountRouted_m _ == impl_CountRouted_m _) (cond (spec_EqualAnnotated_m (impl_KeepSet_m _ _) _) (cond (spec_EqualRows_m (impl_RouteRows_m _ _) _) (impl_EqualAnnotated_m _ _ == spec_EqualAnnotated_m _ _) false) false) false = true
    rw [beq_self_eq_true, KeepSet_same, EqualAnnotated_refl, RouteRows_same, EqualRows_refl, EqualAnnotated_same, beq_self_eq_true]
    rfl
  · rw [hk]
    rfl

end Go.Proofs.Ytpijbmiahfnliaa
