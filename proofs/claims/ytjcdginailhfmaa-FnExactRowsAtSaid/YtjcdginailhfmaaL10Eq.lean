/-
  The program and the reference compute the same: plain laws over what the walks showed.
-/
import Derived.Test.YtjcdginailhfmaaL10Law
namespace Go.Proofs.Ytjcdginailhfmaa
open Go.RowKit
theorem Version_ord {v : DVersion} {now : Int} (hn : now ≤ 100000) (h : spec_l7Version_m v now = true) : 0 ≤ v.Born ∧ v.Born ≤ now ∧ (v.Died = -1 ∨ (v.Born + 1 ≤ v.Died ∧ v.Died ≤ now)) := by
  rw [Version_eq] at h
  simp only [Bool.and_eq_true, Bool.or_eq_true, decide_eq_true_eq, beq_iff_eq] at h
  obtain ⟨⟨_, h1, h2⟩, h3⟩ := h
  rw [wrap_id (by omega) (by omega)] at h3
  exact ⟨h1, h2, h3⟩
theorem Visible_eq (v : DVersion) (t : Int) : impl_IsVisible_m v t = decide (v.Born ≤ t ∧ (v.Died = -1 ∨ t < v.Died)) := by
  unfold impl_IsVisible_m
  by_cases h1 : v.Born ≤ t <;> by_cases h2 : v.Died = -1 <;> by_cases h3 : t < v.Died <;> simp [h1, h2, h3]
theorem Apart_eq (v w : DVersion) : spec_l7Apart_m v w = decide (v.Id ≠ w.Id ∨ (v.Died ≠ -1 ∧ v.Died ≤ w.Born) ∨ (w.Died ≠ -1 ∧ w.Died ≤ v.Born)) := by
  unfold spec_l7Apart_m
  by_cases h1 : v.Id = w.Id <;> by_cases h2 : v.Died = -1 <;> by_cases h3 : w.Died = -1 <;> by_cases h4 : v.Died ≤ w.Born <;> simp [h1, h2, h3, h4] <;> (try rw [h2] at h4) <;> (try simp_all) <;> (try rfl)
theorem apart_meet {v w : DVersion} {now : Int} (hn : now ≤ 100000) (hv : spec_l7Version_m v now = true) (hw : spec_l7Version_m w now = true) : spec_l7Apart_m v w = !(v.Id == w.Id && impl_meetInTime_m v w) := by
  obtain ⟨a1, a2, a3⟩ := Version_ord hn hv
  obtain ⟨b1, b2, b3⟩ := Version_ord hn hw
  have hm : impl_meetInTime_m v w = decide ((v.Born ≤ w.Born ∧ (v.Died = -1 ∨ w.Born < v.Died)) ∨ (w.Born ≤ v.Born ∧ (w.Died = -1 ∨ v.Born < w.Died))) := by
    unfold impl_meetInTime_m
    rw [Visible_eq, Visible_eq]
    by_cases h1 : (v.Born ≤ w.Born ∧ (v.Died = -1 ∨ w.Born < v.Died)) <;> by_cases h2 : (w.Born ≤ v.Born ∧ (w.Died = -1 ∨ v.Born < w.Died)) <;> simp [h1, h2]
  rw [hm, Apart_eq]
  have hb : (v.Id == w.Id) = decide (v.Id = w.Id) := by by_cases h : v.Id = w.Id <;> simp [h]
  rw [hb, ← Bool.decide_and, ← decide_not]
  apply decide_eq_decide.2
  omega
theorem seenF_same {now : Int} (hn : now ≤ 100000) : ∀ (l seen : List DVersion), (∀ w ∈ seen, spec_l7Version_m w now = true) → seenF (okI now) seen l = seenF (okS now) seen l
  | [], _, _ => rfl
  | v :: l, seen, hs => by
    show (okI now seen v && seenF (okI now) (seen ++ [v]) l) = (okS now seen v && seenF (okS now) (seen ++ [v]) l)
    unfold okI okS
    cases hv : spec_l7Version_m v now with
    | false => rfl
    | true =>
      have e : (seen.all fun w => !(v.Id == w.Id && impl_meetInTime_m v w)) = seen.all fun w => spec_l7Apart_m v w := by
        rw [Bool.eq_iff_iff, List.all_eq_true, List.all_eq_true]
        exact ⟨fun h w hw => by rw [apart_meet hn hv (hs w hw)]; exact h w hw, fun h w hw => by rw [← apart_meet hn hv (hs w hw)]; exact h w hw⟩
      have ih := seenF_same hn l (seen ++ [v]) (fun w hw => by
        rcases List.mem_append.1 hw with h | h
        · exact hs w h
        · rw [List.mem_singleton.1 h]; exact hv)
      unfold okI okS at ih
      rw [e, ih]
theorem IsStore_same (x : DStore) : impl_IsStore_m x = spec_IsStore_m x := by
  rw [impl_IsStore_form, spec_IsStore_form]
  unfold storeB
  by_cases h : 0 ≤ x.Now ∧ x.Now ≤ 100000
  · rw [seenF_same h.2 _ [] (fun w hw => by cases hw)]
  · rw [decide_eq_false h, Bool.and_false, Bool.false_and]
    rfl
theorem foldl_cat {α β : Type} (F : α → List β) : ∀ (xs : List α) (d : List β), xs.foldl (fun d a => d ++ F a) d = d ++ xs.flatMap F
  | [], d => by simp
  | x :: xs, d => by rw [List.foldl_cons, foldl_cat F xs]; simp
theorem segR_flatten (vis : DVersion → Bool) (l : List (List DVersion)) : segR vis l.flatten = l.flatMap (segR vis) := by
  unfold segR
  rw [List.filter_flatten, List.map_flatten, List.map_map]
  rfl
theorem lessInts_lex (x y : List Int) : spec_l3LessInts_m x y = decide (lexI x y < 0) := by
  unfold spec_l3LessInts_m
  have h : ∀ m k, m + k = x.length → k ≤ y.length → Sum.elim id (fun (_ : Unit) => decide (((x.length : Nat) : Int) < ((y.length : Nat) : Int))) (rngb (R := Bool) (fun k (_ : Unit) => spec_l3LessInts_b1 x y k) m k ()) = decide (lexI (x.drop k) (y.drop k) < 0) := by
    intro m
    induction m with
    | zero =>
      intro k hk hy
      rw [rngb]
      show decide (((x.length : Nat) : Int) < ((y.length : Nat) : Int)) = _
      rw [List.drop_of_length_le (l := x) (by omega)]
      by_cases h2 : x.length < y.length
      · rw [decide_eq_true (by omega), List.drop_eq_getElem_cons (show k < y.length by omega)]; rfl
      · rw [decide_eq_false (by omega), List.drop_of_length_le (l := y) (by omega)]; rfl
    | succ m ih =>
      intro k hk hy
      rw [rngb]
      show Sum.elim id _ (Sum.elim Sum.inl (Sum.elim Sum.inr (fun _ => rngb _ m (k + 1) ())) (spec_l3LessInts_b1 x y k)) = _
      unfold spec_l3LessInts_b1
      by_cases h1 : k < y.length
      · rw [decide_eq_true (show ((k : Nat) : Int) < ((y.length : Nat) : Int) by omega), List.drop_eq_getElem_cons (show k < x.length by omega), List.drop_eq_getElem_cons h1, lexI, ← gt_at, ← gt_at]
        by_cases h2 : gt x k = gt y k
        · rw [h2, bne_self_eq_false, if_neg (by omega), if_neg (by omega)]
          exact ih (k + 1) (by omega) (by omega)
        · rw [bne_iff_ne.2 h2]
          show decide (gt x k < gt y k) = _
          by_cases h3 : gt x k < gt y k
          · rw [if_pos h3, decide_eq_true h3]; rfl
          · rw [if_neg h3, if_pos (by omega), decide_eq_false h3]; rfl
      · rw [decide_eq_false (show ¬ ((k : Nat) : Int) < ((y.length : Nat) : Int) by omega), List.drop_of_length_le (l := y) (by omega), List.drop_eq_getElem_cons (show k < x.length by omega)]
        show decide (((x.length : Nat) : Int) < ((y.length : Nat) : Int)) = _
        rw [decide_eq_false (by omega)]; rfl
  exact h (x.length - 0) 0 (by omega) (Nat.zero_le _)
theorem less_same (a b : DRow) : spec_l3Less_m a b = lt0 impl_SortRows_1_m a b := by
  rw [Bool.eq_iff_iff, rows_lt]
  unfold spec_l3Less_m
  rw [lessInts_lex]
  by_cases h : a.Id = b.Id
  · rw [h, bne_self_eq_false, cond_false, decide_eq_true_eq]
    exact ⟨fun x => .inr ⟨rfl, x⟩, fun x => by rcases x with x | x; exact absurd x (by omega); exact x.2⟩
  · rw [bne_iff_ne.2 h, cond_true, decide_eq_true_eq]
    exact ⟨.inl, fun x => by rcases x with x | x; exact x; exact absurd x.1 h⟩
theorem sortPos (x : List DRow) (j : Nat) (d : List DRow) : ∀ m k s, s < m → s ≤ d.length → ∃ s', rngb (R := List DRow) (fun k (s : Nat) => spec_SortRows_b2 x j d k s) m k s = .inr s' ∧ s' ≤ s ∧ (∀ i, s' ≤ i → i < s → lt0 impl_SortRows_1_m (gt x j) (gt d i) = true) ∧ (s' = 0 ∨ lt0 impl_SortRows_1_m (gt x j) (gt d (s' - 1)) = false)
  | 0, _, _, h, _ => by omega
  | m + 1, k, s, h, hd => by
    rw [rngb]
    show ∃ s', Sum.elim Sum.inl (Sum.elim Sum.inr (fun s => rngb _ m (k + 1) s)) (spec_SortRows_b2 x j d k s) = _ ∧ _
    unfold spec_SortRows_b2
    rw [less_same]
    by_cases h0 : 0 < s
    · rw [decide_eq_true (show (0 : Int) < ((s : Nat) : Int) by omega)]
      cases hl : lt0 impl_SortRows_1_m (gt x j) (gt d (s - 1)) with
      | false => exact ⟨s, rfl, Nat.le_refl _, fun i _ _ => by omega, .inr hl⟩
      | true =>
        obtain ⟨s', e1, e2, e3, e4⟩ := sortPos x j d m (k + 1) (s - 1) (by omega) (by omega)
        refine ⟨s', e1, by omega, fun i hi hs => ?_, e4⟩
        by_cases hq : i = s - 1
        · rw [hq]; exact hl
        · exact e3 i hi (by omega)
    · rw [decide_eq_false (show ¬ (0 : Int) < ((s : Nat) : Int) by omega)]
      exact ⟨s, rfl, Nat.le_refl _, fun i _ _ => by omega, .inl (by omega)⟩
theorem pw_insert {lt : DRow → DRow → Bool} (o : Ord lt) {d : List DRow} {x : DRow} {s : Nat} (hs : s ≤ d.length) (hd : d.Pairwise fun a b => lt b a = false) (h1 : ∀ i, s ≤ i → i < d.length → lt x (gt d i) = true) (h2 : s = 0 ∨ lt x (gt d (s - 1)) = false) :
    (d.take s ++ [x] ++ d.drop s).Pairwise fun a b => lt b a = false := by
  have hA : ∀ a ∈ d.take s, lt x a = false := fun a ha => by
    obtain ⟨i, hi, rfl⟩ := List.mem_iff_getElem.1 ha
    rw [List.length_take] at hi
    rw [List.getElem_take, ← gt_at (by omega)]
    rcases h2 with h2 | h2
    · omega
    · by_cases hq : i = s - 1
      · rw [hq]; exact h2
      · refine o.tr (gt d i) (gt d (s - 1)) x ?_ h2
        rw [gt_at (show i < d.length by omega), gt_at (show s - 1 < d.length by omega)]
        exact List.pairwise_iff_getElem.1 hd i (s - 1) _ _ (by omega)
  have hB : ∀ b ∈ d.drop s, lt b x = false := fun b hb => by
    obtain ⟨i, hi, rfl⟩ := List.mem_iff_getElem.1 hb
    rw [List.length_drop] at hi
    rw [List.getElem_drop, ← gt_at (by omega)]
    exact o.asym _ _ (h1 (s + i) (by omega) (by omega))
  have hC : (d.take s ++ d.drop s).Pairwise fun a b => lt b a = false := by rw [List.take_append_drop]; exact hd
  rw [List.pairwise_append] at hC
  rw [List.append_assoc, List.pairwise_append]
  refine ⟨hC.1, ?_, fun a ha b hb => ?_⟩
  · rw [List.singleton_append, List.pairwise_cons]
    exact ⟨hB, hC.2.1⟩
  · rw [List.singleton_append] at hb
    rcases List.mem_cons.1 hb with rfl | hb
    · exact hA a ha
    · exact hC.2.2 a ha b hb
theorem SortRows_same (x : List DRow) : spec_SortRows_m x = impl_SortRows_m x := by
  unfold spec_SortRows_m
  obtain ⟨d, e1, e2, e3⟩ := rng_inv (R := List DRow) (body := fun k s => spec_SortRows_b1 x k s) (n := x.length) (fun k d => d.Perm (x.take k) ∧ d.Pairwise fun a b => lt0 impl_SortRows_1_m b a = false) (fun k d hk ⟨hp, hw⟩ => by
    unfold spec_SortRows_b1
    obtain ⟨s, q1, q2, q3, q4⟩ := sortPos x k d (d.length + 1) 0 d.length (by omega) (Nat.le_refl _)
    refine ⟨_, by rw [Nat.sub_zero, q1]; rfl, ?_, pw_insert impl_SortRows_1_ord q2 hw q3 q4⟩
    rw [List.take_add_one, List.getElem?_eq_getElem hk, ← gt_at hk]
    refine List.Perm.trans ?_ (hp.append_right _)
    show (d.take s ++ [gt x k] ++ d.drop s).Perm (d ++ [gt x k])
    have h2 : (d.take s ++ ([gt x k] ++ d.drop s)).Perm (d.take s ++ (d.drop s ++ [gt x k])) := List.perm_append_comm.append_left _
    rw [← List.append_assoc, ← List.append_assoc, List.take_append_drop] at h2
    exact h2) x.length 0 [] (by omega) ⟨List.Perm.refl _, List.Pairwise.nil⟩
  rw [Nat.sub_zero, e1]
  show d = stb (lt0 impl_SortRows_1_m) x
  obtain ⟨s1, s2⟩ := stb_ok impl_SortRows_1_ord x
  rw [List.take_length] at e2
  refine List.Perm.eq_of_pairwise (le := fun a b => lt0 impl_SortRows_1_m b a = false) (fun a b _ _ h1 h2 => ?_) e3 s2 (e2.trans s1.symm)
  have k1 : ¬ _ := fun h => by rw [(rows_lt b a).2 h] at h1; cases h1
  have k2 : ¬ _ := fun h => by rw [(rows_lt a b).2 h] at h2; cases h2
  have hi : a.Id = b.Id := by omega
  have hv : lexI a.Values b.Values = 0 := by
    have n1 := lexI_pos a.Values b.Values
    by_cases c1 : lexI a.Values b.Values < 0
    · exact absurd (.inr ⟨hi, c1⟩) k2
    · by_cases c2 : 0 < lexI a.Values b.Values
      · exact absurd (.inr ⟨hi.symm, n1 c2⟩) k1
      · omega
  have hv := lexI_eq _ _ hv
  cases a; cases b
  cases hi; cases hv; rfl
theorem spec_RowsAt_form (x : DStore) (t : Int) : spec_RowsAt_m x t = cond (spec_IsStore_m x) (impl_SortRows_m (x.Segments.flatMap (segR fun v => spec_IsVisible_m v t))) [] := by
  unfold spec_RowsAt_m
  rw [SortRows_same, spec_l7Rows_form, l7All_form, segR_flatten]
theorem impl_RowsAt_form (x : DStore) (t : Int) : impl_RowsAt_m x t = cond (impl_IsStore_m x) (impl_SortRows_m (x.Segments.flatMap (segR fun v => impl_IsVisible_m v t))) [] := by
  unfold impl_RowsAt_m
  rw [rng_fold (xs := x.Segments) (f := fun d s => d ++ segR (fun v => impl_IsVisible_m v t) s) (b := fun k s => impl_RowsAt_b1 x t k s) (fun j s _ => by unfold impl_RowsAt_b1; rw [segRows_form]), foldl_cat]
  rfl
theorem RowsAt_same (x : DStore) (t : Int) : impl_RowsAt_m x t = spec_RowsAt_m x t := by
  rw [impl_RowsAt_form, spec_RowsAt_form, IsStore_same]
  rfl
theorem wtS_perm {α : Type} (w : α → Nat) {xs ys : List α} (h : xs.Perm ys) : wtS w xs = wtS w ys := by
  unfold wtS
  rw [h.length_eq, (h.map w).sum_nat]
theorem wtS_flatMap {α β : Type} {w : β → Nat} {v : α → Nat} {f : List α → List β} (h : ∀ s, wtS w (f s) ≤ wtS v s) : ∀ l : List (List α), wtS w (l.flatMap f) ≤ wtS (wtS v) l
  | [] => Nat.zero_le _
  | s :: l => by
    have h1 := wtS_flatMap h l
    have h2 := h s
    have e : wtS (wtS v) (s :: l) = 1 + wtS v s + wtS (wtS v) l := by
      rw [← List.singleton_append, wtS_append, wtS_one]
    rw [List.flatMap_cons, wtS_append]
    omega
theorem segR_wt (vis : DVersion → Bool) (s : List DVersion) : wtS wtRow (segR vis s) ≤ wtS wtVersion s := by
  unfold segR
  exact Nat.le_trans (wtS_map wtVersion wtRow _ (fun v => Nat.le_refl _) _) (wtS_filter _ _ _)
theorem RowsAt_wt (x : DStore) (t : Int) : wtS wtRow (impl_RowsAt_m x t) ≤ wtStore x := by
  rw [impl_RowsAt_form]
  cases impl_IsStore_m x with
  | false => exact Nat.zero_le _
  | true =>
    show wtS wtRow (stb (lt0 impl_SortRows_1_m) _) ≤ _
    rw [wtS_perm wtRow (stb_ok impl_SortRows_1_ord _).1]
    exact wtS_flatMap (segR_wt _) _
theorem law_RowsAt (x : DStore) (t : Int) (ok : smStore 9223372036854775807 x) : laws_FnExactRowsAt_m x t = true := by
  unfold laws_FnExactRowsAt_m
  rw [laws_toStore_eq, ← RowsAt_same, laws_eqRowS_refl, laws_eqStore_refl]
  cases hs : decide (laws_szStore_m x 1048576 < 0) with
  | true => rfl
  | false =>
    obtain ⟨h1, _, _⟩ := sz_small laws_szStore_ok ok (by omega) (by omega) hs
    have hi := RowsAt_wt x t
    have q1 := laws_markStore_ok.go x 1 (by omega) (by omega)
    obtain ⟨p2, _, r2⟩ := laws_markRowS_ok.go (impl_RowsAt_m x t) 1 (by omega) (by omega)
    rw [r2, decide_eq_false (by omega), decide_eq_false (by omega), bne_self_eq_false]
    rfl

end Go.Proofs.Ytjcdginailhfmaa
