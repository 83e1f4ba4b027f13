/-
  The program and the reference compute the same: plain laws over what the walks showed.
-/
import Derived.Test.YtglapeecbnaipaaL5Law
namespace Go.Proofs.Ytglapeecbnaipaa
open Go.RowKit
theorem foldl_cat {α β : Type} (F : α → List β) : ∀ (xs : List α) (d : List β), xs.foldl (fun d a => d ++ F a) d = d ++ xs.flatMap F
  | [], d => by simp
  | x :: xs, d => by rw [List.foldl_cons, foldl_cat F xs]; simp
theorem segR_flatten (vis : DVersion → Bool) (l : List (List DVersion)) : segR vis l.flatten = l.flatMap (segR vis) := by
  unfold segR
  rw [List.filter_flatten, List.map_flatten, List.map_map]
  rfl
theorem lessInts_lex (x y : List Int) : spec_l3LessInts_m x y = decide (lexI x y < 0) := by
  unfold spec_l3LessInts_m
  have h : ∀ m k, m + k = x.length → k ≤ y.length → Sum.elim id (fun (_ : Unit) => decide (((x.length : Nat) : Int) < ((y.length : Nat) : Int))) (rngb (R := Bool) (fun k (_ : Unit) => spec_l3LessInts_b1 x y k) m k ()) = decide (lexI (x.drop k) (y.drop k) < 0) := by
    intro m
    induction m with
    | zero =>
      intro k hk hy
      rw [rngb]
      show decide (((x.length : Nat) : Int) < ((y.length : Nat) : Int)) = _
      rw [List.drop_of_length_le (l := x) (by omega)]
      by_cases h2 : x.length < y.length
      · rw [decide_eq_true (by omega), List.drop_eq_getElem_cons (show k < y.length by omega)]; rfl
      · rw [decide_eq_false (by omega), List.drop_of_length_le (l := y) (by omega)]; rfl
    | succ m ih =>
      intro k hk hy
      rw [rngb]
      show Sum.elim id _ (Sum.elim Sum.inl (Sum.elim Sum.inr (fun _ => rngb _ m (k + 1) ())) (spec_l3LessInts_b1 x y k)) = _
      unfold spec_l3LessInts_b1
      by_cases h1 : k < y.length
      · rw [decide_eq_true (show ((k : Nat) : Int) < ((y.length : Nat) : Int) by omega), List.drop_eq_getElem_cons (show k < x.length by omega), List.drop_eq_getElem_cons h1, lexI, ← gt_at, ← gt_at]
        by_cases h2 : gt x k = gt y k
        · rw [h2, bne_self_eq_false, if_neg (by omega), if_neg (by omega)]
          exact ih (k + 1) (by omega) (by omega)
        · rw [bne_iff_ne.2 h2]
          show decide (gt x k < gt y k) = _
          by_cases h3 : gt x k < gt y k
          · rw [if_pos h3, decide_eq_true h3]; rfl
          · rw [if_neg h3, if_pos (by omega), decide_eq_false h3]; rfl
      · rw [decide_eq_false (show ¬ ((k : Nat) : Int) < ((y.length : Nat) : Int) by omega), List.drop_of_length_le (l := y) (by omega), List.drop_eq_getElem_cons (show k < x.length by omega)]
        show decide (((x.length : Nat) : Int) < ((y.length : Nat) : Int)) = _
        rw [decide_eq_false (by omega)]; rfl
  exact h (x.length - 0) 0 (by omega) (Nat.zero_le _)
theorem less_same (a b : DRow) : spec_l3Less_m a b = lt0 impl_SortRows_1_m a b := by
  rw [Bool.eq_iff_iff, rows_lt]
  unfold spec_l3Less_m
  rw [lessInts_lex]
  by_cases h : a.Id = b.Id
  · rw [h, bne_self_eq_false, cond_false, decide_eq_true_eq]
    exact ⟨fun x => .inr ⟨rfl, x⟩, fun x => by rcases x with x | x; exact absurd x (by omega); exact x.2⟩
  · rw [bne_iff_ne.2 h, cond_true, decide_eq_true_eq]
    exact ⟨.inl, fun x => by rcases x with x | x; exact x; exact absurd x.1 h⟩
theorem sortPos (x : List DRow) (j : Nat) (d : List DRow) : ∀ m k s, s < m → s ≤ d.length → ∃ s', rngb (R := List DRow) (fun k (s : Nat) => spec_SortRows_b2 x j d k s) m k s = .inr s' ∧ s' ≤ s ∧ (∀ i, s' ≤ i → i < s → lt0 impl_SortRows_1_m (gt x j) (gt d i) = true) ∧ (s' = 0 ∨ lt0 impl_SortRows_1_m (gt x j) (gt d (s' - 1)) = false)
  | 0, _, _, h, _ => by omega
  | m + 1, k, s, h, hd => by
    rw [rngb]
    show ∃ s', Sum.elim Sum.inl (Sum.elim Sum.inr (fun s => rngb _ m (k + 1) s)) (spec_SortRows_b2 x j d k s) = _ ∧ _
    unfold spec_SortRows_b2
    rw [less_same]
    by_cases h0 : 0 < s
    · rw [decide_eq_true (show (0 : Int) < ((s : Nat) : Int) by omega)]
      cases hl : lt0 impl_SortRows_1_m (gt x j) (gt d (s - 1)) with
      | false => exact ⟨s, rfl, Nat.le_refl _, fun i _ _ => by omega, .inr hl⟩
      | true =>
        obtain ⟨s', e1, e2, e3, e4⟩ := sortPos x j d m (k + 1) (s - 1) (by omega) (by omega)
        refine ⟨s', e1, by omega, fun i hi hs => ?_, e4⟩
        by_cases hq : i = s - 1
        · rw [hq]; exact hl
        · exact e3 i hi (by omega)
    · rw [decide_eq_false (show ¬ (0 : Int) < ((s : Nat) : Int) by omega)]
      exact ⟨s, rfl, Nat.le_refl _, fun i _ _ => by omega, .inl (by omega)⟩
theorem pw_insert {lt : DRow → DRow → Bool} (o : Ord lt) {d : List DRow} {x : DRow} {s : Nat} (hs : s ≤ d.length) (hd : d.Pairwise fun a b => lt b a = false) (h1 : ∀ i, s ≤ i → i < d.length → lt x (gt d i) = true) (h2 : s = 0 ∨ lt x (gt d (s - 1)) = false) :
    (d.take s ++ [x] ++ d.drop s).Pairwise fun a b => lt b a = false := by
  have hA : ∀ a ∈ d.take s, lt x a = false := fun a ha => by
    obtain ⟨i, hi, rfl⟩ := List.mem_iff_getElem.1 ha
    rw [List.length_take] at hi
    rw [List.getElem_take, ← gt_at (by omega)]
    rcases h2 with h2 | h2
    · omega
    · by_cases hq : i = s - 1
      · rw [hq]; exact h2
      · refine o.tr (gt d i) (gt d (s - 1)) x ?_ h2
        rw [gt_at (show i < d.length by omega), gt_at (show s - 1 < d.length by omega)]
        exact List.pairwise_iff_getElem.1 hd i (s - 1) _ _ (by omega)
  have hB : ∀ b ∈ d.drop s, lt b x = false := fun b hb => by
    obtain ⟨i, hi, rfl⟩ := List.mem_iff_getElem.1 hb
    rw [List.length_drop] at hi
    rw [List.getElem_drop, ← gt_at (by omega)]
    exact o.asym _ _ (h1 (s + i) (by omega) (by omega))
  have hC : (d.take s ++ d.drop s).Pairwise fun a b => lt b a = false := by rw [List.take_append_drop]; exact hd
  rw [List.pairwise_append] at hC
  rw [List.append_assoc, List.pairwise_append]
  refine ⟨hC.1, ?_, fun a ha b hb => ?_⟩
  · rw [List.singleton_append, List.pairwise_cons]
    exact ⟨hB, hC.2.1⟩
  · rw [List.singleton_append] at hb
    rcases List.mem_cons.1 hb with rfl | hb
    · exact hA a ha
    · exact hC.2.2 a ha b hb
theorem SortRows_same (x : List DRow) : spec_SortRows_m x = impl_SortRows_m x := by
  unfold spec_SortRows_m
  obtain ⟨d, e1, e2, e3⟩ := rng_inv (R := List DRow) (body := fun k s => spec_SortRows_b1 x k s) (n := x.length) (fun k d => d.Perm (x.take k) ∧ d.Pairwise fun a b => lt0 impl_SortRows_1_m b a = false) (fun k d hk ⟨hp, hw⟩ => by
    unfold spec_SortRows_b1
    obtain ⟨s, q1, q2, q3, q4⟩ := sortPos x k d (d.length + 1) 0 d.length (by omega) (Nat.le_refl _)
    refine ⟨_, by rw [Nat.sub_zero, q1]; rfl, ?_, pw_insert impl_SortRows_1_ord q2 hw q3 q4⟩
    rw [List.take_add_one, List.getElem?_eq_getElem hk, ← gt_at hk]
    refine List.Perm.trans ?_ (hp.append_right _)
    show (d.take s ++ [gt x k] ++ d.drop s).Perm (d ++ [gt x k])
    have h2 : (d.take s ++ ([gt x k] ++ d.drop s)).Perm (d.take s ++ (d.drop s ++ [gt x k])) := List.perm_append_comm.append_left _
    rw [← List.append_assoc, ← List.append_assoc, List.take_append_drop] at h2
    exact h2) x.length 0 [] (by omega) ⟨List.Perm.refl _, List.Pairwise.nil⟩
  rw [Nat.sub_zero, e1]
  show d = stb (lt0 impl_SortRows_1_m) x
  obtain ⟨s1, s2⟩ := stb_ok impl_SortRows_1_ord x
  rw [List.take_length] at e2
  refine List.Perm.eq_of_pairwise (le := fun a b => lt0 impl_SortRows_1_m b a = false) (fun a b _ _ h1 h2 => ?_) e3 s2 (e2.trans s1.symm)
  have k1 : ¬ _ := fun h => by rw [(rows_lt b a).2 h] at h1; cases h1
  have k2 : ¬ _ := fun h => by rw [(rows_lt a b).2 h] at h2; cases h2
  have hi : a.Id = b.Id := by omega
  have hv : lexI a.Values b.Values = 0 := by
    have n1 := lexI_pos a.Values b.Values
    by_cases c1 : lexI a.Values b.Values < 0
    · exact absurd (.inr ⟨hi, c1⟩) k2
    · by_cases c2 : 0 < lexI a.Values b.Values
      · exact absurd (.inr ⟨hi.symm, n1 c2⟩) k1
      · omega
  have hv := lexI_eq _ _ hv
  cases a; cases b
  cases hi; cases hv; rfl
theorem spec_RowsAt_form (x : DStore) (t : Int) : spec_RowsAt_m x t = cond (spec_IsStore_m x) (impl_SortRows_m (x.Segments.flatMap (segR fun v => spec_IsVisible_m v t))) [] := by
  unfold spec_RowsAt_m
  rw [SortRows_same, spec_l7Rows_form, l7All_form, segR_flatten]
theorem impl_RowsAt_form (x : DStore) (t : Int) : impl_RowsAt_m x t = cond (impl_IsStore_m x) (impl_SortRows_m (x.Segments.flatMap (segR fun v => impl_IsVisible_m v t))) [] := by
  unfold impl_RowsAt_m
  rw [rng_fold (xs := x.Segments) (f := fun d s => d ++ segR (fun v => impl_IsVisible_m v t) s) (b := fun k s => impl_RowsAt_b1 x t k s) (fun j s _ => by unfold impl_RowsAt_b1; rw [segRows_form]), foldl_cat]
  rfl
theorem RowsAt_same (x : DStore) (t : Int) : impl_RowsAt_m x t = spec_RowsAt_m x t := by
  rw [impl_RowsAt_form, spec_RowsAt_form, IsStore_same]
  rfl
theorem seenF_iff (now : Int) : ∀ (l seen : List DVersion), seenF (okS now) seen l = true ↔ (∀ v ∈ l, spec_l7Version_m v now = true) ∧ (∀ v ∈ l, ∀ w ∈ seen, spec_l7Apart_m v w = true) ∧ l.Pairwise (fun a b => spec_l7Apart_m b a = true)
  | [], seen => by simp [seenF]
  | v :: l, seen => by
    have ih := seenF_iff now l (seen ++ [v])
    show (okS now seen v && seenF (okS now) (seen ++ [v]) l) = true ↔ _
    rw [Bool.and_eq_true, ih]
    unfold okS
    rw [Bool.and_eq_true, List.all_eq_true, List.pairwise_cons]
    constructor
    · rintro ⟨⟨a, b⟩, c, d, e⟩
      refine ⟨fun w hw => ?_, fun w hw y hy => ?_, fun w hw => d w hw v (by simp), e⟩
      · rcases List.mem_cons.1 hw with rfl | h
        · exact a
        · exact c w h
      · rcases List.mem_cons.1 hw with rfl | h
        · exact b y hy
        · exact d w h y (List.mem_append_left _ hy)
    · rintro ⟨a, b, c, d⟩
      refine ⟨⟨a v (by simp), fun y hy => b v (by simp) y hy⟩, fun w hw => a w (List.mem_cons_of_mem _ hw), fun w hw y hy => ?_, d⟩
      rcases List.mem_append.1 hy with h | h
      · exact b w (List.mem_cons_of_mem _ hw) y h
      · rw [List.mem_singleton.1 h]; exact c w hw
def Sto (x : DStore) : Prop := (1 ≤ x.Segments.length ∧ x.Segments.length ≤ 8) ∧ (0 ≤ x.Now ∧ x.Now ≤ 100000) ∧ (∀ s ∈ x.Segments, s.length ≤ 4) ∧ (∀ v ∈ x.Segments.flatten, spec_l7Version_m v x.Now = true) ∧ x.Segments.flatten.Pairwise (fun a b => spec_l7Apart_m b a = true)
theorem Sto_iff (x : DStore) : spec_IsStore_m x = true ↔ Sto x := by
  rw [spec_IsStore_form]
  unfold storeB Sto
  simp only [Bool.and_eq_true, decide_eq_true_eq, List.all_eq_true, seenF_iff]
  constructor
  · rintro ⟨⟨⟨a, b⟩, c⟩, d, _, e⟩; exact ⟨by omega, b, c, d, e⟩
  · rintro ⟨a, b, c, d, e⟩; exact ⟨⟨⟨by omega, b⟩, c⟩, d, fun _ _ w hw => (by cases hw), e⟩
theorem Version_iff {v : DVersion} {now : Int} (hn : now ≤ 100000) : spec_l7Version_m v now = true ↔ spec_IsRow_m (⟨v.Id, v.Values⟩ : DRow) = true ∧ 0 ≤ v.Born ∧ v.Born ≤ now ∧ (v.Died = -1 ∨ (v.Born + 1 ≤ v.Died ∧ v.Died ≤ now)) := by
  rw [Version_eq]
  simp only [Bool.and_eq_true, Bool.or_eq_true, decide_eq_true_eq, beq_iff_eq]
  constructor
  · rintro ⟨⟨a, b, c⟩, d⟩
    rw [wrap_id (by omega) (by omega)] at d
    exact ⟨a, b, c, d⟩
  · rintro ⟨a, b, c, d⟩
    rw [wrap_id (by omega) (by omega)]
    exact ⟨⟨a, b, c⟩, d⟩
theorem vis_at (v : DVersion) (t : Int) : spec_IsVisible_m v t = decide (v.Born ≤ t ∧ (v.Died = -1 ∨ t < v.Died)) := Visible_eq v t
theorem l2Ints_refl (z : List Int) : spec_l2Ints_m z z = true := by
  unfold spec_l2Ints_m
  rw [bne_self_eq_false, rng_all (fun j _ => by unfold spec_l2Ints_b1; rw [bne_self_eq_false]; rfl)]
  rfl
theorem EqualRows_refl (z : List DRow) : spec_EqualRows_m z z = true := by
  unfold spec_EqualRows_m
  rw [bne_self_eq_false, rng_all (fun j _ => by unfold spec_EqualRows_b1 spec_l3Same_m; rw [beq_self_eq_true, l2Ints_refl]; rfl)]
  rfl
theorem EqualStores_refl (x : DStore) : spec_EqualStores_m x x = true := by
  unfold spec_EqualStores_m
  rw [bne_self_eq_false, bne_self_eq_false, rng_all (fun j _ => by
    unfold spec_EqualStores_b1 spec_l7Same_m
    rw [bne_self_eq_false, rng_all (fun k _ => by unfold spec_l7Same_b1; rw [bne_self_eq_false, bne_self_eq_false, bne_self_eq_false, l2Ints_refl]; rfl)]
    rfl)]
  rfl
theorem Reclaim_flat (k : List Int) (S : List (List DVersion)) : (reclaimL k S).flatten = S.flatten.filter (needB k) := by
  unfold reclaimL
  rw [List.filter_flatten]
theorem Reclaim_Sto {x : DStore} (hx : Sto x) (k : List Int) : Sto (⟨reclaimL k x.Segments, x.Now⟩ : DStore) := by
  obtain ⟨hl, hn, h4, hv, hp⟩ := hx
  refine ⟨?_, hn, fun s hs => ?_, fun v h => ?_, ?_⟩
  · show 1 ≤ (List.map _ _).length ∧ (List.map _ _).length ≤ 8
    rw [List.length_map]; exact hl
  · obtain ⟨s0, hs0, rfl⟩ := List.mem_map.1 hs
    exact Nat.le_trans (List.length_filter_le _ _) (h4 s0 hs0)
  · have h' : v ∈ (reclaimL k x.Segments).flatten := h
    rw [Reclaim_flat] at h'
    exact hv v (List.mem_filter.1 h').1
  · show (reclaimL k x.Segments).flatten.Pairwise _
    rw [Reclaim_flat]
    exact hp.filter _
theorem Reclaim_segs (k : List Int) (vis : DVersion → Bool) : ∀ S : List (List DVersion), (∀ s ∈ S, ∀ v ∈ s, vis v = true → needB k v = true) → (reclaimL k S).flatMap (segR vis) = S.flatMap (segR vis)
  | [], _ => rfl
  | s :: S, h => by
    have ih := Reclaim_segs k vis S (fun s' hs' => h s' (List.mem_cons_of_mem _ hs'))
    have e : segR vis (s.filter (needB k)) = segR vis s := by
      unfold segR
      rw [List.filter_filter]
      refine congrArg (List.map _) (List.filter_congr fun v hv => ?_)
      cases hvis : vis v with
      | false => rfl
      | true => rw [h s (List.mem_cons_self ..) v hv hvis]; rfl
    show (s.filter (needB k) :: reclaimL k S).flatMap (segR vis) = _
    rw [List.flatMap_cons, List.flatMap_cons, e, ih]
theorem Reclaim_rows {x : DStore} (hx : spec_IsStore_m x = true) (k : List Int) (t : Int) (h : ∀ v ∈ x.Segments.flatten, spec_IsVisible_m v t = true → needB k v = true) : spec_RowsAt_m (⟨reclaimL k x.Segments, x.Now⟩ : DStore) t = spec_RowsAt_m x t := by
  rw [spec_RowsAt_form, spec_RowsAt_form, hx, (Sto_iff _).2 (Reclaim_Sto ((Sto_iff _).1 hx) k)]
  rw [Reclaim_segs k _ x.Segments (fun s hs v hv => h v (List.mem_flatten.2 ⟨s, hs, hv⟩))]
theorem law_Reclaims (x0 : List Int) : laws_FnReclaims_m x0 = true := by
  unfold laws_FnReclaims_m
  cases laws_big_m x0 with
  | true => rfl
  | false =>
  rw [ReclaimStore_same, bne_self_eq_false, EqualStores_refl, ApplyUpdates_same, beq_self_eq_true, EqualStores_refl, IsStore_same]
  cases hs : spec_IsStore_m (spec_DrawReclaimStore_m x0).1 with
  | false =>
    have e : spec_ReclaimStore_m (spec_DrawReclaimStore_m x0).1 (spec_DrawReclaimStore_m x0).2 = ((spec_DrawReclaimStore_m x0).1, 0) := by
      unfold spec_ReclaimStore_m; rw [hs]; rfl
    rw [e]
    show spec_EqualStores_m _ _ = true
    exact EqualStores_refl _
  | true =>
  have e := spec_Reclaim_form (spec_DrawReclaimStore_m x0).1 (spec_DrawReclaimStore_m x0).2 hs
  have e1 : (spec_ReclaimStore_m (spec_DrawReclaimStore_m x0).1 (spec_DrawReclaimStore_m x0).2).1 = (⟨reclaimL (spec_DrawReclaimStore_m x0).2 (spec_DrawReclaimStore_m x0).1.Segments, (spec_DrawReclaimStore_m x0).1.Now⟩ : DStore) := congrArg Prod.fst e
  have e2 : (spec_ReclaimStore_m (spec_DrawReclaimStore_m x0).1 (spec_DrawReclaimStore_m x0).2).2 = cut64 0 (((spec_DrawReclaimStore_m x0).1.Segments.map List.length).sum - ((reclaimL (spec_DrawReclaimStore_m x0).2 (spec_DrawReclaimStore_m x0).1.Segments).map List.length).sum) := congrArg Prod.snd e
  have hx := (Sto_iff _).1 hs
  rw [rng_all (fun j hj => by
    unfold laws_FnReclaims_b1
    rw [ReclaimStore_same, e1, RowsAt_same, Reclaim_rows hs _ _ (fun v _ hvis => by
      unfold needB
      rw [Bool.or_eq_true, List.any_eq_true]
      exact .inl ⟨_, gt_mem hj, hvis⟩), EqualRows_refl]
    rfl)]
  have hnow : spec_RowsAt_m (⟨reclaimL (spec_DrawReclaimStore_m x0).2 (spec_DrawReclaimStore_m x0).1.Segments, (spec_DrawReclaimStore_m x0).1.Now⟩ : DStore) (spec_DrawReclaimStore_m x0).1.Now = spec_RowsAt_m (spec_DrawReclaimStore_m x0).1 (spec_DrawReclaimStore_m x0).1.Now := Reclaim_rows hs _ _ (fun v hv hvis => by
    have hV := (Version_iff hx.2.1.2).1 (hx.2.2.2.1 v hv)
    rw [vis_at, decide_eq_true_eq] at hvis
    have hd : v.Died = -1 := by omega
    unfold needB
    rw [hd, beq_self_eq_true, Bool.or_true])
  have hsum := storeB_hq ((spec_IsStore_form _).symm.trans hs)
  have hle := (reclaim_sum (spec_DrawReclaimStore_m x0).2 (spec_DrawReclaimStore_m x0).1.Segments).1
  have hc : IntKind.i64.wrap (impl_CountVersions_m (⟨reclaimL (spec_DrawReclaimStore_m x0).2 (spec_DrawReclaimStore_m x0).1.Segments, (spec_DrawReclaimStore_m x0).1.Now⟩ : DStore) + cut64 0 (((spec_DrawReclaimStore_m x0).1.Segments.map List.length).sum - ((reclaimL (spec_DrawReclaimStore_m x0).2 (spec_DrawReclaimStore_m x0).1.Segments).map List.length).sum)) = impl_CountVersions_m (spec_DrawReclaimStore_m x0).1 := by
    rw [CountVersions_form, CountVersions_form]
    show IntKind.i64.wrap (cut64 0 ((reclaimL (spec_DrawReclaimStore_m x0).2 (spec_DrawReclaimStore_m x0).1.Segments).map List.length).sum + _) = _
    unfold cut64
    generalize ((reclaimL (spec_DrawReclaimStore_m x0).2 (spec_DrawReclaimStore_m x0).1.Segments).map List.length).sum = a at hle ⊢
    generalize ((spec_DrawReclaimStore_m x0).1.Segments.map List.length).sum = b at hle hsum ⊢
    rw [wrap_id (n := 0 + ((a : Nat) : Int)) (by omega) (by omega), wrap_id (n := 0 + ((b - a : Nat) : Int)) (by omega) (by omega), wrap_id (n := 0 + ((b : Nat) : Int)) (by omega) (by omega), wrap_id (by omega) (by omega)]
    omega
  rw [e1, e2, hc, beq_self_eq_true, RowsAt_same, hnow, EqualRows_refl, (Sto_iff _).2 (Reclaim_Sto hx _)]
  rfl

end Go.Proofs.Ytglapeecbnaipaa
