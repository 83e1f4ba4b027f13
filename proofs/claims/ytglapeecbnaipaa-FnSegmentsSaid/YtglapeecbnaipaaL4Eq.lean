/-
  The program and the reference compute the same: plain laws over what the walks showed.
-/
import Derived.Test.YtglapeecbnaipaaL4Law
namespace Go.Proofs.Ytglapeecbnaipaa
open Go.RowKit
def cut64 (s : Int) (n : Nat) : Int := IntKind.i64.wrap (s + n)
theorem cut64_add (s : Int) (m n : Nat) : cut64 (cut64 s m) n = cut64 s (m + n) := by
  unfold cut64
  simp only [IntKind.wrap_i64]
  omega
theorem rng_sumlen {R : Type} (xs : List (List DVersion)) (b : Nat → Int → R ⊕ Int) (hb : ∀ j s, b j s = .inr (IntKind.i64.wrap (s + ((gt xs j).length : Nat)))) : rng b (xs.length - 0) 0 0 = .inr (cut64 0 (xs.map List.length).sum) := by
  have h : ∀ (l : List (List DVersion)) (s : Int), l.foldl (fun (s : Int) v => IntKind.i64.wrap (s + (v.length : Nat))) (cut64 s 0) = cut64 s (l.map List.length).sum := by
    intro l
    induction l with
    | nil => intro s; rfl
    | cons v l ih =>
      intro s
      have e1 : IntKind.i64.wrap (cut64 s 0 + (v.length : Nat)) = cut64 (cut64 s v.length) 0 := by
        unfold cut64
        simp only [IntKind.wrap_i64]
        omega
      rw [List.foldl_cons, e1, ih, cut64_add]
      simp
  rw [rng_fold (xs := xs) (f := fun (s : Int) v => IntKind.i64.wrap (s + (v.length : Nat))) (fun j s _ => hb j s)]
  exact congrArg Sum.inr (h xs 0)
theorem CountVersions_form (x : DStore) : impl_CountVersions_m x = cut64 0 (x.Segments.map List.length).sum := by
  unfold impl_CountVersions_m
  rw [rng_sumlen x.Segments _ (fun j s => by unfold impl_CountVersions_b1; rfl)]
  rfl
theorem Version_ord {v : DVersion} {now : Int} (hn : now ≤ 100000) (h : spec_l7Version_m v now = true) : 0 ≤ v.Born ∧ v.Born ≤ now ∧ (v.Died = -1 ∨ (v.Born + 1 ≤ v.Died ∧ v.Died ≤ now)) := by
  rw [Version_eq] at h
  simp only [Bool.and_eq_true, Bool.or_eq_true, decide_eq_true_eq, beq_iff_eq] at h
  obtain ⟨⟨_, h1, h2⟩, h3⟩ := h
  rw [wrap_id (by omega) (by omega)] at h3
  exact ⟨h1, h2, h3⟩
theorem Visible_eq (v : DVersion) (t : Int) : impl_IsVisible_m v t = decide (v.Born ≤ t ∧ (v.Died = -1 ∨ t < v.Died)) := by
  unfold impl_IsVisible_m
  by_cases h1 : v.Born ≤ t <;> by_cases h2 : v.Died = -1 <;> by_cases h3 : t < v.Died <;> simp [h1, h2, h3]
theorem apart_meet {v w : DVersion} {now : Int} (hn : now ≤ 100000) (hv : spec_l7Version_m v now = true) (hw : spec_l7Version_m w now = true) : spec_l7Apart_m v w = !(v.Id == w.Id && impl_meetInTime_m v w) := by
  obtain ⟨a1, a2, a3⟩ := Version_ord hn hv
  obtain ⟨b1, b2, b3⟩ := Version_ord hn hw
  have hm : impl_meetInTime_m v w = decide ((v.Born ≤ w.Born ∧ (v.Died = -1 ∨ w.Born < v.Died)) ∨ (w.Born ≤ v.Born ∧ (w.Died = -1 ∨ v.Born < w.Died))) := by
    unfold impl_meetInTime_m
    rw [Visible_eq, Visible_eq]
    by_cases h1 : (v.Born ≤ w.Born ∧ (v.Died = -1 ∨ w.Born < v.Died)) <;> by_cases h2 : (w.Born ≤ v.Born ∧ (w.Died = -1 ∨ v.Born < w.Died)) <;> simp [h1, h2]
  rw [hm, Apart_eq]
  have hb : (v.Id == w.Id) = decide (v.Id = w.Id) := by by_cases h : v.Id = w.Id <;> simp [h]
  rw [hb, ← Bool.decide_and, ← decide_not]
  apply decide_eq_decide.2
  omega
theorem seenF_same {now : Int} (hn : now ≤ 100000) : ∀ (l seen : List DVersion), (∀ w ∈ seen, spec_l7Version_m w now = true) → seenF (okI now) seen l = seenF (okS now) seen l
  | [], _, _ => rfl
  | v :: l, seen, hs => by
    show (okI now seen v && seenF (okI now) (seen ++ [v]) l) = (okS now seen v && seenF (okS now) (seen ++ [v]) l)
    unfold okI okS
    cases hv : spec_l7Version_m v now with
    | false => rfl
    | true =>
      have e : (seen.all fun w => !(v.Id == w.Id && impl_meetInTime_m v w)) = seen.all fun w => spec_l7Apart_m v w := by
        rw [Bool.eq_iff_iff, List.all_eq_true, List.all_eq_true]
        exact ⟨fun h w hw => by rw [apart_meet hn hv (hs w hw)]; exact h w hw, fun h w hw => by rw [← apart_meet hn hv (hs w hw)]; exact h w hw⟩
      have ih := seenF_same hn l (seen ++ [v]) (fun w hw => by
        rcases List.mem_append.1 hw with h | h
        · exact hs w h
        · rw [List.mem_singleton.1 h]; exact hv)
      unfold okI okS at ih
      rw [e, ih]
theorem IsStore_same (x : DStore) : impl_IsStore_m x = spec_IsStore_m x := by
  rw [impl_IsStore_form, spec_IsStore_form]
  unfold storeB
  by_cases h : 0 ≤ x.Now ∧ x.Now ≤ 100000
  · rw [seenF_same h.2 _ [] (fun w hw => by cases hw)]
  · rw [decide_eq_false h, Bool.and_false, Bool.false_and]
    rfl
theorem foldl_cat {α β : Type} (F : α → List β) : ∀ (xs : List α) (d : List β), xs.foldl (fun d a => d ++ F a) d = d ++ xs.flatMap F
  | [], d => by simp
  | x :: xs, d => by rw [List.foldl_cons, foldl_cat F xs]; simp
theorem segR_flatten (vis : DVersion → Bool) (l : List (List DVersion)) : segR vis l.flatten = l.flatMap (segR vis) := by
  unfold segR
  rw [List.filter_flatten, List.map_flatten, List.map_map]
  rfl
theorem visible_same (v : DVersion) (t : Int) : impl_IsVisible_m v t = spec_IsVisible_m v t := rfl
theorem lessInts_lex (x y : List Int) : spec_l3LessInts_m x y = decide (lexI x y < 0) := by
  unfold spec_l3LessInts_m
  have h : ∀ m k, m + k = x.length → k ≤ y.length → Sum.elim id (fun (_ : Unit) => decide (((x.length : Nat) : Int) < ((y.length : Nat) : Int))) (rngb (R := Bool) (fun k (_ : Unit) => spec_l3LessInts_b1 x y k) m k ()) = decide (lexI (x.drop k) (y.drop k) < 0) := by
    intro m
    induction m with
    | zero =>
      intro k hk hy
      rw [rngb]
      show decide (((x.length : Nat) : Int) < ((y.length : Nat) : Int)) = _
      rw [List.drop_of_length_le (l := x) (by omega)]
      by_cases h2 : x.length < y.length
      · rw [decide_eq_true (by omega), List.drop_eq_getElem_cons (show k < y.length by omega)]; rfl
      · rw [decide_eq_false (by omega), List.drop_of_length_le (l := y) (by omega)]; rfl
    | succ m ih =>
      intro k hk hy
      rw [rngb]
      show Sum.elim id _ (Sum.elim Sum.inl (Sum.elim Sum.inr (fun _ => rngb _ m (k + 1) ())) (spec_l3LessInts_b1 x y k)) = _
      unfold spec_l3LessInts_b1
      by_cases h1 : k < y.length
      · rw [decide_eq_true (show ((k : Nat) : Int) < ((y.length : Nat) : Int) by omega), List.drop_eq_getElem_cons (show k < x.length by omega), List.drop_eq_getElem_cons h1, lexI, ← gt_at, ← gt_at]
        by_cases h2 : gt x k = gt y k
        · rw [h2, bne_self_eq_false, if_neg (by omega), if_neg (by omega)]
          exact ih (k + 1) (by omega) (by omega)
        · rw [bne_iff_ne.2 h2]
          show decide (gt x k < gt y k) = _
          by_cases h3 : gt x k < gt y k
          · rw [if_pos h3, decide_eq_true h3]; rfl
          · rw [if_neg h3, if_pos (by omega), decide_eq_false h3]; rfl
      · rw [decide_eq_false (show ¬ ((k : Nat) : Int) < ((y.length : Nat) : Int) by omega), List.drop_of_length_le (l := y) (by omega), List.drop_eq_getElem_cons (show k < x.length by omega)]
        show decide (((x.length : Nat) : Int) < ((y.length : Nat) : Int)) = _
        rw [decide_eq_false (by omega)]; rfl
  exact h (x.length - 0) 0 (by omega) (Nat.zero_le _)
theorem less_same (a b : DRow) : spec_l3Less_m a b = lt0 impl_SortRows_1_m a b := by
  rw [Bool.eq_iff_iff, rows_lt]
  unfold spec_l3Less_m
  rw [lessInts_lex]
  by_cases h : a.Id = b.Id
  · rw [h, bne_self_eq_false, cond_false, decide_eq_true_eq]
    exact ⟨fun x => .inr ⟨rfl, x⟩, fun x => by rcases x with x | x; exact absurd x (by omega); exact x.2⟩
  · rw [bne_iff_ne.2 h, cond_true, decide_eq_true_eq]
    exact ⟨.inl, fun x => by rcases x with x | x; exact x; exact absurd x.1 h⟩
theorem sortPos (x : List DRow) (j : Nat) (d : List DRow) : ∀ m k s, s < m → s ≤ d.length → ∃ s', rngb (R := List DRow) (fun k (s : Nat) => spec_SortRows_b2 x j d k s) m k s = .inr s' ∧ s' ≤ s ∧ (∀ i, s' ≤ i → i < s → lt0 impl_SortRows_1_m (gt x j) (gt d i) = true) ∧ (s' = 0 ∨ lt0 impl_SortRows_1_m (gt x j) (gt d (s' - 1)) = false)
  | 0, _, _, h, _ => by omega
  | m + 1, k, s, h, hd => by
    rw [rngb]
    show ∃ s', Sum.elim Sum.inl (Sum.elim Sum.inr (fun s => rngb _ m (k + 1) s)) (spec_SortRows_b2 x j d k s) = _ ∧ _
    unfold spec_SortRows_b2
    rw [less_same]
    by_cases h0 : 0 < s
    · rw [decide_eq_true (show (0 : Int) < ((s : Nat) : Int) by omega)]
      cases hl : lt0 impl_SortRows_1_m (gt x j) (gt d (s - 1)) with
      | false => exact ⟨s, rfl, Nat.le_refl _, fun i _ _ => by omega, .inr hl⟩
      | true =>
        obtain ⟨s', e1, e2, e3, e4⟩ := sortPos x j d m (k + 1) (s - 1) (by omega) (by omega)
        refine ⟨s', e1, by omega, fun i hi hs => ?_, e4⟩
        by_cases hq : i = s - 1
        · rw [hq]; exact hl
        · exact e3 i hi (by omega)
    · rw [decide_eq_false (show ¬ (0 : Int) < ((s : Nat) : Int) by omega)]
      exact ⟨s, rfl, Nat.le_refl _, fun i _ _ => by omega, .inl (by omega)⟩
theorem pw_insert {lt : DRow → DRow → Bool} (o : Ord lt) {d : List DRow} {x : DRow} {s : Nat} (hs : s ≤ d.length) (hd : d.Pairwise fun a b => lt b a = false) (h1 : ∀ i, s ≤ i → i < d.length → lt x (gt d i) = true) (h2 : s = 0 ∨ lt x (gt d (s - 1)) = false) :
    (d.take s ++ [x] ++ d.drop s).Pairwise fun a b => lt b a = false := by
  have hA : ∀ a ∈ d.take s, lt x a = false := fun a ha => by
    obtain ⟨i, hi, rfl⟩ := List.mem_iff_getElem.1 ha
    rw [List.length_take] at hi
    rw [List.getElem_take, ← gt_at (by omega)]
    rcases h2 with h2 | h2
    · omega
    · by_cases hq : i = s - 1
      · rw [hq]; exact h2
      · refine o.tr (gt d i) (gt d (s - 1)) x ?_ h2
        rw [gt_at (show i < d.length by omega), gt_at (show s - 1 < d.length by omega)]
        exact List.pairwise_iff_getElem.1 hd i (s - 1) _ _ (by omega)
  have hB : ∀ b ∈ d.drop s, lt b x = false := fun b hb => by
    obtain ⟨i, hi, rfl⟩ := List.mem_iff_getElem.1 hb
    rw [List.length_drop] at hi
    rw [List.getElem_drop, ← gt_at (by omega)]
    exact o.asym _ _ (h1 (s + i) (by omega) (by omega))
  have hC : (d.take s ++ d.drop s).Pairwise fun a b => lt b a = false := by rw [List.take_append_drop]; exact hd
  rw [List.pairwise_append] at hC
  rw [List.append_assoc, List.pairwise_append]
  refine ⟨hC.1, ?_, fun a ha b hb => ?_⟩
  · rw [List.singleton_append, List.pairwise_cons]
    exact ⟨hB, hC.2.1⟩
  · rw [List.singleton_append] at hb
    rcases List.mem_cons.1 hb with rfl | hb
    · exact hA a ha
    · exact hC.2.2 a ha b hb
theorem SortRows_same (x : List DRow) : spec_SortRows_m x = impl_SortRows_m x := by
  unfold spec_SortRows_m
  obtain ⟨d, e1, e2, e3⟩ := rng_inv (R := List DRow) (body := fun k s => spec_SortRows_b1 x k s) (n := x.length) (fun k d => d.Perm (x.take k) ∧ d.Pairwise fun a b => lt0 impl_SortRows_1_m b a = false) (fun k d hk ⟨hp, hw⟩ => by
    unfold spec_SortRows_b1
    obtain ⟨s, q1, q2, q3, q4⟩ := sortPos x k d (d.length + 1) 0 d.length (by omega) (Nat.le_refl _)
    refine ⟨_, by rw [Nat.sub_zero, q1]; rfl, ?_, pw_insert impl_SortRows_1_ord q2 hw q3 q4⟩
    rw [List.take_add_one, List.getElem?_eq_getElem hk, ← gt_at hk]
    refine List.Perm.trans ?_ (hp.append_right _)
    show (d.take s ++ [gt x k] ++ d.drop s).Perm (d ++ [gt x k])
    have h2 : (d.take s ++ ([gt x k] ++ d.drop s)).Perm (d.take s ++ (d.drop s ++ [gt x k])) := List.perm_append_comm.append_left _
    rw [← List.append_assoc, ← List.append_assoc, List.take_append_drop] at h2
    exact h2) x.length 0 [] (by omega) ⟨List.Perm.refl _, List.Pairwise.nil⟩
  rw [Nat.sub_zero, e1]
  show d = stb (lt0 impl_SortRows_1_m) x
  obtain ⟨s1, s2⟩ := stb_ok impl_SortRows_1_ord x
  rw [List.take_length] at e2
  refine List.Perm.eq_of_pairwise (le := fun a b => lt0 impl_SortRows_1_m b a = false) (fun a b _ _ h1 h2 => ?_) e3 s2 (e2.trans s1.symm)
  have k1 : ¬ _ := fun h => by rw [(rows_lt b a).2 h] at h1; cases h1
  have k2 : ¬ _ := fun h => by rw [(rows_lt a b).2 h] at h2; cases h2
  have hi : a.Id = b.Id := by omega
  have hv : lexI a.Values b.Values = 0 := by
    have n1 := lexI_pos a.Values b.Values
    by_cases c1 : lexI a.Values b.Values < 0
    · exact absurd (.inr ⟨hi, c1⟩) k2
    · by_cases c2 : 0 < lexI a.Values b.Values
      · exact absurd (.inr ⟨hi.symm, n1 c2⟩) k1
      · omega
  have hv := lexI_eq _ _ hv
  cases a; cases b
  cases hi; cases hv; rfl
theorem spec_RowsAt_form (x : DStore) (t : Int) : spec_RowsAt_m x t = cond (spec_IsStore_m x) (impl_SortRows_m (x.Segments.flatMap (segR fun v => spec_IsVisible_m v t))) [] := by
  unfold spec_RowsAt_m
  rw [SortRows_same, spec_l7Rows_form, l7All_form, segR_flatten]
theorem impl_RowsAt_form (x : DStore) (t : Int) : impl_RowsAt_m x t = cond (impl_IsStore_m x) (impl_SortRows_m (x.Segments.flatMap (segR fun v => impl_IsVisible_m v t))) [] := by
  unfold impl_RowsAt_m
  rw [rng_fold (xs := x.Segments) (f := fun d s => d ++ segR (fun v => impl_IsVisible_m v t) s) (b := fun k s => impl_RowsAt_b1 x t k s) (fun j s _ => by unfold impl_RowsAt_b1; rw [segRows_form]), foldl_cat]
  rfl
theorem RowsAt_same (x : DStore) (t : Int) : impl_RowsAt_m x t = spec_RowsAt_m x t := by
  rw [impl_RowsAt_form, spec_RowsAt_form, IsStore_same]
  rfl
theorem seenF_iff (now : Int) : ∀ (l seen : List DVersion), seenF (okS now) seen l = true ↔ (∀ v ∈ l, spec_l7Version_m v now = true) ∧ (∀ v ∈ l, ∀ w ∈ seen, spec_l7Apart_m v w = true) ∧ l.Pairwise (fun a b => spec_l7Apart_m b a = true)
  | [], seen => by simp [seenF]
  | v :: l, seen => by
    have ih := seenF_iff now l (seen ++ [v])
    show (okS now seen v && seenF (okS now) (seen ++ [v]) l) = true ↔ _
    rw [Bool.and_eq_true, ih]
    unfold okS
    rw [Bool.and_eq_true, List.all_eq_true, List.pairwise_cons]
    constructor
    · rintro ⟨⟨a, b⟩, c, d, e⟩
      refine ⟨fun w hw => ?_, fun w hw y hy => ?_, fun w hw => d w hw v (by simp), e⟩
      · rcases List.mem_cons.1 hw with rfl | h
        · exact a
        · exact c w h
      · rcases List.mem_cons.1 hw with rfl | h
        · exact b y hy
        · exact d w h y (List.mem_append_left _ hy)
    · rintro ⟨a, b, c, d⟩
      refine ⟨⟨a v (by simp), fun y hy => b v (by simp) y hy⟩, fun w hw => a w (List.mem_cons_of_mem _ hw), fun w hw y hy => ?_, d⟩
      rcases List.mem_append.1 hy with h | h
      · exact b w (List.mem_cons_of_mem _ hw) y h
      · rw [List.mem_singleton.1 h]; exact c w hw
theorem Sto_iff (x : DStore) : spec_IsStore_m x = true ↔ Sto x := by
  rw [spec_IsStore_form]
  unfold storeB Sto
  simp only [Bool.and_eq_true, decide_eq_true_eq, List.all_eq_true, seenF_iff]
  constructor
  · rintro ⟨⟨⟨a, b⟩, c⟩, d, _, e⟩; exact ⟨by omega, b, c, d, e⟩
  · rintro ⟨a, b, c, d, e⟩; exact ⟨⟨⟨by omega, b⟩, c⟩, d, fun _ _ w hw => (by cases hw), e⟩
theorem RowsAt_perm {x : DStore} (h : spec_IsStore_m x = true) (t : Int) {l : List DVersion} (hp : x.Segments.flatten.Perm l) : (spec_RowsAt_m x t).Perm (segR (fun v => spec_IsVisible_m v t) l) := by
  rw [spec_RowsAt_form, h]
  show (stb (lt0 impl_SortRows_1_m) _).Perm _
  refine (stb_ok impl_SortRows_1_ord _).1.trans ?_
  rw [← segR_flatten]
  exact (hp.filter _).map _
theorem vis_at (v : DVersion) (t : Int) : spec_IsVisible_m v t = decide (v.Born ≤ t ∧ (v.Died = -1 ∨ t < v.Died)) := Visible_eq v t
theorem l2Ints_refl (z : List Int) : spec_l2Ints_m z z = true := by
  unfold spec_l2Ints_m
  rw [bne_self_eq_false, rng_all (fun j _ => by unfold spec_l2Ints_b1; rw [bne_self_eq_false]; rfl)]
  rfl
theorem EqualRows_refl (z : List DRow) : spec_EqualRows_m z z = true := by
  unfold spec_EqualRows_m
  rw [bne_self_eq_false, rng_all (fun j _ => by unfold spec_EqualRows_b1 spec_l3Same_m; rw [beq_self_eq_true, l2Ints_refl]; rfl)]
  rfl
theorem EqualStores_refl (x : DStore) : spec_EqualStores_m x x = true := by
  unfold spec_EqualStores_m
  rw [bne_self_eq_false, bne_self_eq_false, rng_all (fun j _ => by
    unfold spec_EqualStores_b1 spec_l7Same_m
    rw [bne_self_eq_false, rng_all (fun k _ => by unfold spec_l7Same_b1; rw [bne_self_eq_false, bne_self_eq_false, bne_self_eq_false, l2Ints_refl]; rfl)]
    rfl)]
  rfl
theorem rows_anti {a b : DRow} (h1 : lt0 impl_SortRows_1_m b a = false) (h2 : lt0 impl_SortRows_1_m a b = false) : a = b := by
  have k1 : ¬ _ := fun h => by rw [(rows_lt b a).2 h] at h1; cases h1
  have k2 : ¬ _ := fun h => by rw [(rows_lt a b).2 h] at h2; cases h2
  have hi : a.Id = b.Id := by omega
  have hv : lexI a.Values b.Values = 0 := by
    have n1 := lexI_pos a.Values b.Values
    by_cases c1 : lexI a.Values b.Values < 0
    · exact absurd (.inr ⟨hi, c1⟩) k2
    · by_cases c2 : 0 < lexI a.Values b.Values
      · exact absurd (.inr ⟨hi.symm, n1 c2⟩) k1
      · omega
  have hv := lexI_eq _ _ hv
  cases a; cases b
  cases hi; cases hv; rfl
theorem New_rows {l : List DRow} {n : Int} {x : DStore} (h : NewAt l n x) : spec_RowsAt_m x 0 = l := by
  have hst := (Sto_iff x).2 (New_vers h)
  obtain ⟨hA, hn, hl, e, hp⟩ := h
  obtain ⟨h32, hr, hs⟩ := AreRows_fact hA
  have hperm := RowsAt_perm hst 0 hp
  have hid : segR (fun v => spec_IsVisible_m v 0) (l.map verOf) = l := by
    unfold segR
    rw [List.filter_eq_self.2 (fun v hv => by
      obtain ⟨r, _, rfl⟩ := List.mem_map.1 hv
      show spec_IsVisible_m _ _ = true
      rw [vis_at]
      exact decide_eq_true ⟨(by show (0 : Int) ≤ 0; omega), .inl rfl⟩), List.map_map]
    exact List.map_id _
  rw [hid] at hperm
  refine List.Perm.eq_of_pairwise (le := fun a b => lt0 impl_SortRows_1_m b a = false) (fun a b _ _ h1 h2 => rows_anti h1 h2) ?_ ?_ hperm
  · rw [spec_RowsAt_form, hst]
    exact (stb_ok impl_SortRows_1_ord _).2
  · refine hs.imp fun {a b} hab => ?_
    cases hc : lt0 impl_SortRows_1_m b a with
    | false => rfl
    | true => have := (rows_lt b a).1 hc; omega
theorem Segs_join {x : DStore} {t : Int} (b : Nat → List DRow → Bool ⊕ List DRow) (hb : ∀ k d, b k d = .inr (d ++ impl_SegmentRows_m x ((k : Nat) : Int) t)) : ∃ d, rng b (x.Segments.length - 0) 0 [] = .inr d ∧ impl_SortRows_m d = spec_RowsAt_m x t := by
  rw [spec_RowsAt_form]
  cases hs : spec_IsStore_m x with
  | false =>
    obtain ⟨d, e, h⟩ := rng_inv (R := Bool) (body := b) (n := x.Segments.length) (fun _ d => d = []) (fun k d _ h => by
      refine ⟨_, hb k d, ?_⟩
      unfold impl_SegmentRows_m
      rw [IsStore_same, hs, h]
      rfl) (x.Segments.length - 0) 0 [] (by omega) rfl
    exact ⟨d, e, by rw [h]; rfl⟩
  | true =>
    have hx := (Sto_iff x).1 hs
    obtain ⟨d, e, h⟩ := rng_inv (R := Bool) (body := b) (n := x.Segments.length) (fun k d => d = (x.Segments.take k).flatMap (segR fun v => spec_IsVisible_m v t)) (fun k d hk h => by
      refine ⟨_, hb k d, ?_⟩
      have hw := wrap_id (n := ((x.Segments.length : Nat) : Int) - 1) (by omega) (by have := hx.1.2; omega)
      unfold impl_SegmentRows_m
      rw [IsStore_same, hs, cond_true, impl_within_iff, hw, decide_eq_true (show 0 ≤ ((k : Nat) : Int) ∧ ((k : Nat) : Int) ≤ ((x.Segments.length : Nat) : Int) - 1 by omega), cond_true, segRows_form, h, List.take_add_one, List.getElem?_eq_getElem hk, ← gt_at hk, List.flatMap_append]
      simp only [Option.toList_some, List.flatMap_cons, List.flatMap_nil, List.append_nil]
      rfl) (x.Segments.length - 0) 0 [] (by omega) rfl
    rw [List.take_length] at h
    exact ⟨d, e, by rw [h]; rfl⟩
theorem law_Segments (x0 : List Int) : laws_FnSegments_m x0 = true := by
  unfold laws_FnSegments_m
  cases laws_big_m x0 with
  | true => rfl
  | false =>
  obtain ⟨d, e, hd⟩ := Segs_join (x := (spec_DrawRowsAt_m x0).1) (t := (spec_DrawRowsAt_m x0).2) (fun k s => laws_FnSegments_b1 x0 k s) (fun k d => rfl)
  rw [e, cond_false]
  show cond _ (cond (spec_EqualRows_m (impl_SortRows_m d) _) _ false) false = true
  rw [RowsAt_same, EqualRows_refl, hd, EqualRows_refl, cond_true, cond_true, visible_same, beq_self_eq_true]
  rcases NewStore_is (spec_DrawNewStore_m x0).1 (spec_DrawNewStore_m x0).2 with ⟨e1, e2⟩ | ⟨x, e1, e2, hN⟩
  · rw [e1, e2, beq_self_eq_true, EqualStores_refl]
    rfl
  · rw [e1, e2, beq_self_eq_true, EqualStores_refl]
    show cond (impl_IsStore_m x) (cond (spec_EqualRows_m (impl_RowsAt_m x 0) (spec_DrawNewStore_m x0).1) (cond (impl_CountVersions_m x == (((spec_DrawNewStore_m x0).1.length : Nat) : Int)) true false) false) false = true
    have hc : impl_CountVersions_m x = (((spec_DrawNewStore_m x0).1.length : Nat) : Int) := by
      have h1 := hN.2.2.2.2.length_eq
      rw [List.length_flatten, List.length_map] at h1
      have h2 := (AreRows_fact hN.1).1
      rw [CountVersions_form, h1]
      unfold cut64
      rw [wrap_id (by omega) (by omega)]
      omega
    rw [IsStore_same, (Sto_iff x).2 (New_vers hN), RowsAt_same, New_rows hN, EqualRows_refl, hc, beq_self_eq_true]
    rfl

end Go.Proofs.Ytglapeecbnaipaa
