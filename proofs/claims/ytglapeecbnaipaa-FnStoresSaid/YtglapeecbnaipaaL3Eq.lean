/-
  The program and the reference compute the same: plain laws over what the walks showed.
-/
import Derived.Test.YtglapeecbnaipaaL3Law
namespace Go.Proofs.Ytglapeecbnaipaa
open Go.RowKit
theorem foldl_cat {α β : Type} (F : α → List β) : ∀ (xs : List α) (d : List β), xs.foldl (fun d a => d ++ F a) d = d ++ xs.flatMap F
  | [], d => by simp
  | x :: xs, d => by rw [List.foldl_cons, foldl_cat F xs]; simp
theorem segR_flatten (vis : DVersion → Bool) (l : List (List DVersion)) : segR vis l.flatten = l.flatMap (segR vis) := by
  unfold segR
  rw [List.filter_flatten, List.map_flatten, List.map_map]
  rfl
theorem lessInts_lex (x y : List Int) : spec_l3LessInts_m x y = decide (lexI x y < 0) := by
  unfold spec_l3LessInts_m
  have h : ∀ m k, m + k = x.length → k ≤ y.length → Sum.elim id (fun (_ : Unit) => decide (((x.length : Nat) : Int) < ((y.length : Nat) : Int))) (rngb (R := Bool) (fun k (_ : Unit) => spec_l3LessInts_b1 x y k) m k ()) = decide (lexI (x.drop k) (y.drop k) < 0) := by
    intro m
    induction m with
    | zero =>
      intro k hk hy
      rw [rngb]
      show decide (((x.length : Nat) : Int) < ((y.length : Nat) : Int)) = _
      rw [List.drop_of_length_le (l := x) (by omega)]
      by_cases h2 : x.length < y.length
      · rw [decide_eq_true (by omega), List.drop_eq_getElem_cons (show k < y.length by omega)]; rfl
      · rw [decide_eq_false (by omega), List.drop_of_length_le (l := y) (by omega)]; rfl
    | succ m ih =>
      intro k hk hy
      rw [rngb]
      show Sum.elim id _ (Sum.elim Sum.inl (Sum.elim Sum.inr (fun _ => rngb _ m (k + 1) ())) (spec_l3LessInts_b1 x y k)) = _
      unfold spec_l3LessInts_b1
      by_cases h1 : k < y.length
      · rw [decide_eq_true (show ((k : Nat) : Int) < ((y.length : Nat) : Int) by omega), List.drop_eq_getElem_cons (show k < x.length by omega), List.drop_eq_getElem_cons h1, lexI, ← gt_at, ← gt_at]
        by_cases h2 : gt x k = gt y k
        · rw [h2, bne_self_eq_false, if_neg (by omega), if_neg (by omega)]
          exact ih (k + 1) (by omega) (by omega)
        · rw [bne_iff_ne.2 h2]
          show decide (gt x k < gt y k) = _
          by_cases h3 : gt x k < gt y k
          · rw [if_pos h3, decide_eq_true h3]; rfl
          · rw [if_neg h3, if_pos (by omega), decide_eq_false h3]; rfl
      · rw [decide_eq_false (show ¬ ((k : Nat) : Int) < ((y.length : Nat) : Int) by omega), List.drop_of_length_le (l := y) (by omega), List.drop_eq_getElem_cons (show k < x.length by omega)]
        show decide (((x.length : Nat) : Int) < ((y.length : Nat) : Int)) = _
        rw [decide_eq_false (by omega)]; rfl
  exact h (x.length - 0) 0 (by omega) (Nat.zero_le _)
theorem less_same (a b : DRow) : spec_l3Less_m a b = lt0 impl_SortRows_1_m a b := by
  rw [Bool.eq_iff_iff, rows_lt]
  unfold spec_l3Less_m
  rw [lessInts_lex]
  by_cases h : a.Id = b.Id
  · rw [h, bne_self_eq_false, cond_false, decide_eq_true_eq]
    exact ⟨fun x => .inr ⟨rfl, x⟩, fun x => by rcases x with x | x; exact absurd x (by omega); exact x.2⟩
  · rw [bne_iff_ne.2 h, cond_true, decide_eq_true_eq]
    exact ⟨.inl, fun x => by rcases x with x | x; exact x; exact absurd x.1 h⟩
theorem sortPos (x : List DRow) (j : Nat) (d : List DRow) : ∀ m k s, s < m → s ≤ d.length → ∃ s', rngb (R := List DRow) (fun k (s : Nat) => spec_SortRows_b2 x j d k s) m k s = .inr s' ∧ s' ≤ s ∧ (∀ i, s' ≤ i → i < s → lt0 impl_SortRows_1_m (gt x j) (gt d i) = true) ∧ (s' = 0 ∨ lt0 impl_SortRows_1_m (gt x j) (gt d (s' - 1)) = false)
  | 0, _, _, h, _ => by omega
  | m + 1, k, s, h, hd => by
    rw [rngb]
    show ∃ s', Sum.elim Sum.inl (Sum.elim Sum.inr (fun s => rngb _ m (k + 1) s)) (spec_SortRows_b2 x j d k s) = _ ∧ _
    unfold spec_SortRows_b2
    rw [less_same]
    by_cases h0 : 0 < s
    · rw [decide_eq_true (show (0 : Int) < ((s : Nat) : Int) by omega)]
      cases hl : lt0 impl_SortRows_1_m (gt x j) (gt d (s - 1)) with
      | false => exact ⟨s, rfl, Nat.le_refl _, fun i _ _ => by omega, .inr hl⟩
      | true =>
        obtain ⟨s', e1, e2, e3, e4⟩ := sortPos x j d m (k + 1) (s - 1) (by omega) (by omega)
        refine ⟨s', e1, by omega, fun i hi hs => ?_, e4⟩
        by_cases hq : i = s - 1
        · rw [hq]; exact hl
        · exact e3 i hi (by omega)
    · rw [decide_eq_false (show ¬ (0 : Int) < ((s : Nat) : Int) by omega)]
      exact ⟨s, rfl, Nat.le_refl _, fun i _ _ => by omega, .inl (by omega)⟩
theorem pw_insert {lt : DRow → DRow → Bool} (o : Ord lt) {d : List DRow} {x : DRow} {s : Nat} (hs : s ≤ d.length) (hd : d.Pairwise fun a b => lt b a = false) (h1 : ∀ i, s ≤ i → i < d.length → lt x (gt d i) = true) (h2 : s = 0 ∨ lt x (gt d (s - 1)) = false) :
    (d.take s ++ [x] ++ d.drop s).Pairwise fun a b => lt b a = false := by
  have hA : ∀ a ∈ d.take s, lt x a = false := fun a ha => by
    obtain ⟨i, hi, rfl⟩ := List.mem_iff_getElem.1 ha
    rw [List.length_take] at hi
    rw [List.getElem_take, ← gt_at (by omega)]
    rcases h2 with h2 | h2
    · omega
    · by_cases hq : i = s - 1
      · rw [hq]; exact h2
      · refine o.tr (gt d i) (gt d (s - 1)) x ?_ h2
        rw [gt_at (show i < d.length by omega), gt_at (show s - 1 < d.length by omega)]
        exact List.pairwise_iff_getElem.1 hd i (s - 1) _ _ (by omega)
  have hB : ∀ b ∈ d.drop s, lt b x = false := fun b hb => by
    obtain ⟨i, hi, rfl⟩ := List.mem_iff_getElem.1 hb
    rw [List.length_drop] at hi
    rw [List.getElem_drop, ← gt_at (by omega)]
    exact o.asym _ _ (h1 (s + i) (by omega) (by omega))
  have hC : (d.take s ++ d.drop s).Pairwise fun a b => lt b a = false := by rw [List.take_append_drop]; exact hd
  rw [List.pairwise_append] at hC
  rw [List.append_assoc, List.pairwise_append]
  refine ⟨hC.1, ?_, fun a ha b hb => ?_⟩
  · rw [List.singleton_append, List.pairwise_cons]
    exact ⟨hB, hC.2.1⟩
  · rw [List.singleton_append] at hb
    rcases List.mem_cons.1 hb with rfl | hb
    · exact hA a ha
    · exact hC.2.2 a ha b hb
theorem SortRows_same (x : List DRow) : spec_SortRows_m x = impl_SortRows_m x := by
  unfold spec_SortRows_m
  obtain ⟨d, e1, e2, e3⟩ := rng_inv (R := List DRow) (body := fun k s => spec_SortRows_b1 x k s) (n := x.length) (fun k d => d.Perm (x.take k) ∧ d.Pairwise fun a b => lt0 impl_SortRows_1_m b a = false) (fun k d hk ⟨hp, hw⟩ => by
    unfold spec_SortRows_b1
    obtain ⟨s, q1, q2, q3, q4⟩ := sortPos x k d (d.length + 1) 0 d.length (by omega) (Nat.le_refl _)
    refine ⟨_, by rw [Nat.sub_zero, q1]; rfl, ?_, pw_insert impl_SortRows_1_ord q2 hw q3 q4⟩
    rw [List.take_add_one, List.getElem?_eq_getElem hk, ← gt_at hk]
    refine List.Perm.trans ?_ (hp.append_right _)
    show (d.take s ++ [gt x k] ++ d.drop s).Perm (d ++ [gt x k])
    have h2 : (d.take s ++ ([gt x k] ++ d.drop s)).Perm (d.take s ++ (d.drop s ++ [gt x k])) := List.perm_append_comm.append_left _
    rw [← List.append_assoc, ← List.append_assoc, List.take_append_drop] at h2
    exact h2) x.length 0 [] (by omega) ⟨List.Perm.refl _, List.Pairwise.nil⟩
  rw [Nat.sub_zero, e1]
  show d = stb (lt0 impl_SortRows_1_m) x
  obtain ⟨s1, s2⟩ := stb_ok impl_SortRows_1_ord x
  rw [List.take_length] at e2
  refine List.Perm.eq_of_pairwise (le := fun a b => lt0 impl_SortRows_1_m b a = false) (fun a b _ _ h1 h2 => ?_) e3 s2 (e2.trans s1.symm)
  have k1 : ¬ _ := fun h => by rw [(rows_lt b a).2 h] at h1; cases h1
  have k2 : ¬ _ := fun h => by rw [(rows_lt a b).2 h] at h2; cases h2
  have hi : a.Id = b.Id := by omega
  have hv : lexI a.Values b.Values = 0 := by
    have n1 := lexI_pos a.Values b.Values
    by_cases c1 : lexI a.Values b.Values < 0
    · exact absurd (.inr ⟨hi, c1⟩) k2
    · by_cases c2 : 0 < lexI a.Values b.Values
      · exact absurd (.inr ⟨hi.symm, n1 c2⟩) k1
      · omega
  have hv := lexI_eq _ _ hv
  cases a; cases b
  cases hi; cases hv; rfl
theorem spec_RowsAt_form (x : DStore) (t : Int) : spec_RowsAt_m x t = cond (spec_IsStore_m x) (impl_SortRows_m (x.Segments.flatMap (segR fun v => spec_IsVisible_m v t))) [] := by
  unfold spec_RowsAt_m
  rw [SortRows_same, spec_l7Rows_form, l7All_form, segR_flatten]
theorem impl_RowsAt_form (x : DStore) (t : Int) : impl_RowsAt_m x t = cond (impl_IsStore_m x) (impl_SortRows_m (x.Segments.flatMap (segR fun v => impl_IsVisible_m v t))) [] := by
  unfold impl_RowsAt_m
  rw [rng_fold (xs := x.Segments) (f := fun d s => d ++ segR (fun v => impl_IsVisible_m v t) s) (b := fun k s => impl_RowsAt_b1 x t k s) (fun j s _ => by unfold impl_RowsAt_b1; rw [segRows_form]), foldl_cat]
  rfl
theorem RowsAt_same (x : DStore) (t : Int) : impl_RowsAt_m x t = spec_RowsAt_m x t := by
  rw [impl_RowsAt_form, spec_RowsAt_form, IsStore_same]
  rfl
theorem Apart_symm {v w : DVersion} (h : spec_l7Apart_m v w = true) : spec_l7Apart_m w v = true := by
  rw [Apart_eq, decide_eq_true_eq] at h ⊢
  omega
theorem seenF_iff (now : Int) : ∀ (l seen : List DVersion), seenF (okS now) seen l = true ↔ (∀ v ∈ l, spec_l7Version_m v now = true) ∧ (∀ v ∈ l, ∀ w ∈ seen, spec_l7Apart_m v w = true) ∧ l.Pairwise (fun a b => spec_l7Apart_m b a = true)
  | [], seen => by simp [seenF]
  | v :: l, seen => by
    have ih := seenF_iff now l (seen ++ [v])
    show (okS now seen v && seenF (okS now) (seen ++ [v]) l) = true ↔ _
    rw [Bool.and_eq_true, ih]
    unfold okS
    rw [Bool.and_eq_true, List.all_eq_true, List.pairwise_cons]
    constructor
    · rintro ⟨⟨a, b⟩, c, d, e⟩
      refine ⟨fun w hw => ?_, fun w hw y hy => ?_, fun w hw => d w hw v (by simp), e⟩
      · rcases List.mem_cons.1 hw with rfl | h
        · exact a
        · exact c w h
      · rcases List.mem_cons.1 hw with rfl | h
        · exact b y hy
        · exact d w h y (List.mem_append_left _ hy)
    · rintro ⟨a, b, c, d⟩
      refine ⟨⟨a v (by simp), fun y hy => b v (by simp) y hy⟩, fun w hw => a w (List.mem_cons_of_mem _ hw), fun w hw y hy => ?_, d⟩
      rcases List.mem_append.1 hy with h | h
      · exact b w (List.mem_cons_of_mem _ hw) y h
      · rw [List.mem_singleton.1 h]; exact c w hw
def Sto (x : DStore) : Prop := (1 ≤ x.Segments.length ∧ x.Segments.length ≤ 8) ∧ (0 ≤ x.Now ∧ x.Now ≤ 100000) ∧ (∀ s ∈ x.Segments, s.length ≤ 4) ∧ (∀ v ∈ x.Segments.flatten, spec_l7Version_m v x.Now = true) ∧ x.Segments.flatten.Pairwise (fun a b => spec_l7Apart_m b a = true)
theorem Sto_iff (x : DStore) : spec_IsStore_m x = true ↔ Sto x := by
  rw [spec_IsStore_form]
  unfold storeB Sto
  simp only [Bool.and_eq_true, decide_eq_true_eq, List.all_eq_true, seenF_iff]
  constructor
  · rintro ⟨⟨⟨a, b⟩, c⟩, d, _, e⟩; exact ⟨by omega, b, c, d, e⟩
  · rintro ⟨a, b, c, d, e⟩; exact ⟨⟨⟨by omega, b⟩, c⟩, d, fun _ _ w hw => (by cases hw), e⟩
theorem split_at {α : Type} [Inhabited α] {l : List α} {i : Nat} (h : i < l.length) (y : α) : ∃ a b, l = a ++ gt l i :: b ∧ l.set i y = a ++ y :: b := by
  refine ⟨l.take i, l.drop (i + 1), ?_, ?_⟩
  · rw [gt_at h, List.getElem_cons_drop]
    exact (List.take_append_drop i l).symm
  · rw [List.set_eq_take_append_cons_drop, if_pos h]
theorem seg_kill {S : List (List DVersion)} {i k : Nat} (hi : i < S.length) (hk : k < (gt S i).length) (v' : DVersion) : ∃ L, S.flatten.Perm (gt (gt S i) k :: L) ∧ (S.set i ((gt S i).set k v')).flatten.Perm (v' :: L) := by
  obtain ⟨a, b, e1, e2⟩ := split_at hi ((gt S i).set k v')
  obtain ⟨c, d, f1, f2⟩ := split_at hk v'
  have h1 := congrArg List.flatten e1
  generalize gt (gt S i) k = v at f1 ⊢
  rw [f1] at h1
  refine ⟨(a.flatten ++ c) ++ (d ++ b.flatten), ?_, ?_⟩
  · rw [h1, show (a ++ (c ++ v :: d) :: b).flatten = (a.flatten ++ c) ++ v :: (d ++ b.flatten) by simp]; exact List.perm_middle
  · rw [e2, f2, show (a ++ (c ++ v' :: d) :: b).flatten = (a.flatten ++ c) ++ v' :: (d ++ b.flatten) by simp]; exact List.perm_middle
theorem seg_add {S : List (List DVersion)} {j : Nat} (hj : j < S.length) (n : DVersion) : (S.set j (gt S j ++ [n])).flatten.Perm (n :: S.flatten) := by
  obtain ⟨a, b, e1, e2⟩ := split_at hj (gt S j ++ [n])
  have h1 := congrArg List.flatten e1
  rw [e2, h1, show (a ++ (gt S j ++ [n]) :: b).flatten = (a.flatten ++ gt S j) ++ n :: b.flatten by simp, show (a ++ gt S j :: b).flatten = (a.flatten ++ gt S j) ++ b.flatten by simp]
  exact List.perm_middle
theorem seg_vis {S : List (List DVersion)} {i : Nat} {s' : List DVersion} (hi : i < S.length) (f : DVersion → Bool) (h : segR f s' = segR f (gt S i)) : (S.set i s').flatMap (segR f) = S.flatMap (segR f) := by
  obtain ⟨a, b, e1, e2⟩ := split_at hi s'
  have h1 := congrArg (List.flatMap (segR f)) e1
  rw [e2, h1]
  simp only [List.flatMap_append, List.flatMap_cons, h]
theorem segR_append (f : DVersion → Bool) (s t : List DVersion) : segR f (s ++ t) = segR f s ++ segR f t := by
  unfold segR
  rw [List.filter_append, List.map_append]
theorem segR_no {f : DVersion → Bool} {n : DVersion} (h : f n = false) : segR f [n] = [] := by
  unfold segR
  rw [List.filter_cons, h]
  rfl
theorem segR_yes {f : DVersion → Bool} {n : DVersion} (h : f n = true) : segR f [n] = [⟨n.Id, n.Values⟩] := by
  unfold segR
  rw [List.filter_cons, h]
  rfl
theorem segR_kill {f : DVersion → Bool} {s : List DVersion} {k : Nat} (hk : k < s.length) {t : Int} (h : f ⟨(gt s k).Id, (gt s k).Values, (gt s k).Born, t⟩ = f (gt s k)) : segR f (s.set k ⟨(gt s k).Id, (gt s k).Values, (gt s k).Born, t⟩) = segR f s := by
  obtain ⟨a, b, e1, e2⟩ := split_at hk ⟨(gt s k).Id, (gt s k).Values, (gt s k).Born, t⟩
  have h1 := congrArg (segR f) e1
  rw [e2, h1, ← List.singleton_append, ← List.singleton_append (l := b), segR_append, segR_append, segR_append, segR_append]
  congr 2
  cases hf : f (gt s k) with
  | true => rw [segR_yes hf, segR_yes (by rw [h]; exact hf)]
  | false => rw [segR_no hf, segR_no (by rw [h]; exact hf)]
def FindAt (x : DStore) (id : Int) (r : Int × Int) : Prop := 0 ≤ r.1 ∧ r.1.toNat < x.Segments.length ∧ r.2.toNat < (gt x.Segments r.1.toNat).length ∧ (gt (gt x.Segments r.1.toNat) r.2.toNat).Id = id ∧ (gt (gt x.Segments r.1.toNat) r.2.toNat).Died = -1
theorem Find_is (x : DStore) (id : Int) : ((spec_l8Find_m x id).1 < 0 ∧ ∀ w ∈ x.Segments.flatten, w.Id = id → w.Died ≠ -1) ∨ FindAt x id (spec_l8Find_m x id) := by
  have inner : ∀ i, i < x.Segments.length → (spec_l8Find_b1 x id i = .inr () ∧ ∀ q, q < (gt x.Segments i).length → (gt (gt x.Segments i) q).Id = id → (gt (gt x.Segments i) q).Died ≠ -1) ∨ ∃ r, spec_l8Find_b1 x id i = .inl r ∧ FindAt x id r := by
    intro i hi
    unfold spec_l8Find_b1
    have key := rng_inv2 (n := (gt x.Segments i).length) (body := fun k (_ : Unit) => spec_l8Find_b2 x id i k) (fun k (_ : Unit) => ∀ q, q < k → (gt (gt x.Segments i) q).Id = id → (gt (gt x.Segments i) q).Died ≠ -1) (FindAt x id) (fun k s hk hJ => by
      show (∃ s', spec_l8Find_b2 x id i k = .inr s' ∧ _) ∨ ∃ r, spec_l8Find_b2 x id i k = .inl r ∧ _
      unfold spec_l8Find_b2
      by_cases h1 : (gt (gt x.Segments i) k).Id = id
      · by_cases h2 : (gt (gt x.Segments i) k).Died = -1
        · refine .inr ⟨(((i : Nat) : Int), ((k : Nat) : Int)), ?_, ?_⟩
          · rw [beq_iff_eq.2 h1, beq_iff_eq.2 h2]; rfl
          · unfold FindAt; simp only [Int.toNat_natCast]; exact ⟨by omega, hi, hk, h1, h2⟩
        · refine .inl ⟨(), ?_, fun q hq => ?_⟩
          · rw [beq_iff_eq.2 h1, beq_eq_false_iff_ne.2 h2]; rfl
          · rcases Nat.lt_succ_iff_lt_or_eq.1 hq with h | rfl
            · exact hJ q h
            · exact fun _ => h2
      · refine .inl ⟨(), ?_, fun q hq => ?_⟩
        · rw [beq_eq_false_iff_ne.2 h1]; rfl
        · rcases Nat.lt_succ_iff_lt_or_eq.1 hq with h | rfl
          · exact hJ q h
          · exact fun h' => absurd h' h1) ((gt x.Segments i).length - 0) 0 () (by omega) (fun q hq => absurd hq (by omega))
    rcases key with ⟨s', e, h⟩ | ⟨r, e, h⟩
    · rw [e]; exact .inl ⟨rfl, h⟩
    · rw [e]; exact .inr ⟨r, rfl, h⟩
  have key := rng_inv2 (n := x.Segments.length) (body := fun k (_ : Unit) => spec_l8Find_b1 x id k) (fun k (_ : Unit) => ∀ p, p < k → ∀ q, q < (gt x.Segments p).length → (gt (gt x.Segments p) q).Id = id → (gt (gt x.Segments p) q).Died ≠ -1) (FindAt x id) (fun k s hk hJ => by
    show (∃ s', spec_l8Find_b1 x id k = .inr s' ∧ _) ∨ ∃ r, spec_l8Find_b1 x id k = .inl r ∧ _
    rcases inner k hk with ⟨e, h⟩ | ⟨r, e, h⟩
    · refine .inl ⟨(), e, fun p hp => ?_⟩
      rcases Nat.lt_succ_iff_lt_or_eq.1 hp with h' | rfl
      · exact hJ p h'
      · exact h
    · exact .inr ⟨r, e, h⟩) (x.Segments.length - 0) 0 () (by omega) (fun p hp => absurd hp (by omega))
  unfold spec_l8Find_m
  rcases key with ⟨s', e, h⟩ | ⟨r, e, h⟩
  · rw [e]
    refine .inl ⟨(by show (-1 : Int) < 0; decide), fun w hw => ?_⟩
    obtain ⟨s, hs, hw⟩ := List.mem_flatten.1 hw
    obtain ⟨p, hp, rfl⟩ := List.mem_iff_getElem.1 hs
    obtain ⟨q, hq, rfl⟩ := List.mem_iff_getElem.1 hw
    have := h p hp q (by rw [gt_at hp]; exact hq)
    rw [gt_at hp] at this
    rw [gt_at hq] at this
    exact this
  · rw [e]; exact .inr h
def Upd (x : DStore) (u : DUpdate) (y : DStore) : Prop :=
  y.Now = x.Now + 1 ∧ x.Now < 100000 ∧ y.Segments.length = x.Segments.length ∧ (∀ s ∈ y.Segments, s.length ≤ 4) ∧
  (∀ t : Int, t ≤ x.Now → y.Segments.flatMap (segR fun v => spec_IsVisible_m v t) = x.Segments.flatMap (segR fun v => spec_IsVisible_m v t)) ∧
  ∃ (o nw L : List DVersion), x.Segments.flatten.Perm (o ++ L) ∧ y.Segments.flatten.Perm (nw ++ (o.map (fun v => (⟨v.Id, v.Values, v.Born, x.Now + 1⟩ : DVersion)) ++ L)) ∧ (∀ w ∈ L, w.Id = u.Row.Id → w.Died ≠ -1) ∧
    (∀ v ∈ o, v.Id = u.Row.Id ∧ v.Died = -1) ∧
    ((u.Kind = 1 ∧ o = [] ∧ nw = [⟨u.Row.Id, u.Row.Values, x.Now + 1, -1⟩]) ∨ (u.Kind = 2 ∧ (∃ v, o = [v]) ∧ nw = []) ∨ (u.Kind = 3 ∧ ∃ v, o = [v] ∧ nw = [⟨u.Row.Id, v.Values.set u.Field.toNat u.Value, x.Now + 1, -1⟩]))
theorem vis_new {id b t : Int} {vs : List Int} (h : t < b) : spec_IsVisible_m ⟨id, vs, b, -1⟩ t = false := by
  show impl_IsVisible_m _ t = false
  rw [Visible_eq]
  exact decide_eq_false (by show ¬ (b ≤ t ∧ _); omega)
theorem vis_kill {v : DVersion} {d t : Int} (h : t < d) (hd : v.Died = -1) : spec_IsVisible_m ⟨v.Id, v.Values, v.Born, d⟩ t = spec_IsVisible_m v t := by
  show impl_IsVisible_m _ t = impl_IsVisible_m _ t
  rw [Visible_eq, Visible_eq]
  apply decide_eq_decide.2
  show (v.Born ≤ t ∧ (d = -1 ∨ t < d)) ↔ _
  omega
theorem segs_add {S : List (List DVersion)} {j : Nat} {n : DVersion} (h4 : ∀ s ∈ S, s.length ≤ 4) (hj : (gt S j).length < 4) : ∀ s ∈ S.set j (gt S j ++ [n]), s.length ≤ 4 := fun s hs => by
  rcases List.mem_or_eq_of_mem_set hs with h | rfl
  · exact h4 s h
  · rw [List.length_append]; show _ + 1 ≤ 4; omega
theorem Update_is {x : DStore} {u : DUpdate} (hx : Sto x) (h : (spec_ApplyUpdate_m x u).2 = true) : spec_IsUpdate_m u = true ∧ Upd x u (spec_ApplyUpdate_m x u).1 := by
  have hs := (Sto_iff x).2 hx
  obtain ⟨⟨s1, s8⟩, ⟨n0, n1⟩, h4, hv, hp⟩ := hx
  cases hu : spec_IsUpdate_m u with
  | false => unfold spec_ApplyUpdate_m at h; rw [hs, hu] at h; cases h
  | true =>
  refine ⟨rfl, ?_⟩
  by_cases ht : 100000 ≤ x.Now
  · unfold spec_ApplyUpdate_m at h; rw [hs, hu, decide_eq_true ht] at h; cases h
  have hw : IntKind.i64.wrap (x.Now + 1) = x.Now + 1 := wrap_id (by omega) (by omega)
  obtain ⟨hk, _, _, _⟩ := spec_Update_fact hu
  have hr0 := spec_Room_fact x
  rcases Find_is x u.Row.Id with ⟨f1, f2⟩ | ⟨g1, g2, g3, g4, g5⟩
  · by_cases k1 : u.Kind = 1
    · by_cases hr : spec_l8Room_m x < 0
      · exfalso
        unfold spec_ApplyUpdate_m at h
        rw [hs, hu, decide_eq_false ht, decide_eq_true f1, beq_iff_eq.2 k1, bne_iff_ne.2 (show u.Kind ≠ 2 by omega), decide_eq_true hr] at h
        cases h
      · have e : spec_ApplyUpdate_m x u = (⟨x.Segments.set (spec_l8Room_m x).toNat (gt x.Segments (spec_l8Room_m x).toNat ++ [⟨u.Row.Id, u.Row.Values, x.Now + 1, -1⟩]), x.Now + 1⟩, true) := by
          unfold spec_ApplyUpdate_m
          rw [hs, hu, decide_eq_false ht, decide_eq_true f1, beq_iff_eq.2 k1, bne_iff_ne.2 (show u.Kind ≠ 2 by omega), decide_eq_false hr, decide_eq_false (show ¬ 0 ≤ (spec_l8Find_m x u.Row.Id).1 by omega), beq_eq_false_iff_ne.2 (show ¬ u.Kind = 3 by omega), hw]
          rfl
        obtain ⟨_, r2, r3⟩ := hr0.resolve_left hr
        rw [e]
        refine ⟨rfl, by omega, List.length_set, segs_add h4 r3, fun t ht' => seg_vis r2 _ ?_, [], _, x.Segments.flatten, .refl _, seg_add r2 _, f2, (fun v hv => by cases hv), .inl ⟨k1, rfl, rfl⟩⟩
        rw [segR_append, segR_no (vis_new (by omega)), List.append_nil]
    · exfalso
      unfold spec_ApplyUpdate_m at h
      rw [hs, hu, decide_eq_false ht, decide_eq_true f1, beq_eq_false_iff_ne.2 k1] at h
      cases h
  · have hne : ∀ v' : DVersion, ∃ L, x.Segments.flatten.Perm (gt (gt x.Segments (spec_l8Find_m x u.Row.Id).1.toNat) (spec_l8Find_m x u.Row.Id).2.toNat :: L) ∧ (x.Segments.set (spec_l8Find_m x u.Row.Id).1.toNat ((gt x.Segments (spec_l8Find_m x u.Row.Id).1.toNat).set (spec_l8Find_m x u.Row.Id).2.toNat v')).flatten.Perm (v' :: L) ∧ ∀ w ∈ L, w.Id = u.Row.Id → w.Died ≠ -1 := by
      intro v'
      obtain ⟨L, l1, l2⟩ := seg_kill g2 g3 v'
      refine ⟨L, l1, l2, fun w hw hid hd => ?_⟩
      have hp2 := (l1.pairwise_iff (R := fun a b => spec_l7Apart_m b a = true) (fun h => Apart_symm h)).1 hp
      have := (List.pairwise_cons.1 hp2).1 w hw
      rw [Apart_eq, decide_eq_true_eq] at this
      omega
    have hvis : ∀ t, t ≤ x.Now → segR (fun v => spec_IsVisible_m v t) ((gt x.Segments (spec_l8Find_m x u.Row.Id).1.toNat).set (spec_l8Find_m x u.Row.Id).2.toNat ⟨(gt (gt x.Segments (spec_l8Find_m x u.Row.Id).1.toNat) (spec_l8Find_m x u.Row.Id).2.toNat).Id, (gt (gt x.Segments (spec_l8Find_m x u.Row.Id).1.toNat) (spec_l8Find_m x u.Row.Id).2.toNat).Values, (gt (gt x.Segments (spec_l8Find_m x u.Row.Id).1.toNat) (spec_l8Find_m x u.Row.Id).2.toNat).Born, x.Now + 1⟩) = segR (fun v => spec_IsVisible_m v t) (gt x.Segments (spec_l8Find_m x u.Row.Id).1.toNat) :=
      fun t ht' => segR_kill g3 (vis_kill (by omega) g5)
    by_cases k1 : u.Kind = 1
    · exfalso
      unfold spec_ApplyUpdate_m at h
      rw [hs, hu, decide_eq_false ht, decide_eq_false (show ¬ (spec_l8Find_m x u.Row.Id).1 < 0 by omega), beq_iff_eq.2 k1] at h
      cases h
    have h4' : ∀ v' : DVersion, ∀ s ∈ x.Segments.set (spec_l8Find_m x u.Row.Id).1.toNat ((gt x.Segments (spec_l8Find_m x u.Row.Id).1.toNat).set (spec_l8Find_m x u.Row.Id).2.toNat v'), s.length ≤ 4 := fun v' s hs' => by
      rcases List.mem_or_eq_of_mem_set hs' with h' | rfl
      · exact h4 s h'
      · rw [List.length_set]; exact h4 _ (gt_mem g2)
    by_cases k2 : u.Kind = 2
    · have e : spec_ApplyUpdate_m x u = (⟨x.Segments.set (spec_l8Find_m x u.Row.Id).1.toNat ((gt x.Segments (spec_l8Find_m x u.Row.Id).1.toNat).set (spec_l8Find_m x u.Row.Id).2.toNat ⟨(gt (gt x.Segments (spec_l8Find_m x u.Row.Id).1.toNat) (spec_l8Find_m x u.Row.Id).2.toNat).Id, (gt (gt x.Segments (spec_l8Find_m x u.Row.Id).1.toNat) (spec_l8Find_m x u.Row.Id).2.toNat).Values, (gt (gt x.Segments (spec_l8Find_m x u.Row.Id).1.toNat) (spec_l8Find_m x u.Row.Id).2.toNat).Born, x.Now + 1⟩), x.Now + 1⟩, true) := by
        unfold spec_ApplyUpdate_m spec_ApplyUpdate_v1
        rw [hs, hu, decide_eq_false ht, decide_eq_false (show ¬ (spec_l8Find_m x u.Row.Id).1 < 0 by omega), beq_eq_false_iff_ne.2 k1, show (u.Kind != 2) = false from by rw [k2]; rfl, decide_eq_true g1, beq_eq_false_iff_ne.2 (show ¬ u.Kind = 3 by omega), hw]
        rfl
      obtain ⟨L, l1, l2, l3⟩ := hne ⟨(gt (gt x.Segments (spec_l8Find_m x u.Row.Id).1.toNat) (spec_l8Find_m x u.Row.Id).2.toNat).Id, (gt (gt x.Segments (spec_l8Find_m x u.Row.Id).1.toNat) (spec_l8Find_m x u.Row.Id).2.toNat).Values, (gt (gt x.Segments (spec_l8Find_m x u.Row.Id).1.toNat) (spec_l8Find_m x u.Row.Id).2.toNat).Born, x.Now + 1⟩
      rw [e]
      exact ⟨rfl, by omega, List.length_set, h4' _, fun t ht' => seg_vis g2 _ (hvis t ht'), [_], [], L, l1, l2, l3, (fun v hv => by rw [List.mem_singleton.1 hv]; exact ⟨g4, g5⟩), .inr (.inl ⟨k2, ⟨_, rfl⟩, rfl⟩)⟩
    · have k3 : u.Kind = 3 := by omega
      by_cases hr : spec_l8Room_m x < 0
      · exfalso
        unfold spec_ApplyUpdate_m at h
        rw [hs, hu, decide_eq_false ht, decide_eq_false (show ¬ (spec_l8Find_m x u.Row.Id).1 < 0 by omega), beq_eq_false_iff_ne.2 k1, bne_iff_ne.2 k2, decide_eq_true hr] at h
        cases h
      obtain ⟨_, r2, r3⟩ := hr0.resolve_left hr
      have e : spec_ApplyUpdate_m x u = (⟨(x.Segments.set (spec_l8Find_m x u.Row.Id).1.toNat ((gt x.Segments (spec_l8Find_m x u.Row.Id).1.toNat).set (spec_l8Find_m x u.Row.Id).2.toNat ⟨(gt (gt x.Segments (spec_l8Find_m x u.Row.Id).1.toNat) (spec_l8Find_m x u.Row.Id).2.toNat).Id, (gt (gt x.Segments (spec_l8Find_m x u.Row.Id).1.toNat) (spec_l8Find_m x u.Row.Id).2.toNat).Values, (gt (gt x.Segments (spec_l8Find_m x u.Row.Id).1.toNat) (spec_l8Find_m x u.Row.Id).2.toNat).Born, x.Now + 1⟩)).set (spec_l8Room_m x).toNat (gt (x.Segments.set (spec_l8Find_m x u.Row.Id).1.toNat ((gt x.Segments (spec_l8Find_m x u.Row.Id).1.toNat).set (spec_l8Find_m x u.Row.Id).2.toNat ⟨(gt (gt x.Segments (spec_l8Find_m x u.Row.Id).1.toNat) (spec_l8Find_m x u.Row.Id).2.toNat).Id, (gt (gt x.Segments (spec_l8Find_m x u.Row.Id).1.toNat) (spec_l8Find_m x u.Row.Id).2.toNat).Values, (gt (gt x.Segments (spec_l8Find_m x u.Row.Id).1.toNat) (spec_l8Find_m x u.Row.Id).2.toNat).Born, x.Now + 1⟩)) (spec_l8Room_m x).toNat ++ [⟨u.Row.Id, (gt (gt x.Segments (spec_l8Find_m x u.Row.Id).1.toNat) (spec_l8Find_m x u.Row.Id).2.toNat).Values.set u.Field.toNat u.Value, x.Now + 1, -1⟩]), x.Now + 1⟩, true) := by
        unfold spec_ApplyUpdate_m spec_ApplyUpdate_v2 spec_ApplyUpdate_v1
        rw [hs, hu, decide_eq_false ht, decide_eq_false (show ¬ (spec_l8Find_m x u.Row.Id).1 < 0 by omega), beq_eq_false_iff_ne.2 k1, bne_iff_ne.2 k2, decide_eq_false hr, decide_eq_true g1, beq_iff_eq.2 k3, hw]
        rfl
      obtain ⟨L, l1, l2, l3⟩ := hne ⟨(gt (gt x.Segments (spec_l8Find_m x u.Row.Id).1.toNat) (spec_l8Find_m x u.Row.Id).2.toNat).Id, (gt (gt x.Segments (spec_l8Find_m x u.Row.Id).1.toNat) (spec_l8Find_m x u.Row.Id).2.toNat).Values, (gt (gt x.Segments (spec_l8Find_m x u.Row.Id).1.toNat) (spec_l8Find_m x u.Row.Id).2.toNat).Born, x.Now + 1⟩
      have h4k := h4' ⟨(gt (gt x.Segments (spec_l8Find_m x u.Row.Id).1.toNat) (spec_l8Find_m x u.Row.Id).2.toNat).Id, (gt (gt x.Segments (spec_l8Find_m x u.Row.Id).1.toNat) (spec_l8Find_m x u.Row.Id).2.toNat).Values, (gt (gt x.Segments (spec_l8Find_m x u.Row.Id).1.toNat) (spec_l8Find_m x u.Row.Id).2.toNat).Born, x.Now + 1⟩
      rw [e]
      generalize hS : x.Segments.set (spec_l8Find_m x u.Row.Id).1.toNat ((gt x.Segments (spec_l8Find_m x u.Row.Id).1.toNat).set (spec_l8Find_m x u.Row.Id).2.toNat ⟨(gt (gt x.Segments (spec_l8Find_m x u.Row.Id).1.toNat) (spec_l8Find_m x u.Row.Id).2.toNat).Id, (gt (gt x.Segments (spec_l8Find_m x u.Row.Id).1.toNat) (spec_l8Find_m x u.Row.Id).2.toNat).Values, (gt (gt x.Segments (spec_l8Find_m x u.Row.Id).1.toNat) (spec_l8Find_m x u.Row.Id).2.toNat).Born, x.Now + 1⟩) = S at l2 h4k ⊢
      have hl : S.length = x.Segments.length := by rw [← hS, List.length_set]
      have hg : (gt S (spec_l8Room_m x).toNat).length < 4 := by rw [← hS, gtset_len List.length_set]; exact r3
      have r2' : (spec_l8Room_m x).toNat < S.length := by rw [hl]; exact r2
      refine ⟨rfl, by omega, (by show (S.set _ _).length = _; rw [List.length_set, hl]), segs_add h4k hg, fun t ht' => ?_, [_], [_], L, l1, (seg_add r2' _).trans (l2.cons _), l3, (fun v hv => by rw [List.mem_singleton.1 hv]; exact ⟨g4, g5⟩), .inr (.inr ⟨k3, _, rfl, rfl⟩)⟩
      show (S.set _ _).flatMap _ = _
      rw [seg_vis r2' _ (by rw [segR_append, segR_no (vis_new (by omega)), List.append_nil]), ← hS]
      exact seg_vis g2 _ (hvis t ht')
theorem IsRow_iff (r : DRow) : spec_IsRow_m r = true ↔ (∀ z ∈ r.Values, 0 ≤ z ∧ z ≤ 99) ∧ (0 ≤ r.Id ∧ r.Id ≤ 999) ∧ r.Values.length = 3 := by
  unfold spec_IsRow_m
  rw [rng_allB (xs := r.Values) (p := fun z => decide (0 ≤ z ∧ z ≤ 99)) (r := false) (fun k _ => by
    unfold spec_IsRow_b1
    rw [spec_l1In_iff]), spec_l1In_iff]
  have e : (r.Values.all fun z => decide (0 ≤ z ∧ z ≤ 99)) = true ↔ ∀ z ∈ r.Values, 0 ≤ z ∧ z ≤ 99 := by simp only [List.all_eq_true, decide_eq_true_eq]
  rw [← e]
  cases (r.Values.all fun z => decide (0 ≤ z ∧ z ≤ 99)) with
  | false => exact ⟨fun h => (by cases h), fun h => (by cases h.1)⟩
  | true =>
    show cond (decide (0 ≤ r.Id ∧ r.Id ≤ 999)) (((r.Values.length : Nat) : Int) == 3) false = true ↔ _
    by_cases h1 : 0 ≤ r.Id ∧ r.Id ≤ 999
    · rw [decide_eq_true h1, cond_true, beq_iff_eq]
      exact ⟨fun h => ⟨rfl, h1, by omega⟩, fun h => by omega⟩
    · rw [decide_eq_false h1]
      exact ⟨fun h => (by cases h), fun h => absurd h.2.1 h1⟩
theorem Version_iff {v : DVersion} {now : Int} (hn : now ≤ 100000) : spec_l7Version_m v now = true ↔ spec_IsRow_m (⟨v.Id, v.Values⟩ : DRow) = true ∧ 0 ≤ v.Born ∧ v.Born ≤ now ∧ (v.Died = -1 ∨ (v.Born + 1 ≤ v.Died ∧ v.Died ≤ now)) := by
  rw [Version_eq]
  simp only [Bool.and_eq_true, Bool.or_eq_true, decide_eq_true_eq, beq_iff_eq]
  constructor
  · rintro ⟨⟨a, b, c⟩, d⟩
    rw [wrap_id (by omega) (by omega)] at d
    exact ⟨a, b, c, d⟩
  · rintro ⟨a, b, c, d⟩
    rw [wrap_id (by omega) (by omega)]
    exact ⟨⟨a, b, c⟩, d⟩
theorem Update_more {u : DUpdate} (h : spec_IsUpdate_m u = true) : (u.Kind = 1 → spec_IsRow_m u.Row = true) ∧ (u.Kind = 3 → 0 ≤ u.Value ∧ u.Value ≤ 99) := by
  unfold spec_IsUpdate_m at h
  refine ⟨fun k => ?_, fun k => ?_⟩
  · rw [beq_iff_eq.2 k, cond_true] at h
    cases h2 : spec_IsRow_m u.Row with
    | true => rfl
    | false => rw [h2] at h; cases h
  · rw [beq_eq_false_iff_ne.2 (show ¬ u.Kind = 1 by omega), beq_eq_false_iff_ne.2 (show ¬ u.Kind = 2 by omega), beq_iff_eq.2 k, spec_l1In_iff u.Value] at h
    by_cases hv : 0 ≤ u.Value ∧ u.Value ≤ 99
    · exact hv
    · rw [decide_eq_false hv] at h
      revert h
      cases spec_l1In_m u.Row.Id 0 999 <;> cases ((u.Row.Values.length : Nat) : Int) == 0 <;> cases spec_l1In_m u.Field 0 2 <;> intro h <;> cases h
theorem Upd_Sto {x y : DStore} {u : DUpdate} (hx : Sto x) (hu : spec_IsUpdate_m u = true) (h : Upd x u y) : Sto y := by
  obtain ⟨⟨s1, s8⟩, ⟨n0, n1⟩, h4, hv, hp⟩ := hx
  obtain ⟨y1, y2, y3, y4, y5, o, nw, L, l1, l2, l3, l4, l5⟩ := h
  obtain ⟨u1, u2⟩ := Update_more hu
  have hvp : ∀ v ∈ o ++ L, spec_l7Version_m v x.Now = true := fun v h => hv v (l1.mem_iff.2 h)
  have hpp := (l1.pairwise_iff (R := fun a b => spec_l7Apart_m b a = true) (fun h => Apart_symm h)).1 hp
  have vL : ∀ w ∈ L, spec_l7Version_m w (x.Now + 1) = true := fun w hw => by
    have h := hvp w (List.mem_append_right _ hw)
    rw [Version_iff (by omega)] at h ⊢
    exact ⟨h.1, h.2.1, by omega, by omega⟩
  have vK : ∀ v ∈ o, spec_l7Version_m (⟨v.Id, v.Values, v.Born, x.Now + 1⟩ : DVersion) (x.Now + 1) = true := fun w hw => by
    have h := hvp w (List.mem_append_left _ hw)
    rw [Version_iff (by omega)] at h ⊢
    exact ⟨h.1, h.2.1, (by show w.Born ≤ _; omega), .inr (by show w.Born + 1 ≤ x.Now + 1 ∧ x.Now + 1 ≤ x.Now + 1; omega)⟩
  have vN : ∀ vs, spec_IsRow_m (⟨u.Row.Id, vs⟩ : DRow) = true → spec_l7Version_m (⟨u.Row.Id, vs, x.Now + 1, -1⟩ : DVersion) (x.Now + 1) = true := fun vs h => by
    rw [Version_iff (by omega)]
    exact ⟨h, (by show 0 ≤ x.Now + 1; omega), (by show x.Now + 1 ≤ x.Now + 1; omega), .inl rfl⟩
  have aN : ∀ vs, ∀ w ∈ L, spec_l7Apart_m w (⟨u.Row.Id, vs, x.Now + 1, -1⟩ : DVersion) = true := fun vs w hw => by
    have h := hvp w (List.mem_append_right _ hw)
    rw [Version_iff (by omega)] at h
    have := l3 w hw
    rw [Apart_eq, decide_eq_true_eq]
    show w.Id ≠ u.Row.Id ∨ (w.Died ≠ -1 ∧ w.Died ≤ x.Now + 1) ∨ _
    omega
  have aK : ∀ v, o = [v] → ∀ w ∈ L, spec_l7Apart_m w (⟨v.Id, v.Values, v.Born, x.Now + 1⟩ : DVersion) = true := fun v e w hw => by
    rw [e] at hpp
    have h := (List.pairwise_cons.1 hpp).1 w hw
    have h2 := l4 v (by rw [e]; exact List.mem_singleton.2 rfl)
    rw [Apart_eq, decide_eq_true_eq] at h ⊢
    show w.Id ≠ v.Id ∨ (w.Died ≠ -1 ∧ w.Died ≤ v.Born) ∨ _
    omega
  have pL : L.Pairwise (fun a b => spec_l7Apart_m b a = true) := (List.pairwise_append.1 hpp).2.1
  rw [← y1] at vL vK vN
  have key : (∀ v ∈ nw ++ (o.map (fun v => (⟨v.Id, v.Values, v.Born, x.Now + 1⟩ : DVersion)) ++ L), spec_l7Version_m v y.Now = true) ∧ (nw ++ (o.map (fun v => (⟨v.Id, v.Values, v.Born, x.Now + 1⟩ : DVersion)) ++ L)).Pairwise (fun a b => spec_l7Apart_m b a = true) := by
    rw [← y1] at aN aK ⊢
    rcases l5 with ⟨k, rfl, rfl⟩ | ⟨k, ⟨v, rfl⟩, rfl⟩ | ⟨k, v, rfl, rfl⟩
    · have hn := vN u.Row.Values (u1 k)
      rw [← y1]
      refine ⟨fun w hw => ?_, List.pairwise_cons.2 ⟨fun w hw => aN _ w hw, pL⟩⟩
      rcases List.mem_cons.1 hw with rfl | h
      · exact hn
      · exact vL w h
    · refine ⟨fun w hw => ?_, List.pairwise_cons.2 ⟨fun w hw => aK v rfl w hw, pL⟩⟩
      rcases List.mem_cons.1 hw with rfl | h
      · exact vK v (List.mem_singleton.2 rfl)
      · exact vL w h
    · have hr := hvp v (List.mem_append_left _ (List.mem_singleton.2 rfl))
      rw [Version_iff (by omega), IsRow_iff] at hr
      have h4v := l4 v (List.mem_singleton.2 rfl)
      have hn := vN (v.Values.set u.Field.toNat u.Value) (by
        rw [IsRow_iff]
        refine ⟨fun z hz => ?_, ?_, ?_⟩
        · rcases List.mem_or_eq_of_mem_set hz with h | rfl
          · exact hr.1.1 z h
          · exact u2 k
        · show 0 ≤ u.Row.Id ∧ u.Row.Id ≤ 999
          rw [← h4v.1]; exact hr.1.2.1
        · show (v.Values.set _ _).length = 3
          rw [List.length_set]; exact hr.1.2.2)
      rw [← y1]
      refine ⟨fun w hw => ?_, List.pairwise_cons.2 ⟨fun w hw => ?_, List.pairwise_cons.2 ⟨fun w hw => aK v rfl w hw, pL⟩⟩⟩
      · rcases List.mem_cons.1 hw with rfl | h
        · exact hn
        rcases List.mem_cons.1 h with rfl | h
        · exact vK v (List.mem_singleton.2 rfl)
        · exact vL w h
      · rcases List.mem_cons.1 hw with rfl | h
        · rw [Apart_eq, decide_eq_true_eq]
          exact .inr (.inl ⟨(by show y.Now ≠ -1; omega), (by show y.Now ≤ y.Now; omega)⟩)
        · exact aN _ w h
  refine ⟨by omega, by omega, y4, fun v h => key.1 v (l2.mem_iff.1 h), ?_⟩
  exact (l2.pairwise_iff (R := fun a b => spec_l7Apart_m b a = true) (fun h => Apart_symm h)).2 key.2
theorem RowsAt_perm {x : DStore} (h : spec_IsStore_m x = true) (t : Int) {l : List DVersion} (hp : x.Segments.flatten.Perm l) : (spec_RowsAt_m x t).Perm (segR (fun v => spec_IsVisible_m v t) l) := by
  rw [spec_RowsAt_form, h]
  show (stb (lt0 impl_SortRows_1_m) _).Perm _
  refine (stb_ok impl_SortRows_1_ord _).1.trans ?_
  rw [← segR_flatten]
  exact (hp.filter _).map _
theorem vis_at (v : DVersion) (t : Int) : spec_IsVisible_m v t = decide (v.Born ≤ t ∧ (v.Died = -1 ∨ t < v.Died)) := Visible_eq v t
theorem Upd_rows {x y : DStore} {u : DUpdate} (hx : Sto x) (h : Upd x u y) (hy : Sto y) : ∃ R : List DRow, (∀ r ∈ R, r.Id ≠ u.Row.Id) ∧ ((u.Kind = 1 ∧ (spec_RowsAt_m x x.Now).Perm R ∧ (spec_RowsAt_m y y.Now).Perm (⟨u.Row.Id, u.Row.Values⟩ :: R)) ∨ (u.Kind = 2 ∧ (∃ r, (spec_RowsAt_m x x.Now).Perm (r :: R)) ∧ (spec_RowsAt_m y y.Now).Perm R) ∨
    (u.Kind = 3 ∧ ∃ vs : List Int, (∃ r, (spec_RowsAt_m x x.Now).Perm (r :: R)) ∧ (spec_RowsAt_m y y.Now).Perm (⟨u.Row.Id, vs.set u.Field.toNat u.Value⟩ :: R) ∧ vs.length = 3)) := by
  have hx' := (Sto_iff x).2 hx
  have hy' := (Sto_iff y).2 hy
  obtain ⟨⟨s1, s8⟩, ⟨n0, n1⟩, h4, hv, hp⟩ := hx
  obtain ⟨y1, y2, y3, y4, y5, o, nw, L, l1, l2, l3, l4, l5⟩ := h
  have bx := RowsAt_perm hx' x.Now l1
  have by' := RowsAt_perm hy' y.Now l2
  have hvp : ∀ v ∈ o ++ L, spec_l7Version_m v x.Now = true := fun v h => hv v (l1.mem_iff.2 h)
  have eL : segR (fun v => spec_IsVisible_m v y.Now) L = segR (fun v => spec_IsVisible_m v x.Now) L := by
    unfold segR
    refine congrArg (List.map _) (List.filter_congr fun w hw => ?_)
    have h := hvp w (List.mem_append_right _ hw)
    rw [Version_iff (by omega)] at h
    rw [vis_at, vis_at]
    apply decide_eq_decide.2
    omega
  rw [segR_append] at bx
  rw [segR_append, segR_append, eL] at by'
  refine ⟨segR (fun v => spec_IsVisible_m v x.Now) L, fun r hr => ?_, ?_⟩
  · unfold segR at hr
    obtain ⟨w, hw, rfl⟩ := List.mem_map.1 hr
    obtain ⟨hw, hvis⟩ := List.mem_filter.1 hw
    have h := hvp w (List.mem_append_right _ hw)
    rw [Version_iff (by omega)] at h
    have := l3 w hw
    rw [vis_at, decide_eq_true_eq] at hvis
    show w.Id ≠ _
    omega
  · have hN : ∀ vs, segR (fun v => spec_IsVisible_m v y.Now) [(⟨u.Row.Id, vs, x.Now + 1, -1⟩ : DVersion)] = [⟨u.Row.Id, vs⟩] := fun vs => segR_yes (by
      show spec_IsVisible_m _ _ = true
      rw [vis_at]
      exact decide_eq_true ⟨(by show x.Now + 1 ≤ _; omega), .inl rfl⟩)
    have hK : ∀ v : DVersion, segR (fun v => spec_IsVisible_m v y.Now) [(⟨v.Id, v.Values, v.Born, x.Now + 1⟩ : DVersion)] = [] := fun v => segR_no (by
      show spec_IsVisible_m _ _ = false
      rw [vis_at]
      refine decide_eq_false ?_
      show ¬ (_ ∧ (x.Now + 1 = -1 ∨ y.Now < x.Now + 1))
      omega)
    have hO : ∀ v ∈ o, segR (fun v => spec_IsVisible_m v x.Now) [v] = [⟨v.Id, v.Values⟩] := fun v hv' => segR_yes (by
      show spec_IsVisible_m _ _ = true
      have h := hvp v (List.mem_append_left _ hv')
      rw [Version_iff (by omega)] at h
      rw [vis_at]
      exact decide_eq_true ⟨h.2.2.1, .inl (l4 v hv').2⟩)
    rcases l5 with ⟨k, rfl, rfl⟩ | ⟨k, ⟨v, rfl⟩, rfl⟩ | ⟨k, v, rfl, rfl⟩
    · rw [hN] at by'
      exact .inl ⟨k, bx, by'⟩
    · rw [hO v (List.mem_singleton.2 rfl)] at bx
      rw [List.map_singleton, hK] at by'
      exact .inr (.inl ⟨k, ⟨_, bx⟩, by'⟩)
    · have h := hvp v (List.mem_append_left _ (List.mem_singleton.2 rfl))
      rw [Version_iff (by omega), IsRow_iff] at h
      rw [hO v (List.mem_singleton.2 rfl)] at bx
      rw [List.map_singleton, hK, hN] at by'
      exact .inr (.inr ⟨k, v.Values, ⟨_, bx⟩, by', h.1.2.2⟩)
theorem laws_sameInts_refl (z : List Int) : laws_sameInts_m z z = true := by
  unfold laws_sameInts_m
  rw [bne_self_eq_false, rng_all (fun j _ => by unfold laws_sameInts_b1; rw [bne_self_eq_false]; rfl)]
  rfl
theorem l2Ints_refl (z : List Int) : spec_l2Ints_m z z = true := by
  unfold spec_l2Ints_m
  rw [bne_self_eq_false, rng_all (fun j _ => by unfold spec_l2Ints_b1; rw [bne_self_eq_false]; rfl)]
  rfl
theorem EqualRows_refl (z : List DRow) : spec_EqualRows_m z z = true := by
  unfold spec_EqualRows_m
  rw [bne_self_eq_false, rng_all (fun j _ => by unfold spec_EqualRows_b1 spec_l3Same_m; rw [beq_self_eq_true, l2Ints_refl]; rfl)]
  rfl
theorem EqualStores_refl (x : DStore) : spec_EqualStores_m x x = true := by
  unfold spec_EqualStores_m
  rw [bne_self_eq_false, bne_self_eq_false, rng_all (fun j _ => by
    unfold spec_EqualStores_b1 spec_l7Same_m
    rw [bne_self_eq_false, rng_all (fun k _ => by unfold spec_l7Same_b1; rw [bne_self_eq_false, bne_self_eq_false, bne_self_eq_false, l2Ints_refl]; rfl)]
    rfl)]
  rfl
theorem ApplyUpdate_no {x : DStore} {u : DUpdate} : (spec_ApplyUpdate_m x u).2 = false → (spec_ApplyUpdate_m x u).1 = x := by
  unfold spec_ApplyUpdate_m
  cases spec_IsStore_m x with
  | false => intro _; rfl
  | true =>
  cases spec_IsUpdate_m u with
  | false => intro _; rfl
  | true =>
  cases decide (100000 ≤ x.Now) with
  | true => intro _; rfl
  | false =>
  cases ((u.Kind == 1) != decide ((spec_l8Find_m x u.Row.Id).1 < 0)) with
  | true => intro _; rfl
  | false =>
  cases (u.Kind != 2) <;> cases decide (spec_l8Room_m x < 0) <;> cases decide (0 ≤ (spec_l8Find_m x u.Row.Id).1) <;> cases (u.Kind == 3) <;> intro h <;> first | rfl | cases h
theorem foldl_or {α : Type} (p : α → Bool) : ∀ (l : List α) (b : Bool), l.foldl (fun f r => f || p r) b = (b || l.any p)
  | [], b => by simp
  | x :: l, b => by rw [List.foldl_cons, foldl_or p l, List.any_cons, Bool.or_assoc]
theorem law_Stores (x0 : List Int) : laws_FnStores_m x0 = true := by
  unfold laws_FnStores_m
  rw [ApplyUpdate_same]
  cases laws_big_m x0 with
  | true => rfl
  | false =>
  rw [bne_self_eq_false, EqualStores_refl, IsStore_same, bne_self_eq_false]
  have hb1 : ∀ k s, laws_FnStores_b1 x0 k s = laws_FnStores_b1 x0 k s := fun _ _ => rfl
  cases hi : (spec_ApplyUpdate_m (spec_DrawApplyUpdate_m x0).1 (spec_DrawApplyUpdate_m x0).2).2 with
  | false =>
    show spec_EqualStores_m _ _ = true
    rw [ApplyUpdate_no hi]
    exact EqualStores_refl _
  | true =>
  have hs : spec_IsStore_m (spec_DrawApplyUpdate_m x0).1 = true := by
    cases hs : spec_IsStore_m (spec_DrawApplyUpdate_m x0).1 with
    | true => rfl
    | false => unfold spec_ApplyUpdate_m at hi; rw [hs] at hi; cases hi
  have hx := (Sto_iff _).1 hs
  obtain ⟨hu, hU⟩ := Update_is hx hi
  have hy := Upd_Sto hx hu hU
  have hys := (Sto_iff _).2 hy
  obtain ⟨R, hR, hrows⟩ := Upd_rows hx hU hy
  obtain ⟨_, uf, uv, _⟩ := spec_Update_fact hu
  have hN : (spec_DrawApplyUpdate_m x0).1.Now < 100000 ∧ 0 ≤ (spec_DrawApplyUpdate_m x0).1.Now := ⟨hU.2.1, hx.2.1.1⟩
  have hnow := hU.1
  obtain ⟨m1, e1, _⟩ := rngb_invP (b := fun k (s : Nat) => laws_FnStores_b1 x0 k s) (P := fun _ _ => True) (Q := fun _ => True) (fun k s _ => by
    show (∃ s', laws_FnStores_b1 x0 k s = .inr (.inr s') ∧ _) ∨ ∃ s', laws_FnStores_b1 x0 k s = .inr (.inl s') ∧ _
    unfold laws_FnStores_b1
    rw [ApplyUpdate_same]
    by_cases a : ((s : Nat) : Int) ≤ (spec_DrawApplyUpdate_m x0).1.Now
    · by_cases b : ((s : Nat) : Int) < 12
      · rw [decide_eq_true a, decide_eq_true b, RowsAt_same, show spec_RowsAt_m (spec_ApplyUpdate_m (spec_DrawApplyUpdate_m x0).1 (spec_DrawApplyUpdate_m x0).2).1 (s : Int) = spec_RowsAt_m (spec_DrawApplyUpdate_m x0).1 (s : Int) from by rw [spec_RowsAt_form, spec_RowsAt_form, hs, hys, hU.2.2.2.2.1 _ a], EqualRows_refl]
        exact .inl ⟨_, rfl, trivial⟩
      · rw [decide_eq_true a, decide_eq_false b]
        exact .inr ⟨_, rfl, trivial⟩
    · rw [decide_eq_false a]
      exact .inr ⟨_, rfl, trivial⟩) (13 - 0) 0 0 trivial
  have H : ∀ r ∈ spec_RowsAt_m (spec_ApplyUpdate_m (spec_DrawApplyUpdate_m x0).1 (spec_DrawApplyUpdate_m x0).2).1 (spec_ApplyUpdate_m (spec_DrawApplyUpdate_m x0).1 (spec_DrawApplyUpdate_m x0).2).1.Now, r.Id = (spec_DrawApplyUpdate_m x0).2.Row.Id → r.Values.length = 3 ∧ ((spec_DrawApplyUpdate_m x0).2.Kind = 3 → gt r.Values (spec_DrawApplyUpdate_m x0).2.Field.toNat = (spec_DrawApplyUpdate_m x0).2.Value) ∧ ((spec_DrawApplyUpdate_m x0).2.Kind = 1 → r.Values = (spec_DrawApplyUpdate_m x0).2.Row.Values) := by
    intro r hr hid
    rcases hrows with ⟨k, _, p⟩ | ⟨k, _, p⟩ | ⟨k, vs, _, p, hl⟩
    · rcases List.mem_cons.1 (p.mem_iff.1 hr) with rfl | h
      · exact ⟨uv k, fun h => by omega, fun _ => rfl⟩
      · exact absurd hid (hR r h)
    · exact absurd hid (hR r (p.mem_iff.1 hr))
    · rcases List.mem_cons.1 (p.mem_iff.1 hr) with rfl | h
      · have := uf k
        refine ⟨(by show (vs.set _ _).length = 3; rw [List.length_set]; exact hl), fun _ => ?_, fun h => by omega⟩
        show gt (vs.set _ _) _ = _
        rw [gt_at (by rw [List.length_set]; omega), List.getElem_set_self]
      · exact absurd hid (hR r h)
  have e2 := rng_fold (R := Bool) (xs := spec_RowsAt_m (spec_ApplyUpdate_m (spec_DrawApplyUpdate_m x0).1 (spec_DrawApplyUpdate_m x0).2).1 (spec_ApplyUpdate_m (spec_DrawApplyUpdate_m x0).1 (spec_DrawApplyUpdate_m x0).2).1.Now) (f := fun f r => f || r.Id == (spec_DrawApplyUpdate_m x0).2.Row.Id) (b := fun k s => laws_FnStores_b2 x0 k s) (fun j s hj => by
    show laws_FnStores_b2 x0 j s = _
    unfold laws_FnStores_b2
    rw [ApplyUpdate_same, RowsAt_same]
    have hm := H _ (gt_mem hj)
    revert hm
    generalize gt (spec_RowsAt_m _ _) j = r
    intro hm
    by_cases hid : r.Id = (spec_DrawApplyUpdate_m x0).2.Row.Id
    · obtain ⟨h1, h2, h3⟩ := hm hid
      rw [show (r.Id != (spec_DrawApplyUpdate_m x0).2.Row.Id) = false from by rw [hid, bne_self_eq_false], beq_iff_eq.2 hid, Bool.or_true, show (((r.Values.length : Nat) : Int) != 3) = false from by rw [h1]; rfl]
      by_cases k3 : (spec_DrawApplyUpdate_m x0).2.Kind = 3
      · rw [beq_iff_eq.2 k3, h2 k3, bne_self_eq_false, beq_eq_false_iff_ne.2 (show ¬ (spec_DrawApplyUpdate_m x0).2.Kind = 1 by omega)]
        rfl
      · by_cases k1 : (spec_DrawApplyUpdate_m x0).2.Kind = 1
        · rw [beq_eq_false_iff_ne.2 k3, beq_iff_eq.2 k1, h3 k1, laws_sameInts_refl]
          rfl
        · rw [beq_eq_false_iff_ne.2 k3, beq_eq_false_iff_ne.2 k1]
          rfl
    · rw [bne_iff_ne.2 hid, beq_eq_false_iff_ne.2 hid, Bool.or_false]
      rfl) false
  rw [cond_false, cond_true, cond_false, cond_true, e1]
  rw [RowsAt_same, e2, foldl_or]
  show cond _ (cond _ (cond _ _ false) false) false = true
  have hsum := storeB_hq ((spec_IsStore_form _).symm.trans hs)
  have hlen : (spec_RowsAt_m (spec_DrawApplyUpdate_m x0).1 (spec_DrawApplyUpdate_m x0).1.Now).length ≤ 68719476736 := by
    have h1 := (RowsAt_perm hs (spec_DrawApplyUpdate_m x0).1.Now (.refl _)).length_eq
    have h2 := segR_len (fun v => spec_IsVisible_m v (spec_DrawApplyUpdate_m x0).1.Now) (spec_DrawApplyUpdate_m x0).1.Segments.flatten
    rw [List.length_flatten] at h2
    omega
  rw [wrap_id (n := (spec_DrawApplyUpdate_m x0).1.Now + 1) (by omega) (by omega), hnow, beq_self_eq_true, cond_true, IsStore_same, hys, cond_true, Bool.false_or]
  rw [hnow] at hrows
  unfold laws_btoi_m
  have hany : ∀ R' : List DRow, (∀ r ∈ R', r.Id ≠ (spec_DrawApplyUpdate_m x0).2.Row.Id) → (R'.any fun r => r.Id == (spec_DrawApplyUpdate_m x0).2.Row.Id) = false := fun R' h => by
    rw [List.any_eq_false]
    intro r hr
    rw [beq_iff_eq]
    exact h r hr
  rcases hrows with ⟨k, p, q⟩ | ⟨k, ⟨r0, p⟩, q⟩ | ⟨k, vs, ⟨r0, p⟩, q, _⟩
  · have hl1 := p.length_eq
    have hl2 := q.length_eq
    rw [List.length_cons] at hl2
    rw [q.any_eq, List.any_cons, beq_self_eq_true, Bool.true_or, beq_iff_eq.2 k, beq_eq_false_iff_ne.2 (show ¬ (spec_DrawApplyUpdate_m x0).2.Kind = 2 by omega), bne_iff_ne.2 (show (spec_DrawApplyUpdate_m x0).2.Kind ≠ 2 by omega), cond_true, cond_false, wrap_id (n := _ + 1) (by omega) (by omega), wrap_id (by omega) (by omega), beq_iff_eq.2 (by omega)]
    rfl
  · have hl1 := p.length_eq
    have hl2 := q.length_eq
    rw [List.length_cons] at hl1
    rw [q.any_eq, hany R hR, beq_iff_eq.2 k, beq_eq_false_iff_ne.2 (show ¬ (spec_DrawApplyUpdate_m x0).2.Kind = 1 by omega), show ((spec_DrawApplyUpdate_m x0).2.Kind != 2) = false from by rw [k]; rfl, cond_true, cond_false, wrap_id (n := _ + 0) (by omega) (by omega), wrap_id (by omega) (by omega), beq_iff_eq.2 (by omega)]
    rfl
  · have hl1 := p.length_eq
    have hl2 := q.length_eq
    rw [List.length_cons] at hl1 hl2
    rw [q.any_eq, List.any_cons, beq_self_eq_true, Bool.true_or, beq_eq_false_iff_ne.2 (show ¬ (spec_DrawApplyUpdate_m x0).2.Kind = 1 by omega), beq_eq_false_iff_ne.2 (show ¬ (spec_DrawApplyUpdate_m x0).2.Kind = 2 by omega), bne_iff_ne.2 (show (spec_DrawApplyUpdate_m x0).2.Kind ≠ 2 by omega), cond_false, wrap_id (n := _ + 0) (by omega) (by omega), wrap_id (by omega) (by omega), beq_iff_eq.2 (by omega)]
    rfl

end Go.Proofs.Ytglapeecbnaipaa
