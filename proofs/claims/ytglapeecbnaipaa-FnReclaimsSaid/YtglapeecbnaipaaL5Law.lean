/-
  The contract of the law.
-/
import Derived.Test.YtglapeecbnaipaaL5Pl
namespace Go.Proofs.Ytglapeecbnaipaa
open Go.RowKit
set_option maxRecDepth 100000
set_option maxHeartbeats 4000000
open _root_.Go.Proofs.Try
def needB (x : List Int) (v : DVersion) : Bool := x.any (fun t => impl_IsVisible_m v t) || v.Died == -1
theorem isNeeded_form (v : DVersion) (x : List Int) : impl_isNeeded_m v x = needB x v := by
  unfold impl_isNeeded_m needB
  rw [rng_any (p := fun t => impl_IsVisible_m v t) (r := true) (fun j _ => by unfold impl_isNeeded_b1; rfl)]
  cases x.any (fun t => impl_IsVisible_m v t) <;> rfl
theorem foldl_orB {α : Type} (p : α → Bool) : ∀ (xs : List α) (s : Bool), xs.foldl (fun s t => cond s true (p t)) s = (s || xs.any p)
  | [], s => by simp
  | x :: xs, s => by
    rw [List.foldl_cons, foldl_orB p xs]
    cases s <;> simp
theorem impl_Reclaim_b1_form (x : List Int) (k : Nat) (d : List (List DVersion)) : impl_ReclaimStore_b1 x k d = .inr (d.set k ((gt d k).filter (needB x))) := by
  unfold impl_ReclaimStore_b1
  rw [rng_fold (xs := gt d k) (f := fun e v => cond (needB x v) (e ++ [v]) e) (fun j s _ => by unfold impl_ReclaimStore_b2; rw [isNeeded_form]; cases needB x (gt (gt d k) j) <;> rfl)]
  show Sum.inr (d.set k _) = _
  rw [foldl_filter]
  rfl
def cut64 (s : Int) (n : Nat) : Int := IntKind.i64.wrap (s + n)
theorem cut64_add (s : Int) (m n : Nat) : cut64 (cut64 s m) n = cut64 s (m + n) := by
  unfold cut64
  simp only [IntKind.wrap_i64]
  omega
theorem spec_Reclaim_fold (x : List Int) : ∀ (l : List DVersion) (s : Int) (e : List DVersion), l.foldl (fun (s : Int × List DVersion) v => cond (needB x v) (s.1, s.2 ++ [v]) (IntKind.i64.wrap (s.1 + 1), s.2)) (cut64 s 0, e) = (cut64 s (l.length - (l.filter (needB x)).length), e ++ l.filter (needB x))
  | [], s, e => by simp
  | v :: l, s, e => by
    rw [List.foldl_cons]
    have hl := List.length_filter_le (needB x) l
    cases h : needB x v with
    | true =>
      rw [cond_true, spec_Reclaim_fold x l s (e ++ [v])]
      simp [h]
    | false =>
      have e1 : (IntKind.i64.wrap (cut64 s 0 + 1)) = cut64 (cut64 s 1) 0 := by
        unfold cut64
        simp only [IntKind.wrap_i64]
        omega
      rw [cond_false]
      dsimp only
      rw [e1, spec_Reclaim_fold x l (cut64 s 1) e, cut64_add]
      simp only [List.filter_cons, h, List.length_cons]
      congr 2
      simp only [Bool.false_eq_true, if_false]
      omega
theorem spec_Reclaim_b1_form (x : List Int) (k : Nat) (s : Int) (d : List (List DVersion)) : spec_ReclaimStore_b1 x k (cut64 s 0) d = .inr (cut64 s ((gt d k).length - ((gt d k).filter (needB x)).length), d.set k ((gt d k).filter (needB x))) := by
  unfold spec_ReclaimStore_b1
  rw [rng_fold (xs := gt d k) (f := fun (s : Int × List DVersion) v => cond (needB x v) (s.1, s.2 ++ [v]) (IntKind.i64.wrap (s.1 + 1), s.2)) (fun j s _ => by
    unfold spec_ReclaimStore_b2
    rw [rng_fold (xs := x) (f := fun s t => cond s true (impl_IsVisible_m (gt (gt d k) j) t)) (fun i s _ => by unfold spec_ReclaimStore_b3; cases s <;> rfl), foldl_orB]
    have : ((gt (gt d k) j).Died == -1 || x.any fun t => impl_IsVisible_m (gt (gt d k) j) t) = needB x (gt (gt d k) j) := by unfold needB; rw [Bool.or_comm]
    rw [this]
    show cond (needB x (gt (gt d k) j)) _ _ = _
    cases needB x (gt (gt d k) j) <;> rfl), spec_Reclaim_fold]
  rfl
theorem rng_sumlen {R : Type} (xs : List (List DVersion)) (b : Nat → Int → R ⊕ Int) (hb : ∀ j s, b j s = .inr (IntKind.i64.wrap (s + ((gt xs j).length : Nat)))) : rng b (xs.length - 0) 0 0 = .inr (cut64 0 (xs.map List.length).sum) := by
  have h : ∀ (l : List (List DVersion)) (s : Int), l.foldl (fun (s : Int) v => IntKind.i64.wrap (s + (v.length : Nat))) (cut64 s 0) = cut64 s (l.map List.length).sum := by
    intro l
    induction l with
    | nil => intro s; rfl
    | cons v l ih =>
      intro s
      have e1 : IntKind.i64.wrap (cut64 s 0 + (v.length : Nat)) = cut64 (cut64 s v.length) 0 := by
        unfold cut64
        simp only [IntKind.wrap_i64]
        omega
      rw [List.foldl_cons, e1, ih, cut64_add]
      simp
  rw [rng_fold (xs := xs) (f := fun (s : Int) v => IntKind.i64.wrap (s + (v.length : Nat))) (fun j s _ => hb j s)]
  exact congrArg Sum.inr (h xs 0)
theorem CountVersions_form (x : DStore) : impl_CountVersions_m x = cut64 0 (x.Segments.map List.length).sum := by
  unfold impl_CountVersions_m
  rw [rng_sumlen x.Segments _ (fun j s => by unfold impl_CountVersions_b1; rfl)]
  rfl
def reclaimL (x : List Int) (d : List (List DVersion)) : List (List DVersion) := d.map fun l => l.filter (needB x)
theorem reclaim_sum (x : List Int) : ∀ d : List (List DVersion), ((reclaimL x d).map List.length).sum ≤ (d.map List.length).sum ∧ ∀ s : Int, d.foldl (fun (s : Int) l => cut64 s (l.length - (l.filter (needB x)).length)) (cut64 s 0) = cut64 s ((d.map List.length).sum - ((reclaimL x d).map List.length).sum)
  | [] => ⟨by simp [reclaimL], fun s => rfl⟩
  | l :: d => by
    obtain ⟨h1, h2⟩ := reclaim_sum x d
    have h3 := List.length_filter_le (needB x) l
    have e1 : ((reclaimL x (l :: d)).map List.length).sum = (l.filter (needB x)).length + ((reclaimL x d).map List.length).sum := by simp [reclaimL]
    have e2 : ((l :: d).map List.length).sum = l.length + (d.map List.length).sum := by simp
    refine ⟨by omega, fun s => ?_⟩
    rw [List.foldl_cons]
    have e3 : cut64 (cut64 s 0) (l.length - (l.filter (needB x)).length) = cut64 (cut64 s (l.length - (l.filter (needB x)).length)) 0 := by
      rw [cut64_add, cut64_add, Nat.zero_add, Nat.add_zero]
    rw [e3, h2, cut64_add]
    congr 1
    omega
theorem impl_Reclaim_form (x : DStore) (y : List Int) (h : impl_IsStore_m x = true) : impl_ReclaimStore_m x y = (⟨reclaimL y x.Segments, x.Now⟩, cut64 0 ((x.Segments.map List.length).sum - ((reclaimL y x.Segments).map List.length).sum)) := by
  unfold impl_ReclaimStore_m
  rw [h, cond_true, rng_setmap1 (xs := x.Segments) (f := fun l => l.filter (needB y)) (fun j s _ he => by rw [impl_Reclaim_b1_form, he])]
  show ((⟨reclaimL y x.Segments, x.Now⟩ : DStore), _) = _
  congr 1
  rw [CountVersions_form, CountVersions_form]
  have := (reclaim_sum y x.Segments).1
  show IntKind.i64.wrap (cut64 0 (x.Segments.map List.length).sum - cut64 0 ((reclaimL y x.Segments).map List.length).sum) = _
  unfold cut64
  simp only [IntKind.wrap_i64]
  omega
theorem spec_Reclaim_form (x : DStore) (y : List Int) (h : spec_IsStore_m x = true) : spec_ReclaimStore_m x y = (⟨reclaimL y x.Segments, x.Now⟩, cut64 0 ((x.Segments.map List.length).sum - ((reclaimL y x.Segments).map List.length).sum)) := by
  unfold spec_ReclaimStore_m
  rw [h, cond_true]
  have h0 : (0 : Int) = cut64 0 0 := rfl
  rw [h0]
  have key : ∀ (m k : Nat) (s : Int), m + k = x.Segments.length → rng (R := DStore × Int) (fun k (s : Int × List (List DVersion)) => spec_ReclaimStore_b1 y k s.1 s.2) m k (cut64 s 0, reclaimL y (x.Segments.take k) ++ x.Segments.drop k) = .inr ((x.Segments.drop k).foldl (fun (s : Int) l => cut64 s (l.length - (l.filter (needB y)).length)) (cut64 s 0), reclaimL y x.Segments) := by
    intro m
    induction m with
    | zero => intro k s hk; rw [rng, List.drop_of_length_le (by omega), List.take_of_length_le (by omega)]; simp
    | succ m ih =>
      intro k s hk
      have hlt : k < x.Segments.length := by omega
      have hd : x.Segments.drop k = gt x.Segments k :: x.Segments.drop (k + 1) := by rw [List.drop_eq_getElem_cons hlt, gt_at hlt]
      have hl : (reclaimL y (x.Segments.take k)).length = k := by simp [reclaimL]; omega
      have hg : gt (reclaimL y (x.Segments.take k) ++ x.Segments.drop k) k = gt x.Segments k := by
        rw [hd]
        exact gt_mid hl
      rw [rng, spec_Reclaim_b1_form, hg]
      show rng _ m (k + 1) _ = _
      have hs : (reclaimL y (x.Segments.take k) ++ x.Segments.drop k).set k ((gt x.Segments k).filter (needB y)) = reclaimL y (x.Segments.take (k + 1)) ++ x.Segments.drop (k + 1) := by
        rw [hd, List.set_append_right _ _ (by omega), hl, Nat.sub_self, List.set_cons_zero, List.take_add_one, List.getElem?_eq_getElem hlt, ← gt_at hlt]
        simp [reclaimL]
      have e3 : ∀ n, cut64 s n = cut64 (cut64 s n) 0 := fun n => by rw [cut64_add, Nat.add_zero]
      rw [hs, e3, ih (k + 1) _ (by omega), hd, List.foldl_cons]
      congr 2
      rw [cut64_add, cut64_add, Nat.zero_add, Nat.add_zero]
  have h1 := key (x.Segments.length - 0) 0 0 (by omega)
  rw [List.take_zero, List.drop_zero] at h1
  have h2 : reclaimL y [] ++ x.Segments = x.Segments := rfl
  rw [h2] at h1
  rw [h1, (reclaim_sum y x.Segments).2]
  rfl
theorem ReclaimStore_same (x : DStore) (y : List Int) : impl_ReclaimStore_m x y = spec_ReclaimStore_m x y := by
  cases h : spec_IsStore_m x with
  | true => rw [impl_Reclaim_form x y (by rw [IsStore_same]; exact h), spec_Reclaim_form x y h]
  | false =>
    unfold impl_ReclaimStore_m spec_ReclaimStore_m
    rw [IsStore_same, h]
    rfl
theorem ApplyUpdates_same (x : DStore) (y : List DUpdate) : impl_ApplyUpdates_m x y = spec_ApplyUpdates_m x y := by
  unfold impl_ApplyUpdates_m spec_ApplyUpdates_m
  have h : (fun k (s : Int × (List (List DVersion)) × Int) => impl_ApplyUpdates_b1 y k s.1 s.2.1 s.2.2) = fun k (s : Int × (List (List DVersion)) × Int) => spec_ApplyUpdates_b1 y k s.1 s.2.1 s.2.2 := by
    funext k s; unfold impl_ApplyUpdates_b1 spec_ApplyUpdates_b1; rw [ApplyUpdate_same]
  rw [h]
theorem spec_l8Any_sm (b : List Int) (D : Dl1Cur) (s : DStore) : smUpdate 68719476736 (spec_l8Any_m b D s).1 := by
  unfold spec_l8Any_m
  repeat' (first | exact spec_l8Update_sm _ _ _ | apply cond_smU)
theorem spec_DrawReclaimStore_fact (x : List Int) : stD 21 (spec_DrawReclaimStore_m x).1 ∧ (spec_DrawReclaimStore_m x).2.length ≤ 68719476736 := by
  have h0 := spec_l7Any_stD x (spec_l1New_m x)
  have hb := spec_l1Below_rng x (spec_l7Any_m x (spec_l1New_m x)).2 4
  have hb' := hb.2.1 (by omega)
  have key : ∀ (m k : Nat) (s : (List Int) × Int × Nat × Int), (s.2.1 ≤ 4 ∧ s.1.length + s.2.1.toNat ≤ 4) → stD 21 (Sum.elim id (fun (s : (List Int) × Int × Nat × Int) => ((spec_l7Any_m x (spec_l1New_m x)).1, s.1)) (rngb (R := (DStore × (List Int))) (fun k (s : (List Int) × Int × Nat × Int) => spec_DrawReclaimStore_b1 x k s.1 s.2.1 s.2.2.1 s.2.2.2) m k s)).1 ∧ (Sum.elim id (fun (s : (List Int) × Int × Nat × Int) => ((spec_l7Any_m x (spec_l1New_m x)).1, s.1)) (rngb (R := (DStore × (List Int))) (fun k (s : (List Int) × Int × Nat × Int) => spec_DrawReclaimStore_b1 x k s.1 s.2.1 s.2.2.1 s.2.2.2) m k s)).2.length ≤ 68719476736 := fun m k s hs => by
    obtain ⟨s', e1, e2⟩ := rngb_invP (R := (DStore × (List Int))) (b := fun k (s : (List Int) × Int × Nat × Int) => spec_DrawReclaimStore_b1 x k s.1 s.2.1 s.2.2.1 s.2.2.2) (P := fun _ s => s.2.1 ≤ 4 ∧ s.1.length + s.2.1.toNat ≤ 4) (Q := fun s => s.1.length ≤ 4) (fun k s ⟨p1, p2⟩ => by
      show (∃ s', spec_DrawReclaimStore_b1 x k s.1 s.2.1 s.2.2.1 s.2.2.2 = _ ∧ _) ∨ ∃ s', spec_DrawReclaimStore_b1 x k s.1 s.2.1 s.2.2.1 s.2.2.2 = _ ∧ _
      unfold spec_DrawReclaimStore_b1
      by_cases h : 0 < s.2.1
      · rw [decide_eq_true h, wrap_id (n := s.2.1 - 1) (by omega) (by omega)]
        refine .inl ⟨_, rfl, ?_, ?_⟩
        · show s.2.1 - 1 ≤ 4; omega
        · show (s.1 ++ [_]).length + (s.2.1 - 1).toNat ≤ 4; rw [List.length_append]; show s.1.length + 1 + _ ≤ 4; omega
      · rw [decide_eq_false h]
        exact .inr ⟨_, rfl, by show s.1.length ≤ 4; omega⟩) m k s hs
    rw [e1]
    refine ⟨h0, ?_⟩
    show s'.1.length ≤ _
    rcases e2 with h | h <;> omega
  unfold spec_DrawReclaimStore_m
  exact key _ _ _ ⟨(by show (spec_l1Below_m x (spec_l7Any_m x (spec_l1New_m x)).2 4).1 ≤ 4; omega), (by show 0 + (spec_l1Below_m x (spec_l7Any_m x (spec_l1New_m x)).2 4).1.toNat ≤ 4; omega)⟩
theorem spec_l8Updates_fact (b : List Int) (D : Dl1Cur) (x : DStore) : (spec_l8Updates_m b D x 5).1.length ≤ 68719476736 ∧ ∀ u ∈ (spec_l8Updates_m b D x 5).1, smUpdate 68719476736 u := by
  have hb := spec_l1Below_rng b D 6
  have hb' := hb.2.1 (by omega)
  have key : ∀ (m k : Nat) (s : (List DUpdate) × Int × Nat × Int), (s.2.1 ≤ 6 ∧ s.1.length + s.2.1.toNat ≤ 6 ∧ ∀ u ∈ s.1, smUpdate 68719476736 u) → (Sum.elim id (fun (s : (List DUpdate) × Int × Nat × Int) => (s.1, (⟨s.2.2.1, s.2.2.2⟩ : Dl1Cur))) (rngb (R := ((List DUpdate) × Dl1Cur)) (fun k (s : (List DUpdate) × Int × Nat × Int) => spec_l8Updates_b1 b x k s.1 s.2.1 s.2.2.1 s.2.2.2) m k s)).1.length ≤ 68719476736 ∧ ∀ u ∈ (Sum.elim id (fun (s : (List DUpdate) × Int × Nat × Int) => (s.1, (⟨s.2.2.1, s.2.2.2⟩ : Dl1Cur))) (rngb (R := ((List DUpdate) × Dl1Cur)) (fun k (s : (List DUpdate) × Int × Nat × Int) => spec_l8Updates_b1 b x k s.1 s.2.1 s.2.2.1 s.2.2.2) m k s)).1, smUpdate 68719476736 u := fun m k s hs => by
    obtain ⟨s', e1, e2⟩ := rngb_invP (R := ((List DUpdate) × Dl1Cur)) (b := fun k (s : (List DUpdate) × Int × Nat × Int) => spec_l8Updates_b1 b x k s.1 s.2.1 s.2.2.1 s.2.2.2) (P := fun _ s => s.2.1 ≤ 6 ∧ s.1.length + s.2.1.toNat ≤ 6 ∧ ∀ u ∈ s.1, smUpdate 68719476736 u) (Q := fun s => s.1.length ≤ 6 ∧ ∀ u ∈ s.1, smUpdate 68719476736 u) (fun k s ⟨p1, p2, p3⟩ => by
      show (∃ s', spec_l8Updates_b1 b x k s.1 s.2.1 s.2.2.1 s.2.2.2 = _ ∧ _) ∨ ∃ s', spec_l8Updates_b1 b x k s.1 s.2.1 s.2.2.1 s.2.2.2 = _ ∧ _
      unfold spec_l8Updates_b1
      by_cases h : 0 < s.2.1
      · rw [decide_eq_true h, wrap_id (n := s.2.1 - 1) (by omega) (by omega)]
        refine .inl ⟨_, rfl, ?_, ?_, fun u hu => ?_⟩
        · show s.2.1 - 1 ≤ 6; omega
        · show (s.1 ++ [_]).length + (s.2.1 - 1).toNat ≤ 6; rw [List.length_append]; show s.1.length + 1 + _ ≤ 6; omega
        · rcases List.mem_append.1 hu with h | h
          · exact p3 u h
          · rw [List.mem_singleton.1 h]; exact spec_l8Any_sm _ _ _
      · rw [decide_eq_false h]
        exact .inr ⟨_, rfl, (by show s.1.length ≤ 6; omega), p3⟩) m k s hs
    rw [e1]
    rcases e2 with h | h
    · exact ⟨(by show s'.1.length ≤ _; omega), h.2⟩
    · exact ⟨(by show s'.1.length ≤ _; omega), h.2.2⟩
  unfold spec_l8Updates_m
  rw [wrap_id (n := 5 + 1) (by omega) (by omega)]
  exact key _ _ _ ⟨(by show (spec_l1Below_m b D 6).1 ≤ 6; omega), (by show 0 + (spec_l1Below_m b D 6).1.toNat ≤ 6; omega), fun u hu => (by cases hu)⟩
theorem spec_DrawApplyUpdates_fact (x : List Int) : stD 21 (spec_DrawApplyUpdates_m x).1 ∧ ((spec_DrawApplyUpdates_m x).2.length ≤ 68719476736 ∧ ∀ u ∈ (spec_DrawApplyUpdates_m x).2, smUpdate 68719476736 u) := ⟨spec_l7Any_stD _ _, spec_l8Updates_fact _ _ _⟩
theorem stD_reclaim {n : Nat} {x : DStore} (h : stD n x) (y : List Int) : stD n (⟨reclaimL y x.Segments, x.Now⟩ : DStore) := by
  refine ⟨h.1, (by show 1 ≤ (List.map _ _).length; rw [List.length_map]; exact h.2.1), (by show (List.map _ _).length ≤ 8; rw [List.length_map]; exact h.2.2.1), fun z hz => ?_⟩
  obtain ⟨z0, hz0, rfl⟩ := List.mem_map.1 hz
  have h2 := h.2.2.2 z0 hz0
  exact ⟨Nat.le_trans (List.length_filter_le _ _) h2.1, fun v hv => h2.2 v (List.mem_filter.1 hv).1⟩
theorem impl_Reclaim_stD {n : Nat} {x : DStore} (h : stD n x) (y : List Int) : stD n (impl_ReclaimStore_m x y).1 := by
  cases hs : impl_IsStore_m x with
  | true => rw [impl_Reclaim_form x y hs]; exact stD_reclaim h y
  | false => unfold impl_ReclaimStore_m; rw [hs]; exact h
theorem spec_Reclaim_stD {n : Nat} {x : DStore} (h : stD n x) (y : List Int) : stD n (spec_ReclaimStore_m x y).1 := by
  rw [← ReclaimStore_same]; exact impl_Reclaim_stD h y
theorem spec_ApplyUpdates_stD {n : Nat} (hn : 5 ≤ n) {x : DStore} (h : stD n x) (y : List DUpdate) : stD n (spec_ApplyUpdates_m x y).1 := by
  unfold spec_ApplyUpdates_m
  obtain ⟨s', h1, h2⟩ := rng_inv (R := DStore × Int) (body := fun k (s : Int × (List (List DVersion)) × Int) => spec_ApplyUpdates_b1 y k s.1 s.2.1 s.2.2) (n := y.length) (fun _ s => stD n (⟨s.2.1, s.2.2⟩ : DStore)) (fun j s _ hs => by
    have hw := spec_ApplyUpdate_stD hn hs (gt y j)
    show ∃ s', spec_ApplyUpdates_b1 y j s.1 s.2.1 s.2.2 = .inr s' ∧ _
    unfold spec_ApplyUpdates_b1
    cases (spec_ApplyUpdate_m ⟨s.2.1, s.2.2⟩ (gt y j)).2
    · exact ⟨_, rfl, hw⟩
    · exact ⟨_, rfl, hw⟩) (y.length - 0) 0 (0, x.Segments, x.Now) (by omega) h
  rw [h1]
  exact h2
theorem impl_ApplyUpdates_stD {n : Nat} (hn : 5 ≤ n) {x : DStore} (h : stD n x) (y : List DUpdate) : stD n (impl_ApplyUpdates_m x y).1 := by
  rw [ApplyUpdates_same]; exact spec_ApplyUpdates_stD hn h y
def laws_FnReclaims_b1 (x0 : (List Int)) (k42 : Nat) : Bool ⊕ (Unit) :=
 cond (spec_EqualRows_m (impl_RowsAt_m (impl_ReclaimStore_m ((spec_DrawReclaimStore_m x0).1) ((spec_DrawReclaimStore_m x0).2)).1 (gt ((spec_DrawReclaimStore_m x0).2) k42)) (spec_RowsAt_m ((spec_DrawReclaimStore_m x0).1) (gt ((spec_DrawReclaimStore_m x0).2) k42))) (Sum.inr ()) (Sum.inl false)
def laws_FnReclaims_m (x0 : (List Int)) : Bool :=
 cond (laws_big_m x0) true (cond ((impl_ReclaimStore_m ((spec_DrawReclaimStore_m x0).1) ((spec_DrawReclaimStore_m x0).2)).2 != (spec_ReclaimStore_m ((spec_DrawReclaimStore_m x0).1) ((spec_DrawReclaimStore_m x0).2)).2) false (cond (spec_EqualStores_m (impl_ReclaimStore_m ((spec_DrawReclaimStore_m x0).1) ((spec_DrawReclaimStore_m x0).2)).1 (spec_ReclaimStore_m ((spec_DrawReclaimStore_m x0).1) ((spec_DrawReclaimStore_m x0).2)).1) (cond (spec_IsStore_m ((spec_DrawReclaimStore_m x0).1)) (Sum.elim id (fun (s : Unit) => cond ((IntKind.i64.wrap ((impl_CountVersions_m (impl_ReclaimStore_m ((spec_DrawReclaimStore_m x0).1) ((spec_DrawReclaimStore_m x0).2)).1) + (impl_ReclaimStore_m ((spec_DrawReclaimStore_m x0).1) ((spec_DrawReclaimStore_m x0).2)).2)) == (impl_CountVersions_m ((spec_DrawReclaimStore_m x0).1))) (cond (spec_EqualRows_m (impl_RowsAt_m (impl_ReclaimStore_m ((spec_DrawReclaimStore_m x0).1) ((spec_DrawReclaimStore_m x0).2)).1 (((spec_DrawReclaimStore_m x0).1).Now)) (spec_RowsAt_m ((spec_DrawReclaimStore_m x0).1) (((spec_DrawReclaimStore_m x0).1).Now))) (cond (impl_IsStore_m (impl_ReclaimStore_m ((spec_DrawReclaimStore_m x0).1) ((spec_DrawReclaimStore_m x0).2)).1) (cond ((impl_ApplyUpdates_m ((spec_DrawApplyUpdates_m x0).1) ((spec_DrawApplyUpdates_m x0).2)).2 == (spec_ApplyUpdates_m ((spec_DrawApplyUpdates_m x0).1) ((spec_DrawApplyUpdates_m x0).2)).2) (spec_EqualStores_m (impl_ApplyUpdates_m ((spec_DrawApplyUpdates_m x0).1) ((spec_DrawApplyUpdates_m x0).2)).1 (spec_ApplyUpdates_m ((spec_DrawApplyUpdates_m x0).1) ((spec_DrawApplyUpdates_m x0).2)).1) false) false) false) false) (rng (R := Bool) (fun k (_ : Unit) => laws_FnReclaims_b1 x0 k) (((spec_DrawReclaimStore_m x0).2).length - 0) 0 ())) (cond ((impl_ReclaimStore_m ((spec_DrawReclaimStore_m x0).1) ((spec_DrawReclaimStore_m x0).2)).2 == 0) (spec_EqualStores_m (impl_ReclaimStore_m ((spec_DrawReclaimStore_m x0).1) ((spec_DrawReclaimStore_m x0).2)).1 ((spec_DrawReclaimStore_m x0).1)) false)) false))
theorem cb5 : Cb Try.prog 5 := ⟨f5, _, func5, rfl, by decide⟩
theorem laws_FnReclaims_c (w : World) (z0 : Value) (x0 : (List Int)) (r_0 : rdS tU8 w w.heap.size z0 x0) :
  Calls Try.prog 5 #[z0] w fun e w' => e = .returned (.bool (laws_FnReclaims_m x0)) ∧ Below w.heap.size w w' := by
 have ok0 := r_0.1
 obtain ⟨m1, A2, c3, rfl, q4, r5⟩ := rdS_op r_0
 refine ce1 (L := [(0, .slice A2 x0.length c3)]) (N := 123) func5 ?_
 refine sr (wa (nt' (CM_seq (sr (wm ?_)))))
 refine wcv (cl_fn cb6 rfl) (fun W hm => laws_big_c W _ x0 (hm.rdS0 r5)) ?_
 refine nt' ?_
 rcases Bool.eq_false_or_eq_true (laws_big_m x0) with g7 | g7
 ·
  refine CM_condT rfl g7 ?_
  refine sr (wa (nt' (CM_ret (QM_then_ret ?_))))
  exact rtb (h := cond_t g7 (rfl))
 ·
  have hl0 := of_decide_eq_false (p := 1048576 < ((x0.length : Nat) : Int)) g7
  refine CM_condF rfl g7 ?_
  refine CM_skip (QM_then (sr (wm ?_)))
  refine WM_call (χ := List Value × Value) (val := fun x => .tuple #[.agg x.1.toArray, x.2]) (js := fun x => [iOwn tyStore x.1 ((spec_DrawReclaimStore_m x0).1), iOwn (tSl tInt 3) [x.2] ((spec_DrawReclaimStore_m x0).2)]) (cl_fn cb28 rfl) (fun W hm => spec_DrawReclaimStore_c W _ x0 (hm.rdS0 r5) (by omega)) (Wd_none rfl) (by decide) (fun x => ?_)
  obtain ⟨z8, z9⟩ := x
  refine tyStore_sp ?_
  rintro v10 rfl
  refine WM_form (n := 0) rfl ?_
  rintro A11 c12 rfl m13
  let K3 : List Value := [.slice A11 (((spec_DrawReclaimStore_m x0).1).Segments).length c12]
  let I7 : It := iOwn (tSl (tSl tyVersion 51) 72) K3 (((spec_DrawReclaimStore_m x0).1).Segments)
  refine WM_items (js := [iOwn (tSl tInt 3) [z9] ((spec_DrawReclaimStore_m x0).2), I7]) (pk [1, 0]) ?_
  refine WM_form (n := 0) rfl ?_
  rintro A15 c16 rfl m17
  have hdr := spec_DrawReclaimStore_fact x0
  refine wm ?_
  refine wv (fun W hm => rv_extract rfl rfl) ?_
  refine wv (fun W hm => rv_extract rfl rfl) ?_
  refine WM_alloc type26 rfl (Wd_none rfl) (by decide) (fun p19 => ?_)
  let K4 : List Value := [.slice A11 (((spec_DrawReclaimStore_m x0).1).Segments).length c12, .int .i64 (((spec_DrawReclaimStore_m x0).1).Now)]
  let I8 : It := iOwn (tSl tInt 3) [.slice A15 ((spec_DrawReclaimStore_m x0).2).length c16] ((spec_DrawReclaimStore_m x0).2)
  refine sb 0 K4 [I8, I7] (fun W hm => hm) type26 ?_
  refine wa (nt' (sr ?_))
  refine wv (fun W hm => rv_loadN (cs := K4) underlying26 type26 rfl rfl (hm.boxCells (n := 0) rfl)) ?_
  refine wm ?_
  refine WM_call (χ := List Value) (val := fun x => .tuple #[.agg x.toArray, .int .i64 ((impl_ReclaimStore_m ((spec_DrawReclaimStore_m x0).1) ((spec_DrawReclaimStore_m x0).2)).2)]) (js := fun x => [iOwn tyStore x ((impl_ReclaimStore_m ((spec_DrawReclaimStore_m x0).1) ((spec_DrawReclaimStore_m x0).2)).1)]) (cl_fn cb29 rfl) (fun W hm => impl_ReclaimStore_c W _ ((spec_DrawReclaimStore_m x0).1) _ ((spec_DrawReclaimStore_m x0).2) (tyStore_mk (x := ((spec_DrawReclaimStore_m x0).1)) (hm.rdSI (n := 2) rfl)) (hm.rdSI (n := 1) rfl) (stD_sm hdr.1) hdr.2) (Wd_none rfl) (by decide) (fun z20 => ?_)
  have hxr := impl_Reclaim_stD hdr.1 (spec_DrawReclaimStore_m x0).2
  obtain ⟨G21, hG21⟩ : ∃ G, G = (impl_ReclaimStore_m ((spec_DrawReclaimStore_m x0).1) ((spec_DrawReclaimStore_m x0).2)) := ⟨_, rfl⟩
  rw [← hG21]
  rw [← hG21] at hxr
  refine tyStore_sp ?_
  rintro v22 rfl
  refine WM_form (n := 0) rfl ?_
  rintro A23 c24 rfl m25
  refine wm ?_
  refine wv (fun W hm => rv_extract rfl rfl) ?_
  refine wv (fun W hm => rv_extract rfl rfl) ?_
  refine WM_alloc type26 rfl (Wd_none rfl) (by decide) (fun p27 => ?_)
  let I9 : It := iOwn (tSl (tSl tyVersion 51) 72) [.slice A23 G21.1.Segments.length c24] G21.1.Segments
  refine sb 0 [.slice A23 G21.1.Segments.length c24, .int .i64 G21.1.Now] [I9, iBox p19 26 K4, I8, I7] (fun W hm => hm) type26 ?_
  refine wa (nt' (sr ?_))
  refine wv (fun W hm => rv_loadN (cs := K4) underlying26 type26 rfl rfl (hm.boxCells (n := 2) rfl)) ?_
  refine wm ?_
  refine WM_call (χ := List Value) (val := fun x => .tuple #[.agg x.toArray, .int .i64 ((spec_ReclaimStore_m ((spec_DrawReclaimStore_m x0).1) ((spec_DrawReclaimStore_m x0).2)).2)]) (js := fun x => [iOwn tyStore x ((spec_ReclaimStore_m ((spec_DrawReclaimStore_m x0).1) ((spec_DrawReclaimStore_m x0).2)).1)]) (cl_fn cb30 rfl) (fun W hm => spec_ReclaimStore_c W _ ((spec_DrawReclaimStore_m x0).1) _ ((spec_DrawReclaimStore_m x0).2) (tyStore_mk (x := ((spec_DrawReclaimStore_m x0).1)) (hm.rdSI (n := 4) rfl)) (hm.rdSI (n := 3) rfl) (stD_sm hdr.1) hdr.2) (Wd_none rfl) (by decide) (fun z28 => ?_)
  have hyr := spec_Reclaim_stD hdr.1 (spec_DrawReclaimStore_m x0).2
  obtain ⟨G29, hG29⟩ : ∃ G, G = (spec_ReclaimStore_m ((spec_DrawReclaimStore_m x0).1) ((spec_DrawReclaimStore_m x0).2)) := ⟨_, rfl⟩
  rw [← hG29]
  rw [← hG29] at hyr
  refine tyStore_sp ?_
  rintro v30 rfl
  refine WM_form (n := 0) rfl ?_
  rintro A31 c32 rfl m33
  refine wm ?_
  refine wv (fun W hm => rv_extract rfl rfl) ?_
  refine wv (fun W hm => rv_extract rfl rfl) ?_
  refine WM_alloc type26 rfl (Wd_none rfl) (by decide) (fun p35 => ?_)
  let I10 : It := iOwn (tSl (tSl tyVersion 51) 72) [.slice A31 G29.1.Segments.length c32] G29.1.Segments
  let I11 : It := iBox p27 26 [.slice A23 G21.1.Segments.length c24, .int .i64 G21.1.Now]
  refine sb 0 [.slice A31 G29.1.Segments.length c32, .int .i64 G29.1.Now] [I10, I11, I9, iBox p19 26 K4, I8, I7] (fun W hm => hm) type26 ?_
  refine wa (nt' (CM_seq (sr (wm (wm ?_)))))
  refine wv vneq ?_
  refine wm ?_
  by_cases h36 : G21.2 = G29.2
  ·have g37 : (G21.2 != G29.2) = false := by rw [h36]; exact bne_self_eq_false _
   refine wg (fun W hm => rv_loadN (cs := [.slice A23 G21.1.Segments.length c24, .int .i64 G21.1.Now]) underlying26 type26 rfl rfl (hm.boxCells (n := 2) rfl)) g37 ?_
   refine wg (fun W hm => rv_loadN (cs := [.slice A31 G29.1.Segments.length c32, .int .i64 G29.1.Now]) underlying26 type26 rfl rfl (hm.boxCells (n := 0) rfl)) g37 ?_
   refine WM_callV (cl_fn cb10 rfl) (fun W hm => spec_EqualStores_c W _ G21.1 _ G29.1 (tyStore_mk (x := G21.1) (hm.rdSI (n := 3) rfl)) (tyStore_mk (x := G29.1) (hm.rdSI (n := 1) rfl))) (Wd_some rfl rfl rfl (bw g37 rfl)) (by decide) ?_
   refine wg vnot g37 ?_
   refine wv (vpF g37) ?_
   refine nt' ?_
   rcases Bool.eq_false_or_eq_true (spec_EqualStores_m G21.1 G29.1) with g39 | g39
   ·
    refine CM_condF rfl (nt g39) ?_
    refine CM_skip (QM_then (CM_seq (sr ?_)))
    refine wv (fun W hm => rv_loadN (cs := K4) underlying26 type26 rfl rfl (hm.boxCells (n := 4) rfl)) ?_
    refine wcv (cl_fn cb12 rfl) (fun W hm => spec_IsStore_c W _ ((spec_DrawReclaimStore_m x0).1) (tyStore_mk (x := ((spec_DrawReclaimStore_m x0).1)) (hm.rdSI (n := 6) rfl)) (stD_sm hdr.1)) ?_
    refine wv vnot ?_
    refine nt' ?_
    rcases Bool.eq_false_or_eq_true (spec_IsStore_m ((spec_DrawReclaimStore_m x0).1)) with g41 | g41
    ·
     refine CM_condF rfl (nt g41) ?_
     refine CM_skip (QM_then (CM_seq (sr (wa (nt' (CM_block ?_))))))
     let F1 := fun k (_ : Unit) => laws_FnReclaims_b1 x0 k
     let R2 := rng (R := Bool) F1
     let I12 : It := iBox p35 26 [.slice A31 G29.1.Segments.length c32, .int .i64 G29.1.Now]
     refine CM_loop (σ := Nat × (Unit) × (Unit)) (fun s => [(0, .slice A2 x0.length c3), (3, .pointer (some (⟨p19, 0, none⟩ : Addr))), (4, .slice A15 ((spec_DrawReclaimStore_m x0).2).length c16), (5, .pointer (some (⟨p27, 0, none⟩ : Addr))), (6, .int .i64 G21.2), (9, .int .i64 ((s.1 : Nat) : Int))]) (fun s => [I12, I10, I11, I9, iBox p19 26 K4, I8, I7]) (fun s => s.1 ≤ ((spec_DrawReclaimStore_m x0).2).length ∧ R2 (((spec_DrawReclaimStore_m x0).2).length - s.1) s.1 s.2.1 = R2 (((spec_DrawReclaimStore_m x0).2).length - 0) 0 ()) (fun s => ((spec_DrawReclaimStore_m x0).2).length - s.1) (0, (), ()) sl6 (fun W hm => hm) ⟨(by omega), rfl⟩ ?_
     rintro ⟨k42, ⟨⟩, ⟨⟩⟩ H45
     obtain ⟨hk43, hF44⟩ : k42 ≤ ((spec_DrawReclaimStore_m x0).2).length ∧ R2 (((spec_DrawReclaimStore_m x0).2).length - k42) k42 () = R2 (((spec_DrawReclaimStore_m x0).2).length - 0) 0 () := H45
     show CM Try.prog 123 _ _ _ _ [(0, .slice A2 x0.length c3), (3, .pointer (some (⟨p19, 0, none⟩ : Addr))), (4, .slice A15 ((spec_DrawReclaimStore_m x0).2).length c16), (5, .pointer (some (⟨p27, 0, none⟩ : Addr))), (6, .int .i64 G21.2), (9, .int .i64 ((k42 : Nat) : Int))] [I12, I10, I11, I9, iBox p19 26 K4, I8, I7]
     refine CM_seq (sr (wm (wm ?_)))
     refine wv (vlen underlying27) ?_
     refine wv vlss ?_
     refine nt' ?_
     by_cases hl46 : k42 < ((spec_DrawReclaimStore_m x0).2).length
     ·have g47 := dlT hl46
      refine CM_condT rfl g47 ?_
      refine CM_skip (QM_then (CM_seq (CM_block (CM_seq ?_))))
      refine CM_formO (n := 5) rfl (by omega) ?_
      rintro g48 rfl
      refine rb 14 (s := [I12, I10, I11, I9, iBox p19 26 K4, iOwn (tSl tInt 3) [.slice (some ⟨g48, 0, none⟩) ((spec_DrawReclaimStore_m x0).2).length c16] ((spec_DrawReclaimStore_m x0).2), I7]) (fun W hm => hm) ?_
      refine qt 14 0 1 rfl (fun W hm => rv_loadN (cs := [.slice A23 G21.1.Segments.length c24, .int .i64 G21.1.Now]) underlying26 type26 rfl rfl (hm.boxCells (n := 2) rfl)) ?_
      refine qt 14 1 3 rfl vmv ?_
      refine qt 14 2 7 rfl vmv ?_
      refine qt 14 3 15 rfl (vix 1 k42 underlying27 type3) ?_
      refine qt 14 4 31 rfl (fun W hm => rv_load underlying3 rfl rfl (hm.ownInt (i := 5) rfl (by omega))) ?_
      refine qt 14 6 95 rfl (fun W hm => rv_loadN (cs := K4) underlying26 type26 rfl rfl (hm.boxCells (n := 4) rfl)) ?_
      refine qt 14 7 223 rfl vmv ?_
      refine qt 14 8 479 rfl vmv ?_
      refine qt 14 9 991 rfl (vix 1 k42 underlying27 type3) ?_
      refine qt 14 10 2015 rfl (fun W hm => rv_load underlying3 rfl rfl (hm.ownInt (i := 5) rfl (by omega))) ?_
      refine qo 14 5 2047 rfl ?_
      refine wcl (tSl tyRow 29) (impl_RowsAt_m G21.1 (gt ((spec_DrawReclaimStore_m x0).2) k42)) (cl_fn cb14 rfl) (fun W hm => impl_RowsAt_c W _ G21.1 (gt ((spec_DrawReclaimStore_m x0).2) k42) (tyStore_mk (x := G21.1) (hm.rdSI (n := 3) rfl)) (by first | exact stD_sm hxr | exact stD_sm hyr | exact stD_sm hxu | exact stD_sm hyu)) (fun z49 => ?_)
      obtain ⟨G50, hG50⟩ : ∃ G, G = (impl_RowsAt_m G21.1 (gt ((spec_DrawReclaimStore_m x0).2) k42)) := ⟨_, rfl⟩
      rw [← hG50]
      refine WM_form (n := 0) rfl ?_
      rintro A51 c52 rfl m53
      refine qn (pk [1, 2, 3, 4, 5, 6, 7]) ?_
      refine qo 14 11 4095 rfl ?_
      refine wcl (tSl tyRow 29) (spec_RowsAt_m ((spec_DrawReclaimStore_m x0).1) (gt ((spec_DrawReclaimStore_m x0).2) k42)) (cl_fn cb15 rfl) (fun W hm => spec_RowsAt_c W _ ((spec_DrawReclaimStore_m x0).1) (gt ((spec_DrawReclaimStore_m x0).2) k42) (tyStore_mk (x := ((spec_DrawReclaimStore_m x0).1)) (hm.rdSI (n := 7) rfl)) (stD_sm hdr.1)) (fun z55 => ?_)
      obtain ⟨G56, hG56⟩ : ∃ G, G = (spec_RowsAt_m ((spec_DrawReclaimStore_m x0).1) (gt ((spec_DrawReclaimStore_m x0).2) k42)) := ⟨_, rfl⟩
      rw [← hG56]
      refine WM_form (n := 0) rfl ?_
      rintro A57 c58 rfl m59
      refine qn (pk [2, 3, 4, 5, 6, 7, 8]) ?_
      refine qo 14 12 8191 rfl ?_
      refine wcv (cl_fn cb13 rfl) (fun W hm => spec_EqualRows_c W _ G50 _ G56 (hm.rdSI (n := 1) rfl) (hm.rdSI (n := 0) rfl)) ?_
      refine qn (pk [2, 3, 4, 5, 6, 7, 8]) ?_
      refine qt 14 13 16383 rfl vnot ?_
      refine QB_done (by kernel_rfl) ?_
      refine QM_then ?_
      rcases Bool.eq_false_or_eq_true (spec_EqualRows_m G50 G56) with g62 | g62
      ·
       refine CM_condF rfl (nt g62) ?_
       refine CM_skip (QM_block_normal (QM_then (CM_region (wm ?_))))
       refine wv (vadN k42 1 (by omega)) ?_
       refine wa (WM_nil ?_)
       have hn63 := rng_next (R := Bool) (body := F1) (k := k42) (s := ()) (s' := ()) (show k42 < ((spec_DrawReclaimStore_m x0).2).length from by omega) (by subst hG21 hG29 hG50 hG56; exact cond_t g62 (rfl)) hF44
       exact QM_round (k42 + 1, (), ()) sl6 (pk [2, 3, 4, 5, 6, 7, 8]) ⟨(by omega), hn63⟩ (show ((spec_DrawReclaimStore_m x0).2).length - (k42 + 1) < ((spec_DrawReclaimStore_m x0).2).length - k42 from by omega)
      ·
       refine CM_condT rfl (nf g62) ?_
       refine sr (wa (nt' (CM_ret (QM_block_ret (QM_then_ret (QM_then_ret (QM_block_ret (QM_then_ret ?_))))))))
       exact rtb (h := by subst hG21 hG29 hG50 hG56; exact cond_f g7 (cond_f g37 (cond_t g39 (cond_t g41 (fin_inl (rng_ret (body := F1) (k := k42) (s := ()) (by omega) (cond_f g62 (rfl)) hF44) rfl)))))
     ·have g47 := dlF hl46
      refine CM_condF rfl g47 ?_
      refine CM_exit (QM_then_exit (QM_then_exit ?_))
      have hE64 : R2 (((spec_DrawReclaimStore_m x0).2).length - 0) 0 () = Sum.inr () := rng_end hl46 hF44
      refine QM_block_hit (QM_then (CM_seq ?_))
      refine CM_items (pk [2, 3, 4, 6]) ?_
      refine CM_region (wm ?_)
      refine WM_call (χ := List Value × Value) (val := fun x => .tuple #[.agg x.1.toArray, x.2]) (js := fun x => [iOwn tyStore x.1 ((spec_DrawApplyUpdates_m x0).1), iOwn (tSl tyUpdate 31) [x.2] ((spec_DrawApplyUpdates_m x0).2)]) (cl_fn cb31 rfl) (fun W hm => spec_DrawApplyUpdates_c W _ x0 (hm.rdS0 r5) (by omega)) (Wd_none rfl) (by decide) (fun x => ?_)
      obtain ⟨z65, z66⟩ := x
      refine tyStore_sp ?_
      rintro v67 rfl
      refine WM_form (n := 0) rfl ?_
      rintro A68 c69 rfl m70
      let K5 : List Value := [.slice A68 (((spec_DrawApplyUpdates_m x0).1).Segments).length c69]
      let I13 : It := iOwn (tSl (tSl tyVersion 51) 72) K5 (((spec_DrawApplyUpdates_m x0).1).Segments)
      refine WM_items (js := [iOwn (tSl tyUpdate 31) [z66] ((spec_DrawApplyUpdates_m x0).2), I13, I11, I9, iBox p19 26 K4, I7]) (pk [1, 0, 2, 3, 4, 5]) ?_
      refine WM_form (n := 0) rfl ?_
      rintro A72 c73 rfl m74
      have hdu := spec_DrawApplyUpdates_fact x0
      refine wm ?_
      refine wv (fun W hm => rv_extract rfl rfl) ?_
      refine wv (fun W hm => rv_extract rfl rfl) ?_
      refine WM_alloc type26 rfl (Wd_none rfl) (by decide) (fun p76 => ?_)
      let K6 : List Value := [.slice A68 (((spec_DrawApplyUpdates_m x0).1).Segments).length c69, .int .i64 (((spec_DrawApplyUpdates_m x0).1).Now)]
      let I14 : It := iOwn (tSl tyUpdate 31) [.slice A72 ((spec_DrawApplyUpdates_m x0).2).length c73] ((spec_DrawApplyUpdates_m x0).2)
      refine sb 0 K6 [I14, I13, I11, I9, iBox p19 26 K4, I7] (fun W hm => hm) type26 ?_
      refine wa (nt' (sr ?_))
      refine wv (fun W hm => rv_loadN (cs := K6) underlying26 type26 rfl rfl (hm.boxCells (n := 0) rfl)) ?_
      refine wm ?_
      refine WM_call (χ := List Value) (val := fun x => .tuple #[.agg x.toArray, .int .i64 ((impl_ApplyUpdates_m ((spec_DrawApplyUpdates_m x0).1) ((spec_DrawApplyUpdates_m x0).2)).2)]) (js := fun x => [iOwn tyStore x ((impl_ApplyUpdates_m ((spec_DrawApplyUpdates_m x0).1) ((spec_DrawApplyUpdates_m x0).2)).1)]) (cl_fn cb32 rfl) (fun W hm => impl_ApplyUpdates_c W _ ((spec_DrawApplyUpdates_m x0).1) _ ((spec_DrawApplyUpdates_m x0).2) (tyStore_mk (x := ((spec_DrawApplyUpdates_m x0).1)) (hm.rdSI (n := 2) rfl)) (hm.rdSI (n := 1) rfl) (stD_sm hdu.1) hdu.2) (Wd_none rfl) (by decide) (fun z77 => ?_)
      have hxu := impl_ApplyUpdates_stD (by omega) hdu.1 (spec_DrawApplyUpdates_m x0).2
      obtain ⟨G78, hG78⟩ : ∃ G, G = (impl_ApplyUpdates_m ((spec_DrawApplyUpdates_m x0).1) ((spec_DrawApplyUpdates_m x0).2)) := ⟨_, rfl⟩
      rw [← hG78]
      rw [← hG78] at hxu
      refine tyStore_sp ?_
      rintro v79 rfl
      refine WM_form (n := 0) rfl ?_
      rintro A80 c81 rfl m82
      refine wm ?_
      refine wv (fun W hm => rv_extract rfl rfl) ?_
      refine wv (fun W hm => rv_extract rfl rfl) ?_
      refine WM_alloc type26 rfl (Wd_none rfl) (by decide) (fun p84 => ?_)
      let I15 : It := iOwn (tSl (tSl tyVersion 51) 72) [.slice A80 G78.1.Segments.length c81] G78.1.Segments
      refine sb 0 [.slice A80 G78.1.Segments.length c81, .int .i64 G78.1.Now] [I15, iBox p76 26 K6, I14, I13, I11, I9, iBox p19 26 K4, I7] (fun W hm => hm) type26 ?_
      refine wa (nt' (sr ?_))
      refine wv (fun W hm => rv_loadN (cs := K6) underlying26 type26 rfl rfl (hm.boxCells (n := 2) rfl)) ?_
      refine wm ?_
      refine WM_call (χ := List Value) (val := fun x => .tuple #[.agg x.toArray, .int .i64 ((spec_ApplyUpdates_m ((spec_DrawApplyUpdates_m x0).1) ((spec_DrawApplyUpdates_m x0).2)).2)]) (js := fun x => [iOwn tyStore x ((spec_ApplyUpdates_m ((spec_DrawApplyUpdates_m x0).1) ((spec_DrawApplyUpdates_m x0).2)).1)]) (cl_fn cb33 rfl) (fun W hm => spec_ApplyUpdates_c W _ ((spec_DrawApplyUpdates_m x0).1) _ ((spec_DrawApplyUpdates_m x0).2) (tyStore_mk (x := ((spec_DrawApplyUpdates_m x0).1)) (hm.rdSI (n := 4) rfl)) (hm.rdSI (n := 3) rfl) (stD_sm hdu.1) hdu.2) (Wd_none rfl) (by decide) (fun z85 => ?_)
      have hyu := spec_ApplyUpdates_stD (by omega) hdu.1 (spec_DrawApplyUpdates_m x0).2
      obtain ⟨G86, hG86⟩ : ∃ G, G = (spec_ApplyUpdates_m ((spec_DrawApplyUpdates_m x0).1) ((spec_DrawApplyUpdates_m x0).2)) := ⟨_, rfl⟩
      rw [← hG86]
      rw [← hG86] at hyu
      refine tyStore_sp ?_
      rintro v87 rfl
      refine WM_form (n := 0) rfl ?_
      rintro A88 c89 rfl m90
      refine wm ?_
      refine wv (fun W hm => rv_extract rfl rfl) ?_
      refine wv (fun W hm => rv_extract rfl rfl) ?_
      refine WM_alloc type26 rfl (Wd_none rfl) (by decide) (fun p92 => ?_)
      let I16 : It := iOwn (tSl (tSl tyVersion 51) 72) [.slice A88 G86.1.Segments.length c89] G86.1.Segments
      let I17 : It := iBox p84 26 [.slice A80 G78.1.Segments.length c81, .int .i64 G78.1.Now]
      refine sb 0 [.slice A88 G86.1.Segments.length c89, .int .i64 G86.1.Now] [I16, I17, I15, iBox p76 26 K6, I14, I13, I11, I9, iBox p19 26 K4, I7] (fun W hm => hm) type26 ?_
      refine wa (nt' (CM_seq ?_))
      refine CM_items (pk [0, 1, 2, 3, 7, 8, 9, 10]) ?_
      refine rb 33 (s := [iBox p92 26 [.slice A88 G86.1.Segments.length c89, .int .i64 G86.1.Now], I16, I17, I15, I11, I9, iBox p19 26 K4, I7]) (fun W hm => hm) ?_
      refine qt 33 0 1 rfl (fun W hm => rv_loadN (cs := [.slice A23 G21.1.Segments.length c24, .int .i64 G21.1.Now]) underlying26 type26 rfl rfl (hm.boxCells (n := 4) rfl)) ?_
      refine qt 33 2 5 rfl vmv ?_
      refine qt 33 4 21 rfl (fun W hm => rv_loadN (cs := K4) underlying26 type26 rfl rfl (hm.boxCells (n := 6) rfl)) ?_
      refine qo 33 1 23 rfl ?_
      refine wcv (cl_fn cb25 rfl) (fun W hm => impl_CountVersions_c W _ G21.1 (tyStore_mk (x := G21.1) (hm.rdSI (n := 5) rfl))) ?_
      refine qn (fun W hm => hm) ?_
      refine qt 33 3 31 rfl vadd ?_
      refine qo 33 5 63 rfl ?_
      refine wcv (cl_fn cb25 rfl) (fun W hm => impl_CountVersions_c W _ ((spec_DrawReclaimStore_m x0).1) (tyStore_mk (x := ((spec_DrawReclaimStore_m x0).1)) (hm.rdSI (n := 7) rfl))) ?_
      refine qn (fun W hm => hm) ?_
      refine qt 33 6 127 rfl (fun W hm => rv_eql rfl rfl) ?_
      refine qt 33 7 255 rfl vmv ?_
      by_cases h93 : (IntKind.i64.wrap ((impl_CountVersions_m G21.1) + G21.2)) = (impl_CountVersions_m ((spec_DrawReclaimStore_m x0).1))
      ·have g94 := beq_iff_eq.2 h93
       refine qtg 33 8 511 rfl (fun W hm => rv_loadN (cs := [.slice A23 G21.1.Segments.length c24, .int .i64 G21.1.Now]) underlying26 type26 rfl rfl (hm.boxCells (n := 4) rfl)) (Wd_some rfl rfl rfl (bw g94 rfl)) ?_
       refine qtg 33 9 1023 rfl (vf underlying26 rfl type3) (Wd_some rfl rfl rfl (bw g94 rfl)) ?_
       refine qtg 33 10 2047 rfl (vl 6 1 underlying3) (Wd_some rfl rfl rfl (bw g94 rfl)) ?_
       refine qtg 33 12 6143 rfl (fun W hm => rv_loadN (cs := K4) underlying26 type26 rfl rfl (hm.boxCells (n := 6) rfl)) (Wd_some rfl rfl rfl (bw g94 rfl)) ?_
       refine qtg 33 13 14335 rfl (vf underlying26 rfl type3) (Wd_some rfl rfl rfl (bw g94 rfl)) ?_
       refine qtg 33 14 30719 rfl (vl 6 1 underlying3) (Wd_some rfl rfl rfl (bw g94 rfl)) ?_
       refine qo 33 11 32767 rfl ?_
       refine WM_call (χ := Value) (val := fun x => x) (js := fun x => [iOwn (tSl tyRow 29) [x] (impl_RowsAt_m G21.1 (((spec_DrawReclaimStore_m x0).1).Now))]) (cl_fn cb14 rfl) (fun W hm => impl_RowsAt_c W _ G21.1 (((spec_DrawReclaimStore_m x0).1).Now) (tyStore_mk (x := G21.1) (hm.rdSI (n := 5) rfl)) (by first | exact stD_sm hxr | exact stD_sm hyr | exact stD_sm hxu | exact stD_sm hyu)) (Wd_some rfl rfl rfl (bw g94 rfl)) (by decide) (fun z95 => ?_)
       obtain ⟨G96, hG96⟩ : ∃ G, G = (impl_RowsAt_m G21.1 (((spec_DrawReclaimStore_m x0).1).Now)) := ⟨_, rfl⟩
       rw [← hG96]
       refine WM_form (n := 0) rfl ?_
       rintro A97 c98 rfl m99
       refine qn (pk [1, 2, 3, 4, 5, 6, 7, 8]) ?_
       refine qo 33 15 65535 rfl ?_
       refine WM_call (χ := Value) (val := fun x => x) (js := fun x => [iOwn (tSl tyRow 29) [x] (spec_RowsAt_m ((spec_DrawReclaimStore_m x0).1) (((spec_DrawReclaimStore_m x0).1).Now))]) (cl_fn cb15 rfl) (fun W hm => spec_RowsAt_c W _ ((spec_DrawReclaimStore_m x0).1) (((spec_DrawReclaimStore_m x0).1).Now) (tyStore_mk (x := ((spec_DrawReclaimStore_m x0).1)) (hm.rdSI (n := 8) rfl)) (stD_sm hdr.1)) (Wd_some rfl rfl rfl (bw g94 rfl)) (by decide) (fun z101 => ?_)
       obtain ⟨G102, hG102⟩ : ∃ G, G = (spec_RowsAt_m ((spec_DrawReclaimStore_m x0).1) (((spec_DrawReclaimStore_m x0).1).Now)) := ⟨_, rfl⟩
       rw [← hG102]
       refine WM_form (n := 0) rfl ?_
       rintro A103 c104 rfl m105
       refine qn (pk [2, 3, 4, 5, 6, 7, 8, 9]) ?_
       refine qo 33 16 131071 rfl ?_
       refine WM_callV (cl_fn cb13 rfl) (fun W hm => spec_EqualRows_c W _ G96 _ G102 (hm.rdSI (n := 1) rfl) (hm.rdSI (n := 0) rfl)) (Wd_some rfl rfl rfl (bw g94 rfl)) (by decide) ?_
       refine qn (pk [2, 3, 4, 5, 6, 7, 8, 9]) ?_
       refine qt 33 17 262143 rfl (vpT g94) ?_
       refine qt 33 18 524287 rfl vmv ?_
       rcases Bool.eq_false_or_eq_true (spec_EqualRows_m G96 G102) with g108 | g108
       ·
        refine qtg 33 19 1048575 rfl (fun W hm => rv_loadN (cs := [.slice A23 G21.1.Segments.length c24, .int .i64 G21.1.Now]) underlying26 type26 rfl rfl (hm.boxCells (n := 4) rfl)) (Wd_some rfl rfl rfl (bw g108 rfl)) ?_
        refine qo 33 20 2097151 rfl ?_
        refine WM_callV (cl_fn cb11 rfl) (fun W hm => impl_IsStore_c W _ G21.1 (tyStore_mk (x := G21.1) (hm.rdSI (n := 7) rfl)) (by first | exact stD_sm hxr | exact stD_sm hyr | exact stD_sm hxu | exact stD_sm hyu)) (Wd_some rfl rfl rfl (bw g108 rfl)) (by decide) ?_
        refine qn (pk [2, 3, 4, 5, 6, 7, 8, 9]) ?_
        refine qt 33 21 4194303 rfl (vpT g108) ?_
        refine qt 33 22 8388607 rfl vmv ?_
        rcases Bool.eq_false_or_eq_true (impl_IsStore_m G21.1) with g110 | g110
        ·
         refine qtg 33 23 16777215 rfl vmv (Wd_some rfl rfl rfl (bw g110 rfl)) ?_
         refine qtg 33 24 33554431 rfl vmv (Wd_some rfl rfl rfl (bw g110 rfl)) ?_
         refine qtg 33 25 67108863 rfl (fun W hm => rv_eql rfl rfl) (Wd_some rfl rfl rfl (bw g110 rfl)) ?_
         refine qt 33 26 134217727 rfl (vpT g110) ?_
         refine qt 33 27 268435455 rfl vmv ?_
         by_cases h111 : G78.2 = G86.2
         ·have g112 := beq_iff_eq.2 h111
          refine qtg 33 28 536870911 rfl (fun W hm => rv_loadN (cs := [.slice A80 G78.1.Segments.length c81, .int .i64 G78.1.Now]) underlying26 type26 rfl rfl (hm.boxCells (n := 2) rfl)) (Wd_some rfl rfl rfl (bw g112 rfl)) ?_
          refine qtg 33 29 1073741823 rfl (fun W hm => rv_loadN (cs := [.slice A88 G86.1.Segments.length c89, .int .i64 G86.1.Now]) underlying26 type26 rfl rfl (hm.boxCells (n := 0) rfl)) (Wd_some rfl rfl rfl (bw g112 rfl)) ?_
          refine qo 33 30 2147483647 rfl ?_
          refine WM_callV (cl_fn cb10 rfl) (fun W hm => spec_EqualStores_c W _ G78.1 _ G86.1 (tyStore_mk (x := G78.1) (hm.rdSI (n := 5) rfl)) (tyStore_mk (x := G86.1) (hm.rdSI (n := 3) rfl))) (Wd_some rfl rfl rfl (bw g112 rfl)) (by decide) ?_
          refine qn (pk [2, 3, 4, 5, 6, 7, 8, 9]) ?_
          refine qt 33 31 4294967295 rfl (vpT g112) ?_
          refine qt 33 32 8589934591 rfl (fun W hm => rv_assign rfl) ?_
          refine QB_done (by kernel_rfl) ?_
          refine QM_then (CM_ret ?_)
          exact rtb (h := by subst hG21 hG29 hG78 hG86 hG96 hG102; exact cond_f g7 (cond_f g37 (cond_t g39 (cond_t g41 (fin_inr hE64 (cond_t g94 (cond_t g108 (cond_t g110 (cond_t g112 (rfl))))))))))
         ·have g112 := beq_eq_false_iff_ne.2 h111
          refine qk 33 28 536870911 rfl (Wd_some rfl rfl rfl (bw g112 rfl)) ?_
          refine qk 33 29 1073741823 rfl (Wd_some rfl rfl rfl (bw g112 rfl)) ?_
          refine qk 33 30 2147483647 rfl (Wd_some rfl rfl rfl (bw g112 rfl)) ?_
          refine qt 33 31 4294967295 rfl (vpF g112) ?_
          refine qt 33 32 8589934591 rfl (fun W hm => rv_assign rfl) ?_
          refine QB_done (by kernel_rfl) ?_
          refine QM_then (CM_ret ?_)
          exact rtb (h := by subst hG21 hG29 hG78 hG86 hG96 hG102; exact cond_f g7 (cond_f g37 (cond_t g39 (cond_t g41 (fin_inr hE64 (cond_t g94 (cond_t g108 (cond_t g110 (cond_f g112 (rfl))))))))))
        ·
         refine qk 33 23 16777215 rfl (Wd_some rfl rfl rfl (bw g110 rfl)) ?_
         refine qk 33 24 33554431 rfl (Wd_some rfl rfl rfl (bw g110 rfl)) ?_
         refine qk 33 25 67108863 rfl (Wd_some rfl rfl rfl (bw g110 rfl)) ?_
         refine qt 33 26 134217727 rfl (vpF g110) ?_
         refine qt 33 27 268435455 rfl vmv ?_
         refine qk 33 28 536870911 rfl (Wd_some rfl rfl rfl rfl) ?_
         refine qk 33 29 1073741823 rfl (Wd_some rfl rfl rfl rfl) ?_
         refine qk 33 30 2147483647 rfl (Wd_some rfl rfl rfl rfl) ?_
         refine qt 33 31 4294967295 rfl (vpF rfl) ?_
         refine qt 33 32 8589934591 rfl (fun W hm => rv_assign rfl) ?_
         refine QB_done (by kernel_rfl) ?_
         refine QM_then (CM_ret ?_)
         exact rtb (h := by subst hG21 hG29 hG78 hG86 hG96 hG102; exact cond_f g7 (cond_f g37 (cond_t g39 (cond_t g41 (fin_inr hE64 (cond_t g94 (cond_t g108 (cond_f g110 (rfl)))))))))
       ·
        refine qk 33 19 1048575 rfl (Wd_some rfl rfl rfl (bw g108 rfl)) ?_
        refine qk 33 20 2097151 rfl (Wd_some rfl rfl rfl (bw g108 rfl)) ?_
        refine qt 33 21 4194303 rfl (vpF g108) ?_
        refine qt 33 22 8388607 rfl vmv ?_
        refine qk 33 23 16777215 rfl (Wd_some rfl rfl rfl rfl) ?_
        refine qk 33 24 33554431 rfl (Wd_some rfl rfl rfl rfl) ?_
        refine qk 33 25 67108863 rfl (Wd_some rfl rfl rfl rfl) ?_
        refine qt 33 26 134217727 rfl (vpF rfl) ?_
        refine qt 33 27 268435455 rfl vmv ?_
        refine qk 33 28 536870911 rfl (Wd_some rfl rfl rfl rfl) ?_
        refine qk 33 29 1073741823 rfl (Wd_some rfl rfl rfl rfl) ?_
        refine qk 33 30 2147483647 rfl (Wd_some rfl rfl rfl rfl) ?_
        refine qt 33 31 4294967295 rfl (vpF rfl) ?_
        refine qt 33 32 8589934591 rfl (fun W hm => rv_assign rfl) ?_
        refine QB_done (by kernel_rfl) ?_
        refine QM_then (CM_ret ?_)
        exact rtb (h := by subst hG21 hG29 hG78 hG86 hG96 hG102; exact cond_f g7 (cond_f g37 (cond_t g39 (cond_t g41 (fin_inr hE64 (cond_t g94 (cond_f g108 (rfl))))))))
      ·have g94 := beq_eq_false_iff_ne.2 h93
       refine qk 33 8 511 rfl (Wd_some rfl rfl rfl (bw g94 rfl)) ?_
       refine qk 33 9 1023 rfl (Wd_some rfl rfl rfl (bw g94 rfl)) ?_
       refine qk 33 10 2047 rfl (Wd_some rfl rfl rfl (bw g94 rfl)) ?_
       refine qk 33 11 4095 rfl (Wd_some rfl rfl rfl (bw g94 rfl)) ?_
       refine qk 33 12 8191 rfl (Wd_some rfl rfl rfl (bw g94 rfl)) ?_
       refine qk 33 13 16383 rfl (Wd_some rfl rfl rfl (bw g94 rfl)) ?_
       refine qk 33 14 32767 rfl (Wd_some rfl rfl rfl (bw g94 rfl)) ?_
       refine qk 33 15 65535 rfl (Wd_some rfl rfl rfl (bw g94 rfl)) ?_
       refine qk 33 16 131071 rfl (Wd_some rfl rfl rfl (bw g94 rfl)) ?_
       refine qt 33 17 262143 rfl (vpF g94) ?_
       refine qt 33 18 524287 rfl vmv ?_
       refine qk 33 19 1048575 rfl (Wd_some rfl rfl rfl rfl) ?_
       refine qk 33 20 2097151 rfl (Wd_some rfl rfl rfl rfl) ?_
       refine qt 33 21 4194303 rfl (vpF rfl) ?_
       refine qt 33 22 8388607 rfl vmv ?_
       refine qk 33 23 16777215 rfl (Wd_some rfl rfl rfl rfl) ?_
       refine qk 33 24 33554431 rfl (Wd_some rfl rfl rfl rfl) ?_
       refine qk 33 25 67108863 rfl (Wd_some rfl rfl rfl rfl) ?_
       refine qt 33 26 134217727 rfl (vpF rfl) ?_
       refine qt 33 27 268435455 rfl vmv ?_
       refine qk 33 28 536870911 rfl (Wd_some rfl rfl rfl rfl) ?_
       refine qk 33 29 1073741823 rfl (Wd_some rfl rfl rfl rfl) ?_
       refine qk 33 30 2147483647 rfl (Wd_some rfl rfl rfl rfl) ?_
       refine qt 33 31 4294967295 rfl (vpF rfl) ?_
       refine qt 33 32 8589934591 rfl (fun W hm => rv_assign rfl) ?_
       refine QB_done (by kernel_rfl) ?_
       refine QM_then (CM_ret ?_)
       exact rtb (h := by subst hG21 hG29 hG78 hG86; exact cond_f g7 (cond_f g37 (cond_t g39 (cond_t g41 (fin_inr hE64 (cond_f g94 (rfl)))))))
    ·
     refine CM_condT rfl (nf g41) ?_
     refine CM_seq ?_
     refine CM_items (pk [2, 3, 4, 6]) ?_
     refine CM_region (wm ?_)
     refine wv (fun W hm => rv_eql rfl rfl) ?_
     refine wm ?_
     by_cases h113 : G21.2 = 0
     ·have g114 := beq_iff_eq.2 h113
      refine wg (fun W hm => rv_loadN (cs := [.slice A23 G21.1.Segments.length c24, .int .i64 G21.1.Now]) underlying26 type26 rfl rfl (hm.boxCells (n := 0) rfl)) g114 ?_
      refine wg (fun W hm => rv_loadN (cs := K4) underlying26 type26 rfl rfl (hm.boxCells (n := 2) rfl)) g114 ?_
      refine WM_callV (cl_fn cb10 rfl) (fun W hm => spec_EqualStores_c W _ G21.1 _ ((spec_DrawReclaimStore_m x0).1) (tyStore_mk (x := G21.1) (hm.rdSI (n := 1) rfl)) (tyStore_mk (x := ((spec_DrawReclaimStore_m x0).1)) (hm.rdSI (n := 3) rfl))) (Wd_some rfl rfl rfl (bw g114 rfl)) (by decide) ?_
      refine wv (vpT g114) ?_
      refine wa (nt' (CM_ret (QM_then_ret ?_)))
      exact rtb (h := by subst hG21 hG29; exact cond_f g7 (cond_f g37 (cond_t g39 (cond_f g41 (cond_t g114 (rfl))))))
     ·have g114 := beq_eq_false_iff_ne.2 h113
      refine ws g114 ?_
      refine ws g114 ?_
      refine ws g114 ?_
      refine wv (vpF g114) ?_
      refine wa (nt' (CM_ret (QM_then_ret ?_)))
      exact rtb (h := by subst hG21 hG29; exact cond_f g7 (cond_f g37 (cond_t g39 (cond_f g41 (cond_f g114 (rfl))))))
   ·
    refine CM_condT rfl (nf g39) ?_
    refine CM_seq ?_
    refine CM_items (pk []) ?_
    refine CM_region (wa (nt' (CM_ret (QM_then_ret ?_))))
    exact rtb (h := by subst hG21 hG29; exact cond_f g7 (cond_f g37 (cond_f g39 (rfl))))
  ·have g37 : (G21.2 != G29.2) = true := bne_iff_ne.2 h36
   refine ws g37 ?_
   refine ws g37 ?_
   refine ws g37 ?_
   refine ws g37 ?_
   refine wv (vpT g37) ?_
   refine nt' ?_
   refine CM_condT rfl rfl ?_
   refine CM_seq ?_
   refine CM_items (pk []) ?_
   refine CM_region (wa (nt' (CM_ret (QM_then_ret ?_))))
   exact rtb (h := by subst hG21 hG29; exact cond_f g7 (cond_t g37 (rfl)))

end Go.Proofs.Ytglapeecbnaipaa
