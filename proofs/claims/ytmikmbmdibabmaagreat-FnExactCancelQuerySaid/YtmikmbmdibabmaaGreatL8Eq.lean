/-
  The program and the reference compute the same: plain laws over what the walks showed.
-/
import Derived.Test.YtmikmbmdibabmaaGreatL8Law
namespace Go.Proofs.YtmikmbmdibabmaaGreat
open Go.RowKit
theorem rng_bool {n : Nat} {b : Nat → Unit → Bool ⊕ Unit} (h : ∀ j, b j () = .inr () ∨ b j () = .inl false) : ∀ m k, rng b m k () = .inr () ∨ rng b m k () = .inl false
  | 0, _ => .inl rfl
  | m + 1, k => by
    rcases h k with h1 | h1
    · rw [rng, h1]; exact rng_bool (n := n) h m (k + 1)
    · right; rw [rng, h1]; rfl
theorem within_same (x a b : Int) : impl_within_m x a b = spec_l1In_m x a b := rfl
theorem IsSet_b_same (x : List Int) (k : Nat) : impl_IsSet_b1 x k = spec_IsSet_b1 x k := by
  unfold impl_IsSet_b1 spec_IsSet_b1 spec_l1In_m
  by_cases h1 : gt x k < 0
  · have h2 : ¬ 0 ≤ gt x k := by omega
    simp only [decide_eq_true h1, decide_eq_false h2, cond_true, cond_false]
  · have h2 : 0 ≤ gt x k := by omega
    by_cases h3 : 24 ≤ gt x k
    · have h4 : ¬ gt x k ≤ 23 := by omega
      simp only [decide_eq_false h1, decide_eq_true h2, decide_eq_true h3, decide_eq_false h4, cond_true, cond_false]
    · have h4 : gt x k ≤ 23 := by omega
      simp only [decide_eq_false h1, decide_eq_true h2, decide_eq_false h3, decide_eq_true h4, cond_true, cond_false]
theorem IsSet_same (x : List Int) : impl_IsSet_m x = spec_IsSet_m x := by
  unfold impl_IsSet_m spec_IsSet_m
  simp only [IsSet_b_same]
theorem IsCharge_b_same (x : DCharge) (k : Nat) : impl_IsCharge_b1 x k = spec_IsCharge_b1 x k := rfl
theorem IsCharge_b_two (x : DCharge) (k : Nat) : spec_IsCharge_b1 x k = .inr () ∨ spec_IsCharge_b1 x k = .inl false := by
  unfold spec_IsCharge_b1
  cases spec_l1In_m (gt x.Tenants k) 0 3 <;> cases spec_l1In_m (gt x.Rows k) 0 x.Base <;> simp
theorem IsCharge_same (x : DCharge) : impl_IsCharge_m x = spec_IsCharge_m x := by
  unfold impl_IsCharge_m spec_IsCharge_m
  rw [IsSet_same]
  simp only [IsCharge_b_same, within_same]
  have h8 : spec_l1In_m ((x.Ids.length : Nat) : Int) 1 8 = cond (((x.Ids.length : Nat) : Int) == 0) false (cond (decide (8 < ((x.Ids.length : Nat) : Int))) false true) := by
    unfold spec_l1In_m
    by_cases h1 : ((x.Ids.length : Nat) : Int) = 0
    · rw [beq_iff_eq.2 h1, decide_eq_false (show ¬ 1 ≤ ((x.Ids.length : Nat) : Int) by omega)]; rfl
    · rw [beq_eq_false_iff_ne.2 h1, decide_eq_true (show 1 ≤ ((x.Ids.length : Nat) : Int) by omega)]
      by_cases h2 : 8 < ((x.Ids.length : Nat) : Int)
      · rw [decide_eq_true h2, decide_eq_false (show ¬ ((x.Ids.length : Nat) : Int) ≤ 8 by omega)]; rfl
      · rw [decide_eq_false h2, decide_eq_true (show ((x.Ids.length : Nat) : Int) ≤ 8 by omega)]; rfl
  rw [h8]
  have hr := rng_bool (n := 0) (b := fun k (_ : Unit) => spec_IsCharge_b1 x k) (IsCharge_b_two x) (x.Ids.length - 0) 0
  rcases hr with hr | hr <;> rw [hr] <;> cases spec_IsSet_m x.Ids <;> cases (((x.Ids.length : Nat) : Int) == 0) <;> cases (decide (8 < ((x.Ids.length : Nat) : Int))) <;>
    cases (((x.Tenants.length : Nat) : Int) != ((x.Ids.length : Nat) : Int)) <;> cases (((x.Rows.length : Nat) : Int) != ((x.Ids.length : Nat) : Int)) <;> cases spec_l1In_m x.Segment 0 7 <;> cases spec_l1In_m x.Base 0 4 <;> rfl
theorem isField_same (x : Int) : impl_isField_m x = spec_l1In_m x 0 2 := rfl
def needB (x : List Int) (v : DVersion) : Bool := x.any (fun t => impl_IsVisible_m v t) || v.Died == -1
theorem isNeeded_form (v : DVersion) (x : List Int) : impl_isNeeded_m v x = needB x v := by
  unfold impl_isNeeded_m needB
  rw [rng_any (p := fun t => impl_IsVisible_m v t) (r := true) (fun j _ => by unfold impl_isNeeded_b1; rfl)]
  cases x.any (fun t => impl_IsVisible_m v t) <;> rfl
theorem foldl_orB {α : Type} (p : α → Bool) : ∀ (xs : List α) (s : Bool), xs.foldl (fun s t => cond s true (p t)) s = (s || xs.any p)
  | [], s => by simp
  | x :: xs, s => by
    rw [List.foldl_cons, foldl_orB p xs]
    cases s <;> simp
theorem impl_Reclaim_b1_form (x : List Int) (k : Nat) (d : List (List DVersion)) : impl_ReclaimStore_b1 x k d = .inr (d.set k ((gt d k).filter (needB x))) := by
  unfold impl_ReclaimStore_b1
  rw [rng_fold (xs := gt d k) (f := fun e v => cond (needB x v) (e ++ [v]) e) (fun j s _ => by unfold impl_ReclaimStore_b2; rw [isNeeded_form]; cases needB x (gt (gt d k) j) <;> rfl)]
  show Sum.inr (d.set k _) = _
  rw [foldl_filter]
  rfl
def cut64 (s : Int) (n : Nat) : Int := IntKind.i64.wrap (s + n)
theorem cut64_add (s : Int) (m n : Nat) : cut64 (cut64 s m) n = cut64 s (m + n) := by
  unfold cut64
  simp only [IntKind.wrap_i64]
  omega
theorem spec_Reclaim_fold (x : List Int) : ∀ (l : List DVersion) (s : Int) (e : List DVersion), l.foldl (fun (s : Int × List DVersion) v => cond (needB x v) (s.1, s.2 ++ [v]) (IntKind.i64.wrap (s.1 + 1), s.2)) (cut64 s 0, e) = (cut64 s (l.length - (l.filter (needB x)).length), e ++ l.filter (needB x))
  | [], s, e => by simp
  | v :: l, s, e => by
    rw [List.foldl_cons]
    have hl := List.length_filter_le (needB x) l
    cases h : needB x v with
    | true =>
      rw [cond_true, spec_Reclaim_fold x l s (e ++ [v])]
      simp [h]
    | false =>
      have e1 : (IntKind.i64.wrap (cut64 s 0 + 1)) = cut64 (cut64 s 1) 0 := by
        unfold cut64
        simp only [IntKind.wrap_i64]
        omega
      rw [cond_false]
      dsimp only
      rw [e1, spec_Reclaim_fold x l (cut64 s 1) e, cut64_add]
      simp only [List.filter_cons, h, List.length_cons]
      congr 2
      simp only [Bool.false_eq_true, if_false]
      omega
theorem spec_Reclaim_b1_form (x : List Int) (k : Nat) (s : Int) (d : List (List DVersion)) : spec_ReclaimStore_b1 x k (cut64 s 0) d = .inr (cut64 s ((gt d k).length - ((gt d k).filter (needB x)).length), d.set k ((gt d k).filter (needB x))) := by
  unfold spec_ReclaimStore_b1
  rw [rng_fold (xs := gt d k) (f := fun (s : Int × List DVersion) v => cond (needB x v) (s.1, s.2 ++ [v]) (IntKind.i64.wrap (s.1 + 1), s.2)) (fun j s _ => by
    unfold spec_ReclaimStore_b2
    rw [rng_fold (xs := x) (f := fun s t => cond s true (impl_IsVisible_m (gt (gt d k) j) t)) (fun i s _ => by unfold spec_ReclaimStore_b3; cases s <;> rfl), foldl_orB]
    have : ((gt (gt d k) j).Died == -1 || x.any fun t => impl_IsVisible_m (gt (gt d k) j) t) = needB x (gt (gt d k) j) := by unfold needB; rw [Bool.or_comm]
    rw [this]
    show cond (needB x (gt (gt d k) j)) _ _ = _
    cases needB x (gt (gt d k) j) <;> rfl), spec_Reclaim_fold]
  rfl
theorem rng_sumlen {R : Type} (xs : List (List DVersion)) (b : Nat → Int → R ⊕ Int) (hb : ∀ j s, b j s = .inr (IntKind.i64.wrap (s + ((gt xs j).length : Nat)))) : rng b (xs.length - 0) 0 0 = .inr (cut64 0 (xs.map List.length).sum) := by
  have h : ∀ (l : List (List DVersion)) (s : Int), l.foldl (fun (s : Int) v => IntKind.i64.wrap (s + (v.length : Nat))) (cut64 s 0) = cut64 s (l.map List.length).sum := by
    intro l
    induction l with
    | nil => intro s; rfl
    | cons v l ih =>
      intro s
      have e1 : IntKind.i64.wrap (cut64 s 0 + (v.length : Nat)) = cut64 (cut64 s v.length) 0 := by
        unfold cut64
        simp only [IntKind.wrap_i64]
        omega
      rw [List.foldl_cons, e1, ih, cut64_add]
      simp
  rw [rng_fold (xs := xs) (f := fun (s : Int) v => IntKind.i64.wrap (s + (v.length : Nat))) (fun j s _ => hb j s)]
  exact congrArg Sum.inr (h xs 0)
theorem CountVersions_form (x : DStore) : impl_CountVersions_m x = cut64 0 (x.Segments.map List.length).sum := by
  unfold impl_CountVersions_m
  rw [rng_sumlen x.Segments _ (fun j s => by unfold impl_CountVersions_b1; rfl)]
  rfl
def reclaimL (x : List Int) (d : List (List DVersion)) : List (List DVersion) := d.map fun l => l.filter (needB x)
theorem reclaim_sum (x : List Int) : ∀ d : List (List DVersion), ((reclaimL x d).map List.length).sum ≤ (d.map List.length).sum ∧ ∀ s : Int, d.foldl (fun (s : Int) l => cut64 s (l.length - (l.filter (needB x)).length)) (cut64 s 0) = cut64 s ((d.map List.length).sum - ((reclaimL x d).map List.length).sum)
  | [] => ⟨by simp [reclaimL], fun s => rfl⟩
  | l :: d => by
    obtain ⟨h1, h2⟩ := reclaim_sum x d
    have h3 := List.length_filter_le (needB x) l
    have e1 : ((reclaimL x (l :: d)).map List.length).sum = (l.filter (needB x)).length + ((reclaimL x d).map List.length).sum := by simp [reclaimL]
    have e2 : ((l :: d).map List.length).sum = l.length + (d.map List.length).sum := by simp
    refine ⟨by omega, fun s => ?_⟩
    rw [List.foldl_cons]
    have e3 : cut64 (cut64 s 0) (l.length - (l.filter (needB x)).length) = cut64 (cut64 s (l.length - (l.filter (needB x)).length)) 0 := by
      rw [cut64_add, cut64_add, Nat.zero_add, Nat.add_zero]
    rw [e3, h2, cut64_add]
    congr 1
    omega
theorem impl_Reclaim_form (x : DStore) (y : List Int) (h : impl_IsStore_m x = true) : impl_ReclaimStore_m x y = (⟨reclaimL y x.Segments, x.Now⟩, cut64 0 ((x.Segments.map List.length).sum - ((reclaimL y x.Segments).map List.length).sum)) := by
  unfold impl_ReclaimStore_m
  rw [h, cond_true, rng_setmap1 (xs := x.Segments) (f := fun l => l.filter (needB y)) (fun j s _ he => by rw [impl_Reclaim_b1_form, he])]
  show ((⟨reclaimL y x.Segments, x.Now⟩ : DStore), _) = _
  congr 1
  rw [CountVersions_form, CountVersions_form]
  have := (reclaim_sum y x.Segments).1
  show IntKind.i64.wrap (cut64 0 (x.Segments.map List.length).sum - cut64 0 ((reclaimL y x.Segments).map List.length).sum) = _
  unfold cut64
  simp only [IntKind.wrap_i64]
  omega
theorem spec_Reclaim_form (x : DStore) (y : List Int) (h : spec_IsStore_m x = true) : spec_ReclaimStore_m x y = (⟨reclaimL y x.Segments, x.Now⟩, cut64 0 ((x.Segments.map List.length).sum - ((reclaimL y x.Segments).map List.length).sum)) := by
  unfold spec_ReclaimStore_m
  rw [h, cond_true]
  have h0 : (0 : Int) = cut64 0 0 := rfl
  rw [h0]
  have key : ∀ (m k : Nat) (s : Int), m + k = x.Segments.length → rng (R := DStore × Int) (fun k (s : Int × List (List DVersion)) => spec_ReclaimStore_b1 y k s.1 s.2) m k (cut64 s 0, reclaimL y (x.Segments.take k) ++ x.Segments.drop k) = .inr ((x.Segments.drop k).foldl (fun (s : Int) l => cut64 s (l.length - (l.filter (needB y)).length)) (cut64 s 0), reclaimL y x.Segments) := by
    intro m
    induction m with
    | zero => intro k s hk; rw [rng, List.drop_of_length_le (by omega), List.take_of_length_le (by omega)]; simp
    | succ m ih =>
      intro k s hk
      have hlt : k < x.Segments.length := by omega
      have hd : x.Segments.drop k = gt x.Segments k :: x.Segments.drop (k + 1) := by rw [List.drop_eq_getElem_cons hlt, gt_at hlt]
      have hl : (reclaimL y (x.Segments.take k)).length = k := by simp [reclaimL]; omega
      have hg : gt (reclaimL y (x.Segments.take k) ++ x.Segments.drop k) k = gt x.Segments k := by
        rw [hd]
        exact gt_mid hl
      rw [rng, spec_Reclaim_b1_form, hg]
      show rng _ m (k + 1) _ = _
      have hs : (reclaimL y (x.Segments.take k) ++ x.Segments.drop k).set k ((gt x.Segments k).filter (needB y)) = reclaimL y (x.Segments.take (k + 1)) ++ x.Segments.drop (k + 1) := by
        rw [hd, List.set_append_right _ _ (by omega), hl, Nat.sub_self, List.set_cons_zero, List.take_add_one, List.getElem?_eq_getElem hlt, ← gt_at hlt]
        simp [reclaimL]
      have e3 : ∀ n, cut64 s n = cut64 (cut64 s n) 0 := fun n => by rw [cut64_add, Nat.add_zero]
      rw [hs, e3, ih (k + 1) _ (by omega), hd, List.foldl_cons]
      congr 2
      rw [cut64_add, cut64_add, Nat.zero_add, Nat.add_zero]
  have h1 := key (x.Segments.length - 0) 0 0 (by omega)
  rw [List.take_zero, List.drop_zero] at h1
  have h2 : reclaimL y [] ++ x.Segments = x.Segments := rfl
  rw [h2] at h1
  rw [h1, (reclaim_sum y x.Segments).2]
  rfl
def okS (now : Int) (seen : List DVersion) (v : DVersion) : Bool := spec_l7Version_m v now && seen.all fun w => spec_l7Apart_m v w
def okI (now : Int) (seen : List DVersion) (v : DVersion) : Bool := spec_l7Version_m v now && seen.all fun w => !(v.Id == w.Id && impl_meetInTime_m v w)
def seenF (ok : List DVersion → DVersion → Bool) : List DVersion → List DVersion → Bool
  | _, [] => true
  | seen, v :: l => ok seen v && seenF ok (seen ++ [v]) l
theorem seenF_append (ok : List DVersion → DVersion → Bool) : ∀ (s t seen : List DVersion), seenF ok seen (s ++ t) = (seenF ok seen s && seenF ok (seen ++ s) t)
  | [], t, seen => by simp [seenF]
  | v :: s, t, seen => by
    show (ok seen v && seenF ok (seen ++ [v]) (s ++ t)) = _
    rw [seenF_append ok s t]
    simp [seenF, Bool.and_assoc]
theorem chkF_seen (ok : List DVersion → DVersion → Bool) : ∀ (l seen : List DVersion), chkF (fun d v => ok d v) (fun d v => d ++ [v]) l seen = cond (seenF ok seen l) (some (seen ++ l)) none
  | [], seen => by simp [chkF, seenF]
  | v :: l, seen => by
    rw [chkF, chkF_seen ok l]
    show _ = cond (ok seen v && seenF ok (seen ++ [v]) l) _ _
    cases ok seen v <;> simp
theorem Version_eq (v : DVersion) (now : Int) : spec_l7Version_m v now = (spec_IsRow_m (⟨v.Id, v.Values⟩ : DRow) && decide (0 ≤ v.Born ∧ v.Born ≤ now) && (v.Died == (-1) || decide (IntKind.i64.wrap (v.Born + 1) ≤ v.Died ∧ v.Died ≤ now))) := by
  unfold spec_l7Version_m
  rw [spec_l1In_iff, spec_l1In_iff]
  cases spec_IsRow_m (⟨v.Id, v.Values⟩ : DRow) <;> cases decide (0 ≤ v.Born ∧ v.Born ≤ now) <;> cases v.Died == (-1) <;> rfl
theorem impl_Store_b34 (x : DStore) (i j : Nat) (d : List DVersion) : rng (R := Bool) (fun k (_ : Unit) => impl_IsStore_b3 x i j d k) (d.length - 0) 0 () = cond (d.all fun w => !((gt (gt x.Segments i) j).Id == w.Id && impl_meetInTime_m (gt (gt x.Segments i) j) w)) (.inr ()) (.inl false) :=
  rng_allB fun k _ => by
    unfold impl_IsStore_b3
    cases (gt (gt x.Segments i) j).Id == (gt d k).Id <;> cases impl_meetInTime_m (gt (gt x.Segments i) j) (gt d k) <;> rfl
theorem impl_Store_b2 (x : DStore) (i j : Nat) (d : List DVersion) : impl_IsStore_b2 x i j d = cond (okI x.Now d (gt (gt x.Segments i) j)) (.inr (d ++ [gt (gt x.Segments i) j])) (.inl false) := by
  have h4 : (fun k (_ : Unit) => impl_IsStore_b4 x i j d k) = fun k (_ : Unit) => impl_IsStore_b3 x i j d k := rfl
  unfold impl_IsStore_b2 okI
  rw [h4, impl_Store_b34, Version_eq, impl_within_iff, impl_within_iff]
  have hr : impl_IsRow_m (impl_rowOf_m (gt (gt x.Segments i) j)) = spec_IsRow_m (⟨(gt (gt x.Segments i) j).Id, (gt (gt x.Segments i) j).Values⟩ : DRow) := rfl
  rw [hr]
  have hn : ((gt (gt x.Segments i) j).Died != (-1)) = !((gt (gt x.Segments i) j).Died == (-1)) := rfl
  rw [hn]
  cases spec_IsRow_m (⟨(gt (gt x.Segments i) j).Id, (gt (gt x.Segments i) j).Values⟩ : DRow) <;> cases decide (0 ≤ (gt (gt x.Segments i) j).Born ∧ (gt (gt x.Segments i) j).Born ≤ x.Now) <;> cases (gt (gt x.Segments i) j).Died == (-1) <;>
    cases decide (IntKind.i64.wrap ((gt (gt x.Segments i) j).Born + 1) ≤ (gt (gt x.Segments i) j).Died ∧ (gt (gt x.Segments i) j).Died ≤ x.Now) <;> cases (d.all fun w => !((gt (gt x.Segments i) j).Id == w.Id && impl_meetInTime_m (gt (gt x.Segments i) j) w)) <;> rfl
theorem impl_Store_b1 (x : DStore) (i : Nat) (d : List DVersion) : impl_IsStore_b1 x i d = cond (decide ((gt x.Segments i).length ≤ 4) && seenF (okI x.Now) d (gt x.Segments i)) (.inr (d ++ gt x.Segments i)) (.inl false) := by
  unfold impl_IsStore_b1
  rw [rng_chk (xs := gt x.Segments i) (r := false) (c := fun d v => okI x.Now d v) (f := fun d v => d ++ [v]) (fun j s _ => impl_Store_b2 x i j s), chkF_seen]
  by_cases h : (gt x.Segments i).length ≤ 4
  · rw [decide_eq_true h, decide_eq_false (show ¬ 4 < ((gt x.Segments i).length : Int) by omega)]
    cases seenF (okI x.Now) d (gt x.Segments i) <;> rfl
  · rw [decide_eq_false h, decide_eq_true (show 4 < ((gt x.Segments i).length : Int) by omega)]
    rfl
theorem chkF_segs (ok : List DVersion → DVersion → Bool) : ∀ (l : List (List DVersion)) (d : List DVersion), chkF (fun d s => decide (s.length ≤ 4) && seenF ok d s) (fun d s => d ++ s) l d = cond (l.all (fun s => decide (s.length ≤ 4)) && seenF ok d l.flatten) (some (d ++ l.flatten)) none
  | [], d => by simp [chkF, seenF]
  | s :: l, d => by
    rw [chkF, chkF_segs ok l, List.flatten_cons, seenF_append, List.all_cons]
    cases decide (s.length ≤ 4) <;> cases seenF ok d s <;> cases l.all (fun s => decide (s.length ≤ 4)) <;> simp
def storeB (ok : List DVersion → DVersion → Bool) (x : DStore) : Bool := decide (1 ≤ (x.Segments.length : Int) ∧ (x.Segments.length : Int) ≤ 8) && decide (0 ≤ x.Now ∧ x.Now ≤ 100000) && x.Segments.all (fun s => decide (s.length ≤ 4)) && seenF ok [] x.Segments.flatten
theorem impl_IsStore_form (x : DStore) : impl_IsStore_m x = storeB (okI x.Now) x := by
  unfold impl_IsStore_m storeB
  rw [rng_chk (xs := x.Segments) (r := false) (c := fun d s => decide (s.length ≤ 4) && seenF (okI x.Now) d s) (f := fun d s => d ++ s) (fun j s _ => impl_Store_b1 x j s), chkF_segs, impl_within_iff, impl_within_iff]
  cases decide (1 ≤ (x.Segments.length : Int) ∧ (x.Segments.length : Int) ≤ 8) <;> cases decide (0 ≤ x.Now ∧ x.Now ≤ 100000) <;> cases x.Segments.all (fun s => decide (s.length ≤ 4)) <;> cases seenF (okI x.Now) [] x.Segments.flatten <;> rfl
theorem foldl_flat {α : Type} : ∀ (l : List (List α)) (d : List α), l.foldl (fun d s => d ++ s) d = d ++ l.flatten
  | [], d => by simp
  | s :: l, d => by rw [List.foldl_cons, foldl_flat l]; simp
theorem l7All_form (x : DStore) : spec_l7All_m x = x.Segments.flatten := by
  unfold spec_l7All_m
  rw [rng_fold (xs := x.Segments) (f := fun d s => d ++ s) (b := fun k s => spec_l7All_b1 x k s) (fun j s _ => rfl), foldl_flat]
  rfl
theorem seen_idx (now : Int) (l : List DVersion) (b : Nat → Unit → Bool ⊕ Unit) (hb : ∀ i, i < l.length → b i () = cond (okS now (l.take i) (gt l i)) (.inr ()) (.inl false)) : rng b (l.length - 0) 0 () = cond (seenF (okS now) [] l) (.inr ()) (.inl false) := by
  have h : ∀ m k, m + k = l.length → rng b m k () = cond (seenF (okS now) (l.take k) (l.drop k)) (.inr ()) (.inl false) := by
    intro m
    induction m with
    | zero => intro k hk; rw [rng, List.drop_of_length_le (by omega)]; rfl
    | succ m ih =>
      intro k hk
      have hlt : k < l.length := by omega
      rw [rng, hb k hlt, List.drop_eq_getElem_cons hlt, ← gt_at hlt]
      show _ = cond (okS now (l.take k) (gt l k) && seenF (okS now) (l.take k ++ [gt l k]) (l.drop (k + 1))) _ _
      have ht : l.take k ++ [gt l k] = l.take (k + 1) := by rw [List.take_add_one, List.getElem?_eq_getElem hlt, ← gt_at hlt]; rfl
      rw [ht]
      cases okS now (l.take k) (gt l k) with
      | true => exact ih (k + 1) (by omega)
      | false => rfl
  have := h (l.length - 0) 0 (by omega)
  simpa using this
theorem spec_IsStore_form (x : DStore) : spec_IsStore_m x = storeB (okS x.Now) x := by
  unfold spec_IsStore_m storeB
  rw [rng_allB (xs := x.Segments) (r := false) (p := fun s => decide (s.length ≤ 4)) (fun j _ => by
    unfold spec_IsStore_b1
    by_cases h : (gt x.Segments j).length ≤ 4
    · rw [decide_eq_true h, decide_eq_false (show ¬ 4 < ((gt x.Segments j).length : Int) by omega)]; rfl
    · rw [decide_eq_false h, decide_eq_true (show 4 < ((gt x.Segments j).length : Int) by omega)]; rfl)]
  rw [seen_idx x.Now (spec_l7All_m x) _ (fun i hi => by
    show spec_IsStore_b2 x i = _
    unfold spec_IsStore_b2 okS
    rw [rng_take (xs := spec_l7All_m x) (Nat.le_of_lt hi), rng_allB (xs := (spec_l7All_m x).take i) (r := false) (p := fun w => spec_l7Apart_m (gt (spec_l7All_m x) i) w) (fun k hk => by
      rw [List.length_take] at hk
      rw [gt_take (by omega)]
      rfl)]
    cases spec_l7Version_m (gt (spec_l7All_m x) i) x.Now <;> cases ((spec_l7All_m x).take i).all (fun w => spec_l7Apart_m (gt (spec_l7All_m x) i) w) <;> rfl), l7All_form, spec_l1In_iff, spec_l1In_iff]
  cases decide (1 ≤ (x.Segments.length : Int) ∧ (x.Segments.length : Int) ≤ 8) <;> cases decide (0 ≤ x.Now ∧ x.Now ≤ 100000) <;> cases x.Segments.all (fun s => decide (s.length ≤ 4)) <;> cases seenF (okS x.Now) [] x.Segments.flatten <;> rfl
theorem Version_ord {v : DVersion} {now : Int} (hn : now ≤ 100000) (h : spec_l7Version_m v now = true) : 0 ≤ v.Born ∧ v.Born ≤ now ∧ (v.Died = -1 ∨ (v.Born + 1 ≤ v.Died ∧ v.Died ≤ now)) := by
  rw [Version_eq] at h
  simp only [Bool.and_eq_true, Bool.or_eq_true, decide_eq_true_eq, beq_iff_eq] at h
  obtain ⟨⟨_, h1, h2⟩, h3⟩ := h
  rw [wrap_id (by omega) (by omega)] at h3
  exact ⟨h1, h2, h3⟩
theorem Visible_eq (v : DVersion) (t : Int) : impl_IsVisible_m v t = decide (v.Born ≤ t ∧ (v.Died = -1 ∨ t < v.Died)) := by
  unfold impl_IsVisible_m
  by_cases h1 : v.Born ≤ t <;> by_cases h2 : v.Died = -1 <;> by_cases h3 : t < v.Died <;> simp [h1, h2, h3]
theorem Apart_eq (v w : DVersion) : spec_l7Apart_m v w = decide (v.Id ≠ w.Id ∨ (v.Died ≠ -1 ∧ v.Died ≤ w.Born) ∨ (w.Died ≠ -1 ∧ w.Died ≤ v.Born)) := by
  unfold spec_l7Apart_m
  by_cases h1 : v.Id = w.Id <;> by_cases h2 : v.Died = -1 <;> by_cases h3 : w.Died = -1 <;> by_cases h4 : v.Died ≤ w.Born <;> simp [h1, h2, h3, h4] <;> (try rw [h2] at h4) <;> (try simp_all) <;> (try rfl)
theorem apart_meet {v w : DVersion} {now : Int} (hn : now ≤ 100000) (hv : spec_l7Version_m v now = true) (hw : spec_l7Version_m w now = true) : spec_l7Apart_m v w = !(v.Id == w.Id && impl_meetInTime_m v w) := by
  obtain ⟨a1, a2, a3⟩ := Version_ord hn hv
  obtain ⟨b1, b2, b3⟩ := Version_ord hn hw
  have hm : impl_meetInTime_m v w = decide ((v.Born ≤ w.Born ∧ (v.Died = -1 ∨ w.Born < v.Died)) ∨ (w.Born ≤ v.Born ∧ (w.Died = -1 ∨ v.Born < w.Died))) := by
    unfold impl_meetInTime_m
    rw [Visible_eq, Visible_eq]
    by_cases h1 : (v.Born ≤ w.Born ∧ (v.Died = -1 ∨ w.Born < v.Died)) <;> by_cases h2 : (w.Born ≤ v.Born ∧ (w.Died = -1 ∨ v.Born < w.Died)) <;> simp [h1, h2]
  rw [hm, Apart_eq]
  have hb : (v.Id == w.Id) = decide (v.Id = w.Id) := by by_cases h : v.Id = w.Id <;> simp [h]
  rw [hb, ← Bool.decide_and, ← decide_not]
  apply decide_eq_decide.2
  omega
theorem seenF_same {now : Int} (hn : now ≤ 100000) : ∀ (l seen : List DVersion), (∀ w ∈ seen, spec_l7Version_m w now = true) → seenF (okI now) seen l = seenF (okS now) seen l
  | [], _, _ => rfl
  | v :: l, seen, hs => by
    show (okI now seen v && seenF (okI now) (seen ++ [v]) l) = (okS now seen v && seenF (okS now) (seen ++ [v]) l)
    unfold okI okS
    cases hv : spec_l7Version_m v now with
    | false => rfl
    | true =>
      have e : (seen.all fun w => !(v.Id == w.Id && impl_meetInTime_m v w)) = seen.all fun w => spec_l7Apart_m v w := by
        rw [Bool.eq_iff_iff, List.all_eq_true, List.all_eq_true]
        exact ⟨fun h w hw => by rw [apart_meet hn hv (hs w hw)]; exact h w hw, fun h w hw => by rw [← apart_meet hn hv (hs w hw)]; exact h w hw⟩
      have ih := seenF_same hn l (seen ++ [v]) (fun w hw => by
        rcases List.mem_append.1 hw with h | h
        · exact hs w h
        · rw [List.mem_singleton.1 h]; exact hv)
      unfold okI okS at ih
      rw [e, ih]
theorem IsStore_same (x : DStore) : impl_IsStore_m x = spec_IsStore_m x := by
  rw [impl_IsStore_form, spec_IsStore_form]
  unfold storeB
  by_cases h : 0 ≤ x.Now ∧ x.Now ≤ 100000
  · rw [seenF_same h.2 _ [] (fun w hw => by cases hw)]
  · rw [decide_eq_false h, Bool.and_false, Bool.false_and]
    rfl
theorem ReclaimStore_same (x : DStore) (y : List Int) : impl_ReclaimStore_m x y = spec_ReclaimStore_m x y := by
  cases h : spec_IsStore_m x with
  | true => rw [impl_Reclaim_form x y (by rw [IsStore_same]; exact h), spec_Reclaim_form x y h]
  | false =>
    unfold impl_ReclaimStore_m spec_ReclaimStore_m
    rw [IsStore_same, h]
    rfl
theorem reclaimL_wt (y : List Int) (d : List (List DVersion)) : wtS (wtS wtVersion) (reclaimL y d) ≤ wtS (wtS wtVersion) d := wtS_map (wtS wtVersion) (wtS wtVersion) _ (fun l => wtS_filter _ _ _) d
theorem ReclaimStore_wt (x : DStore) (y : List Int) : wtStore (impl_ReclaimStore_m x y).1 ≤ wtStore x := by
  cases h : impl_IsStore_m x with
  | true =>
    rw [impl_Reclaim_form x y h]
    exact reclaimL_wt y x.Segments
  | false =>
    unfold impl_ReclaimStore_m
    rw [h]
    exact Nat.le_refl _
theorem FindActive_same (x : DEngine) (i : Int) : impl_FindActive_m x i = spec_FindActive_m x i := rfl
theorem within_same2 : impl_within_m = spec_l1In_m := rfl
theorem IsCond_same (x : DCond) : impl_IsCond_m x = spec_IsCond_m x := by
  unfold impl_IsCond_m spec_IsCond_m
  rw [isField_same, spec_l1In_iff x.Low]
  simp only [cb_and, Bool.decide_and, Bool.and_assoc]
theorem IsQuery_same (x : DQuery) : impl_IsQuery_m x = spec_IsQuery_m x := by
  unfold impl_IsQuery_m spec_IsQuery_m spec_l4Fields_m
  have h1 : (fun k (_ : Unit) => impl_IsQuery_b1 x k) = fun k (_ : Unit) => spec_IsQuery_b1 x k := by
    funext k u; unfold impl_IsQuery_b1 spec_IsQuery_b1; rw [IsCond_same]
  have h2 : (fun k (_ : Unit) => impl_IsQuery_b2 x k) = fun k (_ : Unit) => spec_l4Fields_b1 x.Out k := rfl
  rw [h1, h2]
  rw [rng_allN (b := fun k (_ : Unit) => spec_IsQuery_b1 x k) (p := fun k => spec_IsQuery_b1 x k == .inr ()) (r := false) (fun k _ => by
    unfold spec_IsQuery_b1
    cases spec_IsCond_m (gt x.Conds k) <;> cases decide (0 < ((k : Nat) : Int)) <;> cases decide ((gt x.Conds k).Field ≤ (gt x.Conds (k - 1)).Field) <;> rfl)]
  rw [rng_allN (b := fun k (_ : Unit) => spec_l4Fields_b1 x.Out k) (p := fun k => spec_l4Fields_b1 x.Out k == .inr ()) (r := false) (fun k _ => by
    unfold spec_l4Fields_b1
    cases spec_l1In_m (gt x.Out k) 0 2 <;> rfl)]
  simp only [within_same2, cb_rng, cb_and, cb_nand, cb_lt, Bool.not_not]
  ac_rfl
theorem allRows_same (x : List DRow) : impl_resultOk_m x = spec_l9List_m x := by
  unfold impl_resultOk_m spec_l9List_m impl_allRows_m
  have h1 : (fun k (_ : Unit) => impl_allRows_b1 x k) = fun k (_ : Unit) => spec_l9List_b1 x k := rfl
  rw [h1, rng_allN (p := fun k => spec_l9List_b1 x k == .inr ()) (r := false) (fun k _ => by
    unfold spec_l9List_b1
    cases spec_IsRow_m (gt x k) <;> rfl)]
  simp only [cb_rng, cb_and, Bool.and_true]
  ac_rfl
theorem activeOk_same (e : DEngine) (x : DActive) : impl_activeOk_m e.Store x = spec_l9Active_m e x := by
  unfold impl_activeOk_m spec_l9Active_m spec_l9Todo_m
  have h1 : (fun k (_ : Unit) => impl_activeOk_b1 e.Store x k) = fun k (_ : Unit) => spec_l9Todo_b1 x.Todo ((e.Store.Segments.length : Nat) : Int) k := rfl
  rw [h1, rng_allN (p := fun k => spec_l9Todo_b1 x.Todo ((e.Store.Segments.length : Nat) : Int) k == .inr ()) (r := false) (fun k _ => by
    unfold spec_l9Todo_b1
    cases spec_l1In_m (gt x.Todo k) 0 (IntKind.i64.wrap (((e.Store.Segments.length : Nat) : Int) - 1)) <;> cases decide (0 < ((k : Nat) : Int)) <;> cases decide (gt x.Todo k ≤ gt x.Todo (k - 1)) <;> rfl)]
  rw [IsQuery_same, allRows_same]
  simp only [within_same2, cb_rng, cb_and]
  ac_rfl
theorem hasInt_any (x : List Int) (i : Int) : impl_hasInt_m x i = x.any fun y => y == i := by
  unfold impl_hasInt_m
  rw [rng_any (p := fun y => y == i) (r := true) (fun j _ => rfl)]
  cases x.any fun y => y == i <;> rfl
theorem l1In_and (x a b : Int) : spec_l1In_m x a b = (decide (a ≤ x) && decide (x ≤ b)) := by
  unfold spec_l1In_m
  rw [cb_and]
theorem isOrder_same (x : List Int) : impl_isOrder_m x = spec_l6Order_m x := by
  unfold impl_isOrder_m spec_l6Order_m
  rw [rng_allN (n := 3) (p := fun k => impl_hasInt_m x k) (r := false) (fun k _ => rfl)]
  rw [rng_allN (p := fun k => spec_l1In_m (gt x k) 0 2 && !spec_HasMember_m (List.take k x) (gt x k)) (r := false) (fun k _ => by
    unfold spec_l6Order_b1
    cases spec_l1In_m (gt x k) 0 2 <;> cases spec_HasMember_m (List.take k x) (gt x k) <;> rfl)]
  have hm : ∀ (y : List Int) (i : Int), spec_HasMember_m y i = y.any fun z => z == i := hasInt_any
  by_cases h : x.length = 3
  · match x, h with
    | [a, b, c], _ =>
      simp only [hasInt_any, hm, l1In_and]
      have h3 : List.range 3 = [0, 1, 2] := rfl
      have h8 : [a, b, c].length = 3 := rfl
      have e0 : gt [a, b, c] 0 = a := rfl
      have e1 : gt [a, b, c] 1 = b := rfl
      have e2 : gt [a, b, c] 2 = c := rfl
      rw [h8, h3]
      simp only [List.all_cons, List.all_nil]
      rw [e0, e1, e2]
      simp only [List.any_cons, List.any_nil, List.take]
      simp only [cb_rng, cb_nand, Bool.and_true, Bool.or_false, Bool.not_false]
      rw [Bool.eq_iff_iff]
      simp only [Bool.and_eq_true, Bool.or_eq_true, beq_iff_eq, decide_eq_true_eq, Bool.not_eq_true', Bool.or_eq_false_iff, beq_eq_false_iff_ne, bne, ne_eq]
      have h4 : ((3 : Nat) : Int) = 3 := rfl
      have h5 : ((0 : Nat) : Int) = 0 := rfl
      have h6 : ((1 : Nat) : Int) = 1 := rfl
      have h7 : ((2 : Nat) : Int) = 2 := rfl
      simp only [h4, h5, h6, h7, beq_self_eq_true, Bool.not_true, and_true, true_and]
      constructor <;> intro h <;> omega
  · have h1 : (((x.length : Nat) : Int) == 3) = false := beq_eq_false_iff_ne.2 (by omega)
    have h2 : (((x.length : Nat) : Int) != 3) = true := bne_iff_ne.2 (by omega)
    rw [h1, h2]
    cases (List.range 3).all fun k => impl_hasInt_m x k <;> rfl
theorem IsEngine_same (x : DEngine) : impl_IsEngine_m x = spec_IsEngine_m x := by
  unfold impl_IsEngine_m spec_IsEngine_m
  have h1 : (fun k (_ : Unit) => impl_IsEngine_b1 x k) = fun k (_ : Unit) => spec_IsEngine_b1 x k := by
    funext k u; unfold impl_IsEngine_b1 spec_IsEngine_b1; rw [activeOk_same]
  have h2 : (fun k (_ : Unit) => impl_IsEngine_b2 x k) = fun k (_ : Unit) => spec_IsEngine_b2 x k := by
    funext k u; unfold impl_IsEngine_b2 spec_IsEngine_b2; rw [IsQuery_same, allRows_same]; rfl
  have h3 : (fun k (_ : Unit) => impl_IsEngine_b3 x k) = fun k (_ : Unit) => spec_IsEngine_b3 x k := by
    funext k u; unfold impl_IsEngine_b3 spec_IsEngine_b3; rw [IsCharge_same]
  rw [h1, h2, h3, IsStore_same, isOrder_same]
  generalize Sum.elim id _ (rng (R := Bool) (fun k (_ : Unit) => spec_IsEngine_b1 x k) (x.Active.length - 0) 0 ()) = t
  simp only [within_same2, cb_and, cb_nand]
  ac_rfl
theorem cond_tf {b x : Bool} (h : cond b x false = true) : b = true ∧ x = true := by
  cases b
  · cases h
  · exact ⟨rfl, h⟩
theorem cond_ft {b x : Bool} (h : cond b false x = true) : b = false ∧ x = true := by
  cases b
  · exact ⟨rfl, h⟩
  · cases h
theorem spec_Engine_len {x : DEngine} (h : spec_IsEngine_m x = true) : x.Active.length ≤ 8 := by
  unfold spec_IsEngine_m at h
  have h7 := (cond_ft (cond_tf (cond_tf (cond_tf h).2).2).2).1
  have := of_decide_eq_false h7
  omega
theorem reclaimed_same (e : DEngine) : impl_reclaimed_m e = spec_l9Reclaim_m e := by
  unfold impl_reclaimed_m spec_l9Reclaim_m
  rw [rng_fold (R := DEngine) (xs := e.Active) (f := fun d a => d ++ [a.Time]) (b := fun k s => impl_reclaimed_b1 e k s) (fun _ _ _ => rfl), rng_fold (R := DEngine) (xs := e.Active) (f := fun d a => d ++ [a.Time]) (b := fun k s => spec_l9Reclaim_b1 e k s) (fun _ _ _ => rfl)]
  show (⟨(impl_ReclaimStore_m e.Store _).1, _, _, _, _, _, _⟩ : DEngine) = _
  rw [ReclaimStore_same]
  rfl
theorem reclaimed_wt (e : DEngine) : wtEngine (impl_reclaimed_m e) ≤ wtEngine e := by
  unfold impl_reclaimed_m
  rw [rng_fold (R := DEngine) (xs := e.Active) (f := fun d a => d ++ [a.Time]) (b := fun k s => impl_reclaimed_b1 e k s) (fun _ _ _ => rfl)]
  have h := ReclaimStore_wt e.Store (e.Active.foldl (fun d a => d ++ [a.Time]) [])
  show wtEngine (⟨(impl_ReclaimStore_m e.Store _).1, e.Cursor, e.Order, e.Active, e.Done, e.Ledger, e.Steps⟩ : DEngine) ≤ _
  unfold wtEngine
  dsimp only
  omega
theorem CancelQuery_same (x : DEngine) (i : Int) : impl_CancelQuery_m x i = spec_CancelQuery_m x i := by
  unfold impl_CancelQuery_m spec_CancelQuery_m
  rw [IsEngine_same, FindActive_same, reclaimed_same]
theorem wtS_dropLe {α : Type} (w : α → Nat) (n : Nat) (xs : List α) : wtS w (xs.drop n) ≤ wtS w xs := by
  have e : wtS w xs = wtS w (xs.take n) + wtS w (xs.drop n) := by rw [← wtS_append, List.take_append_drop]
  omega
theorem wtS_cut {α : Type} (w : α → Nat) {k k2 : Nat} (hk : k ≤ k2) (xs : List α) : wtS w (xs.take k ++ xs.drop k2) ≤ wtS w xs := by
  have e : wtS w xs = wtS w (xs.take k) + wtS w (xs.drop k) := by rw [← wtS_append, List.take_append_drop]
  have h := wtS_dropLe w (k2 - k) (xs.drop k)
  rw [List.drop_drop, show k + (k2 - k) = k2 by omega] at h
  rw [wtS_append]
  omega
theorem CancelQuery_wt (x : DEngine) (i : Int) : wtEngine (impl_CancelQuery_m x i).1 ≤ wtEngine x := by
  unfold impl_CancelQuery_m
  cases hE : impl_IsEngine_m x with
  | false => exact Nat.le_refl _
  | true =>
    cases hf : decide (impl_FindActive_m x i < 0) with
    | true => exact Nat.le_refl _
    | false =>
      have hf0 := of_decide_eq_false hf
      have h8 := spec_Engine_len (x := x) (by rw [← IsEngine_same]; exact hE)
      have hfa := impl_FindActive_lt x i
      have hwf := wrap_id (n := impl_FindActive_m x i + 1) (by omega) (by omega)
      refine Nat.le_trans (reclaimed_wt _) ?_
      have h := wtS_cut wtActive (k := (impl_FindActive_m x i).toNat) (k2 := (IntKind.i64.wrap (impl_FindActive_m x i + 1)).toNat) (by omega) x.Active
      unfold wtEngine
      dsimp only
      omega
theorem law_CancelQuery (x : DEngine) (i : Int) (ok : smEngine 9223372036854775807 x) : laws_FnExactCancelQuery_m x i = true := by
  unfold laws_FnExactCancelQuery_m
  rw [laws_toEngine_eq, ← CancelQuery_same, laws_eqEngine_refl, bne_self_eq_false, laws_eqEngine_refl]
  cases hs : decide (laws_szEngine_m x 1048576 < 0) with
  | true => rfl
  | false =>
    obtain ⟨h1, h1b, h1c⟩ := sz_small laws_szEngine_ok ok (by omega) (by omega) hs
    have hi := CancelQuery_wt x i
    have q1 := laws_markEngine_ok.go x 1 (by omega) (by omega)
    obtain ⟨p2, _, r2⟩ := laws_markEngine_ok.go (impl_CancelQuery_m x i).1 1 (by omega) (by omega)
    have r3 : laws_heldEngine_m (⟨(⟨(laws_markEngine_m (impl_CancelQuery_m x i).1 1).2.Store.Segments, (impl_CancelQuery_m x i).1.Store.Now⟩ : DStore), (impl_CancelQuery_m x i).1.Cursor, (laws_markEngine_m (impl_CancelQuery_m x i).1 1).2.Order, (laws_markEngine_m (impl_CancelQuery_m x i).1 1).2.Active, (laws_markEngine_m (impl_CancelQuery_m x i).1 1).2.Done, (laws_markEngine_m (impl_CancelQuery_m x i).1 1).2.Ledger, (impl_CancelQuery_m x i).1.Steps⟩ : DEngine) 1 = (laws_markEngine_m (impl_CancelQuery_m x i).1 1).1 := r2
    rw [r3, decide_eq_false (by omega), decide_eq_false (by omega), bne_self_eq_false]
    rfl

end Go.Proofs.YtmikmbmdibabmaaGreat
