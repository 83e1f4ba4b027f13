/-
  The program and the reference compute the same: plain laws over what the walks showed.
-/
import Derived.Test.YtmikmbmdibabmaaGreatL7Law
namespace Go.Proofs.YtmikmbmdibabmaaGreat
open Go.RowKit
theorem within_same (x a b : Int) : impl_within_m x a b = spec_l1In_m x a b := rfl
theorem IsSet_b_same (x : List Int) (k : Nat) : impl_IsSet_b1 x k = spec_IsSet_b1 x k := by
  unfold impl_IsSet_b1 spec_IsSet_b1 spec_l1In_m
  by_cases h1 : gt x k < 0
  · have h2 : ¬ 0 ≤ gt x k := by omega
    simp only [decide_eq_true h1, decide_eq_false h2, cond_true, cond_false]
  · have h2 : 0 ≤ gt x k := by omega
    by_cases h3 : 24 ≤ gt x k
    · have h4 : ¬ gt x k ≤ 23 := by omega
      simp only [decide_eq_false h1, decide_eq_true h2, decide_eq_true h3, decide_eq_false h4, cond_true, cond_false]
    · have h4 : gt x k ≤ 23 := by omega
      simp only [decide_eq_false h1, decide_eq_true h2, decide_eq_false h3, decide_eq_true h4, cond_true, cond_false]
theorem IsSet_same (x : List Int) : impl_IsSet_m x = spec_IsSet_m x := by
  unfold impl_IsSet_m spec_IsSet_m
  simp only [IsSet_b_same]
theorem IsCharge_b_same (x : DCharge) (k : Nat) : impl_IsCharge_b1 x k = spec_IsCharge_b1 x k := rfl
theorem IsCharge_b_two (x : DCharge) (k : Nat) : spec_IsCharge_b1 x k = .inr () ∨ spec_IsCharge_b1 x k = .inl false := by
  unfold spec_IsCharge_b1
  cases spec_l1In_m (gt x.Tenants k) 0 3 <;> cases spec_l1In_m (gt x.Rows k) 0 x.Base <;> simp
theorem IsCharge_same (x : DCharge) : impl_IsCharge_m x = spec_IsCharge_m x := by
  unfold impl_IsCharge_m spec_IsCharge_m
  rw [IsSet_same]
  simp only [IsCharge_b_same, within_same]
  have h8 : spec_l1In_m ((x.Ids.length : Nat) : Int) 1 8 = cond (((x.Ids.length : Nat) : Int) == 0) false (cond (decide (8 < ((x.Ids.length : Nat) : Int))) false true) := by
    unfold spec_l1In_m
    by_cases h1 : ((x.Ids.length : Nat) : Int) = 0
    · rw [beq_iff_eq.2 h1, decide_eq_false (show ¬ 1 ≤ ((x.Ids.length : Nat) : Int) by omega)]; rfl
    · rw [beq_eq_false_iff_ne.2 h1, decide_eq_true (show 1 ≤ ((x.Ids.length : Nat) : Int) by omega)]
      by_cases h2 : 8 < ((x.Ids.length : Nat) : Int)
      · rw [decide_eq_true h2, decide_eq_false (show ¬ ((x.Ids.length : Nat) : Int) ≤ 8 by omega)]; rfl
      · rw [decide_eq_false h2, decide_eq_true (show ((x.Ids.length : Nat) : Int) ≤ 8 by omega)]; rfl
  rw [h8]
  have hr := rng_bool (n := 0) (b := fun k (_ : Unit) => spec_IsCharge_b1 x k) (IsCharge_b_two x) (x.Ids.length - 0) 0
  rcases hr with hr | hr <;> rw [hr] <;> cases spec_IsSet_m x.Ids <;> cases (((x.Ids.length : Nat) : Int) == 0) <;> cases (decide (8 < ((x.Ids.length : Nat) : Int))) <;>
    cases (((x.Tenants.length : Nat) : Int) != ((x.Ids.length : Nat) : Int)) <;> cases (((x.Rows.length : Nat) : Int) != ((x.Ids.length : Nat) : Int)) <;> cases spec_l1In_m x.Segment 0 7 <;> cases spec_l1In_m x.Base 0 4 <;> rfl
theorem isField_same (x : Int) : impl_isField_m x = spec_l1In_m x 0 2 := rfl
def okS (now : Int) (seen : List DVersion) (v : DVersion) : Bool := spec_l7Version_m v now && seen.all fun w => spec_l7Apart_m v w
def okI (now : Int) (seen : List DVersion) (v : DVersion) : Bool := spec_l7Version_m v now && seen.all fun w => !(v.Id == w.Id && impl_meetInTime_m v w)
def seenF (ok : List DVersion → DVersion → Bool) : List DVersion → List DVersion → Bool
  | _, [] => true
  | seen, v :: l => ok seen v && seenF ok (seen ++ [v]) l
theorem seenF_append (ok : List DVersion → DVersion → Bool) : ∀ (s t seen : List DVersion), seenF ok seen (s ++ t) = (seenF ok seen s && seenF ok (seen ++ s) t)
  | [], t, seen => by simp [seenF]
  | v :: s, t, seen => by
    show (ok seen v && seenF ok (seen ++ [v]) (s ++ t)) = _
    rw [seenF_append ok s t]
    simp [seenF, Bool.and_assoc]
theorem chkF_seen (ok : List DVersion → DVersion → Bool) : ∀ (l seen : List DVersion), chkF (fun d v => ok d v) (fun d v => d ++ [v]) l seen = cond (seenF ok seen l) (some (seen ++ l)) none
  | [], seen => by simp [chkF, seenF]
  | v :: l, seen => by
    rw [chkF, chkF_seen ok l]
    show _ = cond (ok seen v && seenF ok (seen ++ [v]) l) _ _
    cases ok seen v <;> simp
theorem Version_eq (v : DVersion) (now : Int) : spec_l7Version_m v now = (spec_IsRow_m (⟨v.Id, v.Values⟩ : DRow) && decide (0 ≤ v.Born ∧ v.Born ≤ now) && (v.Died == (-1) || decide (IntKind.i64.wrap (v.Born + 1) ≤ v.Died ∧ v.Died ≤ now))) := by
  unfold spec_l7Version_m
  rw [spec_l1In_iff, spec_l1In_iff]
  cases spec_IsRow_m (⟨v.Id, v.Values⟩ : DRow) <;> cases decide (0 ≤ v.Born ∧ v.Born ≤ now) <;> cases v.Died == (-1) <;> rfl
theorem impl_Store_b34 (x : DStore) (i j : Nat) (d : List DVersion) : rng (R := Bool) (fun k (_ : Unit) => impl_IsStore_b3 x i j d k) (d.length - 0) 0 () = cond (d.all fun w => !((gt (gt x.Segments i) j).Id == w.Id && impl_meetInTime_m (gt (gt x.Segments i) j) w)) (.inr ()) (.inl false) :=
  rng_allB fun k _ => by
    unfold impl_IsStore_b3
    cases (gt (gt x.Segments i) j).Id == (gt d k).Id <;> cases impl_meetInTime_m (gt (gt x.Segments i) j) (gt d k) <;> rfl
theorem impl_Store_b2 (x : DStore) (i j : Nat) (d : List DVersion) : impl_IsStore_b2 x i j d = cond (okI x.Now d (gt (gt x.Segments i) j)) (.inr (d ++ [gt (gt x.Segments i) j])) (.inl false) := by
  have h4 : (fun k (_ : Unit) => impl_IsStore_b4 x i j d k) = fun k (_ : Unit) => impl_IsStore_b3 x i j d k := rfl
  unfold impl_IsStore_b2 okI
  rw [h4, impl_Store_b34, Version_eq, impl_within_iff, impl_within_iff]
  have hr : impl_IsRow_m (impl_rowOf_m (gt (gt x.Segments i) j)) = spec_IsRow_m (⟨(gt (gt x.Segments i) j).Id, (gt (gt x.Segments i) j).Values⟩ : DRow) := rfl
  rw [hr]
  have hn : ((gt (gt x.Segments i) j).Died != (-1)) = !((gt (gt x.Segments i) j).Died == (-1)) := rfl
  rw [hn]
  cases spec_IsRow_m (⟨(gt (gt x.Segments i) j).Id, (gt (gt x.Segments i) j).Values⟩ : DRow) <;> cases decide (0 ≤ (gt (gt x.Segments i) j).Born ∧ (gt (gt x.Segments i) j).Born ≤ x.Now) <;> cases (gt (gt x.Segments i) j).Died == (-1) <;>
    cases decide (IntKind.i64.wrap ((gt (gt x.Segments i) j).Born + 1) ≤ (gt (gt x.Segments i) j).Died ∧ (gt (gt x.Segments i) j).Died ≤ x.Now) <;> cases (d.all fun w => !((gt (gt x.Segments i) j).Id == w.Id && impl_meetInTime_m (gt (gt x.Segments i) j) w)) <;> rfl
theorem impl_Store_b1 (x : DStore) (i : Nat) (d : List DVersion) : impl_IsStore_b1 x i d = cond (decide ((gt x.Segments i).length ≤ 4) && seenF (okI x.Now) d (gt x.Segments i)) (.inr (d ++ gt x.Segments i)) (.inl false) := by
  unfold impl_IsStore_b1
  rw [rng_chk (xs := gt x.Segments i) (r := false) (c := fun d v => okI x.Now d v) (f := fun d v => d ++ [v]) (fun j s _ => impl_Store_b2 x i j s), chkF_seen]
  by_cases h : (gt x.Segments i).length ≤ 4
  · rw [decide_eq_true h, decide_eq_false (show ¬ 4 < ((gt x.Segments i).length : Int) by omega)]
    cases seenF (okI x.Now) d (gt x.Segments i) <;> rfl
  · rw [decide_eq_false h, decide_eq_true (show 4 < ((gt x.Segments i).length : Int) by omega)]
    rfl
theorem chkF_segs (ok : List DVersion → DVersion → Bool) : ∀ (l : List (List DVersion)) (d : List DVersion), chkF (fun d s => decide (s.length ≤ 4) && seenF ok d s) (fun d s => d ++ s) l d = cond (l.all (fun s => decide (s.length ≤ 4)) && seenF ok d l.flatten) (some (d ++ l.flatten)) none
  | [], d => by simp [chkF, seenF]
  | s :: l, d => by
    rw [chkF, chkF_segs ok l, List.flatten_cons, seenF_append, List.all_cons]
    cases decide (s.length ≤ 4) <;> cases seenF ok d s <;> cases l.all (fun s => decide (s.length ≤ 4)) <;> simp
def storeB (ok : List DVersion → DVersion → Bool) (x : DStore) : Bool := decide (1 ≤ (x.Segments.length : Int) ∧ (x.Segments.length : Int) ≤ 8) && decide (0 ≤ x.Now ∧ x.Now ≤ 100000) && x.Segments.all (fun s => decide (s.length ≤ 4)) && seenF ok [] x.Segments.flatten
theorem impl_IsStore_form (x : DStore) : impl_IsStore_m x = storeB (okI x.Now) x := by
  unfold impl_IsStore_m storeB
  rw [rng_chk (xs := x.Segments) (r := false) (c := fun d s => decide (s.length ≤ 4) && seenF (okI x.Now) d s) (f := fun d s => d ++ s) (fun j s _ => impl_Store_b1 x j s), chkF_segs, impl_within_iff, impl_within_iff]
  cases decide (1 ≤ (x.Segments.length : Int) ∧ (x.Segments.length : Int) ≤ 8) <;> cases decide (0 ≤ x.Now ∧ x.Now ≤ 100000) <;> cases x.Segments.all (fun s => decide (s.length ≤ 4)) <;> cases seenF (okI x.Now) [] x.Segments.flatten <;> rfl
theorem foldl_flat {α : Type} : ∀ (l : List (List α)) (d : List α), l.foldl (fun d s => d ++ s) d = d ++ l.flatten
  | [], d => by simp
  | s :: l, d => by rw [List.foldl_cons, foldl_flat l]; simp
theorem l7All_form (x : DStore) : spec_l7All_m x = x.Segments.flatten := by
  unfold spec_l7All_m
  rw [rng_fold (xs := x.Segments) (f := fun d s => d ++ s) (b := fun k s => spec_l7All_b1 x k s) (fun j s _ => rfl), foldl_flat]
  rfl
theorem seen_idx (now : Int) (l : List DVersion) (b : Nat → Unit → Bool ⊕ Unit) (hb : ∀ i, i < l.length → b i () = cond (okS now (l.take i) (gt l i)) (.inr ()) (.inl false)) : rng b (l.length - 0) 0 () = cond (seenF (okS now) [] l) (.inr ()) (.inl false) := by
  have h : ∀ m k, m + k = l.length → rng b m k () = cond (seenF (okS now) (l.take k) (l.drop k)) (.inr ()) (.inl false) := by
    intro m
    induction m with
    | zero => intro k hk; rw [rng, List.drop_of_length_le (by omega)]; rfl
    | succ m ih =>
      intro k hk
      have hlt : k < l.length := by omega
      rw [rng, hb k hlt, List.drop_eq_getElem_cons hlt, ← gt_at hlt]
      show _ = cond (okS now (l.take k) (gt l k) && seenF (okS now) (l.take k ++ [gt l k]) (l.drop (k + 1))) _ _
      have ht : l.take k ++ [gt l k] = l.take (k + 1) := by rw [List.take_add_one, List.getElem?_eq_getElem hlt, ← gt_at hlt]; rfl
      rw [ht]
      cases okS now (l.take k) (gt l k) with
      | true => exact ih (k + 1) (by omega)
      | false => rfl
  have := h (l.length - 0) 0 (by omega)
  simpa using this
theorem spec_IsStore_form (x : DStore) : spec_IsStore_m x = storeB (okS x.Now) x := by
  unfold spec_IsStore_m storeB
  rw [rng_allB (xs := x.Segments) (r := false) (p := fun s => decide (s.length ≤ 4)) (fun j _ => by
    unfold spec_IsStore_b1
    by_cases h : (gt x.Segments j).length ≤ 4
    · rw [decide_eq_true h, decide_eq_false (show ¬ 4 < ((gt x.Segments j).length : Int) by omega)]; rfl
    · rw [decide_eq_false h, decide_eq_true (show 4 < ((gt x.Segments j).length : Int) by omega)]; rfl)]
  rw [seen_idx x.Now (spec_l7All_m x) _ (fun i hi => by
    show spec_IsStore_b2 x i = _
    unfold spec_IsStore_b2 okS
    rw [rng_take (xs := spec_l7All_m x) (Nat.le_of_lt hi), rng_allB (xs := (spec_l7All_m x).take i) (r := false) (p := fun w => spec_l7Apart_m (gt (spec_l7All_m x) i) w) (fun k hk => by
      rw [List.length_take] at hk
      rw [gt_take (by omega)]
      rfl)]
    cases spec_l7Version_m (gt (spec_l7All_m x) i) x.Now <;> cases ((spec_l7All_m x).take i).all (fun w => spec_l7Apart_m (gt (spec_l7All_m x) i) w) <;> rfl), l7All_form, spec_l1In_iff, spec_l1In_iff]
  cases decide (1 ≤ (x.Segments.length : Int) ∧ (x.Segments.length : Int) ≤ 8) <;> cases decide (0 ≤ x.Now ∧ x.Now ≤ 100000) <;> cases x.Segments.all (fun s => decide (s.length ≤ 4)) <;> cases seenF (okS x.Now) [] x.Segments.flatten <;> rfl
theorem Version_ord {v : DVersion} {now : Int} (hn : now ≤ 100000) (h : spec_l7Version_m v now = true) : 0 ≤ v.Born ∧ v.Born ≤ now ∧ (v.Died = -1 ∨ (v.Born + 1 ≤ v.Died ∧ v.Died ≤ now)) := by
  rw [Version_eq] at h
  simp only [Bool.and_eq_true, Bool.or_eq_true, decide_eq_true_eq, beq_iff_eq] at h
  obtain ⟨⟨_, h1, h2⟩, h3⟩ := h
  rw [wrap_id (by omega) (by omega)] at h3
  exact ⟨h1, h2, h3⟩
theorem Visible_eq (v : DVersion) (t : Int) : impl_IsVisible_m v t = decide (v.Born ≤ t ∧ (v.Died = -1 ∨ t < v.Died)) := by
  unfold impl_IsVisible_m
  by_cases h1 : v.Born ≤ t <;> by_cases h2 : v.Died = -1 <;> by_cases h3 : t < v.Died <;> simp [h1, h2, h3]
theorem Apart_eq (v w : DVersion) : spec_l7Apart_m v w = decide (v.Id ≠ w.Id ∨ (v.Died ≠ -1 ∧ v.Died ≤ w.Born) ∨ (w.Died ≠ -1 ∧ w.Died ≤ v.Born)) := by
  unfold spec_l7Apart_m
  by_cases h1 : v.Id = w.Id <;> by_cases h2 : v.Died = -1 <;> by_cases h3 : w.Died = -1 <;> by_cases h4 : v.Died ≤ w.Born <;> simp [h1, h2, h3, h4] <;> (try rw [h2] at h4) <;> (try simp_all) <;> (try rfl)
theorem apart_meet {v w : DVersion} {now : Int} (hn : now ≤ 100000) (hv : spec_l7Version_m v now = true) (hw : spec_l7Version_m w now = true) : spec_l7Apart_m v w = !(v.Id == w.Id && impl_meetInTime_m v w) := by
  obtain ⟨a1, a2, a3⟩ := Version_ord hn hv
  obtain ⟨b1, b2, b3⟩ := Version_ord hn hw
  have hm : impl_meetInTime_m v w = decide ((v.Born ≤ w.Born ∧ (v.Died = -1 ∨ w.Born < v.Died)) ∨ (w.Born ≤ v.Born ∧ (w.Died = -1 ∨ v.Born < w.Died))) := by
    unfold impl_meetInTime_m
    rw [Visible_eq, Visible_eq]
    by_cases h1 : (v.Born ≤ w.Born ∧ (v.Died = -1 ∨ w.Born < v.Died)) <;> by_cases h2 : (w.Born ≤ v.Born ∧ (w.Died = -1 ∨ v.Born < w.Died)) <;> simp [h1, h2]
  rw [hm, Apart_eq]
  have hb : (v.Id == w.Id) = decide (v.Id = w.Id) := by by_cases h : v.Id = w.Id <;> simp [h]
  rw [hb, ← Bool.decide_and, ← decide_not]
  apply decide_eq_decide.2
  omega
theorem seenF_same {now : Int} (hn : now ≤ 100000) : ∀ (l seen : List DVersion), (∀ w ∈ seen, spec_l7Version_m w now = true) → seenF (okI now) seen l = seenF (okS now) seen l
  | [], _, _ => rfl
  | v :: l, seen, hs => by
    show (okI now seen v && seenF (okI now) (seen ++ [v]) l) = (okS now seen v && seenF (okS now) (seen ++ [v]) l)
    unfold okI okS
    cases hv : spec_l7Version_m v now with
    | false => rfl
    | true =>
      have e : (seen.all fun w => !(v.Id == w.Id && impl_meetInTime_m v w)) = seen.all fun w => spec_l7Apart_m v w := by
        rw [Bool.eq_iff_iff, List.all_eq_true, List.all_eq_true]
        exact ⟨fun h w hw => by rw [apart_meet hn hv (hs w hw)]; exact h w hw, fun h w hw => by rw [← apart_meet hn hv (hs w hw)]; exact h w hw⟩
      have ih := seenF_same hn l (seen ++ [v]) (fun w hw => by
        rcases List.mem_append.1 hw with h | h
        · exact hs w h
        · rw [List.mem_singleton.1 h]; exact hv)
      unfold okI okS at ih
      rw [e, ih]
theorem IsStore_same (x : DStore) : impl_IsStore_m x = spec_IsStore_m x := by
  rw [impl_IsStore_form, spec_IsStore_form]
  unfold storeB
  by_cases h : 0 ≤ x.Now ∧ x.Now ≤ 100000
  · rw [seenF_same h.2 _ [] (fun w hw => by cases hw)]
  · rw [decide_eq_false h, Bool.and_false, Bool.false_and]
    rfl
theorem FindActive_same (x : DEngine) (i : Int) : impl_FindActive_m x i = spec_FindActive_m x i := rfl
theorem within_same2 : impl_within_m = spec_l1In_m := rfl
theorem IsCond_same (x : DCond) : impl_IsCond_m x = spec_IsCond_m x := by
  unfold impl_IsCond_m spec_IsCond_m
  rw [isField_same, spec_l1In_iff x.Low]
  simp only [cb_and, Bool.decide_and, Bool.and_assoc]
theorem IsQuery_same (x : DQuery) : impl_IsQuery_m x = spec_IsQuery_m x := by
  unfold impl_IsQuery_m spec_IsQuery_m spec_l4Fields_m
  have h1 : (fun k (_ : Unit) => impl_IsQuery_b1 x k) = fun k (_ : Unit) => spec_IsQuery_b1 x k := by
    funext k u; unfold impl_IsQuery_b1 spec_IsQuery_b1; rw [IsCond_same]
  have h2 : (fun k (_ : Unit) => impl_IsQuery_b2 x k) = fun k (_ : Unit) => spec_l4Fields_b1 x.Out k := rfl
  rw [h1, h2]
  rw [rng_allN (b := fun k (_ : Unit) => spec_IsQuery_b1 x k) (p := fun k => spec_IsQuery_b1 x k == .inr ()) (r := false) (fun k _ => by
    unfold spec_IsQuery_b1
    cases spec_IsCond_m (gt x.Conds k) <;> cases decide (0 < ((k : Nat) : Int)) <;> cases decide ((gt x.Conds k).Field ≤ (gt x.Conds (k - 1)).Field) <;> rfl)]
  rw [rng_allN (b := fun k (_ : Unit) => spec_l4Fields_b1 x.Out k) (p := fun k => spec_l4Fields_b1 x.Out k == .inr ()) (r := false) (fun k _ => by
    unfold spec_l4Fields_b1
    cases spec_l1In_m (gt x.Out k) 0 2 <;> rfl)]
  simp only [within_same2, cb_rng, cb_and, cb_nand, cb_lt, Bool.not_not]
  ac_rfl
theorem allRows_same (x : List DRow) : impl_resultOk_m x = spec_l9List_m x := by
  unfold impl_resultOk_m spec_l9List_m impl_allRows_m
  have h1 : (fun k (_ : Unit) => impl_allRows_b1 x k) = fun k (_ : Unit) => spec_l9List_b1 x k := rfl
  rw [h1, rng_allN (p := fun k => spec_l9List_b1 x k == .inr ()) (r := false) (fun k _ => by
    unfold spec_l9List_b1
    cases spec_IsRow_m (gt x k) <;> rfl)]
  simp only [cb_rng, cb_and, Bool.and_true]
  ac_rfl
theorem activeOk_same (e : DEngine) (x : DActive) : impl_activeOk_m e.Store x = spec_l9Active_m e x := by
  unfold impl_activeOk_m spec_l9Active_m spec_l9Todo_m
  have h1 : (fun k (_ : Unit) => impl_activeOk_b1 e.Store x k) = fun k (_ : Unit) => spec_l9Todo_b1 x.Todo ((e.Store.Segments.length : Nat) : Int) k := rfl
  rw [h1, rng_allN (p := fun k => spec_l9Todo_b1 x.Todo ((e.Store.Segments.length : Nat) : Int) k == .inr ()) (r := false) (fun k _ => by
    unfold spec_l9Todo_b1
    cases spec_l1In_m (gt x.Todo k) 0 (IntKind.i64.wrap (((e.Store.Segments.length : Nat) : Int) - 1)) <;> cases decide (0 < ((k : Nat) : Int)) <;> cases decide (gt x.Todo k ≤ gt x.Todo (k - 1)) <;> rfl)]
  rw [IsQuery_same, allRows_same]
  simp only [within_same2, cb_rng, cb_and]
  ac_rfl
theorem hasInt_any (x : List Int) (i : Int) : impl_hasInt_m x i = x.any fun y => y == i := by
  unfold impl_hasInt_m
  rw [rng_any (p := fun y => y == i) (r := true) (fun j _ => rfl)]
  cases x.any fun y => y == i <;> rfl
theorem l1In_and (x a b : Int) : spec_l1In_m x a b = (decide (a ≤ x) && decide (x ≤ b)) := by
  unfold spec_l1In_m
  rw [cb_and]
theorem isOrder_same (x : List Int) : impl_isOrder_m x = spec_l6Order_m x := by
  unfold impl_isOrder_m spec_l6Order_m
  rw [rng_allN (n := 3) (p := fun k => impl_hasInt_m x k) (r := false) (fun k _ => rfl)]
  rw [rng_allN (p := fun k => spec_l1In_m (gt x k) 0 2 && !spec_HasMember_m (List.take k x) (gt x k)) (r := false) (fun k _ => by
    unfold spec_l6Order_b1
    cases spec_l1In_m (gt x k) 0 2 <;> cases spec_HasMember_m (List.take k x) (gt x k) <;> rfl)]
  have hm : ∀ (y : List Int) (i : Int), spec_HasMember_m y i = y.any fun z => z == i := hasInt_any
  by_cases h : x.length = 3
  · match x, h with
    | [a, b, c], _ =>
      simp only [hasInt_any, hm, l1In_and]
      have h3 : List.range 3 = [0, 1, 2] := rfl
      have h8 : [a, b, c].length = 3 := rfl
      have e0 : gt [a, b, c] 0 = a := rfl
      have e1 : gt [a, b, c] 1 = b := rfl
      have e2 : gt [a, b, c] 2 = c := rfl
      rw [h8, h3]
      simp only [List.all_cons, List.all_nil]
      rw [e0, e1, e2]
      simp only [List.any_cons, List.any_nil, List.take]
      simp only [cb_rng, cb_nand, Bool.and_true, Bool.or_false, Bool.not_false]
      rw [Bool.eq_iff_iff]
      simp only [Bool.and_eq_true, Bool.or_eq_true, beq_iff_eq, decide_eq_true_eq, Bool.not_eq_true', Bool.or_eq_false_iff, beq_eq_false_iff_ne, bne, ne_eq]
      have h4 : ((3 : Nat) : Int) = 3 := rfl
      have h5 : ((0 : Nat) : Int) = 0 := rfl
      have h6 : ((1 : Nat) : Int) = 1 := rfl
      have h7 : ((2 : Nat) : Int) = 2 := rfl
      simp only [h4, h5, h6, h7, beq_self_eq_true, Bool.not_true, and_true, true_and]
      constructor <;> intro h <;> omega
  · have h1 : (((x.length : Nat) : Int) == 3) = false := beq_eq_false_iff_ne.2 (by omega)
    have h2 : (((x.length : Nat) : Int) != 3) = true := bne_iff_ne.2 (by omega)
    rw [h1, h2]
    cases (List.range 3).all fun k => impl_hasInt_m x k <;> rfl
theorem IsEngine_same (x : DEngine) : impl_IsEngine_m x = spec_IsEngine_m x := by
  unfold impl_IsEngine_m spec_IsEngine_m
  have h1 : (fun k (_ : Unit) => impl_IsEngine_b1 x k) = fun k (_ : Unit) => spec_IsEngine_b1 x k := by
    funext k u; unfold impl_IsEngine_b1 spec_IsEngine_b1; rw [activeOk_same]
  have h2 : (fun k (_ : Unit) => impl_IsEngine_b2 x k) = fun k (_ : Unit) => spec_IsEngine_b2 x k := by
    funext k u; unfold impl_IsEngine_b2 spec_IsEngine_b2; rw [IsQuery_same, allRows_same]; rfl
  have h3 : (fun k (_ : Unit) => impl_IsEngine_b3 x k) = fun k (_ : Unit) => spec_IsEngine_b3 x k := by
    funext k u; unfold impl_IsEngine_b3 spec_IsEngine_b3; rw [IsCharge_same]
  rw [h1, h2, h3, IsStore_same, isOrder_same]
  generalize Sum.elim id _ (rng (R := Bool) (fun k (_ : Unit) => spec_IsEngine_b1 x k) (x.Active.length - 0) 0 ()) = t
  simp only [within_same2, cb_and, cb_nand]
  ac_rfl
theorem spec_Engine_len {x : DEngine} (h : spec_IsEngine_m x = true) : x.Active.length ≤ 8 := by
  unfold spec_IsEngine_m at h
  have h7 := (cond_ft (cond_tf (cond_tf (cond_tf h).2).2).2).1
  have := of_decide_eq_false h7
  omega
theorem FindActive_none {x : DEngine} {i : Int} (h : decide (0 ≤ spec_FindActive_m x i) = false) : ∀ j, j < x.Active.length → (gt x.Active j).Query.Id ≠ i := by
  have h2 := of_decide_eq_false h
  unfold spec_FindActive_m at h2
  have hr : rng (R := Int) (fun k (_ : Unit) => spec_FindActive_b1 x i k) (x.Active.length - 0) 0 () = .inr () := by
    rcases rng_find (P := fun (r : Int) => 0 ≤ r) (n := x.Active.length) (b := fun k (_ : Unit) => spec_FindActive_b1 x i k) (fun j hj => by
      show (∃ r, spec_FindActive_b1 x i j = _ ∧ _) ∨ spec_FindActive_b1 x i j = _
      unfold spec_FindActive_b1
      cases (gt x.Active j).Query.Id == i
      · exact .inr rfl
      · exact .inl ⟨_, rfl, Int.natCast_nonneg _⟩) (x.Active.length - 0) 0 (by omega) with ⟨r, e, hp⟩ | e
    · rw [e] at h2
      exact absurd hp h2
    · exact e
  intro j hj e
  have hb : spec_FindActive_b1 x i j = .inr () := rng_noneU _ _ hr j (Nat.zero_le _) (by omega)
  unfold spec_FindActive_b1 at hb
  rw [beq_iff_eq.2 e] at hb
  cases hb
theorem admJ_le (xs : List DActive) (q : Int) : admJ xs q ≤ xs.length := List.findIdx_le_length
theorem Admit_lt {x : DEngine} {q : Int} (hs : ∀ i j, i < j → j < x.Active.length → (gt x.Active i).Query.Id < (gt x.Active j).Query.Id) (hn : ∀ j, j < x.Active.length → (gt x.Active j).Query.Id ≠ q) {k : Nat} (hk : k < x.Active.length) : decide ((gt x.Active k).Query.Id < q) = decide (k < admJ x.Active q) := by
  by_cases h : k < admJ x.Active q
  · have h1 := admJ_no h
    have h2 := hn k hk
    rw [decide_eq_true h, decide_eq_true (by omega)]
  · have h1 := admJ_at (xs := x.Active) (q := q) (by omega)
    rw [decide_eq_false h]
    by_cases h2 : admJ x.Active q = k
    · rw [h2] at h1
      exact decide_eq_false (by omega)
    · have h3 := hs (admJ x.Active q) k (by omega) hk
      exact decide_eq_false (by omega)
theorem Admit_gt {x : DEngine} {q : Int} {k : Nat} (hk : k < x.Active.length) (h : ¬ admJ x.Active q < k) : decide (q < (gt x.Active k).Query.Id) = decide (admJ x.Active q = k) := by
  by_cases h2 : admJ x.Active q = k
  · have h1 := admJ_at (xs := x.Active) (q := q) (by omega)
    rw [h2] at h1
    rw [decide_eq_true h1, decide_eq_true h2]
  · have h1 := admJ_no (xs := x.Active) (q := q) (j := k) (by omega)
    rw [decide_eq_false h2, decide_eq_false (by omega)]
theorem impl_Admit_loop {x : DEngine} {q : DQuery} (hs : ∀ i j, i < j → j < x.Active.length → (gt x.Active i).Query.Id < (gt x.Active j).Query.Id) (hn : ∀ j, j < x.Active.length → (gt x.Active j).Query.Id ≠ q.Id) :
    rng (R := DEngine × Bool) (fun k (s : Nat) => impl_AdmitQuery_b2 x q k s) (x.Active.length - 0) 0 0 = .inr (admJ x.Active q.Id) := by
  have key : ∀ m k, m + k = x.Active.length → rng (R := DEngine × Bool) (fun k (s : Nat) => impl_AdmitQuery_b2 x q k s) m k (min k (admJ x.Active q.Id)) = .inr (min (m + k) (admJ x.Active q.Id)) := by
    intro m
    induction m with
    | zero => intro k _; rw [Nat.zero_add]; rfl
    | succ m ih =>
      intro k hk
      have hb : impl_AdmitQuery_b2 x q k (min k (admJ x.Active q.Id)) = .inr (min (k + 1) (admJ x.Active q.Id)) := by
        unfold impl_AdmitQuery_b2
        rw [Admit_lt hs hn (by omega)]
        by_cases h : k < admJ x.Active q.Id
        · rw [decide_eq_true h, cond_true, Nat.min_eq_left (by omega), Nat.min_eq_left (by omega)]
        · rw [decide_eq_false h, cond_false, Nat.min_eq_right (by omega), Nat.min_eq_right (by omega)]
      rw [rng, hb]
      show rng _ m (k + 1) (min (k + 1) (admJ x.Active q.Id)) = _
      rw [ih (k + 1) (by omega)]
      congr 2
      omega
  have h := key (x.Active.length - 0) 0 (by omega)
  rw [Nat.zero_min] at h
  rw [h]
  congr 1
  have := admJ_le x.Active q.Id
  omega
theorem spec_Admit_loop (x : DEngine) (q : DQuery) :
    rng (R := DEngine × Bool) (fun k (s : Bool) => spec_AdmitQuery_b2 x q k s) (x.Active.length - 0) 0 false = .inr (decide (admJ x.Active q.Id < x.Active.length)) := by
  have key : ∀ m k, m + k = x.Active.length → rng (R := DEngine × Bool) (fun k (s : Bool) => spec_AdmitQuery_b2 x q k s) m k (decide (admJ x.Active q.Id < k)) = .inr (decide (admJ x.Active q.Id < m + k)) := by
    intro m
    induction m with
    | zero => intro k _; rw [Nat.zero_add]; rfl
    | succ m ih =>
      intro k hk
      have hb : spec_AdmitQuery_b2 x q k (decide (admJ x.Active q.Id < k)) = .inr (decide (admJ x.Active q.Id < k + 1)) := by
        unfold spec_AdmitQuery_b2
        by_cases h : admJ x.Active q.Id < k
        · rw [decide_eq_true h, cond_true, decide_eq_true (by omega)]
        · rw [decide_eq_false h, cond_false, Admit_gt (by omega) h]
          by_cases h2 : admJ x.Active q.Id = k
          · rw [decide_eq_true h2, cond_true, decide_eq_true (by omega)]
          · rw [decide_eq_false h2, cond_false, decide_eq_false (by omega)]
      rw [rng, hb]
      show rng _ m (k + 1) (decide (admJ x.Active q.Id < k + 1)) = _
      rw [ih (k + 1) (by omega)]
      congr 2
      rw [show m + (k + 1) = m + 1 + k by omega]
  have h := key (x.Active.length - 0) 0 (by omega)
  rw [decide_eq_false (Nat.not_lt_zero _)] at h
  rw [h]
  rfl
theorem AdmitQuery_same (x : DEngine) (q : DQuery) (l : Int) : impl_AdmitQuery_m x q l = spec_AdmitQuery_m x q l := by
  cases hE : spec_IsEngine_m x with
  | false =>
    unfold impl_AdmitQuery_m spec_AdmitQuery_m
    rw [IsEngine_same, hE]
    rfl
  | true =>
    have hle := spec_Engine_len hE
    have hs := impl_Engine_sorted (x := x) (by rw [IsEngine_same]; exact hE)
    unfold impl_AdmitQuery_m spec_AdmitQuery_m
    rw [IsEngine_same, hE, IsQuery_same, FindActive_same, within_same, cond_true, cond_true]
    cases spec_IsQuery_m q with
    | false => rw [cond_false, cond_false]
    | true =>
      rw [cond_true, cond_true]
      cases spec_l1In_m l 0 32 with
      | false => rw [cond_false, cond_false]
      | true =>
        rw [cond_true, cond_true]
        cases hf : decide (0 ≤ spec_FindActive_m x q.Id) with
        | true => rw [cond_true, cond_true]
        | false =>
          rw [cond_false, cond_false]
          have hn := FindActive_none hf
          have h8 : (((x.Active.length : Nat) : Int) == 8) = decide (8 ≤ ((x.Active.length : Nat) : Int)) := by
            by_cases h : ((x.Active.length : Nat) : Int) = 8
            · rw [beq_iff_eq.2 h, decide_eq_true (by omega)]
            · rw [beq_eq_false_iff_ne.2 h, decide_eq_false (by omega)]
          rw [h8, impl_Admit_loop hs hn, spec_Admit_loop]
          have hb : (fun k (s : List Int) => impl_AdmitQuery_b1 k s) = fun k (s : List Int) => spec_AdmitQuery_b1 k s := rfl
          rw [hb]
          by_cases hj : admJ x.Active q.Id < x.Active.length
          · rw [decide_eq_true hj]
            rfl
          · have he : admJ x.Active q.Id = x.Active.length := by
              have := admJ_le x.Active q.Id
              omega
            rw [decide_eq_false hj, he]
            rfl
theorem Admit_todo (n : Nat) : (rng (R := (DEngine × Bool)) (fun k (s : (List Int)) => impl_AdmitQuery_b1 k s) (n - 0) 0 []) = .inr ((List.range n).map fun (k : Nat) => ((k : Nat) : Int)) := by
  have key : ∀ m k, rng (R := (DEngine × Bool)) (fun k (s : (List Int)) => impl_AdmitQuery_b1 k s) m k ((List.range k).map fun (k : Nat) => ((k : Nat) : Int)) = .inr ((List.range (m + k)).map fun (k : Nat) => ((k : Nat) : Int)) := by
    intro m
    induction m with
    | zero => intro k; rw [Nat.zero_add]; rfl
    | succ m ih =>
      intro k
      have hb : impl_AdmitQuery_b1 k ((List.range k).map fun (k : Nat) => ((k : Nat) : Int)) = .inr ((List.range (k + 1)).map fun (k : Nat) => ((k : Nat) : Int)) := by
        unfold impl_AdmitQuery_b1
        rw [List.range_succ, List.map_append]
        rfl
      rw [rng, hb]
      show rng _ m (k + 1) _ = _
      rw [ih (k + 1), show m + (k + 1) = m + 1 + k by omega]
  have h := key (n - 0) 0
  rw [List.range_zero] at h
  exact h
theorem impl_Engine_segs {x : DEngine} (h : impl_IsEngine_m x = true) : x.Store.Segments.length ≤ 8 := by
  unfold impl_IsEngine_m at h
  have h7 := (cond_tf h).1
  unfold impl_IsStore_m at h7
  have := impl_within_fact (cond_tf h7).1
  omega
theorem AdmitQuery_wt (x : DEngine) (q : DQuery) (l : Int) : wtEngine (impl_AdmitQuery_m x q l).1 ≤ wtEngine x + wtQuery q + 9 := by
  unfold impl_AdmitQuery_m
  cases hE : impl_IsEngine_m x with
  | false => show wtEngine x ≤ _; omega
  | true =>
  cases impl_IsQuery_m q with
  | false => show wtEngine x ≤ _; omega
  | true =>
  cases impl_within_m l 0 32 with
  | false => show wtEngine x ≤ _; omega
  | true =>
  cases decide (0 ≤ impl_FindActive_m x q.Id) with
  | true => show wtEngine x ≤ _; omega
  | false =>
  cases ((x.Active.length : Nat) : Int) == 8 with
  | true => show wtEngine x ≤ _; omega
  | false =>
    have h8 := impl_Engine_segs hE
    rw [Admit_todo]
    have hs : ∀ s, wtEngine (⟨x.Store, x.Cursor, x.Order, ((List.take s x.Active ++ [(⟨q, x.Store.Now, (List.range x.Store.Segments.length).map fun (k : Nat) => ((k : Nat) : Int), 0, 0, l, []⟩ : DActive)]) ++ List.drop s x.Active), x.Done, x.Ledger, x.Steps⟩ : DEngine) ≤ wtEngine x + wtQuery q + 9 := fun s => by
      have e : wtS wtActive x.Active = wtS wtActive (List.take s x.Active) + wtS wtActive (List.drop s x.Active) := by
        rw [← wtS_append, List.take_append_drop]
      have e2 : wtS wtRow [] = 0 := rfl
      unfold wtEngine
      dsimp only
      rw [wtS_append, wtS_append, wtS_one, e]
      unfold wtActive
      dsimp only
      rw [List.length_map, List.length_range, e2]
      omega
    cases hr : (rng (R := (DEngine × Bool)) (fun k (s : Nat) => impl_AdmitQuery_b2 x q k s) (x.Active.length - 0) 0 0) with
    | inr s => exact hs s
    | inl r =>
      exact absurd hr (by
        have hn : ∀ m k s, rng (R := (DEngine × Bool)) (fun k (s : Nat) => impl_AdmitQuery_b2 x q k s) m k s ≠ .inl r := by
          intro m
          induction m with
          | zero => intro k s h; cases h
          | succ m ih =>
            intro k s h
            rw [rng] at h
            revert h
            unfold impl_AdmitQuery_b2
            cases decide ((gt x.Active k).Query.Id < q.Id)
            · exact ih (k + 1) s
            · exact ih (k + 1) (s + 1)
        exact hn _ _ _)
theorem law_AdmitQuery (x : DEngine) (q : DQuery) (l : Int) (ok : smEngine 9223372036854775807 x) (hy : smQuery 9223372036854775807 q) : laws_FnExactAdmitQuery_m x q l = true := by
  unfold laws_FnExactAdmitQuery_m
  rw [laws_toEngine_eq, laws_toQuery_eq, ← AdmitQuery_same, laws_eqEngine_refl, bne_self_eq_false, laws_eqEngine_refl, laws_eqQuery_refl]
  cases hs : decide (laws_szEngine_m x 1048576 < 0) with
  | true => rfl
  | false =>
  cases hk : decide (laws_szQuery_m q (laws_szEngine_m x 1048576) < 0) with
  | true => rfl
  | false =>
    obtain ⟨h1, h1b, h1c⟩ := sz_small laws_szEngine_ok ok (by omega) (by omega) hs
    obtain ⟨h2, _, _⟩ := sz_small laws_szQuery_ok hy (by omega) (by omega) hk
    have hi := AdmitQuery_wt x q l
    have q1 := laws_markEngine_ok.go x 1 (by omega) (by omega)
    have q3 := laws_markQuery_ok.go q (laws_markEngine_m x 1).1 (by omega) (by omega)
    obtain ⟨p2, _, r2⟩ := laws_markEngine_ok.go (impl_AdmitQuery_m x q l).1 1 (by omega) (by omega)
    have r3 : laws_heldEngine_m (⟨(⟨(laws_markEngine_m (impl_AdmitQuery_m x q l).1 1).2.Store.Segments, (impl_AdmitQuery_m x q l).1.Store.Now⟩ : DStore), (impl_AdmitQuery_m x q l).1.Cursor, (laws_markEngine_m (impl_AdmitQuery_m x q l).1 1).2.Order, (laws_markEngine_m (impl_AdmitQuery_m x q l).1 1).2.Active, (laws_markEngine_m (impl_AdmitQuery_m x q l).1 1).2.Done, (laws_markEngine_m (impl_AdmitQuery_m x q l).1 1).2.Ledger, (impl_AdmitQuery_m x q l).1.Steps⟩ : DEngine) 1 = (laws_markEngine_m (impl_AdmitQuery_m x q l).1 1).1 := r2
    rw [r3, decide_eq_false (by omega), decide_eq_false (by omega), bne_self_eq_false]
    rfl

end Go.Proofs.YtmikmbmdibabmaaGreat
