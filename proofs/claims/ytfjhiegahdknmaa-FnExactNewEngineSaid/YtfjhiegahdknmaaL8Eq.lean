/-
  The program and the reference compute the same: plain laws over what the walks showed.
-/
import Derived.Test.YtfjhiegahdknmaaL8Law
namespace Go.Proofs.Ytfjhiegahdknmaa
open Go.RowKit
def okS (now : Int) (seen : List DVersion) (v : DVersion) : Bool := spec_l7Version_m v now && seen.all fun w => spec_l7Apart_m v w
def okI (now : Int) (seen : List DVersion) (v : DVersion) : Bool := spec_l7Version_m v now && seen.all fun w => !(v.Id == w.Id && impl_meetInTime_m v w)
def seenF (ok : List DVersion → DVersion → Bool) : List DVersion → List DVersion → Bool
  | _, [] => true
  | seen, v :: l => ok seen v && seenF ok (seen ++ [v]) l
theorem seenF_append (ok : List DVersion → DVersion → Bool) : ∀ (s t seen : List DVersion), seenF ok seen (s ++ t) = (seenF ok seen s && seenF ok (seen ++ s) t)
  | [], t, seen => by simp [seenF]
  | v :: s, t, seen => by
    show (ok seen v && seenF ok (seen ++ [v]) (s ++ t)) = _
    rw [seenF_append ok s t]
    simp [seenF, Bool.and_assoc]
theorem chkF_seen (ok : List DVersion → DVersion → Bool) : ∀ (l seen : List DVersion), chkF (fun d v => ok d v) (fun d v => d ++ [v]) l seen = cond (seenF ok seen l) (some (seen ++ l)) none
  | [], seen => by simp [chkF, seenF]
  | v :: l, seen => by
    rw [chkF, chkF_seen ok l]
    show _ = cond (ok seen v && seenF ok (seen ++ [v]) l) _ _
    cases ok seen v <;> simp
theorem Version_eq (v : DVersion) (now : Int) : spec_l7Version_m v now = (spec_IsRow_m (⟨v.Id, v.Values⟩ : DRow) && decide (0 ≤ v.Born ∧ v.Born ≤ now) && (v.Died == (-1) || decide (IntKind.i64.wrap (v.Born + 1) ≤ v.Died ∧ v.Died ≤ now))) := by
  unfold spec_l7Version_m
  rw [spec_l1In_iff, spec_l1In_iff]
  cases spec_IsRow_m (⟨v.Id, v.Values⟩ : DRow) <;> cases decide (0 ≤ v.Born ∧ v.Born ≤ now) <;> cases v.Died == (-1) <;> rfl
theorem impl_Store_b34 (x : DStore) (i j : Nat) (d : List DVersion) : rng (R := Bool) (fun k (_ : Unit) => impl_IsStore_b3 x i j d k) (d.length - 0) 0 () = cond (d.all fun w => !((gt (gt x.Segments i) j).Id == w.Id && impl_meetInTime_m (gt (gt x.Segments i) j) w)) (.inr ()) (.inl false) :=
  rng_allB fun k _ => by
    unfold impl_IsStore_b3
    cases (gt (gt x.Segments i) j).Id == (gt d k).Id <;> cases impl_meetInTime_m (gt (gt x.Segments i) j) (gt d k) <;> rfl
theorem impl_Store_b2 (x : DStore) (i j : Nat) (d : List DVersion) : impl_IsStore_b2 x i j d = cond (okI x.Now d (gt (gt x.Segments i) j)) (.inr (d ++ [gt (gt x.Segments i) j])) (.inl false) := by
  have h4 : (fun k (_ : Unit) => impl_IsStore_b4 x i j d k) = fun k (_ : Unit) => impl_IsStore_b3 x i j d k := rfl
  unfold impl_IsStore_b2 okI
  rw [h4, impl_Store_b34, Version_eq, impl_within_iff, impl_within_iff]
  have hr : impl_IsRow_m (impl_rowOf_m (gt (gt x.Segments i) j)) = spec_IsRow_m (⟨(gt (gt x.Segments i) j).Id, (gt (gt x.Segments i) j).Values⟩ : DRow) := rfl
  rw [hr]
  have hn : ((gt (gt x.Segments i) j).Died != (-1)) = !((gt (gt x.Segments i) j).Died == (-1)) := rfl
  rw [hn]
  cases spec_IsRow_m (⟨(gt (gt x.Segments i) j).Id, (gt (gt x.Segments i) j).Values⟩ : DRow) <;> cases decide (0 ≤ (gt (gt x.Segments i) j).Born ∧ (gt (gt x.Segments i) j).Born ≤ x.Now) <;> cases (gt (gt x.Segments i) j).Died == (-1) <;>
    cases decide (IntKind.i64.wrap ((gt (gt x.Segments i) j).Born + 1) ≤ (gt (gt x.Segments i) j).Died ∧ (gt (gt x.Segments i) j).Died ≤ x.Now) <;> cases (d.all fun w => !((gt (gt x.Segments i) j).Id == w.Id && impl_meetInTime_m (gt (gt x.Segments i) j) w)) <;> rfl
theorem impl_Store_b1 (x : DStore) (i : Nat) (d : List DVersion) : impl_IsStore_b1 x i d = cond (decide ((gt x.Segments i).length ≤ 4) && seenF (okI x.Now) d (gt x.Segments i)) (.inr (d ++ gt x.Segments i)) (.inl false) := by
  unfold impl_IsStore_b1
  rw [rng_chk (xs := gt x.Segments i) (r := false) (c := fun d v => okI x.Now d v) (f := fun d v => d ++ [v]) (fun j s _ => impl_Store_b2 x i j s), chkF_seen]
  by_cases h : (gt x.Segments i).length ≤ 4
  · rw [decide_eq_true h, decide_eq_false (show ¬ 4 < ((gt x.Segments i).length : Int) by omega)]
    cases seenF (okI x.Now) d (gt x.Segments i) <;> rfl
  · rw [decide_eq_false h, decide_eq_true (show 4 < ((gt x.Segments i).length : Int) by omega)]
    rfl
theorem chkF_segs (ok : List DVersion → DVersion → Bool) : ∀ (l : List (List DVersion)) (d : List DVersion), chkF (fun d s => decide (s.length ≤ 4) && seenF ok d s) (fun d s => d ++ s) l d = cond (l.all (fun s => decide (s.length ≤ 4)) && seenF ok d l.flatten) (some (d ++ l.flatten)) none
  | [], d => by simp [chkF, seenF]
  | s :: l, d => by
    rw [chkF, chkF_segs ok l, List.flatten_cons, seenF_append, List.all_cons]
    cases decide (s.length ≤ 4) <;> cases seenF ok d s <;> cases l.all (fun s => decide (s.length ≤ 4)) <;> simp
def storeB (ok : List DVersion → DVersion → Bool) (x : DStore) : Bool := decide (1 ≤ (x.Segments.length : Int) ∧ (x.Segments.length : Int) ≤ 8) && decide (0 ≤ x.Now ∧ x.Now ≤ 100000) && x.Segments.all (fun s => decide (s.length ≤ 4)) && seenF ok [] x.Segments.flatten
theorem impl_IsStore_form (x : DStore) : impl_IsStore_m x = storeB (okI x.Now) x := by
  unfold impl_IsStore_m storeB
  rw [rng_chk (xs := x.Segments) (r := false) (c := fun d s => decide (s.length ≤ 4) && seenF (okI x.Now) d s) (f := fun d s => d ++ s) (fun j s _ => impl_Store_b1 x j s), chkF_segs, impl_within_iff, impl_within_iff]
  cases decide (1 ≤ (x.Segments.length : Int) ∧ (x.Segments.length : Int) ≤ 8) <;> cases decide (0 ≤ x.Now ∧ x.Now ≤ 100000) <;> cases x.Segments.all (fun s => decide (s.length ≤ 4)) <;> cases seenF (okI x.Now) [] x.Segments.flatten <;> rfl
theorem foldl_flat {α : Type} : ∀ (l : List (List α)) (d : List α), l.foldl (fun d s => d ++ s) d = d ++ l.flatten
  | [], d => by simp
  | s :: l, d => by rw [List.foldl_cons, foldl_flat l]; simp
theorem l7All_form (x : DStore) : spec_l7All_m x = x.Segments.flatten := by
  unfold spec_l7All_m
  rw [rng_fold (xs := x.Segments) (f := fun d s => d ++ s) (b := fun k s => spec_l7All_b1 x k s) (fun j s _ => rfl), foldl_flat]
  rfl
theorem seen_idx (now : Int) (l : List DVersion) (b : Nat → Unit → Bool ⊕ Unit) (hb : ∀ i, i < l.length → b i () = cond (okS now (l.take i) (gt l i)) (.inr ()) (.inl false)) : rng b (l.length - 0) 0 () = cond (seenF (okS now) [] l) (.inr ()) (.inl false) := by
  have h : ∀ m k, m + k = l.length → rng b m k () = cond (seenF (okS now) (l.take k) (l.drop k)) (.inr ()) (.inl false) := by
    intro m
    induction m with
    | zero => intro k hk; rw [rng, List.drop_of_length_le (by omega)]; rfl
    | succ m ih =>
      intro k hk
      have hlt : k < l.length := by omega
      rw [rng, hb k hlt, List.drop_eq_getElem_cons hlt, ← gt_at hlt]
      show _ = cond (okS now (l.take k) (gt l k) && seenF (okS now) (l.take k ++ [gt l k]) (l.drop (k + 1))) _ _
      have ht : l.take k ++ [gt l k] = l.take (k + 1) := by rw [List.take_add_one, List.getElem?_eq_getElem hlt, ← gt_at hlt]; rfl
      rw [ht]
      cases okS now (l.take k) (gt l k) with
      | true => exact ih (k + 1) (by omega)
      | false => rfl
  have := h (l.length - 0) 0 (by omega)
  simpa using this
theorem spec_IsStore_form (x : DStore) : spec_IsStore_m x = storeB (okS x.Now) x := by
  unfold spec_IsStore_m storeB
  rw [rng_allB (xs := x.Segments) (r := false) (p := fun s => decide (s.length ≤ 4)) (fun j _ => by
    unfold spec_IsStore_b1
    by_cases h : (gt x.Segments j).length ≤ 4
    · rw [decide_eq_true h, decide_eq_false (show ¬ 4 < ((gt x.Segments j).length : Int) by omega)]; rfl
    · rw [decide_eq_false h, decide_eq_true (show 4 < ((gt x.Segments j).length : Int) by omega)]; rfl)]
  rw [seen_idx x.Now (spec_l7All_m x) _ (fun i hi => by
    show spec_IsStore_b2 x i = _
    unfold spec_IsStore_b2 okS
    rw [rng_take (xs := spec_l7All_m x) (Nat.le_of_lt hi), rng_allB (xs := (spec_l7All_m x).take i) (r := false) (p := fun w => spec_l7Apart_m (gt (spec_l7All_m x) i) w) (fun k hk => by
      rw [List.length_take] at hk
      rw [gt_take (by omega)]
      rfl)]
    cases spec_l7Version_m (gt (spec_l7All_m x) i) x.Now <;> cases ((spec_l7All_m x).take i).all (fun w => spec_l7Apart_m (gt (spec_l7All_m x) i) w) <;> rfl), l7All_form, spec_l1In_iff, spec_l1In_iff]
  cases decide (1 ≤ (x.Segments.length : Int) ∧ (x.Segments.length : Int) ≤ 8) <;> cases decide (0 ≤ x.Now ∧ x.Now ≤ 100000) <;> cases x.Segments.all (fun s => decide (s.length ≤ 4)) <;> cases seenF (okS x.Now) [] x.Segments.flatten <;> rfl
theorem Version_ord {v : DVersion} {now : Int} (hn : now ≤ 100000) (h : spec_l7Version_m v now = true) : 0 ≤ v.Born ∧ v.Born ≤ now ∧ (v.Died = -1 ∨ (v.Born + 1 ≤ v.Died ∧ v.Died ≤ now)) := by
  rw [Version_eq] at h
  simp only [Bool.and_eq_true, Bool.or_eq_true, decide_eq_true_eq, beq_iff_eq] at h
  obtain ⟨⟨_, h1, h2⟩, h3⟩ := h
  rw [wrap_id (by omega) (by omega)] at h3
  exact ⟨h1, h2, h3⟩
theorem Visible_eq (v : DVersion) (t : Int) : impl_IsVisible_m v t = decide (v.Born ≤ t ∧ (v.Died = -1 ∨ t < v.Died)) := by
  unfold impl_IsVisible_m
  by_cases h1 : v.Born ≤ t <;> by_cases h2 : v.Died = -1 <;> by_cases h3 : t < v.Died <;> simp [h1, h2, h3]
theorem Apart_eq (v w : DVersion) : spec_l7Apart_m v w = decide (v.Id ≠ w.Id ∨ (v.Died ≠ -1 ∧ v.Died ≤ w.Born) ∨ (w.Died ≠ -1 ∧ w.Died ≤ v.Born)) := by
  unfold spec_l7Apart_m
  by_cases h1 : v.Id = w.Id <;> by_cases h2 : v.Died = -1 <;> by_cases h3 : w.Died = -1 <;> by_cases h4 : v.Died ≤ w.Born <;> simp [h1, h2, h3, h4] <;> (try rw [h2] at h4) <;> (try simp_all) <;> (try rfl)
theorem apart_meet {v w : DVersion} {now : Int} (hn : now ≤ 100000) (hv : spec_l7Version_m v now = true) (hw : spec_l7Version_m w now = true) : spec_l7Apart_m v w = !(v.Id == w.Id && impl_meetInTime_m v w) := by
  obtain ⟨a1, a2, a3⟩ := Version_ord hn hv
  obtain ⟨b1, b2, b3⟩ := Version_ord hn hw
  have hm : impl_meetInTime_m v w = decide ((v.Born ≤ w.Born ∧ (v.Died = -1 ∨ w.Born < v.Died)) ∨ (w.Born ≤ v.Born ∧ (w.Died = -1 ∨ v.Born < w.Died))) := by
    unfold impl_meetInTime_m
    rw [Visible_eq, Visible_eq]
    by_cases h1 : (v.Born ≤ w.Born ∧ (v.Died = -1 ∨ w.Born < v.Died)) <;> by_cases h2 : (w.Born ≤ v.Born ∧ (w.Died = -1 ∨ v.Born < w.Died)) <;> simp [h1, h2]
  rw [hm, Apart_eq]
  have hb : (v.Id == w.Id) = decide (v.Id = w.Id) := by by_cases h : v.Id = w.Id <;> simp [h]
  rw [hb, ← Bool.decide_and, ← decide_not]
  apply decide_eq_decide.2
  omega
theorem seenF_same {now : Int} (hn : now ≤ 100000) : ∀ (l seen : List DVersion), (∀ w ∈ seen, spec_l7Version_m w now = true) → seenF (okI now) seen l = seenF (okS now) seen l
  | [], _, _ => rfl
  | v :: l, seen, hs => by
    show (okI now seen v && seenF (okI now) (seen ++ [v]) l) = (okS now seen v && seenF (okS now) (seen ++ [v]) l)
    unfold okI okS
    cases hv : spec_l7Version_m v now with
    | false => rfl
    | true =>
      have e : (seen.all fun w => !(v.Id == w.Id && impl_meetInTime_m v w)) = seen.all fun w => spec_l7Apart_m v w := by
        rw [Bool.eq_iff_iff, List.all_eq_true, List.all_eq_true]
        exact ⟨fun h w hw => by rw [apart_meet hn hv (hs w hw)]; exact h w hw, fun h w hw => by rw [← apart_meet hn hv (hs w hw)]; exact h w hw⟩
      have ih := seenF_same hn l (seen ++ [v]) (fun w hw => by
        rcases List.mem_append.1 hw with h | h
        · exact hs w h
        · rw [List.mem_singleton.1 h]; exact hv)
      unfold okI okS at ih
      rw [e, ih]
theorem IsStore_same (x : DStore) : impl_IsStore_m x = spec_IsStore_m x := by
  rw [impl_IsStore_form, spec_IsStore_form]
  unfold storeB
  by_cases h : 0 ≤ x.Now ∧ x.Now ≤ 100000
  · rw [seenF_same h.2 _ [] (fun w hw => by cases hw)]
  · rw [decide_eq_false h, Bool.and_false, Bool.false_and]
    rfl
theorem NewEngine_same (x : DStore) : impl_NewEngine_m x = spec_NewEngine_m x := by
  unfold impl_NewEngine_m spec_NewEngine_m
  rw [IsStore_same]
theorem NewEngine_wt (x : DStore) : wtEngine (impl_NewEngine_m x).1 ≤ wtStore x + 3 := by
  unfold impl_NewEngine_m
  cases impl_IsStore_m x
  · simp [wtEngine, wtStore, wtS]
  · simp [wtEngine, wtS]
theorem law_NewEngine (x : DStore) (ok : smStore 9223372036854775807 x) : laws_FnExactNewEngine_m x = true := by
  unfold laws_FnExactNewEngine_m
  rw [laws_toStore_eq, ← NewEngine_same, laws_eqEngine_refl, bne_self_eq_false, laws_eqStore_refl]
  cases hs : decide (laws_szStore_m x 1048576 < 0) with
  | true => rfl
  | false =>
    obtain ⟨h1, _, _⟩ := sz_small laws_szStore_ok ok (by omega) (by omega) hs
    have hi := NewEngine_wt x
    obtain ⟨p1, q1, _⟩ := laws_markStore_ok.go x 1 (by omega) (by omega)
    obtain ⟨p2, _, r2⟩ := laws_markEngine_ok.go (impl_NewEngine_m x).1 1 (by omega) (by omega)
    have r3 : laws_heldEngine_m (⟨⟨(laws_markEngine_m (impl_NewEngine_m x).1 1).2.Store.Segments, (impl_NewEngine_m x).1.Store.Now⟩, (impl_NewEngine_m x).1.Cursor, (laws_markEngine_m (impl_NewEngine_m x).1 1).2.Order, (laws_markEngine_m (impl_NewEngine_m x).1 1).2.Active, (laws_markEngine_m (impl_NewEngine_m x).1 1).2.Done, (laws_markEngine_m (impl_NewEngine_m x).1 1).2.Ledger, (impl_NewEngine_m x).1.Steps⟩ : DEngine) 1 = (laws_markEngine_m (impl_NewEngine_m x).1 1).1 := r2
    rw [r3, decide_eq_false (by omega), decide_eq_false (by omega), bne_self_eq_false]
    rfl

end Go.Proofs.Ytfjhiegahdknmaa
