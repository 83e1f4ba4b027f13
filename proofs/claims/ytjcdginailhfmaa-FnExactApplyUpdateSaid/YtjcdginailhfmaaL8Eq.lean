/-
  The program and the reference compute the same: plain laws over what the walks showed.
-/
import Derived.Test.YtjcdginailhfmaaL8Law
namespace Go.Proofs.Ytjcdginailhfmaa
open Go.RowKit
theorem Room_cases (x : DStore) : (rng (R := Int) (fun k (_ : Unit) => spec_l8Room_b1 x k) (x.Segments.length - 0) 0 () = .inr () ∧ spec_l8Room_m x < 0) ∨ (rng (R := Int) (fun k (_ : Unit) => spec_l8Room_b1 x k) (x.Segments.length - 0) 0 () = .inl (spec_l8Room_m x) ∧ ¬ spec_l8Room_m x < 0) := by
  have hr := spec_Room_fact x
  unfold spec_l8Room_m at hr ⊢
  cases h : rng (R := Int) (fun k (_ : Unit) => spec_l8Room_b1 x k) (x.Segments.length - 0) 0 () with
  | inr s => exact .inl ⟨rfl, by show (-1 : Int) < 0; decide⟩
  | inl r =>
    refine .inr ⟨rfl, ?_⟩
    rw [h] at hr
    have hr' : r < 0 ∨ (0 ≤ r ∧ r.toNat < x.Segments.length ∧ (gt x.Segments r.toNat).length < 4) := hr
    show ¬ r < 0
    rcases hr' with h1 | h1
    · exfalso
      rcases rng_find (P := fun r : Int => 0 ≤ r) (n := x.Segments.length) (b := fun k (_ : Unit) => spec_l8Room_b1 x k) (fun j hj => by
        show (∃ r, spec_l8Room_b1 x j = .inl r ∧ _) ∨ spec_l8Room_b1 x j = .inr ()
        unfold spec_l8Room_b1
        cases decide (((gt x.Segments j).length : Int) < 4) with
        | true => exact .inl ⟨_, rfl, by omega⟩
        | false => exact .inr rfl) (x.Segments.length - 0) 0 (by omega) with ⟨q, e1, e2⟩ | e1
      · rw [h] at e1; cases e1; omega
      · rw [h] at e1; cases e1
    · omega
theorem Room_loop (x : DStore) {segs : List (List DVersion)} (hl : ∀ j, (gt segs j).length = (gt x.Segments j).length) {F : Nat → DStore × Bool} {b : Nat → Unit → (DStore × Bool) ⊕ Unit} (hb : ∀ j, b j () = cond (decide ((((gt segs j).length : Nat) : Int) < 4)) (.inl (F j)) (.inr ())) {y : DStore × Bool} :
    Sum.elim id (fun (_ : Unit) => y) (rng b (x.Segments.length - 0) 0 ()) = cond (decide (spec_l8Room_m x < 0)) y (F (spec_l8Room_m x).toNat) := by
  rw [rng_idx (c := fun j => decide ((((gt segs j).length : Nat) : Int) < 4)) (F := F) (b' := fun k (_ : Unit) => spec_l8Room_b1 x k) hb (fun j => by unfold spec_l8Room_b1; rw [hl])]
  rcases Room_cases x with ⟨h1, h2⟩ | ⟨h1, h2⟩
  · rw [h1, decide_eq_true h2]; rfl
  · rw [h1, decide_eq_false h2]; rfl
theorem ApplyUpdate_same (x : DStore) (u : DUpdate) : impl_ApplyUpdate_m x u = spec_ApplyUpdate_m x u := by
  unfold impl_ApplyUpdate_m spec_ApplyUpdate_m
  rw [IsStore_same, IsUpdate_same]
  cases hs : spec_IsStore_m x with
  | false => rfl
  | true =>
  cases hu : spec_IsUpdate_m u with
  | false => rfl
  | true =>
    obtain ⟨_, hn, _, _⟩ := spec_Store_vers hs
    obtain ⟨hk, _, _, _⟩ := spec_Update_fact hu
    have e0 : impl_findAlive_m x u.Row.Id = spec_l8Find_m x u.Row.Id := rfl
    have e1 : (x.Now == 100000) = decide (100000 ≤ x.Now) := by
      by_cases h : x.Now = 100000
      · rw [beq_iff_eq.2 h, decide_eq_true (by omega)]
      · rw [beq_eq_false_iff_ne.2 h, decide_eq_false (by omega)]
    rw [e0, e1]
    cases decide (100000 ≤ x.Now) with
    | true => rfl
    | false =>
    by_cases hr : (spec_l8Find_m x u.Row.Id).1 < 0
    · rw [decide_eq_true hr, decide_eq_false (show ¬ 0 ≤ (spec_l8Find_m x u.Row.Id).1 by omega)]
      by_cases k1 : u.Kind = 1
      · rw [beq_iff_eq.2 k1, beq_eq_false_iff_ne.2 (show ¬ u.Kind = 3 by omega), beq_eq_false_iff_ne.2 (show ¬ u.Kind = 2 by omega), bne_iff_ne.2 (show u.Kind ≠ 2 by omega)]
        exact Room_loop x (segs := x.Segments) (fun _ => rfl) (b := fun k (_ : Unit) => impl_ApplyUpdate_b4 x u k) (fun j => rfl)
      · rw [beq_eq_false_iff_ne.2 k1]; rfl
    · rw [decide_eq_false hr, decide_eq_true (show 0 ≤ (spec_l8Find_m x u.Row.Id).1 by omega)]
      have hl : ∀ j, (gt (x.Segments.set (impl_findAlive_m x u.Row.Id).1.toNat (impl_ApplyUpdate_v1 x u)) j).length = (gt x.Segments j).length := fun j => gtset_len List.length_set j
      rcases hk with k1 | k2 | k3
      · rw [beq_iff_eq.2 k1]; rfl
      · rw [beq_iff_eq.2 k2, beq_eq_false_iff_ne.2 (show ¬ u.Kind = 1 by omega), beq_eq_false_iff_ne.2 (show ¬ u.Kind = 3 by omega), show (u.Kind != 2) = false from by rw [k2]; rfl]
        rfl
      · rw [beq_iff_eq.2 k3, beq_eq_false_iff_ne.2 (show ¬ u.Kind = 1 by omega), beq_eq_false_iff_ne.2 (show ¬ u.Kind = 2 by omega), bne_iff_ne.2 (show u.Kind ≠ 2 by omega)]
        exact Room_loop x hl (b := fun k (_ : Unit) => impl_ApplyUpdate_b1 x u k) (fun j => rfl)
def smP (n : Nat) (z : List DVersion) : Prop := z.length ≤ n ∧ ∀ v ∈ z, v.Values.length ≤ 3
theorem smP_set {n : Nat} {z : List DVersion} (h : smP n z) (k : Nat) {v : DVersion} (hv : v.Values.length ≤ 3) : smP n (z.set k v) :=
  ⟨by rw [List.length_set]; exact h.1, fun y hy => (List.mem_or_eq_of_mem_set hy).elim (h.2 y) (fun e => e ▸ hv)⟩
theorem smP_app {n : Nat} {z : List DVersion} (h : smP n z) {v : DVersion} (hv : v.Values.length ≤ 3) : smP (n + 1) (z ++ [v]) :=
  ⟨by simp only [List.length_append, List.length_cons, List.length_nil]; have := h.1; omega, fun y hy => (List.mem_append.1 hy).elim (h.2 y) (fun e => by rw [List.mem_singleton.1 e]; exact hv)⟩
theorem smP_gt {n : Nat} {s : List (List DVersion)} (h : ∀ z ∈ s, smP n z) (i : Nat) : smP n (gt s i) := by
  by_cases hi : i < s.length
  · exact h _ (gt_mem hi)
  · have : gt s i = [] := by unfold gt; rw [List.getD_eq_getElem?_getD, List.getElem?_eq_none (by omega)]; rfl
    rw [this]; exact ⟨Nat.zero_le _, fun v hv => by cases hv⟩
theorem smP_vals {n : Nat} {z : List DVersion} (h : smP n z) (k : Nat) : (gt z k).Values.length ≤ 3 := by
  by_cases hk : k < z.length
  · exact h.2 _ (gt_mem hk)
  · have : gt z k = default := by unfold gt; rw [List.getD_eq_getElem?_getD, List.getElem?_eq_none (by omega)]; rfl
    rw [this]; exact Nat.zero_le _
theorem smP_mono {n m : Nat} (h : n ≤ m) {z : List DVersion} (hz : smP n z) : smP m z := ⟨Nat.le_trans hz.1 h, hz.2⟩
theorem smP_sets {n : Nat} {s : List (List DVersion)} (h : ∀ z ∈ s, smP n z) (i : Nat) {y : List DVersion} (hy : smP n y) : ∀ z ∈ s.set i y, smP n z := fun z hz => (List.mem_or_eq_of_mem_set hz).elim (h z) (fun e => e ▸ hy)
theorem spec_ApplyUpdate_key (x : DStore) (u : DUpdate) : (spec_ApplyUpdate_m x u).1 = x ∨ ((spec_ApplyUpdate_m x u).1.Segments.length ≤ 8 ∧ ∀ z ∈ (spec_ApplyUpdate_m x u).1.Segments, smP 5 z) := by
  unfold spec_ApplyUpdate_m
  cases hs : spec_IsStore_m x with
  | false => exact .inl rfl
  | true =>
  cases hu : spec_IsUpdate_m u with
  | false => exact .inl rfl
  | true =>
    obtain ⟨⟨_, hl⟩, _, h4, hv⟩ := spec_Store_vers hs
    obtain ⟨_, _, u1, u2⟩ := spec_Update_fact hu
    have hp : ∀ z ∈ x.Segments, smP 4 z := fun z hz => ⟨h4 z hz, fun v hvz => by rw [spec_Version_len (hv z hz v hvz)]; omega⟩
    have hp5 : ∀ z ∈ x.Segments, smP 5 z := fun z hz => smP_mono (by omega) (hp z hz)
    have hr : u.Row.Values.length ≤ 3 := by by_cases k : u.Kind = 1 <;> omega
    have hv1 : smP 4 (spec_ApplyUpdate_v1 x u) := smP_set (smP_gt hp _) _ (smP_vals (smP_gt hp _) _)
    have hs1 := smP_sets hp (spec_l8Find_m x u.Row.Id).1.toNat hv1
    have hs5 := smP_sets hp5 (spec_l8Find_m x u.Row.Id).1.toNat (smP_mono (m := 5) (by omega) hv1)
    have hlv := smP_vals (smP_gt hp (spec_l8Find_m x u.Row.Id).1.toNat) (spec_l8Find_m x u.Row.Id).2.toNat
    cases decide (100000 ≤ x.Now) with
    | true => exact .inl rfl
    | false =>
    cases ((u.Kind == 1) != decide ((spec_l8Find_m x u.Row.Id).1 < 0)) with
    | true => exact .inl rfl
    | false =>
    cases (u.Kind != 2) with
    | false =>
      cases decide (0 ≤ (spec_l8Find_m x u.Row.Id).1) <;> cases (u.Kind == 3) <;> first | exact (.inr ⟨hl, hp5⟩) | exact (.inr ⟨by show (List.set _ _ _).length ≤ 8; rw [List.length_set]; exact hl, hs5⟩)
    | true =>
    cases decide (spec_l8Room_m x < 0) with
    | true => exact .inl rfl
    | false =>
      cases decide (0 ≤ (spec_l8Find_m x u.Row.Id).1) with
      | true =>
        cases (u.Kind == 3)
        · exact .inr ⟨(by first | (show (List.set (List.set _ _ _) _ _).length ≤ 8; simp only [List.length_set]; exact hl) | (show (List.set _ _ _).length ≤ 8; simp only [List.length_set]; exact hl)), (smP_sets hs5 _ (smP_app (smP_gt hs1 _) hlv))⟩
        · exact .inr ⟨(by first | (show (List.set (List.set _ _ _) _ _).length ≤ 8; simp only [List.length_set]; exact hl) | (show (List.set _ _ _).length ≤ 8; simp only [List.length_set]; exact hl)), (smP_sets hs5 _ (smP_app (smP_gt hs1 _) (by rw [List.length_set]; exact hlv)))⟩
      | false =>
        cases (u.Kind == 3)
        · exact .inr ⟨(by first | (show (List.set (List.set _ _ _) _ _).length ≤ 8; simp only [List.length_set]; exact hl) | (show (List.set _ _ _).length ≤ 8; simp only [List.length_set]; exact hl)), (smP_sets hp5 _ (smP_app (smP_gt hp _) hr))⟩
        · exact .inr ⟨(by first | (show (List.set (List.set _ _ _) _ _).length ≤ 8; simp only [List.length_set]; exact hl) | (show (List.set _ _ _).length ≤ 8; simp only [List.length_set]; exact hl)), (smP_sets hp5 _ (smP_app (smP_gt hp _) (by rw [List.length_set]; exact hr)))⟩
theorem smP_wt {s : List (List DVersion)} (hl : s.length ≤ 8) (h : ∀ z ∈ s, smP 5 z) : wtS (wtS wtVersion) s ≤ 168 := by
  have h1 : ∀ z ∈ s, wtS wtVersion z ≤ 20 := fun z hz => by
    obtain ⟨a, b⟩ := h z hz
    have := sum_le_mul (w := wtVersion) (c := 3) (xs := z) (fun j hj => b _ (gt_mem hj))
    have e : wtS wtVersion z = z.length + (z.map wtVersion).sum := rfl
    omega
  have := sum_le_mul (w := wtS wtVersion) (c := 20) (xs := s) (fun j hj => h1 _ (gt_mem hj))
  have e : wtS (wtS wtVersion) s = s.length + (s.map (wtS wtVersion)).sum := rfl
  omega
theorem spec_ApplyUpdate_wt (x : DStore) (u : DUpdate) : wtStore (spec_ApplyUpdate_m x u).1 ≤ wtStore x ∨ wtStore (spec_ApplyUpdate_m x u).1 ≤ 168 := by
  rcases spec_ApplyUpdate_key x u with e | ⟨e1, e2⟩
  · rw [e]; exact .inl (Nat.le_refl _)
  · exact .inr (smP_wt e1 e2)
theorem law_ApplyUpdate (x : DStore) (u : DUpdate) (ok : smStore 9223372036854775807 x) (hy : smUpdate 9223372036854775807 u) : laws_FnExactApplyUpdate_m x u = true := by
  unfold laws_FnExactApplyUpdate_m
  rw [laws_toStore_eq, laws_toUpdate_eq, ← ApplyUpdate_same, laws_eqStore_refl, bne_self_eq_false, laws_eqStore_refl, laws_eqUpdate_refl]
  cases hs : decide (laws_szStore_m x 1048576 < 0) with
  | true => rfl
  | false =>
  cases hk : decide (laws_szUpdate_m u (laws_szStore_m x 1048576) < 0) with
  | true => rfl
  | false =>
    obtain ⟨h1, h1b, h1c⟩ := sz_small laws_szStore_ok ok (by omega) (by omega) hs
    obtain ⟨h2, _, _⟩ := sz_small laws_szUpdate_ok hy (by omega) (by omega) hk
    have hi := spec_ApplyUpdate_wt x u
    rw [← ApplyUpdate_same] at hi
    have e5 : wtUpdate u = u.Row.Values.length := rfl
    have q1 := laws_markStore_ok.go x 1 (by omega) (by omega)
    have q3 := laws_markUpdate_ok.go u (laws_markStore_m x 1).1 (by omega) (by omega)
    obtain ⟨p2, _, r2⟩ := laws_markStore_ok.go (impl_ApplyUpdate_m x u).1 1 (by omega) (by omega)
    have r3 : laws_heldStore_m (⟨(laws_markStore_m (impl_ApplyUpdate_m x u).1 1).2.Segments, (impl_ApplyUpdate_m x u).1.Now⟩ : DStore) 1 = (laws_markStore_m (impl_ApplyUpdate_m x u).1 1).1 := r2
    rw [r3, decide_eq_false (by omega), decide_eq_false (by omega), bne_self_eq_false]
    rfl

end Go.Proofs.Ytjcdginailhfmaa
