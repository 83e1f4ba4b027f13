/-
  The program and the reference compute the same: plain laws over what the walks showed.
-/
import Derived.Test.YtjcdginailhfmaaL9Law
namespace Go.Proofs.Ytjcdginailhfmaa
open Go.RowKit
theorem smP_wt {s : List (List DVersion)} (hl : s.length ≤ 8) (h : ∀ z ∈ s, smP 5 z) : wtS (wtS wtVersion) s ≤ 168 := by
  have h1 : ∀ z ∈ s, wtS wtVersion z ≤ 20 := fun z hz => by
    obtain ⟨a, b⟩ := h z hz
    have := sum_le_mul (w := wtVersion) (c := 3) (xs := z) (fun j hj => b _ (gt_mem hj))
    have e : wtS wtVersion z = z.length + (z.map wtVersion).sum := rfl
    omega
  have := sum_le_mul (w := wtS wtVersion) (c := 20) (xs := s) (fun j hj => h1 _ (gt_mem hj))
  have e : wtS (wtS wtVersion) s = s.length + (s.map (wtS wtVersion)).sum := rfl
  omega
theorem spec_ApplyUpdate_wt (x : DStore) (u : DUpdate) : wtStore (spec_ApplyUpdate_m x u).1 ≤ wtStore x ∨ wtStore (spec_ApplyUpdate_m x u).1 ≤ 168 := by
  rcases spec_ApplyUpdate_key x u with e | ⟨e1, e2⟩
  · rw [e]; exact .inl (Nat.le_refl _)
  · exact .inr (smP_wt e1 e2)
theorem ApplyUpdates_same (x : DStore) (y : List DUpdate) : impl_ApplyUpdates_m x y = spec_ApplyUpdates_m x y := by
  unfold impl_ApplyUpdates_m spec_ApplyUpdates_m
  have h : (fun k (s : Int × (List (List DVersion)) × Int) => impl_ApplyUpdates_b1 y k s.1 s.2.1 s.2.2) = fun k (s : Int × (List (List DVersion)) × Int) => spec_ApplyUpdates_b1 y k s.1 s.2.1 s.2.2 := by
    funext k s; unfold impl_ApplyUpdates_b1 spec_ApplyUpdates_b1; rw [ApplyUpdate_same]
  rw [h]
theorem spec_ApplyUpdates_wt (x : DStore) (y : List DUpdate) : wtStore (spec_ApplyUpdates_m x y).1 ≤ wtStore x + 168 := by
  unfold spec_ApplyUpdates_m
  obtain ⟨s', h1, h2⟩ := rng_inv (R := DStore × Int) (body := fun k (s : Int × (List (List DVersion)) × Int) => spec_ApplyUpdates_b1 y k s.1 s.2.1 s.2.2) (n := y.length) (fun _ s => wtStore ⟨s.2.1, s.2.2⟩ ≤ wtStore x + 168) (fun j s _ hs => by
    have hw := spec_ApplyUpdate_wt ⟨s.2.1, s.2.2⟩ (gt y j)
    have hle : wtStore (spec_ApplyUpdate_m ⟨s.2.1, s.2.2⟩ (gt y j)).1 ≤ wtStore x + 168 := by rcases hw with h | h <;> omega
    show ∃ s', spec_ApplyUpdates_b1 y j s.1 s.2.1 s.2.2 = .inr s' ∧ _
    unfold spec_ApplyUpdates_b1
    cases (spec_ApplyUpdate_m ⟨s.2.1, s.2.2⟩ (gt y j)).2
    · exact ⟨_, rfl, hle⟩
    · exact ⟨_, rfl, hle⟩) (y.length - 0) 0 (0, x.Segments, x.Now) (by omega) (by show wtStore x ≤ _; omega)
  rw [h1]
  exact h2
theorem law_ApplyUpdates (x : DStore) (y : List DUpdate) (ok : smStore 9223372036854775807 x) (hy : y.length ≤ 9223372036854775807 ∧ ∀ z ∈ y, smUpdate 9223372036854775807 z) : laws_FnExactApplyUpdates_m x y = true := by
  unfold laws_FnExactApplyUpdates_m
  rw [laws_toStore_eq, laws_toUpdateS_eq, ← ApplyUpdates_same, laws_eqStore_refl, bne_self_eq_false, laws_eqStore_refl, laws_eqUpdateS_refl]
  cases hs : decide (laws_szStore_m x 1048576 < 0) with
  | true => rfl
  | false =>
  cases hk : decide (laws_szUpdateS_m y (laws_szStore_m x 1048576) < 0) with
  | true => rfl
  | false =>
    obtain ⟨h1, h1b, h1c⟩ := sz_small laws_szStore_ok ok (by omega) (by omega) hs
    obtain ⟨h2, _, _⟩ := sz_small laws_szUpdateS_ok hy (by omega) (by omega) hk
    have hi := spec_ApplyUpdates_wt x y
    rw [← ApplyUpdates_same] at hi
    have q1 := laws_markStore_ok.go x 1 (by omega) (by omega)
    have q3 := laws_markUpdateS_ok.go y (laws_markStore_m x 1).1 (by omega) (by omega)
    obtain ⟨p2, _, r2⟩ := laws_markStore_ok.go (impl_ApplyUpdates_m x y).1 1 (by omega) (by omega)
    have r3 : laws_heldStore_m (⟨(laws_markStore_m (impl_ApplyUpdates_m x y).1 1).2.Segments, (impl_ApplyUpdates_m x y).1.Now⟩ : DStore) 1 = (laws_markStore_m (impl_ApplyUpdates_m x y).1 1).1 := r2
    rw [r3, decide_eq_false (by omega), decide_eq_false (by omega), bne_self_eq_false]
    rfl

end Go.Proofs.Ytjcdginailhfmaa
