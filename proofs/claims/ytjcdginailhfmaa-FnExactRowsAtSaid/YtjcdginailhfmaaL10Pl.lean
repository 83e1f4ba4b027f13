/-
  Plain laws of the functions that the law runs over its arguments.
-/
import Derived.Test.YtjcdginailhfmaaL10F3
import Derived.Test.YtjcdginailhfmaaVcP
namespace Go.Proofs.Ytjcdginailhfmaa
open Go.RowKit
theorem laws_szIntS_ok : SzOk laws_szIntS_m List.length (fun x => x.length ≤ 9223372036854775807) := sz_len (fun _ _ => rfl)
def wtVersion (x : DVersion) : Nat := x.Values.length
theorem smVersion_wt {B : Nat} {x : DVersion} (h : wtVersion x ≤ B) : smVersion B x := by
  unfold wtVersion at h
  unfold smVersion
  exact (by omega)
theorem tyLVersion_sm {w : World} {B : Nat} {cs : List Value} {x : DVersion} (h : tyLVersion.rd w B cs x) : smVersion 9223372036854775807 x := by
  obtain ⟨_, _, _, _, ⟨_, _, _, ⟨_, _, h1⟩, ⟨_, _, _, _, _⟩⟩⟩ := h
  unfold smVersion
  exact h1.1
theorem laws_szVersion_ok : SzOk laws_szVersion_m wtVersion (fun x => smVersion 9223372036854775807 x) := ⟨fun x k hx h0 h1 => by
  unfold laws_szVersion_m wtVersion
  unfold smVersion at hx
  refine sz_step (laws_szIntS_ok.go _ _ hx h0 h1) (by omega) (by omega) fun a0 b0 c0 => ?_
  right; omega⟩
theorem laws_szVersionS_ok : SzOk laws_szVersionS_m (wtS wtVersion) (fun x => (x.length ≤ 9223372036854775807 ∧ ∀ y ∈ x, smVersion 9223372036854775807 y)) := sz_list laws_szVersion_ok (fun _ _ => rfl)
theorem laws_szVersionSS_ok : SzOk laws_szVersionSS_m (wtS (wtS wtVersion)) (fun x => (x.length ≤ 9223372036854775807 ∧ ∀ y ∈ x, (y.length ≤ 9223372036854775807 ∧ ∀ y1 ∈ y, smVersion 9223372036854775807 y1))) := sz_list laws_szVersionS_ok (fun _ _ => rfl)
def wtStore (x : DStore) : Nat := wtS (wtS wtVersion) x.Segments
theorem smStore_wt {B : Nat} {x : DStore} (h : wtStore x ≤ B) : smStore B x := by
  unfold wtStore at h
  unfold smStore
  exact (sm_wtS (by omega) fun y h => (sm_wtS (h) fun y h => (smVersion_wt (h))))
theorem tyLStore_sm {w : World} {B : Nat} {cs : List Value} {x : DStore} (h : tyLStore.rd w B cs x) : smStore 9223372036854775807 x := by
  obtain ⟨_, _, _, ⟨_, _, h0⟩, _⟩ := h
  unfold smStore
  exact (rdS_sm h0 fun _ _ h => (by obtain ⟨_, _, h⟩ := h; exact (rdS_sm h fun _ _ h => (tyLVersion_sm h))))
theorem laws_szStore_ok : SzOk laws_szStore_m wtStore (fun x => smStore 9223372036854775807 x) := ⟨fun x k hx h0 h1 => by
  unfold laws_szStore_m wtStore
  unfold smStore at hx
  refine sz_step (laws_szVersionSS_ok.go _ _ hx h0 h1) (by omega) (by omega) fun a0 b0 c0 => ?_
  right; omega⟩
theorem laws_toIntS_eq (x : (List Int)) : laws_toIntS_m x = x := by
  unfold laws_toIntS_m
  rw [rng_copy (b := fun k s => laws_toIntS_b1 x k s) (xs := x) (by simp) (fun j s _ => rfl)]
  rfl
theorem laws_toVersion_eq (x : DVersion) : laws_toVersion_m x = x := by
  unfold laws_toVersion_m
  simp only [laws_toIntS_eq]
theorem laws_toVersionS_eq (x : (List DVersion)) : laws_toVersionS_m x = x := by
  unfold laws_toVersionS_m
  rw [rng_copy (b := fun k s => laws_toVersionS_b1 x k s) (xs := x) (by simp) (fun j s _ => by
    show Sum.inr (s.set j (laws_toVersion_m (gt x j))) = _
    rw [laws_toVersion_eq])]
  rfl
theorem laws_toVersionSS_eq (x : (List (List DVersion))) : laws_toVersionSS_m x = x := by
  unfold laws_toVersionSS_m
  rw [rng_copy (b := fun k s => laws_toVersionSS_b1 x k s) (xs := x) (by simp) (fun j s _ => by
    show Sum.inr (s.set j (laws_toVersionS_m (gt x j))) = _
    rw [laws_toVersionS_eq])]
  rfl
theorem laws_toStore_eq (x : DStore) : laws_toStore_m x = x := by
  unfold laws_toStore_m
  simp only [laws_toVersionSS_eq]
theorem laws_eqIntS_refl (x : (List Int)) : laws_eqIntS_m x x = true := by
  unfold laws_eqIntS_m
  rw [bne_self_eq_false, cond_false, rng_all (fun j _ => by simp only [laws_eqIntS_b1, bne_self_eq_false, cond_false])]
  rfl
def wtRow (x : DRow) : Nat := x.Values.length
theorem smRow_wt {B : Nat} {x : DRow} (h : wtRow x ≤ B) : smRow B x := by
  unfold wtRow at h
  unfold smRow
  exact (by omega)
theorem laws_eqRow_refl (x : DRow) : laws_eqRow_m x x = true := by
  simp only [laws_eqRow_m, bne_self_eq_false, cond_false, cond_true, laws_eqIntS_refl]
theorem laws_eqRowS_refl (x : (List DRow)) : laws_eqRowS_m x x = true := by
  unfold laws_eqRowS_m
  rw [bne_self_eq_false, cond_false, rng_all (fun j _ => by simp only [laws_eqRowS_b1, cond_true, laws_eqRow_refl])]
  rfl
theorem laws_eqVersion_refl (x : DVersion) : laws_eqVersion_m x x = true := by
  simp only [laws_eqVersion_m, bne_self_eq_false, cond_false, cond_true, laws_eqIntS_refl]
theorem laws_eqVersionS_refl (x : (List DVersion)) : laws_eqVersionS_m x x = true := by
  unfold laws_eqVersionS_m
  rw [bne_self_eq_false, cond_false, rng_all (fun j _ => by simp only [laws_eqVersionS_b1, cond_true, laws_eqVersion_refl])]
  rfl
theorem laws_eqVersionSS_refl (x : (List (List DVersion))) : laws_eqVersionSS_m x x = true := by
  unfold laws_eqVersionSS_m
  rw [bne_self_eq_false, cond_false, rng_all (fun j _ => by simp only [laws_eqVersionSS_b1, cond_true, laws_eqVersionS_refl])]
  rfl
theorem laws_eqStore_refl (x : DStore) : laws_eqStore_m x x = true := by
  simp only [laws_eqStore_m, bne_self_eq_false, cond_false, cond_true, laws_eqVersionSS_refl]
theorem laws_markIntS_e : MkOk (fun (_ : Int) (k : Int) => ((IntKind.i64.wrap (k + 1)), (k : Int))) (fun (x : Int) (k : Int) => (cond ((x) != k) (Sum.inl (-1)) (Sum.inr (IntKind.i64.wrap (k + 1))) : Int ⊕ Int)) (fun _ => 0) := ⟨fun x k h0 h1 => by
  have w1 : IntKind.i64.wrap (k + 1) = k + 1 := wrap_id (by omega) (by omega)
  simp only [w1]
  exact ⟨by omega, by omega, by simp only [bne_self_eq_false, cond_false]⟩⟩
theorem laws_markIntS_ok : MkF laws_markIntS_m laws_heldIntS_m List.length := MkF_list laws_markIntS_e (b := fun _ k s => laws_markIntS_b1 k s.1 s.2) (hb := fun x k s => laws_heldIntS_b1 x k s) (fun x => wtS_zero x) (fun _ _ => rfl) (fun _ _ => rfl) (fun _ _ _ => rfl) (fun _ _ _ => rfl)
theorem laws_markVersionS_e : MkOkB (fun (x : DVersion) (k : Int) => ((IntKind.i64.wrap ((IntKind.i64.wrap (((laws_markIntS_m ((x).Values) (IntKind.i64.wrap (k + 1))).1) + 1)) + 1)), ((⟨k, (laws_markIntS_m ((x).Values) (IntKind.i64.wrap (k + 1))).2, (laws_markIntS_m ((x).Values) (IntKind.i64.wrap (k + 1))).1, (IntKind.i64.wrap (((laws_markIntS_m ((x).Values) (IntKind.i64.wrap (k + 1))).1) + 1))⟩ : DVersion) : DVersion))) wtVersion := ⟨fun x k h0 h1 => by
  unfold wtVersion at h1 ⊢
  have w1 : IntKind.i64.wrap (k + 1) = k + 1 := wrap_id (by omega) (by omega)
  obtain ⟨p2, q2⟩ := laws_markIntS_ok.b.go x.Values (k + 1) (by omega) (by omega)
  have w3 : IntKind.i64.wrap ((laws_markIntS_m x.Values (k + 1)).1 + 1) = (laws_markIntS_m x.Values (k + 1)).1 + 1 := wrap_id (by omega) (by omega)
  have w4 : IntKind.i64.wrap ((laws_markIntS_m x.Values (k + 1)).1 + 1 + 1) = (laws_markIntS_m x.Values (k + 1)).1 + 1 + 1 := wrap_id (by omega) (by omega)
  simp only [w1, w3, w4]
  exact ⟨by omega, by omega⟩⟩
theorem laws_markVersionS_ok : MkB laws_markVersionS_m (wtS wtVersion) := MkB_list laws_markVersionS_e (b := fun _ k s => laws_markVersionS_b1 k s.1 s.2) (fun x => rfl) (fun _ _ => rfl) (fun _ _ _ => rfl)
theorem laws_markVersionSS_e : MkOkB (fun (x : (List DVersion)) (k : Int) => ((laws_markVersionS_m (x) k).1, (((laws_markVersionS_m (x) k).2) : (List DVersion)))) (wtS wtVersion) := ⟨fun x k h0 h1 => by
  obtain ⟨p1, q1⟩ := laws_markVersionS_ok.go x k (by omega) (by omega)
  exact ⟨by omega, by omega⟩⟩
theorem laws_markVersionSS_ok : MkB laws_markVersionSS_m (wtS (wtS wtVersion)) := MkB_list laws_markVersionSS_e (b := fun _ k s => laws_markVersionSS_b1 k s.1 s.2) (fun x => rfl) (fun _ _ => rfl) (fun _ _ _ => rfl)
theorem laws_markStore_ok : MkB laws_markStore_m wtStore := ⟨fun x k h0 h1 => by
  unfold wtStore at h1 ⊢
  obtain ⟨p1, q1⟩ := laws_markVersionSS_ok.go x.Segments k (by omega) (by omega)
  unfold laws_markStore_m
  exact ⟨by dsimp only; omega, by dsimp only; omega⟩⟩
theorem laws_markRowS_e : MkOk (fun (x : DRow) (k : Int) => ((laws_markIntS_m ((x).Values) (IntKind.i64.wrap (k + 1))).1, ((⟨k, (laws_markIntS_m ((x).Values) (IntKind.i64.wrap (k + 1))).2⟩ : DRow) : DRow))) (fun (x : DRow) (k : Int) => (cond (((x).Id) != k) (Sum.inl (-1)) (cond (decide ((laws_heldIntS_m ((x).Values) (IntKind.i64.wrap (k + 1))) < 0)) (Sum.inl (-1)) (Sum.inr (laws_heldIntS_m ((x).Values) (IntKind.i64.wrap (k + 1))))) : Int ⊕ Int)) wtRow := ⟨fun x k h0 h1 => by
  unfold wtRow at h1 ⊢
  have w1 : IntKind.i64.wrap (k + 1) = k + 1 := wrap_id (by omega) (by omega)
  obtain ⟨p2, q2, r2⟩ := laws_markIntS_ok.go x.Values (k + 1) (by omega) (by omega)
  have d2 : decide ((laws_markIntS_m x.Values (k + 1)).1 < 0) = false := decide_eq_false (by omega)
  simp only [w1]
  exact ⟨by omega, by omega, by simp only [bne_self_eq_false, r2, d2, cond_false, w1]⟩⟩
theorem laws_markRowS_ok : MkF laws_markRowS_m laws_heldRowS_m (wtS wtRow) := MkF_list laws_markRowS_e (b := fun _ k s => laws_markRowS_b1 k s.1 s.2) (hb := fun x k s => laws_heldRowS_b1 x k s) (fun x => rfl) (fun _ _ => rfl) (fun _ _ => rfl) (fun _ _ _ => rfl) (fun _ _ _ => rfl)
end Go.Proofs.Ytjcdginailhfmaa
