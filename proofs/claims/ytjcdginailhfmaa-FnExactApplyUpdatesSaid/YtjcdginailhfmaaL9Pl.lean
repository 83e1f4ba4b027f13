/-
  Plain laws of the functions that the law runs over its arguments.
-/
import Derived.Test.YtjcdginailhfmaaL9F5
import Derived.Test.YtjcdginailhfmaaVcP
namespace Go.Proofs.Ytjcdginailhfmaa
open Go.RowKit
theorem laws_szIntS_ok : SzOk laws_szIntS_m List.length (fun x => x.length ≤ 9223372036854775807) := sz_len (fun _ _ => rfl)
def wtVersion (x : DVersion) : Nat := x.Values.length
theorem smVersion_wt {B : Nat} {x : DVersion} (h : wtVersion x ≤ B) : smVersion B x := by
  unfold wtVersion at h
  unfold smVersion
  exact (by omega)
theorem tyLVersion_sm {w : World} {B : Nat} {cs : List Value} {x : DVersion} (h : tyLVersion.rd w B cs x) : smVersion 9223372036854775807 x := by
  obtain ⟨_, _, _, _, ⟨_, _, _, ⟨_, _, h1⟩, ⟨_, _, _, _, _⟩⟩⟩ := h
  unfold smVersion
  exact h1.1
theorem laws_szVersion_ok : SzOk laws_szVersion_m wtVersion (fun x => smVersion 9223372036854775807 x) := ⟨fun x k hx h0 h1 => by
  unfold laws_szVersion_m wtVersion
  unfold smVersion at hx
  refine sz_step (laws_szIntS_ok.go _ _ hx h0 h1) (by omega) (by omega) fun a0 b0 c0 => ?_
  right; omega⟩
theorem laws_szVersionS_ok : SzOk laws_szVersionS_m (wtS wtVersion) (fun x => (x.length ≤ 9223372036854775807 ∧ ∀ y ∈ x, smVersion 9223372036854775807 y)) := sz_list laws_szVersion_ok (fun _ _ => rfl)
theorem laws_szVersionSS_ok : SzOk laws_szVersionSS_m (wtS (wtS wtVersion)) (fun x => (x.length ≤ 9223372036854775807 ∧ ∀ y ∈ x, (y.length ≤ 9223372036854775807 ∧ ∀ y1 ∈ y, smVersion 9223372036854775807 y1))) := sz_list laws_szVersionS_ok (fun _ _ => rfl)
def wtStore (x : DStore) : Nat := wtS (wtS wtVersion) x.Segments
theorem smStore_wt {B : Nat} {x : DStore} (h : wtStore x ≤ B) : smStore B x := by
  unfold wtStore at h
  unfold smStore
  exact (sm_wtS (by omega) fun y h => (sm_wtS (h) fun y h => (smVersion_wt (h))))
theorem tyLStore_sm {w : World} {B : Nat} {cs : List Value} {x : DStore} (h : tyLStore.rd w B cs x) : smStore 9223372036854775807 x := by
  obtain ⟨_, _, _, ⟨_, _, h0⟩, _⟩ := h
  unfold smStore
  exact (rdS_sm h0 fun _ _ h => (by obtain ⟨_, _, h⟩ := h; exact (rdS_sm h fun _ _ h => (tyLVersion_sm h))))
theorem laws_szStore_ok : SzOk laws_szStore_m wtStore (fun x => smStore 9223372036854775807 x) := ⟨fun x k hx h0 h1 => by
  unfold laws_szStore_m wtStore
  unfold smStore at hx
  refine sz_step (laws_szVersionSS_ok.go _ _ hx h0 h1) (by omega) (by omega) fun a0 b0 c0 => ?_
  right; omega⟩
def wtRow (x : DRow) : Nat := x.Values.length
theorem smRow_wt {B : Nat} {x : DRow} (h : wtRow x ≤ B) : smRow B x := by
  unfold wtRow at h
  unfold smRow
  exact (by omega)
theorem tyLRow_sm {w : World} {B : Nat} {cs : List Value} {x : DRow} (h : tyLRow.rd w B cs x) : smRow 9223372036854775807 x := by
  obtain ⟨_, _, _, _, ⟨_, _, h1⟩⟩ := h
  unfold smRow
  exact h1.1
theorem laws_szRow_ok : SzOk laws_szRow_m wtRow (fun x => smRow 9223372036854775807 x) := ⟨fun x k hx h0 h1 => by
  unfold laws_szRow_m wtRow
  unfold smRow at hx
  refine sz_step (laws_szIntS_ok.go _ _ hx h0 h1) (by omega) (by omega) fun a0 b0 c0 => ?_
  right; omega⟩
def wtUpdate (x : DUpdate) : Nat := wtRow x.Row
theorem smUpdate_wt {B : Nat} {x : DUpdate} (h : wtUpdate x ≤ B) : smUpdate B x := by
  unfold wtUpdate at h
  unfold smUpdate
  exact (smRow_wt (by omega))
theorem tyLUpdate_sm {w : World} {B : Nat} {cs : List Value} {x : DUpdate} (h : tyLUpdate.rd w B cs x) : smUpdate 9223372036854775807 x := by
  obtain ⟨_, _, _, _, ⟨_, _, _, h1, ⟨_, _, _, _, _⟩⟩⟩ := h
  unfold smUpdate
  exact (tyLRow_sm h1)
theorem laws_szUpdate_ok : SzOk laws_szUpdate_m wtUpdate (fun x => smUpdate 9223372036854775807 x) := ⟨fun x k hx h0 h1 => by
  unfold laws_szUpdate_m wtUpdate
  unfold smUpdate at hx
  refine sz_step (laws_szRow_ok.go _ _ hx h0 h1) (by omega) (by omega) fun a0 b0 c0 => ?_
  right; omega⟩
theorem laws_szUpdateS_ok : SzOk laws_szUpdateS_m (wtS wtUpdate) (fun x => (x.length ≤ 9223372036854775807 ∧ ∀ y ∈ x, smUpdate 9223372036854775807 y)) := sz_list laws_szUpdate_ok (fun _ _ => rfl)
theorem laws_toIntS_eq (x : (List Int)) : laws_toIntS_m x = x := by
  unfold laws_toIntS_m
  rw [rng_copy (b := fun k s => laws_toIntS_b1 x k s) (xs := x) (by simp) (fun j s _ => rfl)]
  rfl
theorem laws_toVersion_eq (x : DVersion) : laws_toVersion_m x = x := by
  unfold laws_toVersion_m
  simp only [laws_toIntS_eq]
theorem laws_toVersionS_eq (x : (List DVersion)) : laws_toVersionS_m x = x := by
  unfold laws_toVersionS_m
  rw [rng_copy (b := fun k s => laws_toVersionS_b1 x k s) (xs := x) (by simp) (fun j s _ => by
    show Sum.inr (s.set j (laws_toVersion_m (gt x j))) = _
    rw [laws_toVersion_eq])]
  rfl
theorem laws_toVersionSS_eq (x : (List (List DVersion))) : laws_toVersionSS_m x = x := by
  unfold laws_toVersionSS_m
  rw [rng_copy (b := fun k s => laws_toVersionSS_b1 x k s) (xs := x) (by simp) (fun j s _ => by
    show Sum.inr (s.set j (laws_toVersionS_m (gt x j))) = _
    rw [laws_toVersionS_eq])]
  rfl
theorem laws_toStore_eq (x : DStore) : laws_toStore_m x = x := by
  unfold laws_toStore_m
  simp only [laws_toVersionSS_eq]
theorem laws_toRow_eq (x : DRow) : laws_toRow_m x = x := by
  unfold laws_toRow_m
  simp only [laws_toIntS_eq]
theorem laws_toUpdate_eq (x : DUpdate) : laws_toUpdate_m x = x := by
  unfold laws_toUpdate_m
  simp only [laws_toRow_eq]
theorem laws_toUpdateS_eq (x : (List DUpdate)) : laws_toUpdateS_m x = x := by
  unfold laws_toUpdateS_m
  rw [rng_copy (b := fun k s => laws_toUpdateS_b1 x k s) (xs := x) (by simp) (fun j s _ => by
    show Sum.inr (s.set j (laws_toUpdate_m (gt x j))) = _
    rw [laws_toUpdate_eq])]
  rfl
theorem laws_eqIntS_refl (x : (List Int)) : laws_eqIntS_m x x = true := by
  unfold laws_eqIntS_m
  rw [bne_self_eq_false, cond_false, rng_all (fun j _ => by simp only [laws_eqIntS_b1, bne_self_eq_false, cond_false])]
  rfl
theorem laws_eqVersion_refl (x : DVersion) : laws_eqVersion_m x x = true := by
  simp only [laws_eqVersion_m, bne_self_eq_false, cond_false, cond_true, laws_eqIntS_refl]
theorem laws_eqVersionS_refl (x : (List DVersion)) : laws_eqVersionS_m x x = true := by
  unfold laws_eqVersionS_m
  rw [bne_self_eq_false, cond_false, rng_all (fun j _ => by simp only [laws_eqVersionS_b1, cond_true, laws_eqVersion_refl])]
  rfl
theorem laws_eqVersionSS_refl (x : (List (List DVersion))) : laws_eqVersionSS_m x x = true := by
  unfold laws_eqVersionSS_m
  rw [bne_self_eq_false, cond_false, rng_all (fun j _ => by simp only [laws_eqVersionSS_b1, cond_true, laws_eqVersionS_refl])]
  rfl
theorem laws_eqStore_refl (x : DStore) : laws_eqStore_m x x = true := by
  simp only [laws_eqStore_m, bne_self_eq_false, cond_false, cond_true, laws_eqVersionSS_refl]
theorem laws_eqRow_refl (x : DRow) : laws_eqRow_m x x = true := by
  simp only [laws_eqRow_m, bne_self_eq_false, cond_false, cond_true, laws_eqIntS_refl]
theorem laws_eqUpdate_refl (x : DUpdate) : laws_eqUpdate_m x x = true := by
  simp only [laws_eqUpdate_m, bne_self_eq_false, cond_false, cond_true, laws_eqRow_refl]
theorem laws_eqUpdateS_refl (x : (List DUpdate)) : laws_eqUpdateS_m x x = true := by
  unfold laws_eqUpdateS_m
  rw [bne_self_eq_false, cond_false, rng_all (fun j _ => by simp only [laws_eqUpdateS_b1, cond_true, laws_eqUpdate_refl])]
  rfl
theorem laws_markIntS_e : MkOk (fun (_ : Int) (k : Int) => ((IntKind.i64.wrap (k + 1)), (k : Int))) (fun (x : Int) (k : Int) => (cond ((x) != k) (Sum.inl (-1)) (Sum.inr (IntKind.i64.wrap (k + 1))) : Int ⊕ Int)) (fun _ => 0) := ⟨fun x k h0 h1 => by
  have w1 : IntKind.i64.wrap (k + 1) = k + 1 := wrap_id (by omega) (by omega)
  simp only [w1]
  exact ⟨by omega, by omega, by simp only [bne_self_eq_false, cond_false]⟩⟩
theorem laws_markIntS_ok : MkF laws_markIntS_m laws_heldIntS_m List.length := MkF_list laws_markIntS_e (b := fun _ k s => laws_markIntS_b1 k s.1 s.2) (hb := fun x k s => laws_heldIntS_b1 x k s) (fun x => wtS_zero x) (fun _ _ => rfl) (fun _ _ => rfl) (fun _ _ _ => rfl) (fun _ _ _ => rfl)
theorem laws_markVersionS_e : MkOk (fun (x : DVersion) (k : Int) => ((IntKind.i64.wrap ((IntKind.i64.wrap (((laws_markIntS_m ((x).Values) (IntKind.i64.wrap (k + 1))).1) + 1)) + 1)), ((⟨k, (laws_markIntS_m ((x).Values) (IntKind.i64.wrap (k + 1))).2, (laws_markIntS_m ((x).Values) (IntKind.i64.wrap (k + 1))).1, (IntKind.i64.wrap (((laws_markIntS_m ((x).Values) (IntKind.i64.wrap (k + 1))).1) + 1))⟩ : DVersion) : DVersion))) (fun (x : DVersion) (k : Int) => (cond (((x).Id) != k) (Sum.inl (-1)) (cond (decide ((laws_heldIntS_m ((x).Values) (IntKind.i64.wrap (k + 1))) < 0)) (Sum.inl (-1)) (cond (((x).Born) != (laws_heldIntS_m ((x).Values) (IntKind.i64.wrap (k + 1)))) (Sum.inl (-1)) (cond (((x).Died) != (IntKind.i64.wrap ((laws_heldIntS_m ((x).Values) (IntKind.i64.wrap (k + 1))) + 1))) (Sum.inl (-1)) (Sum.inr (IntKind.i64.wrap ((IntKind.i64.wrap ((laws_heldIntS_m ((x).Values) (IntKind.i64.wrap (k + 1))) + 1)) + 1)))))) : Int ⊕ Int)) wtVersion := ⟨fun x k h0 h1 => by
  unfold wtVersion at h1 ⊢
  have w1 : IntKind.i64.wrap (k + 1) = k + 1 := wrap_id (by omega) (by omega)
  obtain ⟨p2, q2, r2⟩ := laws_markIntS_ok.go x.Values (k + 1) (by omega) (by omega)
  have d2 : decide ((laws_markIntS_m x.Values (k + 1)).1 < 0) = false := decide_eq_false (by omega)
  have w3 : IntKind.i64.wrap ((laws_markIntS_m x.Values (k + 1)).1 + 1) = (laws_markIntS_m x.Values (k + 1)).1 + 1 := wrap_id (by omega) (by omega)
  have w4 : IntKind.i64.wrap ((laws_markIntS_m x.Values (k + 1)).1 + 1 + 1) = (laws_markIntS_m x.Values (k + 1)).1 + 1 + 1 := wrap_id (by omega) (by omega)
  simp only [w1, w3, w4]
  exact ⟨by omega, by omega, by simp only [bne_self_eq_false, r2, d2, cond_false, w1, w3, w4]⟩⟩
theorem laws_markVersionS_ok : MkF laws_markVersionS_m laws_heldVersionS_m (wtS wtVersion) := MkF_list laws_markVersionS_e (b := fun _ k s => laws_markVersionS_b1 k s.1 s.2) (hb := fun x k s => laws_heldVersionS_b1 x k s) (fun x => rfl) (fun _ _ => rfl) (fun _ _ => rfl) (fun _ _ _ => rfl) (fun _ _ _ => rfl)
theorem laws_markVersionSS_e : MkOk (fun (x : (List DVersion)) (k : Int) => ((laws_markVersionS_m (x) k).1, (((laws_markVersionS_m (x) k).2) : (List DVersion)))) (fun (x : (List DVersion)) (k : Int) => (cond (decide ((laws_heldVersionS_m (x) k) < 0)) (Sum.inl (-1)) (Sum.inr (laws_heldVersionS_m (x) k)) : Int ⊕ Int)) (wtS wtVersion) := ⟨fun x k h0 h1 => by
  obtain ⟨p1, q1, r1⟩ := laws_markVersionS_ok.go x k (by omega) (by omega)
  have d1 : decide ((laws_markVersionS_m x k).1 < 0) = false := decide_eq_false (by omega)
  exact ⟨by omega, by omega, by simp only [r1, d1, cond_false]⟩⟩
theorem laws_markVersionSS_ok : MkF laws_markVersionSS_m laws_heldVersionSS_m (wtS (wtS wtVersion)) := MkF_list laws_markVersionSS_e (b := fun _ k s => laws_markVersionSS_b1 k s.1 s.2) (hb := fun x k s => laws_heldVersionSS_b1 x k s) (fun x => rfl) (fun _ _ => rfl) (fun _ _ => rfl) (fun _ _ _ => rfl) (fun _ _ _ => rfl)
theorem laws_markStore_ok : MkF laws_markStore_m laws_heldStore_m wtStore := ⟨fun x k h0 h1 => by
  unfold wtStore at h1 ⊢
  obtain ⟨p1, q1, r1⟩ := laws_markVersionSS_ok.go x.Segments k (by omega) (by omega)
  have d1 : decide ((laws_markVersionSS_m x.Segments k).1 < 0) = false := decide_eq_false (by omega)
  unfold laws_markStore_m
  exact ⟨by dsimp only; omega, by dsimp only; omega, by simp only [laws_heldStore_m, r1, d1, cond_false]⟩⟩
theorem laws_markUpdateS_e : MkOkB (fun (x : DUpdate) (k : Int) => ((IntKind.i64.wrap ((IntKind.i64.wrap (((laws_markIntS_m ((x).Row.Values) (IntKind.i64.wrap ((IntKind.i64.wrap (k + 1)) + 1))).1) + 1)) + 1)), ((⟨k, (⟨(IntKind.i64.wrap (k + 1)), (laws_markIntS_m ((x).Row.Values) (IntKind.i64.wrap ((IntKind.i64.wrap (k + 1)) + 1))).2⟩ : DRow), (laws_markIntS_m ((x).Row.Values) (IntKind.i64.wrap ((IntKind.i64.wrap (k + 1)) + 1))).1, (IntKind.i64.wrap (((laws_markIntS_m ((x).Row.Values) (IntKind.i64.wrap ((IntKind.i64.wrap (k + 1)) + 1))).1) + 1))⟩ : DUpdate) : DUpdate))) wtUpdate := ⟨fun x k h0 h1 => by
  unfold wtUpdate wtRow at h1 ⊢
  have w1 : IntKind.i64.wrap (k + 1) = k + 1 := wrap_id (by omega) (by omega)
  have w2 : IntKind.i64.wrap (k + 1 + 1) = k + 1 + 1 := wrap_id (by omega) (by omega)
  obtain ⟨p3, q3⟩ := laws_markIntS_ok.b.go x.Row.Values (k + 1 + 1) (by omega) (by omega)
  have w4 : IntKind.i64.wrap ((laws_markIntS_m x.Row.Values (k + 1 + 1)).1 + 1) = (laws_markIntS_m x.Row.Values (k + 1 + 1)).1 + 1 := wrap_id (by omega) (by omega)
  have w5 : IntKind.i64.wrap ((laws_markIntS_m x.Row.Values (k + 1 + 1)).1 + 1 + 1) = (laws_markIntS_m x.Row.Values (k + 1 + 1)).1 + 1 + 1 := wrap_id (by omega) (by omega)
  simp only [w1, w2, w4, w5]
  exact ⟨by omega, by omega⟩⟩
theorem laws_markUpdateS_ok : MkB laws_markUpdateS_m (wtS wtUpdate) := MkB_list laws_markUpdateS_e (b := fun _ k s => laws_markUpdateS_b1 k s.1 s.2) (fun x => rfl) (fun _ _ => rfl) (fun _ _ _ => rfl)
end Go.Proofs.Ytjcdginailhfmaa
