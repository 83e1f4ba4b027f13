/-
  Plain laws of the functions that the law runs over its arguments.
-/
import Derived.Test.YtjcdginailhfmaaL6F2
import Derived.Test.YtjcdginailhfmaaVcP
namespace Go.Proofs.Ytjcdginailhfmaa
open Go.RowKit
theorem laws_szIntS_ok : SzOk laws_szIntS_m List.length (fun x => x.length ≤ 9223372036854775807) := sz_len (fun _ _ => rfl)
def wtRow (x : DRow) : Nat := x.Values.length
theorem smRow_wt {B : Nat} {x : DRow} (h : wtRow x ≤ B) : smRow B x := by
  unfold wtRow at h
  unfold smRow
  exact (by omega)
theorem tyLRow_sm {w : World} {B : Nat} {cs : List Value} {x : DRow} (h : tyLRow.rd w B cs x) : smRow 9223372036854775807 x := by
  obtain ⟨_, _, _, _, ⟨_, _, h1⟩⟩ := h
  unfold smRow
  exact h1.1
theorem laws_szRow_ok : SzOk laws_szRow_m wtRow (fun x => smRow 9223372036854775807 x) := ⟨fun x k hx h0 h1 => by
  unfold laws_szRow_m wtRow
  unfold smRow at hx
  refine sz_step (laws_szIntS_ok.go _ _ hx h0 h1) (by omega) (by omega) fun a0 b0 c0 => ?_
  right; omega⟩
theorem laws_szRowS_ok : SzOk laws_szRowS_m (wtS wtRow) (fun x => (x.length ≤ 9223372036854775807 ∧ ∀ y ∈ x, smRow 9223372036854775807 y)) := sz_list laws_szRow_ok (fun _ _ => rfl)
theorem laws_toIntS_eq (x : (List Int)) : laws_toIntS_m x = x := by
  unfold laws_toIntS_m
  rw [rng_copy (b := fun k s => laws_toIntS_b1 x k s) (xs := x) (by simp) (fun j s _ => rfl)]
  rfl
theorem laws_toRow_eq (x : DRow) : laws_toRow_m x = x := by
  unfold laws_toRow_m
  simp only [laws_toIntS_eq]
theorem laws_toRowS_eq (x : (List DRow)) : laws_toRowS_m x = x := by
  unfold laws_toRowS_m
  rw [rng_copy (b := fun k s => laws_toRowS_b1 x k s) (xs := x) (by simp) (fun j s _ => by
    show Sum.inr (s.set j (laws_toRow_m (gt x j))) = _
    rw [laws_toRow_eq])]
  rfl
theorem laws_eqGroup_refl (x : DGroup) : laws_eqGroup_m x x = true := by
  simp only [laws_eqGroup_m, bne_self_eq_false, cond_false]
theorem laws_eqGroupS_refl (x : (List DGroup)) : laws_eqGroupS_m x x = true := by
  unfold laws_eqGroupS_m
  rw [bne_self_eq_false, cond_false, rng_all (fun j _ => by simp only [laws_eqGroupS_b1, cond_true, laws_eqGroup_refl])]
  rfl
theorem laws_eqIntS_refl (x : (List Int)) : laws_eqIntS_m x x = true := by
  unfold laws_eqIntS_m
  rw [bne_self_eq_false, cond_false, rng_all (fun j _ => by simp only [laws_eqIntS_b1, bne_self_eq_false, cond_false])]
  rfl
theorem laws_eqRow_refl (x : DRow) : laws_eqRow_m x x = true := by
  simp only [laws_eqRow_m, bne_self_eq_false, cond_false, cond_true, laws_eqIntS_refl]
theorem laws_eqRowS_refl (x : (List DRow)) : laws_eqRowS_m x x = true := by
  unfold laws_eqRowS_m
  rw [bne_self_eq_false, cond_false, rng_all (fun j _ => by simp only [laws_eqRowS_b1, cond_true, laws_eqRow_refl])]
  rfl
theorem laws_markIntS_e : MkOkB (fun (_ : Int) (k : Int) => ((IntKind.i64.wrap (k + 1)), (k : Int))) (fun _ => 0) := ⟨fun x k h0 h1 => by
  have w1 : IntKind.i64.wrap (k + 1) = k + 1 := wrap_id (by omega) (by omega)
  simp only [w1]
  exact ⟨by omega, by omega⟩⟩
theorem laws_markIntS_ok : MkB laws_markIntS_m List.length := MkB_list laws_markIntS_e (b := fun _ k s => laws_markIntS_b1 k s.1 s.2) (fun x => wtS_zero x) (fun _ _ => rfl) (fun _ _ _ => rfl)
theorem laws_markRowS_e : MkOkB (fun (x : DRow) (k : Int) => ((laws_markIntS_m ((x).Values) (IntKind.i64.wrap (k + 1))).1, ((⟨k, (laws_markIntS_m ((x).Values) (IntKind.i64.wrap (k + 1))).2⟩ : DRow) : DRow))) wtRow := ⟨fun x k h0 h1 => by
  unfold wtRow at h1 ⊢
  have w1 : IntKind.i64.wrap (k + 1) = k + 1 := wrap_id (by omega) (by omega)
  obtain ⟨p2, q2⟩ := laws_markIntS_ok.go x.Values (k + 1) (by omega) (by omega)
  simp only [w1]
  exact ⟨by omega, by omega⟩⟩
theorem laws_markRowS_ok : MkB laws_markRowS_m (wtS wtRow) := MkB_list laws_markRowS_e (b := fun _ k s => laws_markRowS_b1 k s.1 s.2) (fun x => rfl) (fun _ _ => rfl) (fun _ _ _ => rfl)
theorem laws_markGroupS_e : MkOk (fun (_ : DGroup) (k : Int) => ((IntKind.i64.wrap ((IntKind.i64.wrap ((IntKind.i64.wrap ((IntKind.i64.wrap (k + 1)) + 1)) + 1)) + 1)), ((⟨k, (IntKind.i64.wrap (k + 1)), (IntKind.i64.wrap ((IntKind.i64.wrap (k + 1)) + 1)), (IntKind.i64.wrap ((IntKind.i64.wrap ((IntKind.i64.wrap (k + 1)) + 1)) + 1))⟩ : DGroup) : DGroup))) (fun (x : DGroup) (k : Int) => (cond (((x).Query) != k) (Sum.inl (-1)) (cond (((x).Value) != (IntKind.i64.wrap (k + 1))) (Sum.inl (-1)) (cond (((x).Count) != (IntKind.i64.wrap ((IntKind.i64.wrap (k + 1)) + 1))) (Sum.inl (-1)) (cond (((x).Sum) != (IntKind.i64.wrap ((IntKind.i64.wrap ((IntKind.i64.wrap (k + 1)) + 1)) + 1))) (Sum.inl (-1)) (Sum.inr (IntKind.i64.wrap ((IntKind.i64.wrap ((IntKind.i64.wrap ((IntKind.i64.wrap (k + 1)) + 1)) + 1)) + 1)))))) : Int ⊕ Int)) (fun _ => 0) := ⟨fun x k h0 h1 => by
  have w1 : IntKind.i64.wrap (k + 1) = k + 1 := wrap_id (by omega) (by omega)
  have w2 : IntKind.i64.wrap (k + 1 + 1) = k + 1 + 1 := wrap_id (by omega) (by omega)
  have w3 : IntKind.i64.wrap (k + 1 + 1 + 1) = k + 1 + 1 + 1 := wrap_id (by omega) (by omega)
  have w4 : IntKind.i64.wrap (k + 1 + 1 + 1 + 1) = k + 1 + 1 + 1 + 1 := wrap_id (by omega) (by omega)
  simp only [w1, w2, w3, w4]
  exact ⟨by omega, by omega, by simp only [bne_self_eq_false, cond_false]⟩⟩
theorem laws_markGroupS_ok : MkF laws_markGroupS_m laws_heldGroupS_m List.length := MkF_list laws_markGroupS_e (b := fun _ k s => laws_markGroupS_b1 k s.1 s.2) (hb := fun x k s => laws_heldGroupS_b1 x k s) (fun x => wtS_zero x) (fun _ _ => rfl) (fun _ _ => rfl) (fun _ _ _ => rfl) (fun _ _ _ => rfl)
end Go.Proofs.Ytjcdginailhfmaa
