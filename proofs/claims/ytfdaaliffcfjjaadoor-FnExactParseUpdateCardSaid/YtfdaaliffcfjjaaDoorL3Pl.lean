/-
  Plain laws of the functions that the law runs over its arguments.
-/
import Derived.Test.YtfdaaliffcfjjaaDoorL3F2
import Derived.Test.YtfdaaliffcfjjaaDoorVcP
namespace Go.Proofs.YtfdaaliffcfjjaaDoor
open Go.RowKit
theorem laws_eqIntS_refl (x : (List Int)) : laws_eqIntS_m x x = true := by
  unfold laws_eqIntS_m
  rw [bne_self_eq_false, cond_false, rng_all (fun j _ => by simp only [laws_eqIntS_b1, bne_self_eq_false, cond_false])]
  rfl
def wtRow (x : DRow) : Nat := x.Values.length
theorem smRow_wt {B : Nat} {x : DRow} (h : wtRow x ≤ B) : smRow B x := by
  unfold wtRow at h
  unfold smRow
  exact (by omega)
theorem laws_eqRow_refl (x : DRow) : laws_eqRow_m x x = true := by
  simp only [laws_eqRow_m, bne_self_eq_false, cond_false, cond_true, laws_eqIntS_refl]
def wtUpdate (x : DUpdate) : Nat := wtRow x.Row
theorem smUpdate_wt {B : Nat} {x : DUpdate} (h : wtUpdate x ≤ B) : smUpdate B x := by
  unfold wtUpdate at h
  unfold smUpdate
  exact (smRow_wt (by omega))
theorem laws_eqUpdate_refl (x : DUpdate) : laws_eqUpdate_m x x = true := by
  simp only [laws_eqUpdate_m, bne_self_eq_false, cond_false, cond_true, laws_eqRow_refl]
theorem laws_markIntS_e : MkOk (fun (_ : Int) (k : Int) => ((IntKind.i64.wrap (k + 1)), (k : Int))) (fun (x : Int) (k : Int) => (cond ((x) != k) (Sum.inl (-1)) (Sum.inr (IntKind.i64.wrap (k + 1))) : Int ⊕ Int)) (fun _ => 0) := ⟨fun x k h0 h1 => by
  have w1 : IntKind.i64.wrap (k + 1) = k + 1 := wrap_id (by omega) (by omega)
  simp only [w1]
  exact ⟨by omega, by omega, by simp only [bne_self_eq_false, cond_false]⟩⟩
theorem laws_markIntS_ok : MkF laws_markIntS_m laws_heldIntS_m List.length := MkF_list laws_markIntS_e (b := fun _ k s => laws_markIntS_b1 k s.1 s.2) (hb := fun x k s => laws_heldIntS_b1 x k s) (fun x => wtS_zero x) (fun _ _ => rfl) (fun _ _ => rfl) (fun _ _ _ => rfl) (fun _ _ _ => rfl)
theorem laws_markRow_ok : MkF laws_markRow_m laws_heldRow_m wtRow := ⟨fun x k h0 h1 => by
  unfold wtRow at h1 ⊢
  obtain ⟨p1, q1, r1⟩ := laws_markIntS_ok.go x.Values k (by omega) (by omega)
  have d1 : decide ((laws_markIntS_m x.Values k).1 < 0) = false := decide_eq_false (by omega)
  unfold laws_markRow_m
  exact ⟨by dsimp only; omega, by dsimp only; omega, by simp only [laws_heldRow_m, r1, d1, cond_false]⟩⟩
theorem laws_markUpdate_ok : MkF laws_markUpdate_m laws_heldUpdate_m wtUpdate := ⟨fun x k h0 h1 => by
  unfold wtUpdate at h1 ⊢
  obtain ⟨p1, q1, r1⟩ := laws_markRow_ok.go x.Row k (by omega) (by omega)
  have d1 : decide ((laws_markRow_m x.Row k).1 < 0) = false := decide_eq_false (by omega)
  have r1 : laws_heldRow_m (⟨x.Row.Id, (laws_markRow_m x.Row k).2.Values⟩ : DRow) k = (laws_markRow_m x.Row k).1 := r1
  unfold laws_markUpdate_m
  exact ⟨by dsimp only; omega, by dsimp only; omega, by simp only [laws_heldUpdate_m, r1, d1, cond_false]⟩⟩
end Go.Proofs.YtfdaaliffcfjjaaDoor
