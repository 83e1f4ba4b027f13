/-
  Plain laws of the functions that the law runs over its arguments.
-/
import Derived.Test.YtcjelfdpekbbkaaDoorL5F1
import Derived.Test.YtcjelfdpekbbkaaDoorVcP
namespace Go.Proofs.YtcjelfdpekbbkaaDoor
open Go.RowKit
theorem laws_szIntS_ok : SzOk laws_szIntS_m List.length (fun x => x.length ≤ 9223372036854775807) := sz_len (fun _ _ => rfl)
def wtRow (x : DRow) : Nat := x.Values.length
theorem smRow_wt {B : Nat} {x : DRow} (h : wtRow x ≤ B) : smRow B x := by
  unfold wtRow at h
  unfold smRow
  exact (by omega)
theorem tyLRow_sm {w : World} {B : Nat} {cs : List Value} {x : DRow} (h : tyLRow.rd w B cs x) : smRow 9223372036854775807 x := by
  obtain ⟨_, _, _, _, ⟨_, _, h1⟩⟩ := h
  unfold smRow
  exact h1.1
theorem laws_szRow_ok : SzOk laws_szRow_m wtRow (fun x => smRow 9223372036854775807 x) := ⟨fun x k hx h0 h1 => by
  unfold laws_szRow_m wtRow
  unfold smRow at hx
  refine sz_step (laws_szIntS_ok.go _ _ hx h0 h1) (by omega) (by omega) fun a0 b0 c0 => ?_
  right; omega⟩
def wtUpdate (x : DUpdate) : Nat := wtRow x.Row
theorem smUpdate_wt {B : Nat} {x : DUpdate} (h : wtUpdate x ≤ B) : smUpdate B x := by
  unfold wtUpdate at h
  unfold smUpdate
  exact (smRow_wt (by omega))
theorem tyLUpdate_sm {w : World} {B : Nat} {cs : List Value} {x : DUpdate} (h : tyLUpdate.rd w B cs x) : smUpdate 9223372036854775807 x := by
  obtain ⟨_, _, _, _, ⟨_, _, _, h1, ⟨_, _, _, _, _⟩⟩⟩ := h
  unfold smUpdate
  exact (tyLRow_sm h1)
theorem laws_szUpdate_ok : SzOk laws_szUpdate_m wtUpdate (fun x => smUpdate 9223372036854775807 x) := ⟨fun x k hx h0 h1 => by
  unfold laws_szUpdate_m wtUpdate
  unfold smUpdate at hx
  refine sz_step (laws_szRow_ok.go _ _ hx h0 h1) (by omega) (by omega) fun a0 b0 c0 => ?_
  right; omega⟩
theorem laws_toIntS_eq (x : (List Int)) : laws_toIntS_m x = x := by
  unfold laws_toIntS_m
  rw [rng_copy (b := fun k s => laws_toIntS_b1 x k s) (xs := x) (by simp) (fun j s _ => rfl)]
  rfl
theorem laws_toRow_eq (x : DRow) : laws_toRow_m x = x := by
  unfold laws_toRow_m
  simp only [laws_toIntS_eq]
theorem laws_toUpdate_eq (x : DUpdate) : laws_toUpdate_m x = x := by
  unfold laws_toUpdate_m
  simp only [laws_toRow_eq]
theorem laws_eqIntS_refl (x : (List Int)) : laws_eqIntS_m x x = true := by
  unfold laws_eqIntS_m
  rw [bne_self_eq_false, cond_false, rng_all (fun j _ => by simp only [laws_eqIntS_b1, bne_self_eq_false, cond_false])]
  rfl
theorem laws_eqRow_refl (x : DRow) : laws_eqRow_m x x = true := by
  simp only [laws_eqRow_m, bne_self_eq_false, cond_false, cond_true, laws_eqIntS_refl]
theorem laws_eqUpdate_refl (x : DUpdate) : laws_eqUpdate_m x x = true := by
  simp only [laws_eqUpdate_m, bne_self_eq_false, cond_false, cond_true, laws_eqRow_refl]
end Go.Proofs.YtcjelfdpekbbkaaDoor
