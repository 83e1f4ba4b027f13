/-
  Plain laws of the functions that the law runs over its arguments.
-/
import Derived.Test.YtcjelfdpekbbkaaDoorL4F1
import Derived.Test.YtcjelfdpekbbkaaDoorVcP
namespace Go.Proofs.YtcjelfdpekbbkaaDoor
open Go.RowKit
theorem laws_szIntS_ok : SzOk laws_szIntS_m List.length (fun x => x.length ≤ 9223372036854775807) := sz_len (fun _ _ => rfl)
def wtCharge (x : DCharge) : Nat := x.Ids.length + x.Tenants.length + x.Rows.length
theorem smCharge_wt {B : Nat} {x : DCharge} (h : wtCharge x ≤ B) : smCharge B x := by
  unfold wtCharge at h
  unfold smCharge
  exact ⟨(by omega), (by omega), (by omega)⟩
theorem tyLCharge_sm {w : World} {B : Nat} {cs : List Value} {x : DCharge} (h : tyLCharge.rd w B cs x) : smCharge 9223372036854775807 x := by
  obtain ⟨_, _, _, _, ⟨_, _, _, _, ⟨_, _, _, ⟨_, _, h2⟩, ⟨_, _, _, ⟨_, _, h3⟩, ⟨_, _, h4⟩⟩⟩⟩⟩ := h
  unfold smCharge
  exact ⟨h2.1, h3.1, h4.1⟩
theorem laws_szCharge_ok : SzOk laws_szCharge_m wtCharge (fun x => smCharge 9223372036854775807 x) := ⟨fun x k hx h0 h1 => by
  unfold laws_szCharge_m wtCharge
  unfold smCharge at hx
  refine sz_step (laws_szIntS_ok.go _ _ hx.1 h0 h1) (by omega) (by omega) fun a0 b0 c0 => ?_
  refine sz_step (laws_szIntS_ok.go _ _ hx.2.1 a0 b0) (by omega) (by omega) fun a1 b1 c1 => ?_
  refine sz_step (laws_szIntS_ok.go _ _ hx.2.2 a1 b1) (by omega) (by omega) fun a2 b2 c2 => ?_
  right; omega⟩
theorem laws_toIntS_eq (x : (List Int)) : laws_toIntS_m x = x := by
  unfold laws_toIntS_m
  rw [rng_copy (b := fun k s => laws_toIntS_b1 x k s) (xs := x) (by simp) (fun j s _ => rfl)]
  rfl
theorem laws_toCharge_eq (x : DCharge) : laws_toCharge_m x = x := by
  unfold laws_toCharge_m
  simp only [laws_toIntS_eq]
theorem laws_eqIntS_refl (x : (List Int)) : laws_eqIntS_m x x = true := by
  unfold laws_eqIntS_m
  rw [bne_self_eq_false, cond_false, rng_all (fun j _ => by simp only [laws_eqIntS_b1, bne_self_eq_false, cond_false])]
  rfl
theorem laws_eqCharge_refl (x : DCharge) : laws_eqCharge_m x x = true := by
  simp only [laws_eqCharge_m, bne_self_eq_false, cond_false, cond_true, laws_eqIntS_refl]
end Go.Proofs.YtcjelfdpekbbkaaDoor
