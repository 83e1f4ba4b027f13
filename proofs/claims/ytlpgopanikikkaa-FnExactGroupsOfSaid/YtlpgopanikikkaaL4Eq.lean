/-
  The program and the reference compute the same: plain laws over what the walks showed.
-/
import Derived.Test.YtlpgopanikikkaaL4Law
namespace Go.Proofs.Ytlpgopanikikkaa
open Go.RowKit
theorem GroupsOf_same (x : List DGroup) (i : Int) : impl_GroupsOf_m x i = spec_GroupsOf_m x i := rfl
theorem GroupsOf_len (x : List DGroup) (i : Int) : (impl_GroupsOf_m x i).length ≤ x.length := by
  obtain ⟨s, h1, h2⟩ := rng_inv (body := fun k s => impl_GroupsOf_b1 x i k s) (n := x.length) (fun k s => s.length ≤ k) (fun j s _ hs => by
    unfold impl_GroupsOf_b1
    cases ((gt x j).Query == i) with
    | true => exact ⟨_, rfl, by simp; omega⟩
    | false => exact ⟨_, rfl, by omega⟩) (x.length - 0) 0 [] (by omega) (by simp)
  unfold impl_GroupsOf_m
  rw [h1]
  exact h2
theorem law_GroupsOf (x : List DGroup) (i : Int) (ok : x.length ≤ 9223372036854775807) : laws_FnExactGroupsOf_m x i = true := by
  unfold laws_FnExactGroupsOf_m
  rw [laws_toGroupS_eq, ← GroupsOf_same, laws_eqGroupS_refl, laws_eqGroupS_refl]
  cases hs : decide (laws_szGroupS_m x 1048576 < 0) with
  | true => rfl
  | false =>
    have hi := GroupsOf_len x i
    obtain ⟨h1, _, _⟩ := sz_small laws_szGroupS_ok ok (by omega) (by omega) hs
    obtain ⟨p1, _, _⟩ := laws_markGroupS_ok.go x 1 (by omega) (by omega)
    obtain ⟨p2, _, r2⟩ := laws_markGroupS_ok.go (impl_GroupsOf_m x i) 1 (by omega) (by omega)
    rw [r2, decide_eq_false (by omega), decide_eq_false (by omega), bne_self_eq_false]
    rfl

end Go.Proofs.Ytlpgopanikikkaa
