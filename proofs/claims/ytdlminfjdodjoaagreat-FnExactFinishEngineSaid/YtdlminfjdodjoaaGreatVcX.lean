/-
  Elements that own memory, moved from one list of the call's own into another.
-/
import Derived.Test.YtdlminfjdodjoaaGreatVcW
import Derived.Test.YtdlminfjdodjoaaGreatVcS
namespace Go.Proofs.YtdlminfjdodjoaaGreat
open Go.RowKit

section
variable {α : Type} {E : Ty α} {e : TypeId} {B : Nat} {w0 : World} {is : List It}
theorem EC.append {w : World} : ∀ {ps qs : List (List Value × α)} {L K : List Nat}, EC E w L ps → EC E w K qs → EC E w (L ++ K) (ps ++ qs)
  | [], _, _, _, h, k => by rw [show _ = ([] : List Nat) from h]; exact k
  | p :: ps, _, _, _, ⟨L1, L2, e, h1, h2⟩, k => by subst e; exact ⟨L1, L2 ++ _, by simp, h1, h2.append k⟩
theorem Mem.swap {w : World} {i j : It} (h : Mem B w0 (i :: j :: is) w) : Mem B w0 (j :: i :: is) w := by
  obtain ⟨_, ⟨L1, _, rfl, h1, L2, L3, rfl, h2, h3⟩, h4, h5⟩ := h.sep
  have hp : (L2 ++ (L1 ++ L3)).Perm (L1 ++ (L2 ++ L3)) := by
    rw [← List.append_assoc, ← List.append_assoc]
    exact List.perm_append_comm.append_right L3
  exact ⟨h.base, h.below, L2 ++ (L1 ++ L3), ⟨L2, L1 ++ L3, rfl, h2, L1, L3, rfl, h1, h3⟩, hp.nodup_iff.2 h4, fun b hb => h5 b (hp.mem_iff.1 hb)⟩
end

/-! ### Elements of a list that is seen as rows of cells; rows that are put together anew -/
section
variable {α : Type} [Inhabited α] {E : Ty α} {e : TypeId} {B N : Nat} {w0 : World} {is js : List It} {P : Program} {Q : Exit → Act → World → Prop} {L : List (Nat × Value)} {cd : Code}
end
end Go.Proofs.YtdlminfjdodjoaaGreat

