/-
  A slice of the call's own whose elements are handed on one by one.
-/
import Derived.Test.YtmikmbmdibabmaaGreatVcG
namespace Go.Proofs.YtmikmbmdibabmaaGreat
open Go.RowKit

section
variable {α : Type}
variable {P : Program} {N B : Nat} {w0 : World} {Q : Exit → Act → World → Prop} {L : List (Nat × Value)} {is js : List It} {E : Ty α} {e : TypeId}

theorem Mem.last {i : It} {w : World} (h : Mem B w0 (i :: is) w) : Mem B w0 (is ++ [i]) w := by
  obtain ⟨_, ⟨L1, L2, rfl, h1, h2⟩, h3, h4⟩ := h.sep
  have h5 : Sep (is ++ [i]) w (L2 ++ L1) := Sep.append h2 ⟨L1, [], by simp, h1, rfl⟩
  exact ⟨h.base, h.below, L2 ++ L1, h5, (List.perm_append_comm.nodup_iff).1 h3, fun b hb => h4 b (by simpa [or_comm] using hb)⟩
end
end Go.Proofs.YtmikmbmdibabmaaGreat

