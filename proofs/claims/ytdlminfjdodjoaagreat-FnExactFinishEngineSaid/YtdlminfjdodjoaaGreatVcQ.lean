/-
  Calls that write through a pointer.
-/
import Derived.Test.YtdlminfjdodjoaaGreatVcX
import Derived.Test.YtdlminfjdodjoaaGreatVcY
namespace Go.Proofs.YtdlminfjdodjoaaGreat
open Go.RowKit

section
variable {P : Program} {N B : Nat} {w0 : World} {Q : Exit → Act → World → Prop} {L : List (Nat × Value)} {is : List It}
theorem Qee {x : Operand} {A : Addr} {w : World} {d : Option Nat} {ty : TypeId} {pos : String} {af : Array Edge} {g : Option (Nat × Bool)} (hx : ev L x = some (.pointer (some A))) : RV P L ⟨d, .nilCheck x, ty, pos, af, g⟩ w (.pointer (some A)) w := fun N a ha => by
  have e0 := ha.eval hx; generalize a.eval = ρ at e0 ⊢; simp [execOp, e0, go_sem]
end
section
variable {α : Type} {P : Program} {N B : Nat} {w0 : World} {Q : Exit → Act → World → Prop} {L : List (Nat × Value)} {is : List It} {E : Ty α} {e : TypeId}
end
/-! ### A part of a list cut out in its own place -/
section
variable {α : Type} {E : Ty α} {e : TypeId} {B : Nat} {w0 : World} {is js : List It}
theorem EC.dropN {w : World} : ∀ {ps : List (List Value × α)} {L : List Nat} (k : Nat), EC E w L ps → ∃ L' M, (L' ++ M).Perm L ∧ EC E w L' (ps.drop k)
  | _, L, 0, h => ⟨L, [], by rw [List.append_nil], h⟩
  | [], L, _ + 1, h => ⟨L, [], by rw [List.append_nil], h⟩
  | p :: ps, _, k + 1, ⟨L1, L2, e, h1, h2⟩ => by
    subst e
    obtain ⟨L', M, k1, k2⟩ := EC.dropN k h2
    refine ⟨L', L1 ++ M, ?_, k2⟩
    rw [← List.append_assoc]
    refine (List.perm_append_comm.append_right M).trans ?_
    rw [List.append_assoc]
    exact k1.append_left L1
theorem EC.cut {w : World} : ∀ {ps : List (List Value × α)} {L : List Nat} (k k2 : Nat), k ≤ k2 → EC E w L ps → ∃ L' M, (L' ++ M).Perm L ∧ EC E w L' (ps.take k ++ ps.drop k2)
  | ps, L, 0, k2, _, h => EC.dropN k2 h
  | [], L, k + 1, k2, _, h => ⟨L, [], by rw [List.append_nil], by rw [List.take_nil, List.drop_nil]; exact h⟩
  | p :: ps, _, k + 1, 0, hk, _ => absurd hk (by omega)
  | p :: ps, _, k + 1, k2 + 1, hk, ⟨L1, L2, e, h1, h2⟩ => by
    subst e
    obtain ⟨L', M, k1, h3⟩ := EC.cut k k2 (by omega) h2
    refine ⟨L1 ++ L', M, ?_, L1, L', rfl, h1, h3⟩
    rw [List.append_assoc]
    exact k1.append_left L1
end
section
variable {P : Program} {N B : Nat} {w0 : World} {Q : Exit → Act → World → Prop} {L : List (Nat × Value)} {is : List It}
end
/-! ### Bytes, and operations on bits -/
section
variable {P : Program} {L : List (Nat × Value)} {w : World} {d : Option Nat} {ty : TypeId} {pos : String} {af : Array Edge} {g : Option (Nat × Bool)}
end
/-! ### Values that have been copied out of lists that may be gone: what they hold in numbers is known -/
section
variable {α : Type}
end
/-! ### A list of which the head is cut away, and that still owns the whole -/
end Go.Proofs.YtdlminfjdodjoaaGreat

