/-
  The stable sort as a call: a list of the call's own, sorted in its place.
-/
import Derived.Test.YtdlminfjdodjoaaGreatVcV
namespace Go.Proofs.YtdlminfjdodjoaaGreat
open Go.RowKit

section
variable {α : Type} [Inhabited α]
/-! ### The functions over lists do not look at what they move -/
variable (cf : α → α → Int)
end

/-! ### A list of the call's own, as rows of cells and what they own -/
section
variable {α : Type} {E : Ty α} {e : TypeId} {B : Nat} {w0 : World} {is : List It}
def EC (E : Ty α) (w : World) : List Nat → List (List Value × α) → Prop
  | L, [] => L = []
  | L, p :: ps => ∃ L1 L2, L = L1 ++ L2 ∧ E.own w L1 p.1 p.2 ∧ EC E w L2 ps
theorem EC.keep {w w' : World} : ∀ {ps : List (List Value × α)} {L : List Nat}, EC E w L ps → (∀ b ∈ L, w'.heap[b]? = w.heap[b]?) → EC E w' L ps
  | [], _, h, _ => h
  | p :: ps, _, ⟨L1, L2, e, h1, h2⟩, hk => by
    subst e
    exact ⟨L1, L2, rfl, E.own_keep h1 fun b hb => hk b (List.mem_append_left _ hb), EC.keep h2 fun b hb => hk b (List.mem_append_right _ hb)⟩
theorem EC.lt {w : World} : ∀ {ps : List (List Value × α)} {L : List Nat}, EC E w L ps → ∀ b ∈ L, b < w.heap.size
  | [], _, h => by rw [show _ = ([] : List Nat) from h]; simp
  | p :: ps, _, ⟨L1, L2, e, h1, h2⟩ => by
    subst e
    intro b hb
    rcases List.mem_append.1 hb with h | h
    · exact E.own_lt h1 b h
    · exact EC.lt h2 b h
theorem EC.perm {w : World} {ps qs : List (List Value × α)} (hp : ps.Perm qs) : ∀ {L : List Nat}, EC E w L ps → ∃ L', L'.Perm L ∧ EC E w L' qs := by
  induction hp with
  | nil => exact fun h => ⟨_, .refl _, h⟩
  | cons p _ ih =>
    rintro _ ⟨L1, L2, rfl, h1, h2⟩
    obtain ⟨L', k1, k2⟩ := ih h2
    exact ⟨L1 ++ L', k1.append_left L1, L1, L', rfl, h1, k2⟩
  | swap p q l =>
    rintro _ ⟨L1, _, rfl, h1, L2, L3, rfl, h2, h3⟩
    refine ⟨L2 ++ (L1 ++ L3), ?_, L2, L1 ++ L3, rfl, h2, L1, L3, rfl, h1, h3⟩
    rw [← List.append_assoc, ← List.append_assoc]
    exact List.perm_append_comm.append_right L3
  | trans _ _ ih1 ih2 =>
    intro L h
    obtain ⟨L1, k1, k2⟩ := ih1 h
    obtain ⟨L2, k3, k4⟩ := ih2 k2
    exact ⟨L2, k3.trans k1, k4⟩
theorem EC.els {w : World} : ∀ {ps : List (List Value × α)} {L : List Nat}, EC E w L ps → Els E w L (ps.map Prod.fst).flatten (ps.map Prod.snd)
  | [], _, h => ⟨h, rfl⟩
  | p :: ps, _, ⟨L1, L2, e, h1, h2⟩ => ⟨L1, L2, p.1, (ps.map Prod.fst).flatten, e, rfl, h1, h2.els⟩
theorem EC.of {w : World} : ∀ {xs : List α} {L : List Nat} {cs : List Value}, Els E w L cs xs → ∃ ps : List (List Value × α), ps.map Prod.snd = xs ∧ (ps.map Prod.fst).flatten = cs ∧ EC E w L ps
  | [], _, _, ⟨h1, h2⟩ => ⟨[], rfl, h2.symm, h1⟩
  | x :: xs, _, _, ⟨L1, L2, c1, c2, e, h, h1, h2⟩ => by
    obtain ⟨ps, k1, k2, k3⟩ := EC.of h2
    exact ⟨(c1, x) :: ps, by simp [k1], by simp [k2, h], L1, L2, e, h1, k3⟩
end
end Go.Proofs.YtdlminfjdodjoaaGreat

