/-
  A part of a call that is walked over a memory of its own: all that the call owns at its start is as what came in.
-/
import Derived.Test.YtdlminfjdodjoaaGreatVcQ
namespace Go.Proofs.YtdlminfjdodjoaaGreat
open Go.RowKit
section
variable {P : Program} {N B : Nat} {w0 : World} {Q : Exit → Act → World → Prop} {L : List (Nat × Value)} {is js : List It}
theorem Qakb {c : Code} (h : ∀ W, Mem B w0 is W → CM P N W.heap.size W c Q L []) : CM P N B w0 c Q L is := fun w hw => h w hw w (Mem.start w)
theorem Qalm {e : Exit} {W : World} (hW : Mem B w0 is W) (h : QM N B w0 Q e L (js ++ is)) : QM N W.heap.size W Q e L js := fun w hw => h w (hW.call hw)
end
theorem Qamz {w0 : World} {p B : Nat} {cs : List Value} {α : Type} {T : Ty α} {x : α} (h : rdP T w0 B p cs x) {B' : Nat} {w0' w : World} {is : List It} (hB : B' = B) (hw : w0' = w0) (hm : Mem B' w0' is w) : ∀ o u, cs[o]? = some u → w.cell? ((⟨p, 0, none⟩ : Addr).add o) = some u := fun _ _ hu => Qade h hB hw hm hu
theorem Qqn {α : Type} {E : Ty α} {w : World} {B n c : Nat} {A : Option Addr} {xs : List α} (h : rdS E w B (.slice A n c) xs) : rdQ E w B A c xs := by
  obtain ⟨_, A', c', e, q⟩ := h
  cases e
  exact q
/-! a literal whose elements are slices -/
end Go.Proofs.YtdlminfjdodjoaaGreat

