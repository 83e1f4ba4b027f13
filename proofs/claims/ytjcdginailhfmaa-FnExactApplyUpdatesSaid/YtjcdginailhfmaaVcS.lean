/-
  The commonest rules under short names; what 'rfl' or 'decide' shows is filled in.
-/
import Derived.Test.YtjcdginailhfmaaVcI
namespace Go.Proofs.Ytjcdginailhfmaa
open Go.RowKit

section
variable {P : Program} {N B : Nat} {w0 : World} {Q : Exit → Act → World → Prop} {L : List (Nat × Value)} {is : List It} {ops : Array Oper} {rest : List Oper} {d : Nat} {v : Value} {ty : TypeId} {pos : String} {af : Array Edge} {gd : Option (Nat × Bool)}
theorem wv {o : Oper} (hr : ∀ w, Mem B w0 is w → RV P L o w v w) (h : WM P N B w0 ops Q rest ((d, v) :: L) is) (hg : o.guard = none := by rfl) (hd : o.dst = some d := by rfl) (hN : d < N := by decide) : WM P N B w0 ops Q (o :: rest) L is := WM_val hr (Wd_none hg) hd hN h
theorem qv {o : Oper} (hr : ∀ w, Mem B w0 is w → RV P L o w v w) (h : QR P N B w0 ops Q rest ((d, v) :: L) is) (hg : o.guard = none := by rfl) (hd : o.dst = some d := by rfl) (hN : d < N := by decide) : QR P N B w0 ops Q (o :: rest) L is := QR_val hr (Wd_none hg) hd hN h
theorem wm {x : Operand} (h : WM P N B w0 ops Q rest ((d, v) :: L) is) (hx : ev L x = some v := by rfl) (hN : d < N := by decide) : WM P N B w0 ops Q (⟨some d, .move x, ty, pos, af, none⟩ :: rest) L is := WM_val (fun _ _ => rv_move hx) (Wd_none rfl) rfl hN h
theorem wa {x : Operand} (h : WM P N B w0 ops Q rest ((d, v) :: L) is) (hx : ev L x = some v := by rfl) (hN : d < N := by decide) : WM P N B w0 ops Q (⟨some d, .assign x, ty, pos, af, none⟩ :: rest) L is := WM_val (fun _ _ => rv_assign hx) (Wd_none rfl) rfl hN h
theorem qm {x : Operand} (h : QR P N B w0 ops Q rest ((d, v) :: L) is) (hx : ev L x = some v := by rfl) (hN : d < N := by decide) : QR P N B w0 ops Q (⟨some d, .move x, ty, pos, af, none⟩ :: rest) L is := QR_val (fun _ _ => rv_move hx) (Wd_none rfl) rfl hN h
theorem wg {o : Oper} {j : Nat} {want : Bool} {d' : Nat} {b c : Bool} (hr : ∀ w, Mem B w0 is w → RV P L o w v w) (hb : b = c) (h : WM P N B w0 ops Q rest ((d, v) :: L) is) (hg : o.guard = some (j, want) := by rfl) (hj : (ops[j]?).bind (·.dst) = some d' := by rfl) (hk : lk L d' = some (.bool b) := by rfl) (hc : (c == want) = true := by rfl) (hd : o.dst = some d := by rfl) (hN : d < N := by decide) : WM P N B w0 ops Q (o :: rest) L is := WM_val hr (Wd_some hg hj hk (bw hb hc)) hd hN h
theorem qg {o : Oper} {j : Nat} {want : Bool} {d' : Nat} {b c : Bool} (hr : ∀ w, Mem B w0 is w → RV P L o w v w) (hb : b = c) (h : QR P N B w0 ops Q rest ((d, v) :: L) is) (hg : o.guard = some (j, want) := by rfl) (hj : (ops[j]?).bind (·.dst) = some d' := by rfl) (hk : lk L d' = some (.bool b) := by rfl) (hc : (c == want) = true := by rfl) (hd : o.dst = some d := by rfl) (hN : d < N := by decide) : QR P N B w0 ops Q (o :: rest) L is := QR_val hr (Wd_some hg hj hk (bw hb hc)) hd hN h
theorem ws {o : Oper} {j : Nat} {want : Bool} {d' : Nat} {b c : Bool} (hb : b = c) (h : WM P N B w0 ops Q rest ((d, undef) :: L) is) (hg : o.guard = some (j, want) := by rfl) (hj : (ops[j]?).bind (·.dst) = some d' := by rfl) (hk : lk L d' = some (.bool b) := by rfl) (hc : (c == want) = false := by rfl) (hd : o.dst = some d := by rfl) (hN : d < N := by decide) : WM P N B w0 ops Q (o :: rest) L is := WM_skip (Wd_some hg hj hk (bw hb hc)) hd hN h
theorem qs {o : Oper} {j : Nat} {want : Bool} {d' : Nat} {b c : Bool} (hb : b = c) (h : QR P N B w0 ops Q rest ((d, undef) :: L) is) (hg : o.guard = some (j, want) := by rfl) (hj : (ops[j]?).bind (·.dst) = some d' := by rfl) (hk : lk L d' = some (.bool b) := by rfl) (hc : (c == want) = false := by rfl) (hd : o.dst = some d := by rfl) (hN : d < N := by decide) : QR P N B w0 ops Q (o :: rest) L is := QR_skip (Wd_some hg hj hk (bw hb hc)) hd hN h
theorem wu {o : Oper} {j : Nat} {want : Bool} {d' : Nat} (h : WM P N B w0 ops Q rest ((d, undef) :: L) is) (hg : o.guard = some (j, want) := by rfl) (hj : (ops[j]?).bind (·.dst) = some d' := by rfl) (hk : lk L d' = some undef := by rfl) (hd : o.dst = some d := by rfl) (hN : d < N := by decide) : WM P N B w0 ops Q (o :: rest) L is := WM_skip (Wd_undef hg hj hk) hd hN h
theorem qu {o : Oper} {j : Nat} {want : Bool} {d' : Nat} (h : QR P N B w0 ops Q rest ((d, undef) :: L) is) (hg : o.guard = some (j, want) := by rfl) (hj : (ops[j]?).bind (·.dst) = some d' := by rfl) (hk : lk L d' = some undef := by rfl) (hd : o.dst = some d := by rfl) (hN : d < N := by decide) : QR P N B w0 ops Q (o :: rest) L is := QR_skip (Wd_undef hg hj hk) hd hN h
theorem sr {id : Nat} {l : List Oper} {y : Code} (h : WM P N B w0 l.toArray (Exit.then (y.wp P Q) Q) l L is) : CM P N B w0 (.seq (.region id l.toArray false) y) Q L is := CM_seq (CM_region h)
theorem nt' {y : Code} {Q' : Exit → Act → World → Prop} (h : CM P N B w0 y Q' L is) : WM P N B w0 ops (Exit.then (y.wp P Q') Q) [] L is := WM_nil (QM_then h)
theorem nq' {y : Code} {Q' : Exit → Act → World → Prop} (h : CM P N B w0 y Q' L is) : QR P N B w0 ops (Exit.then (y.wp P Q') Q) [] L is := QR_nil (QM_then h)
end
end Go.Proofs.Ytjcdginailhfmaa
