/-
  The commonest rules under short names; what 'rfl' or 'decide' shows is filled in.
-/
import Derived.Test.YtjcdginailhfmaaVcI
namespace Go.Proofs.Ytjcdginailhfmaa
open Go.RowKit

section
variable {P : Program} {N B : Nat} {w0 : World} {Q : Exit → Act → World → Prop} {L : List (Nat × Value)} {is : List It} {ops : Array Oper} {rest : List Oper} {d : Nat} {v : Value} {ty : TypeId} {pos : String} {af : Array Edge} {gd : Option (Nat × Bool)}
theorem wv {o : Oper} (hr : ∀ w, Mem B w0 is w → RV P L o w v w) (h : WM P N B w0 ops Q rest ((d, v) :: L) is) (hg : o.guard = none := by rfl) (hd : o.dst = some d := by rfl) (hN : d < N := by decide) : WM P N B w0 ops Q (o :: rest) L is := WM_val hr (Wd_none hg) hd hN h
theorem qv {o : Oper} (hr : ∀ w, Mem B w0 is w → RV P L o w v w) (h : QR P N B w0 ops Q rest ((d, v) :: L) is) (hg : o.guard = none := by rfl) (hd : o.dst = some d := by rfl) (hN : d < N := by decide) : QR P N B w0 ops Q (o :: rest) L is := QR_val hr (Wd_none hg) hd hN h
theorem wm {x : Operand} (h : WM P N B w0 ops Q rest ((d, v) :: L) is) (hx : ev L x = some v := by rfl) (hN : d < N := by decide) : WM P N B w0 ops Q (⟨some d, .move x, ty, pos, af, none⟩ :: rest) L is := WM_val (fun _ _ => rv_move hx) (Wd_none rfl) rfl hN h
theorem wa {x : Operand} (h : WM P N B w0 ops Q rest ((d, v) :: L) is) (hx : ev L x = some v := by rfl) (hN : d < N := by decide) : WM P N B w0 ops Q (⟨some d, .assign x, ty, pos, af, none⟩ :: rest) L is := WM_val (fun _ _ => rv_assign hx) (Wd_none rfl) rfl hN h
theorem qm {x : Operand} (h : QR P N B w0 ops Q rest ((d, v) :: L) is) (hx : ev L x = some v := by rfl) (hN : d < N := by decide) : QR P N B w0 ops Q (⟨some d, .move x, ty, pos, af, none⟩ :: rest) L is := QR_val (fun _ _ => rv_move hx) (Wd_none rfl) rfl hN h
theorem wg {o : Oper} {j : Nat} {want : Bool} {d' : Nat} {b c : Bool} (hr : ∀ w, Mem B w0 is w → RV P L o w v w) (hb : b = c) (h : WM P N B w0 ops Q rest ((d, v) :: L) is) (hg : o.guard = some (j, want) := by rfl) (hj : (ops[j]?).bind (·.dst) = some d' := by rfl) (hk : lk L d' = some (.bool b) := by rfl) (hc : (c == want) = true := by rfl) (hd : o.dst = some d := by rfl) (hN : d < N := by decide) : WM P N B w0 ops Q (o :: rest) L is := WM_val hr (Wd_some hg hj hk (bw hb hc)) hd hN h
theorem qg {o : Oper} {j : Nat} {want : Bool} {d' : Nat} {b c : Bool} (hr : ∀ w, Mem B w0 is w → RV P L o w v w) (hb : b = c) (h : QR P N B w0 ops Q rest ((d, v) :: L) is) (hg : o.guard = some (j, want) := by rfl) (hj : (ops[j]?).bind (·.dst) = some d' := by rfl) (hk : lk L d' = some (.bool b) := by rfl) (hc : (c == want) = true := by rfl) (hd : o.dst = some d := by rfl) (hN : d < N := by decide) : QR P N B w0 ops Q (o :: rest) L is := QR_val hr (Wd_some hg hj hk (bw hb hc)) hd hN h
theorem ws {o : Oper} {j : Nat} {want : Bool} {d' : Nat} {b c : Bool} (hb : b = c) (h : WM P N B w0 ops Q rest ((d, undef) :: L) is) (hg : o.guard = some (j, want) := by rfl) (hj : (ops[j]?).bind (·.dst) = some d' := by rfl) (hk : lk L d' = some (.bool b) := by rfl) (hc : (c == want) = false := by rfl) (hd : o.dst = some d := by rfl) (hN : d < N := by decide) : WM P N B w0 ops Q (o :: rest) L is := WM_skip (Wd_some hg hj hk (bw hb hc)) hd hN h
theorem qs {o : Oper} {j : Nat} {want : Bool} {d' : Nat} {b c : Bool} (hb : b = c) (h : QR P N B w0 ops Q rest ((d, undef) :: L) is) (hg : o.guard = some (j, want) := by rfl) (hj : (ops[j]?).bind (·.dst) = some d' := by rfl) (hk : lk L d' = some (.bool b) := by rfl) (hc : (c == want) = false := by rfl) (hd : o.dst = some d := by rfl) (hN : d < N := by decide) : QR P N B w0 ops Q (o :: rest) L is := QR_skip (Wd_some hg hj hk (bw hb hc)) hd hN h
theorem wu {o : Oper} {j : Nat} {want : Bool} {d' : Nat} (h : WM P N B w0 ops Q rest ((d, undef) :: L) is) (hg : o.guard = some (j, want) := by rfl) (hj : (ops[j]?).bind (·.dst) = some d' := by rfl) (hk : lk L d' = some undef := by rfl) (hd : o.dst = some d := by rfl) (hN : d < N := by decide) : WM P N B w0 ops Q (o :: rest) L is := WM_skip (Wd_undef hg hj hk) hd hN h
theorem qu {o : Oper} {j : Nat} {want : Bool} {d' : Nat} (h : QR P N B w0 ops Q rest ((d, undef) :: L) is) (hg : o.guard = some (j, want) := by rfl) (hj : (ops[j]?).bind (·.dst) = some d' := by rfl) (hk : lk L d' = some undef := by rfl) (hd : o.dst = some d := by rfl) (hN : d < N := by decide) : QR P N B w0 ops Q (o :: rest) L is := QR_skip (Wd_undef hg hj hk) hd hN h
theorem sr {id : Nat} {l : List Oper} {y : Code} (h : WM P N B w0 l.toArray (Exit.then (y.wp P Q) Q) l L is) : CM P N B w0 (.seq (.region id l.toArray false) y) Q L is := CM_seq (CM_region h)
theorem nt' {y : Code} {Q' : Exit → Act → World → Prop} (h : CM P N B w0 y Q' L is) : WM P N B w0 ops (Exit.then (y.wp P Q') Q) [] L is := WM_nil (QM_then h)
theorem nq' {y : Code} {Q' : Exit → Act → World → Prop} (h : CM P N B w0 y Q' L is) : QR P N B w0 ops (Exit.then (y.wp P Q') Q) [] L is := QR_nil (QM_then h)
end
/-- A row of marks as a number. -/
def bmL : Nat → Nat → List Bool
  | 0, _ => []
  | n + 1, m => (m % 2 == 1) :: bmL n (m / 2)
def bm (n m : Nat) : Array Bool := (bmL n m).toArray
section
variable {P : Program} {N B : Nat} {w0 : World} {Q : Exit → Act → World → Prop} {L : List (Nat × Value)} {is js s : List It} {ops : Array Oper} {rest : List Oper} {d fuel : Nat} {v : Value} {listed : Array Bool} {o : Oper}
theorem qt (n i m : Nat) (hi : ops[i]? = some o) (hv : ∀ w, Mem B w0 s w → RV P L o w v w) (h : QB P N B w0 ops Q fuel (bm n m) ((d, v) :: L) s is) (hl : listed.setIfInBounds i true = bm n m := by kernel_rfl) (hs : Region.noSelect ops = true := by kernel_rfl) (hf : Region.free .any ops listed i = true := by kernel_rfl)
    (hr : (Region.ready .any ops listed).contains i = true := by kernel_rfl) (hQ : ∀ c a w, Q (.panic c) (a.put (some d) v) w → Q (.panic c) a w := by exact fun _ _ _ h => h) (hg : o.guard = none := by rfl) (hd : o.dst = some d := by rfl) (hN : d < N := by decide) : QB P N B w0 ops Q (fuel + 1) listed L s is :=
  QB_take i hl hi hs hf hr hQ hv (Wd_none hg) hd hN h
theorem qtg (n i m : Nat) (hi : ops[i]? = some o) (hv : ∀ w, Mem B w0 s w → RV P L o w v w) (hw : Wd ops L o true) (h : QB P N B w0 ops Q fuel (bm n m) ((d, v) :: L) s is) (hl : listed.setIfInBounds i true = bm n m := by kernel_rfl) (hs : Region.noSelect ops = true := by kernel_rfl) (hf : Region.free .any ops listed i = true := by kernel_rfl)
    (hr : (Region.ready .any ops listed).contains i = true := by kernel_rfl) (hQ : ∀ c a w, Q (.panic c) (a.put (some d) v) w → Q (.panic c) a w := by exact fun _ _ _ h => h) (hd : o.dst = some d := by rfl) (hN : d < N := by decide) : QB P N B w0 ops Q (fuel + 1) listed L s is :=
  QB_take i hl hi hs hf hr hQ hv hw hd hN h
theorem qk (n i m : Nat) (hi : ops[i]? = some o) (hw : Wd ops L o false) (h : QB P N B w0 ops Q fuel (bm n m) ((d, undef) :: L) s is) (hl : listed.setIfInBounds i true = bm n m := by kernel_rfl) (hs : Region.noSelect ops = true := by kernel_rfl) (hf : Region.free .any ops listed i = true := by kernel_rfl)
    (hr : (Region.ready .any ops listed).contains i = true := by kernel_rfl) (hQ : ∀ c a w, Q (.panic c) (a.put (some d) undef) w → Q (.panic c) a w := by exact fun _ _ _ h => h) (hd : o.dst = some d := by rfl) (hN : d < N := by decide) : QB P N B w0 ops Q (fuel + 1) listed L s is :=
  QB_skip i hl hi hs hf hr hQ hw hd hN h
theorem qo (n i m : Nat) (hi : ops[i]? = some o) (h : WM P N B w0 ops (Exit.then (fun a w => Mem B w0 s w ∧ wpAnyH P .any ops Q (fun w => Mem B w0 s w) fuel (bm n m) a w) Q) [o] L is) (hl : listed.setIfInBounds i true = bm n m := by kernel_rfl) (hr : Region.ready .any ops listed = [i] := by kernel_rfl) : QB P N B w0 ops Q (fuel + 1) listed L s is := QB_one i hl hi hr h
theorem qc (n m : Nat) {i : Nat} {rs : List Nat} (hi : ops[i]? = some o) (h : WM P N B w0 ops (Exit.then (fun a w => Mem B w0 s w ∧ wpAnyH P .any ops Q (fun w => Mem B w0 s w) fuel (bm n m) a w) Q) [o] L is) (hs : QBs P N B w0 ops Q fuel listed L s is rs) (hl : listed.setIfInBounds i true = bm n m := by kernel_rfl) : QBs P N B w0 ops Q fuel listed L s is (i :: rs) := QBs_cons hl hi h hs
theorem rb {id : Nat} {l : List Oper} (n : Nat) (h0 : ∀ w, Mem B w0 is w → Mem B w0 s w) (h : QB P N B w0 l.toArray Q n (bm n 0) L s is) (hm : P.follows .mixedOrders = true := by kernel_rfl) (hn : l.length = n := by rfl) (hl : Array.replicate n false = bm n 0 := by kernel_rfl) : CM P N B w0 (.region id l.toArray true) Q L is := CM_regionB hm hn hl h0 h
theorem qa (rs : List Nat) (h : QBs P N B w0 ops Q fuel listed L s is rs) (hr : Region.ready .any ops listed = rs := by kernel_rfl) (hne : rs ≠ [] := by decide) : QB P N B w0 ops Q (fuel + 1) listed L s is := QB_all rs hr hne h
theorem qn (h0 : ∀ w, Mem B w0 js w → Mem B w0 s w) (h : QB P N B w0 ops Q fuel listed L s js) : WM P N B w0 ops (Exit.then (fun a w => Mem B w0 s w ∧ wpAnyH P .any ops Q (fun w => Mem B w0 s w) fuel listed a w) Q) [] L js := WM_nil (QB_next h0 h)
theorem wk (h : WM P N B w0 ops Q rest ((d, undef) :: L) is) {j : Nat} {want : Bool} {d' : Nat} {b : Bool} (hg : o.guard = some (j, want) := by rfl) (hj : (ops[j]?).bind (·.dst) = some d' := by rfl) (hk : lk L d' = some (.bool b) := by rfl) (hc : (b == want) = false := by rfl) (hd : o.dst = some d := by rfl) (hN : d < N := by decide) : WM P N B w0 ops Q (o :: rest) L is := WM_skip (Wd_some hg hj hk hc) hd hN h
end
end Go.Proofs.Ytjcdginailhfmaa
