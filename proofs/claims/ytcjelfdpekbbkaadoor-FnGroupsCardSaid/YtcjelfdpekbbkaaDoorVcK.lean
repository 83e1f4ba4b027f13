/-
  The last step of a law whose row lists the library's table: the card that ties the table to the program's text.
-/
import Derived.Test.YtcjelfdpekbbkaaDoorVcZ
import Derived.Test.YtcjelfdpekbbkaaDoorVcN
import Derived.Test.YtcjelfdpekbbkaaDoorCards
import Derived.Test.YtcjelfdpekbbkaaDoorTie
import Derived.Lib.LaidTab
import Derived.LaidMore
import Derived.OpenShut
import Derived.Stop.Joined
import Derived.Stop.LaidErr
import Derived.SevenTiedAt
namespace Go.Proofs.YtcjelfdpekbbkaaDoor
open Go.ChangeShapes Go.WideShapes Go.ChangeAt Go.WideMaps Go.WideElems Go.RowKit

abbrev laid3 : List (String × DataW Unit) := Rows.fnExactFormatGroupRow.laid
theorem gPow : Tryd.prog.globalNamed Tryd.powName = some 1 := by kernel_rfl
theorem tPow : (Tryd.prog.globals[1]?).map (·.type) = some 160 := by kernel_rfl
theorem tabOK_of_laid {W : World} (h : laidMetH Tryd.prog laid3 W) : TabOK W.heap.size W := by
  rw [MakeChecks.laidMetH_plain _ _ _ (by kernel_rfl)] at h
  have h3 : laidMet Tryd.prog ((Tryd.powName, Lib.tabData .u64 Lib.pow10Tab) :: []) W := laidMet.tail (laidMet.tail (show laidMet Tryd.prog (_ :: _ :: _) W from h))
  have hT := Lib.tabIs_of_head (n := 20) gPow tPow Tryd.underlying160 Tryd.underlying143 (by kernel_rfl) (by kernel_rfl) h3
  refine ⟨hT, fun g hg => ?_⟩
  obtain rfl := Option.some.inj (gPow.symm.trans hg)
  have hv : W.var? Tryd.prog Tryd.powName = some _ := hT
  rw [World.var?, gPow] at hv
  change (match W.heap[(1 : Nat)]? with | some (Obj.cells cs _ _) => some cs | _ => none) = some _ at hv
  cases hb : W.heap[(1 : Nat)]? with
  | none => rw [hb] at hv; cases hv
  | some b => exact (Array.getElem?_eq_some_iff.1 hb).1
/-- The door's own heap meets the condition: closed facts. -/
theorem door_met (os : Os) (args : Array Value) : laidMetH Tryd.prog laid3 ((World.doorLaid Tryd.prog 24 os).forCall (fun _ _ => 0) ⟨#[], args, []⟩).memory :=
  laidMetH_of_parts3 (fuel := 8) (laidMet_of_run' 8 (by kernel_rfl) (by kernel_rfl)) (by kernel_rfl) (by kernel_rfl)
theorem door_shaped (os : Os) (args : Array Value) : ((World.doorLaid Tryd.prog 24 os).forCall (fun _ _ => 0) ⟨#[], args, []⟩).Shaped Tryd.prog := World.shaped_of_RefB (by kernel_rfl) (by kernel_rfl)

/-! ### Arguments whose integers lie in their range -/
def rng64 (n : Int) : Prop := -9223372036854775808 ≤ n ∧ n ≤ 9223372036854775807
structure RdsR {α : Type} (P : Program) (T : Ty α) (t : TypeId) (R : α → Prop) : Prop where
  go : ∀ {H : Type} {enc : TypeId × Value → H} {W : World} {sp : Nat → Bool} {held : Bool} {fuel : Nat} {cs : List Value} {x : DataW H × List MemPlace}, DataW.trod enc P W 0 sp held fuel t cs = some x → ∃ d, T.rd W W.heap.size cs d ∧ R d
theorem RdsR_int {P : Program} {t : TypeId} (ht : P.underlying t = some (.int .i64)) : RdsR P tInt t rng64 := ⟨fun h => by
  obtain ⟨n, rfl, _, hw⟩ := DataW.trod_int ht h
  exact ⟨n, ⟨_, rfl, rfl⟩, bounds_i64 hw⟩⟩
theorem RdsR_of {α : Type} {P : Program} {T : Ty α} {t : TypeId} (h : Rds P T t) : RdsR P T t (fun _ => True) := ⟨fun hx => by
  obtain ⟨d, hd⟩ := h.go hx
  exact ⟨d, hd, trivial⟩⟩
theorem RdsR_map {α β : Type} {P : Program} {A : Ty α} {t : TypeId} {f : β → α} {R : α → Prop} (h : RdsR P A t R) (hf : ∀ a, ∃ b, f b = a) : RdsR P (tMap A f) t (fun b => R (f b)) := ⟨fun hx => by
  obtain ⟨d, hd, hR⟩ := h.go hx
  obtain ⟨b, rfl⟩ := hf d
  exact ⟨b, hd, hR⟩⟩
structure FsR {α : Type} (P : Program) (fs : List Field) (o : Nat) (T : Ty α) (R : α → Prop) : Prop where
  go : ∀ {H : Type} {enc : TypeId × Value → H} {W : World} {sp : Nat → Bool} {held : Bool} {n : Nat} {cs : List Value}, cs.length = o + T.sz → (∀ f ∈ fs, ∃ y, DataW.trod enc P W 0 sp held n f.type ((cs.drop f.offset).take (P.cellsOf f.type)) = some y) → ∃ d, T.rd W W.heap.size (cs.drop o) d ∧ R d
theorem FsR_one {α : Type} {P : Program} {f : Field} {o : Nat} {T : Ty α} {R : α → Prop} (ho : f.offset = o) (hz : P.cellsOf f.type = T.sz) (h : RdsR P T f.type R) : FsR P [f] o T R := by
  refine ⟨fun {H enc W sp held n cs} hl hf => ?_⟩
  obtain ⟨y, hy⟩ := hf f (List.mem_singleton.2 rfl)
  rw [ho, hz, List.take_of_length_le (by simp; omega)] at hy
  exact h.go hy
theorem FsR_cons {α β : Type} {P : Program} {f : Field} {fs : List Field} {o : Nat} {A : Ty α} {C : Ty β} {R : α → Prop} {S : β → Prop} (ho : f.offset = o) (hz : P.cellsOf f.type = A.sz) (h : RdsR P A f.type R) (hs : FsR P fs (o + A.sz) C S) : FsR P (f :: fs) o (tPair A C) (fun x => R x.1 ∧ S x.2) := by
  refine ⟨fun {H enc W sp held n cs} hl hf => ?_⟩
  obtain ⟨y, hy⟩ := hf f (List.mem_cons_self ..)
  rw [ho, hz] at hy
  obtain ⟨d, hd, hR⟩ := h.go hy
  obtain ⟨d', hd', hS⟩ := hs.go (cs := cs) (by rw [hl]; show o + (A.sz + C.sz) = _; omega) (fun g hg => hf g (List.mem_cons_of_mem _ hg))
  refine ⟨(d, d'), ⟨_, _, ?_, hd, hd'⟩, hR, hS⟩
  rw [← List.drop_drop, List.take_append_drop]
theorem RdsR_struct {α : Type} {P : Program} {T : Ty α} {t : TypeId} {fs : Array Field} {R : α → Prop} (ht : P.underlying t = some (.struct fs)) (hz : P.cellsOf t = T.sz) (h : FsR P fs.toList 0 T R) : RdsR P T t R := by
  refine ⟨fun {H enc W sp held fuel cs x} hx => ?_⟩
  obtain ⟨xs, n, _, _, hl, hn, hf⟩ := DataW.trod_struct ht hx
  have := h.go (H := H) (enc := enc) (W := W) (sp := sp) (held := held) (n := n) (cs := cs) (by omega) (fun f hm => by
    obtain ⟨i, hi⟩ := List.getElem?_of_mem hm
    have hi' : fs[i]? = some f := by simpa using hi
    have := hf i f hi'
    have hlt : i < xs.length := by rw [hn]; exact (Array.getElem?_eq_some_iff.1 hi').1
    exact ⟨xs[i], by rw [this, List.getElem?_eq_getElem hlt]⟩)
  simpa using this
theorem arg_structR {H : Type} {enc : TypeId × Value → H} {α : Type} {P : Program} {T : Ty α} {t : TypeId} {fs : Array Field} {W : World} {b0 : Nat} {sp : Nat → Bool} {held : Bool} {v : Value} {d : DataW H} {ps : List MemPlace} {R : α → Prop} (hR : RdsR P T t R) (ht : P.underlying t = some (.struct fs))
    (hval : Value.okWide P W .any b0 t v) (hd : DataW.Trod enc P W 0 sp held t v d ps) : ∃ cs x, v = .agg cs.toArray ∧ T.rd W W.heap.size cs x ∧ R x := by
  obtain ⟨cs, rfl, _⟩ := okWide_struct ht hval
  obtain ⟨fuel, hf⟩ := hd
  obtain ⟨x, hr, h2⟩ := hR.go hf
  exact ⟨cs.toList, x, by simp, by simpa [Value.cells] using hr, h2⟩
end Go.Proofs.YtcjelfdpekbbkaaDoor
