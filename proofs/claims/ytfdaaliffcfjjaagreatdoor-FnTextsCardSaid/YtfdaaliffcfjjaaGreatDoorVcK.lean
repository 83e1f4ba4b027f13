/-
  The last step of a law whose row lists the library's table: the card that ties the table to the program's text.
-/
import Derived.Test.YtfdaaliffcfjjaaGreatDoorVcZ
import Derived.Test.YtfdaaliffcfjjaaGreatDoorVcN
import Derived.Test.YtfdaaliffcfjjaaGreatDoorCards
import Derived.Test.YtfdaaliffcfjjaaGreatDoorTie
import Derived.Lib.LaidTab
import Derived.LaidMore
import Derived.OpenShut
import Derived.Stop.Joined
import Derived.Stop.LaidErr
import Derived.SevenTiedAt
import Derived.Shelf.Vars
import Derived.Handed
import Derived.Lay
import Derived.ChangeMaps5
namespace Go.Proofs.YtfdaaliffcfjjaaGreatDoor
open Go.ChangeShapes Go.WideShapes Go.ChangeAt Go.WideMaps Go.WideElems Go.RowKit

abbrev laid3 : List (String × DataW Unit) := Rows.fnTextsRow.laid
theorem gPow : Tryz.prog.globalNamed Tryz.powName = some 3 := by kernel_rfl
theorem tPow : (Tryz.prog.globals[3]?).map (·.type) = some 154 := by kernel_rfl
/-- A listed variable that reads as an interface value that is not nil holds one. -/
theorem iface_of_head {P : Program} {n nm : String} {d : DataW Unit} {r : List (String × DataW Unit)} {W : World} {g ti : Nat} {ms : Array (String × TypeId)}
    (h : laidMet P ((n, .iface nm d) :: r) W) (hg : (P.globals[g]?).map (·.type) = some ti) (hn : P.globalNamed n = some g) (hi : P.underlying ti = some (.interface ms)) : ∃ t p, W.cell? ⟨g, 0, none⟩ = some (.iface t p) := by
  obtain ⟨ps, ⟨g0, t0, cs0, f0, p0, q0, hg0, ht0, hv0, hd0, _, e0⟩, _, _⟩ := h
  obtain rfl := Option.some.inj (hn.symm.trans hg0)
  obtain rfl := Option.some.inj (hg.symm.trans ht0)
  obtain ⟨l0⟩ := cs0
  obtain ⟨_, u, v, rfl, _, _⟩ := iface_of_trod hi hd0
  exact ⟨u, v, by simpa using World.var?_cell hg0 hv0 0⟩
theorem tabOK_of_laid {W : World} (h : laidMetH Tryz.prog laid3 W) (hs : W.ShapedOpen Tryz.prog) : TabOK W.heap.size W := by
  rw [MakeChecks.laidMetH_plain _ _ _ (by kernel_rfl)] at h
  have h2 := laidMet.tail (laidMet.tail (show laidMet Tryz.prog (_ :: _ :: _ :: _) W from h))
  have h3 : laidMet Tryz.prog ((Tryz.powName, Lib.tabData .u64 Lib.pow10Tab) :: _) W := h2
  have h4 := laidMet.tail (laidMet.tail (show laidMet Tryz.prog (_ :: _ :: _ :: _) W from h2))
  have h5 := laidMet.tail (show laidMet Tryz.prog (_ :: _ :: _) W from h4)
  have hT := Lib.tabIs_of_head (n := 20) gPow tPow Tryz.underlying154 Tryz.underlying132 (by kernel_rfl) (by kernel_rfl) h3
  have hrg : ∃ t p, W.cell? ⟨2, 0, none⟩ = some (.iface t p) := iface_of_head (g := 2) (ti := 76) h4 (by kernel_rfl) (by kernel_rfl) und_err
  have hsy : ∃ t p, W.cell? ⟨1, 0, none⟩ = some (.iface t p) := iface_of_head (g := 1) (ti := 76) h5 (by kernel_rfl) (by kernel_rfl) und_err
  have hml := cell_of_shapedOpen_int (g := 0) hs (of_decide_eq_true (by kernel_rfl)) (zero := #[.int .i64 0]) (t := 3) (by kernel_rfl) (by kernel_rfl) (by kernel_rfl) (by kernel_rfl) Tryz.underlying3
  refine ⟨hT, fun g hg => ?_, hml, hsy, hrg, ?_, ?_, ?_⟩
  · obtain rfl := Option.some.inj (gPow.symm.trans hg)
    have hv : W.var? Tryz.prog Tryz.powName = some _ := hT
    rw [World.var?, gPow] at hv
    change (match W.heap[(3 : Nat)]? with | some (Obj.cells cs _ _) => some cs | _ => none) = some _ at hv
    cases hb : W.heap[(3 : Nat)]? with
    | none => rw [hb] at hv; cases hv
    | some b => exact (Array.getElem?_eq_some_iff.1 hb).1
  · obtain ⟨_, hc⟩ := hml
    exact Lib.lt_of_cell hc
  · obtain ⟨_, _, hc⟩ := hsy
    exact Lib.lt_of_cell hc
  · obtain ⟨_, _, hc⟩ := hrg
    exact Lib.lt_of_cell hc
/-- As the kit's wrap for a row with laid variables, with the shape of the world handed on. -/
theorem ret_shaped {H : Type} {enc : TypeId × Value → H} {a : Assume} {C : Checked} {os : Os} {f : FuncId} {fn : Func} {s : ChangeSpec} {conds : List PathCond} {apart fresh handsOn again : Bool} {X : World → Array Value → Prop}
    (hX : ∀ (w w' : World) (args : Array Value), w.heap = w'.heap → X w args → X w' args)
    (own : ownKnob C.prog.godebug = none) (started : os.Started) (noInit : C.prog.inits.idxOf? f = none) (hfn : C.prog.funcs[f]? = some fn)
    (witness : ∃ (w : World) (tape : Tape) (i : Input), w.os = os ∧ (w.forCall tape i).Shaped C.prog ∧ i.vars = [] ∧ Input.okWide C.prog (w.forCall tape i) .any w.heap.size f i ∧
      ((s.pre enc C.prog fn conds apart (w.forCall tape i).memory i.args ∧ X (w.forCall tape i).memory i.args) ∧ sizedMet enc C.prog fn (OpenSpec.ofChange s) apart (w.forCall tape i).memory i.args) ∧ a.holds C.prog (lone (Frame.enter C.prog f i.args .normal) [] (w.forCall tape i)))
    (contract : ∀ (W : World) (base : Nat) (args : Array Value) (ds gs : List (DataW H)) (before : List MemPlace),
      (∀ (j : Nat) t v, fn.params[j]? = some t → args[j]? = some v → Value.okWide C.prog W .any base t v) →
      DataW.Whole enc C.prog fn.params.toList s.vars apart W args.toList ds gs before → X W args → W.ShapedOpen C.prog →
      Calls C.prog f args W fun e W' => ∃ v, e = .returned v ∧ s.post enc C.prog fn apart fresh handsOn again W args v W') :
    ReturnsInHanded a C os f .any (fun w args => (s.pre enc C.prog fn conds apart w args ∧ X w args) ∧ sizedMet enc C.prog fn (OpenSpec.ofChange s) apart w args) (s.post enc C.prog fn apart fresh handsOn again) := by
  refine returnsInHanded_of_calls own started noInit witness ?_
  intro w tape i _ hsh _ hok hpre _
  obtain ⟨_, _, _, fn', hfn', _, _, _, _, hval⟩ := hok
  obtain rfl : fn' = fn := Option.some.inj (hfn'.symm.trans hfn)
  obtain ⟨⟨⟨ds, gs, before, hw, _⟩, hx⟩, _⟩ := hpre
  refine (contract (w.forCall tape i) w.heap.size i.args ds gs before hval (DataW.Whole.of_heap (w' := w.forCall tape i) (by rfl) hw) (hX _ _ _ (by rfl) hx) hsh).mono fun e W' ⟨v, he, hp⟩ => ?_
  subst he
  exact ChangeSpec.post_blind hp
/-- A heap on which all that is listed is laid: closed facts. -/
theorem door_met (os : Os) (args : Array Value) : laidMetH Tryz.prog laid3 ((World.laidAll Tryz.prog os laid3).forCall (fun _ _ => 0) ⟨#[], args, []⟩).memory := by
  rw [MakeChecks.laidMetH_plain _ _ _ (by kernel_rfl)]
  exact laidMet_laidAll _ (by kernel_rfl) (by kernel_rfl)
theorem door_shaped (os : Os) (args : Array Value) : ((World.laidAll Tryz.prog os laid3).forCall (fun _ _ => 0) ⟨#[], args, []⟩).Shaped Tryz.prog := World.shaped_of_ZipB (by kernel_rfl) (by kernel_rfl)

/-! ### Arguments whose integers lie in their range -/
def rng64 (n : Int) : Prop := -9223372036854775808 ≤ n ∧ n ≤ 9223372036854775807
structure RdsR {α : Type} (P : Program) (T : Ty α) (t : TypeId) (R : α → Prop) : Prop where
  go : ∀ {H : Type} {enc : TypeId × Value → H} {W : World} {sp : Nat → Bool} {held : Bool} {fuel : Nat} {cs : List Value} {x : DataW H × List MemPlace}, DataW.trod enc P W 0 sp held fuel t cs = some x → ∃ d, T.rd W W.heap.size cs d ∧ R d
theorem RdsR_int {P : Program} {t : TypeId} (ht : P.underlying t = some (.int .i64)) : RdsR P tInt t rng64 := ⟨fun h => by
  obtain ⟨n, rfl, _, hw⟩ := DataW.trod_int ht h
  exact ⟨n, ⟨_, rfl, rfl⟩, bounds_i64 hw⟩⟩
theorem RdsR_of {α : Type} {P : Program} {T : Ty α} {t : TypeId} (h : Rds P T t) : RdsR P T t (fun _ => True) := ⟨fun hx => by
  obtain ⟨d, hd⟩ := h.go hx
  exact ⟨d, hd, trivial⟩⟩
theorem RdsR_map {α β : Type} {P : Program} {A : Ty α} {t : TypeId} {f : β → α} {R : α → Prop} (h : RdsR P A t R) (hf : ∀ a, ∃ b, f b = a) : RdsR P (tMap A f) t (fun b => R (f b)) := ⟨fun hx => by
  obtain ⟨d, hd, hR⟩ := h.go hx
  obtain ⟨b, rfl⟩ := hf d
  exact ⟨b, hd, hR⟩⟩
structure FsR {α : Type} (P : Program) (fs : List Field) (o : Nat) (T : Ty α) (R : α → Prop) : Prop where
  go : ∀ {H : Type} {enc : TypeId × Value → H} {W : World} {sp : Nat → Bool} {held : Bool} {n : Nat} {cs : List Value}, cs.length = o + T.sz → (∀ f ∈ fs, ∃ y, DataW.trod enc P W 0 sp held n f.type ((cs.drop f.offset).take (P.cellsOf f.type)) = some y) → ∃ d, T.rd W W.heap.size (cs.drop o) d ∧ R d
theorem FsR_one {α : Type} {P : Program} {f : Field} {o : Nat} {T : Ty α} {R : α → Prop} (ho : f.offset = o) (hz : P.cellsOf f.type = T.sz) (h : RdsR P T f.type R) : FsR P [f] o T R := by
  refine ⟨fun {H enc W sp held n cs} hl hf => ?_⟩
  obtain ⟨y, hy⟩ := hf f (List.mem_singleton.2 rfl)
  rw [ho, hz, List.take_of_length_le (by simp; omega)] at hy
  exact h.go hy
theorem FsR_cons {α β : Type} {P : Program} {f : Field} {fs : List Field} {o : Nat} {A : Ty α} {C : Ty β} {R : α → Prop} {S : β → Prop} (ho : f.offset = o) (hz : P.cellsOf f.type = A.sz) (h : RdsR P A f.type R) (hs : FsR P fs (o + A.sz) C S) : FsR P (f :: fs) o (tPair A C) (fun x => R x.1 ∧ S x.2) := by
  refine ⟨fun {H enc W sp held n cs} hl hf => ?_⟩
  obtain ⟨y, hy⟩ := hf f (List.mem_cons_self ..)
  rw [ho, hz] at hy
  obtain ⟨d, hd, hR⟩ := h.go hy
  obtain ⟨d', hd', hS⟩ := hs.go (cs := cs) (by rw [hl]; show o + (A.sz + C.sz) = _; omega) (fun g hg => hf g (List.mem_cons_of_mem _ hg))
  refine ⟨(d, d'), ⟨_, _, ?_, hd, hd'⟩, hR, hS⟩
  rw [← List.drop_drop, List.take_append_drop]
theorem RdsR_struct {α : Type} {P : Program} {T : Ty α} {t : TypeId} {fs : Array Field} {R : α → Prop} (ht : P.underlying t = some (.struct fs)) (hz : P.cellsOf t = T.sz) (h : FsR P fs.toList 0 T R) : RdsR P T t R := by
  refine ⟨fun {H enc W sp held fuel cs x} hx => ?_⟩
  obtain ⟨xs, n, _, _, hl, hn, hf⟩ := DataW.trod_struct ht hx
  have := h.go (H := H) (enc := enc) (W := W) (sp := sp) (held := held) (n := n) (cs := cs) (by omega) (fun f hm => by
    obtain ⟨i, hi⟩ := List.getElem?_of_mem hm
    have hi' : fs[i]? = some f := by simpa using hi
    have := hf i f hi'
    have hlt : i < xs.length := by rw [hn]; exact (Array.getElem?_eq_some_iff.1 hi').1
    exact ⟨xs[i], by rw [this, List.getElem?_eq_getElem hlt]⟩)
  simpa using this
theorem arg_structR {H : Type} {enc : TypeId × Value → H} {α : Type} {P : Program} {T : Ty α} {t : TypeId} {fs : Array Field} {W : World} {b0 : Nat} {sp : Nat → Bool} {held : Bool} {v : Value} {d : DataW H} {ps : List MemPlace} {R : α → Prop} (hR : RdsR P T t R) (ht : P.underlying t = some (.struct fs))
    (hval : Value.okWide P W .any b0 t v) (hd : DataW.Trod enc P W 0 sp held t v d ps) : ∃ cs x, v = .agg cs.toArray ∧ T.rd W W.heap.size cs x ∧ R x := by
  obtain ⟨cs, rfl, _⟩ := okWide_struct ht hval
  obtain ⟨fuel, hf⟩ := hd
  obtain ⟨x, hr, h2⟩ := hR.go hf
  exact ⟨cs.toList, x, by simp, by simpa [Value.cells] using hr, h2⟩
end Go.Proofs.YtfdaaliffcfjjaaGreatDoor
