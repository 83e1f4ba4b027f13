/-
  The last step of a law: the call answers true and leaves all that was there as it was.
-/
import Derived.Test.YtdlminfjdodjoaaGreatVcE
import Derived.ProofKit
namespace Go.Proofs.YtdlminfjdodjoaaGreat
open Go.ChangeShapes Go.WideShapes Go.ChangeAt Go.RowKit

theorem Qayx : ownKnob Tryz.prog.godebug = none := by kernel_rfl
theorem Qaum : laidOutB Tryz.prog = true := by kernel_rfl

/-- The types of a list of parameters can be read, to the bottom. -/
def Quy (P : Program) (ts : List TypeId) : Bool := ts.all fun t => P.readableRec t && decide (t < P.types.size)

theorem Qaiq {H : Type} {enc : TypeId × Value → H} {P : Program} (hl : laidOutB P = true) {W W' : World} (hb : Below W.heap.size W W') {sp' : Nat → Bool} :
    ∀ {ts : List TypeId} {vs : List Value} {ds : List (DataW H)} {ps : List MemPlace}, Quy P ts = true → DataW.TrodAll enc P W 0 (fun _ => true) true ts vs ds ps → (∀ x ∈ ps, x.block < W.heap.size) → (∀ x ∈ ps, sp' x.block = true) → DataW.TrodAll enc P W' 0 sp' true ts vs ds ps
  | [], [], [], ps, _, h, _, _ => h
  | t :: ts, v :: vs, d :: ds, _, hr, ⟨p, q, h1, h2, rfl⟩, hlt, hs => by
    simp only [Quy, List.all_cons, Bool.and_eq_true, decide_eq_true_eq] at hr
    exact ⟨p, q, Go.WideElems.Trod_stays hl hr.1.1 hr.1.2 h1 (fun x hx => hb.same (hlt x (List.mem_append_left _ hx))) (fun x hx => hs x (List.mem_append_left _ hx)),
      Qaiq hl hb (by simpa [Quy] using hr.2) h2 (fun x hx => hlt x (List.mem_append_right _ hx)) (fun x hx => hs x (List.mem_append_right _ hx)), rfl⟩
  | [], _ :: _, _, _, _, h, _, _ => by simp [DataW.TrodAll] at h
  | [], [], _ :: _, _, _, h, _, _ => by simp [DataW.TrodAll] at h
  | _ :: _, [], _, _, _, h, _, _ => by simp [DataW.TrodAll] at h
  | _ :: _, _ :: _, [], _, _, h, _, _ => by simp [DataW.TrodAll] at h

theorem Qauo {H : Type} {enc : TypeId × Value → H} {P : Program} {f : Func} {s : ChangeSpec} {apart fresh handsOn again : Bool} {W W' : World} {args : Array Value} {ds gs : List (DataW H)} {before : List MemPlace} {tb : TypeId}
    (hl : laidOutB P = true) (hr : Quy P f.params.toList = true) (hv : s.vars = []) (hres : f.resultTypes = #[tb]) (hb : P.underlying tb = some .bool)
    (hW : DataW.Whole enc P f.params.toList s.vars apart W args.toList ds gs before) (hspec : s.fn H (ds ++ gs) = { results := [.lit (.bool true)], args := ds }) (hB : Below W.heap.size W W') :
    s.post enc P f apart fresh handsOn again W args (.bool true) W' := by
  have hlt : ∀ p ∈ before, p.block < W.heap.size := fun p hp => hW.lt p hp
  have hold : ∀ p ∈ before, (fun b => decide (b < W.heap.size)) p.block = true := fun p hp => by simpa using hlt p hp
  have hW' := hW
  obtain ⟨p, q, hA, hV, hpq, hz, hn⟩ := hW
  rw [hv] at hV
  have hgq : gs = [] ∧ q = [] := by
    cases gs with
    | nil => exact ⟨rfl, hV⟩
    | cons g gs => exact hV.elim
  obtain ⟨rfl, rfl⟩ := hgq
  have hvars : ∀ sp : Nat → Bool, DataW.TrodVars enc P W' sp s.vars (s.fn H (ds ++ [])).vars [] := fun sp => by
    rw [hv, hspec]; rfl
  have hpp : before = p := by rw [hpq]; simp
  subst hpp
  have hargs : ∀ sp : Nat → Bool, (∀ x ∈ before, sp x.block = true) → DataW.TrodAll enc P W' 0 sp true f.params.toList args.toList (s.fn H (ds ++ [])).args before := fun sp hsp => by
    rw [hspec]; exact Qaiq hl hB hr hA hlt hsp
  have hrs : ∀ (b : Nat) (sp : Nat → Bool) (hd : Bool), DataW.TrodAll enc P W' b sp hd f.resultTypes.toList (Value.resultList f.resultTypes.size (.bool true)) (s.fn H (ds ++ [])).results [] := fun b sp hd => by
    rw [hspec, hres]
    exact trodAll_mk1 (shut_bool hb true)
  refine ⟨ds, [], before, [], before, [], hW', hrs _ _ _, hargs _ hold, hvars _, World.keptBut_mono (fun p hp => ⟨hp, ?_⟩) (hB.frame (· ∈ before)), fun _ => ?_⟩
  · exact Or.inr (by simpa using hp)
  · refine ⟨?_, _, _, ([] ++ before) ++ [], ⟨[] ++ before, [], trodAll_append (hargs _ (fun _ _ => rfl)) (hrs _ _ _), hvars _, rfl, ?_, ?_⟩, ?_⟩
    · intro j t r ht hr'
      rw [hres] at ht hr'
      cases j with
      | zero =>
        simp only [List.getElem?_toArray, List.getElem?_cons_zero, Option.some.injEq] at ht
        subst ht
        have : r = .bool true := by simpa [Value.resultList] using hr'.symm
        subst this
        exact okWide_bool_mk hb true
      | succ j => simp at ht
    · intro b off hp
      have hin : MemPlace.cell b off ∈ before := by simpa using hp
      rw [hB.frozen (hlt _ hin)]
      exact hz b off hin
    · intro ha
      simpa using hn ha
    · intro p hp _
      simpa using hp

/-! ### How an argument reads -/
structure Rds {α : Type} (P : Program) (T : Ty α) (t : TypeId) : Prop where
  go : ∀ {H : Type} {enc : TypeId × Value → H} {W : World} {sp : Nat → Bool} {held : Bool} {fuel : Nat} {cs : List Value} {x : DataW H × List MemPlace}, DataW.trod enc P W 0 sp held fuel t cs = some x → ∃ d, T.rd W W.heap.size cs d
theorem Qfb {P : Program} {t : TypeId} (ht : P.underlying t = some (.int .i64)) : Rds P Qa t := ⟨fun h => by
  obtain ⟨n, rfl, _⟩ := DataW.trod_int ht h
  exact ⟨n, _, rfl, rfl⟩⟩
theorem Qmc {α β : Type} {P : Program} {A : Ty α} {t : TypeId} {f : β → α} (h : Rds P A t) (hf : ∀ a, ∃ b, f b = a) : Rds P (Qgk A f) t := ⟨fun hx => by
  obtain ⟨d, hd⟩ := h.go hx
  obtain ⟨b, rfl⟩ := hf d
  exact ⟨b, hd⟩⟩
theorem Qaqy {w : World} {a : Addr} {v : Value} (h : w.cell? a = some v) : a.block < w.heap.size := by
  cases hb : w.heap[a.block]? with
  | none => simp [World.cell?, hb] at h
  | some b => exact (Array.getElem?_eq_some_iff.1 hb).1
theorem Qhx {α : Type} [Inhabited α] {P : Program} {E : Ty α} {t e : TypeId} (ht : P.underlying t = some (.slice e)) (hz : P.cellsOf e = E.sz) (h0 : 0 < E.sz) (h : Rds P E e) : Rds P (tSl E e) t := by
  refine ⟨fun {H enc W sp held fuel cs x} hx => ?_⟩
  rcases Go.Deep.open_slice ht hx with ⟨rfl, _⟩ | ⟨a, len, cap, m, n, D, Pl, rfl, _, hlc, hcm, hm, _, hel⟩
  · exact ⟨[], _, rfl, by simp, none, 0, rfl, fun h => absurd h (by simp)⟩
  · have hle : len ≤ m := by rw [hm]; split <;> omega
    have hch : ∀ i, i < len → ∃ d, ∃ cs', W.cells? 0 (a.add (i * E.sz)) E.sz = some cs' ∧ E.rd W W.heap.size cs' d := fun i hi => by
      obtain ⟨cs', h1, h2⟩ := hel i (by omega)
      obtain ⟨d, hd⟩ := h.go h2
      exact ⟨d, cs', by rw [← hz]; exact h1, hd⟩
    obtain ⟨f, hf⟩ := Go.Deep.choose_lt hch
    refine ⟨(List.range len).map f, _, rfl, ?_, some a, cap, by simp, fun hl => ⟨a, rfl, ⟨?_, by simpa using hlc⟩, fun j y hy => ?_⟩⟩
    · simp only [List.length_map, List.length_range]
      unfold maxLen at hcm; omega
    · obtain ⟨cs', h1, h2⟩ := hf 0 (by simpa using hl)
      obtain ⟨_, _, hc⟩ := World.cells?_some h1
      have hlen := E.rd_len h2
      have hc0 := hc 0 (by omega)
      rw [List.getElem?_eq_getElem (by omega)] at hc0
      have := Qaqy hc0
      simpa [Qae] using this
    · have hj : j < len := by
        have := (List.getElem?_eq_some_iff.1 hy).1
        simpa using this
      have hy' : f j = y := by simpa [hj] using hy
      obtain ⟨cs', h1, h2⟩ := hf j hj
      obtain ⟨_, hlen, hc⟩ := World.cells?_some h1
      rw [hy'] at h2
      refine ⟨cs', h2, fun o u ho => ?_⟩
      have hol : o < cs'.length := (List.getElem?_eq_some_iff.1 ho).1
      rw [hc o (by omega), ho]

/-- The fields of a struct, from a place on. -/
structure Fs {α : Type} (P : Program) (fs : List Field) (o : Nat) (T : Ty α) : Prop where
  go : ∀ {H : Type} {enc : TypeId × Value → H} {W : World} {sp : Nat → Bool} {held : Bool} {n : Nat} {cs : List Value}, cs.length = o + T.sz → (∀ f ∈ fs, ∃ y, DataW.trod enc P W 0 sp held n f.type ((cs.drop f.offset).take (P.cellsOf f.type)) = some y) → ∃ d, T.rd W W.heap.size (cs.drop o) d
theorem Qmb {α : Type} {P : Program} {f : Field} {o : Nat} {T : Ty α} (ho : f.offset = o) (hz : P.cellsOf f.type = T.sz) (h : Rds P T f.type) : Fs P [f] o T := by
  refine ⟨fun {H enc W sp held n cs} hl hf => ?_⟩
  obtain ⟨y, hy⟩ := hf f (List.mem_singleton.2 rfl)
  rw [ho, hz, List.take_of_length_le (by simp; omega)] at hy
  exact h.go hy
theorem Qey {α β : Type} {P : Program} {f : Field} {fs : List Field} {o : Nat} {A : Ty α} {C : Ty β} (ho : f.offset = o) (hz : P.cellsOf f.type = A.sz) (h : Rds P A f.type) (hs : Fs P fs (o + A.sz) C) : Fs P (f :: fs) o (Qcl A C) := by
  refine ⟨fun {H enc W sp held n cs} hl hf => ?_⟩
  obtain ⟨y, hy⟩ := hf f (List.mem_cons_self ..)
  rw [ho, hz] at hy
  obtain ⟨d, hd⟩ := h.go hy
  obtain ⟨d', hd'⟩ := hs.go (cs := cs) (by rw [hl]; show o + (A.sz + C.sz) = _; omega) (fun g hg => hf g (List.mem_cons_of_mem _ hg))
  refine ⟨(d, d'), _, _, ?_, hd, hd'⟩
  rw [← List.drop_drop, List.take_append_drop]
theorem Qmd {α : Type} {P : Program} {T : Ty α} {t : TypeId} {fs : Array Field} (ht : P.underlying t = some (.struct fs)) (hz : P.cellsOf t = T.sz) (h : Fs P fs.toList 0 T) : Rds P T t := by
  refine ⟨fun {H enc W sp held fuel cs x} hx => ?_⟩
  obtain ⟨xs, n, _, _, hl, hn, hf⟩ := DataW.trod_struct ht hx
  have := h.go (H := H) (enc := enc) (W := W) (sp := sp) (held := held) (n := n) (cs := cs) (by omega) (fun f hm => by
    obtain ⟨i, hi⟩ := List.getElem?_of_mem hm
    have hi' : fs[i]? = some f := by simpa using hi
    have := hf i f hi'
    have hlt : i < xs.length := by rw [hn]; exact (Array.getElem?_eq_some_iff.1 hi').1
    exact ⟨xs[i], by rw [this, List.getElem?_eq_getElem hlt]⟩)
  simpa using this

theorem Qamw {H : Type} {enc : TypeId × Value → H} {α : Type} {P : Program} {T : Ty α} {t : TypeId} {fs : Array Field} {W : World} {b0 : Nat} {sp : Nat → Bool} {held : Bool} {v : Value} {d : DataW H} {ps : List MemPlace} (hR : Rds P T t) (ht : P.underlying t = some (.struct fs))
    (hval : Value.okWide P W .any b0 t v) (hd : DataW.Trod enc P W 0 sp held t v d ps) : ∃ cs x, v = .agg cs.toArray ∧ T.rd W W.heap.size cs x := by
  obtain ⟨cs, rfl, _⟩ := okWide_struct ht hval
  obtain ⟨fuel, hf⟩ := hd
  obtain ⟨x, hr⟩ := hR.go hf
  exact ⟨cs.toList, x, by simp, by simpa [Value.cells] using hr⟩
end Go.Proofs.YtdlminfjdodjoaaGreat

