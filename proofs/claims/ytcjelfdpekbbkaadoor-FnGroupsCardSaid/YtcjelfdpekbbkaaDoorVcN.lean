/-
  Strings: constants, sums, comparisons; what the library's Itoa and Join answer.
-/
import Derived.Test.YtcjelfdpekbbkaaDoorVcQ
import Derived.Test.YtcjelfdpekbbkaaDoorVcW
import Derived.Test.YtcjelfdpekbbkaaDoorVcP
import Derived.Test.YtcjelfdpekbbkaaDoorShelf
import Derived.Lib.AppendIntMem
import Derived.Lib.ItoaLen
import Derived.WalkSmall
import Derived.Laws.Concat
import Derived.Laws.BytesString
namespace Go.Proofs.YtcjelfdpekbbkaaDoor
open Go.RowKit

abbrev sB (l : List UInt8) : ByteArray := ⟨l.toArray⟩
def itoaB (n : Int) : ByteArray := sB (Lib.itoa n)
def joinB (xs : List ByteArray) (sep : ByteArray) : ByteArray := sB (Lib.join (xs.map (·.data.toList)) sep.data.toList)
def eqS (a b : ByteArray) : Bool := a.toList == b.toList
def u8c (n : Int) : UInt8 := UInt8.ofNat n.toNat
theorem sB_size (l : List UInt8) : (sB l).size = l.length := by simp [ByteArray.size]
theorem sB_app (x y : List UInt8) : sB x ++ sB y = sB (x ++ y) := ByteArray.mk_append_mk x y
theorem sB_data (a : ByteArray) : sB a.data.toList = a := by
  apply ByteArray.ext
  simp
theorem eqS_refl (a : ByteArray) : eqS a a = true := beq_self_eq_true _
theorem eqS_iff {a b : ByteArray} : eqS a b = true ↔ a = b := by
  constructor
  · intro h
    have h1 : a.toList = b.toList := beq_iff_eq.1 h
    rw [ByteArray.toList_eq, ByteArray.toList_eq] at h1
    rw [← sB_data a, ← sB_data b, h1]
  · rintro rfl; exact eqS_refl a
theorem sz_app (a b : ByteArray) : (a ++ b).size = a.size + b.size := ByteArray.size_append' a b
theorem itoaB_sz (n : Int) (h : -9223372036854775808 ≤ n ∧ n ≤ 9223372036854775807) : (itoaB n).size ≤ 21 := by
  unfold itoaB
  rw [sB_size]
  exact Lib.itoa_length_le n h.1 h.2
theorem tStr_own {w : World} {s : ByteArray} (h : s.size ≤ 9223372036854775807) : tStr.own w [] [.string s] s := ⟨rfl, _, rfl, rfl, h⟩
theorem tU8_own {w : World} {n : Int} : tU8.own w [] [.int .u8 n] n := ⟨rfl, _, rfl, rfl⟩
theorem ret_s {a b : ByteArray} (h : b = a) : Ending.returned (.string a) = Ending.returned (.string b) := by rw [h]

theorem tdv10 {n : Int} (h : -9223372036854775808 ≤ n ∧ n ≤ 9223372036854775807) : IntKind.i64.wrap (Int.tdiv n 10) = Int.tdiv n 10 ∧ (Int.tdiv n 10).natAbs = n.natAbs / 10 := by
  have h1 : (Int.tdiv n 10).natAbs = n.natAbs / 10 := by rw [Int.natAbs_tdiv]; rfl
  exact ⟨wrap_id (by omega) (by omega), h1⟩

/-! ### The table of the library -/
def TabOK (B : Nat) (w : World) : Prop := Lib.TabIs Tryd.prog w Tryd.powName .u64 Lib.pow10Tab ∧ ∀ g, Tryd.prog.globalNamed Tryd.powName = some g → g < B
theorem TabOK.mem {B : Nat} {w0 w : World} {is : List It} (h : TabOK B w0) (hm : Mem B w0 is w) : TabOK w.heap.size w := by
  obtain ⟨h1, h2⟩ := h
  cases hg : Tryd.prog.globalNamed Tryd.powName with
  | none =>
    unfold Lib.TabIs at h1
    rw [World.var?, hg] at h1
    cases h1
  | some g =>
    have hgB := h2 g hg
    have hv : w.var? Tryd.prog Tryd.powName = some _ := var?_below hm.below hg hgB h1
    refine ⟨hv, fun g' hg' => ?_⟩
    obtain rfl := Option.some.inj (hg'.symm.trans hg)
    rw [World.var?, hg] at hv
    change (match w.heap[g']? with | some (.cells cs _ _) => some cs | _ => none) = some _ at hv
    cases hb : w.heap[g']? with
    | none => rw [hb] at hv; cases hv
    | some b => exact (Array.getElem?_eq_some_iff.1 hb).1
theorem itoa_c (w : World) (n : Int) (h : -9223372036854775808 ≤ n ∧ n ≤ 9223372036854775807) (hT : TabOK w.heap.size w) :
    Calls Tryd.prog 83 #[.int .i64 n] w fun e w' => e = .returned (.string (itoaB n)) ∧ Below w.heap.size w w' :=
  (Tryd.strconv_Itoa n h.1 h.2 w hT.1).mono fun _ _ ⟨h1, k, os, h2⟩ => ⟨h1, h2 ▸ Lib.below_grow _ w (Nat.le_refl _) k os⟩
theorem join_le {sep : List UInt8} {c d : Nat} (hs : sep.length ≤ d) : ∀ {xs : List (List UInt8)}, (∀ x ∈ xs, x.length ≤ c) → (Lib.join xs sep).length ≤ xs.length * (c + d)
  | [], _ => Nat.zero_le _
  | [x], h => by
    have := h x (List.mem_cons_self ..)
    rw [Lib.join_one, List.length_cons, List.length_nil]
    omega
  | x :: y :: r, h => by
    have ih := join_le (sep := sep) (c := c) (d := d) hs (xs := y :: r) fun z hz => h z (List.mem_cons_of_mem _ hz)
    have h1 := h x (List.mem_cons_self ..)
    have e : Lib.join (x :: y :: r) sep = x ++ (sep ++ Lib.join (y :: r) sep) := by
      unfold Lib.join
      simp [List.intercalate]
    rw [e, List.length_append, List.length_append, show (x :: y :: r).length * (c + d) = (y :: r).length * (c + d) + (c + d) from Nat.succ_mul _ _]
    omega
theorem joinB_sz {xs : List ByteArray} {sep : ByteArray} (hn : xs.length ≤ 1000) (hx : ∀ x ∈ xs, x.size ≤ 1000) (hs : sep.size ≤ 1000) : (joinB xs sep).size ≤ 2000000 := by
  unfold joinB
  rw [sB_size]
  have h := join_le (sep := sep.data.toList) (c := 1000) (d := 1000) (by simpa using hs) (xs := xs.map (·.data.toList)) (fun x hx' => by
    obtain ⟨y, hy, rfl⟩ := List.mem_map.1 hx'
    simpa using hx y hy)
  rw [List.length_map] at h
  have : xs.length * (1000 + 1000) ≤ 1000 * (1000 + 1000) := Nat.mul_le_mul_right _ hn
  omega
theorem join_c (w : World) (g c : Nat) (xs : List ByteArray) (sep : ByteArray) (r : rdS tStr w w.heap.size (.slice (some ⟨g, 0, none⟩) xs.length c) xs) (hn : 1 ≤ xs.length ∧ xs.length ≤ 1000) (hx : ∀ x ∈ xs, x.size ≤ 1000) (hs : sep.size ≤ 1000) :
    Calls Tryd.prog 51 #[.slice (some ⟨g, 0, none⟩) xs.length c, .string sep] w fun e w' => e = .returned (.string (joinB xs sep)) ∧ Below w.heap.size w w' := by
  obtain ⟨hm, A, c', e1, h⟩ := r
  cases e1
  obtain ⟨a, e2, ⟨hb, hcap⟩, hx'⟩ := h (by omega)
  cases e2
  have hlen := joinB_sz hn.2 hx hs
  unfold joinB at hlen
  rw [sB_size] at hlen
  have hcell : ∀ (j : Nat) x, xs[j]? = some x → w.cell? ⟨g, 0 + j, none⟩ = some (.string x) := fun j x hj => by
    obtain ⟨c', ⟨v, rfl, rfl, _⟩, hc⟩ := hx' j x hj
    have h1 := hc 0 (.string x) rfl
    rw [add_add'] at h1
    have e : ((⟨g, 0, none⟩ : Addr).add (j * tStr.sz + 0)) = ⟨g, 0 + j, none⟩ := by
      show (⟨g, 0, none⟩ : Addr).add (j * 1 + 0) = _
      unfold Addr.add
      split
      · rename_i h0
        obtain rfl : j = 0 := by omega
        rfl
      · simp
    rw [e] at h1
    exact h1
  exact Tryd.strings_Join g 0 c xs sep w hcell hb (by omega) hcap (by omega)
section
variable {P : Program} {L : List (Nat × Value)} {w : World} {d : Option Nat} {ty : TypeId} {pos : String} {af : Array Edge} {g : Option (Nat × Bool)}
theorem rv_addS {x y : Operand} {p q : ByteArray} {t t2 : TypeId} (hx : ev L x = some (.string p)) (hy : ev L y = some (.string q)) (h : p.size + q.size ≤ 9223372036854775807) :
    RV P L ⟨d, .binOp .add t x y t2, ty, pos, af, g⟩ w (.string (p ++ q)) w := fun N a ha => by
  have e0 := ha.eval hx; have e1 := ha.eval hy; generalize a.eval = ρ at e0 e1 ⊢
  simp [execOp, e0, e1, eqGuard, binOp_string_add, run_string_add_sum w p q h]
theorem rv_eqlS {x y : Operand} {p q : ByteArray} {t t2 : TypeId} (ht : P.underlying t = some .string) (hx : ev L x = some (.string p)) (hy : ev L y = some (.string q)) :
    RV P L ⟨d, .binOp .eql t x y t2, ty, pos, af, g⟩ w (.bool (eqS p q)) w := fun N a ha => by
  have e0 := ha.eval hx; have e1 := ha.eval hy; generalize a.eval = ρ at e0 e1 ⊢
  simp [execOp, e0, e1, eqGuard, binOp_string_eql, eqS]
theorem rv_neqS {x y : Operand} {p q : ByteArray} {t t2 : TypeId} (ht : P.underlying t = some .string) (hx : ev L x = some (.string p)) (hy : ev L y = some (.string q)) :
    RV P L ⟨d, .binOp .neq t x y t2, ty, pos, af, g⟩ w (.bool (!(eqS p q))) w := fun N a ha => by
  have e0 := ha.eval hx; have e1 := ha.eval hy; generalize a.eval = ρ at e0 e1 ⊢
  simp [execOp, e0, e1, eqGuard, binOp_string_neq, eqS]
theorem rv_convU8 {x : Operand} {p : Int} {t t2 : TypeId} (h1 : P.underlying t = some (.int .i64)) (h2 : P.underlying t2 = some (.int .u8)) (hx : ev L x = some (.int .i64 p)) :
    RV P L ⟨d, .convert t t2 x, ty, pos, af, g⟩ w (.int .u8 (IntKind.u8.wrap p)) w := fun N a ha => by
  have e0 := ha.eval hx; generalize a.eval = ρ at e0 ⊢; simp [execOp, e0, convert, run_underlying h1, run_underlying h2, Conv.intToInt]
end
theorem rv_byteS {P : Program} {L : List (Nat × Value)} {B : Nat} {w0 w : World} {is : List It} {d : Option Nat} {ty : TypeId} {pos : String} {af : Array Edge} {g : Option (Nat × Bool)} {x : Operand} {n : Int} {p : Nat} {t t2 e e2 : TypeId} {i : Nat} (hm : Mem B w0 is w) (hi : is[i]? = some (iBox p e [.int .u8 n])) (h1 : P.underlying t = some (.slice e2)) (h2 : P.underlying e2 = some (.int .u8)) (h3 : P.underlying t2 = some .string) (hx : ev L x = some (.slice (some ⟨p, 0, none⟩) 1 1)) :
    RV P L ⟨d, .convert t t2 x, ty, pos, af, g⟩ w (.string (sB [u8c n])) w := fun N a ha => by
  have e0 := ha.eval hx; generalize a.eval = ρ at e0 ⊢
  have hc : w.cell? ⟨p, 0, none⟩ = some (.int .u8 n) := hm.boxCell (o := 0) hi rfl
  have hl := run_loadCells_list (P := P) w ⟨p, 0, none⟩ [.int .u8 n] (fun j v hj => by
    cases j with
    | zero => cases hj; exact hc
    | succ j => simp at hj)
  simp [execOp, e0, run_convert_bytes_string w t t2 e2 _ _ _ h1 h2 h3, run_bytesToString w _ 1 1 [n] hl]
  rfl
/-- An element of a list of the call's own whose elements own no memory. -/
theorem Mem.ownCells {α : Type} [Inhabited α] {B : Nat} {w0 w : World} {is : List It} {E : Ty α} {F : α → List Value} {g m c j i s : Nat} {e : TypeId} {xs : List α} (hF : ∀ {w : World} {B : Nat} {cs : List Value} {x : α}, E.rd w B cs x → cs = F x) (h : Mem B w0 is w) (hi : is[i]? = some (iOwn (tSl E e) [.slice (some ⟨g, 0, none⟩) m c] xs)) (hj : j < m) (hs : E.sz = s) : ∀ o u, (F (gt xs j))[o]? = some u → w.cell? (((⟨g, 0, none⟩ : Addr).add (j * s)).add o) = some u := by
  obtain ⟨hl, A, c', hv, hr⟩ := h.rdSI hi
  cases hv
  obtain ⟨a, ha, _, hx⟩ := hr (by omega)
  cases ha
  obtain ⟨c', h1, h2⟩ := hx j _ (gt_some hj)
  rw [hF h1, hs] at h2
  exact h2
theorem Mem.ownCell0 {α : Type} [Inhabited α] {B : Nat} {w0 w : World} {is : List It} {E : Ty α} {F : α → List Value} {g m c j i s : Nat} {e : TypeId} {xs : List α} (hF : ∀ {w : World} {B : Nat} {cs : List Value} {x : α}, E.rd w B cs x → cs = F x) (h : Mem B w0 is w) (hi : is[i]? = some (iOwn (tSl E e) [.slice (some ⟨g, 0, none⟩) m c] xs)) (hj : j < m) (hs : E.sz = s) (u : Value) (hu : (F (gt xs j))[0]? = some u) : w.cell? ((⟨g, 0, none⟩ : Addr).add (j * s)) = some u := h.ownCells hF hi hj hs 0 u hu
end Go.Proofs.YtcjelfdpekbbkaaDoor
