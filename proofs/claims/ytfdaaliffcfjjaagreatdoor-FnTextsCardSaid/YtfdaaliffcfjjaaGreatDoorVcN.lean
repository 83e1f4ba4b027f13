/-
  Strings: constants, sums, comparisons; what the library's Itoa and Join answer.
-/
import Derived.Test.YtfdaaliffcfjjaaGreatDoorVcQ
import Derived.Test.YtfdaaliffcfjjaaGreatDoorVcW
import Derived.Test.YtfdaaliffcfjjaaGreatDoorVcP
import Derived.Test.YtfdaaliffcfjjaaGreatDoorShelf
import Derived.Lib.AppendIntMem
import Derived.Lib.ItoaLen
import Derived.WalkSmall
import Derived.Laws.Concat
import Derived.Laws.BytesString
import Derived.Lib.AtoiAllCases
import Derived.Lib.SplitLaws
import Derived.WideLaws
import Derived.Laws.Strings2
import Derived.Laws.Strings3
namespace Go.Proofs.YtfdaaliffcfjjaaGreatDoor
open Go.RowKit

abbrev sB (l : List UInt8) : ByteArray := ⟨l.toArray⟩
def itoaB (n : Int) : ByteArray := sB (Lib.itoa n)
def joinB (xs : List ByteArray) (sep : ByteArray) : ByteArray := sB (Lib.join (xs.map (·.data.toList)) sep.data.toList)
def eqS (a b : ByteArray) : Bool := a.toList == b.toList
def u8c (n : Int) : UInt8 := UInt8.ofNat n.toNat
theorem sB_size (l : List UInt8) : (sB l).size = l.length := by simp [ByteArray.size]
theorem sB_app (x y : List UInt8) : sB x ++ sB y = sB (x ++ y) := ByteArray.mk_append_mk x y
theorem sB_data (a : ByteArray) : sB a.data.toList = a := by
  apply ByteArray.ext
  simp
theorem eqS_refl (a : ByteArray) : eqS a a = true := beq_self_eq_true _
theorem eqS_iff {a b : ByteArray} : eqS a b = true ↔ a = b := by
  constructor
  · intro h
    have h1 : a.toList = b.toList := beq_iff_eq.1 h
    rw [ByteArray.toList_eq, ByteArray.toList_eq] at h1
    rw [← sB_data a, ← sB_data b, h1]
  · rintro rfl; exact eqS_refl a
theorem sz_app (a b : ByteArray) : (a ++ b).size = a.size + b.size := ByteArray.size_append' a b
theorem itoaB_sz (n : Int) (h : -9223372036854775808 ≤ n ∧ n ≤ 9223372036854775807) : (itoaB n).size ≤ 21 := by
  unfold itoaB
  rw [sB_size]
  exact Lib.itoa_length_le n h.1 h.2
theorem tStr_own {w : World} {s : ByteArray} (h : s.size ≤ 9223372036854775807) : tStr.own w [] [.string s] s := ⟨rfl, _, rfl, rfl, h⟩
theorem tU8_own {w : World} {n : Int} : tU8.own w [] [.int .u8 n] n := ⟨rfl, _, rfl, rfl⟩
theorem ret_s {a b : ByteArray} (h : b = a) : Ending.returned (.string a) = Ending.returned (.string b) := by rw [h]

theorem tdv10 {n : Int} (h : -9223372036854775808 ≤ n ∧ n ≤ 9223372036854775807) : IntKind.i64.wrap (Int.tdiv n 10) = Int.tdiv n 10 ∧ (Int.tdiv n 10).natAbs = n.natAbs / 10 := by
  have h1 : (Int.tdiv n 10).natAbs = n.natAbs / 10 := by rw [Int.natAbs_tdiv]; rfl
  exact ⟨wrap_id (by omega) (by omega), h1⟩

/-! ### What the library's variables hold -/
structure TabOK (B : Nat) (w : World) : Prop where
  tab : Lib.TabIs Tryz.prog w Tryz.powName .u64 Lib.pow10Tab
  lt : ∀ g, Tryz.prog.globalNamed Tryz.powName = some g → g < B
  ml : ∃ m, w.cell? ⟨0, 0, none⟩ = some (.int .i64 m)
  sy : ∃ t p, w.cell? ⟨1, 0, none⟩ = some (.iface t p)
  rg : ∃ t p, w.cell? ⟨2, 0, none⟩ = some (.iface t p)
  lo : (0 : Nat) < B ∧ (1 : Nat) < B ∧ (2 : Nat) < B
theorem TabOK.mem {B : Nat} {w0 w : World} {is : List It} (h : TabOK B w0) (hm : Mem B w0 is w) : TabOK w.heap.size w := by
  obtain ⟨h1, h2, ⟨m, h3⟩, ⟨t4, p4, h4⟩, ⟨t5, p5, h5⟩, l1, l2, l3⟩ := h
  have hs : B ≤ w.heap.size := by
    have := Lib.lt_of_cell ((hm.cell0 (show (⟨0, 0, none⟩ : Addr).block < B from l1)).trans h3)
    exact hm.size
  have k3 := (hm.cell0 (show (⟨0, 0, none⟩ : Addr).block < B from l1)).trans h3
  have k4 := (hm.cell0 (show (⟨1, 0, none⟩ : Addr).block < B from l2)).trans h4
  have k5 := (hm.cell0 (show (⟨2, 0, none⟩ : Addr).block < B from l3)).trans h5
  refine ⟨?_, ?_, ⟨m, k3⟩, ⟨t4, p4, k4⟩, ⟨t5, p5, k5⟩, Nat.lt_of_lt_of_le l1 hs, Nat.lt_of_lt_of_le l2 hs, Nat.lt_of_lt_of_le l3 hs⟩
  all_goals
    cases hg : Tryz.prog.globalNamed Tryz.powName with
    | none =>
      unfold Lib.TabIs at h1
      rw [World.var?, hg] at h1
      cases h1
    | some g =>
      have hgB := h2 g hg
      have hv : w.var? Tryz.prog Tryz.powName = some _ := var?_below hm.below hg hgB h1
      first
        | exact hv
        | exact fun g' hg' => by
            obtain rfl := Option.some.inj hg'
            exact Nat.lt_of_lt_of_le hgB hs
theorem itoa_c (w : World) (n : Int) (h : -9223372036854775808 ≤ n ∧ n ≤ 9223372036854775807) (hT : TabOK w.heap.size w) :
    Calls Tryz.prog 54 #[.int .i64 n] w fun e w' => e = .returned (.string (itoaB n)) ∧ Below w.heap.size w w' :=
  (Tryz.strconv_Itoa n h.1 h.2 w hT.tab).mono fun _ _ ⟨h1, k, os, h2⟩ => ⟨h1, h2 ▸ Lib.below_grow _ w (Nat.le_refl _) k os⟩
theorem join_le {sep : List UInt8} {c d : Nat} (hs : sep.length ≤ d) : ∀ {xs : List (List UInt8)}, (∀ x ∈ xs, x.length ≤ c) → (Lib.join xs sep).length ≤ xs.length * (c + d)
  | [], _ => Nat.zero_le _
  | [x], h => by
    have := h x (List.mem_cons_self ..)
    rw [Lib.join_one, List.length_cons, List.length_nil]
    omega
  | x :: y :: r, h => by
    have ih := join_le (sep := sep) (c := c) (d := d) hs (xs := y :: r) fun z hz => h z (List.mem_cons_of_mem _ hz)
    have h1 := h x (List.mem_cons_self ..)
    have e : Lib.join (x :: y :: r) sep = x ++ (sep ++ Lib.join (y :: r) sep) := by
      unfold Lib.join
      simp [List.intercalate]
    rw [e, List.length_append, List.length_append, show (x :: y :: r).length * (c + d) = (y :: r).length * (c + d) + (c + d) from Nat.succ_mul _ _]
    omega
theorem joinB_sz {xs : List ByteArray} {sep : ByteArray} (hn : xs.length ≤ 1000) (hx : ∀ x ∈ xs, x.size ≤ 1000) (hs : sep.size ≤ 1000) : (joinB xs sep).size ≤ 2000000 := by
  unfold joinB
  rw [sB_size]
  have h := join_le (sep := sep.data.toList) (c := 1000) (d := 1000) (by simpa using hs) (xs := xs.map (·.data.toList)) (fun x hx' => by
    obtain ⟨y, hy, rfl⟩ := List.mem_map.1 hx'
    simpa using hx y hy)
  rw [List.length_map] at h
  have : xs.length * (1000 + 1000) ≤ 1000 * (1000 + 1000) := Nat.mul_le_mul_right _ hn
  omega
theorem join_c (w : World) (g c : Nat) (xs : List ByteArray) (sep : ByteArray) (r : rdS tStr w w.heap.size (.slice (some ⟨g, 0, none⟩) xs.length c) xs) (hn : 1 ≤ xs.length ∧ xs.length ≤ 1000) (hx : ∀ x ∈ xs, x.size ≤ 1000) (hs : sep.size ≤ 1000) :
    Calls Tryz.prog 55 #[.slice (some ⟨g, 0, none⟩) xs.length c, .string sep] w fun e w' => e = .returned (.string (joinB xs sep)) ∧ Below w.heap.size w w' := by
  obtain ⟨hm, A, c', e1, h⟩ := r
  cases e1
  obtain ⟨a, e2, ⟨hb, hcap⟩, hx'⟩ := h (by omega)
  cases e2
  have hlen := joinB_sz hn.2 hx hs
  unfold joinB at hlen
  rw [sB_size] at hlen
  have hcell : ∀ (j : Nat) x, xs[j]? = some x → w.cell? ⟨g, 0 + j, none⟩ = some (.string x) := fun j x hj => by
    obtain ⟨c', ⟨v, rfl, rfl, _⟩, hc⟩ := hx' j x hj
    have h1 := hc 0 (.string x) rfl
    rw [add_add'] at h1
    have e : ((⟨g, 0, none⟩ : Addr).add (j * tStr.sz + 0)) = ⟨g, 0 + j, none⟩ := by
      show (⟨g, 0, none⟩ : Addr).add (j * 1 + 0) = _
      unfold Addr.add
      split
      · rename_i h0
        obtain rfl : j = 0 := by omega
        rfl
      · simp
    rw [e] at h1
    exact h1
  exact Tryz.strings_Join g 0 c xs sep w hcell hb (by omega) hcap (by omega)
section
variable {P : Program} {L : List (Nat × Value)} {w : World} {d : Option Nat} {ty : TypeId} {pos : String} {af : Array Edge} {g : Option (Nat × Bool)}
theorem rv_addS {x y : Operand} {p q : ByteArray} {t t2 : TypeId} (hx : ev L x = some (.string p)) (hy : ev L y = some (.string q)) (h : p.size + q.size ≤ 9223372036854775807) :
    RV P L ⟨d, .binOp .add t x y t2, ty, pos, af, g⟩ w (.string (p ++ q)) w := fun N a ha => by
  have e0 := ha.eval hx; have e1 := ha.eval hy; generalize a.eval = ρ at e0 e1 ⊢
  simp [execOp, e0, e1, eqGuard, binOp_string_add, run_string_add_sum w p q h]
theorem rv_eqlS {x y : Operand} {p q : ByteArray} {t t2 : TypeId} (ht : P.underlying t = some .string) (hx : ev L x = some (.string p)) (hy : ev L y = some (.string q)) :
    RV P L ⟨d, .binOp .eql t x y t2, ty, pos, af, g⟩ w (.bool (eqS p q)) w := fun N a ha => by
  have e0 := ha.eval hx; have e1 := ha.eval hy; generalize a.eval = ρ at e0 e1 ⊢
  simp [execOp, e0, e1, eqGuard, binOp_string_eql, eqS]
theorem rv_neqS {x y : Operand} {p q : ByteArray} {t t2 : TypeId} (ht : P.underlying t = some .string) (hx : ev L x = some (.string p)) (hy : ev L y = some (.string q)) :
    RV P L ⟨d, .binOp .neq t x y t2, ty, pos, af, g⟩ w (.bool (!(eqS p q))) w := fun N a ha => by
  have e0 := ha.eval hx; have e1 := ha.eval hy; generalize a.eval = ρ at e0 e1 ⊢
  simp [execOp, e0, e1, eqGuard, binOp_string_neq, eqS]
theorem rv_convU8 {x : Operand} {p : Int} {t t2 : TypeId} (h1 : P.underlying t = some (.int .i64)) (h2 : P.underlying t2 = some (.int .u8)) (hx : ev L x = some (.int .i64 p)) :
    RV P L ⟨d, .convert t t2 x, ty, pos, af, g⟩ w (.int .u8 (IntKind.u8.wrap p)) w := fun N a ha => by
  have e0 := ha.eval hx; generalize a.eval = ρ at e0 ⊢; simp [execOp, e0, convert, run_underlying h1, run_underlying h2, Conv.intToInt]
end
theorem rv_byteS {P : Program} {L : List (Nat × Value)} {B : Nat} {w0 w : World} {is : List It} {d : Option Nat} {ty : TypeId} {pos : String} {af : Array Edge} {g : Option (Nat × Bool)} {x : Operand} {n : Int} {p : Nat} {t t2 e e2 : TypeId} {i : Nat} (hm : Mem B w0 is w) (hi : is[i]? = some (iBox p e [.int .u8 n])) (h1 : P.underlying t = some (.slice e2)) (h2 : P.underlying e2 = some (.int .u8)) (h3 : P.underlying t2 = some .string) (hx : ev L x = some (.slice (some ⟨p, 0, none⟩) 1 1)) :
    RV P L ⟨d, .convert t t2 x, ty, pos, af, g⟩ w (.string (sB [u8c n])) w := fun N a ha => by
  have e0 := ha.eval hx; generalize a.eval = ρ at e0 ⊢
  have hc : w.cell? ⟨p, 0, none⟩ = some (.int .u8 n) := hm.boxCell (o := 0) hi rfl
  have hl := run_loadCells_list (P := P) w ⟨p, 0, none⟩ [.int .u8 n] (fun j v hj => by
    cases j with
    | zero => cases hj; exact hc
    | succ j => simp at hj)
  simp [execOp, e0, run_convert_bytes_string w t t2 e2 _ _ _ h1 h2 h3, run_bytesToString w _ 1 1 [n] hl]
  rfl
/-- An element of a list of the call's own whose elements own no memory. -/
theorem Mem.ownCells {α : Type} [Inhabited α] {B : Nat} {w0 w : World} {is : List It} {E : Ty α} {F : α → List Value} {g m c j i s : Nat} {e : TypeId} {xs : List α} (hF : ∀ {w : World} {B : Nat} {cs : List Value} {x : α}, E.rd w B cs x → cs = F x) (h : Mem B w0 is w) (hi : is[i]? = some (iOwn (tSl E e) [.slice (some ⟨g, 0, none⟩) m c] xs)) (hj : j < m) (hs : E.sz = s) : ∀ o u, (F (gt xs j))[o]? = some u → w.cell? (((⟨g, 0, none⟩ : Addr).add (j * s)).add o) = some u := by
  obtain ⟨hl, A, c', hv, hr⟩ := h.rdSI hi
  cases hv
  obtain ⟨a, ha, _, hx⟩ := hr (by omega)
  cases ha
  obtain ⟨c', h1, h2⟩ := hx j _ (gt_some hj)
  rw [hF h1, hs] at h2
  exact h2
theorem Mem.ownCell0 {α : Type} [Inhabited α] {B : Nat} {w0 w : World} {is : List It} {E : Ty α} {F : α → List Value} {g m c j i s : Nat} {e : TypeId} {xs : List α} (hF : ∀ {w : World} {B : Nat} {cs : List Value} {x : α}, E.rd w B cs x → cs = F x) (h : Mem B w0 is w) (hi : is[i]? = some (iOwn (tSl E e) [.slice (some ⟨g, 0, none⟩) m c] xs)) (hj : j < m) (hs : E.sz = s) (u : Value) (hu : (F (gt xs j))[0]? = some u) : w.cell? ((⟨g, 0, none⟩ : Addr).add (j * s)) = some u := h.ownCells hF hi hj hs 0 u hu

/-! ### Texts that are read -/
def atoOk (s : ByteArray) : Bool := match Lib.atoiAll s.data.toList with
  | .ok _ => true
  | _ => false
def atoV (s : ByteArray) : Int := match Lib.atoiAll s.data.toList with
  | .ok v => v
  | .range => Lib.atoiSat s.data.toList
  | _ => 0
theorem atoV_bd (s : ByteArray) : -9223372036854775808 ≤ atoV s ∧ atoV s ≤ 9223372036854775807 := by
  unfold atoV
  rcases h : Lib.atoiAll s.data.toList with v | _ | _
  · exact Lib.atoiAll_bounds h
  · exact (show -9223372036854775808 ≤ (0 : Int) ∧ (0 : Int) ≤ 9223372036854775807 from ⟨by decide, by decide⟩)
  · exact Lib.atoiSat_bounds _
theorem atoi_t (w : World) (s : ByteArray) (hs : s.size ≤ 281474976710656) (h : atoOk s = true) :
    Calls Tryz.prog 57 #[.string s] w fun e w' => e = .returned (.tuple #[.int .i64 (atoV s), .nilIface]) ∧ Below w.heap.size w w' := by
  unfold atoOk at h
  rcases hc : Lib.atoiAll s.data.toList with v | _ | _
  · refine (Tryz.strconv_Atoi_ok s (by omega) v hc w).mono fun e w' ⟨h1, h2⟩ => ⟨?_, ?_⟩
    · rw [h1]; unfold atoV; rw [hc]
    · rcases h2 with rfl | ⟨t, rfl⟩
      · exact Below.refl _ _
      · exact Lib.bytesWorld_below _ _ _
  · rw [hc] at h; cases h
  · rw [hc] at h; cases h
theorem atoi_f (w : World) (s : ByteArray) (hs : s.size ≤ 281474976710656) (h : atoOk s = false) (hT : TabOK w.heap.size w) :
    Calls Tryz.prog 57 #[.string s] w fun e w' => ∃ x : Nat, e = .returned (.tuple #[.int .i64 (atoV s), .iface 116 (.pointer (some ⟨x, 0, none⟩))]) ∧ Below w.heap.size w w' := by
  unfold atoOk at h
  rcases hc : Lib.atoiAll s.data.toList with v | _ | _
  · rw [hc] at h; cases h
  · obtain ⟨t, p, hv⟩ := hT.sy
    refine (Tryz.strconv_Atoi_syntax s hs hc _ w hv (Or.inr ⟨t, p, rfl⟩)).mono fun e w' ⟨n, h1, _, _, h4⟩ => ⟨n, ?_, h4⟩
    rw [h1]; unfold atoV; rw [hc]
  · obtain ⟨t, p, hv⟩ := hT.rg
    refine (Tryz.strconv_Atoi_range s hs hc _ w hv (Or.inr ⟨t, p, rfl⟩)).mono fun e w' ⟨n, h1, _, _, h4⟩ => ⟨n, ?_, h4⟩
    rw [h1]; unfold atoV; rw [hc]
def cutA (s sep : ByteArray) : ByteArray := sB (Lib.cut s.data.toList sep.data.toList).1
def cutZ (s sep : ByteArray) : ByteArray := sB (Lib.cut s.data.toList sep.data.toList).2.1
def cutC (s sep : ByteArray) : Bool := (Lib.cut s.data.toList sep.data.toList).2.2
theorem cut_sz (s sep : ByteArray) : (cutA s sep).size ≤ s.size ∧ (cutZ s sep).size ≤ s.size := by
  unfold cutA cutZ Lib.cut
  rw [Lib.size_eq s]
  split
  · refine ⟨?_, ?_⟩
    · rw [sB_size, List.length_take]; omega
    · rw [sB_size, List.length_drop]; omega
  · refine ⟨?_, ?_⟩
    · rw [sB_size]; exact Nat.le_refl _
    · rw [sB_size]; exact Nat.zero_le _
theorem cut_c (w : World) (s sep : ByteArray) (hs : s.size ≤ 281474976) (hT : TabOK w.heap.size w) :
    Calls Tryz.prog 28 #[.string s, .string sep] w fun e w' => e = .returned (.tuple #[.string (cutA s sep), .string (cutZ s sep), .bool (cutC s sep)]) ∧ Below w.heap.size w w' := by
  obtain ⟨m, hm⟩ := hT.ml
  refine (Tryz.strings_Cut s sep m w (by omega) hm).mono fun e w' ⟨h1, n, h2⟩ => ⟨h1, ?_⟩
  subst h2
  exact (Below.refl _ w).trans ⟨rfl, rfl, rfl, Nat.le_refl _, fun _ _ => rfl⟩
def trimP (s p : ByteArray) : ByteArray := sB (Lib.trimPrefix s.data.toList p.data.toList)
def hasP (s p : ByteArray) : Bool := Lib.hasPrefix s.data.toList p.data.toList
theorem trimP_sz (s p : ByteArray) : (trimP s p).size ≤ s.size := by
  unfold trimP
  rw [sB_size, Lib.size_eq s]
  exact Lib.trimPrefix_le _ _
theorem cutp_c (w : World) (s p : ByteArray) :
    Calls Tryz.prog 81 #[.string s, .string p] w fun e w' => e = .returned (.tuple #[.string (trimP s p), .bool (hasP s p)]) ∧ Below w.heap.size w w' :=
  (Tryz.strings_CutPrefix s p w).mono fun e w' ⟨h1, h2⟩ => ⟨h1, h2 ▸ Below.refl _ _⟩
def splS (s sep : ByteArray) : List ByteArray := Lib.splitB sep 0 (Lib.countB s sep) s
theorem splS_len (s sep : ByteArray) (h1 : 1 ≤ sep.size) : (splS s sep).length = Lib.countB s sep + 1 := Lib.splitB_all sep h1 0 _ s rfl
theorem splS_le (s sep : ByteArray) (h1 : 1 ≤ sep.size) : 1 ≤ (splS s sep).length ∧ (splS s sep).length ≤ s.size + 1 := by
  rw [splS_len s sep h1]
  have := Lib.countB_le sep h1 s.size s (Nat.le_refl _)
  omega
theorem splB_szs (sep : ByteArray) : ∀ (k : Nat) (s : ByteArray), ∀ x ∈ Lib.splitB sep 0 k s, x.size ≤ s.size
  | 0, s => by
    intro x hx
    rw [Lib.splitB_zero, List.mem_singleton] at hx
    rw [hx]
    exact Nat.le_refl _
  | k + 1, s => by
    intro x hx
    unfold Lib.splitB at hx
    split at hx
    · rw [List.mem_singleton] at hx
      rw [hx]
      exact Nat.le_refl _
    · rcases List.mem_cons.1 hx with rfl | hx
      · simp only [ByteArray.size_extract]; omega
      · have := splB_szs sep k _ x hx
        simp only [ByteArray.size_extract] at this
        omega
theorem splS_gt (s sep : ByteArray) (j : Nat) : (gt (splS s sep) j).size ≤ s.size := by
  by_cases h : j < (splS s sep).length
  · exact splB_szs sep _ s _ (gt_mem h)
  · rw [show gt (splS s sep) j = default by
      unfold gt
      rw [List.getD_eq_getElem?_getD, List.getElem?_eq_none (by omega)]
      rfl]
    exact Nat.zero_le _
theorem split_c {B : Nat} {w0 : World} {is : List It} (w : World) (s sep : ByteArray) (h1 : 1 ≤ sep.size) (hs : s.size ≤ 281474976) (hT : TabOK w.heap.size w) (hm : Mem B w0 is w) :
    Calls Tryz.prog 34 #[.string s, .string sep] w fun e w' => ∃ x : Value, e = .returned x ∧ Mem B w0 (iOwn (tSl tStr 9) [x] (splS s sep) :: is) w' := by
  obtain ⟨m, hml⟩ := hT.ml
  refine (Tryz.strings_Split s sep m w (by omega) hml h1).mono fun e w' ⟨h2, h3⟩ => ?_
  subst h2 h3
  have hl := splS_len s sep h1
  have hle := splS_le s sep h1
  have hmem := splB_szs sep (Lib.countB s sep) s
  rw [← hl]
  change ∃ x : Value, _ ∧ Mem B w0 _ (w.alloc (.cells ((splS s sep).map Value.string).toArray 9))
  change ∀ x ∈ splS s sep, _ at hmem
  generalize splS s sep = xs at hl hle hmem ⊢
  have hm2 := hm.alloc ((xs.map Value.string).toArray) 9
  refine ⟨_, rfl, ?_⟩
  rw [show ((xs.map Value.string).toArray).toList = xs.map Value.string from by simp] at hm2
  have hel : ∀ (v : World) (ys : List ByteArray), (∀ x ∈ ys, x.size ≤ s.size) → Els tStr v [] (ys.map Value.string) ys := by
    intro v ys
    induction ys with
    | nil => intro _; exact els_nil
    | cons y r ih => intro h; exact els_cons (E := tStr) (L1 := []) (tStr_own (by have := h y (List.mem_cons_self ..); omega)) (ih fun z hz => h z (List.mem_cons_of_mem _ hz))
  exact Mem.litOwn (E := tStr) (xs := xs) rfl (show xs.length ≤ maxLen from by unfold maxLen; omega) (fun v => hel v xs hmem) hm2
section
variable {P : Program} {L : List (Nat × Value)} {w : World} {d : Option Nat} {ty : TypeId} {pos : String} {af : Array Edge} {g : Option (Nat × Bool)}
theorem rv_neqIT {x : Operand} {u : TypeId} {v : Value} {t t2 : TypeId} (h : P.underlying t = some (.interface (P.methodsAt t))) (hx : ev L x = some (.iface u v)) :
    RV P L ⟨d, .binOp .neq t x (.const .nilIface) t2, ty, pos, af, g⟩ w (.bool true) w := fun N a ha => by
  have e0 := ha.eval hx
  have e1 : a.eval (.const .nilIface) = .nilIface := rfl
  generalize a.eval = ρ at e0 e1 ⊢
  simp [execOp, e0, e1, eqGuard, run_neq_held_nil _ t u v h]
theorem rv_neqIF {x : Operand} {t t2 : TypeId} (h : P.underlying t = some (.interface (P.methodsAt t))) (hx : ev L x = some .nilIface) :
    RV P L ⟨d, .binOp .neq t x (.const .nilIface) t2, ty, pos, af, g⟩ w (.bool false) w := fun N a ha => by
  have e0 := ha.eval hx
  have e1 : a.eval (.const .nilIface) = .nilIface := rfl
  generalize a.eval = ρ at e0 e1 ⊢
  simp [execOp, e0, e1, eqGuard, run_neq_nil_nil _ t h]
end
theorem und_err : Tryz.prog.underlying 76 = some (.interface (Tryz.prog.methodsAt 76)) := by kernel_rfl
theorem tStr_F {w : World} {B : Nat} {cs : List Value} {x : ByteArray} (h : tStr.rd w B cs x) : cs = [Value.string x] := by
  obtain ⟨v, rfl, rfl, _⟩ := h
  rfl
theorem Mem.ownStr {B : Nat} {w0 w : World} {is : List It} {g m c j i : Nat} {e : TypeId} {xs : List ByteArray} (h : Mem B w0 is w) (hi : is[i]? = some (iOwn (tSl tStr e) [.slice (some ⟨g, 0, none⟩) m c] xs)) (hj : j < m) : w.cell? ((⟨g, 0, none⟩ : Addr).add (j * 1)) = some (.string (gt xs j)) :=
  Mem.ownCell0 (F := fun x => [Value.string x]) tStr_F h hi hj rfl _ rfl
theorem ext_sz (s : ByteArray) (k m : Nat) : (s.extract k m).size = min m s.size - k := by simp only [ByteArray.size_extract]
theorem wrap_bd (n : Int) : -9223372036854775808 ≤ IntKind.i64.wrap n ∧ IntKind.i64.wrap n ≤ 9223372036854775807 := by
  rw [IntKind.wrap_i64]
  omega
/-- The byte at a place of a text, as a number. -/
def chr (s : ByteArray) (k : Nat) : Int := ((s.data.toList.getD k 0).toNat : Int)
theorem chr_bd (s : ByteArray) (k : Nat) : 0 ≤ chr s k ∧ chr s k ≤ 255 := by
  unfold chr
  have := (s.data.toList.getD k 0).toNat_lt
  omega
theorem chr_is {s : ByteArray} {k : Nat} (h : k < s.size) : ((s[k]'h).toNat : Int) = chr s k := by
  unfold chr
  have h' : k < s.data.toList.length := by rw [← Lib.size_eq]; exact h
  rw [List.getD_eq_getElem?_getD, List.getElem?_eq_getElem h']
  rfl
section
variable {P : Program} {L : List (Nat × Value)} {w : World} {d : Option Nat} {ty : TypeId} {pos : String} {af : Array Edge} {g : Option (Nat × Bool)}
theorem rv_indexS {x y : Operand} {s : ByteArray} {k : Nat} {t : TypeId} (ht : P.underlying t = some .string) (hx : ev L x = some (.string s)) (hy : ev L y = some (.int .i64 (k : Int))) (h : k < s.size) :
    RV P L ⟨d, .index t x y, ty, pos, af, g⟩ w (.int .u8 (chr s k)) w := fun N a ha => by
  have e0 := ha.eval hx; have e1 := ha.eval hy; generalize a.eval = ρ at e0 e1 ⊢
  have hr := run_index_string (P := P) w t s .i64 (k : Int) ht
  rw [dif_pos ⟨by omega, by omega⟩] at hr
  have hc := chr_is h
  simp only [Int.toNat_natCast] at hr
  simp [execOp, e0, e1, hr, hc]
theorem rv_sliceS {x y z : Operand} {s : ByteArray} {k m : Nat} {t : TypeId} (ht : P.underlying t = some .string) (hx : ev L x = some (.string s)) (hy : ev L y = some (.int .i64 (k : Int))) (hz : ev L z = some (.int .i64 (m : Int))) (h : k ≤ m) (h2 : m ≤ s.size) :
    RV P L ⟨d, .slice t x (some y) (some z) none, ty, pos, af, g⟩ w (.string (s.extract k m)) w := fun N a ha => by
  have e0 := ha.eval hx; have e1 := ha.eval hy; have e2 := ha.eval hz; generalize a.eval = ρ at e0 e1 e2 ⊢
  have hr := run_slice_string (P := P) w t s .i64 .i64 (k : Int) (m : Int) ht (by omega) (by omega) (by omega)
  simp only [Int.toNat_natCast] at hr
  simp [execOp, e0, e1, e2, Instr.sliceAt, run_underlying ht, hr]
theorem rv_sliceS1 {x y : Operand} {s : ByteArray} {k : Nat} {t : TypeId} (ht : P.underlying t = some .string) (hx : ev L x = some (.string s)) (hy : ev L y = some (.int .i64 (k : Int))) (h : k ≤ s.size) :
    RV P L ⟨d, .slice t x (some y) none none, ty, pos, af, g⟩ w (.string (s.extract k s.size)) w := fun N a ha => by
  have e0 := ha.eval hx; have e1 := ha.eval hy; generalize a.eval = ρ at e0 e1 ⊢
  have hr := run_slice_string_from_if (P := P) w t s .i64 (k : Int) ht
  rw [if_pos ⟨by omega, by omega⟩] at hr
  simp only [Int.toNat_natCast] at hr
  simp [execOp, e0, e1, Instr.sliceAt, run_underlying ht, hr]
theorem rv_lss8 {x y : Operand} {p q : Int} {t t2 : TypeId} (hx : ev L x = some (.int .u8 p)) (hy : ev L y = some (.int .u8 q)) : RV P L ⟨d, .binOp .lss t x y t2, ty, pos, af, g⟩ w (.bool (decide (p < q))) w := fun N a ha => by
  have e0 := ha.eval hx; have e1 := ha.eval hy; generalize a.eval = ρ at e0 e1 ⊢; simp [execOp, e0, e1, go_sem]
theorem rv_leq8 {x y : Operand} {p q : Int} {t t2 : TypeId} (hx : ev L x = some (.int .u8 p)) (hy : ev L y = some (.int .u8 q)) : RV P L ⟨d, .binOp .leq t x y t2, ty, pos, af, g⟩ w (.bool (decide (p ≤ q))) w := fun N a ha => by
  have e0 := ha.eval hx; have e1 := ha.eval hy; generalize a.eval = ρ at e0 e1 ⊢; simp [execOp, e0, e1, go_sem]
theorem rv_geq8 {x y : Operand} {p q : Int} {t t2 : TypeId} (hx : ev L x = some (.int .u8 p)) (hy : ev L y = some (.int .u8 q)) : RV P L ⟨d, .binOp .geq t x y t2, ty, pos, af, g⟩ w (.bool (decide (q ≤ p))) w := fun N a ha => by
  have e0 := ha.eval hx; have e1 := ha.eval hy; generalize a.eval = ρ at e0 e1 ⊢; simp [execOp, e0, e1, go_sem]
theorem rv_eql8 {x y : Operand} {p q : Int} {t t2 : TypeId} (hx : ev L x = some (.int .u8 p)) (hy : ev L y = some (.int .u8 q)) : RV P L ⟨d, .binOp .eql t x y t2, ty, pos, af, g⟩ w (.bool (p == q)) w := fun N a ha => by
  have e0 := ha.eval hx; have e1 := ha.eval hy; generalize a.eval = ρ at e0 e1 ⊢; simp [execOp, e0, e1, go_sem]
theorem rv_neq8 {x y : Operand} {p q : Int} {t t2 : TypeId} (hx : ev L x = some (.int .u8 p)) (hy : ev L y = some (.int .u8 q)) : RV P L ⟨d, .binOp .neq t x y t2, ty, pos, af, g⟩ w (.bool (p != q)) w := fun N a ha => by
  have e0 := ha.eval hx; have e1 := ha.eval hy; generalize a.eval = ρ at e0 e1 ⊢; simp [execOp, e0, e1, go_sem]
theorem rv_sub8 {x y : Operand} {p q : Int} {t t2 : TypeId} (hx : ev L x = some (.int .u8 p)) (hy : ev L y = some (.int .u8 q)) : RV P L ⟨d, .binOp .sub t x y t2, ty, pos, af, g⟩ w (.int .u8 (IntKind.u8.wrap (p - q))) w := fun N a ha => by
  have e0 := ha.eval hx; have e1 := ha.eval hy; generalize a.eval = ρ at e0 e1 ⊢; simp [execOp, e0, e1, go_sem]
end
end Go.Proofs.YtfdaaliffcfjjaaGreatDoor
