/-
  Slices of the call's own that are read: numbers at once; borrowed values by way of the block's cells.
-/
import Derived.Test.YtdlminfjdodjoaaGreatVcH
namespace Go.Proofs.YtdlminfjdodjoaaGreat
open Go.RowKit

theorem Qdn {α : Type} [Inhabited α] {xs : List α} {i : Nat} (h : i < xs.length) : gt xs i = xs[i] := by simp [gt, List.getD, h]
theorem Qwm {n : Nat} (h : n ≤ 9223372036854775807) : IntKind.i64.wrap ((n : Int) - 1) = (n : Int) - 1 := by
  simp only [IntKind.wrap_i64]
  omega
def wtS {α : Type} (w : α → Nat) (xs : List α) : Nat := xs.length + (xs.map w).sum
theorem Qtb {α : Type} [Inhabited α] {w : α → Nat} {xs : List α} {j : Nat} (h : j < xs.length) : ((xs.take (j + 1)).map w).sum = ((xs.take j).map w).sum + w (gt xs j) := by
  rw [List.take_add_one, List.getElem?_eq_getElem h, Qdn h, List.map_append, List.sum_append]
  simp
theorem Qbee {α : Type} {w : α → Nat} {xs : List α} {x : α} (h : x ∈ xs) : w x ≤ (xs.map w).sum := by
  induction xs with
  | nil => cases h
  | cons y ys ih =>
    rcases List.mem_cons.1 h with rfl | h
    · simp
    · have := ih h
      simp; omega
/-- A loop that hands on each element of a list. -/
theorem Qjc {α R : Type} [Inhabited α] {xs : List α} {b : Nat → List α → R ⊕ List α} (hb : ∀ j s, b j s = .inr (s ++ [gt xs j])) : rng b (xs.length - 0) 0 [] = .inr xs := by
  have h : ∀ m k, m + k = xs.length → rng b m k (xs.take k) = .inr xs := by
    intro m
    induction m with
    | zero => intro k hk; rw [rng, List.take_of_length_le (by omega)]
    | succ m ih =>
      intro k hk
      rw [rng, hb]
      show rng b m (k + 1) (xs.take k ++ [gt xs k]) = _
      have : xs.take k ++ [gt xs k] = xs.take (k + 1) := by
        rw [List.take_add_one, List.getElem?_eq_getElem (by omega), Qdn (by omega)]
        rfl
      rw [this]
      exact ih (k + 1) (by omega)
  exact h _ 0 (by omega)
theorem Qoj {α : Type} [Inhabited α] {xs : List α} {i j : Nat} {x : α} (h : i ≠ j) : gt (xs.set i x) j = gt xs j := by simp [gt, List.getD, List.getElem?_set_ne h]
theorem Qtz {α : Type} [Inhabited α] {xs : List α} {i : Nat} {x : α} (h : i < xs.length) : gt (xs.set i x) i = x := by simp [gt, List.getD, h]
theorem Qarb {α : Type} [Inhabited α] {xs ys : List α} (hl : xs.length = ys.length) (h : ∀ i, i < ys.length → gt xs i = gt ys i) : xs = ys := by
  refine List.ext_getElem hl fun i h1 h2 => ?_
  rw [← Qdn h1, ← Qdn h2]
  exact h i h2
theorem Qaai {R : Type} {b : Nat → Unit → R ⊕ Unit} : ∀ m k, rng b m k () = .inr () → ∀ j, k ≤ j → j < k + m → b j () = .inr ()
  | 0, _, _, j, h1, h2 => by omega
  | m + 1, k, h, j, h1, h2 => by
    rw [rng] at h
    cases hb : b k () with
    | inl r => rw [hb] at h; cases h
    | inr u =>
      rw [hb] at h
      by_cases e : k = j
      · subst e; exact hb
      · exact Qaai m (k + 1) h j (by omega) (by omega)
theorem Qbcs {α : Type} [Inhabited α] {w : α → Nat} {c : Nat} {xs : List α} (h : ∀ j, j < xs.length → w (gt xs j) ≤ c) : (xs.map w).sum ≤ c * xs.length := by
  have h' : ∀ k, k ≤ xs.length → ((xs.take k).map w).sum ≤ c * k := by
    intro k
    induction k with
    | zero => intro _; simp
    | succ k ih =>
      intro hk
      rw [Qtb (by omega), Nat.mul_add]
      have := ih (by omega)
      have := h k (by omega)
      omega
  have := h' _ (Nat.le_refl _)
  rwa [List.take_length] at this
theorem Qbct {α : Type} {w : α → Nat} {xs : List α} (j : Nat) : ((xs.take j).map w).sum ≤ (xs.map w).sum := by
  have := congrArg (fun l => (l.map w).sum) (List.take_append_drop j xs)
  simp only [List.map_append, List.sum_append] at this
  omega

section
variable {α : Type} {P : Program} {N B : Nat} {w0 : World} {Q : Exit → Act → World → Prop} {L : List (Nat × Value)} {is js : List It} {E : Ty α} {e : TypeId}

theorem Mem.ownInt {w : World} {g m c j i : Nat} {xs : List Int} (h : Mem B w0 is w) (hi : is[i]? = some (Qn (tSl Qa e) [.slice (some ⟨g, 0, none⟩) m c] xs)) (hj : j < m) : w.cell? ((⟨g, 0, none⟩ : Addr).add (j * 1)) = some (.int .i64 (gt xs j)) := by
  obtain ⟨hl, A, c', hv, hr⟩ := h.rdSI hi
  cases hv
  obtain ⟨a, ha, _, hx⟩ := hr (by omega)
  cases ha
  exact Qdr hx j hj

/-- A block whose first cells are the elements, all borrowed. -/
structure Qps (T : Ty α) (wb : World) (Bb : Nat) (cs : List Value) (n c : Nat) (xs : List α) : Prop where
  len : n = xs.length
  le : n ≤ c
  lim : c ≤ maxLen
  size : cs.length = c * T.sz
  els : ∀ w, Els (Qes T wb Bb) w [] (cs.take (n * T.sz)) xs
theorem Els.flat {T : Ty α} {wb : World} {Bb : Nat} {w : World} : ∀ {xs : List α} {L : List Nat} {cells : List Value}, Els (Qes T wb Bb) w L cells xs → L = [] ∧ ∀ w', Els (Qes T wb Bb) w' [] cells xs
  | [], _, _, h => ⟨h.1, fun _ => ⟨rfl, h.2⟩⟩
  | x :: xs, _, _, ⟨L1, L2, c1, c2, e1, e2, h1, h2⟩ => by
    obtain ⟨k1, k2⟩ := h2.flat
    obtain ⟨k3, k4⟩ := h1
    subst k1; subst k3
    exact ⟨e1, fun w' => ⟨[], [], c1, c2, rfl, e2, ⟨rfl, k4⟩, k2 w'⟩⟩
theorem Mem.expose {T : Ty α} {wb : World} {Bb : Nat} {w : World} {g n c : Nat} {xs : List α} (h : Mem B w0 (Qn (tSl (Qes T wb Bb) e) [.slice (some ⟨g, 0, none⟩) n c] xs :: js) w) : ∃ cs, Qps T wb Bb cs n c xs ∧ Mem B w0 (Qh g e cs :: js) w := by
  obtain ⟨_, ⟨L1, L2, rfl, ⟨v, ev, cells, L', rfl, hrow, hels⟩, h2⟩, h3, h4⟩ := h.sep
  cases ev
  rcases hrow.2 with ⟨h5, h0⟩ | ⟨g', cap, cur, hv, _, hcur, hnc, hcm, hcs, htake⟩
  · cases h5
  · cases hv
    obtain ⟨k1, k2⟩ := hels.flat
    subst k1
    refine ⟨cur.toList, ⟨rfl, hnc, hcm, by simpa using (show cur.size = c * T.sz from hcs), fun w' => ?_⟩, h.base, h.below, _, ⟨[g], L2, rfl, ⟨rfl, by simpa using hcur⟩, h2⟩, by simpa [Value.ownBlock] using h3, fun b hb => h4 b (by simpa [Value.ownBlock] using hb)⟩
    have : cur.toList.take (xs.length * T.sz) = cells := htake
    rw [this]
    exact k2 w'
theorem Mem.hide {T : Ty α} {wb : World} {Bb : Nat} {w : World} {g n c : Nat} {xs : List α} {cs : List Value} (hr : Qps T wb Bb cs n c xs) (h : Mem B w0 (Qh g e cs :: js) w) : Mem B w0 (Qn (tSl (Qes T wb Bb) e) [.slice (some ⟨g, 0, none⟩) n c] xs :: js) w :=
  h.perm fun L hL => by
    obtain ⟨rfl, hb⟩ := hL
    obtain ⟨rfl, h2, h3, h4, h5⟩ := hr
    refine ⟨[g], ⟨_, rfl, cs.take (xs.length * T.sz), [], rfl, ⟨?_, .inr ⟨g, c, cs.toArray, rfl, Nat.zero_le _, hb, h2, h3, (show cs.toArray.size = c * T.sz by simpa using h4), by simp [Qes]⟩⟩, h5 w⟩, List.Perm.refl _⟩
    exact (h5 w).len
theorem Qps.get [Inhabited α] {T : Ty α} {wb : World} {Bb : Nat} {n c j : Nat} {xs : List α} {cs : List Value} (hr : Qps T wb Bb cs n c xs) (hj : j < n) : ∃ c', T.rd wb Bb c' (gt xs j) ∧ ∀ o u, c'[o]? = some u → cs[j * T.sz + o]? = some u := by
  obtain ⟨rfl, h2, h3, h4, h5⟩ := hr
  obtain ⟨Lj, cj, _, ho, hc⟩ := (h5 wb).get (Qbs hj)
  refine ⟨cj, ho.2, fun o u hu => ?_⟩
  have h6 := hc o u hu
  rw [List.getElem?_take] at h6
  split at h6
  · exact h6
  · cases h6
theorem Qacu {T : Ty α} {wb : World} {Bb : Nat} {ops : Array Oper} {l : List Oper} {g n c : Nat} {xs : List α} (hmv : ∀ w, Mem B w0 is w → Mem B w0 (Qn (tSl (Qes T wb Bb) e) [.slice (some ⟨g, 0, none⟩) n c] xs :: js) w)
    (h : ∀ cs, Qps T wb Bb cs n c xs → WM P N B w0 ops Q l L (Qh g e cs :: js)) : WM P N B w0 ops Q l L is := fun w hm => by
  obtain ⟨cs, h1, h2⟩ := (hmv w hm).expose
  exact h cs h1 w h2
theorem Qabz {T : Ty α} {wb : World} {Bb : Nat} {cd : Code} {g n c : Nat} {xs : List α} (hmv : ∀ w, Mem B w0 is w → Mem B w0 (Qn (tSl (Qes T wb Bb) e) [.slice (some ⟨g, 0, none⟩) n c] xs :: js) w)
    (h : ∀ cs, Qps T wb Bb cs n c xs → CM P N B w0 cd Q L (Qh g e cs :: js)) : CM P N B w0 cd Q L is := fun w hm => by
  obtain ⟨cs, h1, h2⟩ := (hmv w hm).expose
  exact h cs h1 w h2
theorem Mem.rowCells {w : World} {g j s i : Nat} {cs c' : List Value} (h : Mem B w0 is w) (hi : is[i]? = some (Qh g e cs)) (hc : ∀ o u, c'[o]? = some u → cs[j * s + o]? = some u) : ∀ o u, c'[o]? = some u → w.cell? (((⟨g, 0, none⟩ : Addr).add (j * s)).add o) = some u := fun o u hu => by
  rw [Qkk]
  exact h.boxCell hi (hc o u hu)
end

/-! ### A variable that a function value holds -/
def rdP {α : Type} (T : Ty α) (w : World) (B : Nat) (p : Nat) (cs : List Value) (x : α) : Prop := p < B ∧ (∀ o u, cs[o]? = some u → w.cell? ((⟨p, 0, none⟩ : Addr).add o) = some u) ∧ T.rd w B cs x
theorem Mem.rdPBox {α : Type} {T : Ty α} {B : Nat} {w0 w : World} {is : List It} {p e n : Nat} {cs : List Value} {x : α} (hm : Mem B w0 is w) (hi : is[n]? = some (Qh p e cs)) (h : T.rd w w.heap.size cs x) : rdP T w w.heap.size p cs x :=
  ⟨(hm.box hi).2.2, hm.boxCells hi, h⟩
theorem Qade {w0 : World} {p B : Nat} {cs : List Value} {α : Type} {T : Ty α} {x : α} (h : rdP T w0 B p cs x) {B' : Nat} {w0' w : World} {is : List It} (hB : B' = B) (hw : w0' = w0) (hm : Mem B' w0' is w) {o : Nat} {u : Value} (hu : cs[o]? = some u) : w.cell? ((⟨p, 0, none⟩ : Addr).add o) = some u := by
  subst hB; subst hw
  exact (hm.cell0 (by rw [Qae]; exact h.1)).trans (h.2.1 o u hu)
end Go.Proofs.YtdlminfjdodjoaaGreat

