/-
  Plain laws of the loops that a law runs over its arguments: they copy a list, compare a list with itself, count, mark and look at the marks.
-/
import Derived.Test.YtdlminfjdodjoaaGreatVcI
namespace Go.Proofs.YtdlminfjdodjoaaGreat
open Go.RowKit

/-- A loop whose body keeps a property. -/
theorem Qky {R S : Type} {body : Nat → S → R ⊕ S} {n : Nat} (J : Nat → S → Prop) (hs : ∀ j s, j < n → J j s → ∃ s', body j s = .inr s' ∧ J (j + 1) s') : ∀ m k s, m + k = n → J k s → ∃ s', rng body m k s = .inr s' ∧ J n s'
  | 0, k, s, e, h => ⟨s, rfl, by rw [show n = k by omega]; exact h⟩
  | m + 1, k, s, e, h => by
    obtain ⟨s', h1, h2⟩ := hs k s (by omega) h
    obtain ⟨s'', h3, h4⟩ := Qky J hs m (k + 1) s' (by omega) h2
    exact ⟨s'', by rw [rng, h1]; exact h3, h4⟩
/-- A loop whose body keeps a property, or leaves with a value of a kind. -/
theorem Qahj {R S : Type} {body : Nat → S → R ⊕ S} {n : Nat} (J : Nat → S → Prop) (Q : R → Prop) (hs : ∀ j s, j < n → J j s → (∃ s', body j s = .inr s' ∧ J (j + 1) s') ∨ ∃ r, body j s = .inl r ∧ Q r) : ∀ m k s, m + k = n → J k s → (∃ s', rng body m k s = .inr s' ∧ J n s') ∨ ∃ r, rng body m k s = .inl r ∧ Q r
  | 0, k, s, e, h => .inl ⟨s, rfl, by rw [show n = k by omega]; exact h⟩
  | m + 1, k, s, e, h => by
    rcases hs k s (by omega) h with ⟨s', h1, h2⟩ | ⟨r, h1, h2⟩
    · rcases Qahj J Q hs m (k + 1) s' (by omega) h2 with ⟨s'', h3, h4⟩ | ⟨r, h3, h4⟩
      · exact .inl ⟨s'', by rw [rng, h1]; exact h3, h4⟩
      · exact .inr ⟨r, by rw [rng, h1]; exact h3, h4⟩
    · exact .inr ⟨r, by rw [rng, h1]; rfl, h2⟩
/-- Copy. -/
theorem Qoa {α R : Type} [Inhabited α] {xs d : List α} {b : Nat → List α → R ⊕ List α} (hd : d.length = xs.length) (hb : ∀ j s, j < xs.length → b j s = .inr (s.set j (gt xs j))) : rng b (xs.length - 0) 0 d = .inr xs := by
  obtain ⟨s', h1, h2, h3⟩ := Qky (body := b) (n := xs.length) (fun k s => s.length = xs.length ∧ ∀ i, i < k → gt s i = gt xs i) (fun j s hj ⟨hl, hi⟩ => ⟨_, hb j s hj, by simpa using hl, fun i hij => by
    by_cases e : j = i
    · subst e; exact Qtz (by omega)
    · rw [Qoj e]; exact hi i (by omega)⟩) (xs.length - 0) 0 d (by omega) ⟨hd, fun i h => absurd h (by omega)⟩
  rw [h1, Qarb h2 (fun i hi => h3 i hi)]
/-- A loop that finds nothing. -/
theorem Qmq {R : Type} {n : Nat} {b : Nat → Unit → R ⊕ Unit} (hb : ∀ j, j < n → b j () = .inr ()) : rng b (n - 0) 0 () = .inr () := by
  obtain ⟨s', h1, _⟩ := Qky (body := b) (n := n) (fun _ _ => True) (fun j s hj _ => ⟨(), hb j hj, trivial⟩) (n - 0) 0 () (by omega) trivial
  exact h1

/-! ### Counting -/
structure Qgr {α : Type} (f : α → Int → Int) (w : α → Nat) (ok : α → Prop) : Prop where
  go : ∀ x k, ok x → 0 ≤ k → k ≤ 1048576 → f x k < 0 ∨ f x k = k - w x
theorem Qeu {n : Int} (h1 : -9223372036854775808 ≤ n) (h2 : n ≤ 9223372036854775807) : IntKind.i64.wrap n = n := by
  rw [IntKind.wrap_i64]
  omega
theorem Qaio {α : Type} {f : List α → Int → Int} (hf : ∀ x k, f x k = cond (decide ((IntKind.i64.wrap (k - ((x.length : Nat) : Int))) < 0)) (-1) (IntKind.i64.wrap (k - ((x.length : Nat) : Int)))) : Qgr f List.length (fun x => x.length ≤ 9223372036854775807) := ⟨fun x k hx h0 h1 => by
  rw [hf, Qeu (by omega) (by omega)]
  by_cases h : k - (x.length : Int) < 0
  · left; simp [h]
  · right; simp [h]⟩
theorem Qra {α : Type} [Inhabited α] {f : List α → Int → Int} {g : α → Int → Int} {w : α → Nat} {ok : α → Prop} (hg : Qgr g w ok)
    (hf : ∀ x k, f x k = cond (decide ((IntKind.i64.wrap (k - ((x.length : Nat) : Int))) < 0)) (-1) (Sum.elim id (fun (s : Int) => s) (rng (R := Int) (fun j (s : Int) => cond (decide (g (gt x j) s < 0)) (Sum.inl (-1)) (Sum.inr (g (gt x j) s))) (x.length - 0) 0 (IntKind.i64.wrap (k - ((x.length : Nat) : Int)))))) :
    Qgr f (wtS w) (fun x => x.length ≤ 9223372036854775807 ∧ ∀ y ∈ x, ok y) := ⟨fun x k hx h0 h1 => by
  rw [hf, Qeu (by omega) (by omega)]
  by_cases h : k - (x.length : Int) < 0
  · left; simp [h]
  · rw [decide_eq_false h, cond_false]
    rcases Qahj (body := fun j (s : Int) => cond (decide (g (gt x j) s < 0)) (Sum.inl (-1)) (Sum.inr (g (gt x j) s))) (n := x.length) (fun j s => 0 ≤ s ∧ s = k - x.length - ((x.take j).map w).sum) (fun r : Int => r = -1) (fun j s hj ⟨hs0, hs⟩ => by
      by_cases hn : g (gt x j) s < 0
      · exact .inr ⟨-1, by simp [hn], rfl⟩
      · refine .inl ⟨g (gt x j) s, by simp [hn], by omega, ?_⟩
        rw [Qtb hj]
        rcases hg.go (gt x j) s (hx.2 _ (Qak hj)) hs0 (by omega) with h2 | h2
        · exact absurd h2 hn
        · omega) (x.length - 0) 0 (k - x.length) (by omega) ⟨by omega, by simp⟩ with ⟨s', h2, h3, h4⟩ | ⟨r, h2, h3⟩
    · right
      rw [h2]
      show s' = _
      rw [h4, List.take_length]
      unfold wtS
      omega
    · left
      rw [h2, h3]
      show (-1 : Int) < 0
      omega⟩

/-! ### Marks -/
structure Qlk {α : Type} (e : α → Int → Int × α) (g : α → Int → Int ⊕ Int) (w : α → Nat) : Prop where
  go : ∀ x k, 0 ≤ k → k + 32 * (w x : Int) + 32 ≤ 4611686018427387904 → k ≤ (e x k).1 ∧ (e x k).1 ≤ k + 32 * (w x : Int) + 32 ∧ g (e x k).2 k = .inr (e x k).1
theorem Qayt {α : Type} [Inhabited α] {e : α → Int → Int × α} {g : α → Int → Int ⊕ Int} {w : α → Nat} (h : Qlk e g w) {xs : List α} {k : Int} {R : Type}
    {b : Nat → Int × List α → R ⊕ (Int × List α)} {hb : List α → Nat → Int → Int ⊕ Int} (hb1 : ∀ j s, j < xs.length → b j s = .inr ((e (gt s.2 j) s.1).1, s.2.set j (e (gt s.2 j) s.1).2)) (hb2 : ∀ ys j s, j < xs.length → hb ys j s = g (gt ys j) s)
    (h0 : 0 ≤ k) (hk : k + 32 * (wtS w xs : Int) ≤ 4611686018427387904) :
    ∃ k' ys, rng b (xs.length - 0) 0 (k, xs) = .inr (k', ys) ∧ ys.length = xs.length ∧ k ≤ k' ∧ k' ≤ k + 32 * (wtS w xs : Int) ∧ rng (hb ys) (ys.length - 0) 0 k = .inr k' := by
  have hsum : ∀ j, j ≤ xs.length → ((xs.take j).map w).sum ≤ (xs.map w).sum := fun j hj => by
    have := congrArg (fun l => (l.map w).sum) (List.take_append_drop j xs)
    simp only [List.map_append, List.sum_append] at this
    omega
  obtain ⟨⟨k', ys⟩, h1, h2, h3, h4, _, h6⟩ := Qky (body := b) (n := xs.length) (fun j s => s.2.length = xs.length ∧ k ≤ s.1 ∧ s.1 ≤ k + 32 * (j : Int) + 32 * (((xs.take j).map w).sum : Int) ∧ (∀ i, j ≤ i → gt s.2 i = gt xs i) ∧ ∃ f : Nat → Int, f 0 = k ∧ f j = s.1 ∧ ∀ i, i < j → 0 ≤ f i ∧ g (gt s.2 i) (f i) = .inr (f (i + 1)))
    (fun j s hj ⟨hl, hks, hsk, ho, f, hf0, hfj, hf⟩ => by
      have e1 := Qtb (w := w) hj
      have e2 := hsum (j + 1) hj
      have e3 := ho j (Nat.le_refl j)
      unfold wtS at hk
      obtain ⟨g1, g2, g3⟩ := h.go (gt xs j) s.1 (by omega) (by omega)
      rw [← e3] at g1 g2 g3
      rw [e3] at g2
      refine ⟨_, hb1 j s hj, by simpa using hl, by rw [e3] at g1; rw [e3]; dsimp only; omega, by rw [e3]; dsimp only; rw [e3] at g1; omega, fun i hi => ?_, fun i => if i ≤ j then f i else (e (gt s.2 j) s.1).1, by simp [hf0], by simp only [if_neg (show ¬ j + 1 ≤ j by omega)], fun i hi => ?_⟩
      · dsimp only
        rw [Qoj (by omega)]
        exact ho i (by omega)
      · dsimp only
        rw [if_pos (show i ≤ j by omega)]
        by_cases hij : i = j
        · subst hij
          rw [if_neg (by omega), Qtz (by omega), hfj]
          exact ⟨by omega, g3⟩
        · rw [if_pos (by omega), Qoj (by omega)]
          exact hf i (by omega)) (xs.length - 0) 0 (k, xs) (by omega) ⟨rfl, by simp, by simp, fun _ _ => rfl, fun _ => k, rfl, rfl, fun i hi => absurd hi (by omega)⟩
  obtain ⟨f, hf0, hfn, hf⟩ := h6
  dsimp only at h2 h3 h4 hfn hf
  refine ⟨k', ys, h1, h2, h3, ?_, ?_⟩
  · rw [List.take_length] at h4
    unfold wtS
    omega
  · obtain ⟨s', h7, h8⟩ := Qky (body := hb ys) (n := xs.length) (fun j s => s = f j) (fun j s hj hs => ⟨f (j + 1), by rw [hb2 ys j s hj, hs]; exact (hf j hj).2, rfl⟩) (ys.length - 0) 0 k (by omega) hf0.symm
    rw [h7, h8, hfn]

/-! ### From weight to smallness -/
theorem Qox {α : Type} {w : α → Nat} {p : α → Prop} {B : Nat} {xs : List α} (h : wtS w xs ≤ B) (hp : ∀ y, w y ≤ B → p y) : xs.length ≤ B ∧ ∀ y ∈ xs, p y := by
  unfold wtS at h
  exact ⟨by omega, fun y hy => hp y (by have := Qbee (w := w) hy; omega)⟩
theorem Qov {α : Type} {E : Ty α} {p : α → Prop} {w : World} {B : Nat} {v : Value} {xs : List α} (h : rdS E w B v xs) (hp : ∀ cs y, E.rd w B cs y → p y) : xs.length ≤ 9223372036854775807 ∧ ∀ y ∈ xs, p y := by
  refine ⟨h.1, fun y hy => ?_⟩
  obtain ⟨_, _, _, _, h2⟩ := h
  have hl : 0 < xs.length := List.length_pos_of_mem hy
  obtain ⟨_, _, _, h3⟩ := h2 hl
  obtain ⟨j, hj⟩ := List.getElem?_of_mem hy
  obtain ⟨c, h4, _⟩ := h3 j y hj
  exact hp c y h4
theorem Qhn {a r k k' n m : Int} (h : a < 0 ∨ a = k' - n) (hn : 0 ≤ n) (hk : k' ≤ 1048576) (hr : 0 ≤ a → a ≤ 1048576 → a = k' - n → r < 0 ∨ r = k - m) : cond (decide (a < 0)) (-1) r < 0 ∨ cond (decide (a < 0)) (-1) r = k - m := by
  by_cases h1 : a < 0
  · left; simp [h1]
  · rw [decide_eq_false h1, cond_false]
    rcases h with h | h
    · exact absurd h h1
    · exact hr (by omega) (by omega) h
theorem Qaip {α : Type} {f : α → Int → Int} {w : α → Nat} {ok : α → Prop} (h : Qgr f w ok) {x : α} {k : Int} (hx : ok x) (h0 : 0 ≤ k) (h1 : k ≤ 1048576) (hs : decide (f x k < 0) = false) : w x ≤ 1048576 ∧ 0 ≤ f x k ∧ f x k ≤ 1048576 := by
  have hs' : ¬ f x k < 0 := of_decide_eq_false hs
  rcases h.go x k hx h0 h1 with h | h
  · exact absurd h hs'
  · omega

/-! ### Marks of a function -/
structure MkF {α : Type} (m : α → Int → Int × α) (h : α → Int → Int) (w : α → Nat) : Prop where
  go : ∀ x k, 0 ≤ k → k + 32 * (w x : Int) ≤ 4611686018427387904 → k ≤ (m x k).1 ∧ (m x k).1 ≤ k + 32 * (w x : Int) ∧ h (m x k).2 k = (m x k).1
structure MkB {α : Type} (m : α → Int → Int × α) (w : α → Nat) : Prop where
  go : ∀ x k, 0 ≤ k → k + 32 * (w x : Int) ≤ 4611686018427387904 → k ≤ (m x k).1 ∧ (m x k).1 ≤ k + 32 * (w x : Int)
theorem MkF.b {α : Type} {m : α → Int → Int × α} {h : α → Int → Int} {w : α → Nat} (hh : MkF m h w) : MkB m w := ⟨fun x k h0 h1 => ⟨(hh.go x k h0 h1).1, (hh.go x k h0 h1).2.1⟩⟩
theorem Qnc {α : Type} [Inhabited α] {e : α → Int → Int × α} {g : α → Int → Int ⊕ Int} {w : α → Nat} {W : List α → Nat} (h : Qlk e g w) {m : List α → Int → Int × List α} {hd : List α → Int → Int}
    {b : List α → Nat → Int × List α → (Int × List α) ⊕ (Int × List α)} {hb : List α → Nat → Int → Int ⊕ Int} (hW : ∀ x, W x = wtS w x)
    (hm : ∀ x k, m x k = Sum.elim id (fun s => (s.1, s.2)) (rng (b x) (x.length - 0) 0 (k, x))) (hh : ∀ x k, hd x k = Sum.elim id (fun s => s) (rng (hb x) (x.length - 0) 0 k))
    (hb1 : ∀ x j s, b x j s = .inr ((e (gt s.2 j) s.1).1, s.2.set j (e (gt s.2 j) s.1).2)) (hb2 : ∀ ys j s, hb ys j s = g (gt ys j) s) : MkF m hd W := ⟨fun x k h0 h1 => by
  obtain ⟨k', ys, e1, e2, e3, e4, e5⟩ := Qayt (k := k) h (b := b x) (hb := hb) (fun j s _ => hb1 x j s) (fun ys j s _ => hb2 ys j s) h0 (by rw [← hW]; exact h1)
  rw [hm, e1, hW]
  refine ⟨e3, e4, ?_⟩
  show hd ys k = k'
  rw [hh, e5]
  rfl⟩
theorem Qajr {α : Type} (xs : List α) : xs.length = wtS (fun _ => 0) xs := by
  unfold wtS
  have : (xs.map fun _ => 0).sum = 0 := by induction xs <;> simp_all
  omega
end Go.Proofs.YtdlminfjdodjoaaGreat

