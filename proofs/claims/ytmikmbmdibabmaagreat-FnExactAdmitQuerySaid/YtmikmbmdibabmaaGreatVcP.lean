/-
  Loops as plain functions of lists.
-/
import Derived.Test.YtmikmbmdibabmaaGreatVcL
namespace Go.Proofs.YtmikmbmdibabmaaGreat
open Go.RowKit

theorem rng_fold {α R S : Type} [Inhabited α] {xs : List α} {f : S → α → S} {b : Nat → S → R ⊕ S} (hb : ∀ j s, j < xs.length → b j s = .inr (f s (gt xs j))) (s : S) : rng b (xs.length - 0) 0 s = .inr (xs.foldl f s) := by
  have h : ∀ m k s, m + k = xs.length → rng b m k s = .inr ((xs.drop k).foldl f s) := by
    intro m
    induction m with
    | zero => intro k s hk; rw [rng, List.drop_of_length_le (by omega)]; rfl
    | succ m ih =>
      intro k s hk
      rw [rng, hb k s (by omega), List.drop_eq_getElem_cons (by omega), List.foldl_cons]
      show rng b m (k + 1) _ = _
      rw [ih (k + 1) _ (by omega), gt_at (by omega)]
  rw [h _ 0 s (by omega), List.drop_zero]
theorem rng_any {α R : Type} [Inhabited α] {xs : List α} {p : α → Bool} {r : R} {b : Nat → Unit → R ⊕ Unit} (hb : ∀ j, j < xs.length → b j () = cond (p (gt xs j)) (.inl r) (.inr ())) : rng b (xs.length - 0) 0 () = cond (xs.any p) (.inl r) (.inr ()) := by
  have h : ∀ m k, m + k = xs.length → rng b m k () = cond ((xs.drop k).any p) (.inl r) (.inr ()) := by
    intro m
    induction m with
    | zero => intro k hk; rw [rng, List.drop_of_length_le (by omega)]; rfl
    | succ m ih =>
      intro k hk
      rw [rng, hb k (by omega), List.drop_eq_getElem_cons (by omega), List.any_cons, ← gt_at (by omega)]
      cases p (gt xs k) with
      | true => rfl
      | false => exact ih (k + 1) (by omega)
  rw [h _ 0 (by omega), List.drop_zero]
theorem rng_allB {α R : Type} [Inhabited α] {xs : List α} {p : α → Bool} {r : R} {b : Nat → Unit → R ⊕ Unit} (hb : ∀ j, j < xs.length → b j () = cond (p (gt xs j)) (.inr ()) (.inl r)) : rng b (xs.length - 0) 0 () = cond (xs.all p) (.inr ()) (.inl r) := by
  rw [rng_any (p := fun x => !p x) (r := r) (fun j hj => by rw [hb j hj]; cases p (gt xs j) <;> rfl)]
  have : xs.all p = !xs.any fun x => !p x := by simp [List.all_eq_not_any_not]
  rw [this]
  cases (xs.any fun x => !p x) <;> rfl
/-- A loop that ends with one answer where a test fails. -/
def chkF {α S : Type} (c : S → α → Bool) (f : S → α → S) : List α → S → Option S
  | [], s => some s
  | x :: xs, s => cond (c s x) (chkF c f xs (f s x)) none
theorem rng_chk {α R S : Type} [Inhabited α] {xs : List α} {r : R} {c : S → α → Bool} {f : S → α → S} {b : Nat → S → R ⊕ S} (hb : ∀ j s, j < xs.length → b j s = cond (c s (gt xs j)) (.inr (f s (gt xs j))) (.inl r)) (s : S) :
    rng b (xs.length - 0) 0 s = (chkF c f xs s).elim (.inl r) .inr := by
  have h : ∀ m k s, m + k = xs.length → rng b m k s = (chkF c f (xs.drop k) s).elim (.inl r) .inr := by
    intro m
    induction m with
    | zero => intro k s hk; rw [rng, List.drop_of_length_le (by omega)]; rfl
    | succ m ih =>
      intro k s hk
      rw [rng, hb k s (by omega), List.drop_eq_getElem_cons (by omega), chkF, ← gt_at (by omega)]
      cases c s (gt xs k) with
      | true => exact ih (k + 1) _ (by omega)
      | false => rfl
  rw [h _ 0 s (by omega), List.drop_zero]
theorem rng_allN {R : Type} {n : Nat} {p : Nat → Bool} {r : R} {b : Nat → Unit → R ⊕ Unit} (hb : ∀ j, j < n → b j () = cond (p j) (.inr ()) (.inl r)) : rng b (n - 0) 0 () = cond ((List.range n).all p) (.inr ()) (.inl r) := by
  have h : ∀ m k, m + k = n → rng b m k () = cond ((List.range' k m).all p) (.inr ()) (.inl r) := by
    intro m
    induction m with
    | zero => intro k hk; rfl
    | succ m ih =>
      intro k hk
      rw [rng, hb k (by omega), List.range'_succ, List.all_cons]
      cases p k with
      | true => exact ih (k + 1) (by omega)
      | false => rfl
  rw [h _ 0 (by omega), List.range_eq_range']
  rfl
/-- Ways of saying a test. -/
theorem cb_and (b x : Bool) : cond b x false = (b && x) := by cases b <;> rfl
theorem cb_nand (b x : Bool) : cond b false x = (!b && x) := by cases b <;> rfl
theorem cb_rng (b x : Bool) : Sum.elim id (fun (_ : Unit) => x) (cond b (.inr ()) (.inl false)) = (b && x) := by cases b <;> rfl
theorem cb_lt (a b : Int) : decide (a < b) = !decide (b ≤ a) := by
  by_cases h : a < b
  · rw [decide_eq_true h, decide_eq_false (show ¬ b ≤ a by omega)]; rfl
  · rw [decide_eq_false h, decide_eq_true (show b ≤ a by omega)]; rfl
/-- The first numbers, taken as a list. -/
theorem rng_take {α R S : Type} [Inhabited α] {xs : List α} {b : Nat → S → R ⊕ S} {n : Nat} (hn : n ≤ xs.length) (s : S) : rng b (n - 0) 0 s = rng b ((xs.take n).length - 0) 0 s := by rw [List.length_take, Nat.min_eq_left hn]
theorem gt_take {α : Type} [Inhabited α] {xs : List α} {n j : Nat} (h : j < n) : gt (xs.take n) j = gt xs j := by
  unfold gt
  rw [List.getD_eq_getElem?_getD, List.getD_eq_getElem?_getD, List.getElem?_take, if_pos h]
theorem wtS_append {α : Type} (w : α → Nat) (xs ys : List α) : wtS w (xs ++ ys) = wtS w xs + wtS w ys := by
  unfold wtS
  rw [List.length_append, List.map_append, List.sum_append]
  omega
theorem wtS_one {α : Type} (w : α → Nat) (x : α) : wtS w [x] = 1 + w x := by simp [wtS]
/-- A search that may end early. -/
theorem rng_find {R : Type} {P : R → Prop} {n : Nat} {b : Nat → Unit → R ⊕ Unit} (hb : ∀ j, j < n → (∃ r, b j () = .inl r ∧ P r) ∨ b j () = .inr ()) : ∀ m k, m + k = n → (∃ r, rng b m k () = .inl r ∧ P r) ∨ rng b m k () = .inr ()
  | 0, _, _ => .inr rfl
  | m + 1, k, e => by
    rw [rng]
    rcases hb k (by omega) with ⟨r, h1, h2⟩ | h1
    · rw [h1]; exact .inl ⟨r, rfl, h2⟩
    · rw [h1]; exact rng_find hb m (k + 1) (by omega)
/-! ### Lists of numbers that rise -/
end Go.Proofs.YtmikmbmdibabmaaGreat

