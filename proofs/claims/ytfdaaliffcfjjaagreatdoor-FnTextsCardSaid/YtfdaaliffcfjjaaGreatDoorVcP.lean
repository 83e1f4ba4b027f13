/-
  Loops as plain functions of lists.
-/
import Derived.Test.YtfdaaliffcfjjaaGreatDoorVcL
namespace Go.Proofs.YtfdaaliffcfjjaaGreatDoor
open Go.RowKit

theorem rng_foldK {α R S : Type} [Inhabited α] {xs : List α} {f : Nat → S → α → S} {b : Nat → S → R ⊕ S} (hb : ∀ j s, j < xs.length → b j s = .inr (f j s (gt xs j))) (s : S) :
    rng b (xs.length - 0) 0 s = .inr ((xs.zipIdx).foldl (fun s p => f p.2 s p.1) s) := by
  have h : ∀ m k s, m + k = xs.length → rng b m k s = .inr (((xs.drop k).zipIdx k).foldl (fun s p => f p.2 s p.1) s) := by
    intro m
    induction m with
    | zero => intro k s hk; rw [rng, List.drop_of_length_le (by omega)]; rfl
    | succ m ih =>
      intro k s hk
      rw [rng, hb k s (by omega), List.drop_eq_getElem_cons (by omega), List.zipIdx_cons, List.foldl_cons]
      show rng b m (k + 1) _ = _
      rw [ih (k + 1) _ (by omega), gt_at (by omega)]
  rw [h _ 0 s (by omega), List.drop_zero]
theorem rng_fold {α R S : Type} [Inhabited α] {xs : List α} {f : S → α → S} {b : Nat → S → R ⊕ S} (hb : ∀ j s, j < xs.length → b j s = .inr (f s (gt xs j))) (s : S) : rng b (xs.length - 0) 0 s = .inr (xs.foldl f s) := by
  have h : ∀ m k s, m + k = xs.length → rng b m k s = .inr ((xs.drop k).foldl f s) := by
    intro m
    induction m with
    | zero => intro k s hk; rw [rng, List.drop_of_length_le (by omega)]; rfl
    | succ m ih =>
      intro k s hk
      rw [rng, hb k s (by omega), List.drop_eq_getElem_cons (by omega), List.foldl_cons]
      show rng b m (k + 1) _ = _
      rw [ih (k + 1) _ (by omega), gt_at (by omega)]
  rw [h _ 0 s (by omega), List.drop_zero]
theorem rng_any {α R : Type} [Inhabited α] {xs : List α} {p : α → Bool} {r : R} {b : Nat → Unit → R ⊕ Unit} (hb : ∀ j, j < xs.length → b j () = cond (p (gt xs j)) (.inl r) (.inr ())) : rng b (xs.length - 0) 0 () = cond (xs.any p) (.inl r) (.inr ()) := by
  have h : ∀ m k, m + k = xs.length → rng b m k () = cond ((xs.drop k).any p) (.inl r) (.inr ()) := by
    intro m
    induction m with
    | zero => intro k hk; rw [rng, List.drop_of_length_le (by omega)]; rfl
    | succ m ih =>
      intro k hk
      rw [rng, hb k (by omega), List.drop_eq_getElem_cons (by omega), List.any_cons, ← gt_at (by omega)]
      cases p (gt xs k) with
      | true => rfl
      | false => exact ih (k + 1) (by omega)
  rw [h _ 0 (by omega), List.drop_zero]
theorem rng_allB {α R : Type} [Inhabited α] {xs : List α} {p : α → Bool} {r : R} {b : Nat → Unit → R ⊕ Unit} (hb : ∀ j, j < xs.length → b j () = cond (p (gt xs j)) (.inr ()) (.inl r)) : rng b (xs.length - 0) 0 () = cond (xs.all p) (.inr ()) (.inl r) := by
  rw [rng_any (p := fun x => !p x) (r := r) (fun j hj => by rw [hb j hj]; cases p (gt xs j) <;> rfl)]
  have : xs.all p = !xs.any fun x => !p x := by simp [List.all_eq_not_any_not]
  rw [this]
  cases (xs.any fun x => !p x) <;> rfl
theorem foldl_filterMap {α β : Type} (p : α → Bool) (g : α → β) : ∀ (xs : List α) (d : List β), xs.foldl (fun d v => cond (p v) (d ++ [g v]) d) d = d ++ (xs.filter p).map g
  | [], d => by simp
  | x :: xs, d => by
    rw [List.foldl_cons, foldl_filterMap p g xs]
    cases h : p x <;> simp [h]
theorem foldl_filter {α : Type} (p : α → Bool) (xs d : List α) : xs.foldl (fun d v => cond (p v) (d ++ [v]) d) d = d ++ xs.filter p := by
  have := foldl_filterMap p id xs d
  simpa using this
theorem foldl_map {α β : Type} (g : α → β) : ∀ (xs : List α) (d : List β), xs.foldl (fun d v => d ++ [g v]) d = d ++ xs.map g
  | [], d => by simp
  | x :: xs, d => by rw [List.foldl_cons, foldl_map g xs]; simp
theorem gt_mid {α : Type} [Inhabited α] {ys zs : List α} {x : α} {k : Nat} (h : ys.length = k) : gt (ys ++ x :: zs) k = x := by
  subst h
  unfold gt
  rw [List.getD_eq_getElem?_getD, List.getElem?_append_right (Nat.le_refl _), Nat.sub_self]
  rfl
/-- Each element replaced in its place, with a state beside. -/
theorem rng_setmap {α R S : Type} [Inhabited α] {f : α → α} {g : S → α → S} {xs : List α} {b : Nat → S × List α → R ⊕ (S × List α)} (hb : ∀ j s, j < xs.length → gt s.2 j = gt xs j → b j s = .inr (g s.1 (gt xs j), s.2.set j (f (gt xs j)))) (s : S) : rng b (xs.length - 0) 0 (s, xs) = .inr (xs.foldl g s, xs.map f) := by
  have h : ∀ m k s, m + k = xs.length → rng b m k (s, (xs.take k).map f ++ xs.drop k) = .inr ((xs.drop k).foldl g s, xs.map f) := by
    intro m
    induction m with
    | zero => intro k s hk; rw [rng, List.drop_of_length_le (by omega), List.take_of_length_le (by omega)]; simp
    | succ m ih =>
      intro k s hk
      have hlt : k < xs.length := by omega
      have hd : xs.drop k = gt xs k :: xs.drop (k + 1) := by rw [List.drop_eq_getElem_cons hlt, gt_at hlt]
      have hl : ((xs.take k).map f).length = k := by simp; omega
      have hg : gt ((xs.take k).map f ++ xs.drop k) k = gt xs k := by
        rw [hd]
        exact gt_mid hl
      rw [rng, hb k _ hlt hg]
      show rng b m (k + 1) _ = _
      have hs : ((xs.take k).map f ++ xs.drop k).set k (f (gt xs k)) = (xs.take (k + 1)).map f ++ xs.drop (k + 1) := by
        rw [hd, List.set_append_right _ _ (by omega), hl, Nat.sub_self, List.set_cons_zero, List.take_add_one, List.getElem?_eq_getElem hlt, ← gt_at hlt]
        simp
      rw [hs, ih (k + 1) _ (by omega), hd, List.foldl_cons]
  have := h (xs.length - 0) 0 s (by omega)
  simpa using this
theorem rng_setmap1 {α R : Type} [Inhabited α] {f : α → α} {xs : List α} {b : Nat → List α → R ⊕ List α} (hb : ∀ j s, j < xs.length → gt s j = gt xs j → b j s = .inr (s.set j (f (gt xs j)))) : rng b (xs.length - 0) 0 xs = .inr (xs.map f) := by
  have h : ∀ m k, m + k = xs.length → rng b m k ((xs.take k).map f ++ xs.drop k) = .inr (xs.map f) := by
    intro m
    induction m with
    | zero => intro k hk; rw [rng, List.drop_of_length_le (by omega), List.take_of_length_le (by omega)]; simp
    | succ m ih =>
      intro k hk
      have hlt : k < xs.length := by omega
      have hd : xs.drop k = gt xs k :: xs.drop (k + 1) := by rw [List.drop_eq_getElem_cons hlt, gt_at hlt]
      have hl : ((xs.take k).map f).length = k := by simp; omega
      have hg : gt ((xs.take k).map f ++ xs.drop k) k = gt xs k := by
        rw [hd]
        exact gt_mid hl
      rw [rng, hb k _ hlt hg]
      show rng b m (k + 1) _ = _
      have hs : ((xs.take k).map f ++ xs.drop k).set k (f (gt xs k)) = (xs.take (k + 1)).map f ++ xs.drop (k + 1) := by
        rw [hd, List.set_append_right _ _ (by omega), hl, Nat.sub_self, List.set_cons_zero, List.take_add_one, List.getElem?_eq_getElem hlt, ← gt_at hlt]
        simp
      rw [hs, ih (k + 1) (by omega)]
  have := h (xs.length - 0) 0 (by omega)
  simpa using this
/-- A loop that ends with one answer where a test fails. -/
def chkF {α S : Type} (c : S → α → Bool) (f : S → α → S) : List α → S → Option S
  | [], s => some s
  | x :: xs, s => cond (c s x) (chkF c f xs (f s x)) none
theorem rng_chk {α R S : Type} [Inhabited α] {xs : List α} {r : R} {c : S → α → Bool} {f : S → α → S} {b : Nat → S → R ⊕ S} (hb : ∀ j s, j < xs.length → b j s = cond (c s (gt xs j)) (.inr (f s (gt xs j))) (.inl r)) (s : S) :
    rng b (xs.length - 0) 0 s = (chkF c f xs s).elim (.inl r) .inr := by
  have h : ∀ m k s, m + k = xs.length → rng b m k s = (chkF c f (xs.drop k) s).elim (.inl r) .inr := by
    intro m
    induction m with
    | zero => intro k s hk; rw [rng, List.drop_of_length_le (by omega)]; rfl
    | succ m ih =>
      intro k s hk
      rw [rng, hb k s (by omega), List.drop_eq_getElem_cons (by omega), chkF, ← gt_at (by omega)]
      cases c s (gt xs k) with
      | true => exact ih (k + 1) _ (by omega)
      | false => rfl
  rw [h _ 0 s (by omega), List.drop_zero]
theorem rng_allN {R : Type} {n : Nat} {p : Nat → Bool} {r : R} {b : Nat → Unit → R ⊕ Unit} (hb : ∀ j, j < n → b j () = cond (p j) (.inr ()) (.inl r)) : rng b (n - 0) 0 () = cond ((List.range n).all p) (.inr ()) (.inl r) := by
  have h : ∀ m k, m + k = n → rng b m k () = cond ((List.range' k m).all p) (.inr ()) (.inl r) := by
    intro m
    induction m with
    | zero => intro k hk; rfl
    | succ m ih =>
      intro k hk
      rw [rng, hb k (by omega), List.range'_succ, List.all_cons]
      cases p k with
      | true => exact ih (k + 1) (by omega)
      | false => rfl
  rw [h _ 0 (by omega), List.range_eq_range']
  rfl
/-- Ways of saying a test. -/
theorem cb_and (b x : Bool) : cond b x false = (b && x) := by cases b <;> rfl
theorem cb_nand (b x : Bool) : cond b false x = (!b && x) := by cases b <;> rfl
theorem cb_or (b x : Bool) : cond b true x = (b || x) := by cases b <;> rfl
theorem cb_rng (b x : Bool) : Sum.elim id (fun (_ : Unit) => x) (cond b (.inr ()) (.inl false)) = (b && x) := by cases b <;> rfl
theorem cb_lt (a b : Int) : decide (a < b) = !decide (b ≤ a) := by
  by_cases h : a < b
  · rw [decide_eq_true h, decide_eq_false (show ¬ b ≤ a by omega)]; rfl
  · rw [decide_eq_false h, decide_eq_true (show b ≤ a by omega)]; rfl
theorem cb_ne (a b : Int) : (a != b) = !(a == b) := rfl
theorem cb_in (b : Bool) {R : Type} {r : R} : cond b (.inl r) (.inr ()) = (cond (!b) (.inr ()) (.inl r) : R ⊕ Unit) := by cases b <;> rfl
theorem cb_nest (a b : Bool) {R : Type} {r : R} : cond a (cond b (.inr ()) (.inl r)) (.inl r) = (cond (a && b) (.inr ()) (.inl r) : R ⊕ Unit) := by cases a <;> cases b <;> rfl
theorem cb_nest2 (a b : Bool) {R : Type} {r : R} : cond a (.inl r) (cond b (.inr ()) (.inl r)) = (cond (!a && b) (.inr ()) (.inl r) : R ⊕ Unit) := by cases a <;> cases b <;> rfl
theorem all_congr {n : Nat} {p q : Nat → Bool} (h : ∀ j, j < n → p j = q j) : (List.range n).all p = (List.range n).all q := by
  rw [Bool.eq_iff_iff, List.all_eq_true, List.all_eq_true]
  exact ⟨fun hp j hj => by rw [← h j (List.mem_range.1 hj)]; exact hp j hj, fun hp j hj => by rw [h j (List.mem_range.1 hj)]; exact hp j hj⟩
/-- A loop that a test at its head may leave. -/
theorem rngb_false {R S : Type} {b : Nat → S → R ⊕ (S ⊕ S)} (hb : ∀ j s, b j s = .inr (.inl s)) : ∀ m k s, rngb b m k s = .inr s
  | 0, _, _ => rfl
  | m + 1, k, s => by rw [rngb, hb]; rfl
theorem rngb_rng {R S : Type} {b : Nat → S → R ⊕ S} {b' : Nat → S → R ⊕ (S ⊕ S)} {n : Nat} (h : ∀ j s, j < n → b' j s = Sum.elim Sum.inl (fun s => Sum.inr (Sum.inr s)) (b j s)) : ∀ m k s, m + k = n → rngb b' m k s = rng b m k s
  | 0, _, _, _ => rfl
  | m + 1, k, s, e => by
    rw [rngb, rng, h k s (by omega)]
    cases b k s with
    | inl r => rfl
    | inr s' => exact rngb_rng h m (k + 1) s' (by omega)
theorem rng_ext {R S : Type} {b b' : Nat → S → R ⊕ S} (h : ∀ j s, b j s = b' j s) (m k : Nat) (s : S) : rng b m k s = rng b' m k s := by
  have : b = b' := funext fun j => funext fun s => h j s
  rw [this]
/-- The first numbers, taken as a list. -/
theorem rng_take {α R S : Type} [Inhabited α] {xs : List α} {b : Nat → S → R ⊕ S} {n : Nat} (hn : n ≤ xs.length) (s : S) : rng b (n - 0) 0 s = rng b ((xs.take n).length - 0) 0 s := by rw [List.length_take, Nat.min_eq_left hn]
theorem gt_take {α : Type} [Inhabited α] {xs : List α} {n j : Nat} (h : j < n) : gt (xs.take n) j = gt xs j := by
  unfold gt
  rw [List.getD_eq_getElem?_getD, List.getD_eq_getElem?_getD, List.getElem?_take, if_pos h]
theorem wtS_append {α : Type} (w : α → Nat) (xs ys : List α) : wtS w (xs ++ ys) = wtS w xs + wtS w ys := by
  unfold wtS
  rw [List.length_append, List.map_append, List.sum_append]
  omega
theorem wtS_one {α : Type} (w : α → Nat) (x : α) : wtS w [x] = 1 + w x := by simp [wtS]
theorem wtS_filter {α : Type} (w : α → Nat) (p : α → Bool) : ∀ xs : List α, wtS w (xs.filter p) ≤ wtS w xs
  | [] => Nat.le_refl _
  | x :: xs => by
    have ih := wtS_filter w p xs
    have e : wtS w (x :: xs) = 1 + w x + wtS w xs := by unfold wtS; simp; omega
    have e' : ∀ ys : List α, wtS w (x :: ys) = 1 + w x + wtS w ys := fun ys => by unfold wtS; simp; omega
    rw [List.filter_cons]
    split
    · rw [e, e']; omega
    · rw [e]; omega
theorem wtS_map {α β : Type} (w : α → Nat) (v : β → Nat) (f : α → β) (h : ∀ x, v (f x) ≤ w x) : ∀ xs : List α, wtS v (xs.map f) ≤ wtS w xs
  | [] => Nat.le_refl _
  | x :: xs => by
    have ih := wtS_map w v f h xs
    have := h x
    have e : wtS w (x :: xs) = 1 + w x + wtS w xs := by unfold wtS; simp; omega
    have e' : wtS v (f x :: xs.map f) = 1 + v (f x) + wtS v (xs.map f) := by unfold wtS; simp; omega
    rw [List.map_cons, e, e']
    omega

theorem rng_rangeFM {β R : Type} {n : Nat} {c : Nat → Bool} {g : Nat → β} {b : Nat → List β → R ⊕ List β} (hb : ∀ j d, j < n → b j d = cond (c j) (.inr (d ++ [g j])) (.inr d)) : rng b (n - 0) 0 [] = .inr (((List.range n).filter c).map g) := by
  have h : ∀ m k d, m + k = n → rng b m k d = .inr (d ++ ((List.range' k m).filter c).map g) := by
    intro m
    induction m with
    | zero => intro k d hk; simp [rng]
    | succ m ih =>
      intro k d hk
      rw [rng, hb k d (by omega), List.range'_succ, List.filter_cons]
      cases hc : c k with
      | true =>
        show rng b m (k + 1) (d ++ [g k]) = _
        rw [ih (k + 1) _ (by omega)]
        simp
      | false =>
        show rng b m (k + 1) d = _
        rw [ih (k + 1) _ (by omega)]
        simp
  rw [h _ 0 [] (by omega), List.range_eq_range']
  rfl
theorem bne_dec {a b : Int} {p : Prop} [Decidable p] (h : ((a == b) != decide p) = false) : a = b ↔ p := by
  by_cases h1 : a = b <;> by_cases h2 : p <;> simp_all
theorem beq_dec {a b : Int} {p : Prop} [Decidable p] (h : (decide p == (a == b)) = false) : p ↔ ¬ a = b := by
  by_cases h1 : a = b <;> by_cases h2 : p <;> simp_all
theorem gtset_len {α : Type} {xs : List (List α)} {i : Nat} {y : List α} (h : y.length = (gt xs i).length) (j : Nat) : (gt (xs.set i y) j).length = (gt xs j).length := by
  by_cases e : i = j
  · subst e
    by_cases hl : i < xs.length
    · rw [gt_set_eq hl, h]
    · rw [List.set_eq_of_length_le (by omega)]
  · rw [gt_set_ne e]
theorem wtS_set {α : Type} (w : α → Nat) : ∀ (xs : List α) (i : Nat) (y : α), wtS w (xs.set i y) ≤ wtS w xs + w y
  | [], _, _ => Nat.zero_le _
  | x :: xs, 0, y => by simp only [List.set_cons_zero, wtS, List.length_cons, List.map_cons, List.sum_cons]; omega
  | x :: xs, i + 1, y => by
    have := wtS_set w xs i y
    simp only [List.set_cons_succ, wtS, List.length_cons, List.map_cons, List.sum_cons, List.length_set] at this ⊢
    omega
theorem wtS_gt {α : Type} (w : α → Nat) (xs : List (List α)) (i : Nat) : wtS w (gt xs i) ≤ wtS (wtS w) xs := by
  by_cases h : i < xs.length
  · have := wt_mem (w := wtS w) (gt_mem h)
    have e : wtS (wtS w) xs = xs.length + (xs.map (wtS w)).sum := rfl
    omega
  · have : gt xs i = [] := by unfold gt; rw [List.getD_eq_getElem?_getD, List.getElem?_eq_none (by omega)]; rfl
    rw [this]; exact Nat.zero_le _
theorem rngb_inr {R S : Type} {b : Nat → S → R ⊕ (S ⊕ S)} (hb : ∀ j s, ∃ s', b j s = .inr s') : ∀ m k s, ∃ s', rngb b m k s = .inr s'
  | 0, _, s => ⟨s, rfl⟩
  | m + 1, k, s => by
    obtain ⟨q, h1⟩ := hb k s
    rw [rngb, h1]
    cases q with
    | inl s' => exact ⟨s', rfl⟩
    | inr s' => exact rngb_inr hb m (k + 1) s'
/-- A search beside the search for the place alone. -/
theorem rng_idx {R : Type} {c : Nat → Bool} {F : Nat → R} {b : Nat → Unit → R ⊕ Unit} {b' : Nat → Unit → Int ⊕ Unit} (hb : ∀ j, b j () = cond (c j) (.inl (F j)) (.inr ())) (hb' : ∀ j, b' j () = cond (c j) (.inl ((j : Nat) : Int)) (.inr ())) :
    ∀ m k, rng b m k () = Sum.elim (fun r => .inl (F r.toNat)) (fun _ => .inr ()) (rng b' m k ())
  | 0, _ => rfl
  | m + 1, k => by
    rw [rng, rng, hb, hb']
    cases c k with
    | true => show Sum.inl (F k) = Sum.inl (F (Int.toNat (k : Int))); rw [Int.toNat_natCast]
    | false => exact rng_idx hb hb' m (k + 1)
/-- A search that may end early. -/
theorem rng_find {R : Type} {P : R → Prop} {n : Nat} {b : Nat → Unit → R ⊕ Unit} (hb : ∀ j, j < n → (∃ r, b j () = .inl r ∧ P r) ∨ b j () = .inr ()) : ∀ m k, m + k = n → (∃ r, rng b m k () = .inl r ∧ P r) ∨ rng b m k () = .inr ()
  | 0, _, _ => .inr rfl
  | m + 1, k, e => by
    rw [rng]
    rcases hb k (by omega) with ⟨r, h1, h2⟩ | h1
    · rw [h1]; exact .inl ⟨r, rfl, h2⟩
    · rw [h1]; exact rng_find hb m (k + 1) (by omega)
/-! ### Lists of numbers that rise -/
theorem adj_rise {xs : List Int} (h : ∀ k, 0 < k → k < xs.length → gt xs (k - 1) < gt xs k) : xs.Pairwise (· < ·) := by
  rw [List.pairwise_iff_getElem]
  intro i j hi hj hij
  have key : ∀ d, i + 1 + d < xs.length → gt xs i < gt xs (i + 1 + d) := by
    intro d
    induction d with
    | zero => intro hd; have := h (i + 1) (by omega) hd; simpa using this
    | succ d ih =>
      intro hd
      have h1 := ih (by omega)
      have h2 := h (i + 1 + (d + 1)) (by omega) hd
      have e : i + 1 + (d + 1) - 1 = i + 1 + d := by omega
      rw [e] at h2
      omega
  have := key (j - i - 1) (by omega)
  rw [show i + 1 + (j - i - 1) = j by omega] at this
  rw [← gt_at hi, ← gt_at hj]
  exact this
theorem set_filter (p : Int → Bool) : ∀ (n lo : Nat) (xs : List Int), xs.Pairwise (· < ·) → (∀ x ∈ xs, (lo : Int) ≤ x ∧ x < (lo : Int) + n) → ((List.range' lo n).filter (fun (k : Nat) => xs.any (fun y => y == (k : Int)) && p k)).map (fun k => ((k : Nat) : Int)) = xs.filter p
  | 0, lo, [], _, _ => rfl
  | 0, lo, x :: xs, _, hb => by have := hb x (by simp); omega
  | n + 1, lo, [], _, _ => by simp
  | n + 1, lo, x :: xs, hp, hb => by
    have hx := hb x (by simp)
    rw [List.pairwise_cons] at hp
    rw [List.range'_succ, List.filter_cons]
    by_cases e : x = (lo : Int)
    · have ih := set_filter p n (lo + 1) xs hp.2 (fun y hy => by have := hb y (by simp [hy]); have := hp.1 y hy; omega)
      have hc : (List.range' (lo + 1) n).filter (fun (k : Nat) => (x :: xs).any (fun y => y == (k : Int)) && p k) = (List.range' (lo + 1) n).filter (fun (k : Nat) => xs.any (fun y => y == (k : Int)) && p k) := by
        apply List.filter_congr
        intro k hk
        have : lo + 1 ≤ k := (List.mem_range'_1.1 hk).1
        have hne : (x == (k : Int)) = false := beq_eq_false_iff_ne.2 (by omega)
        rw [List.any_cons, hne, Bool.false_or]
      rw [hc, List.any_cons]
      have h1 : (x == (lo : Int)) = true := beq_iff_eq.2 e
      rw [h1, Bool.true_or, Bool.true_and, List.filter_cons, e]
      cases p (lo : Int) with
      | true => simp only [if_true, List.map_cons]; rw [ih]
      | false => simp only [Bool.false_eq_true, if_false]; exact ih
    · have ih := set_filter p n (lo + 1) (x :: xs) (by rw [List.pairwise_cons]; exact hp) (fun y hy => by
        have h1 := hb y hy
        rcases List.mem_cons.1 hy with rfl | hy'
        · omega
        · have := hp.1 y hy'; omega)
      have h1 : (x :: xs).any (fun y => y == (lo : Int)) = false := by
        rw [List.any_eq_false]
        intro y hy
        rcases List.mem_cons.1 hy with rfl | hy'
        · simp [e]
        · have := hp.1 y hy'; simp; omega
      rw [h1, Bool.false_and]
      simp only [Bool.false_eq_true, if_false]
      exact ih
end Go.Proofs.YtfdaaliffcfjjaaGreatDoor
