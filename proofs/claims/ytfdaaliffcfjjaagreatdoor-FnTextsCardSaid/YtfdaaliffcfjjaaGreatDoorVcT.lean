/-
  The stable sort of the library as plain functions over lists: its result is in order, and holds the same elements.
-/
import Derived.Test.YtfdaaliffcfjjaaGreatDoorVcP
namespace Go.Proofs.YtfdaaliffcfjjaaGreatDoor
open Go.RowKit

section
variable {α : Type} [Inhabited α]
def sw (xs : List α) (i j : Nat) : List α := (xs.set i (gt xs j)).set j (gt xs i)
theorem sw_len {xs : List α} {i j : Nat} : (sw xs i j).length = xs.length := by simp [sw]
theorem sw_gt {xs : List α} {i j : Nat} (hi : i < xs.length) (hj : j < xs.length) (k : Nat) : gt (sw xs i j) k = if k = j then gt xs i else if k = i then gt xs j else gt xs k := by
  unfold sw
  by_cases h1 : k = j
  · subst h1
    rw [gt_set_eq (by simpa using hj), if_pos rfl]
  · rw [gt_set_ne (fun h => h1 h.symm), if_neg h1]
    by_cases h2 : k = i
    · subst h2
      rw [gt_set_eq hi, if_pos rfl]
    · rw [gt_set_ne (fun h => h2 h.symm), if_neg h2]
theorem sw_perm {xs : List α} {i j : Nat} (hi : i < xs.length) (hj : j < xs.length) : (sw xs i j).Perm xs := by
  unfold sw
  rw [gt_at hi, gt_at hj]
  exact List.set_set_perm hi hj

/-- The same elements, rearranged within [a, b). -/
structure RP (a b : Nat) (xs ys : List α) : Prop where
  len : ys.length = xs.length
  perm : ys.Perm xs
  out : ∀ k, k < a ∨ b ≤ k → gt ys k = gt xs k
  inn : ∀ k, a ≤ k → k < b → ∃ k', a ≤ k' ∧ k' < b ∧ gt ys k = gt xs k'
theorem RP.refl {a b : Nat} (xs : List α) : RP a b xs xs := ⟨rfl, .refl _, fun _ _ => rfl, fun k h1 h2 => ⟨k, h1, h2, rfl⟩⟩
theorem RP.trans {a b : Nat} {xs ys zs : List α} (h : RP a b xs ys) (g : RP a b ys zs) : RP a b xs zs :=
  ⟨g.len.trans h.len, g.perm.trans h.perm, fun k hk => (g.out k hk).trans (h.out k hk), fun k h1 h2 => by
    obtain ⟨k1, a1, b1, e1⟩ := g.inn k h1 h2
    obtain ⟨k2, a2, b2, e2⟩ := h.inn k1 a1 b1
    exact ⟨k2, a2, b2, e1.trans e2⟩⟩
theorem RP.mono {a b a' b' : Nat} {xs ys : List α} (h : RP a b xs ys) (ha : a' ≤ a) (hb : b ≤ b') : RP a' b' xs ys :=
  ⟨h.len, h.perm, fun k hk => h.out k (by omega), fun k h1 h2 => by
    by_cases hk : a ≤ k ∧ k < b
    · obtain ⟨k1, a1, b1, e1⟩ := h.inn k hk.1 hk.2
      exact ⟨k1, by omega, by omega, e1⟩
    · exact ⟨k, h1, h2, h.out k (by omega)⟩⟩
theorem RP.sw {a b i j : Nat} {xs : List α} (ha : a ≤ i ∧ i < b) (hb : a ≤ j ∧ j < b) (hl : b ≤ xs.length) : RP a b xs (sw xs i j) :=
  ⟨sw_len, sw_perm (by omega) (by omega), fun k hk => by rw [sw_gt (by omega) (by omega), if_neg (by omega), if_neg (by omega)], fun k h1 h2 => by
    rw [sw_gt (by omega) (by omega)]
    by_cases e1 : k = j
    · exact ⟨i, ha.1, ha.2, by rw [if_pos e1]⟩
    · by_cases e2 : k = i
      · exact ⟨j, hb.1, hb.2, by rw [if_neg e1, if_pos e2]⟩
      · exact ⟨k, h1, h2, by rw [if_neg e1, if_neg e2]⟩⟩

variable (lt : α → α → Bool)
/-- What is asked of the comparison. -/
structure Ord : Prop where
  asym : ∀ x y, lt x y = true → lt y x = false
  tr : ∀ x y z, lt y x = false → lt z y = false → lt z x = false
/-- [a, b) is in order. -/
def SR (a b : Nat) (xs : List α) : Prop := ∀ i j, a ≤ i → i < j → j < b → lt (gt xs j) (gt xs i) = false

def ins1 (a : Nat) : Nat → List α → List α
  | 0, xs => xs
  | j + 1, xs => cond (decide (a < j + 1) && lt (gt xs (j + 1)) (gt xs j)) (ins1 a j (sw xs (j + 1) j)) xs
def insL (a : Nat) : Nat → Nat → List α → List α
  | 0, _, xs => xs
  | m + 1, i, xs => insL a m (i + 1) (ins1 lt a i xs)
variable {lt}
theorem ins1_ok (o : Ord lt) {a i : Nat} : ∀ (j : Nat) (xs : List α), a ≤ j → j ≤ i → i < xs.length →
    (∀ p q, a ≤ p → p < q → q ≤ i → q ≠ j → lt (gt xs q) (gt xs p) = false) → RP a (i + 1) xs (ins1 lt a j xs) ∧ SR lt a (i + 1) (ins1 lt a j xs)
  | 0, xs, ha, hj, hl, h => ⟨RP.refl _, fun p q h1 h2 h3 => h p q h1 h2 (by omega) (by omega)⟩
  | j + 1, xs, ha, hj, hl, h => by
    rw [ins1]
    by_cases h1 : a < j + 1
    · rw [decide_eq_true h1, Bool.true_and]
      cases h2 : lt (gt xs (j + 1)) (gt xs j) with
      | true =>
        rw [cond_true]
        have g : ∀ k, gt (sw xs (j + 1) j) k = if k = j then gt xs (j + 1) else if k = j + 1 then gt xs j else gt xs k := sw_gt (by omega) (by omega)
        obtain ⟨h3, h4⟩ := ins1_ok o (a := a) (i := i) j (sw xs (j + 1) j) (by omega) (by omega) (by rw [sw_len]; exact hl) (fun p q hp hpq hq hne => by
          rw [g, g, if_neg hne]
          by_cases e1 : q = j + 1
          · rw [if_pos e1]
            by_cases e2 : p = j
            · rw [if_pos e2]; exact o.asym _ _ h2
            · rw [if_neg e2, if_neg (by omega)]; exact h p j hp (by omega) (by omega) (by omega)
          · rw [if_neg e1]
            by_cases e2 : p = j
            · rw [if_pos e2]; exact h (j + 1) q (by omega) (by omega) hq (by omega)
            · rw [if_neg e2]
              by_cases e3 : p = j + 1
              · rw [if_pos e3]; exact h j q (by omega) (by omega) hq (by omega)
              · rw [if_neg e3]; exact h p q hp hpq hq e1)
        exact ⟨(RP.sw ⟨by omega, by omega⟩ ⟨by omega, by omega⟩ (by omega)).trans h3, h4⟩
      | false =>
        rw [cond_false]
        refine ⟨RP.refl _, fun p q hp hpq hq => ?_⟩
        by_cases e : q = j + 1
        · subst e
          by_cases e2 : p = j
          · subst e2; exact h2
          · exact o.tr _ _ _ (h p j hp (by omega) (by omega) (by omega)) h2
        · exact h p q hp hpq (by omega) e
    · rw [decide_eq_false h1, Bool.false_and, cond_false]
      exact ⟨RP.refl _, fun p q hp hpq hq => h p q hp hpq (by omega) (by omega)⟩
theorem insL_ok (o : Ord lt) {a : Nat} : ∀ (m i : Nat) (xs : List α), a ≤ i → i + m ≤ xs.length → SR lt a i xs → RP a (i + m) xs (insL lt a m i xs) ∧ SR lt a (i + m) (insL lt a m i xs)
  | 0, i, xs, _, _, h => ⟨RP.refl _, h⟩
  | m + 1, i, xs, ha, hl, h => by
    rw [insL]
    obtain ⟨h1, h2⟩ := ins1_ok o (a := a) (i := i) i xs ha (Nat.le_refl _) (by omega) (fun p q hp hpq hq hne => h p q hp hpq (by omega))
    obtain ⟨h3, h4⟩ := insL_ok o m (i + 1) _ (by omega) (by rw [h1.len]; omega) h2
    have e : i + 1 + m = i + (m + 1) := by omega
    rw [e] at h3 h4
    exact ⟨(h1.mono (Nat.le_refl _) (by omega)).trans h3, h4⟩

def bsr (p : Nat → Bool) : Nat → Nat → Nat → Nat
  | 0, i, _ => i
  | f + 1, i, j => cond (decide (i < j)) (cond (p ((i + j) / 2)) (bsr p f ((i + j) / 2 + 1) j) (bsr p f i ((i + j) / 2))) i
theorem bsr_ok {p : Nat → Bool} : ∀ (f i j : Nat), i ≤ j → j ≤ f + i → i ≤ bsr p f i j ∧ bsr p f i j ≤ j ∧ (bsr p f i j = i ∨ p (bsr p f i j - 1) = true) ∧ (bsr p f i j = j ∨ p (bsr p f i j) = false)
  | 0, i, j, h1, h2 => by rw [bsr]; exact ⟨Nat.le_refl _, h1, .inl rfl, .inl (by omega)⟩
  | f + 1, i, j, h1, h2 => by
    rw [bsr]
    by_cases h : i < j
    · rw [decide_eq_true h, cond_true]
      cases hp : p ((i + j) / 2) with
      | true =>
        rw [cond_true]
        obtain ⟨a1, a2, a3, a4⟩ := bsr_ok (p := p) f ((i + j) / 2 + 1) j (by omega) (by omega)
        refine ⟨by omega, a2, .inr ?_, a4⟩
        rcases a3 with e | e
        · rw [e, Nat.add_sub_cancel]; exact hp
        · exact e
      | false =>
        rw [cond_false]
        obtain ⟨a1, a2, a3, a4⟩ := bsr_ok (p := p) f i ((i + j) / 2) (by omega) (by omega)
        refine ⟨a1, by omega, a3, .inr ?_⟩
        rcases a4 with e | e
        · rw [e]; exact hp
        · exact e
    · rw [decide_eq_false h, cond_false]
      exact ⟨Nat.le_refl _, h1, .inl rfl, .inl (by omega)⟩

def mvU : Nat → Nat → List α → List α
  | 0, _, xs => xs
  | n + 1, k, xs => mvU n (k + 1) (sw xs k (k + 1))
theorem mvU_ok {a b : Nat} : ∀ (n k : Nat) (xs : List α), a ≤ k → k + n < b → b ≤ xs.length → RP a b xs (mvU n k xs) ∧
    ∀ t, gt (mvU n k xs) t = if k ≤ t ∧ t < k + n then gt xs (t + 1) else if t = k + n then gt xs k else gt xs t
  | 0, k, xs, _, _, _ => ⟨RP.refl _, fun t => by rw [mvU, if_neg (by omega)]; by_cases e : t = k + 0 <;> simp_all⟩
  | n + 1, k, xs, h1, h2, h3 => by
    rw [mvU]
    obtain ⟨a1, a2⟩ := mvU_ok (a := a) (b := b) n (k + 1) (sw xs k (k + 1)) (by omega) (by omega) (by rw [sw_len]; exact h3)
    refine ⟨(RP.sw ⟨by omega, by omega⟩ ⟨by omega, by omega⟩ h3).trans a1, fun t => ?_⟩
    have g : ∀ t, gt (sw xs k (k + 1)) t = if t = k + 1 then gt xs k else if t = k then gt xs (k + 1) else gt xs t := sw_gt (by omega) (by omega)
    rw [a2, g, g, g]
    (repeat' split) <;> first | omega | rfl | (congr 1; omega)
def mvD : Nat → Nat → List α → List α
  | 0, _, xs => xs
  | n + 1, k, xs => mvD n (k - 1) (sw xs k (k - 1))
theorem mvD_ok {a b : Nat} : ∀ (n k : Nat) (xs : List α), a + n ≤ k → k < b → b ≤ xs.length → RP a b xs (mvD n k xs) ∧
    ∀ t, gt (mvD n k xs) t = if k < t + n ∧ t ≤ k ∧ 0 < t then gt xs (t - 1) else if t + n = k then gt xs k else gt xs t
  | 0, k, xs, _, _, _ => ⟨RP.refl _, fun t => by rw [mvD, if_neg (by omega)]; by_cases e : t + 0 = k <;> simp_all⟩
  | n + 1, k, xs, h1, h2, h3 => by
    rw [mvD]
    obtain ⟨a1, a2⟩ := mvD_ok (a := a) (b := b) n (k - 1) (sw xs k (k - 1)) (by omega) (by omega) (by rw [sw_len]; exact h3)
    refine ⟨(RP.sw ⟨by omega, by omega⟩ ⟨by omega, by omega⟩ h3).trans a1, fun t => ?_⟩
    have g : ∀ t, gt (sw xs k (k - 1)) t = if t = k - 1 then gt xs k else if t = k then gt xs (k - 1) else gt xs t := sw_gt (by omega) (by omega)
    rw [a2, g, g, g]
    (repeat' split) <;> first | omega | rfl | (congr 1; omega)

def swr : Nat → Nat → Nat → List α → List α
  | 0, _, _, xs => xs
  | n + 1, a, b, xs => swr n (a + 1) (b + 1) (sw xs a b)
theorem swr_ok {lo hi : Nat} : ∀ (n a b : Nat) (xs : List α), lo ≤ a → a + n ≤ b → b + n ≤ hi → hi ≤ xs.length → RP lo hi xs (swr n a b xs) ∧
    ∀ t, gt (swr n a b xs) t = if a ≤ t ∧ t < a + n then gt xs (t + (b - a)) else if b ≤ t ∧ t < b + n then gt xs (t - (b - a)) else gt xs t
  | 0, a, b, xs, _, _, _, _ => ⟨RP.refl _, fun t => by rw [swr, if_neg (by omega), if_neg (by omega)]⟩
  | n + 1, a, b, xs, h1, h2, h3, h4 => by
    rw [swr]
    obtain ⟨a1, a2⟩ := swr_ok (lo := lo) (hi := hi) n (a + 1) (b + 1) (sw xs a b) (by omega) (by omega) (by omega) (by rw [sw_len]; exact h4)
    refine ⟨(RP.sw ⟨by omega, by omega⟩ ⟨by omega, by omega⟩ h4).trans a1, fun t => ?_⟩
    have g : ∀ t, gt (sw xs a b) t = if t = b then gt xs a else if t = a then gt xs b else gt xs t := sw_gt (by omega) (by omega)
    have e0 : b + 1 - (a + 1) = b - a := by omega
    rw [a2, g, g, g, e0]
    (repeat' split) <;> first | omega | rfl | (congr 1; omega)

def rot : Nat → Nat → Nat → Nat → List α → List α
  | 0, _, _, _, xs => xs
  | f + 1, m, i, j, xs => cond (decide (i = j)) (swr i (m - i) m xs) (cond (decide (j < i)) (rot f m (i - j) j (swr j (m - i) m xs)) (rot f m i (j - i) (swr i (m - i) (m + j - i) xs)))
theorem rot_ok {lo up : Nat} : ∀ (f m i j : Nat) (xs : List α), i + j ≤ f → 0 < i → 0 < j → lo + i ≤ m → m + j ≤ up → up ≤ xs.length → RP lo up xs (rot f m i j xs) ∧
    ∀ t, gt (rot f m i j xs) t = if m - i ≤ t ∧ t < m - i + j then gt xs (t + i) else if m - i + j ≤ t ∧ t < m + j then gt xs (t - j) else gt xs t
  | 0, m, i, j, xs, hf, hi, hj, _, _, _ => by omega
  | f + 1, m, i, j, xs, hf, hi, hj, h1, h2, h3 => by
    rw [rot]
    by_cases e : i = j
    · rw [decide_eq_true e, cond_true]
      subst e
      obtain ⟨a1, a2⟩ := swr_ok (lo := lo) (hi := up) i (m - i) m xs (by omega) (by omega) (by omega) h3
      refine ⟨a1, fun t => ?_⟩
      have e0 : m - (m - i) = i := by omega
      have e1 : m - i + i = m := by omega
      rw [a2, e0, e1]
    · rw [decide_eq_false e, cond_false]
      by_cases e1 : j < i
      · rw [decide_eq_true e1, cond_true]
        obtain ⟨a1, a2⟩ := swr_ok (lo := lo) (hi := up) j (m - i) m xs (by omega) (by omega) (by omega) h3
        obtain ⟨b1, b2⟩ := rot_ok (lo := lo) (up := up) f m (i - j) j (swr j (m - i) m xs) (by omega) (by omega) hj (by omega) h2 (by rw [a1.len]; exact h3)
        refine ⟨a1.trans b1, fun t => ?_⟩
        have e0 : m - (m - i) = i := by omega
        rw [b2, a2, a2, a2, e0]
        (repeat' split) <;> first | omega | rfl | (congr 1; omega)
      · rw [decide_eq_false e1, cond_false]
        obtain ⟨a1, a2⟩ := swr_ok (lo := lo) (hi := up) i (m - i) (m + j - i) xs (by omega) (by omega) (by omega) h3
        obtain ⟨b1, b2⟩ := rot_ok (lo := lo) (up := up) f m i (j - i) (swr i (m - i) (m + j - i) xs) (by omega) hi (by omega) (by omega) (by omega) (by rw [a1.len]; exact h3)
        refine ⟨a1.trans b1, fun t => ?_⟩
        have e0 : m + j - i - (m - i) = j := by omega
        rw [b2, a2, a2, a2, e0]
        (repeat' split) <;> first | omega | rfl | (congr 1; omega)

variable (lt)
def symm : Nat → Nat → Nat → Nat → List α → List α
  | 0, _, _, _, xs => xs
  | f + 1, a, m, b, xs =>
    cond (decide (m - a = 1)) (mvU (bsr (fun h => lt (gt xs h) (gt xs a)) (b - m) m b - 1 - a) a xs)
    (cond (decide (b - m = 1)) (mvD (m - bsr (fun h => !lt (gt xs m) (gt xs h)) (m - a) a m) m xs)
    (let mid := (a + b) / 2
     let n := mid + m
     let s0 := cond (decide (mid < m)) (n - b) a
     let r0 := cond (decide (mid < m)) mid m
     let st := bsr (fun c => !lt (gt xs (n - 1 - c)) (gt xs c)) (r0 - s0) s0 r0
     let en := n - st
     let x1 := cond (decide (st < m) && decide (m < en)) (rot (en - st) m (m - st) (en - m) xs) xs
     let x2 := cond (decide (a < st) && decide (st < mid)) (symm f a st mid x1) x1
     cond (decide (mid < en) && decide (en < b)) (symm f mid en b x2) x2))
variable {lt}
theorem SR.le (o : Ord lt) {a b : Nat} {xs : List α} (h : SR lt a b xs) {i j : Nat} (h1 : a ≤ i) (h2 : i ≤ j) (h3 : j < b) : lt (gt xs j) (gt xs i) = false := by
  by_cases e : i = j
  · subst e
    cases h4 : lt (gt xs i) (gt xs i) with
    | false => rfl
    | true => exact (o.asym _ _ h4).symm.trans h4 ▸ rfl
  · exact h i j h1 (by omega) h3
theorem SR.mono {a b a' b' : Nat} {xs : List α} (h : SR lt a b xs) (h1 : a ≤ a') (h2 : b' ≤ b) : SR lt a' b' xs := fun i j hi hj hb => h i j (by omega) hj (by omega)
theorem SR.same {a b c d : Nat} {xs ys : List α} (h : SR lt a b xs) (r : RP c d xs ys) (hd : b ≤ c ∨ d ≤ a) : SR lt a b ys := fun i j hi hj hb => by
  rw [r.out i (by omega), r.out j (by omega)]
  exact h i j hi hj hb
theorem symm_A (o : Ord lt) {a m b : Nat} {xs : List α} (h1 : a < m) (h2 : m < b) (hl : b ≤ xs.length) (hb : SR lt m b xs) (hm : m - a = 1) :
    RP a b xs (mvU (bsr (fun h => lt (gt xs h) (gt xs a)) (b - m) m b - 1 - a) a xs) ∧ SR lt a b (mvU (bsr (fun h => lt (gt xs h) (gt xs a)) (b - m) m b - 1 - a) a xs) := by
  obtain ⟨r1, r2, r3, r4⟩ := bsr_ok (p := fun h => lt (gt xs h) (gt xs a)) (b - m) m b (by omega) (by omega)
  generalize bsr (fun h => lt (gt xs h) (gt xs a)) (b - m) m b = r at r1 r2 r3 r4 ⊢
  obtain ⟨c1, c2⟩ := mvU_ok (a := a) (b := b) (r - 1 - a) a xs (Nat.le_refl _) (by omega) hl
  refine ⟨c1, fun i j hi hj hjb => ?_⟩
  have e : a + (r - 1 - a) = r - 1 := by omega
  rw [c2, c2, e]
  by_cases q1 : j < r - 1
  · rw [if_pos ⟨by omega, q1⟩, if_pos ⟨hi, by omega⟩]
    exact hb.le o (by omega) (by omega) (by omega)
  · rw [if_neg (by omega)]
    by_cases q2 : j = r - 1
    · rw [if_pos q2, if_pos ⟨hi, by omega⟩]
      rcases r3 with e1 | e1
      · omega
      · exact o.tr _ _ _ (hb.le o (i := i + 1) (j := r - 1) (by omega) (by omega) (by omega)) (o.asym _ _ e1)
    · rw [if_neg q2]
      by_cases q3 : i < r - 1
      · rw [if_pos ⟨hi, q3⟩]
        exact hb.le o (by omega) (by omega) (by omega)
      · rw [if_neg (by omega)]
        by_cases q4 : i = r - 1
        · rw [if_pos q4]
          rcases r4 with e1 | e1
          · omega
          · exact o.tr _ _ _ e1 (hb.le o (i := r) (j := j) (by omega) (by omega) (by omega))
        · rw [if_neg q4]
          exact hb.le o (by omega) (by omega) (by omega)
theorem symm_B (o : Ord lt) {a m b : Nat} {xs : List α} (h1 : a < m) (h2 : m < b) (hl : b ≤ xs.length) (ha : SR lt a m xs) (hm : b - m = 1) :
    RP a b xs (mvD (m - bsr (fun h => !lt (gt xs m) (gt xs h)) (m - a) a m) m xs) ∧ SR lt a b (mvD (m - bsr (fun h => !lt (gt xs m) (gt xs h)) (m - a) a m) m xs) := by
  obtain ⟨r1, r2, r3, r4⟩ := bsr_ok (p := fun h => !lt (gt xs m) (gt xs h)) (m - a) a m (by omega) (by omega)
  generalize bsr (fun h => !lt (gt xs m) (gt xs h)) (m - a) a m = r at r1 r2 r3 r4 ⊢
  obtain ⟨c1, c2⟩ := mvD_ok (a := a) (b := b) (m - r) m xs (by omega) (by omega) hl
  refine ⟨c1, fun i j hi hj hjb => ?_⟩
  rw [c2, c2]
  by_cases q1 : j < r
  · rw [if_neg (by omega), if_neg (by omega), if_neg (by omega), if_neg (by omega)]
    exact ha.le o (by omega) (by omega) (by omega)
  · by_cases q2 : j = r
    · rw [if_neg (by omega), if_pos (by omega), if_neg (by omega), if_neg (by omega)]
      rcases r3 with e1 | e1
      · omega
      · exact o.tr _ _ _ (ha.le o (i := i) (j := r - 1) (by omega) (by omega) (by omega)) (by simpa using e1)
    · rw [if_pos (by omega)]
      by_cases q3 : i < r
      · rw [if_neg (by omega), if_neg (by omega)]
        exact ha.le o (by omega) (by omega) (by omega)
      · by_cases q4 : i = r
        · rw [if_neg (by omega), if_pos (by omega)]
          rcases r4 with e1 | e1
          · omega
          · exact o.tr _ _ _ (o.asym _ _ (by simpa using e1)) (ha.le o (i := r) (j := j - 1) (by omega) (by omega) (by omega))
        · rw [if_pos (by omega)]
          exact ha.le o (by omega) (by omega) (by omega)
theorem symm_ok (o : Ord lt) : ∀ (f a m b : Nat) (xs : List α), b - a ≤ f → a < m → m < b → b ≤ xs.length → SR lt a m xs → SR lt m b xs → RP a b xs (symm lt f a m b xs) ∧ SR lt a b (symm lt f a m b xs)
  | 0, a, m, b, xs, hf, h1, h2, _, _, _ => by omega
  | f + 1, a, m, b, xs, hf, h1, h2, hl, ha, hb => by
    rw [symm]
    by_cases c1 : m - a = 1
    · rw [decide_eq_true c1, cond_true]; exact symm_A o h1 h2 hl hb c1
    rw [decide_eq_false c1, cond_false]
    by_cases c2 : b - m = 1
    · rw [decide_eq_true c2, cond_true]; exact symm_B o h1 h2 hl ha c2
    rw [decide_eq_false c2, cond_false]
    dsimp only
    generalize hmid : (a + b) / 2 = mid
    generalize hs0 : cond (decide (mid < m)) (mid + m - b) a = s0
    generalize hr0 : cond (decide (mid < m)) mid m = r0
    have hm1 : a < mid ∧ mid < b := by omega
    have hs : (mid < m ∧ s0 = mid + m - b ∧ r0 = mid) ∨ (m ≤ mid ∧ s0 = a ∧ r0 = m) := by
      by_cases c : mid < m
      · rw [decide_eq_true c] at hs0 hr0; exact .inl ⟨c, hs0.symm, hr0.symm⟩
      · rw [decide_eq_false c] at hs0 hr0; exact .inr ⟨by omega, hs0.symm, hr0.symm⟩
    obtain ⟨r1, r2, r3, r4⟩ := bsr_ok (p := fun c => !lt (gt xs (mid + m - 1 - c)) (gt xs c)) (r0 - s0) s0 r0 (by omega) (by omega)
    generalize bsr (fun c => !lt (gt xs (mid + m - 1 - c)) (gt xs c)) (r0 - s0) s0 r0 = st at r1 r2 r3 r4 ⊢
    generalize hen : mid + m - st = en
    have k1 : st ≤ m ∧ m ≤ en ∧ st ≤ mid ∧ mid ≤ en ∧ a ≤ st ∧ en ≤ b := by omega
    generalize hx1 : cond (decide (st < m) && decide (m < en)) (rot (en - st) m (m - st) (en - m) xs) xs = x1
    have hx : RP a b xs x1 ∧ ∀ t, gt x1 t = if st ≤ t ∧ t < mid then gt xs (t + (m - st)) else if mid ≤ t ∧ t < en then gt xs (t - (en - m)) else gt xs t := by
      by_cases c3 : st < m ∧ m < en
      · rw [decide_eq_true c3.1, decide_eq_true c3.2] at hx1
        obtain ⟨d1, d2⟩ := rot_ok (lo := a) (up := b) (en - st) m (m - st) (en - m) xs (by omega) (by omega) (by omega) (by omega) (by omega) hl
        rw [← hx1]
        refine ⟨d1, fun t => ?_⟩
        have e1 : m - (m - st) = st := by omega
        have e2 : st + (en - m) = mid := by omega
        have e3 : m + (en - m) = en := by omega
        show gt (rot (en - st) m (m - st) (en - m) xs) t = _
        rw [d2, e1, e2, e3]
      · have e1 : (decide (st < m) && decide (m < en)) = false := by
          rw [← Bool.decide_and]; exact decide_eq_false c3
        rw [e1] at hx1
        rw [← hx1]
        refine ⟨RP.refl _, fun t => ?_⟩
        show gt xs t = _
        (repeat' split) <;> first | omega | rfl | (congr 1; omega)
    obtain ⟨hx2, hx3⟩ := hx
    have g1 : ∀ t, t < st → gt x1 t = gt xs t := fun t ht => by rw [hx3, if_neg (by omega), if_neg (by omega)]
    have g2 : ∀ t, st ≤ t → t < mid → gt x1 t = gt xs (t + (m - st)) := fun t h h' => by rw [hx3, if_pos ⟨h, h'⟩]
    have g3 : ∀ t, mid ≤ t → t < en → gt x1 t = gt xs (t - (en - m)) := fun t h h' => by rw [hx3, if_neg (by omega), if_pos ⟨h, h'⟩]
    have g4 : ∀ t, en ≤ t → gt x1 t = gt xs t := fun t h => by rw [hx3, if_neg (by omega), if_neg (by omega)]
    have s1 : SR lt a st x1 := fun i j hi hj hjb => by rw [g1 i (by omega), g1 j hjb]; exact ha.le o hi (by omega) (by omega)
    have s2 : SR lt st mid x1 := fun i j hi hj hjb => by rw [g2 i hi (by omega), g2 j (by omega) hjb]; exact hb.le o (by omega) (by omega) (by omega)
    have s3 : SR lt mid en x1 := fun i j hi hj hjb => by rw [g3 i hi (by omega), g3 j (by omega) hjb]; exact ha.le o (by omega) (by omega) (by omega)
    have s4 : SR lt en b x1 := fun i j hi hj hjb => by rw [g4 i hi, g4 j (by omega)]; exact hb.le o (by omega) (by omega) (by omega)
    have cross : ∀ i j, a ≤ i → i < mid → mid ≤ j → j < b → lt (gt x1 j) (gt x1 i) = false := by
      intro i j i1 i2 j1 j2
      by_cases ci : i < st
      · rw [g1 i ci]
        by_cases cj : j < en
        · rw [g3 j j1 cj]; exact ha.le o i1 (by omega) (by omega)
        · rw [g4 j (by omega)]
          rcases r3 with e | e
          · omega
          · have e2 : mid + m - 1 - (st - 1) = en := by omega
            rw [e2] at e
            have e3 : lt (gt xs en) (gt xs (st - 1)) = false := by simpa using e
            exact o.tr _ _ _ (o.tr _ _ _ (ha.le o (i := i) (j := st - 1) i1 (by omega) (by omega)) e3) (hb.le o (i := en) (j := j) (by omega) (by omega) j2)
      · rw [g2 i (by omega) i2]
        by_cases cj : j < en
        · rw [g3 j j1 cj]
          rcases r4 with e | e
          · omega
          · have e2 : mid + m - 1 - st = en - 1 := by omega
            rw [e2] at e
            have e3 : lt (gt xs (en - 1)) (gt xs st) = true := by simpa using e
            exact o.tr _ _ _ (o.tr _ _ _ (hb.le o (i := i + (m - st)) (j := en - 1) (by omega) (by omega) (by omega)) (o.asym _ _ e3)) (ha.le o (i := st) (j := j - (en - m)) (by omega) (by omega) (by omega))
        · rw [g4 j (by omega)]; exact hb.le o (by omega) (by omega) j2
    generalize hy : cond (decide (a < st) && decide (st < mid)) (symm lt f a st mid x1) x1 = x2
    have hx4 : RP a mid x1 x2 ∧ SR lt a mid x2 := by
      by_cases c3 : a < st ∧ st < mid
      · rw [decide_eq_true c3.1, decide_eq_true c3.2] at hy
        rw [← hy]
        exact symm_ok o f a st mid x1 (by omega) c3.1 c3.2 (by rw [hx2.len]; omega) s1 s2
      · have e1 : (decide (a < st) && decide (st < mid)) = false := by
          rw [← Bool.decide_and]; exact decide_eq_false c3
        rw [e1] at hy
        rw [← hy]
        refine ⟨RP.refl _, ?_⟩
        show SR lt a mid x1
        by_cases c4 : a = st
        · rw [c4]; exact s2
        · have c5 : mid = st := by omega
          rw [c5]; exact s1
    obtain ⟨p1, p2⟩ := hx4
    have hx5 : RP mid b x2 (cond (decide (mid < en) && decide (en < b)) (symm lt f mid en b x2) x2) ∧ SR lt mid b (cond (decide (mid < en) && decide (en < b)) (symm lt f mid en b x2) x2) := by
      by_cases c3 : mid < en ∧ en < b
      · rw [decide_eq_true c3.1, decide_eq_true c3.2]
        exact symm_ok o f mid en b x2 (by omega) c3.1 c3.2 (by rw [p1.len, hx2.len]; omega) (s3.same p1 (.inr (Nat.le_refl _))) (s4.same p1 (.inr (by omega)))
      · have e1 : (decide (mid < en) && decide (en < b)) = false := by
          rw [← Bool.decide_and]; exact decide_eq_false c3
        rw [e1]
        refine ⟨RP.refl _, ?_⟩
        show SR lt mid b x2
        by_cases c4 : mid = en
        · rw [c4]; exact s4.same p1 (.inr (by omega))
        · have c5 : b = en := by omega
          rw [c5]; exact s3.same p1 (.inr (Nat.le_refl _))
    obtain ⟨p3, p4⟩ := hx5
    refine ⟨(hx2.trans (p1.mono (Nat.le_refl _) (by omega))).trans (p3.mono (by omega) (Nat.le_refl _)), fun i j hi hj hjb => ?_⟩
    by_cases c3 : j < mid
    · rw [p3.out i (by omega), p3.out j (by omega)]; exact p2 i j hi hj c3
    · by_cases c4 : mid ≤ i
      · exact p4 i j c4 hj hjb
      · obtain ⟨i', i1, i2, i3⟩ := p1.inn i hi (by omega)
        obtain ⟨j', j1, j2, j3⟩ := p3.inn j (by omega) hjb
        rw [p3.out i (by omega), i3, j3, p1.out j' (by omega)]
        exact cross i' j' i1 i2 j1 j2

variable (lt)
def blk (n : Nat) : Nat → Nat → List α → List α
  | 0, a, xs => insL lt a (n - a - 1) (a + 1) xs
  | f + 1, a, xs => cond (decide (a + 20 ≤ n)) (blk n f (a + 20) (insL lt a 19 (a + 1) xs)) (insL lt a (n - a - 1) (a + 1) xs)
def mrg (n w : Nat) : Nat → Nat → List α → List α
  | 0, _, xs => xs
  | f + 1, a, xs => cond (decide (a + 2 * w ≤ n)) (mrg n w f (a + 2 * w) (symm lt (2 * w) a (a + w) (a + 2 * w) xs)) (cond (decide (a + w < n)) (symm lt (n - a) a (a + w) n xs) xs)
def mlev (n : Nat) : Nat → Nat → List α → List α
  | 0, _, xs => xs
  | f + 1, w, xs => cond (decide (w < n)) (mlev n f (2 * w) (mrg lt n w (n + 1) 0 xs)) xs
/-- The library's stable sort. -/
def stb (xs : List α) : List α := mlev lt xs.length (xs.length + 1) 20 (blk lt xs.length (xs.length + 1) 0 xs)
variable {lt}
theorem SR.one {a b : Nat} {xs : List α} (h : b ≤ a + 1) : SR lt a b xs := fun i j _ _ _ => by omega
theorem dvd_gap {w c a : Nat} (h1 : w ∣ c) (h2 : w ∣ a) (h : c < a) : c + w ≤ a := by
  obtain ⟨k, rfl⟩ := h1
  obtain ⟨l, rfl⟩ := h2
  have : k < l := by
    apply Nat.lt_of_not_le
    intro hh
    have := Nat.mul_le_mul_left w hh
    omega
  have h3 := Nat.mul_le_mul_left w (show k + 1 ≤ l from this)
  rw [Nat.mul_add] at h3
  omega
theorem blk_ok (o : Ord lt) {n : Nat} : ∀ (f a : Nat) (xs : List α), n ≤ f + a → a ≤ n → xs.length = n → 20 ∣ a → (∀ c, 20 ∣ c → c < a → SR lt c (c + 20) xs) →
    RP 0 n xs (blk lt n f a xs) ∧ ∀ c, 20 ∣ c → SR lt c (min (c + 20) n) (blk lt n f a xs) := by
  have last : ∀ (a : Nat) (xs : List α), a ≤ n → n < a + 20 → xs.length = n → 20 ∣ a → (∀ c, 20 ∣ c → c < a → SR lt c (c + 20) xs) → RP 0 n xs (insL lt a (n - a - 1) (a + 1) xs) ∧ ∀ c, 20 ∣ c → SR lt c (min (c + 20) n) (insL lt a (n - a - 1) (a + 1) xs) := by
    intro a xs h1 h2 h3 h4 h5
    by_cases e : a = n
    · have e1 : n - a - 1 = 0 := by omega
      rw [e1]
      refine ⟨RP.refl _, fun c hc => ?_⟩
      by_cases c1 : c < a
      · exact (h5 c hc c1).mono (Nat.le_refl _) (by omega)
      · exact SR.one (by omega)
    · obtain ⟨a1, a2⟩ := insL_ok o (a := a) (n - a - 1) (a + 1) xs (by omega) (by omega) (SR.one (by omega))
      have e1 : a + 1 + (n - a - 1) = n := by omega
      rw [e1] at a1 a2
      refine ⟨a1.mono (by omega) (Nat.le_refl _), fun c hc => ?_⟩
      by_cases c1 : c < a
      · have := dvd_gap hc h4 c1
        exact ((h5 c hc c1).same a1 (.inl (by omega))).mono (Nat.le_refl _) (by omega)
      · by_cases c2 : c = a
        · subst c2; exact a2.mono (Nat.le_refl _) (by omega)
        · have := dvd_gap h4 hc (by omega)
          exact SR.one (by omega)
  intro f
  induction f with
  | zero => intro a xs h1 h2 h3 h4 h5; exact last a xs h2 (by omega) h3 h4 h5
  | succ f ih =>
    intro a xs h1 h2 h3 h4 h5
    rw [blk]
    by_cases c : a + 20 ≤ n
    · rw [decide_eq_true c, cond_true]
      obtain ⟨a1, a2⟩ := insL_ok o (a := a) 19 (a + 1) xs (by omega) (by omega) (SR.one (by omega))
      obtain ⟨b1, b2⟩ := ih (a + 20) (insL lt a 19 (a + 1) xs) (by omega) c (by rw [a1.len]; exact h3) (by omega) (fun d hd hda => by
        by_cases c1 : d < a
        · have := dvd_gap hd h4 c1
          exact (h5 d hd c1).same a1 (.inl (by omega))
        · have : d = a := by omega
          subst this
          exact a2)
      exact ⟨(a1.mono (by omega) (by omega)).trans b1, b2⟩
    · rw [decide_eq_false c, cond_false]
      exact last a xs h2 (by omega) h3 h4 h5
theorem mrg_ok (o : Ord lt) {n w : Nat} (hw : 0 < w) : ∀ (f a : Nat) (xs : List α), n < f + a → a ≤ n → xs.length = n → 2 * w ∣ a → (∀ c, 2 * w ∣ c → c < a → SR lt c (min (c + 2 * w) n) xs) → (∀ c, w ∣ c → a ≤ c → SR lt c (min (c + w) n) xs) →
    RP 0 n xs (mrg lt n w f a xs) ∧ ∀ c, 2 * w ∣ c → SR lt c (min (c + 2 * w) n) (mrg lt n w f a xs)
  | 0, a, xs, h1, h2, _, _, _, _ => by omega
  | f + 1, a, xs, h1, h2, h3, h4, h5, h6 => by
    have d0 : w ∣ a := Nat.dvd_trans (Nat.dvd_mul_left w 2) h4
    have d1 : w ∣ a + w := Nat.dvd_add d0 (Nat.dvd_refl w)
    rw [mrg]
    by_cases c : a + 2 * w ≤ n
    · rw [decide_eq_true c, cond_true]
      have q1 := (h6 a d0 (Nat.le_refl _)).mono (b' := a + w) (Nat.le_refl _) (by omega)
      have q2 := (h6 (a + w) d1 (by omega)).mono (b' := a + 2 * w) (Nat.le_refl _) (by omega)
      obtain ⟨a1, a2⟩ := symm_ok o (2 * w) a (a + w) (a + 2 * w) xs (by omega) (by omega) (by omega) (by omega) q1 q2
      obtain ⟨b1, b2⟩ := mrg_ok o hw f (a + 2 * w) (symm lt (2 * w) a (a + w) (a + 2 * w) xs) (by omega) c (by rw [a1.len]; exact h3) (Nat.dvd_add h4 (Nat.dvd_refl _))
        (fun d hd hda => by
          by_cases c1 : d < a
          · have := dvd_gap hd h4 c1
            exact (h5 d hd c1).same a1 (.inl (by omega))
          · by_cases c2 : d = a
            · subst c2; exact a2.mono (Nat.le_refl _) (by omega)
            · have := dvd_gap h4 hd (by omega)
              omega)
        (fun d hd hda => (h6 d hd (by omega)).same a1 (.inr (by omega)))
      exact ⟨(a1.mono (by omega) (by omega)).trans b1, b2⟩
    · rw [decide_eq_false c, cond_false]
      by_cases c3 : a + w < n
      · rw [decide_eq_true c3, cond_true]
        have q1 := (h6 a d0 (Nat.le_refl _)).mono (b' := a + w) (Nat.le_refl _) (by omega)
        have q2 := (h6 (a + w) d1 (by omega)).mono (b' := n) (Nat.le_refl _) (by omega)
        obtain ⟨a1, a2⟩ := symm_ok o (n - a) a (a + w) n xs (by omega) (by omega) (by omega) (by omega) q1 q2
        refine ⟨a1.mono (by omega) (Nat.le_refl _), fun d hd => ?_⟩
        by_cases c1 : d < a
        · have := dvd_gap hd h4 c1
          exact (h5 d hd c1).same a1 (.inl (by omega))
        · by_cases c2 : d = a
          · subst c2; exact a2.mono (Nat.le_refl _) (by omega)
          · have := dvd_gap h4 hd (by omega)
            exact SR.one (by omega)
      · rw [decide_eq_false c3, cond_false]
        refine ⟨RP.refl _, fun d hd => ?_⟩
        by_cases c1 : d < a
        · exact h5 d hd c1
        · by_cases c2 : d = a
          · subst c2; exact (h6 d d0 (Nat.le_refl _)).mono (Nat.le_refl _) (by omega)
          · have := dvd_gap h4 hd (by omega)
            exact SR.one (by omega)
theorem mlev_ok (o : Ord lt) {n : Nat} : ∀ (f w : Nat) (xs : List α), 0 < w → n < f + w → xs.length = n → (∀ c, w ∣ c → SR lt c (min (c + w) n) xs) → RP 0 n xs (mlev lt n f w xs) ∧ SR lt 0 n (mlev lt n f w xs)
  | 0, w, xs, h0, h1, h2, h3 => ⟨RP.refl _, (h3 0 (Nat.dvd_zero _)).mono (Nat.le_refl _) (by omega)⟩
  | f + 1, w, xs, h0, h1, h2, h3 => by
    rw [mlev]
    by_cases c : w < n
    · rw [decide_eq_true c, cond_true]
      obtain ⟨a1, a2⟩ := mrg_ok o h0 (n + 1) 0 xs (by omega) (by omega) h2 (Nat.dvd_zero _) (fun d _ hd => by omega) (fun d hd _ => h3 d hd)
      obtain ⟨b1, b2⟩ := mlev_ok o f (2 * w) _ (by omega) (by omega) (by rw [a1.len]; exact h2) a2
      exact ⟨a1.trans b1, b2⟩
    · rw [decide_eq_false c, cond_false]
      exact ⟨RP.refl _, (h3 0 (Nat.dvd_zero _)).mono (Nat.le_refl _) (by omega)⟩
theorem stb_ok (o : Ord lt) (xs : List α) : (stb lt xs).Perm xs ∧ (stb lt xs).Pairwise (fun x y => lt y x = false) := by
  unfold stb
  obtain ⟨a1, a2⟩ := blk_ok o (n := xs.length) (xs.length + 1) 0 xs (by omega) (by omega) rfl (Nat.dvd_zero _) (fun c _ h => by omega)
  obtain ⟨b1, b2⟩ := mlev_ok o (n := xs.length) (xs.length + 1) 20 _ (by omega) (by omega) a1.len a2
  refine ⟨b1.perm.trans a1.perm, ?_⟩
  rw [List.pairwise_iff_getElem]
  intro i j hi hj hij
  have hl := b1.len.trans a1.len
  have := b2 i j (Nat.zero_le _) hij (by omega)
  rw [gt_at hi, gt_at hj] at this
  exact this
end
end Go.Proofs.YtfdaaliffcfjjaaGreatDoor
