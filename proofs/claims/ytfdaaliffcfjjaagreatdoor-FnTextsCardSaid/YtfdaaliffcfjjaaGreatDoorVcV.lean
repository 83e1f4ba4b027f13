/-
  Steps of the stable sort, as its loops take them.
-/
import Derived.Test.YtfdaaliffcfjjaaGreatDoorVcU
namespace Go.Proofs.YtfdaaliffcfjjaaGreatDoor
open Go.RowKit

section
variable {α : Type} [Inhabited α]
/-- The order that a comparison gives. -/
def ltc {α β : Type} (c : α → α → Int) (x y : β × α) : Bool := decide (c x.2 y.2 < 0)
variable {lt : α → α → Bool} {xs : List α}
theorem insL_step {a b i : Nat} (h : i < b) : insL lt a (b - i) i xs = insL lt a (b - (i + 1)) (i + 1) (ins1 lt a i xs) := by
  rw [show b - i = (b - (i + 1)) + 1 by omega, insL]
theorem insL_end {a b i : Nat} (h : ¬ i < b) : insL lt a (b - i) i xs = xs := by
  rw [show b - i = 0 by omega, insL]
theorem ins1_t {a j : Nat} (h : a < j) (h2 : lt (gt xs j) (gt xs (j - 1)) = true) : ins1 lt a j xs = ins1 lt a (j - 1) (sw xs j (j - 1)) := by
  obtain ⟨k, rfl⟩ : ∃ k, j = k + 1 := ⟨j - 1, by omega⟩
  rw [Nat.add_sub_cancel] at h2 ⊢
  rw [ins1, decide_eq_true h, h2]; rfl
theorem ins1_f {a j : Nat} (h : ¬ (a < j ∧ lt (gt xs j) (gt xs (j - 1)) = true)) : ins1 lt a j xs = xs := by
  cases j with
  | zero => rfl
  | succ k =>
    rw [ins1]
    rw [Nat.add_sub_cancel] at h
    by_cases h1 : a < k + 1
    · have h2 : lt (gt xs (k + 1)) (gt xs k) = false := by
        cases e : lt (gt xs (k + 1)) (gt xs k) with
        | false => rfl
        | true => exact absurd ⟨h1, e⟩ h
      rw [h2, Bool.and_false]; rfl
    · rw [decide_eq_false h1]; rfl
theorem swr_step {n a b i : Nat} (h : i < n) : swr (n - i) (a + i) (b + i) xs = swr (n - (i + 1)) (a + (i + 1)) (b + (i + 1)) (sw xs (a + i) (b + i)) := by
  rw [show n - i = (n - (i + 1)) + 1 by omega, swr]; rfl
theorem swr_end {n a b i : Nat} (h : ¬ i < n) : swr (n - i) (a + i) (b + i) xs = xs := by
  rw [show n - i = 0 by omega, swr]
theorem mvU_step {k t : Nat} (h : k < t) : mvU (t - k) k xs = mvU (t - (k + 1)) (k + 1) (sw xs k (k + 1)) := by
  rw [show t - k = (t - (k + 1)) + 1 by omega, mvU]
theorem mvU_end {k t : Nat} (h : ¬ k < t) : mvU (t - k) k xs = xs := by
  rw [show t - k = 0 by omega, mvU]
theorem mvD_step {k t : Nat} (h : t < k) : mvD (k - t) k xs = mvD (k - 1 - t) (k - 1) (sw xs k (k - 1)) := by
  rw [show k - t = (k - 1 - t) + 1 by omega, mvD]
theorem mvD_end {k t : Nat} (h : ¬ t < k) : mvD (k - t) k xs = xs := by
  rw [show k - t = 0 by omega, mvD]
theorem bsr_t {p : Nat → Bool} {f i j : Nat} (h : i < j) (hf : j ≤ f + i) (hp : p ((i + j) / 2) = true) : bsr p f i j = bsr p (f - 1) ((i + j) / 2 + 1) j := by
  obtain ⟨g, rfl⟩ : ∃ g, f = g + 1 := ⟨f - 1, by omega⟩
  rw [bsr, decide_eq_true h, hp]; rfl
theorem bsr_f {p : Nat → Bool} {f i j : Nat} (h : i < j) (hf : j ≤ f + i) (hp : p ((i + j) / 2) = false) : bsr p f i j = bsr p (f - 1) i ((i + j) / 2) := by
  obtain ⟨g, rfl⟩ : ∃ g, f = g + 1 := ⟨f - 1, by omega⟩
  rw [bsr, decide_eq_true h, hp]; rfl
theorem bsr_e {p : Nat → Bool} {f i j : Nat} (h : ¬ i < j) : bsr p f i j = i := by
  cases f with
  | zero => rfl
  | succ f => rw [bsr, decide_eq_false h]; rfl
theorem rot_gt {f m i j : Nat} (h : j < i) (hf : i + j ≤ f) : rot f m i j xs = rot (f - 1) m (i - j) j (swr j (m - i) m xs) := by
  obtain ⟨g, rfl⟩ : ∃ g, f = g + 1 := ⟨f - 1, by omega⟩
  rw [rot, decide_eq_false (show ¬ i = j by omega), decide_eq_true h]; rfl
theorem rot_lt {f m i j : Nat} (h : i < j) (hf : i + j ≤ f) : rot f m i j xs = rot (f - 1) m i (j - i) (swr i (m - i) (m + j - i) xs) := by
  obtain ⟨g, rfl⟩ : ∃ g, f = g + 1 := ⟨f - 1, by omega⟩
  rw [rot, decide_eq_false (show ¬ i = j by omega), decide_eq_false (show ¬ j < i by omega)]; rfl
theorem rot_eq {f m i j : Nat} (h : i = j) (hf : i + j ≤ f) (hi : 0 < i) : rot f m i j xs = swr i (m - i) m xs := by
  obtain ⟨g, rfl⟩ : ∃ g, f = g + 1 := ⟨f - 1, by omega⟩
  rw [rot, decide_eq_true h]; rfl
theorem blk_step {n f a : Nat} (h : a + 20 ≤ n) (hf : n ≤ f + a) : blk lt n f a xs = blk lt n (f - 1) (a + 20) (insL lt a (a + 20 - a - 1) (a + 1) xs) := by
  obtain ⟨g, rfl⟩ : ∃ g, f = g + 1 := ⟨f - 1, by omega⟩
  rw [blk, decide_eq_true h, show a + 20 - a - 1 = 19 by omega]; rfl
theorem blk_end {n f a : Nat} (h : ¬ a + 20 ≤ n) : blk lt n f a xs = insL lt a (n - a - 1) (a + 1) xs := by
  cases f with
  | zero => rfl
  | succ f => rw [blk, decide_eq_false h]; rfl
theorem mrg_step {n w f a : Nat} (h : a + 2 * w ≤ n) (hf : n < f + a) : mrg lt n w f a xs = mrg lt n w (f - 1) (a + 2 * w) (symm lt (2 * w) a (a + w) (a + 2 * w) xs) := by
  obtain ⟨g, rfl⟩ : ∃ g, f = g + 1 := ⟨f - 1, by omega⟩
  rw [mrg, decide_eq_true h]; rfl
theorem mrg_end {n w f a : Nat} (h : ¬ a + 2 * w ≤ n) (hf : n < f + a) (ha : a ≤ n) : mrg lt n w f a xs = cond (decide (a + w < n)) (symm lt (n - a) a (a + w) n xs) xs := by
  obtain ⟨g, rfl⟩ : ∃ g, f = g + 1 := ⟨f - 1, by omega⟩
  rw [mrg, decide_eq_false h]; rfl
theorem mlev_step {n f w : Nat} (h : w < n) (hf : n < f + w) : mlev lt n f w xs = mlev lt n (f - 1) (w * 2) (mrg lt n w (n + 1) 0 xs) := by
  obtain ⟨g, rfl⟩ : ∃ g, f = g + 1 := ⟨f - 1, by omega⟩
  rw [mlev, decide_eq_true h, Nat.mul_comm w 2]; rfl
theorem mlev_end {n f w : Nat} (h : ¬ w < n) : mlev lt n f w xs = xs := by
  cases f with
  | zero => rfl
  | succ f => rw [mlev, decide_eq_false h]; rfl
theorem cond_and_t {β : Type} {p q : Prop} [Decidable p] [Decidable q] {x y : β} (h1 : p) (h2 : q) : cond (decide p && decide q) x y = x := by rw [decide_eq_true h1, decide_eq_true h2]; rfl
theorem cond_and_f {β : Type} {p q : Prop} [Decidable p] [Decidable q] {x y : β} (h : ¬ (p ∧ q)) : cond (decide p && decide q) x y = y := by rw [← Bool.decide_and, decide_eq_false h]; rfl
theorem symm_a {f a m b : Nat} (h : m - a = 1) : symm lt (f + 1) a m b xs = mvU (bsr (fun h => lt (gt xs h) (gt xs a)) (b - m) m b - 1 - a) a xs := by
  rw [symm, decide_eq_true h]; rfl
theorem symm_b {f a m b : Nat} (h : ¬ m - a = 1) (h2 : b - m = 1) : symm lt (f + 1) a m b xs = mvD (m - bsr (fun h => !lt (gt xs m) (gt xs h)) (m - a) a m) m xs := by
  rw [symm, decide_eq_false h, decide_eq_true h2]; rfl
theorem symm_c {f a m b mid n s0 r0 st en : Nat} {x1 x2 x3 : List α} (h : ¬ m - a = 1) (h2 : ¬ b - m = 1) (hmid : mid = (a + b) / 2) (hn : n = mid + m)
    (hs0 : s0 = cond (decide (mid < m)) (n - b) a) (hr0 : r0 = cond (decide (mid < m)) mid m) (hst : st = bsr (fun c => !lt (gt xs (n - 1 - c)) (gt xs c)) (r0 - s0) s0 r0) (hen : en = n - st)
    (e1 : x1 = cond (decide (st < m) && decide (m < en)) (rot (en - st) m (m - st) (en - m) xs) xs) (e2 : x2 = cond (decide (a < st) && decide (st < mid)) (symm lt f a st mid x1) x1)
    (e3 : x3 = cond (decide (mid < en) && decide (en < b)) (symm lt f mid en b x2) x2) : symm lt (f + 1) a m b xs = x3 := by
  subst hmid hn hs0 hr0 hst hen e1 e2 e3
  rw [symm, decide_eq_false h, decide_eq_false h2]; rfl
end
end Go.Proofs.YtfdaaliffcfjjaaGreatDoor
