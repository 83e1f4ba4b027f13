/-
  One element of a slice of the call's own, taken out to be read and written, and put back.
-/
import Derived.Test.YtlnblljlkeokjaaGreatVcD
namespace Go.Proofs.YtlnblljlkeokjaaGreat
open Go.RowKit

section
variable {α : Type}
/-- A slice of the call's own, its element k taken out: ck are the element's cells. -/
def iFoc (E : Ty α) (e : TypeId) (A : Option Addr) (n c : Nat) (xs : List α) (k : Nat) (ck : List Value) : It where
  P := fun w L => ∃ g cur pre post spare L1 L2, A = some ⟨g, 0, none⟩ ∧ w.heap[g]? = some (.cells cur e (0, 0)) ∧ n = xs.length ∧ k < n ∧ n ≤ c ∧ c ≤ maxLen ∧ cur.size = c * E.sz ∧ cur.toList = pre ++ (ck ++ (post ++ spare)) ∧ ck.length = E.sz ∧ L = g :: (L1 ++ L2) ∧ Els E w L1 pre (xs.take k) ∧ Els E w L2 post (xs.drop (k + 1))
  keep := by
    rintro w w' _ ⟨g, cur, pre, post, spare, L1, L2, h1, h2, h3, h4, h5, h6, h7, h8, h9, rfl, h10, h11⟩ hk
    exact ⟨g, cur, pre, post, spare, L1, L2, h1, (hk g (by simp)).trans h2, h3, h4, h5, h6, h7, h8, h9, rfl, h10.keep fun b hb => hk b (by simp [hb]), h11.keep fun b hb => hk b (by simp [hb])⟩
  lt := by
    rintro w _ ⟨g, cur, pre, post, spare, L1, L2, h1, h2, h3, h4, h5, h6, h7, h8, h9, rfl, h10, h11⟩ b hb
    rcases List.mem_cons.1 hb with rfl | hb
    · exact (Array.getElem?_eq_some_iff.1 h2).1
    · rcases List.mem_append.1 hb with hb | hb
      · exact h10.lt b hb
      · exact h11.lt b hb

variable {P : Program} {N B : Nat} {w0 : World} {Q : Exit → Act → World → Prop} {L : List (Nat × Value)} {is js : List It} {E : Ty α} {e : TypeId}

theorem Mem.perm {w : World} {i1 i2 : It} (h : Mem B w0 (i1 :: is) w) (hp : ∀ L, i1.P w L → ∃ L', i2.P w L' ∧ L'.Perm L) : Mem B w0 (i2 :: is) w := by
  obtain ⟨_, ⟨L1, L2, rfl, h1, h2⟩, h3, h4⟩ := h.sep
  obtain ⟨L', k1, k2⟩ := hp L1 h1
  exact ⟨h.base, h.below, L' ++ L2, ⟨L', L2, rfl, k1, h2⟩, (k2.append_right L2).nodup_iff.2 h3, fun b hb => h4 b ((k2.append_right L2).mem_iff.1 hb)⟩
theorem focus_sep [Inhabited α] {w : World} {A : Option Addr} {n c k : Nat} {xs : List α} (hk : k < n) {L : List Nat} (h : (tSl E e).own w L [.slice A n c] xs) : ∃ ck L', Sep [iOwn E ck (gt xs k), iFoc E e A n c xs k ck] w L' ∧ L'.Perm L := by
  obtain ⟨v, ev, cells, L', rfl, hrow, hels⟩ := h
  cases ev
  rcases hrow.2 with ⟨h1, h0⟩ | ⟨g, cap, cur, hv, _, hcur, hnc, hcm, hcs, htake⟩
  · cases h1; omega
  cases hv
  obtain ⟨K1, K2, d1, d2, rfl, hd, k1, k2⟩ := Els.split (xs := xs.take k) (ys := xs.drop k) (by rw [List.take_append_drop]; exact hels)
  rw [List.drop_eq_getElem_cons hk] at k2
  obtain ⟨M1, M2, m1, m2, rfl, rfl, k3, k4⟩ := k2
  have hg : xs[k] = gt xs k := by simp [gt, List.getD, hk]
  refine ⟨m1, M1 ++ (g :: (K1 ++ M2)), ⟨M1, _, rfl, by rw [← hg]; exact k3, g :: (K1 ++ M2), [], by simp, ⟨g, cur, d1, m2, cur.toList.drop (xs.length * E.sz), K1, M2, rfl, hcur, rfl, hk, hnc, hcm, hcs, ?_, E.own_len k3, rfl, k1, k4⟩, rfl⟩, ?_⟩
  · have : cur.toList = cur.toList.take (xs.length * E.sz) ++ cur.toList.drop (xs.length * E.sz) := (List.take_append_drop _ _).symm
    rw [htake, hd] at this
    simpa using this
  · simp only [Value.ownBlock, Option.toList, List.cons_append, List.nil_append]
    refine (List.perm_middle).trans (List.Perm.cons g ?_)
    rw [← List.append_assoc, ← List.append_assoc]
    exact List.Perm.append_right M2 List.perm_append_comm
theorem unfocus_sep {w : World} {A : Option Addr} {n c k : Nat} {xs : List α} {x : α} {ck : List Value} {L : List Nat} (h : Sep [iOwn E ck x, iFoc E e A n c xs k ck] w L) : ∃ L', (tSl E e).own w L' [.slice A n c] (xs.set k x) ∧ L'.Perm L := by
  obtain ⟨M1, _, rfl, k3, _, _, rfl, ⟨g, cur, pre, post, spare, L1, L2, rfl, hcur, rfl, hk, hnc, hcm, hcs, hcl, hck, rfl, k1, k4⟩, h0⟩ := h
  cases (Sep.nil h0)
  have e1 : xs.set k x = xs.take k ++ (x :: xs.drop (k + 1)) := by rw [List.set_eq_take_append_cons_drop, if_pos hk]
  have l1 := k1.len
  have l2 := k4.len
  rw [List.length_take, Nat.min_eq_left (by omega)] at l1
  rw [List.length_drop] at l2
  have hl : (pre ++ (ck ++ post)).length = xs.length * E.sz := by
    have hm1 : k * E.sz + E.sz + (xs.length - (k + 1)) * E.sz = (k + 1 + (xs.length - (k + 1))) * E.sz := by rw [Nat.add_mul, Nat.add_mul, Nat.one_mul]
    have hm2 : k + 1 + (xs.length - (k + 1)) = xs.length := by omega
    rw [hm2] at hm1
    rw [List.length_append, List.length_append, l1, l2, hck]; omega
  refine ⟨g :: (L1 ++ (M1 ++ L2)), ⟨_, rfl, pre ++ (ck ++ post), L1 ++ (M1 ++ L2), rfl, ?_, ?_⟩, ?_⟩
  · rw [List.length_set]
    refine ⟨hl, .inr ⟨g, c, cur, rfl, Nat.zero_le _, hcur, hnc, hcm, hcs, ?_⟩⟩
    rw [hcl, ← hl]
    have : pre ++ (ck ++ (post ++ spare)) = (pre ++ (ck ++ post)) ++ spare := by simp
    rw [this, List.take_left]
  · rw [e1]
    exact Els.append k1 ⟨M1, L2, ck, post, rfl, rfl, k3, k4⟩
  · rw [List.append_nil]
    refine List.Perm.symm ((List.perm_middle).trans (List.Perm.cons g ?_))
    rw [← List.append_assoc, ← List.append_assoc]
    exact List.Perm.append_right L2 List.perm_append_comm
theorem Mem.unfocus {w : World} {A : Option Addr} {n c k : Nat} {xs : List α} {x : α} {ck : List Value} (h : Mem B w0 (iOwn E ck x :: iFoc E e A n c xs k ck :: js) w) : Mem B w0 (iOwn (tSl E e) [.slice A n c] (xs.set k x) :: js) w := by
  have h' : Mem B w0 (iSep [iOwn E ck x, iFoc E e A n c xs k ck] :: js) w := Mem.group (is := [iOwn E ck x, iFoc E e A n c xs k ck]) (js := js) h
  exact h'.perm fun L hL => unfocus_sep hL
theorem Mem.focCells {w : World} {g n c k i : Nat} {xs : List α} {ck : List Value} (h : Mem B w0 is w) (hi : is[i]? = some (iFoc E e (some ⟨g, 0, none⟩) n c xs k ck)) {s : Nat} (hs : E.sz = s) : ∀ j u, ck[j]? = some u → w.cell? (((⟨g, 0, none⟩ : Addr).add (k * s)).add j) = some u := fun j u hu => by
  obtain ⟨_, ⟨g', cur, pre, post, spare, L1, L2, he, hcur, rfl, hk, hnc, hcm, hcs, hcl, hck, rfl, k1, k4⟩, _⟩ := h.get hi
  cases he
  subst hs
  have l1 := k1.len
  rw [List.length_take, Nat.min_eq_left (by omega)] at l1
  rw [add_add']
  have hlt : j < ck.length := (List.getElem?_eq_some_iff.1 hu).1
  have hc : cur[k * E.sz + j]? = some u := by
    rw [← Array.getElem?_toList, hcl, List.getElem?_append_right (by omega), List.getElem?_append_left (by omega), ← hu]
    congr 1; omega
  unfold Addr.add
  split
  · rename_i h0; rw [h0] at hc; simp [World.cell?, hcur, hc]
  · simp [World.cell?, hcur, hc]
theorem set_gt [Inhabited α] {xs : List α} {k : Nat} (h : k < xs.length) : xs.set k (gt xs k) = xs := by
  have : gt xs k = xs[k] := by simp [gt, List.getD, h]
  rw [this, List.set_getElem_self]
theorem Mem.unfocus0 [Inhabited α] {w : World} {A : Option Addr} {n c k : Nat} {xs : List α} {ck : List Value} (h : Mem B w0 (iOwn E ck (gt xs k) :: iFoc E e A n c xs k ck :: js) w) : Mem B w0 (iOwn (tSl E e) [.slice A n c] xs :: js) w := by
  have hk : k < xs.length := by
    obtain ⟨_, ⟨_, _, _, _, _, _, _, _, _, rfl, hk, _⟩, _⟩ := h.get (n := 1) rfl
    exact hk
  have h2 := h.unfocus
  rwa [set_gt hk] at h2
/-! a statement whose ways meet again behind it -/
def Cut {σ : Type} (N B : Nat) (w0 : World) (Lx : σ → List (Nat × Value)) (Ix : σ → List It) (Hx : σ → Prop) (Q : Exit → Act → World → Prop) : Exit → Act → World → Prop
  | .normal, a, w => ∃ s, Fr N (Lx s) a ∧ Mem B w0 (Ix s) w ∧ Hx s
  | e, a, w => Q e a w
theorem CM_cut {σ : Type} {c : Code} (Lx : σ → List (Nat × Value)) (Ix : σ → List It) (Hx : σ → Prop) (h1 : CM P N B w0 c (Cut N B w0 Lx Ix Hx Q) L is) (h2 : ∀ s, Hx s → QM N B w0 Q .normal (Lx s) (Ix s)) : CM P N B w0 c Q L is := fun w hw a ha =>
  wp_mono (h1 w hw a ha) fun ex a' w' hq => by
    cases ex with
    | normal =>
      obtain ⟨s, k1, k2, k3⟩ := hq
      exact h2 s k3 w' k2 a' k1
    | exit id => exact hq
    | goto l => exact hq
    | ret => exact hq
    | panic ch => exact hq
    | outgrown => exact hq
theorem QM_cut_normal {σ : Type} {Lx : σ → List (Nat × Value)} {Ix : σ → List It} {Hx : σ → Prop} (s : σ) (hs : subL (Lx s) L) (hi : ∀ w, Mem B w0 is w → Mem B w0 (Ix s) w) (hH : Hx s) : QM N B w0 (Cut N B w0 Lx Ix Hx Q) .normal L is := fun w hw _ ha => ⟨s, ha.sub hs, hi w hw, hH⟩
end
end Go.Proofs.YtlnblljlkeokjaaGreat

