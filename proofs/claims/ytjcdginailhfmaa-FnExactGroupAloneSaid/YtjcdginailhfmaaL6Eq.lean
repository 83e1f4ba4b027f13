/-
  The program and the reference compute the same: plain laws over what the walks showed.
-/
import Derived.Test.YtjcdginailhfmaaL6Law
namespace Go.Proofs.Ytjcdginailhfmaa
open Go.RowKit
theorem rngb_as {R S : Type} {b : Nat → S → R ⊕ S} {b' : Nat → S → R ⊕ (S ⊕ S)} (h : ∀ j s, b' j s = Sum.elim Sum.inl (fun s => Sum.inr (Sum.inr s)) (b j s)) : ∀ m k s, rngb b' m k s = rng b m k s
  | 0, _, _ => rfl
  | m + 1, k, s => by
    rw [rngb, rng, h]
    cases b k s with
    | inl r => rfl
    | inr s' => exact rngb_as h m (k + 1) s'
def sameK (q v : Int) (g : DGroup) : Bool := g.Query == q && g.Value == v
theorem sameK_iff {q v : Int} {g : DGroup} : sameK q v g = true ↔ g.Query = q ∧ g.Value = v := by
  unfold sameK; rw [Bool.and_eq_true, beq_iff_eq, beq_iff_eq]
def gcnt (S : List DGroup) (q v : Int) : Nat := (S.filter (sameK q v)).length
def gsum (q v : Int) : List DGroup → Int
  | [] => 0
  | g :: S => (if sameK q v g = true then g.Sum else 0) + gsum q v S
theorem gsum_append (q v : Int) : ∀ S T, gsum q v (S ++ T) = gsum q v S + gsum q v T
  | [], T => by simp [gsum]
  | g :: S, T => by rw [List.cons_append, gsum, gsum, gsum_append q v S T]; omega
theorem gsum_perm (q v : Int) {S T : List DGroup} (h : S.Perm T) : gsum q v S = gsum q v T := by
  induction h with
  | nil => rfl
  | cons x _ ih => rw [gsum, gsum, ih]
  | swap x y l => rw [gsum, gsum, gsum, gsum]; omega
  | trans _ _ h1 h2 => rw [h1, h2]
theorem gsum_zero {q v : Int} : ∀ {S : List DGroup}, gcnt S q v = 0 → gsum q v S = 0
  | [], _ => rfl
  | g :: S, h => by
    unfold gcnt at h
    rw [List.filter_cons] at h
    by_cases e : sameK q v g = true
    · rw [if_pos e] at h; simp at h
    · rw [if_neg e] at h
      rw [gsum, if_neg e, gsum_zero (S := S) h]; rfl
theorem gcnt_snoc (S : List DGroup) (s : DGroup) (q v : Int) : gcnt (S ++ [s]) q v = gcnt S q v + (if sameK q v s = true then 1 else 0) := by
  unfold gcnt
  rw [List.filter_append, List.length_append, List.filter_cons]
  by_cases e : sameK q v s = true
  · rw [if_pos e, if_pos e]; rfl
  · rw [if_neg e, if_neg e]; rfl
theorem gsum_snoc (S : List DGroup) (s : DGroup) (q v : Int) : gsum q v (S ++ [s]) = gsum q v S + (if sameK q v s = true then s.Sum else 0) := by
  rw [gsum_append, gsum, gsum]; omega
theorem gcnt_pos {S : List DGroup} {q v : Int} (h : 0 < gcnt S q v) : ∃ s ∈ S, s.Query = q ∧ s.Value = v := by
  unfold gcnt at h
  obtain ⟨s, hs⟩ := List.exists_mem_of_length_pos h
  rw [List.mem_filter, sameK_iff] at hs
  exact ⟨s, hs.1, hs.2⟩
structure Canon (S out : List DGroup) : Prop where
  ord : out.Pairwise keyR
  val : ∀ g ∈ out, 0 < gcnt S g.Query g.Value ∧ g.Count = IntKind.i64.wrap (gcnt S g.Query g.Value) ∧ g.Sum = IntKind.i64.wrap (gsum g.Query g.Value S)
  all : ∀ s ∈ S, ∃ g ∈ out, g.Query = s.Query ∧ g.Value = s.Value
theorem keyR_as : ∀ x y : DGroup, keyR x y → ¬ keyR y x := fun x y => by unfold keyR; omega
theorem keyR_tr : ∀ x y z : DGroup, keyR x y → keyR y z → keyR x z := fun x y z => by unfold keyR; omega
theorem Canon.unique {S a b : List DGroup} (h : Canon S a) (k : Canon S b) : a = b := by
  have key : ∀ {a b : List DGroup}, Canon S a → Canon S b → ∀ z ∈ a, z ∈ b := fun {a b} h k z hz => by
    obtain ⟨h1, h2, h3⟩ := h.val z hz
    obtain ⟨s, hs, e1, e2⟩ := gcnt_pos h1
    obtain ⟨g, hg, e3, e4⟩ := k.all s hs
    obtain ⟨_, k2, k3⟩ := k.val g hg
    have e5 : g.Query = z.Query := e3.trans e1
    have e6 : g.Value = z.Value := e4.trans e2
    rw [e5, e6] at k2 k3
    have : g = z := by
      cases g; cases z; simp only at *
      subst e5; subst e6; rw [k2, k3, h2, h3]
    rw [← this]; exact hg
  exact strict_eq keyR_as keyR_tr h.ord k.ord fun z => ⟨key h k z, key k h z⟩
theorem Canon.perm {S T out : List DGroup} (hp : S.Perm T) (h : Canon S out) : Canon T out := by
  have e : ∀ q v, gcnt S q v = gcnt T q v := fun q v => (hp.filter _).length_eq
  exact ⟨h.ord, fun g hg => by rw [← e, ← gsum_perm _ _ hp]; exact h.val g hg, fun s hs => h.all s (hp.mem_iff.2 hs)⟩
theorem Canon.nil : Canon [] [] := ⟨List.Pairwise.nil, fun g hg => (by cases hg), fun s hs => (by cases hs)⟩
theorem wrap_l (a b : Int) : IntKind.i64.wrap (IntKind.i64.wrap a + b) = IntKind.i64.wrap (a + b) := by simp only [IntKind.wrap_i64]; omega
theorem Canon.bump {S out : List DGroup} {s : DGroup} {j : Nat} (h : Canon S out) (hj : j < out.length) (e1 : (gt out j).Query = s.Query) (e2 : (gt out j).Value = s.Value) :
    Canon (S ++ [s]) (out.set j ⟨(gt out j).Query, (gt out j).Value, IntKind.i64.wrap ((gt out j).Count + 1), IntKind.i64.wrap ((gt out j).Sum + s.Sum)⟩) := by
  have hord := h.ord
  rw [List.pairwise_iff_getElem] at hord
  have hg : gt out j = out[j] := gt_at hj
  refine ⟨?_, fun g hgm => ?_, fun t ht => ?_⟩
  · rw [List.pairwise_iff_getElem]
    intro a b ha hb hab
    rw [List.length_set] at ha hb
    have := hord a b ha hb hab
    rw [List.getElem_set, List.getElem_set]
    unfold keyR at this ⊢
    by_cases c1 : j = a
    · subst c1; rw [if_pos rfl, if_neg (by omega)]; rw [← hg] at this; exact this
    · rw [if_neg c1]
      by_cases c2 : j = b
      · subst c2; rw [if_pos rfl]; rw [← hg] at this; exact this
      · rw [if_neg c2]; exact this
  · obtain ⟨i, hi, rfl⟩ := List.getElem_of_mem hgm
    rw [List.length_set] at hi
    rw [List.getElem_set]
    by_cases c : j = i
    · rw [if_pos c]
      obtain ⟨q1, q2, q3⟩ := h.val (gt out j) (gt_mem hj)
      have hk : sameK (gt out j).Query (gt out j).Value s = true := sameK_iff.2 ⟨e1.symm, e2.symm⟩
      refine ⟨?_, ?_, ?_⟩
      · show 0 < gcnt (S ++ [s]) (gt out j).Query (gt out j).Value
        rw [gcnt_snoc]; omega
      · show IntKind.i64.wrap ((gt out j).Count + 1) = IntKind.i64.wrap (gcnt (S ++ [s]) (gt out j).Query (gt out j).Value : Nat)
        rw [gcnt_snoc, if_pos hk, q2, wrap_l]; rfl
      · show IntKind.i64.wrap ((gt out j).Sum + s.Sum) = IntKind.i64.wrap (gsum (gt out j).Query (gt out j).Value (S ++ [s]))
        rw [gsum_snoc, if_pos hk, q3, wrap_l]
    · rw [if_neg c]
      have hk : ¬ sameK out[i].Query out[i].Value s = true := fun hk => by
        obtain ⟨k1, k2⟩ := sameK_iff.1 hk
        rcases Nat.lt_or_gt_of_ne c with hlt | hlt
        · have := hord j i hj hi hlt; rw [← hg] at this; unfold keyR at this; omega
        · have := hord i j hi hj hlt; rw [← hg] at this; unfold keyR at this; omega
      rw [gcnt_snoc, gsum_snoc, if_neg hk, if_neg hk]
      have := h.val out[i] (List.getElem_mem hi)
      simpa using this
  · have hmem : ∃ g ∈ out, g.Query = t.Query ∧ g.Value = t.Value := by
      rcases List.mem_append.1 ht with ht | ht
      · exact h.all t ht
      · rw [List.mem_singleton.1 ht]; exact ⟨gt out j, gt_mem hj, e1, e2⟩
    obtain ⟨g, hgm, k1, k2⟩ := hmem
    obtain ⟨i, hi, rfl⟩ := List.getElem_of_mem hgm
    have hm := List.getElem_mem (l := out.set j (⟨(gt out j).Query, (gt out j).Value, IntKind.i64.wrap ((gt out j).Count + 1), IntKind.i64.wrap ((gt out j).Sum + s.Sum)⟩ : DGroup)) (n := i) (by rw [List.length_set]; exact hi)
    refine ⟨_, hm, ?_⟩
    rw [List.getElem_set]
    by_cases c : j = i
    · subst c; rw [if_pos rfl]; rw [← hg] at k1 k2; exact ⟨k1, k2⟩
    · rw [if_neg c]; exact ⟨k1, k2⟩
theorem Canon.ins {S l1 l2 : List DGroup} {s : DGroup} (h : Canon S (l1 ++ l2)) (h1 : ∀ g ∈ l1, keyR g s) (h2 : ∀ g ∈ l2, keyR s g) (hs : 0 ≤ s.Sum ∧ s.Sum ≤ 99) : Canon (S ++ [s]) (l1 ++ [⟨s.Query, s.Value, 1, s.Sum⟩] ++ l2) := by
  have hne : ∀ g ∈ l1 ++ l2, ¬ sameK g.Query g.Value s = true := fun g hg hk => by
    obtain ⟨k1, k2⟩ := sameK_iff.1 hk
    rcases List.mem_append.1 hg with hg | hg
    · have := h1 g hg; unfold keyR at this; omega
    · have := h2 g hg; unfold keyR at this; omega
  have hz : gcnt S s.Query s.Value = 0 := by
    apply Nat.eq_zero_of_not_pos
    intro hp
    obtain ⟨t, ht, e1, e2⟩ := gcnt_pos hp
    obtain ⟨g, hg, e3, e4⟩ := h.all t ht
    exact hne g hg (sameK_iff.2 ⟨by omega, by omega⟩)
  have ho := h.ord
  rw [List.pairwise_append] at ho
  have hmem : ∀ g, g ∈ l1 ++ [(⟨s.Query, s.Value, 1, s.Sum⟩ : DGroup)] ++ l2 ↔ g ∈ l1 ++ l2 ∨ g = ⟨s.Query, s.Value, 1, s.Sum⟩ := fun g => by
    simp only [List.mem_append, List.mem_singleton]
    constructor
    · rintro ((a | a) | a) <;> simp [a]
    · rintro ((a | a) | a) <;> simp [a]
  refine ⟨?_, fun g hg => ?_, fun t ht => ?_⟩
  · rw [List.pairwise_append, List.pairwise_append]
    refine ⟨⟨ho.1, List.pairwise_singleton _ _, fun a ha b hb => ?_⟩, ho.2.1, fun a ha b hb => ?_⟩
    · rw [List.mem_singleton.1 hb]; exact h1 a ha
    · rcases List.mem_append.1 ha with ha | ha
      · exact ho.2.2 a ha b hb
      · rw [List.mem_singleton.1 ha]; exact h2 b hb
  · rcases (hmem g).1 hg with hg | rfl
    · rw [gcnt_snoc, gsum_snoc, if_neg (hne g hg), if_neg (hne g hg)]
      have := h.val g hg
      simpa using this
    · have hk : sameK s.Query s.Value s = true := sameK_iff.2 ⟨rfl, rfl⟩
      refine ⟨?_, ?_, ?_⟩
      · show 0 < gcnt (S ++ [s]) s.Query s.Value
        rw [gcnt_snoc, if_pos hk]; omega
      · show (1 : Int) = IntKind.i64.wrap (gcnt (S ++ [s]) s.Query s.Value : Nat)
        rw [gcnt_snoc, if_pos hk, hz]; rfl
      · show s.Sum = IntKind.i64.wrap (gsum s.Query s.Value (S ++ [s]))
        rw [gsum_snoc, if_pos hk, gsum_zero hz]
        simp only [IntKind.wrap_i64]; omega
  · rcases List.mem_append.1 ht with ht | ht
    · obtain ⟨g, hg, e⟩ := h.all t ht
      exact ⟨g, (hmem g).2 (.inl hg), e⟩
    · rw [List.mem_singleton.1 ht]
      exact ⟨_, (hmem _).2 (.inr rfl), rfl, rfl⟩
theorem foldl_cat {α β : Type} (F : α → List β) : ∀ (xs : List α) (d : List β), xs.foldl (fun d a => d ++ F a) d = d ++ xs.flatMap F
  | [], d => by simp
  | x :: xs, d => by rw [List.foldl_cons, foldl_cat F xs]; simp
def gmk (a : DAnnotated) (f s : Int) (id : Int) : DGroup := ⟨id, gt a.Row.Values f.toNat, 1, gt a.Row.Values s.toNat⟩
def sglF (f s : Int) (a : DAnnotated) : List DGroup := cond (spec_IsRow_m a.Row) (a.Set.map (gmk a f s)) []
def sgl (x : List DAnnotated) (f s : Int) : List DGroup := x.flatMap (sglF f s)
theorem impl_sgl (x : List DAnnotated) (f s : Int) : rng (R := List DGroup) (fun k d => impl_GroupShared_b1 x f s k d) (x.length - 0) 0 [] = .inr (sgl x f s) := by
  rw [rng_fold (xs := x) (f := fun d a => d ++ sglF f s a) (b := fun k d => impl_GroupShared_b1 x f s k d) (fun j d _ => by
    unfold impl_GroupShared_b1 sglF
    rw [IsRow_same]
    cases spec_IsRow_m (gt x j).Row with
    | false => rw [cond_false, cond_false, List.append_nil]
    | true =>
      rw [cond_true, cond_true, rng_fold (xs := (gt x j).Set) (f := fun d id => d ++ [gmk (gt x j) f s id]) (b := fun k d => impl_GroupShared_b2 x f s j k d) (fun i d _ => rfl), foldl_map]
      rfl), foldl_cat]
  rfl
theorem groups_eq0 (x y : DGroup) : (impl_compareGroups_m x y == 0) = decide (x.Query = y.Query ∧ x.Value = y.Value) := by
  unfold impl_compareGroups_m
  rw [cmp_int, cmp_int]
  by_cases h : x.Query = y.Query
  · rw [show (x.Query != y.Query) = false from by rw [h]; exact bne_self_eq_false _]
    show ((if x.Value < y.Value then (-1 : Int) else if y.Value < x.Value then 1 else 0) == 0) = _
    by_cases h1 : x.Value < y.Value
    · rw [if_pos h1, decide_eq_false (by omega)]; rfl
    · rw [if_neg h1]; by_cases h2 : y.Value < x.Value
      · rw [if_pos h2, decide_eq_false (by omega)]; rfl
      · rw [if_neg h2, decide_eq_true (by omega)]; rfl
  · rw [bne_iff_ne.2 h, decide_eq_false (by omega)]
    show ((if x.Query < y.Query then (-1 : Int) else if y.Query < x.Query then 1 else 0) == 0) = _
    by_cases h1 : x.Query < y.Query
    · rw [if_pos h1]; rfl
    · rw [if_neg h1, if_pos (by omega)]; rfl
def okG (g : DGroup) : Prop := g.Count = 1 ∧ 0 ≤ g.Sum ∧ g.Sum ≤ 99
theorem impl_merge {T : List DGroup} (hT : T.Pairwise fun a b => ¬ keyR b a) (hS : ∀ g ∈ T, okG g) : ∃ d, rng (R := List DGroup) (fun k (s : List DGroup × List DGroup) => impl_GroupShared_b3 k s.1 s.2) (T.length - 0) 0 ([], T) = .inr (d, T) ∧ Canon T d := by
  obtain ⟨⟨d, T'⟩, h1, h2, h3⟩ := rng_inv (R := List DGroup) (body := fun k (s : List DGroup × List DGroup) => impl_GroupShared_b3 k s.1 s.2) (n := T.length) (fun k s => s.2 = T ∧ Canon (T.take k) s.1) (fun k s hk ⟨e, hc⟩ => by
    obtain ⟨d, T'⟩ := s
    have e' : T' = T := e
    subst e'
    have hc' : Canon (T'.take k) d := hc
    have ht : T'.take (k + 1) = T'.take k ++ [gt T' k] := by rw [List.take_add_one, List.getElem?_eq_getElem hk, ← gt_at hk]; rfl
    obtain ⟨g1, g2⟩ := hS _ (gt_mem hk)
    have hle : ∀ g ∈ d, ¬ keyR (gt T' k) g := fun g hg => by
      obtain ⟨q1, _, _⟩ := hc'.val g hg
      obtain ⟨s, hs, e1, e2⟩ := gcnt_pos q1
      obtain ⟨i, hi, rfl⟩ := List.getElem_of_mem hs
      rw [List.length_take] at hi
      rw [List.getElem_take] at e1 e2
      rw [List.pairwise_iff_getElem] at hT
      have := hT i k (by omega) hk (by omega)
      rw [gt_at hk]
      unfold keyR at this ⊢
      omega
    have hmk : (⟨(gt T' k).Query, (gt T' k).Value, 1, (gt T' k).Sum⟩ : DGroup) = gt T' k := by rw [← g1]
    have hins : ∀ (hl : ∀ g ∈ d, keyR g (gt T' k)), Canon (T'.take (k + 1)) (d ++ [gt T' k]) := fun hl => by
      have := Canon.ins (l1 := d) (l2 := []) (s := gt T' k) (by rw [List.append_nil]; exact hc') hl (fun g hg => by cases hg) g2
      rw [List.append_nil, hmk, ← ht] at this
      exact this
    show ∃ s', impl_GroupShared_b3 k d T' = .inr s' ∧ s'.2 = T' ∧ Canon (T'.take (k + 1)) s'.1
    unfold impl_GroupShared_b3
    by_cases hd : 0 < d.length
    · rw [decide_eq_true (show 0 < ((d.length : Nat) : Int) by omega), cond_true, groups_eq0]
      by_cases hk2 : (gt d (d.length - 1)).Query = (gt T' k).Query ∧ (gt d (d.length - 1)).Value = (gt T' k).Value
      · rw [decide_eq_true hk2]
        refine ⟨_, rfl, rfl, ?_⟩
        rw [ht]
        exact Canon.bump hc' (by omega) hk2.1 hk2.2
      · rw [decide_eq_false hk2]
        refine ⟨_, rfl, rfl, hins fun g hg => ?_⟩
        have hlast : keyR (gt d (d.length - 1)) (gt T' k) := by
          have := hle _ (gt_mem (show d.length - 1 < d.length by omega))
          unfold keyR at this ⊢; omega
        obtain ⟨i, hi, rfl⟩ := List.getElem_of_mem hg
        by_cases hi2 : i = d.length - 1
        · subst hi2; rw [← gt_at hi]; exact hlast
        · have ho := hc'.ord
          rw [List.pairwise_iff_getElem] at ho
          have := ho i (d.length - 1) hi (by omega) (by omega)
          rw [← gt_at (show d.length - 1 < d.length by omega)] at this
          exact keyR_tr _ _ _ this hlast
    · rw [decide_eq_false (show ¬ 0 < ((d.length : Nat) : Int) by omega)]
      refine ⟨_, rfl, rfl, hins fun g hg => ?_⟩
      rw [List.length_eq_zero_iff.1 (show d.length = 0 by omega)] at hg; cases hg) (T.length - 0) 0 ([], T) (by omega) ⟨rfl, by rw [List.take_zero]; exact Canon.nil⟩
  have h2' : T' = T := h2
  subst h2'
  rw [List.take_length] at h3
  exact ⟨d, h1, h3⟩
theorem put_while (out : List DGroup) (q v : Int) : ∀ (m k s : Nat), s ≤ out.length → out.length < m + s → ∃ s', rngb (R := List DGroup) (fun k (s : Nat) => spec_l14Put_b2 out q v k s) m k s = .inr s' ∧ s ≤ s' ∧ s' ≤ out.length ∧ (∀ i, s ≤ i → i < s' → (gt out i).Query < q ∨ ((gt out i).Query = q ∧ (gt out i).Value < v)) ∧ (s' = out.length ∨ ¬ ((gt out s').Query < q ∨ ((gt out s').Query = q ∧ (gt out s').Value < v)))
  | 0, _, s, h1, h2 => by omega
  | m + 1, k, s, h1, h2 => by
    have stop : ∀ (hb : spec_l14Put_b2 out q v k s = .inr (.inl s)) (hq : s = out.length ∨ ¬ ((gt out s).Query < q ∨ ((gt out s).Query = q ∧ (gt out s).Value < v))), ∃ s', rngb (R := List DGroup) (fun k (s : Nat) => spec_l14Put_b2 out q v k s) (m + 1) k s = .inr s' ∧ s ≤ s' ∧ s' ≤ out.length ∧ (∀ i, s ≤ i → i < s' → (gt out i).Query < q ∨ ((gt out i).Query = q ∧ (gt out i).Value < v)) ∧ (s' = out.length ∨ ¬ ((gt out s').Query < q ∨ ((gt out s').Query = q ∧ (gt out s').Value < v))) := fun hb hq =>
      ⟨s, by rw [rngb, hb]; rfl, Nat.le_refl _, h1, fun i a b => by omega, hq⟩
    have go : ∀ (hb : spec_l14Put_b2 out q v k s = .inr (.inr (s + 1))) (hs : s < out.length) (hq : (gt out s).Query < q ∨ ((gt out s).Query = q ∧ (gt out s).Value < v)), ∃ s', rngb (R := List DGroup) (fun k (s : Nat) => spec_l14Put_b2 out q v k s) (m + 1) k s = .inr s' ∧ s ≤ s' ∧ s' ≤ out.length ∧ (∀ i, s ≤ i → i < s' → (gt out i).Query < q ∨ ((gt out i).Query = q ∧ (gt out i).Value < v)) ∧ (s' = out.length ∨ ¬ ((gt out s').Query < q ∨ ((gt out s').Query = q ∧ (gt out s').Value < v))) := fun hb hs hq => by
      obtain ⟨s', a1, a2, a3, a4, a5⟩ := put_while out q v m (k + 1) (s + 1) (by omega) (by omega)
      refine ⟨s', by rw [rngb, hb]; exact a1, by omega, a3, fun i b1 b2 => ?_, a5⟩
      by_cases e : i = s
      · subst e; exact hq
      · exact a4 i (by omega) b2
    by_cases c0 : s < out.length
    · by_cases c1 : (gt out s).Query < q
      · exact go (by unfold spec_l14Put_b2; rw [decide_eq_true (show ((s : Nat) : Int) < ((out.length : Nat) : Int) by omega), decide_eq_true c1]; rfl) c0 (.inl c1)
      · by_cases c2 : (gt out s).Query = q
        · by_cases c3 : (gt out s).Value < v
          · exact go (by unfold spec_l14Put_b2; rw [decide_eq_true (show ((s : Nat) : Int) < ((out.length : Nat) : Int) by omega), decide_eq_false c1, beq_iff_eq.2 c2, decide_eq_true c3]; rfl) c0 (.inr ⟨c2, c3⟩)
          · exact stop (by unfold spec_l14Put_b2; rw [decide_eq_true (show ((s : Nat) : Int) < ((out.length : Nat) : Int) by omega), decide_eq_false c1, beq_iff_eq.2 c2, decide_eq_false c3]; rfl) (.inr (by omega))
        · exact stop (by unfold spec_l14Put_b2; rw [decide_eq_true (show ((s : Nat) : Int) < ((out.length : Nat) : Int) by omega), decide_eq_false c1, beq_eq_false_iff_ne.2 c2]; rfl) (.inr (by omega))
    · exact stop (by unfold spec_l14Put_b2; rw [decide_eq_false (show ¬ ((s : Nat) : Int) < ((out.length : Nat) : Int) by omega)]; rfl) (.inl (by omega))
theorem put_canon {S out : List DGroup} (h : Canon S out) (s : DGroup) (hs : 0 ≤ s.Sum ∧ s.Sum ≤ 99) : Canon (S ++ [s]) (spec_l14Put_m out s.Query s.Value s.Sum) := by
  unfold spec_l14Put_m
  rcases rng_find (P := fun r : List DGroup => Canon (S ++ [s]) r) (n := out.length) (b := fun k (_ : Unit) => spec_l14Put_b1 out s.Query s.Value s.Sum k) (fun j hj => by
    show (∃ r, spec_l14Put_b1 out s.Query s.Value s.Sum j = .inl r ∧ _) ∨ spec_l14Put_b1 out s.Query s.Value s.Sum j = .inr ()
    unfold spec_l14Put_b1
    by_cases c1 : (gt out j).Query = s.Query
    · by_cases c2 : (gt out j).Value = s.Value
      · rw [beq_iff_eq.2 c1, beq_iff_eq.2 c2]; exact .inl ⟨_, rfl, Canon.bump h hj c1 c2⟩
      · rw [beq_eq_false_iff_ne.2 c2]; exact .inr (by cases ((gt out j).Query == s.Query) <;> rfl)
    · rw [beq_eq_false_iff_ne.2 c1]; exact .inr rfl) (out.length - 0) 0 (by omega) with ⟨r, e1, e2⟩ | e1
  · rw [e1]; exact e2
  · have hno : ∀ j, j < out.length → ¬ ((gt out j).Query = s.Query ∧ (gt out j).Value = s.Value) := fun j hj ⟨c1, c2⟩ => by
      have := rng_noneU _ _ e1 j (Nat.zero_le _) (by omega)
      have h2 : spec_l14Put_b1 out s.Query s.Value s.Sum j = .inr () := this
      unfold spec_l14Put_b1 at h2
      rw [beq_iff_eq.2 c1, beq_iff_eq.2 c2] at h2
      cases h2
    obtain ⟨p, a1, a2, a3, a4, a5⟩ := put_while out s.Query s.Value (out.length + 1 - 0) 0 0 (Nat.zero_le _) (by omega)
    rw [e1, a1]
    have ho := h.ord
    rw [List.pairwise_iff_getElem] at ho
    show Canon (S ++ [s]) (List.take p out ++ [⟨s.Query, s.Value, 1, s.Sum⟩] ++ List.drop p out)
    refine Canon.ins (by rw [List.take_append_drop]; exact h) (fun g hg => ?_) (fun g hg => ?_) hs
    · obtain ⟨i, hi, rfl⟩ := List.getElem_of_mem hg
      rw [List.length_take] at hi
      rw [List.getElem_take, ← gt_at (show i < out.length by omega)]
      exact a4 i (Nat.zero_le _) (by omega)
    · obtain ⟨i, hi, rfl⟩ := List.getElem_of_mem hg
      rw [List.length_drop] at hi
      rw [List.getElem_drop, ← gt_at (show p + i < out.length by omega)]
      have hp : p < out.length := by omega
      have hfirst : keyR s (gt out p) := by
        rcases a5 with a5 | a5
        · omega
        · have := hno p hp; unfold keyR; omega
      by_cases hi0 : i = 0
      · subst hi0; exact hfirst
      · have := ho p (p + i) hp (by omega) (by omega)
        rw [← gt_at hp, ← gt_at (show p + i < out.length by omega)] at this
        exact keyR_tr _ _ _ hfirst this
def putg (d : List DGroup) (g : DGroup) : List DGroup := spec_l14Put_m d g.Query g.Value g.Sum
theorem foldl_canon : ∀ (l S out : List DGroup), Canon S out → (∀ g ∈ l, okG g) → Canon (S ++ l) (l.foldl putg out)
  | [], S, out, h, _ => by rw [List.append_nil]; exact h
  | g :: l, S, out, h, hl => by
    have := foldl_canon l (S ++ [g]) (putg out g) (put_canon h g (hl g (by simp)).2) (fun z hz => hl z (List.mem_cons_of_mem _ hz))
    rw [List.append_assoc] at this
    exact this
theorem foldl_flatMap2 {α : Type} (F : α → List DGroup) : ∀ (xs : List α) (d : List DGroup), xs.foldl (fun d a => (F a).foldl putg d) d = (xs.flatMap F).foldl putg d
  | [], d => rfl
  | x :: xs, d => by rw [List.foldl_cons, foldl_flatMap2 F xs, List.flatMap_cons, List.foldl_append]
theorem IsRow_vals {r : DRow} (h : spec_IsRow_m r = true) : ∀ y ∈ r.Values, 0 ≤ y ∧ y ≤ 99 := by
  unfold spec_IsRow_m at h
  rw [rng_allB (xs := r.Values) (p := fun y => spec_l1In_m y 0 99) (r := false) (fun k _ => by
    unfold spec_IsRow_b1
    cases spec_l1In_m (gt r.Values k) 0 99 <;> rfl)] at h
  intro y hy
  cases ha : r.Values.all (fun y => spec_l1In_m y 0 99) with
  | false => rw [ha] at h; cases h
  | true => exact spec_l1In_fact (List.all_eq_true.1 ha y hy)
theorem sgl_ok {x : List DAnnotated} {f s : Int} (h : spec_l14Fine_m f s = true) : ∀ g ∈ sgl x f s, okG g := fun g hg => by
  obtain ⟨a, _, hga⟩ := List.mem_flatMap.1 hg
  unfold sglF at hga
  obtain ⟨_, hs⟩ := spec_Fine_fact h
  cases hr : spec_IsRow_m a.Row with
  | false => rw [hr] at hga; cases hga
  | true =>
    rw [hr] at hga
    obtain ⟨id, _, rfl⟩ := List.mem_map.1 hga
    have hl := spec_IsRow_len hr
    exact ⟨rfl, IsRow_vals hr _ (gt_mem (by omega))⟩
theorem fine_and (f s : Int) : spec_l14Fine_m f s = (impl_isField_m f && impl_isField_m s) := by
  unfold spec_l14Fine_m; rw [cb_and]; rfl
theorem impl_Shared_form {x : List DAnnotated} {f s : Int} (h : spec_l14Fine_m f s = true) : impl_GroupShared_m x f s = (sgl x f s).foldl putg [] := by
  have hf := (fine_and f s).symm
  rw [h, Bool.and_eq_true] at hf
  unfold impl_GroupShared_m
  rw [hf.1, hf.2, cond_true, cond_true, impl_sgl]
  have hst := stb_ok impl_compareGroups_ord (sgl x f s)
  have hT : (stb (lt0 impl_compareGroups_m) (sgl x f s)).Pairwise fun a b => ¬ keyR b a := hst.2.imp fun {a b} hab => by
    intro hk; rw [(groups_lt b a).2 hk] at hab; cases hab
  obtain ⟨d, h1, h2⟩ := impl_merge hT (fun g hg => sgl_ok h g (hst.1.mem_iff.1 hg))
  have hl : (stb (lt0 impl_compareGroups_m) (sgl x f s)).length = (sgl x f s).length := hst.1.length_eq
  rw [hl] at h1
  show Sum.elim id (fun (s : List DGroup × List DGroup) => s.1) (rng (R := List DGroup) (fun k (s : List DGroup × List DGroup) => impl_GroupShared_b3 k s.1 s.2) ((sgl x f s).length - 0) 0 ([], stb (lt0 impl_compareGroups_m) (sgl x f s))) = _
  rw [h1]
  have h3 := foldl_canon (sgl x f s) [] [] Canon.nil (sgl_ok h)
  rw [List.nil_append] at h3
  exact Canon.unique (Canon.perm hst.1 h2) h3
theorem impl_Shared_false {x : List DAnnotated} {f s : Int} (h : spec_l14Fine_m f s = false) : impl_GroupShared_m x f s = [] := by
  have hf := fine_and f s
  rw [h] at hf
  unfold impl_GroupShared_m
  cases h1 : impl_isField_m f with
  | false => rfl
  | true =>
    rw [h1] at hf
    have h2 : impl_isField_m s = false := hf.symm
    rw [h2]; rfl
theorem putg_len : ∀ (l d : List DGroup), (l.foldl putg d).length ≤ d.length + l.length
  | [], d => by simp
  | g :: l, d => by
    have h1 := putg_len l (putg d g)
    have h2 := spec_Put_len d g.Query g.Value g.Sum
    have e : (putg d g).length ≤ d.length + 1 := h2
    rw [List.foldl_cons, List.length_cons]; omega
theorem sgl_len (x : List DAnnotated) (f s : Int) : (sgl x f s).length ≤ (x.map fun (a : DAnnotated) => a.Set.length).sum := by
  unfold sgl
  induction x with
  | nil => exact Nat.zero_le _
  | cons a x ih =>
    rw [List.flatMap_cons, List.length_append, List.map_cons, List.sum_cons]
    have : (sglF f s a).length ≤ a.Set.length := by
      unfold sglF
      cases spec_IsRow_m a.Row
      · exact Nat.zero_le _
      · rw [cond_true, List.length_map]; exact Nat.le_refl _
    omega
theorem GroupShared_len (x : List DAnnotated) (f s : Int) : (impl_GroupShared_m x f s).length ≤ (x.map fun (a : DAnnotated) => a.Set.length).sum := by
  cases h : spec_l14Fine_m f s with
  | false => rw [impl_Shared_false h]; exact Nat.zero_le _
  | true =>
    rw [impl_Shared_form h]
    have h1 := putg_len (sgl x f s) []
    have h2 := sgl_len x f s
    have e : ([] : List DGroup).length = 0 := rfl
    omega
theorem spec_Alone_form {x : List DRow} {i f s : Int} (h : spec_l14Fine_m f s = true) : spec_GroupAlone_m i x f s = (sgl (x.map fun r => (⟨r, [i]⟩ : DAnnotated)) f s).foldl putg [] := by
  unfold spec_GroupAlone_m sgl
  rw [rngb_as (b' := fun k d => spec_GroupAlone_b1 i x f s k d) (b := fun k d => Sum.inr ((sglF f s (⟨gt x k, [i]⟩ : DAnnotated)).foldl putg d)) (fun j d => by
    unfold spec_GroupAlone_b1 sglF
    rw [h, cond_true]
    show cond (spec_IsRow_m (gt x j)) _ _ = Sum.elim Sum.inl (fun s => Sum.inr (Sum.inr s)) (Sum.inr (α := List DGroup) (List.foldl putg d (cond (spec_IsRow_m (gt x j)) (List.map (gmk ⟨gt x j, [i]⟩ f s) [i]) [])))
    cases spec_IsRow_m (gt x j) <;> rfl), rng_fold (xs := x) (f := fun d r => (sglF f s (⟨r, [i]⟩ : DAnnotated)).foldl putg d) (fun j d _ => rfl), foldl_flatMap2 (fun r => sglF f s (⟨r, [i]⟩ : DAnnotated)), List.flatMap_map]
  rfl
theorem GroupAlone_same (i : Int) (x : List DRow) (f s : Int) : impl_GroupAlone_m i x f s = spec_GroupAlone_m i x f s := by
  unfold impl_GroupAlone_m
  rw [annotateWith_form]
  cases h : spec_l14Fine_m f s with
  | true => rw [impl_Shared_form h, spec_Alone_form h]
  | false =>
    rw [impl_Shared_false h]
    unfold spec_GroupAlone_m
    rw [rngb_false (b := fun k d => spec_GroupAlone_b1 i x f s k d) (fun j d => by unfold spec_GroupAlone_b1; rw [h]; rfl)]
    rfl
theorem GroupAlone_len (i : Int) (x : List DRow) (f s : Int) : (impl_GroupAlone_m i x f s).length ≤ x.length := by
  unfold impl_GroupAlone_m
  refine Nat.le_trans (GroupShared_len _ f s) ?_
  rw [annotateWith_form, List.map_map]
  have e : ∀ l : List DRow, (l.map ((fun (a : DAnnotated) => a.Set.length) ∘ fun r => (⟨r, [i]⟩ : DAnnotated))).sum = l.length := fun l => by
    induction l with
    | nil => rfl
    | cons a l ih => rw [List.map_cons, List.sum_cons, ih, List.length_cons]; show 1 + l.length = _; omega
  rw [e]; exact Nat.le_refl _
theorem law_GroupAlone (i : Int) (x : List DRow) (f s : Int) (ok : x.length ≤ 9223372036854775807 ∧ ∀ y ∈ x, smRow 9223372036854775807 y) : laws_FnExactGroupAlone_m i x f s = true := by
  unfold laws_FnExactGroupAlone_m
  rw [laws_toRowS_eq, ← GroupAlone_same, laws_eqGroupS_refl, laws_eqRowS_refl]
  cases hs : decide (laws_szRowS_m x 1048576 < 0) with
  | true => rfl
  | false =>
    obtain ⟨h1, _, _⟩ := sz_small laws_szRowS_ok ok (by omega) (by omega) hs
    have hi := GroupAlone_len i x f s
    have hj : x.length ≤ wtS wtRow x := by unfold wtS; omega
    have q1 := laws_markRowS_ok.go x 1 (by omega) (by omega)
    obtain ⟨p2, _, r2⟩ := laws_markGroupS_ok.go (impl_GroupAlone_m i x f s) 1 (by omega) (by omega)
    rw [r2, decide_eq_false (by omega), decide_eq_false (by omega), bne_self_eq_false]
    rfl

end Go.Proofs.Ytjcdginailhfmaa
