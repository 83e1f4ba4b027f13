/-
  The contract of the law.
-/
import Derived.Test.YtcjelfdpekbbkaaDoorL7Pl
namespace Go.Proofs.YtcjelfdpekbbkaaDoor
open Go.RowKit
set_option maxRecDepth 100000
set_option maxHeartbeats 4000000
open _root_.Go.Proofs.Tryd
theorem GroupsOf_len (x : List DGroup) (i : Int) : (impl_GroupsOf_m x i).length ≤ x.length := by
  obtain ⟨s, h1, h2⟩ := rng_inv (body := fun k s => impl_GroupsOf_b1 x i k s) (n := x.length) (fun k s => s.length ≤ k) (fun j s _ hs => by
    unfold impl_GroupsOf_b1
    cases ((gt x j).Query == i) with
    | true => exact ⟨_, rfl, by simp; omega⟩
    | false => exact ⟨_, rfl, by omega⟩) (x.length - 0) 0 [] (by omega) (by simp)
  unfold impl_GroupsOf_m
  rw [h1]
  exact h2
def sameK (q v : Int) (g : DGroup) : Bool := g.Query == q && g.Value == v
theorem sameK_iff {q v : Int} {g : DGroup} : sameK q v g = true ↔ g.Query = q ∧ g.Value = v := by
  unfold sameK; rw [Bool.and_eq_true, beq_iff_eq, beq_iff_eq]
def gcnt (S : List DGroup) (q v : Int) : Nat := (S.filter (sameK q v)).length
def gsum (q v : Int) : List DGroup → Int
  | [] => 0
  | g :: S => (if sameK q v g = true then g.Sum else 0) + gsum q v S
theorem gsum_append (q v : Int) : ∀ S T, gsum q v (S ++ T) = gsum q v S + gsum q v T
  | [], T => by simp [gsum]
  | g :: S, T => by rw [List.cons_append, gsum, gsum, gsum_append q v S T]; omega
theorem gsum_perm (q v : Int) {S T : List DGroup} (h : S.Perm T) : gsum q v S = gsum q v T := by
  induction h with
  | nil => rfl
  | cons x _ ih => rw [gsum, gsum, ih]
  | swap x y l => rw [gsum, gsum, gsum, gsum]; omega
  | trans _ _ h1 h2 => rw [h1, h2]
theorem gsum_zero {q v : Int} : ∀ {S : List DGroup}, gcnt S q v = 0 → gsum q v S = 0
  | [], _ => rfl
  | g :: S, h => by
    unfold gcnt at h
    rw [List.filter_cons] at h
    by_cases e : sameK q v g = true
    · rw [if_pos e] at h; simp at h
    · rw [if_neg e] at h
      rw [gsum, if_neg e, gsum_zero (S := S) h]; rfl
theorem gcnt_snoc (S : List DGroup) (s : DGroup) (q v : Int) : gcnt (S ++ [s]) q v = gcnt S q v + (if sameK q v s = true then 1 else 0) := by
  unfold gcnt
  rw [List.filter_append, List.length_append, List.filter_cons]
  by_cases e : sameK q v s = true
  · rw [if_pos e, if_pos e]; rfl
  · rw [if_neg e, if_neg e]; rfl
theorem gsum_snoc (S : List DGroup) (s : DGroup) (q v : Int) : gsum q v (S ++ [s]) = gsum q v S + (if sameK q v s = true then s.Sum else 0) := by
  rw [gsum_append, gsum, gsum]; omega
theorem gcnt_pos {S : List DGroup} {q v : Int} (h : 0 < gcnt S q v) : ∃ s ∈ S, s.Query = q ∧ s.Value = v := by
  unfold gcnt at h
  obtain ⟨s, hs⟩ := List.exists_mem_of_length_pos h
  rw [List.mem_filter, sameK_iff] at hs
  exact ⟨s, hs.1, hs.2⟩
structure Canon (S out : List DGroup) : Prop where
  ord : out.Pairwise keyR
  val : ∀ g ∈ out, 0 < gcnt S g.Query g.Value ∧ g.Count = IntKind.i64.wrap (gcnt S g.Query g.Value) ∧ g.Sum = IntKind.i64.wrap (gsum g.Query g.Value S)
  all : ∀ s ∈ S, ∃ g ∈ out, g.Query = s.Query ∧ g.Value = s.Value
theorem keyR_as : ∀ x y : DGroup, keyR x y → ¬ keyR y x := fun x y => by unfold keyR; omega
theorem keyR_tr : ∀ x y z : DGroup, keyR x y → keyR y z → keyR x z := fun x y z => by unfold keyR; omega
theorem Canon.unique {S a b : List DGroup} (h : Canon S a) (k : Canon S b) : a = b := by
  have key : ∀ {a b : List DGroup}, Canon S a → Canon S b → ∀ z ∈ a, z ∈ b := fun {a b} h k z hz => by
    obtain ⟨h1, h2, h3⟩ := h.val z hz
    obtain ⟨s, hs, e1, e2⟩ := gcnt_pos h1
    obtain ⟨g, hg, e3, e4⟩ := k.all s hs
    obtain ⟨_, k2, k3⟩ := k.val g hg
    have e5 : g.Query = z.Query := e3.trans e1
    have e6 : g.Value = z.Value := e4.trans e2
    rw [e5, e6] at k2 k3
    have : g = z := by
      cases g; cases z; simp only at *
      subst e5; subst e6; rw [k2, k3, h2, h3]
    rw [← this]; exact hg
  exact strict_eq keyR_as keyR_tr h.ord k.ord fun z => ⟨key h k z, key k h z⟩
theorem Canon.perm {S T out : List DGroup} (hp : S.Perm T) (h : Canon S out) : Canon T out := by
  have e : ∀ q v, gcnt S q v = gcnt T q v := fun q v => (hp.filter _).length_eq
  exact ⟨h.ord, fun g hg => by rw [← e, ← gsum_perm _ _ hp]; exact h.val g hg, fun s hs => h.all s (hp.mem_iff.2 hs)⟩
theorem Canon.nil : Canon [] [] := ⟨List.Pairwise.nil, fun g hg => (by cases hg), fun s hs => (by cases hs)⟩
theorem wrap_l (a b : Int) : IntKind.i64.wrap (IntKind.i64.wrap a + b) = IntKind.i64.wrap (a + b) := by simp only [IntKind.wrap_i64]; omega
theorem Canon.bump {S out : List DGroup} {s : DGroup} {j : Nat} (h : Canon S out) (hj : j < out.length) (e1 : (gt out j).Query = s.Query) (e2 : (gt out j).Value = s.Value) :
    Canon (S ++ [s]) (out.set j ⟨(gt out j).Query, (gt out j).Value, IntKind.i64.wrap ((gt out j).Count + 1), IntKind.i64.wrap ((gt out j).Sum + s.Sum)⟩) := by
  have hord := h.ord
  rw [List.pairwise_iff_getElem] at hord
  have hg : gt out j = out[j] := gt_at hj
  refine ⟨?_, fun g hgm => ?_, fun t ht => ?_⟩
  · rw [List.pairwise_iff_getElem]
    intro a b ha hb hab
    rw [List.length_set] at ha hb
    have := hord a b ha hb hab
    rw [List.getElem_set, List.getElem_set]
    unfold keyR at this ⊢
    by_cases c1 : j = a
    · subst c1; rw [if_pos rfl, if_neg (by omega)]; rw [← hg] at this; exact this
    · rw [if_neg c1]
      by_cases c2 : j = b
      · subst c2; rw [if_pos rfl]; rw [← hg] at this; exact this
      · rw [if_neg c2]; exact this
  · obtain ⟨i, hi, rfl⟩ := List.getElem_of_mem hgm
    rw [List.length_set] at hi
    rw [List.getElem_set]
    by_cases c : j = i
    · rw [if_pos c]
      obtain ⟨q1, q2, q3⟩ := h.val (gt out j) (gt_mem hj)
      have hk : sameK (gt out j).Query (gt out j).Value s = true := sameK_iff.2 ⟨e1.symm, e2.symm⟩
      refine ⟨?_, ?_, ?_⟩
      · show 0 < gcnt (S ++ [s]) (gt out j).Query (gt out j).Value
        rw [gcnt_snoc]; omega
      · show IntKind.i64.wrap ((gt out j).Count + 1) = IntKind.i64.wrap (gcnt (S ++ [s]) (gt out j).Query (gt out j).Value : Nat)
        rw [gcnt_snoc, if_pos hk, q2, wrap_l]; rfl
      · show IntKind.i64.wrap ((gt out j).Sum + s.Sum) = IntKind.i64.wrap (gsum (gt out j).Query (gt out j).Value (S ++ [s]))
        rw [gsum_snoc, if_pos hk, q3, wrap_l]
    · rw [if_neg c]
      have hk : ¬ sameK out[i].Query out[i].Value s = true := fun hk => by
        obtain ⟨k1, k2⟩ := sameK_iff.1 hk
        rcases Nat.lt_or_gt_of_ne c with hlt | hlt
        · have := hord j i hj hi hlt; rw [← hg] at this; unfold keyR at this; omega
        · have := hord i j hi hj hlt; rw [← hg] at this; unfold keyR at this; omega
      rw [gcnt_snoc, gsum_snoc, if_neg hk, if_neg hk]
      have := h.val out[i] (List.getElem_mem hi)
      simpa using this
  · have hmem : ∃ g ∈ out, g.Query = t.Query ∧ g.Value = t.Value := by
      rcases List.mem_append.1 ht with ht | ht
      · exact h.all t ht
      · rw [List.mem_singleton.1 ht]; exact ⟨gt out j, gt_mem hj, e1, e2⟩
    obtain ⟨g, hgm, k1, k2⟩ := hmem
    obtain ⟨i, hi, rfl⟩ := List.getElem_of_mem hgm
    have hm := List.getElem_mem (l := out.set j (⟨(gt out j).Query, (gt out j).Value, IntKind.i64.wrap ((gt out j).Count + 1), IntKind.i64.wrap ((gt out j).Sum + s.Sum)⟩ : DGroup)) (n := i) (by rw [List.length_set]; exact hi)
    refine ⟨_, hm, ?_⟩
    rw [List.getElem_set]
    by_cases c : j = i
    · subst c; rw [if_pos rfl]; rw [← hg] at k1 k2; exact ⟨k1, k2⟩
    · rw [if_neg c]; exact ⟨k1, k2⟩
theorem Canon.ins {S l1 l2 : List DGroup} {s : DGroup} (h : Canon S (l1 ++ l2)) (h1 : ∀ g ∈ l1, keyR g s) (h2 : ∀ g ∈ l2, keyR s g) (hs : 0 ≤ s.Sum ∧ s.Sum ≤ 99) : Canon (S ++ [s]) (l1 ++ [⟨s.Query, s.Value, 1, s.Sum⟩] ++ l2) := by
  have hne : ∀ g ∈ l1 ++ l2, ¬ sameK g.Query g.Value s = true := fun g hg hk => by
    obtain ⟨k1, k2⟩ := sameK_iff.1 hk
    rcases List.mem_append.1 hg with hg | hg
    · have := h1 g hg; unfold keyR at this; omega
    · have := h2 g hg; unfold keyR at this; omega
  have hz : gcnt S s.Query s.Value = 0 := by
    apply Nat.eq_zero_of_not_pos
    intro hp
    obtain ⟨t, ht, e1, e2⟩ := gcnt_pos hp
    obtain ⟨g, hg, e3, e4⟩ := h.all t ht
    exact hne g hg (sameK_iff.2 ⟨by omega, by omega⟩)
  have ho := h.ord
  rw [List.pairwise_append] at ho
  have hmem : ∀ g, g ∈ l1 ++ [(⟨s.Query, s.Value, 1, s.Sum⟩ : DGroup)] ++ l2 ↔ g ∈ l1 ++ l2 ∨ g = ⟨s.Query, s.Value, 1, s.Sum⟩ := fun g => by
    simp only [List.mem_append, List.mem_singleton]
    constructor
    · rintro ((a | a) | a) <;> simp [a]
    · rintro ((a | a) | a) <;> simp [a]
  refine ⟨?_, fun g hg => ?_, fun t ht => ?_⟩
  · rw [List.pairwise_append, List.pairwise_append]
    refine ⟨⟨ho.1, List.pairwise_singleton _ _, fun a ha b hb => ?_⟩, ho.2.1, fun a ha b hb => ?_⟩
    · rw [List.mem_singleton.1 hb]; exact h1 a ha
    · rcases List.mem_append.1 ha with ha | ha
      · exact ho.2.2 a ha b hb
      · rw [List.mem_singleton.1 ha]; exact h2 b hb
  · rcases (hmem g).1 hg with hg | rfl
    · rw [gcnt_snoc, gsum_snoc, if_neg (hne g hg), if_neg (hne g hg)]
      have := h.val g hg
      simpa using this
    · have hk : sameK s.Query s.Value s = true := sameK_iff.2 ⟨rfl, rfl⟩
      refine ⟨?_, ?_, ?_⟩
      · show 0 < gcnt (S ++ [s]) s.Query s.Value
        rw [gcnt_snoc, if_pos hk]; omega
      · show (1 : Int) = IntKind.i64.wrap (gcnt (S ++ [s]) s.Query s.Value : Nat)
        rw [gcnt_snoc, if_pos hk, hz]; rfl
      · show s.Sum = IntKind.i64.wrap (gsum s.Query s.Value (S ++ [s]))
        rw [gsum_snoc, if_pos hk, gsum_zero hz]
        simp only [IntKind.wrap_i64]; omega
  · rcases List.mem_append.1 ht with ht | ht
    · obtain ⟨g, hg, e⟩ := h.all t ht
      exact ⟨g, (hmem g).2 (.inl hg), e⟩
    · rw [List.mem_singleton.1 ht]
      exact ⟨_, (hmem _).2 (.inr rfl), rfl, rfl⟩
theorem foldl_cat {α β : Type} (F : α → List β) : ∀ (xs : List α) (d : List β), xs.foldl (fun d a => d ++ F a) d = d ++ xs.flatMap F
  | [], d => by simp
  | x :: xs, d => by rw [List.foldl_cons, foldl_cat F xs]; simp
def gmk (a : DAnnotated) (f s : Int) (id : Int) : DGroup := ⟨id, gt a.Row.Values f.toNat, 1, gt a.Row.Values s.toNat⟩
def sglF (f s : Int) (a : DAnnotated) : List DGroup := cond (spec_IsRow_m a.Row) (a.Set.map (gmk a f s)) []
def sgl (x : List DAnnotated) (f s : Int) : List DGroup := x.flatMap (sglF f s)
theorem impl_sgl (x : List DAnnotated) (f s : Int) : rng (R := List DGroup) (fun k d => impl_GroupShared_b1 x f s k d) (x.length - 0) 0 [] = .inr (sgl x f s) := by
  rw [rng_fold (xs := x) (f := fun d a => d ++ sglF f s a) (b := fun k d => impl_GroupShared_b1 x f s k d) (fun j d _ => by
    unfold impl_GroupShared_b1 sglF
    rw [IsRow_same]
    cases spec_IsRow_m (gt x j).Row with
    | false => rw [cond_false, cond_false, List.append_nil]
    | true =>
      rw [cond_true, cond_true, rng_fold (xs := (gt x j).Set) (f := fun d id => d ++ [gmk (gt x j) f s id]) (b := fun k d => impl_GroupShared_b2 x f s j k d) (fun i d _ => rfl), foldl_map]
      rfl), foldl_cat]
  rfl
theorem groups_eq0 (x y : DGroup) : (impl_compareGroups_m x y == 0) = decide (x.Query = y.Query ∧ x.Value = y.Value) := by
  unfold impl_compareGroups_m
  rw [cmp_int, cmp_int]
  by_cases h : x.Query = y.Query
  · rw [show (x.Query != y.Query) = false from by rw [h]; exact bne_self_eq_false _]
    show ((if x.Value < y.Value then (-1 : Int) else if y.Value < x.Value then 1 else 0) == 0) = _
    by_cases h1 : x.Value < y.Value
    · rw [if_pos h1, decide_eq_false (by omega)]; rfl
    · rw [if_neg h1]; by_cases h2 : y.Value < x.Value
      · rw [if_pos h2, decide_eq_false (by omega)]; rfl
      · rw [if_neg h2, decide_eq_true (by omega)]; rfl
  · rw [bne_iff_ne.2 h, decide_eq_false (by omega)]
    show ((if x.Query < y.Query then (-1 : Int) else if y.Query < x.Query then 1 else 0) == 0) = _
    by_cases h1 : x.Query < y.Query
    · rw [if_pos h1]; rfl
    · rw [if_neg h1, if_pos (by omega)]; rfl
def okG (g : DGroup) : Prop := g.Count = 1 ∧ 0 ≤ g.Sum ∧ g.Sum ≤ 99
theorem impl_merge {T : List DGroup} (hT : T.Pairwise fun a b => ¬ keyR b a) (hS : ∀ g ∈ T, okG g) : ∃ d, rng (R := List DGroup) (fun k (s : List DGroup × List DGroup) => impl_GroupShared_b3 k s.1 s.2) (T.length - 0) 0 ([], T) = .inr (d, T) ∧ Canon T d := by
  obtain ⟨⟨d, T'⟩, h1, h2, h3⟩ := rng_inv (R := List DGroup) (body := fun k (s : List DGroup × List DGroup) => impl_GroupShared_b3 k s.1 s.2) (n := T.length) (fun k s => s.2 = T ∧ Canon (T.take k) s.1) (fun k s hk ⟨e, hc⟩ => by
    obtain ⟨d, T'⟩ := s
    have e' : T' = T := e
    subst e'
    have hc' : Canon (T'.take k) d := hc
    have ht : T'.take (k + 1) = T'.take k ++ [gt T' k] := by rw [List.take_add_one, List.getElem?_eq_getElem hk, ← gt_at hk]; rfl
    obtain ⟨g1, g2⟩ := hS _ (gt_mem hk)
    have hle : ∀ g ∈ d, ¬ keyR (gt T' k) g := fun g hg => by
      obtain ⟨q1, _, _⟩ := hc'.val g hg
      obtain ⟨s, hs, e1, e2⟩ := gcnt_pos q1
      obtain ⟨i, hi, rfl⟩ := List.getElem_of_mem hs
      rw [List.length_take] at hi
      rw [List.getElem_take] at e1 e2
      rw [List.pairwise_iff_getElem] at hT
      have := hT i k (by omega) hk (by omega)
      rw [gt_at hk]
      unfold keyR at this ⊢
      omega
    have hmk : (⟨(gt T' k).Query, (gt T' k).Value, 1, (gt T' k).Sum⟩ : DGroup) = gt T' k := by rw [← g1]
    have hins : ∀ (hl : ∀ g ∈ d, keyR g (gt T' k)), Canon (T'.take (k + 1)) (d ++ [gt T' k]) := fun hl => by
      have := Canon.ins (l1 := d) (l2 := []) (s := gt T' k) (by rw [List.append_nil]; exact hc') hl (fun g hg => by cases hg) g2
      rw [List.append_nil, hmk, ← ht] at this
      exact this
    show ∃ s', impl_GroupShared_b3 k d T' = .inr s' ∧ s'.2 = T' ∧ Canon (T'.take (k + 1)) s'.1
    unfold impl_GroupShared_b3
    by_cases hd : 0 < d.length
    · rw [decide_eq_true (show 0 < ((d.length : Nat) : Int) by omega), cond_true, groups_eq0]
      by_cases hk2 : (gt d (d.length - 1)).Query = (gt T' k).Query ∧ (gt d (d.length - 1)).Value = (gt T' k).Value
      · rw [decide_eq_true hk2]
        refine ⟨_, rfl, rfl, ?_⟩
        rw [ht]
        exact Canon.bump hc' (by omega) hk2.1 hk2.2
      · rw [decide_eq_false hk2]
        refine ⟨_, rfl, rfl, hins fun g hg => ?_⟩
        have hlast : keyR (gt d (d.length - 1)) (gt T' k) := by
          have := hle _ (gt_mem (show d.length - 1 < d.length by omega))
          unfold keyR at this ⊢; omega
        obtain ⟨i, hi, rfl⟩ := List.getElem_of_mem hg
        by_cases hi2 : i = d.length - 1
        · subst hi2; rw [← gt_at hi]; exact hlast
        · have ho := hc'.ord
          rw [List.pairwise_iff_getElem] at ho
          have := ho i (d.length - 1) hi (by omega) (by omega)
          rw [← gt_at (show d.length - 1 < d.length by omega)] at this
          exact keyR_tr _ _ _ this hlast
    · rw [decide_eq_false (show ¬ 0 < ((d.length : Nat) : Int) by omega)]
      refine ⟨_, rfl, rfl, hins fun g hg => ?_⟩
      rw [List.length_eq_zero_iff.1 (show d.length = 0 by omega)] at hg; cases hg) (T.length - 0) 0 ([], T) (by omega) ⟨rfl, by rw [List.take_zero]; exact Canon.nil⟩
  have h2' : T' = T := h2
  subst h2'
  rw [List.take_length] at h3
  exact ⟨d, h1, h3⟩
theorem put_while (out : List DGroup) (q v : Int) : ∀ (m k s : Nat), s ≤ out.length → out.length < m + s → ∃ s', rngb (R := List DGroup) (fun k (s : Nat) => spec_l14Put_b2 out q v k s) m k s = .inr s' ∧ s ≤ s' ∧ s' ≤ out.length ∧ (∀ i, s ≤ i → i < s' → (gt out i).Query < q ∨ ((gt out i).Query = q ∧ (gt out i).Value < v)) ∧ (s' = out.length ∨ ¬ ((gt out s').Query < q ∨ ((gt out s').Query = q ∧ (gt out s').Value < v)))
  | 0, _, s, h1, h2 => by omega
  | m + 1, k, s, h1, h2 => by
    have stop : ∀ (hb : spec_l14Put_b2 out q v k s = .inr (.inl s)) (hq : s = out.length ∨ ¬ ((gt out s).Query < q ∨ ((gt out s).Query = q ∧ (gt out s).Value < v))), ∃ s', rngb (R := List DGroup) (fun k (s : Nat) => spec_l14Put_b2 out q v k s) (m + 1) k s = .inr s' ∧ s ≤ s' ∧ s' ≤ out.length ∧ (∀ i, s ≤ i → i < s' → (gt out i).Query < q ∨ ((gt out i).Query = q ∧ (gt out i).Value < v)) ∧ (s' = out.length ∨ ¬ ((gt out s').Query < q ∨ ((gt out s').Query = q ∧ (gt out s').Value < v))) := fun hb hq =>
      ⟨s, by rw [rngb, hb]; rfl, Nat.le_refl _, h1, fun i a b => by omega, hq⟩
    have go : ∀ (hb : spec_l14Put_b2 out q v k s = .inr (.inr (s + 1))) (hs : s < out.length) (hq : (gt out s).Query < q ∨ ((gt out s).Query = q ∧ (gt out s).Value < v)), ∃ s', rngb (R := List DGroup) (fun k (s : Nat) => spec_l14Put_b2 out q v k s) (m + 1) k s = .inr s' ∧ s ≤ s' ∧ s' ≤ out.length ∧ (∀ i, s ≤ i → i < s' → (gt out i).Query < q ∨ ((gt out i).Query = q ∧ (gt out i).Value < v)) ∧ (s' = out.length ∨ ¬ ((gt out s').Query < q ∨ ((gt out s').Query = q ∧ (gt out s').Value < v))) := fun hb hs hq => by
      obtain ⟨s', a1, a2, a3, a4, a5⟩ := put_while out q v m (k + 1) (s + 1) (by omega) (by omega)
      refine ⟨s', by rw [rngb, hb]; exact a1, by omega, a3, fun i b1 b2 => ?_, a5⟩
      by_cases e : i = s
      · subst e; exact hq
      · exact a4 i (by omega) b2
    by_cases c0 : s < out.length
    · by_cases c1 : (gt out s).Query < q
      · exact go (by unfold spec_l14Put_b2; rw [decide_eq_true (show ((s : Nat) : Int) < ((out.length : Nat) : Int) by omega), decide_eq_true c1]; rfl) c0 (.inl c1)
      · by_cases c2 : (gt out s).Query = q
        · by_cases c3 : (gt out s).Value < v
          · exact go (by unfold spec_l14Put_b2; rw [decide_eq_true (show ((s : Nat) : Int) < ((out.length : Nat) : Int) by omega), decide_eq_false c1, beq_iff_eq.2 c2, decide_eq_true c3]; rfl) c0 (.inr ⟨c2, c3⟩)
          · exact stop (by unfold spec_l14Put_b2; rw [decide_eq_true (show ((s : Nat) : Int) < ((out.length : Nat) : Int) by omega), decide_eq_false c1, beq_iff_eq.2 c2, decide_eq_false c3]; rfl) (.inr (by omega))
        · exact stop (by unfold spec_l14Put_b2; rw [decide_eq_true (show ((s : Nat) : Int) < ((out.length : Nat) : Int) by omega), decide_eq_false c1, beq_eq_false_iff_ne.2 c2]; rfl) (.inr (by omega))
    · exact stop (by unfold spec_l14Put_b2; rw [decide_eq_false (show ¬ ((s : Nat) : Int) < ((out.length : Nat) : Int) by omega)]; rfl) (.inl (by omega))
theorem put_canon {S out : List DGroup} (h : Canon S out) (s : DGroup) (hs : 0 ≤ s.Sum ∧ s.Sum ≤ 99) : Canon (S ++ [s]) (spec_l14Put_m out s.Query s.Value s.Sum) := by
  unfold spec_l14Put_m
  rcases rng_find (P := fun r : List DGroup => Canon (S ++ [s]) r) (n := out.length) (b := fun k (_ : Unit) => spec_l14Put_b1 out s.Query s.Value s.Sum k) (fun j hj => by
    show (∃ r, spec_l14Put_b1 out s.Query s.Value s.Sum j = .inl r ∧ _) ∨ spec_l14Put_b1 out s.Query s.Value s.Sum j = .inr ()
    unfold spec_l14Put_b1
    by_cases c1 : (gt out j).Query = s.Query
    · by_cases c2 : (gt out j).Value = s.Value
      · rw [beq_iff_eq.2 c1, beq_iff_eq.2 c2]; exact .inl ⟨_, rfl, Canon.bump h hj c1 c2⟩
      · rw [beq_eq_false_iff_ne.2 c2]; exact .inr (by cases ((gt out j).Query == s.Query) <;> rfl)
    · rw [beq_eq_false_iff_ne.2 c1]; exact .inr rfl) (out.length - 0) 0 (by omega) with ⟨r, e1, e2⟩ | e1
  · rw [e1]; exact e2
  · have hno : ∀ j, j < out.length → ¬ ((gt out j).Query = s.Query ∧ (gt out j).Value = s.Value) := fun j hj ⟨c1, c2⟩ => by
      have := rng_noneU _ _ e1 j (Nat.zero_le _) (by omega)
      have h2 : spec_l14Put_b1 out s.Query s.Value s.Sum j = .inr () := this
      unfold spec_l14Put_b1 at h2
      rw [beq_iff_eq.2 c1, beq_iff_eq.2 c2] at h2
      cases h2
    obtain ⟨p, a1, a2, a3, a4, a5⟩ := put_while out s.Query s.Value (out.length + 1 - 0) 0 0 (Nat.zero_le _) (by omega)
    rw [e1, a1]
    have ho := h.ord
    rw [List.pairwise_iff_getElem] at ho
    show Canon (S ++ [s]) (List.take p out ++ [⟨s.Query, s.Value, 1, s.Sum⟩] ++ List.drop p out)
    refine Canon.ins (by rw [List.take_append_drop]; exact h) (fun g hg => ?_) (fun g hg => ?_) hs
    · obtain ⟨i, hi, rfl⟩ := List.getElem_of_mem hg
      rw [List.length_take] at hi
      rw [List.getElem_take, ← gt_at (show i < out.length by omega)]
      exact a4 i (Nat.zero_le _) (by omega)
    · obtain ⟨i, hi, rfl⟩ := List.getElem_of_mem hg
      rw [List.length_drop] at hi
      rw [List.getElem_drop, ← gt_at (show p + i < out.length by omega)]
      have hp : p < out.length := by omega
      have hfirst : keyR s (gt out p) := by
        rcases a5 with a5 | a5
        · omega
        · have := hno p hp; unfold keyR; omega
      by_cases hi0 : i = 0
      · subst hi0; exact hfirst
      · have := ho p (p + i) hp (by omega) (by omega)
        rw [← gt_at hp, ← gt_at (show p + i < out.length by omega)] at this
        exact keyR_tr _ _ _ hfirst this
def putg (d : List DGroup) (g : DGroup) : List DGroup := spec_l14Put_m d g.Query g.Value g.Sum
theorem foldl_canon : ∀ (l S out : List DGroup), Canon S out → (∀ g ∈ l, okG g) → Canon (S ++ l) (l.foldl putg out)
  | [], S, out, h, _ => by rw [List.append_nil]; exact h
  | g :: l, S, out, h, hl => by
    have := foldl_canon l (S ++ [g]) (putg out g) (put_canon h g (hl g (by simp)).2) (fun z hz => hl z (List.mem_cons_of_mem _ hz))
    rw [List.append_assoc] at this
    exact this
theorem foldl_flatMap2 {α : Type} (F : α → List DGroup) : ∀ (xs : List α) (d : List DGroup), xs.foldl (fun d a => (F a).foldl putg d) d = (xs.flatMap F).foldl putg d
  | [], d => rfl
  | x :: xs, d => by rw [List.foldl_cons, foldl_flatMap2 F xs, List.flatMap_cons, List.foldl_append]
theorem spec_Shared_form {x : List DAnnotated} {f s : Int} (h : spec_l14Fine_m f s = true) : spec_GroupShared_m x f s = (sgl x f s).foldl putg [] := by
  unfold spec_GroupShared_m
  have hb : ∀ j d, spec_GroupShared_b1 x f s j d = Sum.elim Sum.inl (fun s => Sum.inr (Sum.inr s)) (Sum.inr (α := List DGroup) ((sglF f s (gt x j)).foldl putg d)) := fun j d => by
    unfold spec_GroupShared_b1 sglF
    rw [h, cond_true]
    cases hr : spec_IsRow_m (gt x j).Row with
    | false => rw [rngb_false (b := fun k d => spec_GroupShared_b2 x f s j k d) (fun i d => by unfold spec_GroupShared_b2; rw [hr]; rfl)]; rfl
    | true =>
      rw [rngb_as (b' := fun k d => spec_GroupShared_b2 x f s j k d) (b := fun k d => Sum.inr (putg d (gmk (gt x j) f s (gt (gt x j).Set k)))) (fun i d => by unfold spec_GroupShared_b2; rw [hr]; rfl),
        rng_fold (xs := (gt x j).Set) (f := fun d id => putg d (gmk (gt x j) f s id)) (fun i d _ => rfl)]
      rw [cond_true, List.foldl_map]
  rw [rngb_as (b' := fun k d => spec_GroupShared_b1 x f s k d) (b := fun k d => Sum.inr ((sglF f s (gt x k)).foldl putg d)) hb, rng_fold (xs := x) (f := fun d a => (sglF f s a).foldl putg d) (fun j d _ => rfl), foldl_flatMap2]
  rfl
theorem IsRow_vals {r : DRow} (h : spec_IsRow_m r = true) : ∀ y ∈ r.Values, 0 ≤ y ∧ y ≤ 99 := by
  unfold spec_IsRow_m at h
  rw [rng_allB (xs := r.Values) (p := fun y => spec_l1In_m y 0 99) (r := false) (fun k _ => by
    unfold spec_IsRow_b1
    cases spec_l1In_m (gt r.Values k) 0 99 <;> rfl)] at h
  intro y hy
  cases ha : r.Values.all (fun y => spec_l1In_m y 0 99) with
  | false => rw [ha] at h; cases h
  | true => exact spec_l1In_fact (List.all_eq_true.1 ha y hy)
theorem sgl_ok {x : List DAnnotated} {f s : Int} (h : spec_l14Fine_m f s = true) : ∀ g ∈ sgl x f s, okG g := fun g hg => by
  obtain ⟨a, _, hga⟩ := List.mem_flatMap.1 hg
  unfold sglF at hga
  obtain ⟨_, hs⟩ := spec_Fine_fact h
  cases hr : spec_IsRow_m a.Row with
  | false => rw [hr] at hga; cases hga
  | true =>
    rw [hr] at hga
    obtain ⟨id, _, rfl⟩ := List.mem_map.1 hga
    have hl := spec_IsRow_len hr
    exact ⟨rfl, IsRow_vals hr _ (gt_mem (by omega))⟩
theorem fine_and (f s : Int) : spec_l14Fine_m f s = (impl_isField_m f && impl_isField_m s) := by
  unfold spec_l14Fine_m; rw [cb_and]; rfl
theorem impl_Shared_form {x : List DAnnotated} {f s : Int} (h : spec_l14Fine_m f s = true) : impl_GroupShared_m x f s = (sgl x f s).foldl putg [] := by
  have hf := (fine_and f s).symm
  rw [h, Bool.and_eq_true] at hf
  unfold impl_GroupShared_m
  rw [hf.1, hf.2, cond_true, cond_true, impl_sgl]
  have hst := stb_ok impl_compareGroups_ord (sgl x f s)
  have hT : (stb (lt0 impl_compareGroups_m) (sgl x f s)).Pairwise fun a b => ¬ keyR b a := hst.2.imp fun {a b} hab => by
    intro hk; rw [(groups_lt b a).2 hk] at hab; cases hab
  obtain ⟨d, h1, h2⟩ := impl_merge hT (fun g hg => sgl_ok h g (hst.1.mem_iff.1 hg))
  have hl : (stb (lt0 impl_compareGroups_m) (sgl x f s)).length = (sgl x f s).length := hst.1.length_eq
  rw [hl] at h1
  show Sum.elim id (fun (s : List DGroup × List DGroup) => s.1) (rng (R := List DGroup) (fun k (s : List DGroup × List DGroup) => impl_GroupShared_b3 k s.1 s.2) ((sgl x f s).length - 0) 0 ([], stb (lt0 impl_compareGroups_m) (sgl x f s))) = _
  rw [h1]
  have h3 := foldl_canon (sgl x f s) [] [] Canon.nil (sgl_ok h)
  rw [List.nil_append] at h3
  exact Canon.unique (Canon.perm hst.1 h2) h3
theorem impl_Shared_false {x : List DAnnotated} {f s : Int} (h : spec_l14Fine_m f s = false) : impl_GroupShared_m x f s = [] := by
  have hf := fine_and f s
  rw [h] at hf
  unfold impl_GroupShared_m
  cases h1 : impl_isField_m f with
  | false => rfl
  | true =>
    rw [h1] at hf
    have h2 : impl_isField_m s = false := hf.symm
    rw [h2]; rfl
theorem GroupShared_same (x : List DAnnotated) (f s : Int) : impl_GroupShared_m x f s = spec_GroupShared_m x f s := by
  cases h : spec_l14Fine_m f s with
  | false =>
    rw [impl_Shared_false h]
    unfold spec_GroupShared_m
    rw [rngb_false (b := fun k d => spec_GroupShared_b1 x f s k d) (fun j d => by unfold spec_GroupShared_b1; rw [h]; rfl)]
    rfl
  | true => rw [impl_Shared_form h, spec_Shared_form h]
theorem putg_len : ∀ (l d : List DGroup), (l.foldl putg d).length ≤ d.length + l.length
  | [], d => by simp
  | g :: l, d => by
    have h1 := putg_len l (putg d g)
    have h2 := spec_Put_len d g.Query g.Value g.Sum
    have e : (putg d g).length ≤ d.length + 1 := h2
    rw [List.foldl_cons, List.length_cons]; omega
theorem sgl_len (x : List DAnnotated) (f s : Int) : (sgl x f s).length ≤ (x.map fun (a : DAnnotated) => a.Set.length).sum := by
  unfold sgl
  induction x with
  | nil => exact Nat.zero_le _
  | cons a x ih =>
    rw [List.flatMap_cons, List.length_append, List.map_cons, List.sum_cons]
    have : (sglF f s a).length ≤ a.Set.length := by
      unfold sglF
      cases spec_IsRow_m a.Row
      · exact Nat.zero_le _
      · rw [cond_true, List.length_map]; exact Nat.le_refl _
    omega
theorem GroupShared_len (x : List DAnnotated) (f s : Int) : (impl_GroupShared_m x f s).length ≤ (x.map fun (a : DAnnotated) => a.Set.length).sum := by
  cases h : spec_l14Fine_m f s with
  | false => rw [impl_Shared_false h]; exact Nat.zero_le _
  | true =>
    rw [impl_Shared_form h]
    have h1 := putg_len (sgl x f s) []
    have h2 := sgl_len x f s
    have e : ([] : List DGroup).length = 0 := rfl
    omega
theorem GroupAlone_len (i : Int) (x : List DRow) (f s : Int) : (impl_GroupAlone_m i x f s).length ≤ x.length := by
  unfold impl_GroupAlone_m
  refine Nat.le_trans (GroupShared_len _ f s) ?_
  rw [annotateWith_form, List.map_map]
  have e : ∀ l : List DRow, (l.map ((fun (a : DAnnotated) => a.Set.length) ∘ fun r => (⟨r, [i]⟩ : DAnnotated))).sum = l.length := fun l => by
    induction l with
    | nil => rfl
    | cons a l ih => rw [List.map_cons, List.sum_cons, ih, List.length_cons]; show 1 + l.length = _; omega
  rw [e]; exact Nat.le_refl _
def QOk (q : DQuery) : Prop := (0 ≤ q.Id ∧ q.Id ≤ 23) ∧ (0 ≤ q.Tenant ∧ q.Tenant ≤ 3) ∧ (∀ c ∈ q.Conds, (0 ≤ c.Field ∧ c.Field ≤ 2) ∧ (0 ≤ c.Low ∧ c.Low ≤ c.High) ∧ c.High ≤ 99) ∧ q.Conds.Pairwise (fun a b => a.Field < b.Field) ∧ q.Conds.length ≤ 3 ∧ (∀ o ∈ q.Out, 0 ≤ o ∧ o ≤ 2) ∧ 1 ≤ q.Out.length ∧ q.Out.length ≤ 3
theorem IsQuery_of {q : DQuery} (h : QOk q) : spec_IsQuery_m q = true := by
  obtain ⟨h1, h2, h3, h4, h5, h6, h7, h8⟩ := h
  unfold spec_IsQuery_m spec_l4Fields_m
  rw [rng_all (n := q.Out.length) (fun k hk => by
    unfold spec_l4Fields_b1
    rw [spec_l1In_iff, decide_eq_true (h6 _ (gt_mem hk))]
    rfl), rng_all (n := q.Conds.length) (fun k hk => by
    unfold spec_IsQuery_b1 spec_IsCond_m
    obtain ⟨c1, c2, c3⟩ := h3 _ (gt_mem hk)
    rw [spec_l1In_iff, decide_eq_true c1, spec_l1In_iff, decide_eq_true c2, decide_eq_true c3, cond_true, cond_true, cond_true]
    by_cases h0 : 0 < k
    · rw [decide_eq_true (show (0 : Int) < ((k : Nat) : Int) by omega), decide_eq_false (show ¬ (gt q.Conds k).Field ≤ (gt q.Conds (k - 1)).Field by
        have := List.pairwise_iff_getElem.1 h4 (k - 1) k (by omega) hk (by omega)
        rw [gt_at hk, gt_at (by omega)]
        omega)]
      rfl
    · rw [decide_eq_false (show ¬ (0 : Int) < ((k : Nat) : Int) by omega)]
      rfl)]
  show cond (spec_l1In_m q.Id 0 23) (cond (spec_l1In_m q.Tenant 0 3) (cond (decide (((q.Conds.length : Nat) : Int) ≤ 3)) (spec_l1In_m ((q.Out.length : Nat) : Int) 1 3) false) false) false = true
  rw [spec_l1In_iff, decide_eq_true h1, spec_l1In_iff, decide_eq_true h2, spec_l1In_iff, decide_eq_true (show ((q.Conds.length : Nat) : Int) ≤ 3 by omega), decide_eq_true (show (1 : Int) ≤ ((q.Out.length : Nat) : Int) ∧ ((q.Out.length : Nat) : Int) ≤ 3 by omega)]
  rfl
theorem AreQueries_of {l : List DQuery} (h1 : ∀ q ∈ l, QOk q) (h2 : l.Pairwise (fun a b => a.Id < b.Id)) (h3 : l.length ≤ 24) : spec_AreQueries_m l = true := by
  unfold spec_AreQueries_m
  rw [rng_all (fun k hk => by
    unfold spec_AreQueries_b1
    rw [IsQuery_of (h1 _ (gt_mem hk)), cond_true]
    by_cases h0 : 0 < k
    · rw [decide_eq_true (show (0 : Int) < ((k : Nat) : Int) by omega), decide_eq_false (show ¬ (gt l k).Id ≤ (gt l (k - 1)).Id by
        have := List.pairwise_iff_getElem.1 h2 (k - 1) k (by omega) hk (by omega)
        rw [gt_at hk, gt_at (by omega)]
        omega)]
      rfl
    · rw [decide_eq_false (show ¬ (0 : Int) < ((k : Nat) : Int) by omega)]
      rfl)]
  exact decide_eq_true (show ((l.length : Nat) : Int) ≤ 24 by omega)
theorem PickW_rng (b : List Int) (D : Dl1Cur) : 1 ≤ (spec_l1PickInt_m b D [3, 6, 100]).1 ∧ (spec_l1PickInt_m b D [3, 6, 100]).1 ≤ 100 := by
  obtain ⟨h1, h2, -⟩ := spec_l1Below_rng b D 3
  have h3 := h2 (by omega)
  show 1 ≤ gt [3, 6, 100] (spec_l1Below_m b D 3).1.toNat ∧ gt [3, 6, 100] (spec_l1Below_m b D 3).1.toNat ≤ 100
  generalize (spec_l1Below_m b D 3).1 = i at h1 h3
  have h4 : i.toNat = 0 ∨ i.toNat = 1 ∨ i.toNat = 2 := by omega
  rcases h4 with h | h | h <;> rw [h] <;> decide
theorem spec_l4Query_outs2 {id_ : DQuery × Dl1Cur → DQuery × Dl1Cur} (b : List Int) (c : List DCond) (t id : Int) (n0 : Nat) (hn : n0 ≤ 3) : ∀ (m k : Nat) (s : Int × Nat × Int × (List Int)), m + k = n0 + 1 → (0 ≤ s.1 ∧ k + s.1.toNat = n0 ∧ s.2.2.2.length = k ∧ ∀ o ∈ s.2.2.2, 0 ≤ o ∧ o ≤ 2) → ∃ o D', Sum.elim id_ (fun (s : Int × Nat × Int × (List Int)) => ((⟨id, t, c, s.2.2.2⟩ : DQuery), (⟨s.2.1, s.2.2.1⟩ : Dl1Cur))) (rngb (R := (DQuery × Dl1Cur)) (fun k (s : Int × Nat × Int × (List Int)) => spec_l4Query_b2 b k s.1 s.2.1 s.2.2.1 s.2.2.2) m k s) = (⟨id, t, c, o⟩, D') ∧ o.length = n0 ∧ ∀ y ∈ o, 0 ≤ y ∧ y ≤ 2 := fun m k s hm hs => by
  obtain ⟨s', e1, e2⟩ := rngb_invP (R := (DQuery × Dl1Cur)) (b := fun k (s : Int × Nat × Int × (List Int)) => spec_l4Query_b2 b k s.1 s.2.1 s.2.2.1 s.2.2.2) (P := fun k s => 0 ≤ s.1 ∧ k + s.1.toNat = n0 ∧ s.2.2.2.length = k ∧ ∀ o ∈ s.2.2.2, 0 ≤ o ∧ o ≤ 2) (Q := fun s => s.2.2.2.length = n0 ∧ ∀ o ∈ s.2.2.2, 0 ≤ o ∧ o ≤ 2) (fun k s ⟨p0, p1, p2, p3⟩ => by
    show (∃ s', spec_l4Query_b2 b k s.1 s.2.1 s.2.2.1 s.2.2.2 = _ ∧ _) ∨ ∃ s', spec_l4Query_b2 b k s.1 s.2.1 s.2.2.1 s.2.2.2 = _ ∧ _
    unfold spec_l4Query_b2
    by_cases h : 0 < s.1
    · rw [decide_eq_true h, wrap_id (n := s.1 - 1) (by omega) (by omega)]
      refine .inl ⟨_, rfl, ?_, ?_, ?_, fun o ho => ?_⟩
      · show 0 ≤ s.1 - 1; omega
      · show k + 1 + (s.1 - 1).toNat = n0; omega
      · show (s.2.2.2 ++ [_]).length = k + 1; rw [List.length_append, p2]; rfl
      · rcases List.mem_append.1 ho with ho | ho
        · exact p3 o ho
        · rw [List.mem_singleton.1 ho]
          obtain ⟨g1, g2, -⟩ := spec_l1Below_rng b (⟨s.2.1, s.2.2.1⟩ : Dl1Cur) 3
          have := g2 (by omega)
          exact ⟨g1, by omega⟩
    · rw [decide_eq_false h]
      exact .inr ⟨_, rfl, (by show s.2.2.2.length = n0; omega), p3⟩) m k s hs
  rw [e1]
  rcases e2 with ⟨h1, h2⟩ | ⟨h0, h1, h2, h3⟩
  · exact ⟨_, _, rfl, h1, h2⟩
  · omega
theorem spec_l4Query_ok (b : List Int) (D : Dl1Cur) (i : Int) (hi : 0 ≤ i ∧ i ≤ 23) : QOk (spec_l4Query_m b D i).1 ∧ (spec_l4Query_m b D i).1.Id = i := by
  unfold spec_l4Query_m
  have hW := PickW_rng b (spec_l1Below_m b D 4).2
  obtain ⟨s1, e1, h0, h1, h2⟩ := rng_inv (R := DQuery × Dl1Cur) (body := fun k (s : Nat × Int × List DCond) => spec_l4Query_b1 b D k s.1 s.2.1 s.2.2) (n := 3) (fun k s => s.2.2.length ≤ k ∧ (∀ c ∈ s.2.2, (0 ≤ c.Field ∧ c.Field < k) ∧ (0 ≤ c.Low ∧ c.Low ≤ c.High) ∧ c.High ≤ 99) ∧ s.2.2.Pairwise (fun a b => a.Field < b.Field)) (fun k s _ h => by
    obtain ⟨h0, h1, h2⟩ := h
    have happ : ∀ lo hi : Int, (0 ≤ lo ∧ lo ≤ hi) → hi ≤ 99 → (s.2.2 ++ [(⟨((k : Nat) : Int), lo, hi⟩ : DCond)]).length ≤ k + 1 ∧ (∀ c ∈ s.2.2 ++ [(⟨((k : Nat) : Int), lo, hi⟩ : DCond)], (0 ≤ c.Field ∧ c.Field < ((k + 1 : Nat) : Int)) ∧ (0 ≤ c.Low ∧ c.Low ≤ c.High) ∧ c.High ≤ 99) ∧ (s.2.2 ++ [(⟨((k : Nat) : Int), lo, hi⟩ : DCond)]).Pairwise (fun a b => a.Field < b.Field) := fun lo hi g1 g2 => by
      refine ⟨by rw [List.length_append]; show s.2.2.length + 1 ≤ k + 1; omega, fun c hc => ?_, ?_⟩
      · rcases List.mem_append.1 hc with hc | hc
        · obtain ⟨a1, a2, a3⟩ := h1 c hc
          exact ⟨⟨a1.1, by omega⟩, a2, a3⟩
        · rw [List.mem_singleton.1 hc]
          exact ⟨⟨by show (0 : Int) ≤ ((k : Nat) : Int); omega, by show ((k : Nat) : Int) < _; omega⟩, g1, g2⟩
      · rw [List.pairwise_append]
        refine ⟨h2, List.pairwise_singleton _ _, fun a ha c hc => ?_⟩
        rw [List.mem_singleton.1 hc]
        exact (h1 a ha).1.2
    have hkeep : s.2.2.length ≤ k + 1 ∧ (∀ c ∈ s.2.2, (0 ≤ c.Field ∧ c.Field < ((k + 1 : Nat) : Int)) ∧ (0 ≤ c.Low ∧ c.Low ≤ c.High) ∧ c.High ≤ 99) ∧ s.2.2.Pairwise (fun a b => a.Field < b.Field) := ⟨by omega, fun c hc => by
      obtain ⟨a1, a2, a3⟩ := h1 c hc
      exact ⟨⟨a1.1, by omega⟩, a2, a3⟩, h2⟩
    have hlow : ∀ D', 0 ≤ (spec_l1Below_m b D' (spec_l1PickInt_m b (spec_l1Below_m b D 4).2 [3, 6, 100]).1).1 ∧ (spec_l1Below_m b D' (spec_l1PickInt_m b (spec_l1Below_m b D 4).2 [3, 6, 100]).1).1 ≤ 99 := fun D' => by
      obtain ⟨g1, g2, -⟩ := spec_l1Below_rng b D' (spec_l1PickInt_m b (spec_l1Below_m b D 4).2 [3, 6, 100]).1
      have := g2 (by omega)
      exact ⟨g1, by omega⟩
    show ∃ s', spec_l4Query_b1 b D k s.1 s.2.1 s.2.2 = .inr s' ∧ s'.2.2.length ≤ k + 1 ∧ (∀ c ∈ s'.2.2, (0 ≤ c.Field ∧ c.Field < ((k + 1 : Nat) : Int)) ∧ (0 ≤ c.Low ∧ c.Low ≤ c.High) ∧ c.High ≤ 99) ∧ s'.2.2.Pairwise (fun a b => a.Field < b.Field)
    unfold spec_l4Query_b1
    refine cond_ex (P := fun s' : Nat × Int × List DCond => s'.2.2.length ≤ k + 1 ∧ (∀ c ∈ s'.2.2, (0 ≤ c.Field ∧ c.Field < ((k + 1 : Nat) : Int)) ∧ (0 ≤ c.Low ∧ c.Low ≤ c.High) ∧ c.High ≤ 99) ∧ s'.2.2.Pairwise (fun a b => a.Field < b.Field)) (cond_ex (P := fun s' : Nat × Int × List DCond => s'.2.2.length ≤ k + 1 ∧ (∀ c ∈ s'.2.2, (0 ≤ c.Field ∧ c.Field < ((k + 1 : Nat) : Int)) ∧ (0 ≤ c.Low ∧ c.Low ≤ c.High) ∧ c.High ≤ 99) ∧ s'.2.2.Pairwise (fun a b => a.Field < b.Field)) ⟨_, rfl, ?_⟩ ⟨_, rfl, ?_⟩) ⟨_, rfl, ?_⟩
    rotate_left 2
    · exact hkeep
    · exact happ _ _ ⟨(hlow _).1, Int.le_refl _⟩ (hlow _).2
    refine happ _ _ ⟨(hlow _).1, ?_⟩ ?_
    · have a1 := hlow (spec_l1Once_m b (⟨s.1, s.2.1⟩ : Dl1Cur) 2).2
      have a2 := hlow (spec_l1Below_m b (spec_l1Once_m b (⟨s.1, s.2.1⟩ : Dl1Cur) 2).2 (spec_l1PickInt_m b (spec_l1Below_m b D 4).2 [3, 6, 100]).1).2
      rw [wrap_id (by omega) (by omega)]
      split <;> omega
    · have a1 := hlow (spec_l1Once_m b (⟨s.1, s.2.1⟩ : Dl1Cur) 2).2
      have a2 := hlow (spec_l1Below_m b (spec_l1Once_m b (⟨s.1, s.2.1⟩ : Dl1Cur) 2).2 (spec_l1PickInt_m b (spec_l1Below_m b D 4).2 [3, 6, 100]).1).2
      rw [wrap_id (by omega) (by omega)]
      split <;> omega) (3 - 0) 0 ((spec_l1PickInt_m b ((spec_l1Below_m b D 4).2) [3, 6, 100]).2.i, (spec_l1PickInt_m b ((spec_l1Below_m b D 4).2) [3, 6, 100]).2.h, []) (by omega) ⟨Nat.zero_le _, fun c hc => (by cases hc), List.Pairwise.nil⟩
  rw [e1]
  have hb := spec_l1Below_rng b (⟨s1.1, s1.2.1⟩ : Dl1Cur) 3
  have hb' := hb.2.1 (by omega)
  have hw := wrap_id (n := 1 + (spec_l1Below_m b (⟨s1.1, s1.2.1⟩ : Dl1Cur) 3).1) (by omega) (by omega)
  obtain ⟨o, D', e2, o1, o2⟩ := spec_l4Query_outs2 (id_ := id) b s1.2.2 (spec_l1Below_m b D 4).1 i (1 + (spec_l1Below_m b (⟨s1.1, s1.2.1⟩ : Dl1Cur) 3).1).toNat (by omega) ((IntKind.i64.wrap (1 + (spec_l1Below_m b (⟨s1.1, s1.2.1⟩ : Dl1Cur) 3).1)).toNat + 1 - 0) 0 ((IntKind.i64.wrap (1 + (spec_l1Below_m b (⟨s1.1, s1.2.1⟩ : Dl1Cur) 3).1)), (spec_l1Below_m b (⟨s1.1, s1.2.1⟩ : Dl1Cur) 3).2.i, (spec_l1Below_m b (⟨s1.1, s1.2.1⟩ : Dl1Cur) 3).2.h, []) (by rw [hw]; omega) ⟨(by show 0 ≤ IntKind.i64.wrap _; omega), (by show 0 + (IntKind.i64.wrap _).toNat = _; omega), rfl, fun o ho => by cases ho⟩
  have e3 := congrArg Prod.fst e2
  have ht := spec_l1Below_rng b D 4
  have ht' := ht.2.1 (by omega)
  refine ⟨?_, congrArg DQuery.Id e3⟩
  have e4 : QOk (⟨i, (spec_l1Below_m b D 4).1, s1.2.2, o⟩ : DQuery) := ⟨hi, ⟨ht.1, by show (spec_l1Below_m b D 4).1 ≤ 3; omega⟩, fun c hc => by
    obtain ⟨a1, a2, a3⟩ := h1 c hc
    exact ⟨⟨a1.1, by omega⟩, a2, a3⟩, h2, h0, o2, by show 1 ≤ o.length; omega, by show o.length ≤ 3; omega⟩
  exact e3 ▸ e4
theorem spec_l4Queries_ok (b : List Int) (D : Dl1Cur) (x1 : Int) (h0 : 0 ≤ x1) (h1 : x1 ≤ 11) : spec_AreQueries_m (spec_l4Queries_m b D x1).1 = true := by
  have hw := wrap_id (n := x1 + 1) (by omega) (by omega)
  have hb := spec_l1Below_rng b (spec_l1Below_m b D 2).2 (x1 + 1)
  have hb' := hb.2.1 (by omega)
  have h2 := spec_l1Below_rng b D 2
  have h2' := h2.2.1 (by omega)
  have key : ∀ (m k : Nat) (s : (List DQuery) × Int × Int × Nat × Int), (s.2.2.1 ≤ 100 ∧ ((s.1.length : Nat) : Int) + ((s.2.2.1.toNat : Nat) : Int) ≤ x1 ∧ (0 ≤ s.2.1 ∧ s.2.1 ≤ 1 + 2 * ((s.1.length : Nat) : Int)) ∧ (∀ q ∈ s.1, QOk q ∧ q.Id < s.2.1) ∧ s.1.Pairwise (fun a b => a.Id < b.Id)) → ∃ s', rngb (R := ((List DQuery) × Dl1Cur)) (fun k (s : (List DQuery) × Int × Int × Nat × Int) => spec_l4Queries_b1 b k s.1 s.2.1 s.2.2.1 s.2.2.2.1 s.2.2.2.2) m k s = .inr s' ∧ ((s'.1.length : Nat) : Int) ≤ x1 ∧ (∀ q ∈ s'.1, QOk q) ∧ s'.1.Pairwise (fun a b => a.Id < b.Id) := fun m k s hs => by
    obtain ⟨s', e1, e2⟩ := rngb_invP (R := ((List DQuery) × Dl1Cur)) (b := fun k (s : (List DQuery) × Int × Int × Nat × Int) => spec_l4Queries_b1 b k s.1 s.2.1 s.2.2.1 s.2.2.2.1 s.2.2.2.2) (P := fun _ s => s.2.2.1 ≤ 100 ∧ ((s.1.length : Nat) : Int) + ((s.2.2.1.toNat : Nat) : Int) ≤ x1 ∧ (0 ≤ s.2.1 ∧ s.2.1 ≤ 1 + 2 * ((s.1.length : Nat) : Int)) ∧ (∀ q ∈ s.1, QOk q ∧ q.Id < s.2.1) ∧ s.1.Pairwise (fun a b => a.Id < b.Id)) (Q := fun s => ((s.1.length : Nat) : Int) ≤ x1 ∧ (∀ q ∈ s.1, QOk q) ∧ s.1.Pairwise (fun a b => a.Id < b.Id)) (fun k s ⟨p1, p2, p3, p4, p5⟩ => by
      show (∃ s', spec_l4Queries_b1 b k s.1 s.2.1 s.2.2.1 s.2.2.2.1 s.2.2.2.2 = _ ∧ _) ∨ ∃ s', spec_l4Queries_b1 b k s.1 s.2.1 s.2.2.1 s.2.2.2.1 s.2.2.2.2 = _ ∧ _
      unfold spec_l4Queries_b1
      by_cases h : 0 < s.2.2.1
      · have hq := spec_l4Query_ok b (⟨s.2.2.2.1, s.2.2.2.2⟩ : Dl1Cur) s.2.1 (by omega)
        have hc := spec_l1Below_rng b (spec_l4Query_m b (⟨s.2.2.2.1, s.2.2.2.2⟩ : Dl1Cur) s.2.1).2 2
        have hc' := hc.2.1 (by omega)
        rw [decide_eq_true h, cond_true, wrap_id (n := s.2.2.1 - 1) (by omega) (by omega), wrap_id (n := s.2.1 + 1) (by omega) (by omega), wrap_id (by omega) (by omega)]
        have hl : (s.1 ++ [(spec_l4Query_m b (⟨s.2.2.2.1, s.2.2.2.2⟩ : Dl1Cur) s.2.1).1]).length = s.1.length + 1 := by rw [List.length_append]; rfl
        refine .inl ⟨_, rfl, ?_, ?_, ?_, fun q hq' => ?_, ?_⟩
        · show s.2.2.1 - 1 ≤ 100; omega
        · show (((s.1 ++ [_]).length : Nat) : Int) + (((s.2.2.1 - 1).toNat : Nat) : Int) ≤ x1; rw [hl]; omega
        · show 0 ≤ s.2.1 + 1 + (spec_l1Below_m b (spec_l4Query_m b (⟨s.2.2.2.1, s.2.2.2.2⟩ : Dl1Cur) s.2.1).2 2).1 ∧ s.2.1 + 1 + (spec_l1Below_m b (spec_l4Query_m b (⟨s.2.2.2.1, s.2.2.2.2⟩ : Dl1Cur) s.2.1).2 2).1 ≤ 1 + 2 * (((s.1 ++ [(spec_l4Query_m b (⟨s.2.2.2.1, s.2.2.2.2⟩ : Dl1Cur) s.2.1).1]).length : Nat) : Int)
          rw [hl]; omega
        · show QOk q ∧ q.Id < s.2.1 + 1 + (spec_l1Below_m b (spec_l4Query_m b (⟨s.2.2.2.1, s.2.2.2.2⟩ : Dl1Cur) s.2.1).2 2).1
          rcases List.mem_append.1 hq' with hq' | hq'
          · have := p4 q hq'; exact ⟨this.1, by omega⟩
          · rw [List.mem_singleton.1 hq']; exact ⟨hq.1, by rw [hq.2]; omega⟩
        · show (s.1 ++ [_]).Pairwise _
          rw [List.pairwise_append]
          refine ⟨p5, List.pairwise_singleton _ _, fun a ha c hc => ?_⟩
          rw [List.mem_singleton.1 hc, hq.2]
          exact (p4 a ha).2
      · rw [decide_eq_false h]
        exact .inr ⟨_, rfl, (by show ((s.1.length : Nat) : Int) ≤ x1; omega), fun q hq => (p4 q hq).1, p5⟩) m k s hs
    exact ⟨s', e1, e2.elim id fun h => ⟨by omega, fun q hq => (h.2.2.2.1 q hq).1, h.2.2.2.2⟩⟩
  unfold spec_l4Queries_m
  rw [hw]
  obtain ⟨s', e, g1, g2, g3⟩ := key ((spec_l1Below_m b (spec_l1Below_m b D 2).2 (x1 + 1)).1.toNat + 1 - 0) 0 ([], (spec_l1Below_m b D 2).1, (spec_l1Below_m b (spec_l1Below_m b D 2).2 (x1 + 1)).1, (spec_l1Below_m b (spec_l1Below_m b D 2).2 (x1 + 1)).2.i, (spec_l1Below_m b (spec_l1Below_m b D 2).2 (x1 + 1)).2.h) ⟨(by show (spec_l1Below_m b (spec_l1Below_m b D 2).2 (x1 + 1)).1 ≤ 100; omega), (by show ((0 : Nat) : Int) + (((spec_l1Below_m b (spec_l1Below_m b D 2).2 (x1 + 1)).1.toNat : Nat) : Int) ≤ x1; omega), (by show 0 ≤ (spec_l1Below_m b D 2).1 ∧ (spec_l1Below_m b D 2).1 ≤ 1 + 2 * ((0 : Nat) : Int); omega), (fun q hq => by cases hq), List.Pairwise.nil⟩
  rw [e]
  exact AreQueries_of g2 g3 (show s'.1.length ≤ 24 by omega)
theorem Build_parts (b : List Int) (D : Dl1Cur) (x1 : Int) (h0 : 0 ≤ x1) (h1 : x1 ≤ 11) : (spec_BuildIndex_m (spec_l4Queries_m b D x1).1).Queries = (spec_l4Queries_m b D x1).1 ∧ (spec_BuildIndex_m (spec_l4Queries_m b D x1).1).Fields.length = 3 := by
  unfold spec_BuildIndex_m
  rw [spec_l4Queries_ok b D x1 h0 h1]
  exact ⟨rfl, rfl⟩
theorem spec_l13Any_fact (b : List Int) (D : Dl1Cur) : annP 9 (spec_l13Any_m b D).1 := by
  have hd := spec_l13Draw_fact b D
  unfold spec_l13Any_m
  cases (spec_l1Once_m b (spec_l13Draw_m b D).2.2.2 10).1 with
  | false => exact ⟨Nat.le_succ_of_le hd.1, hd.2⟩
  | true =>
    refine ⟨?_, fun a ha => ?_⟩
    · show ((spec_l13Draw_m b D).2.2.1 ++ [_]).length ≤ 9
      rw [List.length_append]
      have := hd.1
      show _ + 1 ≤ 9
      omega
    · rcases List.mem_append.1 ha with ha | ha
      · exact hd.2 a ha
      · rw [List.mem_singleton.1 ha]
        exact ⟨spec_l3Any_sm _ _, by have := spec_l2Any_fact b (spec_l3Any_m b (spec_l1Once_m b (spec_l13Draw_m b D).2.2.2 10).2).2; show (spec_l2Any_m _ _).1.length ≤ _; omega⟩
theorem wrap_rg (n : Int) : -9223372036854775808 ≤ IntKind.i64.wrap n ∧ IntKind.i64.wrap n ≤ 9223372036854775807 := by simp only [IntKind.wrap_i64]; omega
theorem spec_l13Draw_sets (b : List Int) (D : Dl1Cur) : ∀ a ∈ (spec_l13Draw_m b D).2.2.1, a.Set.length ≤ 24 := by
  show ∀ a ∈ spec_AnnotateRows_m (spec_BuildIndex_m (spec_l4Queries_m b D 5).1) (spec_l3Rows_m b (spec_l4Queries_m b D 5).2 8).1, a.Set.length ≤ 24
  have hq := spec_l4Queries_fact b D 5 (by omega) (by omega)
  have hp := Build_parts b D 5 (by omega) (by omega)
  rw [spec_Annotate_form]
  cases spec_IsIndex_m (spec_BuildIndex_m (spec_l4Queries_m b D 5).1) with
  | false => intro a ha; cases ha
  | true =>
    intro a ha
    obtain ⟨r, _, rfl⟩ := List.mem_map.1 ha
    have := spec_MatchSet_len (spec_BuildIndex_m (spec_l4Queries_m b D 5).1) r
    rw [hp.1] at this
    show (spec_MatchSet_m (spec_BuildIndex_m (spec_l4Queries_m b D 5).1) r).length ≤ 24
    omega
theorem spec_l13Any_sets (b : List Int) (D : Dl1Cur) : ∀ a ∈ (spec_l13Any_m b D).1, a.Set.length ≤ 24 := by
  have hd := spec_l13Draw_sets b D
  unfold spec_l13Any_m
  cases (spec_l1Once_m b (spec_l13Draw_m b D).2.2.2 10).1 with
  | false => exact hd
  | true =>
    intro a ha
    rcases List.mem_append.1 ha with ha | ha
    · exact hd a ha
    · rw [List.mem_singleton.1 ha]
      have := spec_l2Any_fact b (spec_l3Any_m b (spec_l1Once_m b (spec_l13Draw_m b D).2.2.2 10).2).2
      show (spec_l2Any_m _ _).1.length ≤ _
      omega
theorem sets_sum : ∀ {l : List DAnnotated}, (∀ a ∈ l, a.Set.length ≤ 24) → (l.map fun (a : DAnnotated) => a.Set.length).sum ≤ l.length * 24
  | [], _ => Nat.zero_le _
  | a :: l, h => by
    have ih := sets_sum (l := l) fun b hb => h b (List.mem_cons_of_mem _ hb)
    have h1 := h a (List.mem_cons_self ..)
    rw [List.map_cons, List.sum_cons, List.length_cons, Nat.add_mul]
    omega
theorem spec_DrawGroupShared_l (x : List Int) : (spec_DrawGroupShared_m x).1 = (spec_l13Any_m x (spec_l1New_m x)).1 := by
  show (spec_l14Draw_m x).1 = _
  unfold spec_l14Draw_m
  cases (spec_l1Once_m x (spec_l1Below_m x (spec_l13Any_m x (spec_l1New_m x)).2 3).2 10).1 <;> rfl
theorem spec_DrawGroupShared_fact (x : List Int) : annP 9 (spec_DrawGroupShared_m x).1 ∧ ((spec_DrawGroupShared_m x).1.map fun (a : DAnnotated) => a.Set.length).sum ≤ 216 := by
  rw [spec_DrawGroupShared_l]
  have h1 := spec_l13Any_fact x (spec_l1New_m x)
  have h2 := sets_sum (spec_l13Any_sets x (spec_l1New_m x))
  have h3 := h1.1
  exact ⟨h1, by omega⟩
theorem GS_canon {l : List DAnnotated} {f s : Int} (h : spec_l14Fine_m f s = true) : Canon (sgl l f s) (impl_GroupShared_m l f s) := by
  rw [impl_Shared_form h]
  have h3 := foldl_canon (sgl l f s) [] [] Canon.nil (sgl_ok h)
  rw [List.nil_append] at h3
  exact h3
theorem impl_GS_rng (l : List DAnnotated) (f s : Int) : ∀ k, k < (impl_GroupShared_m l f s).length → (-9223372036854775808 ≤ (gt (impl_GroupShared_m l f s) k).Count ∧ (gt (impl_GroupShared_m l f s) k).Count ≤ 9223372036854775807) ∧ (-9223372036854775808 ≤ (gt (impl_GroupShared_m l f s) k).Sum ∧ (gt (impl_GroupShared_m l f s) k).Sum ≤ 9223372036854775807) := fun k hk => by
  cases h : spec_l14Fine_m f s with
  | false => rw [impl_Shared_false h] at hk; cases hk
  | true =>
    obtain ⟨_, h2, h3⟩ := (GS_canon h).val _ (gt_mem hk)
    rw [h2, h3]
    exact ⟨wrap_rg _, wrap_rg _⟩
theorem spec_GS_len (l : List DAnnotated) (f s : Int) : (spec_GroupShared_m l f s).length ≤ (l.map fun (a : DAnnotated) => a.Set.length).sum := by rw [← GroupShared_same]; exact GroupShared_len l f s
theorem spec_Route_P {l : List DAnnotated} {m : Nat} (h : annP m l) (i : Int) : (spec_RouteRows_m l i).length ≤ m ∧ ∀ r ∈ spec_RouteRows_m l i, smRow 68719476736 r := by
  have e : spec_RouteRows_m l i = (l.filter fun a => spec_HasMember_m a.Set i).map fun a => a.Row := by
    unfold spec_RouteRows_m
    rw [rng_fold (f := fun d a => cond (spec_HasMember_m a.Set i) (d ++ [a.Row]) d) (fun j s _ => by unfold spec_RouteRows_b1; cases spec_HasMember_m (gt l j).Set i <;> rfl)]
    show List.foldl _ [] l = _
    rw [foldl_filterMap]
    rfl
  rw [e]
  refine ⟨?_, fun r hr => ?_⟩
  · rw [List.length_map]
    exact Nat.le_trans (List.length_filter_le _ _) h.1
  · obtain ⟨a, ha, rfl⟩ := List.mem_map.1 hr
    exact (h.2 a (List.mem_filter.1 ha).1).1
def laws_FnGroups_b4 (x0 : (List Int)) (k73 : Nat) (k99 : Nat) : Bool ⊕ (Unit) :=
 cond (!((((gt (impl_GroupsOf_m (spec_GroupShared_m ((spec_DrawGroupShared_m x0).1) ((spec_DrawGroupShared_m x0).2.1) ((spec_DrawGroupShared_m x0).2.2)) ((k73 : Nat) : Int)) k99).Query) == ((gt (impl_GroupAlone_m ((k73 : Nat) : Int) (spec_RouteRows_m ((spec_DrawGroupShared_m x0).1) ((k73 : Nat) : Int)) ((spec_DrawGroupShared_m x0).2.1) ((spec_DrawGroupShared_m x0).2.2)) k99).Query)) && (((gt (impl_GroupsOf_m (spec_GroupShared_m ((spec_DrawGroupShared_m x0).1) ((spec_DrawGroupShared_m x0).2.1) ((spec_DrawGroupShared_m x0).2.2)) ((k73 : Nat) : Int)) k99).Value) == ((gt (impl_GroupAlone_m ((k73 : Nat) : Int) (spec_RouteRows_m ((spec_DrawGroupShared_m x0).1) ((k73 : Nat) : Int)) ((spec_DrawGroupShared_m x0).2.1) ((spec_DrawGroupShared_m x0).2.2)) k99).Value)) && (((gt (impl_GroupsOf_m (spec_GroupShared_m ((spec_DrawGroupShared_m x0).1) ((spec_DrawGroupShared_m x0).2.1) ((spec_DrawGroupShared_m x0).2.2)) ((k73 : Nat) : Int)) k99).Count) == ((gt (impl_GroupAlone_m ((k73 : Nat) : Int) (spec_RouteRows_m ((spec_DrawGroupShared_m x0).1) ((k73 : Nat) : Int)) ((spec_DrawGroupShared_m x0).2.1) ((spec_DrawGroupShared_m x0).2.2)) k99).Count)) && (((gt (impl_GroupsOf_m (spec_GroupShared_m ((spec_DrawGroupShared_m x0).1) ((spec_DrawGroupShared_m x0).2.1) ((spec_DrawGroupShared_m x0).2.2)) ((k73 : Nat) : Int)) k99).Sum) == ((gt (impl_GroupAlone_m ((k73 : Nat) : Int) (spec_RouteRows_m ((spec_DrawGroupShared_m x0).1) ((k73 : Nat) : Int)) ((spec_DrawGroupShared_m x0).2.1) ((spec_DrawGroupShared_m x0).2.2)) k99).Sum)))) (Sum.inl false) (Sum.inr ())
def laws_FnGroups_b3 (x0 : (List Int)) (k73 : Nat) : Bool ⊕ (Unit) :=
 cond ((((impl_GroupsOf_m (spec_GroupShared_m ((spec_DrawGroupShared_m x0).1) ((spec_DrawGroupShared_m x0).2.1) ((spec_DrawGroupShared_m x0).2.2)) ((k73 : Nat) : Int)).length : Nat) : Int) != (((impl_GroupAlone_m ((k73 : Nat) : Int) (spec_RouteRows_m ((spec_DrawGroupShared_m x0).1) ((k73 : Nat) : Int)) ((spec_DrawGroupShared_m x0).2.1) ((spec_DrawGroupShared_m x0).2.2)).length : Nat) : Int)) (Sum.inl false) (Sum.elim Sum.inl (fun (s : Unit) => Sum.inr ()) (rng (R := Bool) (fun k (_ : Unit) => laws_FnGroups_b4 x0 k73 k) ((impl_GroupsOf_m (spec_GroupShared_m ((spec_DrawGroupShared_m x0).1) ((spec_DrawGroupShared_m x0).2.1) ((spec_DrawGroupShared_m x0).2.2)) ((k73 : Nat) : Int)).length - 0) 0 ()))
def laws_FnGroups_b2 (x0 : (List Int)) (k51 : Nat) : Bool ⊕ (Unit) :=
 cond (spec_IsSet_m ((gt ((spec_DrawGroupShared_m x0).1) k51).Set)) (Sum.inr ()) (Sum.inl true)
def laws_FnGroups_b1 (x0 : (List Int)) (k27 : Nat) : Bool ⊕ (Unit) :=
 cond (!((((gt (impl_GroupShared_m ((spec_DrawGroupShared_m x0).1) ((spec_DrawGroupShared_m x0).2.1) ((spec_DrawGroupShared_m x0).2.2)) k27).Query) == ((gt (spec_GroupShared_m ((spec_DrawGroupShared_m x0).1) ((spec_DrawGroupShared_m x0).2.1) ((spec_DrawGroupShared_m x0).2.2)) k27).Query)) && (((gt (impl_GroupShared_m ((spec_DrawGroupShared_m x0).1) ((spec_DrawGroupShared_m x0).2.1) ((spec_DrawGroupShared_m x0).2.2)) k27).Value) == ((gt (spec_GroupShared_m ((spec_DrawGroupShared_m x0).1) ((spec_DrawGroupShared_m x0).2.1) ((spec_DrawGroupShared_m x0).2.2)) k27).Value)) && (((gt (impl_GroupShared_m ((spec_DrawGroupShared_m x0).1) ((spec_DrawGroupShared_m x0).2.1) ((spec_DrawGroupShared_m x0).2.2)) k27).Count) == ((gt (spec_GroupShared_m ((spec_DrawGroupShared_m x0).1) ((spec_DrawGroupShared_m x0).2.1) ((spec_DrawGroupShared_m x0).2.2)) k27).Count)) && (((gt (impl_GroupShared_m ((spec_DrawGroupShared_m x0).1) ((spec_DrawGroupShared_m x0).2.1) ((spec_DrawGroupShared_m x0).2.2)) k27).Sum) == ((gt (spec_GroupShared_m ((spec_DrawGroupShared_m x0).1) ((spec_DrawGroupShared_m x0).2.1) ((spec_DrawGroupShared_m x0).2.2)) k27).Sum)))) (Sum.inl false) (cond (eqS (impl_FormatGroup_m (gt (impl_GroupShared_m ((spec_DrawGroupShared_m x0).1) ((spec_DrawGroupShared_m x0).2.1) ((spec_DrawGroupShared_m x0).2.2)) k27)) (spec_FormatGroup_m (gt (impl_GroupShared_m ((spec_DrawGroupShared_m x0).1) ((spec_DrawGroupShared_m x0).2.1) ((spec_DrawGroupShared_m x0).2.2)) k27))) (cond (decide (0 < ((k27 : Nat) : Int))) (cond (decide (((gt (impl_GroupShared_m ((spec_DrawGroupShared_m x0).1) ((spec_DrawGroupShared_m x0).2.1) ((spec_DrawGroupShared_m x0).2.2)) k27).Query) < ((gt (impl_GroupShared_m ((spec_DrawGroupShared_m x0).1) ((spec_DrawGroupShared_m x0).2.1) ((spec_DrawGroupShared_m x0).2.2)) (k27 - 1)).Query))) (Sum.inl false) (cond (((gt (impl_GroupShared_m ((spec_DrawGroupShared_m x0).1) ((spec_DrawGroupShared_m x0).2.1) ((spec_DrawGroupShared_m x0).2.2)) k27).Query) == ((gt (impl_GroupShared_m ((spec_DrawGroupShared_m x0).1) ((spec_DrawGroupShared_m x0).2.1) ((spec_DrawGroupShared_m x0).2.2)) (k27 - 1)).Query)) (cond (decide (((gt (impl_GroupShared_m ((spec_DrawGroupShared_m x0).1) ((spec_DrawGroupShared_m x0).2.1) ((spec_DrawGroupShared_m x0).2.2)) k27).Value) ≤ ((gt (impl_GroupShared_m ((spec_DrawGroupShared_m x0).1) ((spec_DrawGroupShared_m x0).2.1) ((spec_DrawGroupShared_m x0).2.2)) (k27 - 1)).Value))) (Sum.inl false) (Sum.inr ())) (Sum.inr ()))) (Sum.inr ())) (Sum.inl false))
def laws_FnGroups_m (x0 : (List Int)) : Bool :=
 cond (laws_big_m x0) true (cond ((((impl_GroupShared_m ((spec_DrawGroupShared_m x0).1) ((spec_DrawGroupShared_m x0).2.1) ((spec_DrawGroupShared_m x0).2.2)).length : Nat) : Int) != (((spec_GroupShared_m ((spec_DrawGroupShared_m x0).1) ((spec_DrawGroupShared_m x0).2.1) ((spec_DrawGroupShared_m x0).2.2)).length : Nat) : Int)) false (Sum.elim id (fun (s1_ : Unit) => Sum.elim id (fun (s2_ : Unit) => Sum.elim id (fun (s : Unit) => true) (rng (R := Bool) (fun k (_ : Unit) => laws_FnGroups_b3 x0 k) (8 - 0) 0 ())) (rng (R := Bool) (fun k (_ : Unit) => laws_FnGroups_b2 x0 k) (((spec_DrawGroupShared_m x0).1).length - 0) 0 ())) (rng (R := Bool) (fun k (_ : Unit) => laws_FnGroups_b1 x0 k) ((impl_GroupShared_m ((spec_DrawGroupShared_m x0).1) ((spec_DrawGroupShared_m x0).2.1) ((spec_DrawGroupShared_m x0).2.2)).length - 0) 0 ())))
theorem cb7 : Cb Tryd.prog 7 := ⟨f7, _, func7, rfl, by decide⟩
theorem laws_FnGroups_c (w : World) (z0 : Value) (x0 : (List Int)) (r_0 : rdS tU8 w w.heap.size z0 x0) (hT : TabOK w.heap.size w) :
  Calls Tryd.prog 7 #[z0] w fun e w' => e = .returned (.bool (laws_FnGroups_m x0)) ∧ Below w.heap.size w w' := by
 have ok0 := r_0.1
 obtain ⟨m1, A2, c3, rfl, q4, r5⟩ := rdS_op r_0
 refine ce1 (L := [(0, .slice A2 x0.length c3)]) (N := 156) func7 ?_
 refine sr (wa (nt' (CM_seq (sr (wm ?_)))))
 refine wcv (cl_fn cb21 rfl) (fun W hm => laws_big_c W _ x0 (hm.rdS0 r5)) ?_
 refine nt' ?_
 rcases Bool.eq_false_or_eq_true (laws_big_m x0) with g7 | g7
 ·
  refine CM_condT rfl g7 ?_
  refine sr (wa (nt' (CM_ret (QM_then_ret ?_))))
  exact rtb (h := cond_t g7 (rfl))
 ·
  have hl0 := of_decide_eq_false (p := 1048576 < ((x0.length : Nat) : Int)) g7
  refine CM_condF rfl g7 ?_
  refine CM_skip (QM_then (sr (wm ?_)))
  refine WM_call (χ := Value) (val := fun x => .tuple #[x, .int .i64 ((spec_DrawGroupShared_m x0).2.1), .int .i64 ((spec_DrawGroupShared_m x0).2.2)]) (js := fun x => [iOwn (tSl tyAnnotated 72) [x] ((spec_DrawGroupShared_m x0).1)]) (cl_fn cb41 rfl) (fun W hm => spec_DrawGroupShared_c W _ x0 (hm.rdS0 r5) (by omega)) (Wd_none rfl) (by decide) (fun z8 => ?_)
  have hdg := spec_DrawGroupShared_fact x0
  have HQ := Nat.le_trans hdg.2 (show 216 ≤ 68719476736 by decide)
  refine WM_form (n := 0) rfl ?_
  rintro A9 c10 rfl m11
  refine wm ?_
  refine wv (fun W hm => rv_extract rfl rfl) ?_
  refine wv (fun W hm => rv_extract rfl rfl) ?_
  refine wv (fun W hm => rv_extract rfl rfl) ?_
  refine wa (wa (wa (nt' (sr (wm (wm (wm ?_)))))))
  refine wcl (tSl tyGroup 25) (impl_GroupShared_m ((spec_DrawGroupShared_m x0).1) ((spec_DrawGroupShared_m x0).2.1) ((spec_DrawGroupShared_m x0).2.2)) (cl_fn cb42 rfl) (fun W hm => impl_GroupShared_c W _ ((spec_DrawGroupShared_m x0).1) ((spec_DrawGroupShared_m x0).2.1) ((spec_DrawGroupShared_m x0).2.2) (hm.rdSI (n := 0) rfl) (annP_sm hdg.1 (by omega)) (HQ)) (fun z13 => ?_)
  have hgl := Nat.le_trans (GroupShared_len (spec_DrawGroupShared_m x0).1 (spec_DrawGroupShared_m x0).2.1 (spec_DrawGroupShared_m x0).2.2) hdg.2
  have hgr := impl_GS_rng (spec_DrawGroupShared_m x0).1 (spec_DrawGroupShared_m x0).2.1 (spec_DrawGroupShared_m x0).2.2
  obtain ⟨G14, hG14⟩ : ∃ G, G = (impl_GroupShared_m ((spec_DrawGroupShared_m x0).1) ((spec_DrawGroupShared_m x0).2.1) ((spec_DrawGroupShared_m x0).2.2)) := ⟨_, rfl⟩
  rw [← hG14]
  rw [← hG14] at hgl
  rw [← hG14] at hgr
  refine WM_form (n := 0) rfl ?_
  rintro A15 c16 rfl m17
  refine wa (nt' (sr (wm (wm (wm ?_)))))
  refine wcl (tSl tyGroup 25) (spec_GroupShared_m ((spec_DrawGroupShared_m x0).1) ((spec_DrawGroupShared_m x0).2.1) ((spec_DrawGroupShared_m x0).2.2)) (cl_fn cb43 rfl) (fun W hm => spec_GroupShared_c W _ ((spec_DrawGroupShared_m x0).1) ((spec_DrawGroupShared_m x0).2.1) ((spec_DrawGroupShared_m x0).2.2) (hm.rdSI (n := 1) rfl) (annP_sm hdg.1 (by omega)) (HQ)) (fun z19 => ?_)
  have hwl := Nat.le_trans (spec_GS_len (spec_DrawGroupShared_m x0).1 (spec_DrawGroupShared_m x0).2.1 (spec_DrawGroupShared_m x0).2.2) hdg.2
  obtain ⟨G20, hG20⟩ : ∃ G, G = (spec_GroupShared_m ((spec_DrawGroupShared_m x0).1) ((spec_DrawGroupShared_m x0).2.1) ((spec_DrawGroupShared_m x0).2.2)) := ⟨_, rfl⟩
  rw [← hG20]
  rw [← hG20] at hwl
  refine WM_form (n := 0) rfl ?_
  rintro A21 c22 rfl m23
  refine wa (nt' (CM_seq (sr (wm ?_))))
  refine wv (vlen underlying68) ?_
  refine wm ?_
  refine wv (vlen underlying68) ?_
  refine wv vneq ?_
  refine nt' ?_
  by_cases h25 : ((G14.length : Nat) : Int) = ((G20.length : Nat) : Int)
  ·have g26 : (((G14.length : Nat) : Int) != ((G20.length : Nat) : Int)) = false := by rw [h25]; exact bne_self_eq_false _
   refine CM_condF rfl g26 ?_
   refine CM_skip (QM_then (CM_seq (sr (wa (nt' (CM_block ?_))))))
   let F1 := fun k (_ : Unit) => laws_FnGroups_b1 x0 k
   let R5 := rng (R := Bool) F1
   let I10 : It := iOwn (tSl tyGroup 25) [.slice A21 G20.length c22] G20
   let I11 : It := iOwn (tSl tyGroup 25) [.slice A15 G14.length c16] G14
   let I12 : It := iOwn (tSl tyAnnotated 72) [.slice A9 ((spec_DrawGroupShared_m x0).1).length c10] ((spec_DrawGroupShared_m x0).1)
   refine CM_loop (σ := Nat × (Unit) × (Unit)) (fun s => [(3, .slice A9 ((spec_DrawGroupShared_m x0).1).length c10), (4, .int .i64 ((spec_DrawGroupShared_m x0).2.1)), (5, .int .i64 ((spec_DrawGroupShared_m x0).2.2)), (6, .slice A15 G14.length c16), (7, .slice A21 G20.length c22), (8, .int .i64 ((s.1 : Nat) : Int))]) (fun s => [I10, I11, I12]) (fun s => s.1 ≤ G14.length ∧ R5 (G14.length - s.1) s.1 s.2.1 = R5 (G14.length - 0) 0 ()) (fun s => G14.length - s.1) (0, (), ()) sl6 (fun W hm => hm) ⟨(by omega), rfl⟩ ?_
   rintro ⟨k27, ⟨⟩, ⟨⟩⟩ H30
   obtain ⟨hk28, hF29⟩ : k27 ≤ G14.length ∧ R5 (G14.length - k27) k27 () = R5 (G14.length - 0) 0 () := H30
   show CM Tryd.prog 156 _ _ _ _ [(3, .slice A9 ((spec_DrawGroupShared_m x0).1).length c10), (4, .int .i64 ((spec_DrawGroupShared_m x0).2.1)), (5, .int .i64 ((spec_DrawGroupShared_m x0).2.2)), (6, .slice A15 G14.length c16), (7, .slice A21 G20.length c22), (8, .int .i64 ((k27 : Nat) : Int))] [I10, I11, I12]
   refine CM_seq (sr (wm (wm ?_)))
   refine wv (vlen underlying68) ?_
   refine wv vlss ?_
   refine nt' ?_
   by_cases hl31 : k27 < G14.length
   ·have g32 := dlT hl31
    have hc := hgr k27 (by omega)
    refine CM_condT rfl g32 ?_
    refine CM_skip (QM_then (CM_seq (CM_block (CM_seq ?_))))
    refine CM_formO (n := 1) rfl (by omega) ?_
    rintro g33 rfl
    refine CM_formO (n := 0) rfl (by omega) ?_
    rintro g34 rfl
    refine CM_regionD (by kernel_rfl) (by kernel_rfl) ?_
    refine qm (qm ?_)
    refine qv (vix 4 k27 underlying68 type25) ?_
    let K9 : List Value := [.int .i64 ((gt G14 k27).Query), .int .i64 ((gt G14 k27).Value), .int .i64 ((gt G14 k27).Count), .int .i64 ((gt G14 k27).Sum)]
    refine qv (fun W hm => rv_loadN (cs := K9) underlying25 type25 rfl rfl (Mem.ownCells (F := fun x => [.int .i64 x.Query, .int .i64 x.Value, .int .i64 x.Count, .int .i64 x.Sum]) tyGroup_rd hm (i := 1) rfl (by omega) rfl)) ?_
    refine qm (qm ?_)
    refine qv (vix 4 k27 underlying68 type25) ?_
    refine qv (fun W hm => rv_loadN (cs := [.int .i64 ((gt G20 k27).Query), .int .i64 ((gt G20 k27).Value), .int .i64 ((gt G20 k27).Count), .int .i64 ((gt G20 k27).Sum)]) underlying25 type25 rfl rfl (Mem.ownCells (F := fun x => [.int .i64 x.Query, .int .i64 x.Value, .int .i64 x.Count, .int .i64 x.Sum]) tyGroup_rd hm (i := 0) rfl (by omega) rfl)) ?_
    refine qv (fun W hm => rv_binA rfl rfl (run_eqGuard_agg W _ 25 _ _ _ _ (by kernel_rfl)) (tyGroup_neq W)) ?_
    refine qm ?_
    rcases Bool.eq_false_or_eq_true (!((((gt G14 k27).Query) == ((gt G20 k27).Query)) && (((gt G14 k27).Value) == ((gt G20 k27).Value)) && (((gt G14 k27).Count) == ((gt G20 k27).Count)) && (((gt G14 k27).Sum) == ((gt G20 k27).Sum)))) with g36 | g36
    ·
     refine qs g36 ?_
     refine qs g36 ?_
     refine qs g36 ?_
     refine qs g36 ?_
     refine qs g36 ?_
     refine qs g36 ?_
     refine qs g36 ?_
     refine qs g36 ?_
     refine qs g36 ?_
     refine qs g36 ?_
     refine qs g36 ?_
     refine qv (vpT g36) ?_
     refine qm ?_
     refine QR_skip (Wd_some rfl rfl rfl rfl) rfl (by decide) ?_
     refine QR_skip (Wd_some rfl rfl rfl rfl) rfl (by decide) ?_
     refine QR_skip (Wd_some rfl rfl rfl rfl) rfl (by decide) ?_
     refine qu ?_
     refine qu ?_
     refine qu ?_
     refine qu ?_
     refine qu ?_
     refine qu ?_
     refine qu ?_
     refine qu ?_
     refine qu ?_
     refine qu ?_
     refine qu ?_
     refine qu ?_
     refine qu ?_
     refine qu ?_
     refine qu ?_
     refine qu ?_
     refine qu ?_
     refine qu ?_
     refine qu ?_
     refine qu ?_
     refine qu ?_
     refine qu ?_
     refine qu ?_
     refine qu ?_
     refine qu ?_
     refine qu ?_
     refine qu ?_
     refine qu ?_
     refine qu ?_
     refine qu ?_
     refine qu ?_
     refine qu ?_
     refine qu ?_
     refine qu ?_
     refine qu ?_
     refine qu ?_
     refine qu ?_
     refine qu ?_
     refine qu ?_
     refine qu ?_
     refine QR_skip (Wd_some rfl rfl rfl rfl) rfl (by decide) ?_
     refine qv (vpT rfl) ?_
     refine nq' ?_
     refine CM_condT rfl rfl ?_
     refine sr (wa (nt' (CM_ret (QM_block_ret (QM_then_ret (QM_then_ret (QM_block_ret (QM_then_ret ?_))))))))
     exact rtb (h := by subst hG14 hG20; exact cond_f g7 (cond_f g26 (fin_inl (rng_ret (body := F1) (k := k27) (s := ()) (by omega) (cond_t g36 (rfl)) hF29) rfl)))
    ·
     refine qg vmv g36 ?_
     refine qg vmv g36 ?_
     refine qg (vix 4 k27 underlying68 type25) g36 ?_
     refine qg (fun W hm => rv_loadN (cs := K9) underlying25 type25 rfl rfl (Mem.ownCells (F := fun x => [.int .i64 x.Query, .int .i64 x.Value, .int .i64 x.Count, .int .i64 x.Sum]) tyGroup_rd hm (i := 1) rfl (by omega) rfl)) g36 ?_
     refine QR_callV (cl_fn cb10 rfl) (fun W hm => impl_FormatGroup_c W _ (gt G14 k27) (tyGroup_mk (x := (gt G14 k27))) (hc) (hT.mem hm)) (Wd_some rfl rfl rfl (bw g36 rfl)) (by decide) ?_
     refine qg vmv g36 ?_
     refine qg vmv g36 ?_
     refine qg (vix 4 k27 underlying68 type25) g36 ?_
     refine qg (fun W hm => rv_loadN (cs := K9) underlying25 type25 rfl rfl (Mem.ownCells (F := fun x => [.int .i64 x.Query, .int .i64 x.Value, .int .i64 x.Count, .int .i64 x.Sum]) tyGroup_rd hm (i := 1) rfl (by omega) rfl)) g36 ?_
     refine QR_callV (cl_fn cb8 rfl) (fun W hm => spec_FormatGroup_c W _ (gt G14 k27) (tyGroup_mk (x := (gt G14 k27))) (hc)) (Wd_some rfl rfl rfl (bw g36 rfl)) (by decide) ?_
     refine qg (fun W hm => rv_neqS (p := (impl_FormatGroup_m (gt G14 k27))) (q := (spec_FormatGroup_m (gt G14 k27))) underlying9 rfl rfl) g36 ?_
     refine qv (vpF g36) ?_
     refine qm ?_
     rcases Bool.eq_false_or_eq_true (eqS (impl_FormatGroup_m (gt G14 k27)) (spec_FormatGroup_m (gt G14 k27))) with g38 | g38
     ·
      refine qg vmv (nt g38) ?_
      refine qg (fun W hm => rv_gtr rfl rfl) (nt g38) ?_
      refine qg vmv (nt g38) ?_
      by_cases h39 : 0 < ((k27 : Nat) : Int)
      ·have g40 := decide_eq_true h39
       refine qg vmv g40 ?_
       refine qg vmv g40 ?_
       refine qg (vix 4 k27 underlying68 type25) g40 ?_
       refine qg (vf underlying25 rfl type3) g40 ?_
       refine qg (fun W hm => rv_load underlying3 rfl rfl (Mem.ownCells (F := fun x => [.int .i64 x.Query, .int .i64 x.Value, .int .i64 x.Count, .int .i64 x.Sum]) tyGroup_rd hm (i := 1) rfl (by omega) rfl 0 _ rfl)) g40 ?_
       refine qg vmv g40 ?_
       refine qg vmv g40 ?_
       refine qg (fun W hm => rv_subN (p := k27) (q := 1) rfl rfl (by omega) (by omega)) g40 ?_
       refine qg (fun W hm => rv_index (sz := 4) (k := k27 - 1) underlying68 type25 rfl rfl rfl (by omega)) g40 ?_
       refine qg (vf underlying25 rfl type3) g40 ?_
       refine qg (fun W hm => rv_load underlying3 rfl rfl (Mem.ownCells (F := fun x => [.int .i64 x.Query, .int .i64 x.Value, .int .i64 x.Count, .int .i64 x.Sum]) tyGroup_rd hm (i := 1) rfl (by omega) rfl 0 _ rfl)) g40 ?_
       refine qg vlss g40 ?_
       refine qg vmv g40 ?_
       by_cases h41 : ((gt G14 k27).Query) < ((gt G14 (k27 - 1)).Query)
       ·have g42 := decide_eq_true h41
        refine qs g42 ?_
        refine qs g42 ?_
        refine qs g42 ?_
        refine qs g42 ?_
        refine qs g42 ?_
        refine qs g42 ?_
        refine qs g42 ?_
        refine qs g42 ?_
        refine qs g42 ?_
        refine qs g42 ?_
        refine qs g42 ?_
        refine qs g42 ?_
        refine qs g42 ?_
        refine qu ?_
        refine qu ?_
        refine qu ?_
        refine qu ?_
        refine qu ?_
        refine qu ?_
        refine qu ?_
        refine qu ?_
        refine qu ?_
        refine qu ?_
        refine qu ?_
        refine qu ?_
        refine qs g42 ?_
        refine qg (vpT g42) g40 ?_
        refine qg (vpT g40) (nt g38) ?_
        refine qv (vpF (nt g38)) ?_
        refine nq' ?_
        refine CM_condT rfl rfl ?_
        refine sr (wa (nt' (CM_ret (QM_block_ret (QM_then_ret (QM_then_ret (QM_block_ret (QM_then_ret ?_))))))))
        exact rtb (h := by subst hG14 hG20; exact cond_f g7 (cond_f g26 (fin_inl (rng_ret (body := F1) (k := k27) (s := ()) (by omega) (cond_f g36 (cond_t g38 (cond_t g40 (cond_t g42 (rfl))))) hF29) rfl)))
       ·have g42 := decide_eq_false h41
        refine qg vmv g42 ?_
        refine qg vmv g42 ?_
        refine qg (vix 4 k27 underlying68 type25) g42 ?_
        refine qg (vf underlying25 rfl type3) g42 ?_
        refine qg (fun W hm => rv_load underlying3 rfl rfl (Mem.ownCells (F := fun x => [.int .i64 x.Query, .int .i64 x.Value, .int .i64 x.Count, .int .i64 x.Sum]) tyGroup_rd hm (i := 1) rfl (by omega) rfl 0 _ rfl)) g42 ?_
        refine qg vmv g42 ?_
        refine qg vmv g42 ?_
        refine qg (fun W hm => rv_subN (p := k27) (q := 1) rfl rfl (by omega) (by omega)) g42 ?_
        refine qg (fun W hm => rv_index (sz := 4) (k := k27 - 1) underlying68 type25 rfl rfl rfl (by omega)) g42 ?_
        refine qg (vf underlying25 rfl type3) g42 ?_
        refine qg (fun W hm => rv_load underlying3 rfl rfl (Mem.ownCells (F := fun x => [.int .i64 x.Query, .int .i64 x.Value, .int .i64 x.Count, .int .i64 x.Sum]) tyGroup_rd hm (i := 1) rfl (by omega) rfl 0 _ rfl)) g42 ?_
        refine qg (fun W hm => rv_eql rfl rfl) g42 ?_
        refine qg vmv g42 ?_
        by_cases h43 : ((gt G14 k27).Query) = ((gt G14 (k27 - 1)).Query)
        ·have g44 := beq_iff_eq.2 h43
         refine qg vmv g44 ?_
         refine qg vmv g44 ?_
         refine qg (vix 4 k27 underlying68 type25) g44 ?_
         refine qg (vf underlying25 rfl type3) g44 ?_
         refine qg (fun W hm => rv_load underlying3 rfl rfl (Mem.ownCells (F := fun x => [.int .i64 x.Query, .int .i64 x.Value, .int .i64 x.Count, .int .i64 x.Sum]) tyGroup_rd hm (i := 1) rfl (by omega) rfl 1 _ rfl)) g44 ?_
         refine qg vmv g44 ?_
         refine qg vmv g44 ?_
         refine qg (fun W hm => rv_subN (p := k27) (q := 1) rfl rfl (by omega) (by omega)) g44 ?_
         refine qg (fun W hm => rv_index (sz := 4) (k := k27 - 1) underlying68 type25 rfl rfl rfl (by omega)) g44 ?_
         refine qg (vf underlying25 rfl type3) g44 ?_
         refine qg (fun W hm => rv_load underlying3 rfl rfl (Mem.ownCells (F := fun x => [.int .i64 x.Query, .int .i64 x.Value, .int .i64 x.Count, .int .i64 x.Sum]) tyGroup_rd hm (i := 1) rfl (by omega) rfl 1 _ rfl)) g44 ?_
         refine qg (fun W hm => rv_leq rfl rfl) g44 ?_
         refine qg (vpT g44) g42 ?_
         refine qg (vpF g42) g40 ?_
         refine qg (vpT g40) (nt g38) ?_
         refine qv (vpF (nt g38)) ?_
         refine nq' ?_
         by_cases h45 : ((gt G14 k27).Value) ≤ ((gt G14 (k27 - 1)).Value)
         ·have g46 := decide_eq_true h45
          refine CM_condT rfl g46 ?_
          refine sr (wa (nt' (CM_ret (QM_block_ret (QM_then_ret (QM_then_ret (QM_block_ret (QM_then_ret ?_))))))))
          exact rtb (h := by subst hG14 hG20; exact cond_f g7 (cond_f g26 (fin_inl (rng_ret (body := F1) (k := k27) (s := ()) (by omega) (cond_f g36 (cond_t g38 (cond_t g40 (cond_f g42 (cond_t g44 (cond_t g46 (rfl))))))) hF29) rfl)))
         ·have g46 := decide_eq_false h45
          refine CM_condF rfl g46 ?_
          refine CM_skip (QM_block_normal (QM_then (CM_region (wm ?_))))
          refine wv (vadN k27 1 (by omega)) ?_
          refine wa (WM_nil ?_)
          have hn47 := rng_next (R := Bool) (body := F1) (k := k27) (s := ()) (s' := ()) (show k27 < G14.length from by omega) (by subst hG14 hG20; exact cond_f g36 (cond_t g38 (cond_t g40 (cond_f g42 (cond_t g44 (cond_f g46 (rfl))))))) hF29
          exact QM_round (k27 + 1, (), ()) sl6 (fun W hm => hm) ⟨(by omega), hn47⟩ (rl (by omega))
        ·have g44 := beq_eq_false_iff_ne.2 h43
         refine qs g44 ?_
         refine qs g44 ?_
         refine qs g44 ?_
         refine qs g44 ?_
         refine qs g44 ?_
         refine qs g44 ?_
         refine qs g44 ?_
         refine qs g44 ?_
         refine qs g44 ?_
         refine qs g44 ?_
         refine qs g44 ?_
         refine qs g44 ?_
         refine qg (vpF g44) g42 ?_
         refine qg (vpF g42) g40 ?_
         refine qg (vpT g40) (nt g38) ?_
         refine qv (vpF (nt g38)) ?_
         refine nq' ?_
         refine CM_condF rfl rfl ?_
         refine CM_skip (QM_block_normal (QM_then (CM_region (wm ?_))))
         refine wv (vadN k27 1 (by omega)) ?_
         refine wa (WM_nil ?_)
         have hn48 := rng_next (R := Bool) (body := F1) (k := k27) (s := ()) (s' := ()) (show k27 < G14.length from by omega) (by subst hG14 hG20; exact cond_f g36 (cond_t g38 (cond_t g40 (cond_f g42 (cond_f g44 (rfl)))))) hF29
         exact QM_round (k27 + 1, (), ()) sl6 (fun W hm => hm) ⟨(by omega), hn48⟩ (rl (by omega))
      ·have g40 := decide_eq_false h39
       refine qs g40 ?_
       refine qs g40 ?_
       refine qs g40 ?_
       refine qs g40 ?_
       refine qs g40 ?_
       refine qs g40 ?_
       refine qs g40 ?_
       refine qs g40 ?_
       refine qs g40 ?_
       refine qs g40 ?_
       refine qs g40 ?_
       refine qs g40 ?_
       refine qs g40 ?_
       refine qu ?_
       refine qu ?_
       refine qu ?_
       refine qu ?_
       refine qu ?_
       refine qu ?_
       refine qu ?_
       refine qu ?_
       refine qu ?_
       refine qu ?_
       refine qu ?_
       refine qu ?_
       refine qu ?_
       refine qu ?_
       refine qu ?_
       refine qu ?_
       refine qu ?_
       refine qu ?_
       refine qu ?_
       refine qu ?_
       refine qu ?_
       refine qu ?_
       refine qu ?_
       refine qu ?_
       refine qu ?_
       refine qu ?_
       refine qs g40 ?_
       refine qg (vpF g40) (nt g38) ?_
       refine qv (vpF (nt g38)) ?_
       refine nq' ?_
       refine CM_condF rfl rfl ?_
       refine CM_skip (QM_block_normal (QM_then (CM_region (wm ?_))))
       refine wv (vadN k27 1 (by omega)) ?_
       refine wa (WM_nil ?_)
       have hn49 := rng_next (R := Bool) (body := F1) (k := k27) (s := ()) (s' := ()) (show k27 < G14.length from by omega) (by subst hG14 hG20; exact cond_f g36 (cond_t g38 (cond_f g40 (rfl)))) hF29
       exact QM_round (k27 + 1, (), ()) sl6 (fun W hm => hm) ⟨(by omega), hn49⟩ (rl (by omega))
     ·
      refine qs (nf g38) ?_
      refine qs (nf g38) ?_
      refine qs (nf g38) ?_
      refine qu ?_
      refine qu ?_
      refine qu ?_
      refine qu ?_
      refine qu ?_
      refine qu ?_
      refine qu ?_
      refine qu ?_
      refine qu ?_
      refine qu ?_
      refine qu ?_
      refine qu ?_
      refine qu ?_
      refine qu ?_
      refine qu ?_
      refine qu ?_
      refine qu ?_
      refine qu ?_
      refine qu ?_
      refine qu ?_
      refine qu ?_
      refine qu ?_
      refine qu ?_
      refine qu ?_
      refine qu ?_
      refine qu ?_
      refine qu ?_
      refine qu ?_
      refine qu ?_
      refine qu ?_
      refine qu ?_
      refine qu ?_
      refine qu ?_
      refine qu ?_
      refine qu ?_
      refine qu ?_
      refine qu ?_
      refine qu ?_
      refine qu ?_
      refine qu ?_
      refine qs (nf g38) ?_
      refine qv (vpT (nf g38)) ?_
      refine nq' ?_
      refine CM_condT rfl rfl ?_
      refine sr (wa (nt' (CM_ret (QM_block_ret (QM_then_ret (QM_then_ret (QM_block_ret (QM_then_ret ?_))))))))
      exact rtb (h := by subst hG14 hG20; exact cond_f g7 (cond_f g26 (fin_inl (rng_ret (body := F1) (k := k27) (s := ()) (by omega) (cond_f g36 (cond_f g38 (rfl))) hF29) rfl)))
   ·have g32 := dlF hl31
    refine CM_condF rfl g32 ?_
    refine CM_exit (QM_then_exit (QM_then_exit ?_))
    have hE50 : R5 (G14.length - 0) 0 () = Sum.inr () := rng_end hl31 hF29
    refine QM_block_hit (QM_then (CM_seq (sr (wa (nt' (CM_block ?_))))))
    let F2 := fun k (_ : Unit) => laws_FnGroups_b2 x0 k
    let R6 := rng (R := Bool) F2
    refine CM_loop (σ := Nat × (Unit) × (Unit)) (fun s => [(3, .slice A9 ((spec_DrawGroupShared_m x0).1).length c10), (4, .int .i64 ((spec_DrawGroupShared_m x0).2.1)), (5, .int .i64 ((spec_DrawGroupShared_m x0).2.2)), (7, .slice A21 G20.length c22), (9, .int .i64 ((s.1 : Nat) : Int))]) (fun s => [I10, I11, I12]) (fun s => s.1 ≤ ((spec_DrawGroupShared_m x0).1).length ∧ R6 (((spec_DrawGroupShared_m x0).1).length - s.1) s.1 s.2.1 = R6 (((spec_DrawGroupShared_m x0).1).length - 0) 0 ()) (fun s => ((spec_DrawGroupShared_m x0).1).length - s.1) (0, (), ()) sl5 (fun W hm => hm) ⟨(by omega), rfl⟩ ?_
    rintro ⟨k51, ⟨⟩, ⟨⟩⟩ H54
    obtain ⟨hk52, hF53⟩ : k51 ≤ ((spec_DrawGroupShared_m x0).1).length ∧ R6 (((spec_DrawGroupShared_m x0).1).length - k51) k51 () = R6 (((spec_DrawGroupShared_m x0).1).length - 0) 0 () := H54
    show CM Tryd.prog 156 _ _ _ _ [(3, .slice A9 ((spec_DrawGroupShared_m x0).1).length c10), (4, .int .i64 ((spec_DrawGroupShared_m x0).2.1)), (5, .int .i64 ((spec_DrawGroupShared_m x0).2.2)), (7, .slice A21 G20.length c22), (9, .int .i64 ((k51 : Nat) : Int))] [I10, I11, I12]
    refine CM_seq (sr (wm (wm ?_)))
    refine wv (vlen underlying65) ?_
    refine wv vlss ?_
    refine nt' ?_
    by_cases hl55 : k51 < ((spec_DrawGroupShared_m x0).1).length
    ·have g56 := dlT hl55
     refine CM_condT rfl g56 ?_
     refine CM_skip (QM_then (CM_seq (CM_block (sr (wm (wm ?_))))))
     refine WM_formO (n := 2) rfl (by omega) ?_
     rintro g57 rfl
     refine wv (vix 3 k51 underlying65 type72) ?_
     refine wv (vf underlying72 rfl type28) ?_
     refine WM_focus (E := tyAnnotated) (e := 72) (A := (some ⟨g57, 0, none⟩)) (n := ((spec_DrawGroupShared_m x0).1).length) (c := c10) (xs := (spec_DrawGroupShared_m x0).1) (k := k51) (js := [I10, I11]) (by omega) (pk [2, 0, 1]) (fun ck58 => ?_)
     refine tyAnnotated_sp ?_
     rintro ⟨v59, v60⟩ rfl
     refine WM_form (n := 0) rfl ?_
     rintro A61 c62 rfl m63
     refine WM_form (n := 1) rfl ?_
     rintro A65 c66 rfl m67
     refine wv (fun W hm => rv_load underlying28 rfl rfl (hm.focCells (i := 2) rfl rfl 2 _ rfl)) ?_
     refine wcv (cl_fn cb44 rfl) (fun W hm => spec_IsSet_c W _ ((gt ((spec_DrawGroupShared_m x0).1) k51).Set) (hm.rdSI (n := 1) rfl)) ?_
     refine wv vnot ?_
     refine nt' ?_
     rcases Bool.eq_false_or_eq_true (spec_IsSet_m ((gt ((spec_DrawGroupShared_m x0).1) k51).Set)) with g70 | g70
     ·
      refine CM_condF rfl (nt g70) ?_
      refine CM_skip (QM_block_normal (QM_then (CM_region (wm ?_))))
      refine wv (vadN k51 1 (by omega)) ?_
      refine wa (WM_nil ?_)
      refine QM_items (fun W hm => Mem.unfocus0 (Mem.join (is := [iOwn (tSl tInt 3) [.slice A61 ((gt ((spec_DrawGroupShared_m x0).1) k51).Row.Values).length c62] ((gt ((spec_DrawGroupShared_m x0).1) k51).Row.Values), iOwn (tSl tInt 3) [.slice A65 ((gt ((spec_DrawGroupShared_m x0).1) k51).Set).length c66] ((gt ((spec_DrawGroupShared_m x0).1) k51).Set)]) (js := (iFoc tyAnnotated 72 (some ⟨g57, 0, none⟩) (((spec_DrawGroupShared_m x0).1).length) c10 ((spec_DrawGroupShared_m x0).1) k51 [.int .i64 ((gt ((spec_DrawGroupShared_m x0).1) k51).Row.Id), .slice A61 ((gt ((spec_DrawGroupShared_m x0).1) k51).Row.Values).length c62, .slice A65 ((gt ((spec_DrawGroupShared_m x0).1) k51).Set).length c66] :: [I10, I11])) (fun _ _ hs => tyAnnotated_join (x := (gt ((spec_DrawGroupShared_m x0).1) k51)) hs) hm)) ?_
      have hn71 := rng_next (R := Bool) (body := F2) (k := k51) (s := ()) (s' := ()) (show k51 < ((spec_DrawGroupShared_m x0).1).length from by omega) (by subst hG14 hG20; exact cond_t g70 (rfl)) hF53
      exact QM_round (k51 + 1, (), ()) sl5 (pk [1, 2, 0]) ⟨(by omega), hn71⟩ (show ((spec_DrawGroupShared_m x0).1).length - (k51 + 1) < ((spec_DrawGroupShared_m x0).1).length - k51 from by omega)
     ·
      refine CM_condT rfl (nf g70) ?_
      refine CM_seq ?_
      refine CM_items (pk [3, 4]) ?_
      refine CM_region (wa (nt' (CM_ret (QM_block_ret (QM_then_ret (QM_then_ret (QM_block_ret (QM_then_ret ?_))))))))
      exact rtb (h := by subst hG14 hG20; exact cond_f g7 (cond_f g26 (fin_inr hE50 (fin_inl (rng_ret (body := F2) (k := k51) (s := ()) (by omega) (cond_f g70 (rfl)) hF53) rfl))))
    ·have g56 := dlF hl55
     refine CM_condF rfl g56 ?_
     refine CM_exit (QM_then_exit (QM_then_exit ?_))
     have hE72 : R6 (((spec_DrawGroupShared_m x0).1).length - 0) 0 () = Sum.inr () := rng_end hl55 hF53
     refine QM_block_hit (QM_then (CM_seq (sr (wa (nt' (CM_block ?_))))))
     let F3 := fun k (_ : Unit) => laws_FnGroups_b3 x0 k
     let R7 := rng (R := Bool) F3
     refine CM_loop (σ := Nat × (Unit) × (Unit)) (fun s => [(3, .slice A9 ((spec_DrawGroupShared_m x0).1).length c10), (4, .int .i64 ((spec_DrawGroupShared_m x0).2.1)), (5, .int .i64 ((spec_DrawGroupShared_m x0).2.2)), (7, .slice A21 G20.length c22), (10, .int .i64 ((s.1 : Nat) : Int))]) (fun s => [I10, I11, I12]) (fun s => s.1 ≤ 8 ∧ R7 (8 - s.1) s.1 s.2.1 = R7 (8 - 0) 0 ()) (fun s => 8 - s.1) (0, (), ()) sl5 (fun W hm => hm) ⟨(by omega), rfl⟩ ?_
     rintro ⟨k73, ⟨⟩, ⟨⟩⟩ H76
     obtain ⟨hk74, hF75⟩ : k73 ≤ 8 ∧ R7 (8 - k73) k73 () = R7 (8 - 0) 0 () := H76
     show CM Tryd.prog 156 _ _ _ _ [(3, .slice A9 ((spec_DrawGroupShared_m x0).1).length c10), (4, .int .i64 ((spec_DrawGroupShared_m x0).2.1)), (5, .int .i64 ((spec_DrawGroupShared_m x0).2.2)), (7, .slice A21 G20.length c22), (10, .int .i64 ((k73 : Nat) : Int))] [I10, I11, I12]
     refine CM_seq (sr (wm ?_))
     refine wv vlss ?_
     refine nt' ?_
     by_cases hl77 : k73 < 8
     ·have g78 : (decide (((k73 : Nat) : Int) < 8)) = true := decide_eq_true (by omega)
      refine CM_condT rfl g78 ?_
      refine CM_skip (QM_then (CM_seq (CM_block (sr (wm (wm ?_))))))
      refine wcl (tSl tyGroup 25) (impl_GroupsOf_m G20 ((k73 : Nat) : Int)) (cl_fn cb45 rfl) (fun W hm => impl_GroupsOf_c W _ G20 ((k73 : Nat) : Int) (hm.rdSI (n := 0) rfl) (by first | exact (show _ ≤ 68719476736 from by omega) | exact ⟨by omega, hrp.2⟩)) (fun z79 => ?_)
      obtain ⟨G80, hG80⟩ : ∃ G, G = (impl_GroupsOf_m G20 ((k73 : Nat) : Int)) := ⟨_, rfl⟩
      rw [← hG80]
      refine WM_form (n := 0) rfl ?_
      rintro A81 c82 rfl m83
      refine wa (nt' (sr (wm (wm (wm ?_)))))
      refine wcl (tSl tyRow 43) (spec_RouteRows_m ((spec_DrawGroupShared_m x0).1) ((k73 : Nat) : Int)) (cl_fn cb47 rfl) (fun W hm => spec_RouteRows_c W _ ((spec_DrawGroupShared_m x0).1) ((k73 : Nat) : Int) (hm.rdSI (n := 3) rfl) (annP_sm hdg.1 (by omega))) (fun z85 => ?_)
      have hrp := spec_Route_P hdg.1 ((k73 : Nat) : Int)
      obtain ⟨G86, hG86⟩ : ∃ G, G = (spec_RouteRows_m ((spec_DrawGroupShared_m x0).1) ((k73 : Nat) : Int)) := ⟨_, rfl⟩
      rw [← hG86]
      rw [← hG86] at hrp
      refine WM_form (n := 0) rfl ?_
      rintro A87 c88 rfl m89
      refine wm (wm ?_)
      refine wcl (tSl tyGroup 25) (impl_GroupAlone_m ((k73 : Nat) : Int) G86 ((spec_DrawGroupShared_m x0).2.1) ((spec_DrawGroupShared_m x0).2.2)) (cl_fn cb46 rfl) (fun W hm => impl_GroupAlone_c W ((k73 : Nat) : Int) _ G86 ((spec_DrawGroupShared_m x0).2.1) ((spec_DrawGroupShared_m x0).2.2) (hm.rdSI (n := 0) rfl) (by first | exact (show _ ≤ 68719476736 from by omega) | exact ⟨by omega, hrp.2⟩)) (fun z91 => ?_)
      obtain ⟨G92, hG92⟩ : ∃ G, G = (impl_GroupAlone_m ((k73 : Nat) : Int) G86 ((spec_DrawGroupShared_m x0).2.1) ((spec_DrawGroupShared_m x0).2.2)) := ⟨_, rfl⟩
      rw [← hG92]
      refine WM_form (n := 0) rfl ?_
      rintro A93 c94 rfl m95
      refine wa (nt' (CM_seq (sr (wm ?_))))
      refine wv (vlen underlying68) ?_
      refine wm ?_
      refine wv (vlen underlying68) ?_
      refine wv vneq ?_
      refine nt' ?_
      by_cases h97 : ((G80.length : Nat) : Int) = ((G92.length : Nat) : Int)
      ·have g98 : (((G80.length : Nat) : Int) != ((G92.length : Nat) : Int)) = false := by rw [h97]; exact bne_self_eq_false _
       refine CM_condF rfl g98 ?_
       refine CM_skip (QM_then (sr (wa (nt' (CM_block ?_)))))
       let F4 := fun k (_ : Unit) => laws_FnGroups_b4 x0 k73 k
       let R8 := rng (R := Bool) F4
       refine CM_loop (σ := Nat × (Unit) × (Unit)) (fun s => [(3, .slice A9 ((spec_DrawGroupShared_m x0).1).length c10), (4, .int .i64 ((spec_DrawGroupShared_m x0).2.1)), (5, .int .i64 ((spec_DrawGroupShared_m x0).2.2)), (7, .slice A21 G20.length c22), (10, .int .i64 ((k73 : Nat) : Int)), (11, .slice A81 G80.length c82), (12, .slice A93 G92.length c94), (13, .int .i64 ((s.1 : Nat) : Int))]) (fun s => [iOwn (tSl tyGroup 25) [.slice A93 G92.length c94] G92, iOwn (tSl tyRow 43) [.slice A87 G86.length c88] G86, iOwn (tSl tyGroup 25) [.slice A81 G80.length c82] G80, I10, I11, I12]) (fun s => s.1 ≤ G80.length ∧ R8 (G80.length - s.1) s.1 s.2.1 = R8 (G80.length - 0) 0 ()) (fun s => G80.length - s.1) (0, (), ()) sl8 (fun W hm => hm) ⟨(by omega), rfl⟩ ?_
       rintro ⟨k99, ⟨⟩, ⟨⟩⟩ H102
       obtain ⟨hk100, hF101⟩ : k99 ≤ G80.length ∧ R8 (G80.length - k99) k99 () = R8 (G80.length - 0) 0 () := H102
       show CM Tryd.prog 156 _ _ _ _ [(3, .slice A9 ((spec_DrawGroupShared_m x0).1).length c10), (4, .int .i64 ((spec_DrawGroupShared_m x0).2.1)), (5, .int .i64 ((spec_DrawGroupShared_m x0).2.2)), (7, .slice A21 G20.length c22), (10, .int .i64 ((k73 : Nat) : Int)), (11, .slice A81 G80.length c82), (12, .slice A93 G92.length c94), (13, .int .i64 ((k99 : Nat) : Int))] [iOwn (tSl tyGroup 25) [.slice A93 G92.length c94] G92, iOwn (tSl tyRow 43) [.slice A87 G86.length c88] G86, iOwn (tSl tyGroup 25) [.slice A81 G80.length c82] G80, I10, I11, I12]
       refine CM_seq (sr (wm (wm ?_)))
       refine wv (vlen underlying68) ?_
       refine wv vlss ?_
       refine nt' ?_
       by_cases hl103 : k99 < G80.length
       ·have g104 := dlT hl103
        refine CM_condT rfl g104 ?_
        refine CM_skip (QM_then (CM_seq (CM_block (CM_seq ?_))))
        refine CM_formO (n := 2) rfl (by omega) ?_
        rintro g105 rfl
        refine CM_formO (n := 0) rfl (by omega) ?_
        rintro g106 rfl
        refine CM_regionD (by kernel_rfl) (by kernel_rfl) ?_
        refine qm (qm ?_)
        refine qv (vix 4 k99 underlying68 type25) ?_
        refine qv (fun W hm => rv_loadN (cs := [.int .i64 ((gt G80 k99).Query), .int .i64 ((gt G80 k99).Value), .int .i64 ((gt G80 k99).Count), .int .i64 ((gt G80 k99).Sum)]) underlying25 type25 rfl rfl (Mem.ownCells (F := fun x => [.int .i64 x.Query, .int .i64 x.Value, .int .i64 x.Count, .int .i64 x.Sum]) tyGroup_rd hm (i := 2) rfl (by omega) rfl)) ?_
        refine qm (qm ?_)
        refine qv (vix 4 k99 underlying68 type25) ?_
        refine qv (fun W hm => rv_loadN (cs := [.int .i64 ((gt G92 k99).Query), .int .i64 ((gt G92 k99).Value), .int .i64 ((gt G92 k99).Count), .int .i64 ((gt G92 k99).Sum)]) underlying25 type25 rfl rfl (Mem.ownCells (F := fun x => [.int .i64 x.Query, .int .i64 x.Value, .int .i64 x.Count, .int .i64 x.Sum]) tyGroup_rd hm (i := 0) rfl (by omega) rfl)) ?_
        refine qv (fun W hm => rv_binA rfl rfl (run_eqGuard_agg W _ 25 _ _ _ _ (by kernel_rfl)) (tyGroup_neq W)) ?_
        refine nq' ?_
        rcases Bool.eq_false_or_eq_true (!((((gt G80 k99).Query) == ((gt G92 k99).Query)) && (((gt G80 k99).Value) == ((gt G92 k99).Value)) && (((gt G80 k99).Count) == ((gt G92 k99).Count)) && (((gt G80 k99).Sum) == ((gt G92 k99).Sum)))) with g108 | g108
        ·
         refine CM_condT rfl g108 ?_
         refine sr (wa (nt' (CM_ret (QM_block_ret (QM_then_ret (QM_then_ret (QM_block_ret (QM_block_ret (QM_then_ret (QM_then_ret (QM_block_ret (QM_then_ret ?_))))))))))))
         exact rtb (h := by subst hG14 hG20 hG80 hG86 hG92; exact cond_f g7 (cond_f g26 (fin_inr hE50 (fin_inr hE72 (fin_inl (rng_ret (body := F3) (k := k73) (s := ()) (by omega) (cond_f g98 (fin_inl (rng_ret (body := F4) (k := k99) (s := ()) (by omega) (cond_t g108 (rfl)) hF101) rfl)) hF75) rfl)))))
        ·
         refine CM_condF rfl g108 ?_
         refine CM_skip (QM_block_normal (QM_then (CM_region (wm ?_))))
         refine wv (vadN k99 1 (by omega)) ?_
         refine wa (WM_nil ?_)
         have hn109 := rng_next (R := Bool) (body := F4) (k := k99) (s := ()) (s' := ()) (show k99 < G80.length from by omega) (by subst hG14 hG20 hG80 hG86 hG92; exact cond_f g108 (rfl)) hF101
         exact QM_round (k99 + 1, (), ()) sl8 (fun W hm => hm) ⟨(by omega), hn109⟩ (rl (by omega))
       ·have g104 := dlF hl103
        refine CM_condF rfl g104 ?_
        refine CM_exit (QM_then_exit (QM_then_exit ?_))
        have hE110 : R8 (G80.length - 0) 0 () = Sum.inr () := rng_end hl103 hF101
        refine QM_block_hit (QM_block_normal (QM_then ?_))
        refine CM_items (pk [3, 4, 5]) ?_
        refine CM_region (wm ?_)
        refine wv (vadN k73 1 (by omega)) ?_
        refine wa (WM_nil ?_)
        have hn111 := rng_next (R := Bool) (body := F3) (k := k73) (s := ()) (s' := ()) (show k73 < 8 from by omega) (by subst hG14 hG20 hG80 hG86 hG92; exact cond_f g98 (fin_inr hE110 (rfl))) hF75
        exact QM_round (k73 + 1, (), ()) sl5 (fun W hm => hm) ⟨(by omega), hn111⟩ (rl (by omega))
      ·have g98 : (((G80.length : Nat) : Int) != ((G92.length : Nat) : Int)) = true := bne_iff_ne.2 h97
       refine CM_condT rfl g98 ?_
       refine CM_seq ?_
       refine CM_items (pk [3, 4, 5]) ?_
       refine CM_region (wa (nt' (CM_ret (QM_then_ret (QM_block_ret (QM_then_ret (QM_then_ret (QM_block_ret (QM_then_ret ?_)))))))))
       exact rtb (h := by subst hG14 hG20 hG80 hG86 hG92; exact cond_f g7 (cond_f g26 (fin_inr hE50 (fin_inr hE72 (fin_inl (rng_ret (body := F3) (k := k73) (s := ()) (by omega) (cond_t g98 (rfl)) hF75) rfl)))))
     ·have g78 : (decide (((k73 : Nat) : Int) < 8)) = false := decide_eq_false (by omega)
      refine CM_condF rfl g78 ?_
      refine CM_exit (QM_then_exit (QM_then_exit ?_))
      have hE112 : R7 (8 - 0) 0 () = Sum.inr () := rng_end hl77 hF75
      refine QM_block_hit (QM_then (sr (wa (nt' (CM_ret ?_)))))
      exact rtb (h := by subst hG14 hG20; exact cond_f g7 (cond_f g26 (fin_inr hE50 (fin_inr hE72 (fin_inr hE112 (rfl))))))
  ·have g26 : (((G14.length : Nat) : Int) != ((G20.length : Nat) : Int)) = true := bne_iff_ne.2 h25
   refine CM_condT rfl g26 ?_
   refine sr (wa (nt' (CM_ret (QM_then_ret ?_))))
   exact rtb (h := by subst hG14 hG20; exact cond_f g7 (cond_t g26 (rfl)))

end Go.Proofs.YtcjelfdpekbbkaaDoor
