/-
  The program and the reference compute the same: plain laws over what the walks showed.
-/
import Derived.Test.YtcjelfdpekbbkaaDoorL7Law
namespace Go.Proofs.YtcjelfdpekbbkaaDoor
open Go.RowKit
theorem within_same (x a b : Int) : impl_within_m x a b = spec_l1In_m x a b := rfl
theorem IsSet_facts {x : List Int} (h : spec_IsSet_m x = true) : x.Pairwise (· < ·) ∧ ∀ y ∈ x, 0 ≤ y ∧ y < 24 := by
  unfold spec_IsSet_m at h
  rw [rng_allN (p := fun k => spec_IsSet_b1 x k == .inr ()) (r := false) (fun k _ => by
    unfold spec_IsSet_b1
    cases spec_l1In_m (gt x k) 0 23 <;> cases decide (0 < ((k : Nat) : Int)) <;> cases decide (gt x k ≤ gt x (k - 1)) <;> rfl), cb_rng, Bool.and_true, List.all_eq_true] at h
  have h1 : ∀ k, k < x.length → (0 ≤ gt x k ∧ gt x k < 24) ∧ (0 < k → gt x (k - 1) < gt x k) := by
    intro k hk
    have h2 := h k (List.mem_range.2 hk)
    unfold spec_IsSet_b1 at h2
    cases h3 : spec_l1In_m (gt x k) 0 23 with
    | false => rw [h3] at h2; cases h2
    | true =>
      have h4 := spec_l1In_fact h3
      refine ⟨by omega, fun hp => ?_⟩
      rw [h3, decide_eq_true (show 0 < ((k : Nat) : Int) by omega)] at h2
      by_cases h5 : gt x k ≤ gt x (k - 1)
      · rw [decide_eq_true h5] at h2; cases h2
      · omega
  refine ⟨adj_rise fun k hp hk => (h1 k hk).2 hp, fun y hy => ?_⟩
  obtain ⟨k, hk, rfl⟩ := List.getElem_of_mem hy
  rw [← gt_at hk]
  exact (h1 k hk).1
theorem member_any (x : List Int) (i : Int) : spec_HasMember_m x i = x.any fun y => y == i := by
  unfold spec_HasMember_m
  rw [rng_any (p := fun y => y == i) (r := true) (fun j _ => rfl)]
  cases x.any fun y => y == i <;> rfl
theorem FI_same (x : Int) (h : -9223372036854775808 ≤ x ∧ x ≤ 9223372036854775807) : spec_FormatInt_m x = impl_FormatInt_m x := spec_FormatInt_is x h
theorem join6 (a b c d e f s : List UInt8) : joinB [sB a, sB b, sB c, sB d, sB e, sB f] (sB s) = sB (a ++ (s ++ (b ++ (s ++ (c ++ (s ++ (d ++ (s ++ (e ++ (s ++ f)))))))))) := by
  unfold joinB
  refine congrArg sB ?_
  show Lib.join [a, b, c, d, e, f] s = _
  unfold Lib.join
  simp [List.intercalate, List.append_assoc]
theorem FormatGroup_same (x : DGroup) (hc : (-9223372036854775808 ≤ x.Count ∧ x.Count ≤ 9223372036854775807) ∧ (-9223372036854775808 ≤ x.Sum ∧ x.Sum ≤ 9223372036854775807)) : impl_FormatGroup_m x = spec_FormatGroup_m x := by
  unfold impl_FormatGroup_m spec_FormatGroup_m
  rw [within_same, within_same]
  by_cases h1 : 0 ≤ x.Query ∧ x.Query ≤ 23
  · rw [spec_l1In_iff, decide_eq_true h1, cond_true, cond_true]
    by_cases h2 : 0 ≤ x.Value ∧ x.Value ≤ 99
    · rw [spec_l1In_iff, decide_eq_true h2, cond_true, cond_true]
      cases decide (x.Count < 1) with
      | true => rfl
      | false =>
        cases decide (x.Sum < 0) with
        | true => rfl
        | false =>
          rw [cond_false, cond_false, cond_false, cond_false, FI_same x.Query (by omega), FI_same x.Value (by omega), FI_same x.Count hc.1, FI_same x.Sum hc.2]
          show joinB [sB [113] ++ sB (Lib.itoa x.Query), sB (Lib.itoa x.Value), sB [99, 111, 117, 110, 116], sB (Lib.itoa x.Count), sB [115, 117, 109], sB (Lib.itoa x.Sum)] (sB [32]) = sB [113] ++ sB (Lib.itoa x.Query) ++ sB [32] ++ sB (Lib.itoa x.Value) ++ sB [32, 99, 111, 117, 110, 116, 32] ++ sB (Lib.itoa x.Count) ++ sB [32, 115, 117, 109, 32] ++ sB (Lib.itoa x.Sum)
          rw [sB_app, join6, sB_app, sB_app, sB_app, sB_app, sB_app, sB_app]
          refine congrArg sB ?_
          simp
    · rw [spec_l1In_iff, decide_eq_false h2, cond_false, cond_false]
  · rw [spec_l1In_iff, decide_eq_false h1, cond_false, cond_false]
theorem GroupsOf_form (x : List DGroup) (i : Int) : impl_GroupsOf_m x i = x.filter fun g => g.Query == i := by
  unfold impl_GroupsOf_m
  rw [rng_fold (xs := x) (f := fun d g => cond (g.Query == i) (d ++ [g]) d) (b := fun k s => impl_GroupsOf_b1 x i k s) (fun j s _ => by
    unfold impl_GroupsOf_b1
    cases (gt x j).Query == i <;> rfl)]
  have h := foldl_filterMap (fun g : DGroup => g.Query == i) (fun g : DGroup => g) x []
  show List.foldl _ [] x = _
  rw [h, List.map_id']
  rfl
theorem gsum_filter (q v : Int) : ∀ S : List DGroup, gsum q v (S.filter fun g => g.Query == q) = gsum q v S
  | [] => rfl
  | g :: S => by
    have ih := gsum_filter q v S
    rw [List.filter_cons]
    by_cases h : g.Query = q
    · rw [if_pos (beq_iff_eq.2 h), gsum, gsum, ih]
    · rw [if_neg (by rw [beq_iff_eq]; exact h), ih, gsum, if_neg (by rw [sameK_iff]; exact fun e => h e.1), Int.zero_add]
theorem gcnt_filter (q v : Int) (S : List DGroup) : gcnt (S.filter fun g => g.Query == q) q v = gcnt S q v := by
  unfold gcnt
  rw [List.filter_filter]
  refine congrArg List.length (List.filter_congr fun g _ => ?_)
  unfold sameK
  cases g.Query == q <;> cases g.Value == v <;> rfl
theorem Canon.filterQ {S out : List DGroup} (h : Canon S out) (i : Int) : Canon (S.filter fun g => g.Query == i) (out.filter fun g => g.Query == i) := by
  refine ⟨h.ord.filter _, fun g hg => ?_, fun s hs => ?_⟩
  · obtain ⟨hg1, hg2⟩ := List.mem_filter.1 hg
    have e : g.Query = i := beq_iff_eq.1 hg2
    subst e
    rw [gcnt_filter, gsum_filter]
    exact h.val g hg1
  · obtain ⟨hs1, hs2⟩ := List.mem_filter.1 hs
    obtain ⟨g, hg, e1, e2⟩ := h.all s hs1
    exact ⟨g, List.mem_filter.2 ⟨hg, by rw [e1]; exact hs2⟩, e1, e2⟩
theorem set_one {i : Int} : ∀ {x : List Int}, x.Pairwise (· < ·) → x.filter (fun z => z == i) = if (x.any fun z => z == i) = true then [i] else []
  | [], _ => rfl
  | a :: x, h => by
    have hp := List.pairwise_cons.1 h
    have ih := set_one (i := i) hp.2
    rw [List.filter_cons, List.any_cons]
    by_cases ha : a = i
    · subst ha
      have hn : (x.any fun z => z == a) = false := by
        rw [List.any_eq_false]
        intro z hz he
        have := hp.1 z hz
        rw [beq_iff_eq] at he
        omega
      rw [ih, hn, if_pos (beq_self_eq_true a), beq_self_eq_true, Bool.true_or, if_pos rfl, if_neg Bool.false_ne_true]
    · rw [if_neg (by rw [beq_iff_eq]; exact ha), ih, beq_eq_false_iff_ne.2 ha, Bool.false_or]
theorem spec_Route_form (l : List DAnnotated) (i : Int) : spec_RouteRows_m l i = (l.filter fun a => spec_HasMember_m a.Set i).map fun a => a.Row := by
  unfold spec_RouteRows_m
  rw [rng_fold (f := fun d a => cond (spec_HasMember_m a.Set i) (d ++ [a.Row]) d) (fun j s _ => by unfold spec_RouteRows_b1; cases spec_HasMember_m (gt l j).Set i <;> rfl)]
  show List.foldl _ [] l = _
  rw [foldl_filterMap]
  rfl
theorem sgl_one (f s i : Int) (a : DAnnotated) (ha : spec_IsSet_m a.Set = true) : (sglF f s a).filter (fun g => g.Query == i) = if spec_HasMember_m a.Set i = true then sglF f s (⟨a.Row, [i]⟩ : DAnnotated) else [] := by
  unfold sglF
  show (cond (spec_IsRow_m a.Row) (a.Set.map (gmk a f s)) []).filter (fun g => g.Query == i) = if spec_HasMember_m a.Set i = true then cond (spec_IsRow_m a.Row) [gmk a f s i] [] else []
  cases spec_IsRow_m a.Row with
  | false => cases spec_HasMember_m a.Set i <;> rfl
  | true =>
    show ((a.Set.map (gmk a f s)).filter fun g => g.Query == i) = if spec_HasMember_m a.Set i = true then [gmk a f s i] else []
    rw [List.filter_map]
    have e : ((fun g : DGroup => g.Query == i) ∘ gmk a f s) = fun z => z == i := rfl
    rw [e, set_one (IsSet_facts ha).1, member_any]
    split <;> rfl
theorem sgl_route (f s i : Int) : ∀ l : List DAnnotated, (∀ a ∈ l, spec_IsSet_m a.Set = true) → (sgl l f s).filter (fun g => g.Query == i) = sgl ((spec_RouteRows_m l i).map fun r => (⟨r, [i]⟩ : DAnnotated)) f s
  | [], _ => rfl
  | a :: l, h => by
    have ih := sgl_route f s i l fun b hb => h b (List.mem_cons_of_mem _ hb)
    rw [spec_Route_form] at ih ⊢
    unfold sgl at ih ⊢
    rw [List.flatMap_cons, List.filter_append, ih, sgl_one f s i a (h a (List.mem_cons_self ..)), List.filter_cons]
    cases spec_HasMember_m a.Set i with
    | true => rw [if_pos rfl, if_pos rfl, List.map_cons, List.map_cons, List.flatMap_cons]
    | false => rw [if_neg Bool.false_ne_true, if_neg Bool.false_ne_true]; rfl
theorem groups_alone {l : List DAnnotated} (hs : ∀ a ∈ l, spec_IsSet_m a.Set = true) (f s i : Int) : impl_GroupsOf_m (spec_GroupShared_m l f s) i = impl_GroupAlone_m i (spec_RouteRows_m l i) f s := by
  rw [← GroupShared_same]
  unfold impl_GroupAlone_m
  rw [annotateWith_form]
  cases h : spec_l14Fine_m f s with
  | false => rw [impl_Shared_false h, impl_Shared_false h]; rfl
  | true =>
    have h1 := Canon.filterQ (GS_canon (l := l) h) i
    rw [sgl_route f s i l hs, ← GroupsOf_form] at h1
    exact Canon.unique h1 (GS_canon h)
theorem law_Groups (x0 : List Int) : laws_FnGroups_m x0 = true := by
  unfold laws_FnGroups_m
  cases laws_big_m x0 with
  | true => rfl
  | false =>
  rw [← GroupShared_same, bne_self_eq_false, rng_all (n := (impl_GroupShared_m (spec_DrawGroupShared_m x0).1 (spec_DrawGroupShared_m x0).2.1 (spec_DrawGroupShared_m x0).2.2).length) (fun k hk => by
    unfold laws_FnGroups_b1
    rw [← GroupShared_same, beq_self_eq_true, beq_self_eq_true, beq_self_eq_true, beq_self_eq_true, FormatGroup_same _ (impl_GS_rng _ _ _ k hk), eqS_refl]
    by_cases h0 : 0 < k
    · have hord : keyR (gt (impl_GroupShared_m (spec_DrawGroupShared_m x0).1 (spec_DrawGroupShared_m x0).2.1 (spec_DrawGroupShared_m x0).2.2) (k - 1)) (gt (impl_GroupShared_m (spec_DrawGroupShared_m x0).1 (spec_DrawGroupShared_m x0).2.1 (spec_DrawGroupShared_m x0).2.2) k) := by
        cases h : spec_l14Fine_m (spec_DrawGroupShared_m x0).2.1 (spec_DrawGroupShared_m x0).2.2 with
        | false => rw [impl_Shared_false h] at hk; cases hk
        | true =>
          have := List.pairwise_iff_getElem.1 (GS_canon h).ord (k - 1) k (by omega) hk (by omega)
          rw [gt_at hk, gt_at (by omega)]
          exact this
      generalize gt (impl_GroupShared_m (spec_DrawGroupShared_m x0).1 (spec_DrawGroupShared_m x0).2.1 (spec_DrawGroupShared_m x0).2.2) k = g at hord
      generalize gt (impl_GroupShared_m (spec_DrawGroupShared_m x0).1 (spec_DrawGroupShared_m x0).2.1 (spec_DrawGroupShared_m x0).2.2) (k - 1) = g' at hord
      unfold keyR at hord
      rw [decide_eq_true (show (0 : Int) < ((k : Nat) : Int) by omega), decide_eq_false (show ¬ g.Query < g'.Query by omega)]
      by_cases hq : g.Query = g'.Query
      · rw [beq_iff_eq.2 hq, decide_eq_false (show ¬ g.Value ≤ g'.Value by omega)]; rfl
      · rw [beq_eq_false_iff_ne.2 hq]; rfl
    · rw [decide_eq_false (show ¬ (0 : Int) < ((k : Nat) : Int) by omega)]
      rfl), rng_allB (xs := (spec_DrawGroupShared_m x0).1) (p := fun a => spec_IsSet_m a.Set) (r := true) (fun k _ => rfl)]
  cases ha : (spec_DrawGroupShared_m x0).1.all fun a => spec_IsSet_m a.Set with
  | false => rfl
  | true =>
    rw [List.all_eq_true] at ha
    show Sum.elim id _ (rng (R := Bool) (fun k (_ : Unit) => laws_FnGroups_b3 x0 k) (8 - 0) 0 ()) = true
    rw [rng_all (n := 8) (fun k _ => by
      unfold laws_FnGroups_b3
      rw [groups_alone ha, bne_self_eq_false, rng_all (fun j _ => by
        unfold laws_FnGroups_b4
        rw [groups_alone ha, beq_self_eq_true, beq_self_eq_true, beq_self_eq_true, beq_self_eq_true]
        rfl)]
      rfl)]
    rfl

end Go.Proofs.YtcjelfdpekbbkaaDoor
