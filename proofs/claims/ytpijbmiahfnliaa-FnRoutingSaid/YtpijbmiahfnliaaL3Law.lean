/-
  The contract of the law.
-/
import Derived.Test.YtpijbmiahfnliaaL3Pl
namespace Go.Proofs.Ytpijbmiahfnliaa
open Go.RowKit
set_option maxRecDepth 100000
set_option maxHeartbeats 4000000
open _root_.Go.Proofs.Try
theorem isField_same (x : Int) : impl_isField_m x = spec_l1In_m x 0 2 := rfl
theorem RouteRows_form (x : List DAnnotated) (i : Int) : impl_RouteRows_m x i = (x.filter fun a => impl_HasMember_m a.Set i).map fun a => a.Row := by
  unfold impl_RouteRows_m
  rw [rng_fold (f := fun d a => cond (impl_HasMember_m a.Set i) (d ++ [a.Row]) d) (fun j s _ => by unfold impl_RouteRows_b1; cases impl_HasMember_m (gt x j).Set i <;> rfl)]
  show List.foldl _ [] x = _
  rw [foldl_filterMap]
  rfl
theorem within_same2 : impl_within_m = spec_l1In_m := rfl
theorem IsCond_same (x : DCond) : impl_IsCond_m x = spec_IsCond_m x := by
  unfold impl_IsCond_m spec_IsCond_m
  rw [isField_same, spec_l1In_iff x.Low]
  simp only [cb_and, Bool.decide_and, Bool.and_assoc]
theorem IsQuery_same (x : DQuery) : impl_IsQuery_m x = spec_IsQuery_m x := by
  unfold impl_IsQuery_m spec_IsQuery_m spec_l4Fields_m
  have h1 : (fun k (_ : Unit) => impl_IsQuery_b1 x k) = fun k (_ : Unit) => spec_IsQuery_b1 x k := by
    funext k u; unfold impl_IsQuery_b1 spec_IsQuery_b1; rw [IsCond_same]
  have h2 : (fun k (_ : Unit) => impl_IsQuery_b2 x k) = fun k (_ : Unit) => spec_l4Fields_b1 x.Out k := rfl
  rw [h1, h2]
  rw [rng_allN (b := fun k (_ : Unit) => spec_IsQuery_b1 x k) (p := fun k => spec_IsQuery_b1 x k == .inr ()) (r := false) (fun k _ => by
    unfold spec_IsQuery_b1
    cases spec_IsCond_m (gt x.Conds k) <;> cases decide (0 < ((k : Nat) : Int)) <;> cases decide ((gt x.Conds k).Field ≤ (gt x.Conds (k - 1)).Field) <;> rfl)]
  rw [rng_allN (b := fun k (_ : Unit) => spec_l4Fields_b1 x.Out k) (p := fun k => spec_l4Fields_b1 x.Out k == .inr ()) (r := false) (fun k _ => by
    unfold spec_l4Fields_b1
    cases spec_l1In_m (gt x.Out k) 0 2 <;> rfl)]
  simp only [within_same2, cb_rng, cb_and, cb_nand, cb_lt, Bool.not_not]
  ac_rfl
theorem AreQueries_same (l : List DQuery) : impl_AreQueries_m l = spec_AreQueries_m l := by
  unfold impl_AreQueries_m spec_AreQueries_m
  have h : (fun k (_ : Unit) => impl_AreQueries_b1 l k) = fun k (_ : Unit) => spec_AreQueries_b1 l k := by
    funext k u; unfold impl_AreQueries_b1 spec_AreQueries_b1; rw [IsQuery_same]
  rw [h]
theorem admits_same (q : DQuery) (f v : Int) : impl_admits_m q f v = spec_l5Admits_m q f v := rfl
theorem StabSet_same {l : List DQuery} {f v : Int} (hq : spec_AreQueries_m l = true) (hf : spec_l1In_m f 0 2 = true) (hv : spec_l1In_m v 0 99 = true) : impl_stab_m l f v = spec_StabSet_m l f v := by
  unfold impl_stab_m spec_StabSet_m
  rw [rngb_as (b := fun k d => impl_stab_b1 l f v k d) (fun j s => by
    unfold spec_StabSet_b1 impl_stab_b1
    rw [hq, hf, hv, cond_true, cond_true, cond_true, admits_same]
    cases spec_l5Admits_m (gt l j) f v <;> rfl)]
theorem rng_congr0 {R S : Type} {b b' : Nat → S → R ⊕ S} {n : Nat} (s : S) (h : ∀ j s, j < n → b j s = b' j s) : rng b (n - 0) 0 s = rng b' (n - 0) 0 s := rng_congr h (n - 0) 0 s (by omega)
theorem StabIndex_b_same {l : List DQuery} {f : Int} (hq : spec_AreQueries_m l = true) (hf : spec_l1In_m f 0 2 = true) (j : Nat) (s : List DSpan) (hj : j < 100) : impl_StabIndex_b1 l f j s = spec_StabIndex_b1 l f j s := by
  unfold impl_StabIndex_b1 spec_StabIndex_b1
  rw [StabSet_same hq hf (by rw [l1In_and, decide_eq_true (by omega), decide_eq_true (by omega)]; rfl)]
  rfl
theorem StabIndex_same (l : List DQuery) (f : Int) : impl_StabIndex_m l f = spec_StabIndex_m l f := by
  unfold impl_StabIndex_m spec_StabIndex_m
  rw [AreQueries_same, isField_same]
  cases hq : spec_AreQueries_m l with
  | false => rw [cond_false, cond_false]
  | true =>
    cases hf : spec_l1In_m f 0 2 with
    | false => rw [cond_true, cond_true, cond_false, cond_false]
    | true =>
      rw [rng_congr0 (n := 100) (b := fun k s => impl_StabIndex_b1 l f k s) (b' := fun k s => spec_StabIndex_b1 l f k s) [] (fun j s hj => StabIndex_b_same hq hf j s hj)]
theorem IsIndex_same (x : DIndex) : impl_IsIndex_m x = spec_IsIndex_m x := by
  unfold impl_IsIndex_m spec_IsIndex_m
  rw [AreQueries_same]
  cases spec_AreQueries_m x.Queries with
  | false => rfl
  | true =>
    cases hb : (((x.Fields.length : Nat) : Int) != 3) with
    | true => rfl
    | false =>
      have h3 : x.Fields.length = 3 := by
        by_cases h : ((x.Fields.length : Nat) : Int) = 3
        · omega
        · rw [bne_iff_ne.2 h] at hb; cases hb
      rw [cond_true, cond_true, cond_false, cond_false, h3]
      have hh : (fun k (_ : Unit) => impl_IsIndex_b1 x k) = fun k (_ : Unit) => spec_IsIndex_b1 x k := by
        funext k u; unfold impl_IsIndex_b1 spec_IsIndex_b1; rw [StabIndex_same]; rfl
      rw [hh]
theorem wrap_probe (s m : Int) : IntKind.i64.wrap (s + IntKind.i64.wrap (1 + m)) = IntKind.i64.wrap (IntKind.i64.wrap (s + 1) + m) := by simp only [IntKind.wrap_i64]; omega
theorem probe_same (x : DIndex) (r : DRow) (o : List Int) : impl_probe_m x r o = spec_l6Probe_m x r o := by
  unfold impl_probe_m spec_l6Probe_m spec_l6All_m
  rw [rng_fold (R := (List Int) × Int) (xs := x.Queries) (f := fun d q => d ++ [q.Id]) (b := fun k s => impl_probe_b1 x k s) (fun _ _ _ => rfl), rng_fold (R := List Int) (xs := x.Queries) (f := fun d q => d ++ [q.Id]) (b := fun k s => spec_l6All_b1 x.Queries k s) (fun _ _ _ => rfl)]
  have hb : (fun k (s : (List Int) × Int) => impl_probe_b2 x r o k s.1 s.2) = fun k (s : (List Int) × Int) => spec_l6Probe_b1 x r o k s.1 s.2 := by
    funext k s
    unfold impl_probe_b2 spec_l6Probe_b1
    rw [wrap_probe, MeetSets_same]
    by_cases h : ((s.1.length : Nat) : Int) = 0
    · rw [beq_iff_eq.2 h, decide_eq_false (by omega)]; rfl
    · rw [beq_eq_false_iff_ne.2 h, decide_eq_true (by omega)]; rfl
  rw [hb]
  rfl
theorem ProbeSet_same (x : DIndex) (r : DRow) (o : List Int) : impl_ProbeSet_m x r o = spec_ProbeSet_m x r o := by
  unfold impl_ProbeSet_m spec_ProbeSet_m
  rw [IsIndex_same, IsRow_same, isOrder_same, probe_same]
theorem MatchSet_same (x : DIndex) (r : DRow) : impl_MatchSet_m x r = spec_MatchSet_m x r := by
  unfold impl_MatchSet_m spec_MatchSet_m
  rw [ProbeSet_same]
theorem AnnotateRows_same (x : DIndex) (y : List DRow) : impl_AnnotateRows_m x y = spec_AnnotateRows_m x y := by
  unfold impl_AnnotateRows_m spec_AnnotateRows_m
  rw [IsIndex_same]
  cases h : spec_IsIndex_m x with
  | false => rw [rngb_false (fun j s => by unfold spec_AnnotateRows_b1; rw [h]; rfl)]; rfl
  | true =>
    rw [rngb_as (b := fun k d => impl_AnnotateRows_b1 x y k d) (fun j s => by
      unfold spec_AnnotateRows_b1 impl_AnnotateRows_b1
      rw [h, cond_true, MatchSet_same]
      cases decide (0 < (((spec_MatchSet_m x (gt y j)).length : Nat) : Int)) <;> rfl)]
    rfl
theorem spec_l13Any_fact (b : List Int) (D : Dl1Cur) : annP 9 (spec_l13Any_m b D).1 := by
  have hd := spec_l13Draw_fact b D
  unfold spec_l13Any_m
  cases (spec_l1Once_m b (spec_l13Draw_m b D).2.2.2 10).1 with
  | false => exact ⟨Nat.le_succ_of_le hd.1, hd.2⟩
  | true =>
    refine ⟨?_, fun a ha => ?_⟩
    · show ((spec_l13Draw_m b D).2.2.1 ++ [_]).length ≤ 9
      rw [List.length_append]
      have := hd.1
      show _ + 1 ≤ 9
      omega
    · rcases List.mem_append.1 ha with ha | ha
      · exact hd.2 a ha
      · rw [List.mem_singleton.1 ha]
        exact ⟨spec_l3Any_sm _ _, by have := spec_l2Any_fact b (spec_l3Any_m b (spec_l1Once_m b (spec_l13Draw_m b D).2.2.2 10).2).2; show (spec_l2Any_m _ _).1.length ≤ _; omega⟩
theorem spec_DrawRouteRows_fact (x : List Int) : annP 9 (spec_DrawRouteRows_m x).1 := spec_l13Any_fact _ _
theorem spec_DrawKeepSet_fact (x : List Int) : annP 9 (spec_DrawKeepSet_m x).1 ∧ (spec_DrawKeepSet_m x).2.length ≤ 68719476736 := ⟨spec_l13Any_fact _ _, by
  show (spec_l2Any_m x (spec_l13Any_m x (spec_l1New_m x)).2).1.length ≤ _
  have := spec_l2Any_fact x (spec_l13Any_m x (spec_l1New_m x)).2
  omega⟩
theorem cond_smQ {b : Bool} {p q : DQuery × Dl1Cur} (h1 : smQuery 68719476736 p.1) (h2 : smQuery 68719476736 q.1) : smQuery 68719476736 (cond b p q).1 := by cases b <;> assumption
theorem spec_l4Any_sm (b : List Int) (D : Dl1Cur) : smQuery 68719476736 (spec_l4Any_m b D).1 := by
  obtain ⟨h1, h2⟩ := spec_l4Query_fact b (spec_l1Below_m b D 9).2 (spec_l1Below_m b D 9).1
  unfold spec_l4Any_m
  repeat' (first | (refine ⟨?_, ?_⟩ <;> (show List.length _ ≤ 68719476736; first | omega | (simp only [List.length_append, List.length_cons, List.length_nil]; omega))) | apply cond_smQ)
theorem spec_l6Index_sm (b : List Int) (D : Dl1Cur) : smIndex 68719476736 (spec_l6Index_m b D).1 := by
  have hqs := spec_l4Queries_fact b D 6 (by omega) (by omega)
  have hs := BuildIndex_sm hqs (by omega)
  have hp := Build_parts b D 6 (by omega) (by omega)
  unfold spec_l6Index_m
  cases (spec_l1Below_m b (spec_l4Queries_m b D 6).2 16).1 == 0 with
  | true =>
    refine ⟨⟨?_, fun q hq => ?_⟩, hs.2⟩
    · show ((spec_BuildIndex_m (spec_l4Queries_m b D 6).1).Queries ++ [_]).length ≤ _
      rw [List.length_append, hp.1]
      show _ + 1 ≤ _
      omega
    · rcases List.mem_append.1 hq with hq | hq
      · exact hs.1.2 q hq
      · rw [List.mem_singleton.1 hq]; exact spec_l4Any_sm _ _
  | false =>
    cases (spec_l1Below_m b (spec_l4Queries_m b D 6).2 16).1 == 1 with
    | true =>
      refine ⟨hs.1, ?_, fun z hz => hs.2.2 z (List.mem_of_mem_drop hz)⟩
      show (List.drop 1 _).length ≤ _
      rw [List.length_drop]
      have := hs.2.1
      omega
    | false => exact hs
theorem spec_DrawAnnotateRows_fact (x : List Int) : smIndex 68719476736 (spec_DrawAnnotateRows_m x).1 ∧ (spec_DrawAnnotateRows_m x).2.length ≤ 9 ∧ ∀ r ∈ (spec_DrawAnnotateRows_m x).2, smRow 68719476736 r := by
  refine ⟨spec_l6Index_sm _ _, ?_⟩
  show (spec_l3AnyRows_m x (spec_l6Index_m x (spec_l1New_m x)).2).1.length ≤ 9 ∧ ∀ y ∈ (spec_l3AnyRows_m x (spec_l6Index_m x (spec_l1New_m x)).2).1, smRow 68719476736 y
  generalize (spec_l6Index_m x (spec_l1New_m x)).2 = D
  have hr := spec_l3Rows_fact x D 8 (by omega) (by omega)
  have h1 := rowsP_sm hr.1 (by omega)
  unfold spec_l3AnyRows_m
  cases (spec_l1Once_m x (spec_l3Rows_m x D 8).2 6).1 with
  | false => exact ⟨by show (spec_l3Rows_m x D 8).1.length ≤ 9; omega, h1.2⟩
  | true =>
    refine ⟨?_, fun y hy => ?_⟩
    · show ((spec_l3Rows_m x D 8).1 ++ [_]).length ≤ _
      rw [List.length_append]; show _ + 1 ≤ _; omega
    · rcases List.mem_append.1 hy with h | h
      · exact h1.2 y h
      · rw [List.mem_singleton.1 h]; exact spec_l3Any_sm _ _
theorem impl_Annotate_P {x : DIndex} {y : List DRow} {m : Nat} (hx : x.Queries.length ≤ 68719476736) (hl : y.length ≤ m) (hy : ∀ r ∈ y, smRow 68719476736 r) : annP m (impl_AnnotateRows_m x y) := by
  rw [AnnotateRows_same]; exact spec_Annotate_P hx hl hy
theorem impl_Route_P {l : List DAnnotated} {m : Nat} (h : annP m l) (i : Int) : (impl_RouteRows_m l i).length ≤ m ∧ ∀ r ∈ impl_RouteRows_m l i, smRow 68719476736 r := by
  rw [RouteRows_form]
  refine ⟨?_, fun r hr => ?_⟩
  · rw [List.length_map]
    exact Nat.le_trans (List.length_filter_le _ _) h.1
  · obtain ⟨a, ha, rfl⟩ := List.mem_map.1 hr
    exact (h.2 a (List.mem_filter.1 ha).1).1
theorem KeepSet_form (x : List DAnnotated) (y : List Int) : impl_KeepSet_m x y = (x.filter fun a => decide (0 < ((impl_MeetSets_m a.Set y).length : Int))).map fun a => (⟨a.Row, impl_MeetSets_m a.Set y⟩ : DAnnotated) := by
  unfold impl_KeepSet_m
  rw [rng_fold (xs := x) (f := fun d a => cond (decide (0 < ((impl_MeetSets_m a.Set y).length : Int))) (d ++ [(⟨a.Row, impl_MeetSets_m a.Set y⟩ : DAnnotated)]) d) (b := fun k s => impl_KeepSet_b1 x y k s) (fun j s _ => by
    unfold impl_KeepSet_b1
    cases decide (0 < ((impl_MeetSets_m (gt x j).Set y).length : Int)) <;> rfl), foldl_filterMap]
  rfl
theorem impl_Keep_P {l : List DAnnotated} {m : Nat} (h : annP m l) (y : List Int) : annP m (impl_KeepSet_m l y) := by
  rw [KeepSet_form]
  refine ⟨?_, fun r hr => ?_⟩
  · rw [List.length_map]
    exact Nat.le_trans (List.length_filter_le _ _) h.1
  · obtain ⟨a, ha, rfl⟩ := List.mem_map.1 hr
    have := h.2 a (List.mem_filter.1 ha).1
    exact ⟨this.1, Nat.le_trans (MeetSets_len _ _) this.2⟩
def laws_FnRouting_b3 (x0 : (List Int)) (k113 : Nat) : Bool ⊕ (Unit) :=
 cond (spec_IsSet_m ((gt ((spec_DrawKeepSet_m x0).1) k113).Set)) (Sum.inr ()) (Sum.inl (spec_EqualAnnotated_m (impl_KeepSet_m ((spec_DrawKeepSet_m x0).1) ((spec_DrawKeepSet_m x0).2)) (spec_KeepSet_m ((spec_DrawKeepSet_m x0).1) ((spec_DrawKeepSet_m x0).2))))
def laws_FnRouting_b2 (x0 : (List Int)) (k105 : Nat) : Bool ⊕ ((Unit) ⊕ (Unit)) :=
 cond (spec_IsSet_m ((spec_DrawKeepSet_m x0).2)) (Sum.elim Sum.inl (fun (s : Unit) => cond (spec_EqualRows_m (impl_RouteRows_m (impl_KeepSet_m ((spec_DrawKeepSet_m x0).1) ((spec_DrawKeepSet_m x0).2)) (gt ((spec_DrawKeepSet_m x0).2) k105)) (impl_RouteRows_m ((spec_DrawKeepSet_m x0).1) (gt ((spec_DrawKeepSet_m x0).2) k105))) (Sum.inr (Sum.inr ())) (Sum.inl false)) (rng (R := Bool) (fun k (_ : Unit) => laws_FnRouting_b3 x0 k) (((spec_DrawKeepSet_m x0).1).length - 0) 0 ())) (Sum.inr (Sum.inl ()))
def laws_FnRouting_b1 (x0 : (List Int)) (k39 : Nat) (s40 : Int) : Bool ⊕ ((Int) ⊕ (Int)) :=
 cond (spec_IsIndex_m ((spec_DrawAnnotateRows_m x0).1)) (cond (spec_EqualRows_m (spec_SortRows_m (impl_RouteRows_m (impl_AnnotateRows_m ((spec_DrawAnnotateRows_m x0).1) ((spec_DrawAnnotateRows_m x0).2)) ((gt (((spec_DrawAnnotateRows_m x0).1).Queries) k39).Id))) (spec_AnswerAlone_m (gt (((spec_DrawAnnotateRows_m x0).1).Queries) k39) ((spec_DrawAnnotateRows_m x0).2))) (Sum.inr (Sum.inr (IntKind.i64.wrap (s40 + (((impl_RouteRows_m (impl_AnnotateRows_m ((spec_DrawAnnotateRows_m x0).1) ((spec_DrawAnnotateRows_m x0).2)) ((gt (((spec_DrawAnnotateRows_m x0).1).Queries) k39).Id)).length : Nat) : Int))))) (Sum.inl false)) (Sum.inr (Sum.inl s40))
def laws_FnRouting_m (x0 : (List Int)) : Bool :=
 cond (laws_big_m x0) true (cond (spec_EqualAnnotated_m (impl_AnnotateRows_m ((spec_DrawAnnotateRows_m x0).1) ((spec_DrawAnnotateRows_m x0).2)) (spec_AnnotateRows_m ((spec_DrawAnnotateRows_m x0).1) ((spec_DrawAnnotateRows_m x0).2))) (Sum.elim id (fun (s1_ : Int) => Sum.elim id (fun (s : Unit) => cond (s1_ == (impl_CountRouted_m (impl_AnnotateRows_m ((spec_DrawAnnotateRows_m x0).1) ((spec_DrawAnnotateRows_m x0).2)))) (cond (spec_EqualAnnotated_m (impl_KeepSet_m ((spec_DrawKeepSet_m x0).1) ((spec_DrawKeepSet_m x0).2)) (spec_KeepSet_m ((spec_DrawKeepSet_m x0).1) ((spec_DrawKeepSet_m x0).2))) (cond (spec_EqualRows_m (impl_RouteRows_m ((spec_DrawRouteRows_m x0).1) ((spec_DrawRouteRows_m x0).2)) (spec_RouteRows_m ((spec_DrawRouteRows_m x0).1) ((spec_DrawRouteRows_m x0).2))) ((impl_EqualAnnotated_m ((spec_DrawKeepSet_m x0).1) (impl_KeepSet_m ((spec_DrawKeepSet_m x0).1) ((spec_DrawKeepSet_m x0).2))) == (spec_EqualAnnotated_m ((spec_DrawKeepSet_m x0).1) (impl_KeepSet_m ((spec_DrawKeepSet_m x0).1) ((spec_DrawKeepSet_m x0).2)))) false) false) false) (rngb (R := Bool) (fun k (_ : Unit) => laws_FnRouting_b2 x0 k) (((spec_DrawKeepSet_m x0).2).length - 0) 0 ())) (rngb (R := Bool) (fun k (s : Int) => laws_FnRouting_b1 x0 k s) ((((spec_DrawAnnotateRows_m x0).1).Queries).length - 0) 0 0)) false)
theorem cb3 : Cb Try.prog 3 := ⟨f3, _, func3, rfl, by decide⟩
theorem laws_FnRouting_c (w : World) (z0 : Value) (x0 : (List Int)) (r_0 : rdS tU8 w w.heap.size z0 x0) :
  Calls Try.prog 3 #[z0] w fun e w' => e = .returned (.bool (laws_FnRouting_m x0)) ∧ Below w.heap.size w w' := by
 have ok0 := r_0.1
 obtain ⟨m1, A2, c3, rfl, q4, r5⟩ := rdS_op r_0
 refine ce1 (L := [(0, .slice A2 x0.length c3)]) (N := 150) func3 ?_
 refine sr (wa (nt' (CM_seq (sr (wm ?_)))))
 refine wcv (cl_fn cb4 rfl) (fun W hm => laws_big_c W _ x0 (hm.rdS0 r5)) ?_
 refine nt' ?_
 rcases Bool.eq_false_or_eq_true (laws_big_m x0) with g7 | g7
 ·
  refine CM_condT rfl g7 ?_
  refine sr (wa (nt' (CM_ret (QM_then_ret ?_))))
  exact rtb (h := cond_t g7 (rfl))
 ·
  have hl0 := of_decide_eq_false (p := 1048576 < ((x0.length : Nat) : Int)) g7
  refine CM_condF rfl g7 ?_
  refine CM_skip (QM_then (sr (wm ?_)))
  refine WM_call (χ := List Value × Value) (val := fun x => .tuple #[.agg x.1.toArray, x.2]) (js := fun x => [iOwn tyIndex x.1 ((spec_DrawAnnotateRows_m x0).1), iOwn (tSl tyRow 50) [x.2] ((spec_DrawAnnotateRows_m x0).2)]) (cl_fn cb5 rfl) (fun W hm => spec_DrawAnnotateRows_c W _ x0 (hm.rdS0 r5) (by omega)) (Wd_none rfl) (by decide) (fun x => ?_)
  obtain ⟨z8, z9⟩ := x
  refine tyIndex_sp ?_
  rintro ⟨v10, v11⟩ rfl
  refine WM_form (n := 0) rfl ?_
  rintro A12 c13 rfl m14
  refine WM_formP (n := 1) rfl ?_
  rintro A16 c17 rfl m18
  let K7 : List Value := [.slice A12 (((spec_DrawAnnotateRows_m x0).1).Queries).length c13]
  let K8 : List Value := [.slice A16 (((spec_DrawAnnotateRows_m x0).1).Fields).length c17]
  let I14 : It := iOwn (tSl tyQuery 39) K7 (((spec_DrawAnnotateRows_m x0).1).Queries)
  let I15 : It := iOwn (tPa (tSl tySpan 86) 64) K8 (((spec_DrawAnnotateRows_m x0).1).Fields)
  refine WM_items (js := [iOwn (tSl tyRow 50) [z9] ((spec_DrawAnnotateRows_m x0).2), I14, I15]) (pk [2, 0, 1]) ?_
  refine WM_form (n := 0) rfl ?_
  rintro A20 c21 rfl m22
  have hdr := spec_DrawAnnotateRows_fact x0
  refine wm ?_
  refine wv (fun W hm => rv_extract rfl rfl) ?_
  refine wv (fun W hm => rv_extract rfl rfl) ?_
  refine WM_alloc type27 rfl (Wd_none rfl) (by decide) (fun p24 => ?_)
  let K9 : List Value := [.slice A12 (((spec_DrawAnnotateRows_m x0).1).Queries).length c13, .slice A16 (((spec_DrawAnnotateRows_m x0).1).Fields).length c17]
  let I16 : It := iOwn (tSl tyRow 50) [.slice A20 ((spec_DrawAnnotateRows_m x0).2).length c21] ((spec_DrawAnnotateRows_m x0).2)
  refine sb 0 K9 [I16, I14, I15] (fun W hm => hm) type27 ?_
  refine wa (nt' (sr ?_))
  refine wv (fun W hm => rv_loadN (cs := K9) underlying27 type27 rfl rfl (hm.boxCells (n := 0) rfl)) ?_
  refine wm ?_
  refine wcl (tSl tyAnnotated 52) (impl_AnnotateRows_m ((spec_DrawAnnotateRows_m x0).1) ((spec_DrawAnnotateRows_m x0).2)) (cl_fn cb6 rfl) (fun W hm => impl_AnnotateRows_c W _ ((spec_DrawAnnotateRows_m x0).1) _ ((spec_DrawAnnotateRows_m x0).2) (tyIndex_mk (x := ((spec_DrawAnnotateRows_m x0).1)) (hm.rdSI (n := 2) rfl) (hm.rdPI (n := 3) rfl)) (hm.rdSI (n := 1) rfl) hdr.1 ⟨by omega, hdr.2.2⟩) (fun z25 => ?_)
  have hla := impl_Annotate_P hdr.1.1.1 hdr.2.1 hdr.2.2
  obtain ⟨G26, hG26⟩ : ∃ G, G = (impl_AnnotateRows_m ((spec_DrawAnnotateRows_m x0).1) ((spec_DrawAnnotateRows_m x0).2)) := ⟨_, rfl⟩
  rw [← hG26]
  rw [← hG26] at hla
  refine WM_form (n := 0) rfl ?_
  rintro A27 c28 rfl m29
  refine wa (nt' (CM_seq (sr (wm ?_))))
  refine wv (fun W hm => rv_loadN (cs := K9) underlying27 type27 rfl rfl (hm.boxCells (n := 1) rfl)) ?_
  refine wm ?_
  refine wcl (tSl tyAnnotated 52) (spec_AnnotateRows_m ((spec_DrawAnnotateRows_m x0).1) ((spec_DrawAnnotateRows_m x0).2)) (cl_fn cb8 rfl) (fun W hm => spec_AnnotateRows_c W _ ((spec_DrawAnnotateRows_m x0).1) _ ((spec_DrawAnnotateRows_m x0).2) (tyIndex_mk (x := ((spec_DrawAnnotateRows_m x0).1)) (hm.rdSI (n := 3) rfl) (hm.rdPI (n := 4) rfl)) (hm.rdSI (n := 2) rfl) hdr.1 ⟨by omega, hdr.2.2⟩) (fun z31 => ?_)
  obtain ⟨G32, hG32⟩ : ∃ G, G = (spec_AnnotateRows_m ((spec_DrawAnnotateRows_m x0).1) ((spec_DrawAnnotateRows_m x0).2)) := ⟨_, rfl⟩
  rw [← hG32]
  refine WM_form (n := 0) rfl ?_
  rintro A33 c34 rfl m35
  refine wcv (cl_fn cb7 rfl) (fun W hm => spec_EqualAnnotated_c W _ G26 _ G32 (hm.rdSI (n := 1) rfl) (hm.rdSI (n := 0) rfl)) ?_
  refine wv vnot ?_
  refine nt' ?_
  rcases Bool.eq_false_or_eq_true (spec_EqualAnnotated_m G26 G32) with g38 | g38
  ·
   refine CM_condF rfl (nt g38) ?_
   refine CM_skip (QM_then (sr (wa (nt' (CM_seq (sr (wa (nt' ?_))))))))
   let F1 := fun k (s : Int) => laws_FnRouting_b1 x0 k s
   let R4 := rngb (R := Bool) F1
   let I17 : It := iOwn (tSl tyAnnotated 52) [.slice A33 G32.length c34] G32
   let I18 : It := iOwn (tSl tyAnnotated 52) [.slice A27 G26.length c28] G26
   refine CM_cut (σ := (Int) × (Unit)) (fun s => [(0, .slice A2 x0.length c3), (5, .slice A27 G26.length c28), (6, .int .i64 s.1)]) (fun s => [I17, I18, iBox p24 27 K9, I16, I14, I15]) (fun s => R4 ((((spec_DrawAnnotateRows_m x0).1).Queries).length - 0) 0 0 = Sum.inr s.1) ?_ ?_
   ·
    refine CM_block ?_
    refine CM_loop (σ := Nat × (Int) × (Unit)) (fun s => [(0, .slice A2 x0.length c3), (3, .pointer (some (⟨p24, 0, none⟩ : Addr))), (4, .slice A20 ((spec_DrawAnnotateRows_m x0).2).length c21), (5, .slice A27 G26.length c28), (6, .int .i64 s.2.1), (7, .int .i64 ((s.1 : Nat) : Int))]) (fun s => [I17, I18, iBox p24 27 K9, I16, I14, I15]) (fun s => s.1 ≤ (((spec_DrawAnnotateRows_m x0).1).Queries).length ∧ R4 ((((spec_DrawAnnotateRows_m x0).1).Queries).length - s.1) s.1 s.2.1 = R4 ((((spec_DrawAnnotateRows_m x0).1).Queries).length - 0) 0 0) (fun s => (((spec_DrawAnnotateRows_m x0).1).Queries).length - s.1) (0, 0, ()) sl6 (fun W hm => hm) ⟨(by omega), rfl⟩ ?_
    rintro ⟨k39, s40, ⟨⟩⟩ H43
    obtain ⟨hk41, hF42⟩ : k39 ≤ (((spec_DrawAnnotateRows_m x0).1).Queries).length ∧ R4 ((((spec_DrawAnnotateRows_m x0).1).Queries).length - k39) k39 s40 = R4 ((((spec_DrawAnnotateRows_m x0).1).Queries).length - 0) 0 0 := H43
    show CM Try.prog 150 _ _ _ _ [(0, .slice A2 x0.length c3), (3, .pointer (some (⟨p24, 0, none⟩ : Addr))), (4, .slice A20 ((spec_DrawAnnotateRows_m x0).2).length c21), (5, .slice A27 G26.length c28), (6, .int .i64 s40), (7, .int .i64 ((k39 : Nat) : Int))] [I17, I18, iBox p24 27 K9, I16, I14, I15]
    refine CM_seq (sr (wm ?_))
    refine wv (vf underlying27 rfl type24) ?_
    refine wv (vl 2 0 underlying24) ?_
    refine wv (vlen underlying24) ?_
    refine wv vlss ?_
    refine wm ?_
    by_cases hl44 : k39 < (((spec_DrawAnnotateRows_m x0).1).Queries).length
    ·have g45 := dlT hl44
     refine wg (fun W hm => rv_loadN (cs := K9) underlying27 type27 rfl rfl (hm.boxCells (n := 2) rfl)) g45 ?_
     refine WM_callV (cl_fn cb9 rfl) (fun W hm => spec_IsIndex_c W _ ((spec_DrawAnnotateRows_m x0).1) (tyIndex_mk (x := ((spec_DrawAnnotateRows_m x0).1)) (hm.rdSI (n := 4) rfl) (hm.rdPI (n := 5) rfl)) hdr.1) (Wd_some rfl rfl rfl (bw g45 rfl)) (by decide) ?_
     refine wv (vpT g45) ?_
     refine nt' ?_
     rcases Bool.eq_false_or_eq_true (spec_IsIndex_m ((spec_DrawAnnotateRows_m x0).1)) with g47 | g47
     ·
      refine CM_condT rfl g47 ?_
      refine CM_skip (QM_then (CM_seq (CM_block (sr (wm ?_)))))
      refine wv (vf underlying27 rfl type24) ?_
      refine wv (vl 2 0 underlying24) ?_
      refine wm ?_
      refine WM_formO (n := 4) rfl (by omega) ?_
      rintro g48 rfl
      refine wv (vix 4 k39 underlying24 type39) ?_
      refine wv (vf underlying39 rfl type3) ?_
      let K10 : List Value := [.slice (some ⟨g48, 0, none⟩) (((spec_DrawAnnotateRows_m x0).1).Queries).length c13, .slice A16 (((spec_DrawAnnotateRows_m x0).1).Fields).length c17]
      refine WM_focus (E := tyQuery) (e := 39) (A := (some ⟨g48, 0, none⟩)) (n := (((spec_DrawAnnotateRows_m x0).1).Queries).length) (c := c13) (xs := ((spec_DrawAnnotateRows_m x0).1).Queries) (k := k39) (js := [I17, I18, iBox p24 27 K10, I16, I15]) (by omega) (pk [4, 0, 1, 2, 3, 5]) (fun ck49 => ?_)
      refine tyQuery_sp ?_
      rintro ⟨v50, v51⟩ rfl
      refine WM_form (n := 0) rfl ?_
      rintro A52 c53 rfl m54
      refine WM_form (n := 1) rfl ?_
      rintro A56 c57 rfl m58
      refine wv (fun W hm => rv_load underlying3 rfl rfl (hm.focCells (i := 2) rfl rfl 0 _ rfl)) ?_
      refine wcl (tSl tyRow 50) (impl_RouteRows_m G26 ((gt (((spec_DrawAnnotateRows_m x0).1).Queries) k39).Id)) (cl_fn cb10 rfl) (fun W hm => impl_RouteRows_c W _ G26 ((gt (((spec_DrawAnnotateRows_m x0).1).Queries) k39).Id) (hm.rdSI (n := 4) rfl) (by first | exact annP_sm hla (by omega) | exact annP_sm hlk (by omega) | exact ⟨by omega, hlr.2⟩)) (fun z60 => ?_)
      have hlr := impl_Route_P hla ((gt (((spec_DrawAnnotateRows_m x0).1).Queries) k39).Id)
      obtain ⟨G61, hG61⟩ : ∃ G, G = (impl_RouteRows_m G26 ((gt (((spec_DrawAnnotateRows_m x0).1).Queries) k39).Id)) := ⟨_, rfl⟩
      rw [← hG61]
      rw [← hG61] at hlr
      refine WM_form (n := 0) rfl ?_
      rintro A62 c63 rfl m64
      refine wa (nt' (sr (wm (wm ?_))))
      refine wv (vlen underlying28) ?_
      refine wv vadd ?_
      refine wa (nt' (CM_seq ?_))
      let K11 : List Value := [.slice A52 ((gt (((spec_DrawAnnotateRows_m x0).1).Queries) k39).Conds).length c53]
      let K12 : List Value := [.slice A56 ((gt (((spec_DrawAnnotateRows_m x0).1).Queries) k39).Out).length c57]
      let K13 : List Value := [.int .i64 ((gt (((spec_DrawAnnotateRows_m x0).1).Queries) k39).Id), .int .i64 ((gt (((spec_DrawAnnotateRows_m x0).1).Queries) k39).Tenant), .slice A52 ((gt (((spec_DrawAnnotateRows_m x0).1).Queries) k39).Conds).length c53, .slice A56 ((gt (((spec_DrawAnnotateRows_m x0).1).Queries) k39).Out).length c57]
      let I19 : It := iOwn (tSl tyCond 90) K11 ((gt (((spec_DrawAnnotateRows_m x0).1).Queries) k39).Conds)
      let I20 : It := iOwn (tSl tInt 3) K12 ((gt (((spec_DrawAnnotateRows_m x0).1).Queries) k39).Out)
      refine rb 11 (s := [iOwn (tSl tyRow 50) [.slice A62 G61.length c63] G61, I19, I20, iFoc tyQuery 39 (some ⟨g48, 0, none⟩) ((((spec_DrawAnnotateRows_m x0).1).Queries).length) c13 (((spec_DrawAnnotateRows_m x0).1).Queries) k39 K13, I17, I18, iBox p24 27 K10, I16, I15]) (fun W hm => hm) ?_
      refine qt 11 0 1 rfl vmv ?_
      refine qt 11 2 5 rfl (vf underlying27 rfl type24) ?_
      refine qt 11 3 13 rfl (vl 6 0 underlying24) ?_
      refine qt 11 4 29 rfl vmv ?_
      refine qt 11 5 61 rfl (vix 4 k39 underlying24 type39) ?_
      refine qt 11 6 125 rfl (fun W hm => rv_loadN (cs := K13) underlying39 type39 rfl rfl (hm.focCells (i := 3) rfl rfl)) ?_
      refine qt 11 7 253 rfl vmv ?_
      refine qo 11 1 255 rfl ?_
      refine wcl (tSl tyRow 50) (spec_SortRows_m G61) (cl_fn cb12 rfl) (fun W hm => spec_SortRows_c W _ G61 (hm.rdSI (n := 0) rfl) (by first | exact annP_sm hla (by omega) | exact annP_sm hlk (by omega) | exact ⟨by omega, hlr.2⟩)) (fun z66 => ?_)
      refine WM_form (n := 0) rfl ?_
      rintro A67 c68 rfl m69
      refine qn (pk [1, 2, 3, 4, 5, 6, 7, 8, 9]) ?_
      refine qo 11 8 511 rfl ?_
      refine wcl (tSl tyRow 50) (spec_AnswerAlone_m (gt (((spec_DrawAnnotateRows_m x0).1).Queries) k39) ((spec_DrawAnnotateRows_m x0).2)) (cl_fn cb13 rfl) (fun W hm => spec_AnswerAlone_c W _ (gt (((spec_DrawAnnotateRows_m x0).1).Queries) k39) _ ((spec_DrawAnnotateRows_m x0).2) (tyQuery_mk (x := (gt (((spec_DrawAnnotateRows_m x0).1).Queries) k39)) (hm.rdSI (n := 2) rfl) (hm.rdSI (n := 3) rfl)) (hm.rdSI (n := 8) rfl) (hdr.1.1.2 _ (gt_mem (by omega))) ⟨by omega, hdr.2.2⟩) (fun z71 => ?_)
      obtain ⟨G72, hG72⟩ : ∃ G, G = (spec_AnswerAlone_m (gt (((spec_DrawAnnotateRows_m x0).1).Queries) k39) ((spec_DrawAnnotateRows_m x0).2)) := ⟨_, rfl⟩
      rw [← hG72]
      refine WM_form (n := 0) rfl ?_
      rintro A73 c74 rfl m75
      refine qn (pk [2, 3, 4, 5, 6, 7, 8, 9, 10]) ?_
      refine qo 11 9 1023 rfl ?_
      refine wcv (cl_fn cb11 rfl) (fun W hm => spec_EqualRows_c W _ (spec_SortRows_m G61) _ G72 (hm.rdSI (n := 1) rfl) (hm.rdSI (n := 0) rfl)) ?_
      refine qn (pk [2, 3, 4, 5, 6, 7, 8, 9, 10]) ?_
      refine qt 11 10 2047 rfl vnot ?_
      refine QB_done (by kernel_rfl) ?_
      refine QM_then ?_
      rcases Bool.eq_false_or_eq_true (spec_EqualRows_m (spec_SortRows_m G61) G72) with g78 | g78
      ·
       refine CM_condF rfl (nt g78) ?_
       refine CM_skip (QM_block_normal (QM_then ?_))
       refine CM_items (pk [3, 4, 5, 6, 7, 8, 9, 10]) ?_
       refine CM_region (wm ?_)
       refine wv (vadN k39 1 (by omega)) ?_
       refine wa (WM_nil ?_)
       refine QM_items (fun W hm => Mem.unfocus0 (Mem.join (is := [I19, I20]) (js := (iFoc tyQuery 39 (some ⟨g48, 0, none⟩) ((((spec_DrawAnnotateRows_m x0).1).Queries).length) c13 (((spec_DrawAnnotateRows_m x0).1).Queries) k39 K13 :: [I17, I18, iBox p24 27 K10, I16, I15])) (fun _ _ hs => tyQuery_join (x := (gt (((spec_DrawAnnotateRows_m x0).1).Queries) k39)) hs) hm)) ?_
       have hn79 := rngb_next (R := Bool) (body := F1) (k := k39) (s := s40) (s' := (IntKind.i64.wrap (s40 + ((G61.length : Nat) : Int)))) (show k39 < (((spec_DrawAnnotateRows_m x0).1).Queries).length from by omega) (by subst hG26 hG32 hG61 hG72; exact cond_t g47 (cond_t g78 (rfl))) hF42
       exact QM_round (k39 + 1, (IntKind.i64.wrap (s40 + ((G61.length : Nat) : Int))), ()) sl6 (pk [1, 2, 3, 4, 0, 5]) ⟨(by omega), hn79⟩ (show (((spec_DrawAnnotateRows_m x0).1).Queries).length - (k39 + 1) < (((spec_DrawAnnotateRows_m x0).1).Queries).length - k39 from by omega)
      ·
       refine CM_condT rfl (nf g78) ?_
       refine CM_seq ?_
       refine CM_items (pk [3, 4, 5, 6, 7, 8, 9, 10]) ?_
       refine CM_region (wa (nt' (CM_ret (QM_block_ret (QM_then_ret (QM_then_ret (QM_block_ret (QM_cut_ret (QM_then_ret ?_)))))))))
       refine QM_items (fun W hm => Mem.unfocus0 (Mem.join (is := [I19, I20]) (js := (iFoc tyQuery 39 (some ⟨g48, 0, none⟩) ((((spec_DrawAnnotateRows_m x0).1).Queries).length) c13 (((spec_DrawAnnotateRows_m x0).1).Queries) k39 K13 :: [I17, I18, iBox p24 27 K10, I16, I15])) (fun _ _ hs => tyQuery_join (x := (gt (((spec_DrawAnnotateRows_m x0).1).Queries) k39)) hs) hm)) ?_
       exact rtb (h := by subst hG26 hG32 hG61 hG72; exact cond_f g7 (cond_t g38 (fin_inl (rngb_ret (body := F1) (k := k39) (s := s40) (by omega) (cond_t g47 (cond_f g78 (rfl))) hF42) rfl)))
     ·
      refine CM_condF rfl g47 ?_
      refine CM_exit (QM_then_exit (QM_then_exit (QM_block_hit ?_)))
      have hE80 := rngb_brk (R := Bool) (body := F1) (k := k39) (s := s40) (s' := s40) (show k39 < (((spec_DrawAnnotateRows_m x0).1).Queries).length from by omega) (by subst hG26 hG32; exact cond_f g47 (rfl)) hF42
      exact QM_cut_normal (s40, ()) sl3 (fun W hm => hm) hE80
    ·have g45 := dlF hl44
     refine ws g45 ?_
     refine ws g45 ?_
     refine wv (vpF g45) ?_
     refine nt' ?_
     refine CM_condF rfl rfl ?_
     refine CM_exit (QM_then_exit (QM_then_exit (QM_block_hit ?_)))
     have hE81 : R4 ((((spec_DrawAnnotateRows_m x0).1).Queries).length - 0) 0 0 = Sum.inr s40 := rngb_end hl44 hF42
     exact QM_cut_normal (s40, ()) sl3 (fun W hm => hm) hE81
   ·
    rintro ⟨s40, ⟨⟩⟩ H83
    have hE82 : R4 ((((spec_DrawAnnotateRows_m x0).1).Queries).length - 0) 0 0 = Sum.inr s40 := H83
    show QM 150 _ _ _ .normal [(0, .slice A2 x0.length c3), (5, .slice A27 G26.length c28), (6, .int .i64 s40)] [I17, I18, iBox p24 27 K9, I16, I14, I15]
    refine QM_then (CM_seq ?_)
    refine CM_items (pk [1]) ?_
    refine CM_region (wm ?_)
    refine WM_call (χ := Value × Value) (val := fun x => .tuple #[x.1, x.2]) (js := fun x => [iOwn (tSl tyAnnotated 52) [x.1] ((spec_DrawKeepSet_m x0).1), iOwn (tSl tInt 3) [x.2] ((spec_DrawKeepSet_m x0).2)]) (cl_fn cb14 rfl) (fun W hm => spec_DrawKeepSet_c W _ x0 (hm.rdS0 r5) (by omega)) (Wd_none rfl) (by decide) (fun x => ?_)
    obtain ⟨z84, z85⟩ := x
    refine WM_form (n := 0) rfl ?_
    rintro A86 c87 rfl m88
    let I21 : It := iOwn (tSl tyAnnotated 52) [.slice A86 ((spec_DrawKeepSet_m x0).1).length c87] ((spec_DrawKeepSet_m x0).1)
    refine WM_items (js := [iOwn (tSl tInt 3) [z85] ((spec_DrawKeepSet_m x0).2), I21, I18]) (pk [1, 0, 2]) ?_
    refine WM_form (n := 0) rfl ?_
    rintro A90 c91 rfl m92
    have hdk := spec_DrawKeepSet_fact x0
    refine wm ?_
    refine wv (fun W hm => rv_extract rfl rfl) ?_
    refine wv (fun W hm => rv_extract rfl rfl) ?_
    refine wa (wa (nt' (sr (wm (wm ?_)))))
    refine wcl (tSl tyAnnotated 52) (impl_KeepSet_m ((spec_DrawKeepSet_m x0).1) ((spec_DrawKeepSet_m x0).2)) (cl_fn cb15 rfl) (fun W hm => impl_KeepSet_c W _ ((spec_DrawKeepSet_m x0).1) _ ((spec_DrawKeepSet_m x0).2) (hm.rdSI (n := 1) rfl) (hm.rdSI (n := 0) rfl) (annP_sm hdk.1 (by omega)) hdk.2) (fun z94 => ?_)
    have hlk := impl_Keep_P hdk.1 (spec_DrawKeepSet_m x0).2
    obtain ⟨G95, hG95⟩ : ∃ G, G = (impl_KeepSet_m ((spec_DrawKeepSet_m x0).1) ((spec_DrawKeepSet_m x0).2)) := ⟨_, rfl⟩
    rw [← hG95]
    rw [← hG95] at hlk
    refine WM_form (n := 0) rfl ?_
    rintro A96 c97 rfl m98
    refine wa (nt' (sr (wm ?_)))
    refine WM_call (χ := Value) (val := fun x => .tuple #[x, .int .i64 ((spec_DrawRouteRows_m x0).2)]) (js := fun x => [iOwn (tSl tyAnnotated 52) [x] ((spec_DrawRouteRows_m x0).1)]) (cl_fn cb16 rfl) (fun W hm => spec_DrawRouteRows_c W _ x0 (hm.rdS0 r5) (by omega)) (Wd_none rfl) (by decide) (fun z100 => ?_)
    have hdb := spec_DrawRouteRows_fact x0
    refine WM_form (n := 0) rfl ?_
    rintro A101 c102 rfl m103
    refine wm ?_
    refine wv (fun W hm => rv_extract rfl rfl) ?_
    refine wv (fun W hm => rv_extract rfl rfl) ?_
    refine wa (wa (nt' (CM_seq (sr (wa (nt' ?_))))))
    let F2 := fun k (_ : Unit) => laws_FnRouting_b2 x0 k
    let R5 := rngb (R := Bool) F2
    let I22 : It := iOwn (tSl tyAnnotated 52) [.slice A101 ((spec_DrawRouteRows_m x0).1).length c102] ((spec_DrawRouteRows_m x0).1)
    let I23 : It := iOwn (tSl tyAnnotated 52) [.slice A96 G95.length c97] G95
    let I24 : It := iOwn (tSl tInt 3) [.slice A90 ((spec_DrawKeepSet_m x0).2).length c91] ((spec_DrawKeepSet_m x0).2)
    refine CM_cut (σ := (Unit) × (Unit)) (fun s => [(5, .slice A27 G26.length c28), (6, .int .i64 s40), (9, .slice A86 ((spec_DrawKeepSet_m x0).1).length c87), (10, .slice A90 ((spec_DrawKeepSet_m x0).2).length c91), (11, .slice A96 G95.length c97), (12, .slice A101 ((spec_DrawRouteRows_m x0).1).length c102), (13, .int .i64 ((spec_DrawRouteRows_m x0).2))]) (fun s => [I22, I23, I24, I21, I18]) (fun s => R5 (((spec_DrawKeepSet_m x0).2).length - 0) 0 () = Sum.inr s.1) ?_ ?_
    ·
     refine CM_block ?_
     refine CM_loop (σ := Nat × (Unit) × (Unit)) (fun s => [(5, .slice A27 G26.length c28), (6, .int .i64 s40), (9, .slice A86 ((spec_DrawKeepSet_m x0).1).length c87), (10, .slice A90 ((spec_DrawKeepSet_m x0).2).length c91), (11, .slice A96 G95.length c97), (12, .slice A101 ((spec_DrawRouteRows_m x0).1).length c102), (13, .int .i64 ((spec_DrawRouteRows_m x0).2)), (14, .int .i64 ((s.1 : Nat) : Int))]) (fun s => [I22, I23, I24, I21, I18]) (fun s => s.1 ≤ ((spec_DrawKeepSet_m x0).2).length ∧ R5 (((spec_DrawKeepSet_m x0).2).length - s.1) s.1 s.2.1 = R5 (((spec_DrawKeepSet_m x0).2).length - 0) 0 ()) (fun s => ((spec_DrawKeepSet_m x0).2).length - s.1) (0, (), ()) sl8 (fun W hm => hm) ⟨(by omega), rfl⟩ ?_
     rintro ⟨k105, ⟨⟩, ⟨⟩⟩ H108
     obtain ⟨hk106, hF107⟩ : k105 ≤ ((spec_DrawKeepSet_m x0).2).length ∧ R5 (((spec_DrawKeepSet_m x0).2).length - k105) k105 () = R5 (((spec_DrawKeepSet_m x0).2).length - 0) 0 () := H108
     show CM Try.prog 150 _ _ _ _ [(5, .slice A27 G26.length c28), (6, .int .i64 s40), (9, .slice A86 ((spec_DrawKeepSet_m x0).1).length c87), (10, .slice A90 ((spec_DrawKeepSet_m x0).2).length c91), (11, .slice A96 G95.length c97), (12, .slice A101 ((spec_DrawRouteRows_m x0).1).length c102), (13, .int .i64 ((spec_DrawRouteRows_m x0).2)), (14, .int .i64 ((k105 : Nat) : Int))] [I22, I23, I24, I21, I18]
     refine CM_seq (sr (wm (wm ?_)))
     refine wv (vlen underlying37) ?_
     refine wv vlss ?_
     refine wm ?_
     by_cases hl109 : k105 < ((spec_DrawKeepSet_m x0).2).length
     ·have g110 := dlT hl109
      refine wg vmv g110 ?_
      refine WM_callV (cl_fn cb17 rfl) (fun W hm => spec_IsSet_c W _ ((spec_DrawKeepSet_m x0).2) (hm.rdSI (n := 2) rfl)) (Wd_some rfl rfl rfl (bw g110 rfl)) (by decide) ?_
      refine wv (vpT g110) ?_
      refine nt' ?_
      rcases Bool.eq_false_or_eq_true (spec_IsSet_m ((spec_DrawKeepSet_m x0).2)) with g112 | g112
      ·
       refine CM_condT rfl g112 ?_
       refine CM_skip (QM_then (CM_seq (CM_block (CM_seq (sr (wa (nt' (CM_block ?_))))))))
       let F3 := fun k (_ : Unit) => laws_FnRouting_b3 x0 k
       let R6 := rng (R := Bool) F3
       refine CM_loop (σ := Nat × (Unit) × (Unit)) (fun s => [(5, .slice A27 G26.length c28), (6, .int .i64 s40), (9, .slice A86 ((spec_DrawKeepSet_m x0).1).length c87), (10, .slice A90 ((spec_DrawKeepSet_m x0).2).length c91), (11, .slice A96 G95.length c97), (12, .slice A101 ((spec_DrawRouteRows_m x0).1).length c102), (13, .int .i64 ((spec_DrawRouteRows_m x0).2)), (14, .int .i64 ((k105 : Nat) : Int)), (15, .int .i64 ((s.1 : Nat) : Int))]) (fun s => [I22, I23, I24, I21, I18]) (fun s => s.1 ≤ ((spec_DrawKeepSet_m x0).1).length ∧ R6 (((spec_DrawKeepSet_m x0).1).length - s.1) s.1 s.2.1 = R6 (((spec_DrawKeepSet_m x0).1).length - 0) 0 ()) (fun s => ((spec_DrawKeepSet_m x0).1).length - s.1) (0, (), ()) sl9 (fun W hm => hm) ⟨(by omega), rfl⟩ ?_
       rintro ⟨k113, ⟨⟩, ⟨⟩⟩ H116
       obtain ⟨hk114, hF115⟩ : k113 ≤ ((spec_DrawKeepSet_m x0).1).length ∧ R6 (((spec_DrawKeepSet_m x0).1).length - k113) k113 () = R6 (((spec_DrawKeepSet_m x0).1).length - 0) 0 () := H116
       show CM Try.prog 150 _ _ _ _ [(5, .slice A27 G26.length c28), (6, .int .i64 s40), (9, .slice A86 ((spec_DrawKeepSet_m x0).1).length c87), (10, .slice A90 ((spec_DrawKeepSet_m x0).2).length c91), (11, .slice A96 G95.length c97), (12, .slice A101 ((spec_DrawRouteRows_m x0).1).length c102), (13, .int .i64 ((spec_DrawRouteRows_m x0).2)), (14, .int .i64 ((k105 : Nat) : Int)), (15, .int .i64 ((k113 : Nat) : Int))] [I22, I23, I24, I21, I18]
       refine CM_seq (sr (wm (wm ?_)))
       refine wv (vlen underlying31) ?_
       refine wv vlss ?_
       refine nt' ?_
       by_cases hl117 : k113 < ((spec_DrawKeepSet_m x0).1).length
       ·have g118 := dlT hl117
        refine CM_condT rfl g118 ?_
        refine CM_skip (QM_then (CM_seq (CM_block (sr (wm (wm ?_))))))
        refine WM_formO (n := 3) rfl (by omega) ?_
        rintro g119 rfl
        refine wv (vix 3 k113 underlying31 type52) ?_
        refine wv (vf underlying52 rfl type37) ?_
        refine WM_focus (E := tyAnnotated) (e := 52) (A := (some ⟨g119, 0, none⟩)) (n := ((spec_DrawKeepSet_m x0).1).length) (c := c87) (xs := (spec_DrawKeepSet_m x0).1) (k := k113) (js := [I22, I23, I24, I18]) (by omega) (pk [3, 0, 1, 2, 4]) (fun ck120 => ?_)
        refine tyAnnotated_sp ?_
        rintro ⟨v121, v122⟩ rfl
        refine WM_form (n := 0) rfl ?_
        rintro A123 c124 rfl m125
        refine WM_form (n := 1) rfl ?_
        rintro A127 c128 rfl m129
        refine wv (fun W hm => rv_load underlying37 rfl rfl (hm.focCells (i := 2) rfl rfl 2 _ rfl)) ?_
        refine wcv (cl_fn cb17 rfl) (fun W hm => spec_IsSet_c W _ ((gt ((spec_DrawKeepSet_m x0).1) k113).Set) (hm.rdSI (n := 1) rfl)) ?_
        refine wv vnot ?_
        refine nt' ?_
        rcases Bool.eq_false_or_eq_true (spec_IsSet_m ((gt ((spec_DrawKeepSet_m x0).1) k113).Set)) with g132 | g132
        ·
         refine CM_condF rfl (nt g132) ?_
         refine CM_skip (QM_block_normal (QM_then (CM_region (wm ?_))))
         refine wv (vadN k113 1 (by omega)) ?_
         refine wa (WM_nil ?_)
         refine QM_items (fun W hm => Mem.unfocus0 (Mem.join (is := [iOwn (tSl tInt 3) [.slice A123 ((gt ((spec_DrawKeepSet_m x0).1) k113).Row.Values).length c124] ((gt ((spec_DrawKeepSet_m x0).1) k113).Row.Values), iOwn (tSl tInt 3) [.slice A127 ((gt ((spec_DrawKeepSet_m x0).1) k113).Set).length c128] ((gt ((spec_DrawKeepSet_m x0).1) k113).Set)]) (js := (iFoc tyAnnotated 52 (some ⟨g119, 0, none⟩) (((spec_DrawKeepSet_m x0).1).length) c87 ((spec_DrawKeepSet_m x0).1) k113 [.int .i64 ((gt ((spec_DrawKeepSet_m x0).1) k113).Row.Id), .slice A123 ((gt ((spec_DrawKeepSet_m x0).1) k113).Row.Values).length c124, .slice A127 ((gt ((spec_DrawKeepSet_m x0).1) k113).Set).length c128] :: [I22, I23, I24, I18])) (fun _ _ hs => tyAnnotated_join (x := (gt ((spec_DrawKeepSet_m x0).1) k113)) hs) hm)) ?_
         have hn133 := rng_next (R := Bool) (body := F3) (k := k113) (s := ()) (s' := ()) (show k113 < ((spec_DrawKeepSet_m x0).1).length from by omega) (by subst hG26 hG32 hG95; exact cond_t g132 (rfl)) hF115
         exact QM_round (k113 + 1, (), ()) sl9 (pk [1, 2, 3, 0, 4]) ⟨(by omega), hn133⟩ (show ((spec_DrawKeepSet_m x0).1).length - (k113 + 1) < ((spec_DrawKeepSet_m x0).1).length - k113 from by omega)
        ·
         refine CM_condT rfl (nf g132) ?_
         refine sr (wm (wm (wm ?_)))
         refine WM_items (fun W hm => Mem.unfocus0 (Mem.join (is := [iOwn (tSl tInt 3) [.slice A123 ((gt ((spec_DrawKeepSet_m x0).1) k113).Row.Values).length c124] ((gt ((spec_DrawKeepSet_m x0).1) k113).Row.Values), iOwn (tSl tInt 3) [.slice A127 ((gt ((spec_DrawKeepSet_m x0).1) k113).Set).length c128] ((gt ((spec_DrawKeepSet_m x0).1) k113).Set)]) (js := (iFoc tyAnnotated 52 (some ⟨g119, 0, none⟩) (((spec_DrawKeepSet_m x0).1).length) c87 ((spec_DrawKeepSet_m x0).1) k113 [.int .i64 ((gt ((spec_DrawKeepSet_m x0).1) k113).Row.Id), .slice A123 ((gt ((spec_DrawKeepSet_m x0).1) k113).Row.Values).length c124, .slice A127 ((gt ((spec_DrawKeepSet_m x0).1) k113).Set).length c128] :: [I22, I23, I24, I18])) (fun _ _ hs => tyAnnotated_join (x := (gt ((spec_DrawKeepSet_m x0).1) k113)) hs) hm)) ?_
         refine wcl (tSl tyAnnotated 52) (spec_KeepSet_m ((spec_DrawKeepSet_m x0).1) ((spec_DrawKeepSet_m x0).2)) (cl_fn cb18 rfl) (fun W hm => spec_KeepSet_c W _ ((spec_DrawKeepSet_m x0).1) _ ((spec_DrawKeepSet_m x0).2) (hm.rdSI (n := 0) rfl) (hm.rdSI (n := 3) rfl) (annP_sm hdk.1 (by omega)) hdk.2) (fun z134 => ?_)
         obtain ⟨G135, hG135⟩ : ∃ G, G = (spec_KeepSet_m ((spec_DrawKeepSet_m x0).1) ((spec_DrawKeepSet_m x0).2)) := ⟨_, rfl⟩
         rw [← hG135]
         refine WM_form (n := 0) rfl ?_
         rintro A136 c137 rfl m138
         refine wcv (cl_fn cb7 rfl) (fun W hm => spec_EqualAnnotated_c W _ G95 _ G135 (hm.rdSI (n := 3) rfl) (hm.rdSI (n := 0) rfl)) ?_
         refine wa (nt' (CM_ret (QM_block_ret (QM_then_ret (QM_then_ret (QM_block_ret (QM_then_ret (QM_block_ret (QM_then_ret (QM_then_ret (QM_block_ret (QM_cut_ret (QM_then_ret ?_)))))))))))))
         exact rtb (h := by subst hG26 hG32 hG95 hG135; exact cond_f g7 (cond_t g38 (fin_inr hE82 (fin_inl (rngb_ret (body := F2) (k := k105) (s := ()) (by omega) (cond_t g112 (fin_inl (rng_ret (body := F3) (k := k113) (s := ()) (by omega) (cond_f g132 (rfl)) hF115) rfl)) hF107) rfl))))
       ·have g118 := dlF hl117
        refine CM_condF rfl g118 ?_
        refine CM_exit (QM_then_exit (QM_then_exit ?_))
        have hE140 : R6 (((spec_DrawKeepSet_m x0).1).length - 0) 0 () = Sum.inr () := rng_end hl117 hF115
        refine QM_block_hit (QM_then (CM_seq ?_))
        refine CM_formO (n := 2) rfl (by omega) ?_
        rintro g141 rfl
        refine rb 14 (s := [I22, I23, iOwn (tSl tInt 3) [.slice (some ⟨g141, 0, none⟩) ((spec_DrawKeepSet_m x0).2).length c91] ((spec_DrawKeepSet_m x0).2), I21, I18]) (fun W hm => hm) ?_
        refine qt 14 0 1 rfl vmv ?_
        refine qt 14 1 3 rfl vmv ?_
        refine qt 14 2 7 rfl vmv ?_
        refine qt 14 3 15 rfl (vix 1 k105 underlying37 type3) ?_
        refine qt 14 4 31 rfl (fun W hm => rv_load underlying3 rfl rfl (hm.ownInt (i := 2) rfl (by omega))) ?_
        refine qt 14 6 95 rfl vmv ?_
        refine qt 14 7 223 rfl vmv ?_
        refine qt 14 8 479 rfl vmv ?_
        refine qt 14 9 991 rfl (vix 1 k105 underlying37 type3) ?_
        refine qt 14 10 2015 rfl (fun W hm => rv_load underlying3 rfl rfl (hm.ownInt (i := 2) rfl (by omega))) ?_
        refine qo 14 5 2047 rfl ?_
        refine wcl (tSl tyRow 50) (impl_RouteRows_m G95 (gt ((spec_DrawKeepSet_m x0).2) k105)) (cl_fn cb10 rfl) (fun W hm => impl_RouteRows_c W _ G95 (gt ((spec_DrawKeepSet_m x0).2) k105) (hm.rdSI (n := 1) rfl) (by first | exact annP_sm hla (by omega) | exact annP_sm hlk (by omega) | exact ⟨by omega, hlr.2⟩)) (fun z142 => ?_)
        obtain ⟨G143, hG143⟩ : ∃ G, G = (impl_RouteRows_m G95 (gt ((spec_DrawKeepSet_m x0).2) k105)) := ⟨_, rfl⟩
        rw [← hG143]
        refine WM_form (n := 0) rfl ?_
        rintro A144 c145 rfl m146
        refine qn (pk [1, 2, 3, 4, 5]) ?_
        refine qo 14 11 4095 rfl ?_
        refine wcl (tSl tyRow 50) (impl_RouteRows_m ((spec_DrawKeepSet_m x0).1) (gt ((spec_DrawKeepSet_m x0).2) k105)) (cl_fn cb10 rfl) (fun W hm => impl_RouteRows_c W _ ((spec_DrawKeepSet_m x0).1) (gt ((spec_DrawKeepSet_m x0).2) k105) (hm.rdSI (n := 4) rfl) (annP_sm hdk.1 (by omega))) (fun z148 => ?_)
        obtain ⟨G149, hG149⟩ : ∃ G, G = (impl_RouteRows_m ((spec_DrawKeepSet_m x0).1) (gt ((spec_DrawKeepSet_m x0).2) k105)) := ⟨_, rfl⟩
        rw [← hG149]
        refine WM_form (n := 0) rfl ?_
        rintro A150 c151 rfl m152
        refine qn (pk [2, 3, 4, 5, 6]) ?_
        refine qo 14 12 8191 rfl ?_
        refine wcv (cl_fn cb11 rfl) (fun W hm => spec_EqualRows_c W _ G143 _ G149 (hm.rdSI (n := 1) rfl) (hm.rdSI (n := 0) rfl)) ?_
        refine qn (pk [2, 3, 4, 5, 6]) ?_
        refine qt 14 13 16383 rfl vnot ?_
        refine QB_done (by kernel_rfl) ?_
        refine QM_then ?_
        rcases Bool.eq_false_or_eq_true (spec_EqualRows_m G143 G149) with g155 | g155
        ·
         refine CM_condF rfl (nt g155) ?_
         refine CM_skip (QM_block_normal (QM_then (CM_region (wm ?_))))
         refine wv (vadN k105 1 (by omega)) ?_
         refine wa (WM_nil ?_)
         have hn156 := rngb_next (R := Bool) (body := F2) (k := k105) (s := ()) (s' := ()) (show k105 < ((spec_DrawKeepSet_m x0).2).length from by omega) (by subst hG26 hG32 hG95 hG143 hG149; exact cond_t g112 (fin_inr hE140 (cond_t g155 (rfl)))) hF107
         exact QM_round (k105 + 1, (), ()) sl8 (pk [2, 3, 4, 5, 6]) ⟨(by omega), hn156⟩ (show ((spec_DrawKeepSet_m x0).2).length - (k105 + 1) < ((spec_DrawKeepSet_m x0).2).length - k105 from by omega)
        ·
         refine CM_condT rfl (nf g155) ?_
         refine sr (wa (nt' (CM_ret (QM_block_ret (QM_then_ret (QM_then_ret (QM_block_ret (QM_cut_ret (QM_then_ret ?_)))))))))
         exact rtb (h := by subst hG26 hG32 hG95 hG143 hG149; exact cond_f g7 (cond_t g38 (fin_inr hE82 (fin_inl (rngb_ret (body := F2) (k := k105) (s := ()) (by omega) (cond_t g112 (fin_inr hE140 (cond_f g155 (rfl)))) hF107) rfl))))
      ·
       refine CM_condF rfl g112 ?_
       refine CM_exit (QM_then_exit (QM_then_exit (QM_block_hit ?_)))
       have hE157 := rngb_brk (R := Bool) (body := F2) (k := k105) (s := ()) (s' := ()) (show k105 < ((spec_DrawKeepSet_m x0).2).length from by omega) (by subst hG26 hG32 hG95; exact cond_f g112 (rfl)) hF107
       exact QM_cut_normal ((), ()) sl7 (fun W hm => hm) hE157
     ·have g110 := dlF hl109
      refine ws g110 ?_
      refine ws g110 ?_
      refine wv (vpF g110) ?_
      refine nt' ?_
      refine CM_condF rfl rfl ?_
      refine CM_exit (QM_then_exit (QM_then_exit (QM_block_hit ?_)))
      have hE158 : R5 (((spec_DrawKeepSet_m x0).2).length - 0) 0 () = Sum.inr () := rngb_end hl109 hF107
      exact QM_cut_normal ((), ()) sl7 (fun W hm => hm) hE158
    ·
     rintro ⟨⟨⟩, ⟨⟩⟩ H160
     have hE159 : R5 (((spec_DrawKeepSet_m x0).2).length - 0) 0 () = Sum.inr () := H160
     show QM 150 _ _ _ .normal [(5, .slice A27 G26.length c28), (6, .int .i64 s40), (9, .slice A86 ((spec_DrawKeepSet_m x0).1).length c87), (10, .slice A90 ((spec_DrawKeepSet_m x0).2).length c91), (11, .slice A96 G95.length c97), (12, .slice A101 ((spec_DrawRouteRows_m x0).1).length c102), (13, .int .i64 ((spec_DrawRouteRows_m x0).2))] [I22, I23, I24, I21, I18]
     refine QM_then (sr (wm (wm ?_)))
     refine wcv (cl_fn cb19 rfl) (fun W hm => impl_CountRouted_c W _ G26 (hm.rdSI (n := 4) rfl)) ?_
     refine wv (fun W hm => rv_eql rfl rfl) ?_
     refine wm ?_
     by_cases h161 : s40 = (impl_CountRouted_m G26)
     ·have g162 := beq_iff_eq.2 h161
      refine wg vmv g162 ?_
      refine wg vmv g162 ?_
      refine wg vmv g162 ?_
      refine WM_call (χ := Value) (val := fun x => x) (js := fun x => [iOwn (tSl tyAnnotated 52) [x] (spec_KeepSet_m ((spec_DrawKeepSet_m x0).1) ((spec_DrawKeepSet_m x0).2))]) (cl_fn cb18 rfl) (fun W hm => spec_KeepSet_c W _ ((spec_DrawKeepSet_m x0).1) _ ((spec_DrawKeepSet_m x0).2) (hm.rdSI (n := 3) rfl) (hm.rdSI (n := 2) rfl) (annP_sm hdk.1 (by omega)) hdk.2) (Wd_some rfl rfl rfl (bw g162 rfl)) (by decide) (fun z163 => ?_)
      obtain ⟨G164, hG164⟩ : ∃ G, G = (spec_KeepSet_m ((spec_DrawKeepSet_m x0).1) ((spec_DrawKeepSet_m x0).2)) := ⟨_, rfl⟩
      rw [← hG164]
      refine WM_form (n := 0) rfl ?_
      rintro A165 c166 rfl m167
      refine WM_callV (cl_fn cb7 rfl) (fun W hm => spec_EqualAnnotated_c W _ G95 _ G164 (hm.rdSI (n := 2) rfl) (hm.rdSI (n := 0) rfl)) (Wd_some rfl rfl rfl (bw g162 rfl)) (by decide) ?_
      refine wv (vpT g162) ?_
      refine wm ?_
      rcases Bool.eq_false_or_eq_true (spec_EqualAnnotated_m G95 G164) with g170 | g170
      ·
       refine wg vmv g170 ?_
       refine wg vmv g170 ?_
       refine WM_call (χ := Value) (val := fun x => x) (js := fun x => [iOwn (tSl tyRow 50) [x] (impl_RouteRows_m ((spec_DrawRouteRows_m x0).1) ((spec_DrawRouteRows_m x0).2))]) (cl_fn cb10 rfl) (fun W hm => impl_RouteRows_c W _ ((spec_DrawRouteRows_m x0).1) ((spec_DrawRouteRows_m x0).2) (hm.rdSI (n := 1) rfl) (annP_sm hdb (by omega))) (Wd_some rfl rfl rfl (bw g170 rfl)) (by decide) (fun z171 => ?_)
       obtain ⟨G172, hG172⟩ : ∃ G, G = (impl_RouteRows_m ((spec_DrawRouteRows_m x0).1) ((spec_DrawRouteRows_m x0).2)) := ⟨_, rfl⟩
       rw [← hG172]
       refine WM_form (n := 0) rfl ?_
       rintro A173 c174 rfl m175
       refine wg vmv g170 ?_
       refine wg vmv g170 ?_
       refine WM_call (χ := Value) (val := fun x => x) (js := fun x => [iOwn (tSl tyRow 50) [x] (spec_RouteRows_m ((spec_DrawRouteRows_m x0).1) ((spec_DrawRouteRows_m x0).2))]) (cl_fn cb20 rfl) (fun W hm => spec_RouteRows_c W _ ((spec_DrawRouteRows_m x0).1) ((spec_DrawRouteRows_m x0).2) (hm.rdSI (n := 2) rfl) (annP_sm hdb (by omega))) (Wd_some rfl rfl rfl (bw g170 rfl)) (by decide) (fun z177 => ?_)
       obtain ⟨G178, hG178⟩ : ∃ G, G = (spec_RouteRows_m ((spec_DrawRouteRows_m x0).1) ((spec_DrawRouteRows_m x0).2)) := ⟨_, rfl⟩
       rw [← hG178]
       refine WM_form (n := 0) rfl ?_
       rintro A179 c180 rfl m181
       refine WM_callV (cl_fn cb11 rfl) (fun W hm => spec_EqualRows_c W _ G172 _ G178 (hm.rdSI (n := 1) rfl) (hm.rdSI (n := 0) rfl)) (Wd_some rfl rfl rfl (bw g170 rfl)) (by decide) ?_
       refine wv (vpT g170) ?_
       refine wm ?_
       rcases Bool.eq_false_or_eq_true (spec_EqualRows_m G172 G178) with g184 | g184
       ·
        refine wg vmv g184 ?_
        refine wg vmv g184 ?_
        refine WM_callV (cl_fn cb21 rfl) (fun W hm => impl_EqualAnnotated_c W _ ((spec_DrawKeepSet_m x0).1) _ G95 (hm.rdSI (n := 6) rfl) (hm.rdSI (n := 4) rfl)) (Wd_some rfl rfl rfl (bw g184 rfl)) (by decide) ?_
        refine wg vmv g184 ?_
        refine wg vmv g184 ?_
        refine WM_callV (cl_fn cb7 rfl) (fun W hm => spec_EqualAnnotated_c W _ ((spec_DrawKeepSet_m x0).1) _ G95 (hm.rdSI (n := 6) rfl) (hm.rdSI (n := 4) rfl)) (Wd_some rfl rfl rfl (bw g184 rfl)) (by decide) ?_
        refine wg (fun W hm => rv_eqlB underlying4 rfl rfl) g184 ?_
        refine wv (vpT g184) ?_
        refine wa (nt' (CM_ret ?_))
        exact rtb (h := by subst hG26 hG32 hG95 hG164 hG172 hG178; exact cond_f g7 (cond_t g38 (fin_inr hE82 (fin_inr hE159 (cond_t g162 (cond_t g170 (cond_t g184 (rfl))))))))
       ·
        refine ws g184 ?_
        refine ws g184 ?_
        refine ws g184 ?_
        refine ws g184 ?_
        refine ws g184 ?_
        refine ws g184 ?_
        refine ws g184 ?_
        refine wv (vpF g184) ?_
        refine wa (nt' (CM_ret ?_))
        exact rtb (h := by subst hG26 hG32 hG95 hG164 hG172 hG178; exact cond_f g7 (cond_t g38 (fin_inr hE82 (fin_inr hE159 (cond_t g162 (cond_t g170 (cond_f g184 (rfl))))))))
      ·
       refine ws g170 ?_
       refine ws g170 ?_
       refine ws g170 ?_
       refine ws g170 ?_
       refine ws g170 ?_
       refine ws g170 ?_
       refine ws g170 ?_
       refine wv (vpF g170) ?_
       refine wm ?_
       refine wk ?_
       refine wk ?_
       refine wk ?_
       refine wk ?_
       refine wk ?_
       refine wk ?_
       refine wk ?_
       refine wv (vpF rfl) ?_
       refine wa (nt' (CM_ret ?_))
       exact rtb (h := by subst hG26 hG32 hG95 hG164; exact cond_f g7 (cond_t g38 (fin_inr hE82 (fin_inr hE159 (cond_t g162 (cond_f g170 (rfl)))))))
     ·have g162 := beq_eq_false_iff_ne.2 h161
      refine ws g162 ?_
      refine ws g162 ?_
      refine ws g162 ?_
      refine ws g162 ?_
      refine ws g162 ?_
      refine wv (vpF g162) ?_
      refine wm ?_
      refine wk ?_
      refine wk ?_
      refine wk ?_
      refine wk ?_
      refine wk ?_
      refine wk ?_
      refine wk ?_
      refine wv (vpF rfl) ?_
      refine wm ?_
      refine wk ?_
      refine wk ?_
      refine wk ?_
      refine wk ?_
      refine wk ?_
      refine wk ?_
      refine wk ?_
      refine wv (vpF rfl) ?_
      refine wa (nt' (CM_ret ?_))
      exact rtb (h := by subst hG26 hG32 hG95; exact cond_f g7 (cond_t g38 (fin_inr hE82 (fin_inr hE159 (cond_f g162 (rfl))))))
  ·
   refine CM_condT rfl (nf g38) ?_
   refine CM_seq ?_
   refine CM_items (pk []) ?_
   refine CM_region (wa (nt' (CM_ret (QM_then_ret ?_))))
   exact rtb (h := by subst hG26 hG32; exact cond_f g7 (cond_f g38 (rfl)))

end Go.Proofs.Ytpijbmiahfnliaa
