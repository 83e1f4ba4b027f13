/-
  The contract of the law.
-/
import Derived.Test.YtcjelfdpekbbkaaDoorL6Pl
namespace Go.Proofs.YtcjelfdpekbbkaaDoor
open Go.RowKit
set_option maxRecDepth 100000
set_option maxHeartbeats 4000000
open _root_.Go.Proofs.Tryd
theorem rngb_keep {R S : Type} {b : Nat → S → R ⊕ (S ⊕ S)} {P : S → Prop} (h : ∀ j s, P s → (∃ s', b j s = .inr (.inl s') ∧ P s') ∨ ∃ s', b j s = .inr (.inr s') ∧ P s') : ∀ m k s, P s → ∃ s', rngb b m k s = .inr s' ∧ P s'
  | 0, _, s, hs => ⟨s, rfl, hs⟩
  | m + 1, k, s, hs => by
    rcases h k s hs with ⟨s', h1, h2⟩ | ⟨s', h1, h2⟩
    · exact ⟨s', by rw [rngb, h1]; rfl, h2⟩
    · obtain ⟨s'', h3, h4⟩ := rngb_keep h m (k + 1) s' h2
      exact ⟨s'', by rw [rngb, h1]; exact h3, h4⟩
theorem cond_smC {b : Bool} {p q : DCharge × Dl1Cur} {P : DCharge → Prop} (h1 : P p.1) (h2 : P q.1) : P (cond b p q).1 := by cases b <;> assumption
def chP (x : DCharge) : Prop := x.Ids.length ≤ 4 ∧ x.Tenants.length ≤ 4 ∧ x.Rows.length ≤ 4
theorem chP_sm {x : DCharge} (h : chP x) : smCharge 68719476736 x := by
  obtain ⟨h1, h2, h3⟩ := h
  exact ⟨by omega, by omega, by omega⟩
theorem spec_l10Charge_P (b : List Int) (D : Dl1Cur) : chP (spec_l10Charge_m b D).1 := by
  unfold spec_l10Charge_m
  have hb := spec_l1Below_rng b (spec_l1Below_m b (spec_l1Below_m b (spec_l1Below_m b D 4).2 5).2 3).2 4
  have hb' := hb.2.1 (by omega)
  have hw := wrap_id (n := 1 + (spec_l1Below_m b (spec_l1Below_m b (spec_l1Below_m b (spec_l1Below_m b D 4).2 5).2 3).2 4).1) (by omega) (by omega)
  cases hE : rngb (R := (DCharge × Dl1Cur)) (fun k (s : Int × Int × Nat × Int × (List Int) × (List Int) × (List Int)) => spec_l10Charge_b1 b D k s.1 s.2.1 s.2.2.1 s.2.2.2.1 s.2.2.2.2.1 s.2.2.2.2.2.1 s.2.2.2.2.2.2) (((IntKind.i64.wrap (1 + (spec_l1Below_m b ((spec_l1Below_m b (spec_l1Below_m b ((spec_l1Below_m b D 4).2) 5).2 3).2) 4).1))).toNat + 1 - 0) 0 ((spec_l1Below_m b (spec_l1Below_m b ((spec_l1Below_m b D 4).2) 5).2 3).1, (IntKind.i64.wrap (1 + (spec_l1Below_m b ((spec_l1Below_m b (spec_l1Below_m b ((spec_l1Below_m b D 4).2) 5).2 3).2) 4).1)), (spec_l1Below_m b ((spec_l1Below_m b (spec_l1Below_m b ((spec_l1Below_m b D 4).2) 5).2 3).2) 4).2.i, (spec_l1Below_m b ((spec_l1Below_m b (spec_l1Below_m b ((spec_l1Below_m b D 4).2) 5).2 3).2) 4).2.h, [], [], []) with
  | inl r =>
    exfalso
    obtain ⟨s', e, _⟩ := rngb_keep (R := (DCharge × Dl1Cur)) (b := fun k (s : Int × Int × Nat × Int × (List Int) × (List Int) × (List Int)) => spec_l10Charge_b1 b D k s.1 s.2.1 s.2.2.1 s.2.2.2.1 s.2.2.2.2.1 s.2.2.2.2.2.1 s.2.2.2.2.2.2) (P := fun _ => True) (fun j s _ => by
      show (∃ s', spec_l10Charge_b1 b D j s.1 s.2.1 s.2.2.1 s.2.2.2.1 s.2.2.2.2.1 s.2.2.2.2.2.1 s.2.2.2.2.2.2 = _ ∧ _) ∨ ∃ s', spec_l10Charge_b1 b D j s.1 s.2.1 s.2.2.1 s.2.2.2.1 s.2.2.2.2.1 s.2.2.2.2.2.1 s.2.2.2.2.2.2 = _ ∧ _
      unfold spec_l10Charge_b1
      cases decide (0 < s.2.1)
      · exact .inl ⟨_, rfl, trivial⟩
      · exact .inr ⟨_, rfl, trivial⟩) _ 0 _ trivial
    rw [hE] at e
    cases e
  | inr s =>
    obtain ⟨a, c, d, e, f, g, j⟩ := s
    obtain ⟨o1, o2, o3⟩ := spec_l10Charge_out (by omega) (by omega) hE
    show chP (cond _ _ (cond _ _ (cond _ _ _)) : DCharge × Dl1Cur).1
    refine cond_smC (P := chP) ⟨o1.2, by show g.length ≤ 4; omega, by show j.length ≤ 4; omega⟩ (cond_smC (P := chP) ⟨o1.2, by show g.length ≤ 4; omega, by show (List.drop 1 j).length ≤ 4; rw [List.length_drop]; omega⟩ (cond_smC (P := chP) ⟨o1.2, by show (g.set 0 _).length ≤ 4; rw [List.length_set]; omega, by show j.length ≤ 4; omega⟩ ⟨o1.2, by show g.length ≤ 4; omega, by show j.length ≤ 4; omega⟩))
def leP (l : List DCharge) : Prop := l.length ≤ 5 ∧ ∀ x ∈ l, chP x
theorem leP_sm {l : List DCharge} (h : leP l) : l.length ≤ 68719476736 ∧ ∀ x ∈ l, smCharge 68719476736 x := ⟨by have := h.1; omega, fun x hx => chP_sm (h.2 x hx)⟩
theorem spec_l10Ledger_P (b : List Int) (D : Dl1Cur) : leP (spec_l10Ledger_m b D).1 := by
  have hb := spec_l1Below_rng b D 6
  have hb' := hb.2.1 (by omega)
  unfold spec_l10Ledger_m
  obtain ⟨s', e1, e2⟩ := rngb_invP (R := ((List DCharge) × Dl1Cur)) (b := fun k (s : (List DCharge) × Int × Nat × Int) => spec_l10Ledger_b1 b k s.1 s.2.1 s.2.2.1 s.2.2.2) (P := fun _ s => (0 ≤ s.2.1 ∧ s.2.1 ≤ 5) ∧ s.1.length + s.2.1.toNat ≤ 5 ∧ ∀ x ∈ s.1, chP x) (Q := fun s => leP s.1) (fun k s ⟨p0, p1, p2⟩ => by
    show (∃ s', spec_l10Ledger_b1 b k s.1 s.2.1 s.2.2.1 s.2.2.2 = _ ∧ _) ∨ ∃ s', spec_l10Ledger_b1 b k s.1 s.2.1 s.2.2.1 s.2.2.2 = _ ∧ _
    unfold spec_l10Ledger_b1
    by_cases h : 0 < s.2.1
    · rw [decide_eq_true h, wrap_id (n := s.2.1 - 1) (by omega) (by omega)]
      refine .inl ⟨_, rfl, ?_, ?_, fun x hx => ?_⟩
      · show 0 ≤ s.2.1 - 1 ∧ s.2.1 - 1 ≤ 5; omega
      · show (s.1 ++ [_]).length + (s.2.1 - 1).toNat ≤ 5; rw [List.length_append]; show s.1.length + 1 + _ ≤ 5; omega
      · rcases List.mem_append.1 hx with hx | hx
        · exact p2 x hx
        · rw [List.mem_singleton.1 hx]; exact spec_l10Charge_P _ _
    · rw [decide_eq_false h]
      exact .inr ⟨_, rfl, (by show s.1.length ≤ 5; omega), p2⟩) (((spec_l1Below_m b D 6).1).toNat + 1 - 0) 0 ([], (spec_l1Below_m b D 6).1, ((spec_l1Below_m b D 6).2).i, ((spec_l1Below_m b D 6).2).h) ⟨(by show 0 ≤ (spec_l1Below_m b D 6).1 ∧ (spec_l1Below_m b D 6).1 ≤ 5; omega), (by show 0 + (spec_l1Below_m b D 6).1.toNat ≤ 5; omega), fun x hx => (by cases hx)⟩
  rw [e1]
  show leP s'.1
  rcases e2 with h | h
  · exact h
  · exact ⟨by omega, h.2.2⟩
theorem spec_DrawSharesOf_fact (x : List Int) : chP (spec_DrawSharesOf_m x) := spec_l10Charge_P _ _
theorem spec_DrawTenantCharge_fact (x : List Int) : leP (spec_DrawTenantCharge_m x).1 := spec_l10Ledger_P _ _
theorem spec_DrawCoalitionCost_fact (x : List Int) : leP (spec_DrawCoalitionCost_m x).1 ∧ (spec_DrawCoalitionCost_m x).2.length ≤ 3 := by
  unfold spec_DrawCoalitionCost_m
  have hb := spec_l1Below_rng x (spec_l10Ledger_m x (spec_l1New_m x)).2 4
  have hb' := hb.2.1 (by omega)
  obtain ⟨s', e1, e2⟩ := rngb_invP (R := ((List DCharge) × (List Int))) (b := fun k (s : (List Int) × Int × Nat × Int) => spec_DrawCoalitionCost_b1 x k s.1 s.2.1 s.2.2.1 s.2.2.2) (P := fun _ s => (0 ≤ s.2.1 ∧ s.2.1 ≤ 3) ∧ s.1.length + s.2.1.toNat ≤ 3) (Q := fun s => s.1.length ≤ 3) (fun k s ⟨p0, p1⟩ => by
    show (∃ s', spec_DrawCoalitionCost_b1 x k s.1 s.2.1 s.2.2.1 s.2.2.2 = _ ∧ _) ∨ ∃ s', spec_DrawCoalitionCost_b1 x k s.1 s.2.1 s.2.2.1 s.2.2.2 = _ ∧ _
    unfold spec_DrawCoalitionCost_b1
    by_cases h : 0 < s.2.1
    · rw [decide_eq_true h, wrap_id (n := s.2.1 - 1) (by omega) (by omega)]
      refine .inl ⟨_, rfl, ?_, ?_⟩
      · show 0 ≤ s.2.1 - 1 ∧ s.2.1 - 1 ≤ 3; omega
      · show (s.1 ++ [_]).length + (s.2.1 - 1).toNat ≤ 3; rw [List.length_append]; show s.1.length + 1 + _ ≤ 3; omega
    · rw [decide_eq_false h]
      exact .inr ⟨_, rfl, (by show s.1.length ≤ 3; omega)⟩) (((spec_l1Below_m x (spec_l10Ledger_m x (spec_l1New_m x)).2 4).1).toNat + 1 - 0) 0 ([], (spec_l1Below_m x (spec_l10Ledger_m x (spec_l1New_m x)).2 4).1, ((spec_l1Below_m x (spec_l10Ledger_m x (spec_l1New_m x)).2 4).2).i, ((spec_l1Below_m x (spec_l10Ledger_m x (spec_l1New_m x)).2 4).2).h) ⟨(by show 0 ≤ (spec_l1Below_m x (spec_l10Ledger_m x (spec_l1New_m x)).2 4).1 ∧ (spec_l1Below_m x (spec_l10Ledger_m x (spec_l1New_m x)).2 4).1 ≤ 3; omega), (by show 0 + (spec_l1Below_m x (spec_l10Ledger_m x (spec_l1New_m x)).2 4).1.toNat ≤ 3; omega)⟩
  rw [e1]
  refine ⟨spec_l10Ledger_P _ _, ?_⟩
  show s'.1.length ≤ 3
  rcases e2 with h | h
  · exact h
  · omega
theorem spec_Charge_all {x : DCharge} (h : spec_IsCharge_m x = true) : (1 ≤ x.Ids.length ∧ x.Ids.length ≤ 8) ∧ x.Tenants.length = x.Ids.length ∧ x.Rows.length = x.Ids.length ∧ (0 ≤ x.Base ∧ x.Base ≤ 4) ∧ ∀ k, k < x.Ids.length → (0 ≤ gt x.Tenants k ∧ gt x.Tenants k ≤ 3) ∧ (0 ≤ gt x.Rows k ∧ gt x.Rows k ≤ 4) := by
  unfold spec_IsCharge_m at h
  obtain ⟨h1, h⟩ := cond_tt h
  obtain ⟨h2, h⟩ := cond_ft h
  obtain ⟨h3, h⟩ := cond_ft h
  obtain ⟨h4, h⟩ := cond_ft h
  obtain ⟨h5, h⟩ := cond_ft h
  obtain ⟨h6, h⟩ := cond_tt h
  obtain ⟨h7, h⟩ := cond_tt h
  rw [rng_allN (p := fun k => spec_l1In_m (gt x.Tenants k) 0 3 && spec_l1In_m (gt x.Rows k) 0 x.Base) (r := false) (fun k _ => by
    unfold spec_IsCharge_b1
    cases spec_l1In_m (gt x.Tenants k) 0 3 <;> cases spec_l1In_m (gt x.Rows k) 0 x.Base <;> rfl)] at h
  have ha : (List.range x.Ids.length).all (fun k => spec_l1In_m (gt x.Tenants k) 0 3 && spec_l1In_m (gt x.Rows k) 0 x.Base) = true := by
    revert h
    cases (List.range x.Ids.length).all (fun k => spec_l1In_m (gt x.Tenants k) 0 3 && spec_l1In_m (gt x.Rows k) 0 x.Base) with
    | true => intro _; rfl
    | false => intro h; cases h
  rw [List.all_eq_true] at ha
  rw [decide_eq_false_iff_not] at h3
  rw [bne_eq_false_iff_eq] at h4 h5
  rw [beq_eq_false_iff_ne] at h2
  rw [spec_l1In_iff, decide_eq_true_eq] at h6 h7
  refine ⟨by omega, by omega, by omega, h7, fun k hk => ?_⟩
  have := ha k (List.mem_range.2 hk)
  rw [Bool.and_eq_true, spec_l1In_iff, spec_l1In_iff, decide_eq_true_eq, decide_eq_true_eq] at this
  omega
def baseS (x : DCharge) (k : Nat) : Int := x.Base / ((x.Ids.length : Nat) : Int) + (if ((k : Nat) : Int) < x.Base % ((x.Ids.length : Nat) : Int) then 1 else 0)
def shareS (x : DCharge) (k : Nat) : Int := gt x.Rows k + baseS x k
theorem baseS_bnd {x : DCharge} (h : spec_IsCharge_m x = true) (k : Nat) : 0 ≤ baseS x k ∧ baseS x k ≤ 5 ∧ x.Base / ((x.Ids.length : Nat) : Int) ≤ baseS x k ∧ baseS x k ≤ (x.Base + ((x.Ids.length : Nat) : Int) - 1) / ((x.Ids.length : Nat) : Int) := by
  obtain ⟨h1, _, _, h4, _⟩ := spec_Charge_all h
  unfold baseS
  generalize x.Base = B at *
  generalize x.Ids.length = n at *
  have hn : n = 1 ∨ n = 2 ∨ n = 3 ∨ n = 4 ∨ n = 5 ∨ n = 6 ∨ n = 7 ∨ n = 8 := by omega
  rcases hn with rfl | rfl | rfl | rfl | rfl | rfl | rfl | rfl <;> split <;> omega
theorem SharesOf_no {x : DCharge} (h : spec_IsCharge_m x = false) : impl_SharesOf_m x = [] := by
  unfold impl_SharesOf_m
  rw [IsCharge_same, h]
  rfl
theorem SharesOf_form {x : DCharge} (h : spec_IsCharge_m x = true) : impl_SharesOf_m x = (List.range x.Ids.length).map (shareS x) := by
  obtain ⟨h1, h2, h3, h4, h5⟩ := spec_Charge_all h
  unfold impl_SharesOf_m
  rw [IsCharge_same, h, cond_true, rng_rangeFM (n := x.Rows.length) (c := fun _ => true) (g := shareS x) (b := fun k s => impl_SharesOf_b1 x k s) (fun j d hj => by
    have hb := baseS_bnd h j
    have hr := (h5 j (by omega)).2
    unfold impl_SharesOf_b1 shareS
    rw [Int.tdiv_eq_ediv_of_nonneg h4.1, Int.tmod_eq_emod_of_nonneg h4.1]
    have hd : 0 ≤ x.Base / ((x.Ids.length : Nat) : Int) ∧ x.Base / ((x.Ids.length : Nat) : Int) ≤ 5 := ⟨Int.ediv_nonneg h4.1 (by omega), by omega⟩
    rw [wrap_id (n := x.Base / ((x.Ids.length : Nat) : Int)) (by omega) (by omega), wrap_id (n := gt x.Rows j + x.Base / ((x.Ids.length : Nat) : Int)) (by omega) (by omega), wrap_id (n := gt x.Rows j + x.Base / ((x.Ids.length : Nat) : Int) + 1) (by omega) (by omega)]
    unfold baseS
    by_cases hc : ((j : Nat) : Int) < x.Base % ((x.Ids.length : Nat) : Int)
    · rw [decide_eq_true hc, if_pos hc, Int.add_assoc]; rfl
    · rw [decide_eq_false hc, if_neg hc, Int.add_zero]; rfl)]
  have h6 : List.filter (fun _ : Nat => true) (List.range x.Rows.length) = List.range x.Rows.length := List.filter_eq_self.2 fun _ _ => rfl
  rw [h6, h3]
  rfl
theorem impl_SharesOf_le (x : DCharge) : (impl_SharesOf_m x).length ≤ x.Rows.length := by
  cases h : spec_IsCharge_m x with
  | false => rw [SharesOf_no h]; exact Nat.zero_le _
  | true => rw [SharesOf_form h, List.length_map, List.length_range, (spec_Charge_all h).2.2.1]; exact Nat.le_refl _
def laws_FnCharges_b2 (x0 : (List Int)) (k70 : Nat) (s71 : Int) : Bool ⊕ (Int) :=
 cond (laws_has_m ((spec_DrawCoalitionCost_m x0).2) ((k70 : Nat) : Int)) (Sum.inr (IntKind.i64.wrap (s71 + (impl_TenantCharge_m ((spec_DrawCoalitionCost_m x0).1) ((k70 : Nat) : Int))))) (Sum.inr s71)
def laws_FnCharges_b1 (x0 : (List Int)) (k45 : Nat) (s46 : Int) : Bool ⊕ (Int) :=
 cond (decide ((IntKind.i64.wrap ((gt (impl_SharesOf_m (spec_DrawSharesOf_m x0)) k45) - (gt ((spec_DrawSharesOf_m x0).Rows) k45))) < (IntKind.i64.wrap (Int.tdiv ((spec_DrawSharesOf_m x0).Base) (((impl_SharesOf_m (spec_DrawSharesOf_m x0)).length : Nat) : Int))))) (Sum.inl false) (cond (decide ((IntKind.i64.wrap (Int.tdiv (IntKind.i64.wrap ((IntKind.i64.wrap (((spec_DrawSharesOf_m x0).Base) + (((impl_SharesOf_m (spec_DrawSharesOf_m x0)).length : Nat) : Int))) - 1)) (((impl_SharesOf_m (spec_DrawSharesOf_m x0)).length : Nat) : Int))) < (IntKind.i64.wrap ((gt (impl_SharesOf_m (spec_DrawSharesOf_m x0)) k45) - (gt ((spec_DrawSharesOf_m x0).Rows) k45))))) (Sum.inl false) (Sum.inr (IntKind.i64.wrap (s46 + (gt (impl_SharesOf_m (spec_DrawSharesOf_m x0)) k45)))))
def laws_FnCharges_m (x0 : (List Int)) : Bool :=
 cond (laws_big_m x0) true (cond (laws_sameInts_m (impl_SharesOf_m (spec_DrawSharesOf_m x0)) (spec_SharesOf_m (spec_DrawSharesOf_m x0))) (cond ((impl_IsCharge_m (spec_DrawSharesOf_m x0)) != (spec_IsCharge_m (spec_DrawSharesOf_m x0))) false (cond ((impl_WorkDone_m (spec_DrawSharesOf_m x0)) != (spec_WorkDone_m (spec_DrawSharesOf_m x0))) false (cond (eqS (impl_FormatCharge_m (spec_DrawSharesOf_m x0)) (spec_FormatCharge_m (spec_DrawSharesOf_m x0))) (Sum.elim id (fun (s1_ : Int) => Sum.elim id (fun (s : Int) => cond (s1_ == (impl_WorkDone_m (spec_DrawSharesOf_m x0))) (cond ((impl_CoalitionCost_m ((spec_DrawCoalitionCost_m x0).1) ((spec_DrawCoalitionCost_m x0).2)) == (spec_CoalitionCost_m ((spec_DrawCoalitionCost_m x0).1) ((spec_DrawCoalitionCost_m x0).2))) (cond (decide (s ≤ (impl_CoalitionCost_m ((spec_DrawCoalitionCost_m x0).1) ((spec_DrawCoalitionCost_m x0).2)))) (cond ((impl_TenantCharge_m ((spec_DrawTenantCharge_m x0).1) ((spec_DrawTenantCharge_m x0).2)) == (spec_TenantCharge_m ((spec_DrawTenantCharge_m x0).1) ((spec_DrawTenantCharge_m x0).2))) (cond ((impl_TotalWork_m ((spec_DrawTenantCharge_m x0).1)) == (spec_TotalWork_m ((spec_DrawTenantCharge_m x0).1))) (cond (decide ((impl_CoalitionCost_m ((spec_DrawCoalitionCost_m x0).1) ((spec_DrawCoalitionCost_m x0).2)) ≤ (impl_TotalWork_m ((spec_DrawCoalitionCost_m x0).1)))) ((impl_WorstStep_m ((spec_DrawTenantCharge_m x0).1)) == (spec_WorstStep_m ((spec_DrawTenantCharge_m x0).1))) false) false) false) false) false) false) (rng (R := Bool) (fun k (s : Int) => laws_FnCharges_b2 x0 k s) (4 - 0) 0 0)) (rng (R := Bool) (fun k (s : Int) => laws_FnCharges_b1 x0 k s) ((impl_SharesOf_m (spec_DrawSharesOf_m x0)).length - 0) 0 0)) false))) false)
theorem cb6 : Cb Tryd.prog 6 := ⟨f6, _, func6, rfl, by decide⟩
theorem laws_FnCharges_c (w : World) (z0 : Value) (x0 : (List Int)) (r_0 : rdS tU8 w w.heap.size z0 x0) (hT : TabOK w.heap.size w) :
  Calls Tryd.prog 6 #[z0] w fun e w' => e = .returned (.bool (laws_FnCharges_m x0)) ∧ Below w.heap.size w w' := by
 have ok0 := r_0.1
 obtain ⟨m1, A2, c3, rfl, q4, r5⟩ := rdS_op r_0
 refine ce1 (L := [(0, .slice A2 x0.length c3)]) (N := 159) func6 ?_
 refine sr (wa (nt' (CM_seq (sr (wm ?_)))))
 refine wcv (cl_fn cb21 rfl) (fun W hm => laws_big_c W _ x0 (hm.rdS0 r5)) ?_
 refine nt' ?_
 rcases Bool.eq_false_or_eq_true (laws_big_m x0) with g7 | g7
 ·
  refine CM_condT rfl g7 ?_
  refine sr (wa (nt' (CM_ret (QM_then_ret ?_))))
  exact rtb (h := cond_t g7 (rfl))
 ·
  have hl0 := of_decide_eq_false (p := 1048576 < ((x0.length : Nat) : Int)) g7
  refine CM_condF rfl g7 ?_
  refine CM_skip (QM_then (sr (wm ?_)))
  refine wcs tyCharge (spec_DrawSharesOf_m x0) (cl_fn cb22 rfl) (fun W hm => spec_DrawSharesOf_c W _ x0 (hm.rdS0 r5) (by omega)) (fun z8 => ?_)
  have hdx := spec_DrawSharesOf_fact x0
  refine tyCharge_sp ?_
  rintro ⟨v9, v10, v11⟩ rfl
  refine WM_form (n := 0) rfl ?_
  rintro A12 c13 rfl m14
  refine WM_form (n := 1) rfl ?_
  rintro A16 c17 rfl m18
  refine WM_formP (n := 2) rfl ?_
  rintro A20 c21 rfl m22
  refine WM_alloc type33 rfl (Wd_none rfl) (by decide) (fun p24 => ?_)
  let K5 : List Value := [.int .i64 ((spec_DrawSharesOf_m x0).Segment), .int .i64 ((spec_DrawSharesOf_m x0).Base), .slice A12 ((spec_DrawSharesOf_m x0).Ids).length c13, .slice A16 ((spec_DrawSharesOf_m x0).Tenants).length c17, .slice A20 ((spec_DrawSharesOf_m x0).Rows).length c21]
  let I6 : It := iOwn (tSl tInt 3) [.slice A12 ((spec_DrawSharesOf_m x0).Ids).length c13] ((spec_DrawSharesOf_m x0).Ids)
  let I7 : It := iOwn (tSl tInt 3) [.slice A16 ((spec_DrawSharesOf_m x0).Tenants).length c17] ((spec_DrawSharesOf_m x0).Tenants)
  let I8 : It := iOwn (tPa tInt 3) [.slice A20 ((spec_DrawSharesOf_m x0).Rows).length c21] ((spec_DrawSharesOf_m x0).Rows)
  refine sb 0 K5 [I6, I7, I8] (fun W hm => hm) type33 ?_
  refine nt' (sr ?_)
  refine wv (fun W hm => rv_loadN (cs := K5) underlying33 type33 rfl rfl (hm.boxCells (n := 0) rfl)) ?_
  refine wcl (tSl tInt 3) (impl_SharesOf_m (spec_DrawSharesOf_m x0)) (cl_fn cb23 rfl) (fun W hm => impl_SharesOf_c W _ (spec_DrawSharesOf_m x0) (tyCharge_mk (x := (spec_DrawSharesOf_m x0)) (hm.rdSI (n := 1) rfl) (hm.rdSI (n := 2) rfl) (hm.rdPI (n := 3) rfl)) (chP_sm hdx)) (fun z25 => ?_)
  have hsl := impl_SharesOf_le (spec_DrawSharesOf_m x0)
  obtain ⟨G26, hG26⟩ : ∃ G, G = (impl_SharesOf_m (spec_DrawSharesOf_m x0)) := ⟨_, rfl⟩
  rw [← hG26]
  rw [← hG26] at hsl
  refine WM_form (n := 0) rfl ?_
  rintro A27 c28 rfl m29
  refine wa (nt' (CM_seq (CM_seq ?_)))
  let I9 : It := iOwn (tSl tInt 3) [.slice A27 G26.length c28] G26
  refine rb 26 (s := [I9, iBox p24 33 K5, I6, I7, I8]) (fun W hm => hm) ?_
  refine qt 26 0 1 rfl vmv ?_
  refine qt 26 1 3 rfl (fun W hm => rv_loadN (cs := K5) underlying33 type33 rfl rfl (hm.boxCells (n := 1) rfl)) ?_
  refine qo 26 2 7 rfl ?_
  refine wcl (tSl tInt 3) (spec_SharesOf_m (spec_DrawSharesOf_m x0)) (cl_fn cb25 rfl) (fun W hm => spec_SharesOf_c W _ (spec_DrawSharesOf_m x0) (tyCharge_mk (x := (spec_DrawSharesOf_m x0)) (hm.rdSI (n := 2) rfl) (hm.rdSI (n := 3) rfl) (hm.rdPI (n := 4) rfl)) (chP_sm hdx)) (fun z31 => ?_)
  obtain ⟨G32, hG32⟩ : ∃ G, G = (spec_SharesOf_m (spec_DrawSharesOf_m x0)) := ⟨_, rfl⟩
  rw [← hG32]
  refine WM_form (n := 0) rfl ?_
  rintro A33 c34 rfl m35
  refine qn (pk [1, 2, 3, 4, 5]) ?_
  refine qo 26 3 15 rfl ?_
  refine wcv (cl_fn cb24 rfl) (fun W hm => laws_sameInts_c W _ G26 _ G32 (hm.rdSI (n := 1) rfl) (hm.rdSI (n := 0) rfl)) ?_
  refine qn (pk [1, 2, 3, 4, 5]) ?_
  refine qt 26 4 31 rfl vnot ?_
  refine qt 26 5 63 rfl vmv ?_
  rcases Bool.eq_false_or_eq_true (laws_sameInts_m G26 G32) with g38 | g38
  ·
   refine qtg 26 6 127 rfl (fun W hm => rv_loadN (cs := K5) underlying33 type33 rfl rfl (hm.boxCells (n := 1) rfl)) (Wd_some rfl rfl rfl (bw (nt g38) rfl)) ?_
   refine qtg 26 8 383 rfl (fun W hm => rv_loadN (cs := K5) underlying33 type33 rfl rfl (hm.boxCells (n := 1) rfl)) (Wd_some rfl rfl rfl (bw (nt g38) rfl)) ?_
   refine qo 26 7 511 rfl ?_
   refine WM_callV (cl_fn cb26 rfl) (fun W hm => impl_IsCharge_c W _ (spec_DrawSharesOf_m x0) (tyCharge_mk (x := (spec_DrawSharesOf_m x0)) (hm.rdSI (n := 3) rfl) (hm.rdSI (n := 4) rfl) (hm.rdPI (n := 5) rfl))) (Wd_some rfl rfl rfl (bw (nt g38) rfl)) (by decide) ?_
   refine qn (pk [1, 2, 3, 4, 5]) ?_
   refine qo 26 9 1023 rfl ?_
   refine WM_callV (cl_fn cb27 rfl) (fun W hm => spec_IsCharge_c W _ (spec_DrawSharesOf_m x0) (tyCharge_mk (x := (spec_DrawSharesOf_m x0)) (hm.rdSI (n := 3) rfl) (hm.rdSI (n := 4) rfl) (hm.rdPI (n := 5) rfl))) (Wd_some rfl rfl rfl (bw (nt g38) rfl)) (by decide) ?_
   refine qn (pk [1, 2, 3, 4, 5]) ?_
   refine qtg 26 10 2047 rfl (fun W hm => rv_neqB underlying4 rfl rfl) (Wd_some rfl rfl rfl (bw (nt g38) rfl)) ?_
   refine qt 26 11 4095 rfl (vpF (nt g38)) ?_
   refine qt 26 12 8191 rfl vmv ?_
   rcases Bool.eq_false_or_eq_true ((impl_IsCharge_m (spec_DrawSharesOf_m x0)) != (spec_IsCharge_m (spec_DrawSharesOf_m x0))) with g40 | g40
   ·
    refine qk 26 13 16383 rfl (Wd_some rfl rfl rfl (bw g40 rfl)) ?_
    refine qk 26 14 32767 rfl (Wd_some rfl rfl rfl (bw g40 rfl)) ?_
    refine qk 26 15 65535 rfl (Wd_some rfl rfl rfl (bw g40 rfl)) ?_
    refine qk 26 16 131071 rfl (Wd_some rfl rfl rfl (bw g40 rfl)) ?_
    refine qk 26 17 262143 rfl (Wd_some rfl rfl rfl (bw g40 rfl)) ?_
    refine qt 26 18 524287 rfl (vpT g40) ?_
    refine qt 26 19 1048575 rfl vmv ?_
    refine qk 26 20 2097151 rfl (Wd_some rfl rfl rfl rfl) ?_
    refine qk 26 21 4194303 rfl (Wd_some rfl rfl rfl rfl) ?_
    refine qk 26 22 8388607 rfl (Wd_some rfl rfl rfl rfl) ?_
    refine qk 26 23 16777215 rfl (Wd_some rfl rfl rfl rfl) ?_
    refine qk 26 24 33554431 rfl (Wd_some rfl rfl rfl rfl) ?_
    refine qt 26 25 67108863 rfl (vpT rfl) ?_
    refine QB_done (by kernel_rfl) ?_
    refine QM_then ?_
    refine CM_condT rfl rfl ?_
    refine CM_seq ?_
    refine CM_items (pk []) ?_
    refine CM_region (wa (nt' (CM_ret (QM_then_ret ?_))))
    exact rtb (h := by subst hG26 hG32; exact cond_f g7 (cond_t g38 (cond_t g40 (rfl))))
   ·
    refine qtg 26 13 16383 rfl (fun W hm => rv_loadN (cs := K5) underlying33 type33 rfl rfl (hm.boxCells (n := 1) rfl)) (Wd_some rfl rfl rfl (bw g40 rfl)) ?_
    refine qtg 26 15 49151 rfl (fun W hm => rv_loadN (cs := K5) underlying33 type33 rfl rfl (hm.boxCells (n := 1) rfl)) (Wd_some rfl rfl rfl (bw g40 rfl)) ?_
    refine qo 26 14 65535 rfl ?_
    refine WM_callV (cl_fn cb28 rfl) (fun W hm => impl_WorkDone_c W _ (spec_DrawSharesOf_m x0) (tyCharge_mk (x := (spec_DrawSharesOf_m x0)) (hm.rdSI (n := 3) rfl) (hm.rdSI (n := 4) rfl) (hm.rdPI (n := 5) rfl))) (Wd_some rfl rfl rfl (bw g40 rfl)) (by decide) ?_
    refine qn (pk [1, 2, 3, 4, 5]) ?_
    refine qo 26 16 131071 rfl ?_
    refine WM_callV (cl_fn cb29 rfl) (fun W hm => spec_WorkDone_c W _ (spec_DrawSharesOf_m x0) (tyCharge_mk (x := (spec_DrawSharesOf_m x0)) (hm.rdSI (n := 3) rfl) (hm.rdSI (n := 4) rfl) (hm.rdPI (n := 5) rfl))) (Wd_some rfl rfl rfl (bw g40 rfl)) (by decide) ?_
    refine qn (pk [1, 2, 3, 4, 5]) ?_
    refine qtg 26 17 262143 rfl vneq (Wd_some rfl rfl rfl (bw g40 rfl)) ?_
    refine qt 26 18 524287 rfl (vpF g40) ?_
    refine qt 26 19 1048575 rfl vmv ?_
    by_cases h41 : (impl_WorkDone_m (spec_DrawSharesOf_m x0)) = (spec_WorkDone_m (spec_DrawSharesOf_m x0))
    ·have g42 : ((impl_WorkDone_m (spec_DrawSharesOf_m x0)) != (spec_WorkDone_m (spec_DrawSharesOf_m x0))) = false := by rw [h41]; exact bne_self_eq_false _
     refine qtg 26 20 2097151 rfl (fun W hm => rv_loadN (cs := K5) underlying33 type33 rfl rfl (hm.boxCells (n := 1) rfl)) (Wd_some rfl rfl rfl (bw g42 rfl)) ?_
     refine qtg 26 22 6291455 rfl (fun W hm => rv_loadN (cs := K5) underlying33 type33 rfl rfl (hm.boxCells (n := 1) rfl)) (Wd_some rfl rfl rfl (bw g42 rfl)) ?_
     refine qo 26 21 8388607 rfl ?_
     refine WM_callV (cl_fn cb14 rfl) (fun W hm => impl_FormatCharge_c W _ (spec_DrawSharesOf_m x0) (tyCharge_mk (x := (spec_DrawSharesOf_m x0)) (hm.rdSI (n := 3) rfl) (hm.rdSI (n := 4) rfl) (hm.rdPI (n := 5) rfl)) (hT.mem hm)) (Wd_some rfl rfl rfl (bw g42 rfl)) (by decide) ?_
     refine qn (pk [1, 2, 3, 4, 5]) ?_
     refine qo 26 23 16777215 rfl ?_
     refine WM_callV (cl_fn cb12 rfl) (fun W hm => spec_FormatCharge_c W _ (spec_DrawSharesOf_m x0) (tyCharge_mk (x := (spec_DrawSharesOf_m x0)) (hm.rdSI (n := 3) rfl) (hm.rdSI (n := 4) rfl) (hm.rdPI (n := 5) rfl))) (Wd_some rfl rfl rfl (bw g42 rfl)) (by decide) ?_
     refine qn (pk [1, 2, 3, 4, 5]) ?_
     refine qtg 26 24 33554431 rfl (fun W hm => rv_neqS (p := (impl_FormatCharge_m (spec_DrawSharesOf_m x0))) (q := (spec_FormatCharge_m (spec_DrawSharesOf_m x0))) underlying9 rfl rfl) (Wd_some rfl rfl rfl (bw g42 rfl)) ?_
     refine qt 26 25 67108863 rfl (vpF g42) ?_
     refine QB_done (by kernel_rfl) ?_
     refine QM_then ?_
     rcases Bool.eq_false_or_eq_true (eqS (impl_FormatCharge_m (spec_DrawSharesOf_m x0)) (spec_FormatCharge_m (spec_DrawSharesOf_m x0))) with g44 | g44
     ·
      refine CM_condF rfl (nt g44) ?_
      refine CM_skip (QM_then (sr (wa (nt' (CM_seq (sr (wa (nt' (CM_block ?_)))))))))
      let F1 := fun k (s : Int) => laws_FnCharges_b1 x0 k s
      let R3 := rng (R := Bool) F1
      let I10 : It := iOwn (tSl tInt 3) [.slice A33 G32.length c34] G32
      refine CM_loop (σ := Nat × (Int) × (Unit)) (fun s => [(0, .slice A2 x0.length c3), (3, .pointer (some (⟨p24, 0, none⟩ : Addr))), (4, .slice A27 G26.length c28), (5, .int .i64 s.2.1), (6, .int .i64 ((s.1 : Nat) : Int))]) (fun s => [I10, I9, iBox p24 33 K5, I6, I7, I8]) (fun s => s.1 ≤ G26.length ∧ R3 (G26.length - s.1) s.1 s.2.1 = R3 (G26.length - 0) 0 0) (fun s => G26.length - s.1) (0, 0, ()) sl5 (fun W hm => hm) ⟨(by omega), rfl⟩ ?_
      rintro ⟨k45, s46, ⟨⟩⟩ H49
      obtain ⟨hk47, hF48⟩ : k45 ≤ G26.length ∧ R3 (G26.length - k45) k45 s46 = R3 (G26.length - 0) 0 0 := H49
      show CM Tryd.prog 159 _ _ _ _ [(0, .slice A2 x0.length c3), (3, .pointer (some (⟨p24, 0, none⟩ : Addr))), (4, .slice A27 G26.length c28), (5, .int .i64 s46), (6, .int .i64 ((k45 : Nat) : Int))] [I10, I9, iBox p24 33 K5, I6, I7, I8]
      refine CM_seq (sr (wm (wm ?_)))
      refine wv (vlen underlying28) ?_
      refine wv vlss ?_
      refine nt' ?_
      by_cases hl50 : k45 < G26.length
      ·have g51 := dlT hl50
       refine CM_condT rfl g51 ?_
       refine CM_skip (QM_then (CM_seq (CM_block (sr (wm (wm (wm ?_)))))))
       refine WM_formO (n := 1) rfl (by omega) ?_
       rintro g52 rfl
       refine wv (vix 1 k45 underlying28 type3) ?_
       refine wv (fun W hm => rv_load underlying3 rfl rfl (hm.ownInt (i := 1) rfl (by omega))) ?_
       refine wv vadd ?_
       refine wa (nt' (CM_seq ?_))
       refine CM_formPO (n := 5) rfl (by omega) ?_
       rintro g53 rfl
       refine CM_regionD (by kernel_rfl) (by kernel_rfl) ?_
       refine qm (qm ?_)
       refine qv (vix 1 k45 underlying28 type3) ?_
       refine qv (fun W hm => rv_load underlying3 rfl rfl (hm.ownInt (i := 1) rfl (by omega))) ?_
       refine qv (vf underlying33 rfl type28) ?_
       refine qv (vl 2 4 underlying28) ?_
       refine qm ?_
       refine qv (vix 1 k45 underlying28 type3) ?_
       refine qv (fun W hm => rv_load underlying3 rfl rfl (hm.paInt (i := 5) rfl (by omega))) ?_
       refine qv (fun W hm => rv_sub rfl rfl) ?_
       refine qv (fun W hm => rv_assign rfl) ?_
       refine nq' (sr (wm ?_))
       refine wv (vf underlying33 rfl type3) ?_
       refine wv (vl 2 1 underlying3) ?_
       refine wm ?_
       refine wv (vlen underlying28) ?_
       refine wv (fun W hm => rv_quo rfl rfl (by omega)) ?_
       refine wv vlss ?_
       refine wm ?_
       by_cases h54 : (IntKind.i64.wrap ((gt G26 k45) - (gt ((spec_DrawSharesOf_m x0).Rows) k45))) < (IntKind.i64.wrap (Int.tdiv ((spec_DrawSharesOf_m x0).Base) ((G26.length : Nat) : Int)))
       ·have g55 := decide_eq_true h54
        refine ws g55 ?_
        refine ws g55 ?_
        refine ws g55 ?_
        refine ws g55 ?_
        refine ws g55 ?_
        refine ws g55 ?_
        refine ws g55 ?_
        refine ws g55 ?_
        refine ws g55 ?_
        refine ws g55 ?_
        refine ws g55 ?_
        refine wv (vpT g55) ?_
        refine nt' ?_
        refine CM_condT rfl rfl ?_
        refine sr (wa (nt' (CM_ret (QM_block_ret (QM_then_ret (QM_then_ret (QM_block_ret (QM_then_ret ?_))))))))
        exact rtb (h := by subst hG26 hG32; exact cond_f g7 (cond_t g38 (cond_f g40 (cond_f g42 (cond_t g44 (fin_inl (rng_ret (body := F1) (k := k45) (s := s46) (by omega) (cond_t g55 (rfl)) hF48) rfl))))))
       ·have g55 := decide_eq_false h54
        refine wg vmv g55 ?_
        refine wg (vf underlying33 rfl type3) g55 ?_
        refine wg (vl 2 1 underlying3) g55 ?_
        refine wg vmv g55 ?_
        refine wg (vlen underlying28) g55 ?_
        refine wg vadd g55 ?_
        refine wg (fun W hm => rv_sub rfl rfl) g55 ?_
        refine wg vmv g55 ?_
        refine wg (vlen underlying28) g55 ?_
        refine wg (fun W hm => rv_quo rfl rfl (by omega)) g55 ?_
        refine wg (fun W hm => rv_gtr rfl rfl) g55 ?_
        refine wv (vpF g55) ?_
        refine nt' ?_
        by_cases h56 : (IntKind.i64.wrap (Int.tdiv (IntKind.i64.wrap ((IntKind.i64.wrap (((spec_DrawSharesOf_m x0).Base) + ((G26.length : Nat) : Int))) - 1)) ((G26.length : Nat) : Int))) < (IntKind.i64.wrap ((gt G26 k45) - (gt ((spec_DrawSharesOf_m x0).Rows) k45)))
        ·have g57 := decide_eq_true h56
         refine CM_condT rfl g57 ?_
         refine sr (wa (nt' (CM_ret (QM_block_ret (QM_then_ret (QM_then_ret (QM_block_ret (QM_then_ret ?_))))))))
         exact rtb (h := by subst hG26 hG32; exact cond_f g7 (cond_t g38 (cond_f g40 (cond_f g42 (cond_t g44 (fin_inl (rng_ret (body := F1) (k := k45) (s := s46) (by omega) (cond_f g55 (cond_t g57 (rfl))) hF48) rfl))))))
        ·have g57 := decide_eq_false h56
         refine CM_condF rfl g57 ?_
         refine CM_skip (QM_block_normal (QM_then (CM_region (wm ?_))))
         refine wv (vadN k45 1 (by omega)) ?_
         refine wa (WM_nil ?_)
         have hn58 := rng_next (R := Bool) (body := F1) (k := k45) (s := s46) (s' := (IntKind.i64.wrap (s46 + (gt G26 k45)))) (show k45 < G26.length from by omega) (by subst hG26 hG32; exact cond_f g55 (cond_f g57 (rfl))) hF48
         exact QM_round (k45 + 1, (IntKind.i64.wrap (s46 + (gt G26 k45))), ()) sl5 (fun W hm => hm) ⟨(by omega), hn58⟩ (rl (by omega))
      ·have g51 := dlF hl50
       refine CM_condF rfl g51 ?_
       refine CM_exit (QM_then_exit (QM_then_exit ?_))
       have hE59 : R3 (G26.length - 0) 0 0 = Sum.inr s46 := rng_end hl50 hF48
       refine QM_block_hit (QM_then (sr (wm ?_)))
       refine WM_call (χ := Value × Value) (val := fun x => .tuple #[x.1, x.2]) (js := fun x => [iOwn (tSl tyCharge 33) [x.1] ((spec_DrawCoalitionCost_m x0).1), iOwn (tSl tInt 3) [x.2] ((spec_DrawCoalitionCost_m x0).2)]) (cl_fn cb30 rfl) (fun W hm => spec_DrawCoalitionCost_c W _ x0 (hm.rdS0 r5) (by omega)) (Wd_none rfl) (by decide) (fun x => ?_)
       obtain ⟨z60, z61⟩ := x
       refine WM_form (n := 0) rfl ?_
       rintro A62 c63 rfl m64
       let I11 : It := iOwn (tSl tyCharge 33) [.slice A62 ((spec_DrawCoalitionCost_m x0).1).length c63] ((spec_DrawCoalitionCost_m x0).1)
       refine WM_items (js := [iOwn (tSl tInt 3) [z61] ((spec_DrawCoalitionCost_m x0).2), I11, I10, I9, iBox p24 33 K5, I6, I7, I8]) (pk [1, 0, 2, 3, 4, 5, 6, 7]) ?_
       refine WM_form (n := 0) rfl ?_
       rintro A66 c67 rfl m68
       have hdl := spec_DrawCoalitionCost_fact x0
       refine wm ?_
       refine wv (fun W hm => rv_extract rfl rfl) ?_
       refine wv (fun W hm => rv_extract rfl rfl) ?_
       refine wa (wa (nt' (sr (wm (wm ?_)))))
       refine wcv (cl_fn cb31 rfl) (fun W hm => impl_CoalitionCost_c W _ ((spec_DrawCoalitionCost_m x0).1) _ ((spec_DrawCoalitionCost_m x0).2) (hm.rdSI (n := 1) rfl) (hm.rdSI (n := 0) rfl)) ?_
       refine wa (nt' (sr (wa (nt' (CM_seq (sr (wa (nt' (CM_block ?_)))))))))
       let F2 := fun k (s : Int) => laws_FnCharges_b2 x0 k s
       let R4 := rng (R := Bool) F2
       let I12 : It := iOwn (tSl tInt 3) [.slice A66 ((spec_DrawCoalitionCost_m x0).2).length c67] ((spec_DrawCoalitionCost_m x0).2)
       refine CM_loop (σ := Nat × (Int) × (Unit)) (fun s => [(0, .slice A2 x0.length c3), (3, .pointer (some (⟨p24, 0, none⟩ : Addr))), (5, .int .i64 s46), (8, .slice A62 ((spec_DrawCoalitionCost_m x0).1).length c63), (9, .slice A66 ((spec_DrawCoalitionCost_m x0).2).length c67), (10, .int .i64 (impl_CoalitionCost_m ((spec_DrawCoalitionCost_m x0).1) ((spec_DrawCoalitionCost_m x0).2))), (11, .int .i64 s.2.1), (12, .int .i64 ((s.1 : Nat) : Int))]) (fun s => [I12, I11, I10, I9, iBox p24 33 K5, I6, I7, I8]) (fun s => s.1 ≤ 4 ∧ R4 (4 - s.1) s.1 s.2.1 = R4 (4 - 0) 0 0) (fun s => 4 - s.1) (0, 0, ()) sl8 (fun W hm => hm) ⟨(by omega), rfl⟩ ?_
       rintro ⟨k70, s71, ⟨⟩⟩ H74
       obtain ⟨hk72, hF73⟩ : k70 ≤ 4 ∧ R4 (4 - k70) k70 s71 = R4 (4 - 0) 0 0 := H74
       show CM Tryd.prog 159 _ _ _ _ [(0, .slice A2 x0.length c3), (3, .pointer (some (⟨p24, 0, none⟩ : Addr))), (5, .int .i64 s46), (8, .slice A62 ((spec_DrawCoalitionCost_m x0).1).length c63), (9, .slice A66 ((spec_DrawCoalitionCost_m x0).2).length c67), (10, .int .i64 (impl_CoalitionCost_m ((spec_DrawCoalitionCost_m x0).1) ((spec_DrawCoalitionCost_m x0).2))), (11, .int .i64 s71), (12, .int .i64 ((k70 : Nat) : Int))] [I12, I11, I10, I9, iBox p24 33 K5, I6, I7, I8]
       refine CM_seq (sr (wm ?_))
       refine wv vlss ?_
       refine nt' ?_
       by_cases hl75 : k70 < 4
       ·have g76 : (decide (((k70 : Nat) : Int) < 4)) = true := decide_eq_true (by omega)
        refine CM_condT rfl g76 ?_
        refine CM_skip (QM_then (CM_seq (CM_block (sr (wm (wm ?_))))))
        refine wcv (cl_fn cb32 rfl) (fun W hm => laws_has_c W _ ((spec_DrawCoalitionCost_m x0).2) ((k70 : Nat) : Int) (hm.rdSI (n := 0) rfl)) ?_
        refine nt' ?_
        rcases Bool.eq_false_or_eq_true (laws_has_m ((spec_DrawCoalitionCost_m x0).2) ((k70 : Nat) : Int)) with g78 | g78
        ·
         refine CM_condT rfl g78 ?_
         refine CM_region (wm (wm (wm ?_)))
         refine wcv (cl_fn cb33 rfl) (fun W hm => impl_TenantCharge_c W _ ((spec_DrawCoalitionCost_m x0).1) ((k70 : Nat) : Int) (hm.rdSI (n := 1) rfl) (leP_sm hdl.1)) ?_
         refine wv vadd ?_
         refine wa (WM_nil (QM_block_normal (QM_then (CM_region (wm ?_)))))
         refine wv (vadN k70 1 (by omega)) ?_
         refine wa (WM_nil ?_)
         have hn79 := rng_next (R := Bool) (body := F2) (k := k70) (s := s71) (s' := (IntKind.i64.wrap (s71 + (impl_TenantCharge_m ((spec_DrawCoalitionCost_m x0).1) ((k70 : Nat) : Int))))) (show k70 < 4 from by omega) (by subst hG26 hG32; exact cond_t g78 (rfl)) hF73
         exact QM_round (k70 + 1, (IntKind.i64.wrap (s71 + (impl_TenantCharge_m ((spec_DrawCoalitionCost_m x0).1) ((k70 : Nat) : Int)))), ()) sl8 (fun W hm => hm) ⟨(by omega), hn79⟩ (rl (by omega))
        ·
         refine CM_condF rfl g78 ?_
         refine CM_skip (QM_block_normal (QM_then (CM_region (wm ?_))))
         refine wv (vadN k70 1 (by omega)) ?_
         refine wa (WM_nil ?_)
         have hn80 := rng_next (R := Bool) (body := F2) (k := k70) (s := s71) (s' := s71) (show k70 < 4 from by omega) (by subst hG26 hG32; exact cond_f g78 (rfl)) hF73
         exact QM_round (k70 + 1, s71, ()) sl8 (fun W hm => hm) ⟨(by omega), hn80⟩ (rl (by omega))
       ·have g76 : (decide (((k70 : Nat) : Int) < 4)) = false := decide_eq_false (by omega)
        refine CM_condF rfl g76 ?_
        refine CM_exit (QM_then_exit (QM_then_exit ?_))
        have hE81 : R4 (4 - 0) 0 0 = Sum.inr s71 := rng_end hl75 hF73
        refine QM_block_hit (QM_then (sr (wm ?_)))
        refine WM_call (χ := Value) (val := fun x => .tuple #[x, .int .i64 ((spec_DrawTenantCharge_m x0).2)]) (js := fun x => [iOwn (tSl tyCharge 33) [x] ((spec_DrawTenantCharge_m x0).1)]) (cl_fn cb34 rfl) (fun W hm => spec_DrawTenantCharge_c W _ x0 (hm.rdS0 r5) (by omega)) (Wd_none rfl) (by decide) (fun z82 => ?_)
        have hdm := spec_DrawTenantCharge_fact x0
        refine WM_form (n := 0) rfl ?_
        rintro A83 c84 rfl m85
        refine wm ?_
        refine wv (fun W hm => rv_extract rfl rfl) ?_
        refine wv (fun W hm => rv_extract rfl rfl) ?_
        refine wa (wa (nt' (sr (wm ?_))))
        refine wv (fun W hm => rv_loadN (cs := K5) underlying33 type33 rfl rfl (hm.boxCells (n := 5) rfl)) ?_
        refine wcv (cl_fn cb28 rfl) (fun W hm => impl_WorkDone_c W _ (spec_DrawSharesOf_m x0) (tyCharge_mk (x := (spec_DrawSharesOf_m x0)) (hm.rdSI (n := 6) rfl) (hm.rdSI (n := 7) rfl) (hm.rdPI (n := 8) rfl))) ?_
        refine wv (fun W hm => rv_eql rfl rfl) ?_
        refine wm ?_
        by_cases h87 : s46 = (impl_WorkDone_m (spec_DrawSharesOf_m x0))
        ·have g88 := beq_iff_eq.2 h87
         refine wg vmv g88 ?_
         refine wg vmv g88 ?_
         refine wg vmv g88 ?_
         refine WM_callV (cl_fn cb35 rfl) (fun W hm => spec_CoalitionCost_c W _ ((spec_DrawCoalitionCost_m x0).1) _ ((spec_DrawCoalitionCost_m x0).2) (hm.rdSI (n := 2) rfl) (hm.rdSI (n := 1) rfl)) (Wd_some rfl rfl rfl (bw g88 rfl)) (by decide) ?_
         refine wg (fun W hm => rv_eql rfl rfl) g88 ?_
         refine wv (vpT g88) ?_
         refine wm ?_
         by_cases h89 : (impl_CoalitionCost_m ((spec_DrawCoalitionCost_m x0).1) ((spec_DrawCoalitionCost_m x0).2)) = (spec_CoalitionCost_m ((spec_DrawCoalitionCost_m x0).1) ((spec_DrawCoalitionCost_m x0).2))
         ·have g90 := beq_iff_eq.2 h89
          refine wg vmv g90 ?_
          refine wg vmv g90 ?_
          refine wg (fun W hm => rv_leq rfl rfl) g90 ?_
          refine wv (vpT g90) ?_
          refine wm ?_
          by_cases h91 : s71 ≤ (impl_CoalitionCost_m ((spec_DrawCoalitionCost_m x0).1) ((spec_DrawCoalitionCost_m x0).2))
          ·have g92 := decide_eq_true h91
           refine wg vmv g92 ?_
           refine wg vmv g92 ?_
           refine WM_callV (cl_fn cb33 rfl) (fun W hm => impl_TenantCharge_c W _ ((spec_DrawTenantCharge_m x0).1) ((spec_DrawTenantCharge_m x0).2) (hm.rdSI (n := 0) rfl) (leP_sm hdm)) (Wd_some rfl rfl rfl (bw g92 rfl)) (by decide) ?_
           refine wg vmv g92 ?_
           refine wg vmv g92 ?_
           refine WM_callV (cl_fn cb36 rfl) (fun W hm => spec_TenantCharge_c W _ ((spec_DrawTenantCharge_m x0).1) ((spec_DrawTenantCharge_m x0).2) (hm.rdSI (n := 0) rfl) (leP_sm hdm)) (Wd_some rfl rfl rfl (bw g92 rfl)) (by decide) ?_
           refine wg (fun W hm => rv_eql rfl rfl) g92 ?_
           refine wv (vpT g92) ?_
           refine wm ?_
           by_cases h93 : (impl_TenantCharge_m ((spec_DrawTenantCharge_m x0).1) ((spec_DrawTenantCharge_m x0).2)) = (spec_TenantCharge_m ((spec_DrawTenantCharge_m x0).1) ((spec_DrawTenantCharge_m x0).2))
           ·have g94 := beq_iff_eq.2 h93
            refine wg vmv g94 ?_
            refine WM_callV (cl_fn cb37 rfl) (fun W hm => impl_TotalWork_c W _ ((spec_DrawTenantCharge_m x0).1) (hm.rdSI (n := 0) rfl)) (Wd_some rfl rfl rfl (bw g94 rfl)) (by decide) ?_
            refine wg vmv g94 ?_
            refine WM_callV (cl_fn cb38 rfl) (fun W hm => spec_TotalWork_c W _ ((spec_DrawTenantCharge_m x0).1) (hm.rdSI (n := 0) rfl)) (Wd_some rfl rfl rfl (bw g94 rfl)) (by decide) ?_
            refine wg (fun W hm => rv_eql rfl rfl) g94 ?_
            refine wv (vpT g94) ?_
            refine wm ?_
            by_cases h95 : (impl_TotalWork_m ((spec_DrawTenantCharge_m x0).1)) = (spec_TotalWork_m ((spec_DrawTenantCharge_m x0).1))
            ·have g96 := beq_iff_eq.2 h95
             refine wg vmv g96 ?_
             refine wg vmv g96 ?_
             refine WM_callV (cl_fn cb37 rfl) (fun W hm => impl_TotalWork_c W _ ((spec_DrawCoalitionCost_m x0).1) (hm.rdSI (n := 2) rfl)) (Wd_some rfl rfl rfl (bw g96 rfl)) (by decide) ?_
             refine wg (fun W hm => rv_leq rfl rfl) g96 ?_
             refine wv (vpT g96) ?_
             refine wm ?_
             by_cases h97 : (impl_CoalitionCost_m ((spec_DrawCoalitionCost_m x0).1) ((spec_DrawCoalitionCost_m x0).2)) ≤ (impl_TotalWork_m ((spec_DrawCoalitionCost_m x0).1))
             ·have g98 := decide_eq_true h97
              refine wg vmv g98 ?_
              refine WM_callV (cl_fn cb39 rfl) (fun W hm => impl_WorstStep_c W _ ((spec_DrawTenantCharge_m x0).1) (hm.rdSI (n := 0) rfl)) (Wd_some rfl rfl rfl (bw g98 rfl)) (by decide) ?_
              refine wg vmv g98 ?_
              refine WM_callV (cl_fn cb40 rfl) (fun W hm => spec_WorstStep_c W _ ((spec_DrawTenantCharge_m x0).1) (hm.rdSI (n := 0) rfl)) (Wd_some rfl rfl rfl (bw g98 rfl)) (by decide) ?_
              refine wg (fun W hm => rv_eql rfl rfl) g98 ?_
              refine wv (vpT g98) ?_
              refine wa (nt' (CM_ret ?_))
              exact rtb (h := by subst hG26 hG32; exact cond_f g7 (cond_t g38 (cond_f g40 (cond_f g42 (cond_t g44 (fin_inr hE59 (fin_inr hE81 (cond_t g88 (cond_t g90 (cond_t g92 (cond_t g94 (cond_t g96 (cond_t g98 (rfl))))))))))))))
             ·have g98 := decide_eq_false h97
              refine ws g98 ?_
              refine ws g98 ?_
              refine ws g98 ?_
              refine ws g98 ?_
              refine ws g98 ?_
              refine wv (vpF g98) ?_
              refine wa (nt' (CM_ret ?_))
              exact rtb (h := by subst hG26 hG32; exact cond_f g7 (cond_t g38 (cond_f g40 (cond_f g42 (cond_t g44 (fin_inr hE59 (fin_inr hE81 (cond_t g88 (cond_t g90 (cond_t g92 (cond_t g94 (cond_t g96 (cond_f g98 (rfl))))))))))))))
            ·have g96 := beq_eq_false_iff_ne.2 h95
             refine ws g96 ?_
             refine ws g96 ?_
             refine ws g96 ?_
             refine ws g96 ?_
             refine wv (vpF g96) ?_
             refine wm ?_
             refine wk ?_
             refine wk ?_
             refine wk ?_
             refine wk ?_
             refine wk ?_
             refine wv (vpF rfl) ?_
             refine wa (nt' (CM_ret ?_))
             exact rtb (h := by subst hG26 hG32; exact cond_f g7 (cond_t g38 (cond_f g40 (cond_f g42 (cond_t g44 (fin_inr hE59 (fin_inr hE81 (cond_t g88 (cond_t g90 (cond_t g92 (cond_t g94 (cond_f g96 (rfl)))))))))))))
           ·have g94 := beq_eq_false_iff_ne.2 h93
            refine ws g94 ?_
            refine ws g94 ?_
            refine ws g94 ?_
            refine ws g94 ?_
            refine ws g94 ?_
            refine wv (vpF g94) ?_
            refine wm ?_
            refine wk ?_
            refine wk ?_
            refine wk ?_
            refine wk ?_
            refine wv (vpF rfl) ?_
            refine wm ?_
            refine wk ?_
            refine wk ?_
            refine wk ?_
            refine wk ?_
            refine wk ?_
            refine wv (vpF rfl) ?_
            refine wa (nt' (CM_ret ?_))
            exact rtb (h := by subst hG26 hG32; exact cond_f g7 (cond_t g38 (cond_f g40 (cond_f g42 (cond_t g44 (fin_inr hE59 (fin_inr hE81 (cond_t g88 (cond_t g90 (cond_t g92 (cond_f g94 (rfl))))))))))))
          ·have g92 := decide_eq_false h91
           refine ws g92 ?_
           refine ws g92 ?_
           refine ws g92 ?_
           refine ws g92 ?_
           refine ws g92 ?_
           refine ws g92 ?_
           refine ws g92 ?_
           refine wv (vpF g92) ?_
           refine wm ?_
           refine wk ?_
           refine wk ?_
           refine wk ?_
           refine wk ?_
           refine wk ?_
           refine wv (vpF rfl) ?_
           refine wm ?_
           refine wk ?_
           refine wk ?_
           refine wk ?_
           refine wk ?_
           refine wv (vpF rfl) ?_
           refine wm ?_
           refine wk ?_
           refine wk ?_
           refine wk ?_
           refine wk ?_
           refine wk ?_
           refine wv (vpF rfl) ?_
           refine wa (nt' (CM_ret ?_))
           exact rtb (h := by subst hG26 hG32; exact cond_f g7 (cond_t g38 (cond_f g40 (cond_f g42 (cond_t g44 (fin_inr hE59 (fin_inr hE81 (cond_t g88 (cond_t g90 (cond_f g92 (rfl)))))))))))
         ·have g90 := beq_eq_false_iff_ne.2 h89
          refine ws g90 ?_
          refine ws g90 ?_
          refine ws g90 ?_
          refine wv (vpF g90) ?_
          refine wm ?_
          refine wk ?_
          refine wk ?_
          refine wk ?_
          refine wk ?_
          refine wk ?_
          refine wk ?_
          refine wk ?_
          refine wv (vpF rfl) ?_
          refine wm ?_
          refine wk ?_
          refine wk ?_
          refine wk ?_
          refine wk ?_
          refine wk ?_
          refine wv (vpF rfl) ?_
          refine wm ?_
          refine wk ?_
          refine wk ?_
          refine wk ?_
          refine wk ?_
          refine wv (vpF rfl) ?_
          refine wm ?_
          refine wk ?_
          refine wk ?_
          refine wk ?_
          refine wk ?_
          refine wk ?_
          refine wv (vpF rfl) ?_
          refine wa (nt' (CM_ret ?_))
          exact rtb (h := by subst hG26 hG32; exact cond_f g7 (cond_t g38 (cond_f g40 (cond_f g42 (cond_t g44 (fin_inr hE59 (fin_inr hE81 (cond_t g88 (cond_f g90 (rfl))))))))))
        ·have g88 := beq_eq_false_iff_ne.2 h87
         refine ws g88 ?_
         refine ws g88 ?_
         refine ws g88 ?_
         refine ws g88 ?_
         refine ws g88 ?_
         refine wv (vpF g88) ?_
         refine wm ?_
         refine wk ?_
         refine wk ?_
         refine wk ?_
         refine wv (vpF rfl) ?_
         refine wm ?_
         refine wk ?_
         refine wk ?_
         refine wk ?_
         refine wk ?_
         refine wk ?_
         refine wk ?_
         refine wk ?_
         refine wv (vpF rfl) ?_
         refine wm ?_
         refine wk ?_
         refine wk ?_
         refine wk ?_
         refine wk ?_
         refine wk ?_
         refine wv (vpF rfl) ?_
         refine wm ?_
         refine wk ?_
         refine wk ?_
         refine wk ?_
         refine wk ?_
         refine wv (vpF rfl) ?_
         refine wm ?_
         refine wk ?_
         refine wk ?_
         refine wk ?_
         refine wk ?_
         refine wk ?_
         refine wv (vpF rfl) ?_
         refine wa (nt' (CM_ret ?_))
         exact rtb (h := by subst hG26 hG32; exact cond_f g7 (cond_t g38 (cond_f g40 (cond_f g42 (cond_t g44 (fin_inr hE59 (fin_inr hE81 (cond_f g88 (rfl)))))))))
     ·
      refine CM_condT rfl (nf g44) ?_
      refine CM_seq ?_
      refine CM_items (pk []) ?_
      refine CM_region (wa (nt' (CM_ret (QM_then_ret ?_))))
      exact rtb (h := by subst hG26 hG32; exact cond_f g7 (cond_t g38 (cond_f g40 (cond_f g42 (cond_f g44 (rfl))))))
    ·have g42 : ((impl_WorkDone_m (spec_DrawSharesOf_m x0)) != (spec_WorkDone_m (spec_DrawSharesOf_m x0))) = true := bne_iff_ne.2 h41
     refine qk 26 20 2097151 rfl (Wd_some rfl rfl rfl (bw g42 rfl)) ?_
     refine qk 26 21 4194303 rfl (Wd_some rfl rfl rfl (bw g42 rfl)) ?_
     refine qk 26 22 8388607 rfl (Wd_some rfl rfl rfl (bw g42 rfl)) ?_
     refine qk 26 23 16777215 rfl (Wd_some rfl rfl rfl (bw g42 rfl)) ?_
     refine qk 26 24 33554431 rfl (Wd_some rfl rfl rfl (bw g42 rfl)) ?_
     refine qt 26 25 67108863 rfl (vpT g42) ?_
     refine QB_done (by kernel_rfl) ?_
     refine QM_then ?_
     refine CM_condT rfl rfl ?_
     refine CM_seq ?_
     refine CM_items (pk []) ?_
     refine CM_region (wa (nt' (CM_ret (QM_then_ret ?_))))
     exact rtb (h := by subst hG26 hG32; exact cond_f g7 (cond_t g38 (cond_f g40 (cond_t g42 (rfl)))))
  ·
   refine qk 26 6 127 rfl (Wd_some rfl rfl rfl (bw (nf g38) rfl)) ?_
   refine qk 26 7 255 rfl (Wd_some rfl rfl rfl (bw (nf g38) rfl)) ?_
   refine qk 26 8 511 rfl (Wd_some rfl rfl rfl (bw (nf g38) rfl)) ?_
   refine qk 26 9 1023 rfl (Wd_some rfl rfl rfl (bw (nf g38) rfl)) ?_
   refine qk 26 10 2047 rfl (Wd_some rfl rfl rfl (bw (nf g38) rfl)) ?_
   refine qt 26 11 4095 rfl (vpT (nf g38)) ?_
   refine qt 26 12 8191 rfl vmv ?_
   refine qk 26 13 16383 rfl (Wd_some rfl rfl rfl rfl) ?_
   refine qk 26 14 32767 rfl (Wd_some rfl rfl rfl rfl) ?_
   refine qk 26 15 65535 rfl (Wd_some rfl rfl rfl rfl) ?_
   refine qk 26 16 131071 rfl (Wd_some rfl rfl rfl rfl) ?_
   refine qk 26 17 262143 rfl (Wd_some rfl rfl rfl rfl) ?_
   refine qt 26 18 524287 rfl (vpT rfl) ?_
   refine qt 26 19 1048575 rfl vmv ?_
   refine qk 26 20 2097151 rfl (Wd_some rfl rfl rfl rfl) ?_
   refine qk 26 21 4194303 rfl (Wd_some rfl rfl rfl rfl) ?_
   refine qk 26 22 8388607 rfl (Wd_some rfl rfl rfl rfl) ?_
   refine qk 26 23 16777215 rfl (Wd_some rfl rfl rfl rfl) ?_
   refine qk 26 24 33554431 rfl (Wd_some rfl rfl rfl rfl) ?_
   refine qt 26 25 67108863 rfl (vpT rfl) ?_
   refine QB_done (by kernel_rfl) ?_
   refine QM_then ?_
   refine CM_condT rfl rfl ?_
   refine CM_seq ?_
   refine CM_items (pk []) ?_
   refine CM_region (wa (nt' (CM_ret (QM_then_ret ?_))))
   exact rtb (h := by subst hG26 hG32; exact cond_f g7 (cond_f g38 (rfl)))

end Go.Proofs.YtcjelfdpekbbkaaDoor
