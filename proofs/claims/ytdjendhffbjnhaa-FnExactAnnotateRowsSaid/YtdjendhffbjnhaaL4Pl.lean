/-
  Plain laws of the functions that the law runs over its arguments.
-/
import Derived.Test.YtdjendhffbjnhaaL4F3
import Derived.Test.YtdjendhffbjnhaaVcP
namespace Go.Proofs.Ytdjendhffbjnhaa
open Go.RowKit
theorem laws_szCondS_ok : SzOk laws_szCondS_m List.length (fun x => x.length ≤ 9223372036854775807) := sz_len (fun _ _ => rfl)
theorem laws_szIntS_ok : SzOk laws_szIntS_m List.length (fun x => x.length ≤ 9223372036854775807) := sz_len (fun _ _ => rfl)
def wtQuery (x : DQuery) : Nat := x.Conds.length + x.Out.length
theorem smQuery_wt {B : Nat} {x : DQuery} (h : wtQuery x ≤ B) : smQuery B x := by
  unfold wtQuery at h
  unfold smQuery
  exact ⟨(by omega), (by omega)⟩
theorem tyLQuery_sm {w : World} {B : Nat} {cs : List Value} {x : DQuery} (h : tyLQuery.rd w B cs x) : smQuery 9223372036854775807 x := by
  obtain ⟨_, _, _, _, ⟨_, _, _, _, ⟨_, _, _, ⟨_, _, h2⟩, ⟨_, _, h3⟩⟩⟩⟩ := h
  unfold smQuery
  exact ⟨h2.1, h3.1⟩
theorem laws_szQuery_ok : SzOk laws_szQuery_m wtQuery (fun x => smQuery 9223372036854775807 x) := ⟨fun x k hx h0 h1 => by
  unfold laws_szQuery_m wtQuery
  unfold smQuery at hx
  refine sz_step (laws_szCondS_ok.go _ _ hx.1 h0 h1) (by omega) (by omega) fun a0 b0 c0 => ?_
  refine sz_step (laws_szIntS_ok.go _ _ hx.2 a0 b0) (by omega) (by omega) fun a1 b1 c1 => ?_
  right; omega⟩
theorem laws_szQueryS_ok : SzOk laws_szQueryS_m (wtS wtQuery) (fun x => (x.length ≤ 9223372036854775807 ∧ ∀ y ∈ x, smQuery 9223372036854775807 y)) := sz_list laws_szQuery_ok (fun _ _ => rfl)
def wtSpan (x : DSpan) : Nat := x.Set.length
theorem smSpan_wt {B : Nat} {x : DSpan} (h : wtSpan x ≤ B) : smSpan B x := by
  unfold wtSpan at h
  unfold smSpan
  exact (by omega)
theorem tyLSpan_sm {w : World} {B : Nat} {cs : List Value} {x : DSpan} (h : tyLSpan.rd w B cs x) : smSpan 9223372036854775807 x := by
  obtain ⟨_, _, _, _, ⟨_, _, _, _, ⟨_, _, h2⟩⟩⟩ := h
  unfold smSpan
  exact h2.1
theorem laws_szSpan_ok : SzOk laws_szSpan_m wtSpan (fun x => smSpan 9223372036854775807 x) := ⟨fun x k hx h0 h1 => by
  unfold laws_szSpan_m wtSpan
  unfold smSpan at hx
  refine sz_step (laws_szIntS_ok.go _ _ hx h0 h1) (by omega) (by omega) fun a0 b0 c0 => ?_
  right; omega⟩
theorem laws_szSpanS_ok : SzOk laws_szSpanS_m (wtS wtSpan) (fun x => (x.length ≤ 9223372036854775807 ∧ ∀ y ∈ x, smSpan 9223372036854775807 y)) := sz_list laws_szSpan_ok (fun _ _ => rfl)
theorem laws_szSpanSS_ok : SzOk laws_szSpanSS_m (wtS (wtS wtSpan)) (fun x => (x.length ≤ 9223372036854775807 ∧ ∀ y ∈ x, (y.length ≤ 9223372036854775807 ∧ ∀ y1 ∈ y, smSpan 9223372036854775807 y1))) := sz_list laws_szSpanS_ok (fun _ _ => rfl)
def wtIndex (x : DIndex) : Nat := wtS wtQuery x.Queries + wtS (wtS wtSpan) x.Fields
theorem smIndex_wt {B : Nat} {x : DIndex} (h : wtIndex x ≤ B) : smIndex B x := by
  unfold wtIndex at h
  unfold smIndex
  exact ⟨(sm_wtS (by omega) fun y h => (smQuery_wt (h))), (sm_wtS (w := wtS wtSpan) (by omega) fun y h => (sm_wtS (h) fun y h => (smSpan_wt (h))))⟩
theorem tyLIndex_sm {w : World} {B : Nat} {cs : List Value} {x : DIndex} (h : tyLIndex.rd w B cs x) : smIndex 9223372036854775807 x := by
  obtain ⟨_, _, _, ⟨_, _, h0⟩, ⟨_, _, h1⟩⟩ := h
  unfold smIndex
  exact ⟨(rdS_sm h0 fun _ _ h => (tyLQuery_sm h)), (rdS_sm h1 fun _ _ h => (by obtain ⟨_, _, h⟩ := h; exact (rdS_sm h fun _ _ h => (tyLSpan_sm h))))⟩
theorem laws_szIndex_ok : SzOk laws_szIndex_m wtIndex (fun x => smIndex 9223372036854775807 x) := ⟨fun x k hx h0 h1 => by
  unfold laws_szIndex_m wtIndex
  unfold smIndex at hx
  refine sz_step (laws_szQueryS_ok.go _ _ hx.1 h0 h1) (by omega) (by omega) fun a0 b0 c0 => ?_
  refine sz_step (laws_szSpanSS_ok.go _ _ hx.2 a0 b0) (by omega) (by omega) fun a1 b1 c1 => ?_
  right; omega⟩
def wtRow (x : DRow) : Nat := x.Values.length
theorem smRow_wt {B : Nat} {x : DRow} (h : wtRow x ≤ B) : smRow B x := by
  unfold wtRow at h
  unfold smRow
  exact (by omega)
theorem tyLRow_sm {w : World} {B : Nat} {cs : List Value} {x : DRow} (h : tyLRow.rd w B cs x) : smRow 9223372036854775807 x := by
  obtain ⟨_, _, _, _, ⟨_, _, h1⟩⟩ := h
  unfold smRow
  exact h1.1
theorem laws_szRow_ok : SzOk laws_szRow_m wtRow (fun x => smRow 9223372036854775807 x) := ⟨fun x k hx h0 h1 => by
  unfold laws_szRow_m wtRow
  unfold smRow at hx
  refine sz_step (laws_szIntS_ok.go _ _ hx h0 h1) (by omega) (by omega) fun a0 b0 c0 => ?_
  right; omega⟩
theorem laws_szRowS_ok : SzOk laws_szRowS_m (wtS wtRow) (fun x => (x.length ≤ 9223372036854775807 ∧ ∀ y ∈ x, smRow 9223372036854775807 y)) := sz_list laws_szRow_ok (fun _ _ => rfl)
theorem laws_toCond_eq (x : DCond) : laws_toCond_m x = x := rfl
theorem laws_toCondS_eq (x : (List DCond)) : laws_toCondS_m x = x := by
  unfold laws_toCondS_m
  rw [rng_copy (b := fun k s => laws_toCondS_b1 x k s) (xs := x) (by simp) (fun j s _ => by
    show Sum.inr (s.set j (laws_toCond_m (gt x j))) = _
    rw [laws_toCond_eq])]
  rfl
theorem laws_toIntS_eq (x : (List Int)) : laws_toIntS_m x = x := by
  unfold laws_toIntS_m
  rw [rng_copy (b := fun k s => laws_toIntS_b1 x k s) (xs := x) (by simp) (fun j s _ => rfl)]
  rfl
theorem laws_toQuery_eq (x : DQuery) : laws_toQuery_m x = x := by
  unfold laws_toQuery_m
  simp only [laws_toCondS_eq, laws_toIntS_eq]
theorem laws_toQueryS_eq (x : (List DQuery)) : laws_toQueryS_m x = x := by
  unfold laws_toQueryS_m
  rw [rng_copy (b := fun k s => laws_toQueryS_b1 x k s) (xs := x) (by simp) (fun j s _ => by
    show Sum.inr (s.set j (laws_toQuery_m (gt x j))) = _
    rw [laws_toQuery_eq])]
  rfl
theorem laws_toSpan_eq (x : DSpan) : laws_toSpan_m x = x := by
  unfold laws_toSpan_m
  simp only [laws_toIntS_eq]
theorem laws_toSpanS_eq (x : (List DSpan)) : laws_toSpanS_m x = x := by
  unfold laws_toSpanS_m
  rw [rng_copy (b := fun k s => laws_toSpanS_b1 x k s) (xs := x) (by simp) (fun j s _ => by
    show Sum.inr (s.set j (laws_toSpan_m (gt x j))) = _
    rw [laws_toSpan_eq])]
  rfl
theorem laws_toSpanSS_eq (x : (List (List DSpan))) : laws_toSpanSS_m x = x := by
  unfold laws_toSpanSS_m
  rw [rng_copy (b := fun k s => laws_toSpanSS_b1 x k s) (xs := x) (by simp) (fun j s _ => by
    show Sum.inr (s.set j (laws_toSpanS_m (gt x j))) = _
    rw [laws_toSpanS_eq])]
  rfl
theorem laws_toIndex_eq (x : DIndex) : laws_toIndex_m x = x := by
  unfold laws_toIndex_m
  simp only [laws_toQueryS_eq, laws_toSpanSS_eq]
theorem laws_toRow_eq (x : DRow) : laws_toRow_m x = x := by
  unfold laws_toRow_m
  simp only [laws_toIntS_eq]
theorem laws_toRowS_eq (x : (List DRow)) : laws_toRowS_m x = x := by
  unfold laws_toRowS_m
  rw [rng_copy (b := fun k s => laws_toRowS_b1 x k s) (xs := x) (by simp) (fun j s _ => by
    show Sum.inr (s.set j (laws_toRow_m (gt x j))) = _
    rw [laws_toRow_eq])]
  rfl
theorem laws_eqIntS_refl (x : (List Int)) : laws_eqIntS_m x x = true := by
  unfold laws_eqIntS_m
  rw [bne_self_eq_false, cond_false, rng_all (fun j _ => by simp only [laws_eqIntS_b1, bne_self_eq_false, cond_false])]
  rfl
theorem laws_eqRow_refl (x : DRow) : laws_eqRow_m x x = true := by
  simp only [laws_eqRow_m, bne_self_eq_false, cond_false, cond_true, laws_eqIntS_refl]
def wtAnnotated (x : DAnnotated) : Nat := wtRow x.Row + x.Set.length
theorem smAnnotated_wt {B : Nat} {x : DAnnotated} (h : wtAnnotated x ≤ B) : smAnnotated B x := by
  unfold wtAnnotated at h
  unfold smAnnotated
  exact ⟨(smRow_wt (by omega)), (by omega)⟩
theorem laws_eqAnnotated_refl (x : DAnnotated) : laws_eqAnnotated_m x x = true := by
  simp only [laws_eqAnnotated_m, cond_true, laws_eqIntS_refl, laws_eqRow_refl]
theorem laws_eqAnnotatedS_refl (x : (List DAnnotated)) : laws_eqAnnotatedS_m x x = true := by
  unfold laws_eqAnnotatedS_m
  rw [bne_self_eq_false, cond_false, rng_all (fun j _ => by simp only [laws_eqAnnotatedS_b1, cond_true, laws_eqAnnotated_refl])]
  rfl
theorem laws_eqCond_refl (x : DCond) : laws_eqCond_m x x = true := by
  simp only [laws_eqCond_m, bne_self_eq_false, cond_false]
theorem laws_eqCondS_refl (x : (List DCond)) : laws_eqCondS_m x x = true := by
  unfold laws_eqCondS_m
  rw [bne_self_eq_false, cond_false, rng_all (fun j _ => by simp only [laws_eqCondS_b1, cond_true, laws_eqCond_refl])]
  rfl
theorem laws_eqQuery_refl (x : DQuery) : laws_eqQuery_m x x = true := by
  simp only [laws_eqQuery_m, bne_self_eq_false, cond_false, cond_true, laws_eqCondS_refl, laws_eqIntS_refl]
theorem laws_eqQueryS_refl (x : (List DQuery)) : laws_eqQueryS_m x x = true := by
  unfold laws_eqQueryS_m
  rw [bne_self_eq_false, cond_false, rng_all (fun j _ => by simp only [laws_eqQueryS_b1, cond_true, laws_eqQuery_refl])]
  rfl
theorem laws_eqSpan_refl (x : DSpan) : laws_eqSpan_m x x = true := by
  simp only [laws_eqSpan_m, bne_self_eq_false, cond_false, cond_true, laws_eqIntS_refl]
theorem laws_eqSpanS_refl (x : (List DSpan)) : laws_eqSpanS_m x x = true := by
  unfold laws_eqSpanS_m
  rw [bne_self_eq_false, cond_false, rng_all (fun j _ => by simp only [laws_eqSpanS_b1, cond_true, laws_eqSpan_refl])]
  rfl
theorem laws_eqSpanSS_refl (x : (List (List DSpan))) : laws_eqSpanSS_m x x = true := by
  unfold laws_eqSpanSS_m
  rw [bne_self_eq_false, cond_false, rng_all (fun j _ => by simp only [laws_eqSpanSS_b1, cond_true, laws_eqSpanS_refl])]
  rfl
theorem laws_eqIndex_refl (x : DIndex) : laws_eqIndex_m x x = true := by
  simp only [laws_eqIndex_m, cond_true, laws_eqQueryS_refl, laws_eqSpanSS_refl]
theorem laws_eqRowS_refl (x : (List DRow)) : laws_eqRowS_m x x = true := by
  unfold laws_eqRowS_m
  rw [bne_self_eq_false, cond_false, rng_all (fun j _ => by simp only [laws_eqRowS_b1, cond_true, laws_eqRow_refl])]
  rfl
theorem laws_markCondS_e : MkOkB (fun (_ : DCond) (k : Int) => ((IntKind.i64.wrap ((IntKind.i64.wrap ((IntKind.i64.wrap (k + 1)) + 1)) + 1)), ((⟨k, (IntKind.i64.wrap (k + 1)), (IntKind.i64.wrap ((IntKind.i64.wrap (k + 1)) + 1))⟩ : DCond) : DCond))) (fun _ => 0) := ⟨fun x k h0 h1 => by
  have w1 : IntKind.i64.wrap (k + 1) = k + 1 := wrap_id (by omega) (by omega)
  have w2 : IntKind.i64.wrap (k + 1 + 1) = k + 1 + 1 := wrap_id (by omega) (by omega)
  have w3 : IntKind.i64.wrap (k + 1 + 1 + 1) = k + 1 + 1 + 1 := wrap_id (by omega) (by omega)
  simp only [w1, w2, w3]
  exact ⟨by omega, by omega⟩⟩
theorem laws_markCondS_ok : MkB laws_markCondS_m List.length := MkB_list laws_markCondS_e (b := fun _ k s => laws_markCondS_b1 k s.1 s.2) (fun x => wtS_zero x) (fun _ _ => rfl) (fun _ _ _ => rfl)
theorem laws_markIntS_e : MkOk (fun (_ : Int) (k : Int) => ((IntKind.i64.wrap (k + 1)), (k : Int))) (fun (x : Int) (k : Int) => (cond ((x) != k) (Sum.inl (-1)) (Sum.inr (IntKind.i64.wrap (k + 1))) : Int ⊕ Int)) (fun _ => 0) := ⟨fun x k h0 h1 => by
  have w1 : IntKind.i64.wrap (k + 1) = k + 1 := wrap_id (by omega) (by omega)
  simp only [w1]
  exact ⟨by omega, by omega, by simp only [bne_self_eq_false, cond_false]⟩⟩
theorem laws_markIntS_ok : MkF laws_markIntS_m laws_heldIntS_m List.length := MkF_list laws_markIntS_e (b := fun _ k s => laws_markIntS_b1 k s.1 s.2) (hb := fun x k s => laws_heldIntS_b1 x k s) (fun x => wtS_zero x) (fun _ _ => rfl) (fun _ _ => rfl) (fun _ _ _ => rfl) (fun _ _ _ => rfl)
theorem laws_markQueryS_e : MkOkB (fun (x : DQuery) (k : Int) => ((laws_markIntS_m ((x).Out) ((laws_markCondS_m ((x).Conds) (IntKind.i64.wrap ((IntKind.i64.wrap (k + 1)) + 1))).1)).1, ((⟨k, (IntKind.i64.wrap (k + 1)), (laws_markCondS_m ((x).Conds) (IntKind.i64.wrap ((IntKind.i64.wrap (k + 1)) + 1))).2, (laws_markIntS_m ((x).Out) ((laws_markCondS_m ((x).Conds) (IntKind.i64.wrap ((IntKind.i64.wrap (k + 1)) + 1))).1)).2⟩ : DQuery) : DQuery))) wtQuery := ⟨fun x k h0 h1 => by
  unfold wtQuery at h1 ⊢
  have w1 : IntKind.i64.wrap (k + 1) = k + 1 := wrap_id (by omega) (by omega)
  have w2 : IntKind.i64.wrap (k + 1 + 1) = k + 1 + 1 := wrap_id (by omega) (by omega)
  obtain ⟨p3, q3⟩ := laws_markCondS_ok.go x.Conds (k + 1 + 1) (by omega) (by omega)
  obtain ⟨p4, q4⟩ := laws_markIntS_ok.b.go x.Out ((laws_markCondS_m x.Conds (k + 1 + 1)).1) (by omega) (by omega)
  simp only [w1, w2]
  exact ⟨by omega, by omega⟩⟩
theorem laws_markQueryS_ok : MkB laws_markQueryS_m (wtS wtQuery) := MkB_list laws_markQueryS_e (b := fun _ k s => laws_markQueryS_b1 k s.1 s.2) (fun x => rfl) (fun _ _ => rfl) (fun _ _ _ => rfl)
theorem laws_markSpanS_e : MkOkB (fun (x : DSpan) (k : Int) => ((laws_markIntS_m ((x).Set) (IntKind.i64.wrap ((IntKind.i64.wrap (k + 1)) + 1))).1, ((⟨k, (IntKind.i64.wrap (k + 1)), (laws_markIntS_m ((x).Set) (IntKind.i64.wrap ((IntKind.i64.wrap (k + 1)) + 1))).2⟩ : DSpan) : DSpan))) wtSpan := ⟨fun x k h0 h1 => by
  unfold wtSpan at h1 ⊢
  have w1 : IntKind.i64.wrap (k + 1) = k + 1 := wrap_id (by omega) (by omega)
  have w2 : IntKind.i64.wrap (k + 1 + 1) = k + 1 + 1 := wrap_id (by omega) (by omega)
  obtain ⟨p3, q3⟩ := laws_markIntS_ok.b.go x.Set (k + 1 + 1) (by omega) (by omega)
  simp only [w1, w2]
  exact ⟨by omega, by omega⟩⟩
theorem laws_markSpanS_ok : MkB laws_markSpanS_m (wtS wtSpan) := MkB_list laws_markSpanS_e (b := fun _ k s => laws_markSpanS_b1 k s.1 s.2) (fun x => rfl) (fun _ _ => rfl) (fun _ _ _ => rfl)
theorem laws_markSpanSS_e : MkOkB (fun (x : (List DSpan)) (k : Int) => ((laws_markSpanS_m (x) k).1, (((laws_markSpanS_m (x) k).2) : (List DSpan)))) (wtS wtSpan) := ⟨fun x k h0 h1 => by
  obtain ⟨p1, q1⟩ := laws_markSpanS_ok.go x k (by omega) (by omega)
  exact ⟨by omega, by omega⟩⟩
theorem laws_markSpanSS_ok : MkB laws_markSpanSS_m (wtS (wtS wtSpan)) := MkB_list laws_markSpanSS_e (b := fun _ k s => laws_markSpanSS_b1 k s.1 s.2) (fun x => rfl) (fun _ _ => rfl) (fun _ _ _ => rfl)
theorem laws_markIndex_ok : MkB laws_markIndex_m wtIndex := ⟨fun x k h0 h1 => by
  unfold wtIndex at h1 ⊢
  obtain ⟨p1, q1⟩ := laws_markQueryS_ok.go x.Queries k (by omega) (by omega)
  obtain ⟨p2, q2⟩ := laws_markSpanSS_ok.go x.Fields ((laws_markQueryS_m x.Queries k).1) (by omega) (by omega)
  unfold laws_markIndex_m
  exact ⟨by dsimp only; omega, by dsimp only; omega⟩⟩
theorem laws_markRowS_e : MkOkB (fun (x : DRow) (k : Int) => ((laws_markIntS_m ((x).Values) (IntKind.i64.wrap (k + 1))).1, ((⟨k, (laws_markIntS_m ((x).Values) (IntKind.i64.wrap (k + 1))).2⟩ : DRow) : DRow))) wtRow := ⟨fun x k h0 h1 => by
  unfold wtRow at h1 ⊢
  have w1 : IntKind.i64.wrap (k + 1) = k + 1 := wrap_id (by omega) (by omega)
  obtain ⟨p2, q2⟩ := laws_markIntS_ok.b.go x.Values (k + 1) (by omega) (by omega)
  simp only [w1]
  exact ⟨by omega, by omega⟩⟩
theorem laws_markRowS_ok : MkB laws_markRowS_m (wtS wtRow) := MkB_list laws_markRowS_e (b := fun _ k s => laws_markRowS_b1 k s.1 s.2) (fun x => rfl) (fun _ _ => rfl) (fun _ _ _ => rfl)
theorem laws_markAnnotatedS_e : MkOk (fun (x : DAnnotated) (k : Int) => ((laws_markIntS_m ((x).Set) ((laws_markIntS_m ((x).Row.Values) (IntKind.i64.wrap (k + 1))).1)).1, ((⟨(⟨k, (laws_markIntS_m ((x).Row.Values) (IntKind.i64.wrap (k + 1))).2⟩ : DRow), (laws_markIntS_m ((x).Set) ((laws_markIntS_m ((x).Row.Values) (IntKind.i64.wrap (k + 1))).1)).2⟩ : DAnnotated) : DAnnotated))) (fun (x : DAnnotated) (k : Int) => (cond (((x).Row.Id) != k) (Sum.inl (-1)) (cond (decide ((laws_heldIntS_m ((x).Row.Values) (IntKind.i64.wrap (k + 1))) < 0)) (Sum.inl (-1)) (cond (decide ((laws_heldIntS_m ((x).Set) (laws_heldIntS_m ((x).Row.Values) (IntKind.i64.wrap (k + 1)))) < 0)) (Sum.inl (-1)) (Sum.inr (laws_heldIntS_m ((x).Set) (laws_heldIntS_m ((x).Row.Values) (IntKind.i64.wrap (k + 1))))))) : Int ⊕ Int)) wtAnnotated := ⟨fun x k h0 h1 => by
  unfold wtAnnotated wtRow at h1 ⊢
  have w1 : IntKind.i64.wrap (k + 1) = k + 1 := wrap_id (by omega) (by omega)
  obtain ⟨p2, q2, r2⟩ := laws_markIntS_ok.go x.Row.Values (k + 1) (by omega) (by omega)
  have d2 : decide ((laws_markIntS_m x.Row.Values (k + 1)).1 < 0) = false := decide_eq_false (by omega)
  obtain ⟨p3, q3, r3⟩ := laws_markIntS_ok.go x.Set ((laws_markIntS_m x.Row.Values (k + 1)).1) (by omega) (by omega)
  have d3 : decide ((laws_markIntS_m x.Set ((laws_markIntS_m x.Row.Values (k + 1)).1)).1 < 0) = false := decide_eq_false (by omega)
  simp only [w1]
  exact ⟨by omega, by omega, by simp only [bne_self_eq_false, r2, d2, r3, d3, cond_false, w1]⟩⟩
theorem laws_markAnnotatedS_ok : MkF laws_markAnnotatedS_m laws_heldAnnotatedS_m (wtS wtAnnotated) := MkF_list laws_markAnnotatedS_e (b := fun _ k s => laws_markAnnotatedS_b1 k s.1 s.2) (hb := fun x k s => laws_heldAnnotatedS_b1 x k s) (fun x => rfl) (fun _ _ => rfl) (fun _ _ => rfl) (fun _ _ _ => rfl) (fun _ _ _ => rfl)
end Go.Proofs.Ytdjendhffbjnhaa
