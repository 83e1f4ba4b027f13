/-
  Plain laws of the functions that the law runs over its arguments.
-/
import Derived.Test.YtmikmbmdibabmaaGreatL7F5
import Derived.Test.YtmikmbmdibabmaaGreatVcP
namespace Go.Proofs.YtmikmbmdibabmaaGreat
open Go.RowKit
theorem laws_szIntS_ok : SzOk laws_szIntS_m List.length (fun x => x.length ≤ 9223372036854775807) := sz_len (fun _ _ => rfl)
def wtVersion (x : DVersion) : Nat := x.Values.length
theorem smVersion_wt {B : Nat} {x : DVersion} (h : wtVersion x ≤ B) : smVersion B x := by
  unfold wtVersion at h
  unfold smVersion
  exact (by omega)
theorem tyLVersion_sm {w : World} {B : Nat} {cs : List Value} {x : DVersion} (h : tyLVersion.rd w B cs x) : smVersion 9223372036854775807 x := by
  obtain ⟨_, _, _, _, ⟨_, _, _, ⟨_, _, h1⟩, ⟨_, _, _, _, _⟩⟩⟩ := h
  unfold smVersion
  exact h1.1
theorem laws_szVersion_ok : SzOk laws_szVersion_m wtVersion (fun x => smVersion 9223372036854775807 x) := ⟨fun x k hx h0 h1 => by
  unfold laws_szVersion_m wtVersion
  unfold smVersion at hx
  refine sz_step (laws_szIntS_ok.go _ _ hx h0 h1) (by omega) (by omega) fun a0 b0 c0 => ?_
  right; omega⟩
theorem laws_szVersionS_ok : SzOk laws_szVersionS_m (wtS wtVersion) (fun x => (x.length ≤ 9223372036854775807 ∧ ∀ y ∈ x, smVersion 9223372036854775807 y)) := sz_list laws_szVersion_ok (fun _ _ => rfl)
theorem laws_szVersionSS_ok : SzOk laws_szVersionSS_m (wtS (wtS wtVersion)) (fun x => (x.length ≤ 9223372036854775807 ∧ ∀ y ∈ x, (y.length ≤ 9223372036854775807 ∧ ∀ y1 ∈ y, smVersion 9223372036854775807 y1))) := sz_list laws_szVersionS_ok (fun _ _ => rfl)
def wtStore (x : DStore) : Nat := wtS (wtS wtVersion) x.Segments
theorem smStore_wt {B : Nat} {x : DStore} (h : wtStore x ≤ B) : smStore B x := by
  unfold wtStore at h
  unfold smStore
  exact (sm_wtS (w := wtS wtVersion) (by omega) fun y h => (sm_wtS (h) fun y h => (smVersion_wt (h))))
theorem tyLStore_sm {w : World} {B : Nat} {cs : List Value} {x : DStore} (h : tyLStore.rd w B cs x) : smStore 9223372036854775807 x := by
  obtain ⟨_, _, _, ⟨_, _, h0⟩, _⟩ := h
  unfold smStore
  exact (rdS_sm h0 fun _ _ h => (by obtain ⟨_, _, h⟩ := h; exact (rdS_sm h fun _ _ h => (tyLVersion_sm h))))
theorem laws_szStore_ok : SzOk laws_szStore_m wtStore (fun x => smStore 9223372036854775807 x) := ⟨fun x k hx h0 h1 => by
  unfold laws_szStore_m wtStore
  unfold smStore at hx
  refine sz_step (laws_szVersionSS_ok.go _ _ hx h0 h1) (by omega) (by omega) fun a0 b0 c0 => ?_
  right; omega⟩
theorem laws_szCondS_ok : SzOk laws_szCondS_m List.length (fun x => x.length ≤ 9223372036854775807) := sz_len (fun _ _ => rfl)
def wtQuery (x : DQuery) : Nat := x.Conds.length + x.Out.length
theorem smQuery_wt {B : Nat} {x : DQuery} (h : wtQuery x ≤ B) : smQuery B x := by
  unfold wtQuery at h
  unfold smQuery
  exact ⟨(by omega), (by omega)⟩
theorem tyLQuery_sm {w : World} {B : Nat} {cs : List Value} {x : DQuery} (h : tyLQuery.rd w B cs x) : smQuery 9223372036854775807 x := by
  obtain ⟨_, _, _, _, ⟨_, _, _, _, ⟨_, _, _, ⟨_, _, h2⟩, ⟨_, _, h3⟩⟩⟩⟩ := h
  unfold smQuery
  exact ⟨h2.1, h3.1⟩
theorem laws_szQuery_ok : SzOk laws_szQuery_m wtQuery (fun x => smQuery 9223372036854775807 x) := ⟨fun x k hx h0 h1 => by
  unfold laws_szQuery_m wtQuery
  unfold smQuery at hx
  refine sz_step (laws_szCondS_ok.go _ _ hx.1 h0 h1) (by omega) (by omega) fun a0 b0 c0 => ?_
  refine sz_step (laws_szIntS_ok.go _ _ hx.2 a0 b0) (by omega) (by omega) fun a1 b1 c1 => ?_
  right; omega⟩
def wtRow (x : DRow) : Nat := x.Values.length
theorem smRow_wt {B : Nat} {x : DRow} (h : wtRow x ≤ B) : smRow B x := by
  unfold wtRow at h
  unfold smRow
  exact (by omega)
theorem tyLRow_sm {w : World} {B : Nat} {cs : List Value} {x : DRow} (h : tyLRow.rd w B cs x) : smRow 9223372036854775807 x := by
  obtain ⟨_, _, _, _, ⟨_, _, h1⟩⟩ := h
  unfold smRow
  exact h1.1
theorem laws_szRow_ok : SzOk laws_szRow_m wtRow (fun x => smRow 9223372036854775807 x) := ⟨fun x k hx h0 h1 => by
  unfold laws_szRow_m wtRow
  unfold smRow at hx
  refine sz_step (laws_szIntS_ok.go _ _ hx h0 h1) (by omega) (by omega) fun a0 b0 c0 => ?_
  right; omega⟩
theorem laws_szRowS_ok : SzOk laws_szRowS_m (wtS wtRow) (fun x => (x.length ≤ 9223372036854775807 ∧ ∀ y ∈ x, smRow 9223372036854775807 y)) := sz_list laws_szRow_ok (fun _ _ => rfl)
def wtActive (x : DActive) : Nat := wtQuery x.Query + x.Todo.length + wtS wtRow x.Rows
theorem smActive_wt {B : Nat} {x : DActive} (h : wtActive x ≤ B) : smActive B x := by
  unfold wtActive at h
  unfold smActive
  exact ⟨(smQuery_wt (by omega)), (by omega), (sm_wtS (by omega) fun y h => (smRow_wt (h)))⟩
theorem tyLActive_sm {w : World} {B : Nat} {cs : List Value} {x : DActive} (h : tyLActive.rd w B cs x) : smActive 9223372036854775807 x := by
  obtain ⟨_, _, _, h0, ⟨_, _, _, _, ⟨_, _, _, ⟨_, _, h2⟩, ⟨_, _, _, _, ⟨_, _, _, _, ⟨_, _, _, _, ⟨_, _, h6⟩⟩⟩⟩⟩⟩⟩ := h
  unfold smActive
  exact ⟨(tyLQuery_sm h0), h2.1, (rdS_sm h6 fun _ _ h => (tyLRow_sm h))⟩
theorem laws_szActive_ok : SzOk laws_szActive_m wtActive (fun x => smActive 9223372036854775807 x) := ⟨fun x k hx h0 h1 => by
  unfold laws_szActive_m wtActive
  unfold smActive at hx
  refine sz_step (laws_szQuery_ok.go _ _ hx.1 h0 h1) (by omega) (by omega) fun a0 b0 c0 => ?_
  refine sz_step (laws_szIntS_ok.go _ _ hx.2.1 a0 b0) (by omega) (by omega) fun a1 b1 c1 => ?_
  refine sz_step (laws_szRowS_ok.go _ _ hx.2.2 a1 b1) (by omega) (by omega) fun a2 b2 c2 => ?_
  right; omega⟩
theorem laws_szActiveS_ok : SzOk laws_szActiveS_m (wtS wtActive) (fun x => (x.length ≤ 9223372036854775807 ∧ ∀ y ∈ x, smActive 9223372036854775807 y)) := sz_list laws_szActive_ok (fun _ _ => rfl)
def wtFinished (x : DFinished) : Nat := wtQuery x.Query + wtS wtRow x.Rows
theorem smFinished_wt {B : Nat} {x : DFinished} (h : wtFinished x ≤ B) : smFinished B x := by
  unfold wtFinished at h
  unfold smFinished
  exact ⟨(smQuery_wt (by omega)), (sm_wtS (by omega) fun y h => (smRow_wt (h)))⟩
theorem tyLFinished_sm {w : World} {B : Nat} {cs : List Value} {x : DFinished} (h : tyLFinished.rd w B cs x) : smFinished 9223372036854775807 x := by
  obtain ⟨_, _, _, h0, ⟨_, _, _, _, ⟨_, _, _, _, ⟨_, _, h3⟩⟩⟩⟩ := h
  unfold smFinished
  exact ⟨(tyLQuery_sm h0), (rdS_sm h3 fun _ _ h => (tyLRow_sm h))⟩
theorem laws_szFinished_ok : SzOk laws_szFinished_m wtFinished (fun x => smFinished 9223372036854775807 x) := ⟨fun x k hx h0 h1 => by
  unfold laws_szFinished_m wtFinished
  unfold smFinished at hx
  refine sz_step (laws_szQuery_ok.go _ _ hx.1 h0 h1) (by omega) (by omega) fun a0 b0 c0 => ?_
  refine sz_step (laws_szRowS_ok.go _ _ hx.2 a0 b0) (by omega) (by omega) fun a1 b1 c1 => ?_
  right; omega⟩
theorem laws_szFinishedS_ok : SzOk laws_szFinishedS_m (wtS wtFinished) (fun x => (x.length ≤ 9223372036854775807 ∧ ∀ y ∈ x, smFinished 9223372036854775807 y)) := sz_list laws_szFinished_ok (fun _ _ => rfl)
def wtCharge (x : DCharge) : Nat := x.Ids.length + x.Tenants.length + x.Rows.length
theorem smCharge_wt {B : Nat} {x : DCharge} (h : wtCharge x ≤ B) : smCharge B x := by
  unfold wtCharge at h
  unfold smCharge
  exact ⟨(by omega), (by omega), (by omega)⟩
theorem tyLCharge_sm {w : World} {B : Nat} {cs : List Value} {x : DCharge} (h : tyLCharge.rd w B cs x) : smCharge 9223372036854775807 x := by
  obtain ⟨_, _, _, _, ⟨_, _, _, _, ⟨_, _, _, ⟨_, _, h2⟩, ⟨_, _, _, ⟨_, _, h3⟩, ⟨_, _, h4⟩⟩⟩⟩⟩ := h
  unfold smCharge
  exact ⟨h2.1, h3.1, h4.1⟩
theorem laws_szCharge_ok : SzOk laws_szCharge_m wtCharge (fun x => smCharge 9223372036854775807 x) := ⟨fun x k hx h0 h1 => by
  unfold laws_szCharge_m wtCharge
  unfold smCharge at hx
  refine sz_step (laws_szIntS_ok.go _ _ hx.1 h0 h1) (by omega) (by omega) fun a0 b0 c0 => ?_
  refine sz_step (laws_szIntS_ok.go _ _ hx.2.1 a0 b0) (by omega) (by omega) fun a1 b1 c1 => ?_
  refine sz_step (laws_szIntS_ok.go _ _ hx.2.2 a1 b1) (by omega) (by omega) fun a2 b2 c2 => ?_
  right; omega⟩
theorem laws_szChargeS_ok : SzOk laws_szChargeS_m (wtS wtCharge) (fun x => (x.length ≤ 9223372036854775807 ∧ ∀ y ∈ x, smCharge 9223372036854775807 y)) := sz_list laws_szCharge_ok (fun _ _ => rfl)
def wtEngine (x : DEngine) : Nat := wtStore x.Store + x.Order.length + wtS wtActive x.Active + wtS wtFinished x.Done + wtS wtCharge x.Ledger
theorem smEngine_wt {B : Nat} {x : DEngine} (h : wtEngine x ≤ B) : smEngine B x := by
  unfold wtEngine at h
  unfold smEngine
  exact ⟨(smStore_wt (by omega)), (by omega), (sm_wtS (by omega) fun y h => (smActive_wt (h))), (sm_wtS (by omega) fun y h => (smFinished_wt (h))), (sm_wtS (by omega) fun y h => (smCharge_wt (h)))⟩
theorem tyLEngine_sm {w : World} {B : Nat} {cs : List Value} {x : DEngine} (h : tyLEngine.rd w B cs x) : smEngine 9223372036854775807 x := by
  obtain ⟨_, _, _, h0, ⟨_, _, _, _, ⟨_, _, _, ⟨_, _, h2⟩, ⟨_, _, _, ⟨_, _, h3⟩, ⟨_, _, _, ⟨_, _, h4⟩, ⟨_, _, _, ⟨_, _, h5⟩, _⟩⟩⟩⟩⟩⟩ := h
  unfold smEngine
  exact ⟨(tyLStore_sm h0), h2.1, (rdS_sm h3 fun _ _ h => (tyLActive_sm h)), (rdS_sm h4 fun _ _ h => (tyLFinished_sm h)), (rdS_sm h5 fun _ _ h => (tyLCharge_sm h))⟩
theorem laws_szEngine_ok : SzOk laws_szEngine_m wtEngine (fun x => smEngine 9223372036854775807 x) := ⟨fun x k hx h0 h1 => by
  unfold laws_szEngine_m wtEngine
  unfold smEngine at hx
  refine sz_step (laws_szStore_ok.go _ _ hx.1 h0 h1) (by omega) (by omega) fun a0 b0 c0 => ?_
  refine sz_step (laws_szIntS_ok.go _ _ hx.2.1 a0 b0) (by omega) (by omega) fun a1 b1 c1 => ?_
  refine sz_step (laws_szActiveS_ok.go _ _ hx.2.2.1 a1 b1) (by omega) (by omega) fun a2 b2 c2 => ?_
  refine sz_step (laws_szFinishedS_ok.go _ _ hx.2.2.2.1 a2 b2) (by omega) (by omega) fun a3 b3 c3 => ?_
  refine sz_step (laws_szChargeS_ok.go _ _ hx.2.2.2.2 a3 b3) (by omega) (by omega) fun a4 b4 c4 => ?_
  right; omega⟩
theorem laws_toIntS_eq (x : (List Int)) : laws_toIntS_m x = x := by
  unfold laws_toIntS_m
  rw [rng_copy (b := fun k s => laws_toIntS_b1 x k s) (xs := x) (by simp) (fun j s _ => rfl)]
  rfl
theorem laws_toVersion_eq (x : DVersion) : laws_toVersion_m x = x := by
  unfold laws_toVersion_m
  simp only [laws_toIntS_eq]
theorem laws_toVersionS_eq (x : (List DVersion)) : laws_toVersionS_m x = x := by
  unfold laws_toVersionS_m
  rw [rng_copy (b := fun k s => laws_toVersionS_b1 x k s) (xs := x) (by simp) (fun j s _ => by
    show Sum.inr (s.set j (laws_toVersion_m (gt x j))) = _
    rw [laws_toVersion_eq])]
  rfl
theorem laws_toVersionSS_eq (x : (List (List DVersion))) : laws_toVersionSS_m x = x := by
  unfold laws_toVersionSS_m
  rw [rng_copy (b := fun k s => laws_toVersionSS_b1 x k s) (xs := x) (by simp) (fun j s _ => by
    show Sum.inr (s.set j (laws_toVersionS_m (gt x j))) = _
    rw [laws_toVersionS_eq])]
  rfl
theorem laws_toStore_eq (x : DStore) : laws_toStore_m x = x := by
  unfold laws_toStore_m
  simp only [laws_toVersionSS_eq]
theorem laws_toCond_eq (x : DCond) : laws_toCond_m x = x := rfl
theorem laws_toCondS_eq (x : (List DCond)) : laws_toCondS_m x = x := by
  unfold laws_toCondS_m
  rw [rng_copy (b := fun k s => laws_toCondS_b1 x k s) (xs := x) (by simp) (fun j s _ => by
    show Sum.inr (s.set j (laws_toCond_m (gt x j))) = _
    rw [laws_toCond_eq])]
  rfl
theorem laws_toQuery_eq (x : DQuery) : laws_toQuery_m x = x := by
  unfold laws_toQuery_m
  simp only [laws_toCondS_eq, laws_toIntS_eq]
theorem laws_toRow_eq (x : DRow) : laws_toRow_m x = x := by
  unfold laws_toRow_m
  simp only [laws_toIntS_eq]
theorem laws_toRowS_eq (x : (List DRow)) : laws_toRowS_m x = x := by
  unfold laws_toRowS_m
  rw [rng_copy (b := fun k s => laws_toRowS_b1 x k s) (xs := x) (by simp) (fun j s _ => by
    show Sum.inr (s.set j (laws_toRow_m (gt x j))) = _
    rw [laws_toRow_eq])]
  rfl
theorem laws_toActive_eq (x : DActive) : laws_toActive_m x = x := by
  unfold laws_toActive_m
  simp only [laws_toQuery_eq, laws_toIntS_eq, laws_toRowS_eq]
theorem laws_toActiveS_eq (x : (List DActive)) : laws_toActiveS_m x = x := by
  unfold laws_toActiveS_m
  rw [rng_copy (b := fun k s => laws_toActiveS_b1 x k s) (xs := x) (by simp) (fun j s _ => by
    show Sum.inr (s.set j (laws_toActive_m (gt x j))) = _
    rw [laws_toActive_eq])]
  rfl
theorem laws_toFinished_eq (x : DFinished) : laws_toFinished_m x = x := by
  unfold laws_toFinished_m
  simp only [laws_toQuery_eq, laws_toRowS_eq]
theorem laws_toFinishedS_eq (x : (List DFinished)) : laws_toFinishedS_m x = x := by
  unfold laws_toFinishedS_m
  rw [rng_copy (b := fun k s => laws_toFinishedS_b1 x k s) (xs := x) (by simp) (fun j s _ => by
    show Sum.inr (s.set j (laws_toFinished_m (gt x j))) = _
    rw [laws_toFinished_eq])]
  rfl
theorem laws_toCharge_eq (x : DCharge) : laws_toCharge_m x = x := by
  unfold laws_toCharge_m
  simp only [laws_toIntS_eq]
theorem laws_toChargeS_eq (x : (List DCharge)) : laws_toChargeS_m x = x := by
  unfold laws_toChargeS_m
  rw [rng_copy (b := fun k s => laws_toChargeS_b1 x k s) (xs := x) (by simp) (fun j s _ => by
    show Sum.inr (s.set j (laws_toCharge_m (gt x j))) = _
    rw [laws_toCharge_eq])]
  rfl
theorem laws_toEngine_eq (x : DEngine) : laws_toEngine_m x = x := by
  unfold laws_toEngine_m
  simp only [laws_toStore_eq, laws_toIntS_eq, laws_toActiveS_eq, laws_toFinishedS_eq, laws_toChargeS_eq]
theorem laws_eqIntS_refl (x : (List Int)) : laws_eqIntS_m x x = true := by
  unfold laws_eqIntS_m
  rw [bne_self_eq_false, cond_false, rng_all (fun j _ => by simp only [laws_eqIntS_b1, bne_self_eq_false, cond_false])]
  rfl
theorem laws_eqVersion_refl (x : DVersion) : laws_eqVersion_m x x = true := by
  simp only [laws_eqVersion_m, bne_self_eq_false, cond_false, cond_true, laws_eqIntS_refl]
theorem laws_eqVersionS_refl (x : (List DVersion)) : laws_eqVersionS_m x x = true := by
  unfold laws_eqVersionS_m
  rw [bne_self_eq_false, cond_false, rng_all (fun j _ => by simp only [laws_eqVersionS_b1, cond_true, laws_eqVersion_refl])]
  rfl
theorem laws_eqVersionSS_refl (x : (List (List DVersion))) : laws_eqVersionSS_m x x = true := by
  unfold laws_eqVersionSS_m
  rw [bne_self_eq_false, cond_false, rng_all (fun j _ => by simp only [laws_eqVersionSS_b1, cond_true, laws_eqVersionS_refl])]
  rfl
theorem laws_eqStore_refl (x : DStore) : laws_eqStore_m x x = true := by
  simp only [laws_eqStore_m, bne_self_eq_false, cond_false, cond_true, laws_eqVersionSS_refl]
theorem laws_eqCond_refl (x : DCond) : laws_eqCond_m x x = true := by
  simp only [laws_eqCond_m, bne_self_eq_false, cond_false]
theorem laws_eqCondS_refl (x : (List DCond)) : laws_eqCondS_m x x = true := by
  unfold laws_eqCondS_m
  rw [bne_self_eq_false, cond_false, rng_all (fun j _ => by simp only [laws_eqCondS_b1, cond_true, laws_eqCond_refl])]
  rfl
theorem laws_eqQuery_refl (x : DQuery) : laws_eqQuery_m x x = true := by
  simp only [laws_eqQuery_m, bne_self_eq_false, cond_false, cond_true, laws_eqCondS_refl, laws_eqIntS_refl]
theorem laws_eqRow_refl (x : DRow) : laws_eqRow_m x x = true := by
  simp only [laws_eqRow_m, bne_self_eq_false, cond_false, cond_true, laws_eqIntS_refl]
theorem laws_eqRowS_refl (x : (List DRow)) : laws_eqRowS_m x x = true := by
  unfold laws_eqRowS_m
  rw [bne_self_eq_false, cond_false, rng_all (fun j _ => by simp only [laws_eqRowS_b1, cond_true, laws_eqRow_refl])]
  rfl
theorem laws_eqActive_refl (x : DActive) : laws_eqActive_m x x = true := by
  simp only [laws_eqActive_m, bne_self_eq_false, cond_false, cond_true, laws_eqIntS_refl, laws_eqQuery_refl, laws_eqRowS_refl]
theorem laws_eqActiveS_refl (x : (List DActive)) : laws_eqActiveS_m x x = true := by
  unfold laws_eqActiveS_m
  rw [bne_self_eq_false, cond_false, rng_all (fun j _ => by simp only [laws_eqActiveS_b1, cond_true, laws_eqActive_refl])]
  rfl
theorem laws_eqFinished_refl (x : DFinished) : laws_eqFinished_m x x = true := by
  simp only [laws_eqFinished_m, bne_self_eq_false, cond_false, cond_true, laws_eqQuery_refl, laws_eqRowS_refl]
theorem laws_eqFinishedS_refl (x : (List DFinished)) : laws_eqFinishedS_m x x = true := by
  unfold laws_eqFinishedS_m
  rw [bne_self_eq_false, cond_false, rng_all (fun j _ => by simp only [laws_eqFinishedS_b1, cond_true, laws_eqFinished_refl])]
  rfl
theorem laws_eqCharge_refl (x : DCharge) : laws_eqCharge_m x x = true := by
  simp only [laws_eqCharge_m, bne_self_eq_false, cond_false, cond_true, laws_eqIntS_refl]
theorem laws_eqChargeS_refl (x : (List DCharge)) : laws_eqChargeS_m x x = true := by
  unfold laws_eqChargeS_m
  rw [bne_self_eq_false, cond_false, rng_all (fun j _ => by simp only [laws_eqChargeS_b1, cond_true, laws_eqCharge_refl])]
  rfl
theorem laws_eqEngine_refl (x : DEngine) : laws_eqEngine_m x x = true := by
  simp only [laws_eqEngine_m, bne_self_eq_false, cond_false, cond_true, laws_eqActiveS_refl, laws_eqChargeS_refl, laws_eqFinishedS_refl, laws_eqIntS_refl, laws_eqStore_refl]
theorem laws_markIntS_e : MkOk (fun (_ : Int) (k : Int) => ((IntKind.i64.wrap (k + 1)), (k : Int))) (fun (x : Int) (k : Int) => (cond ((x) != k) (Sum.inl (-1)) (Sum.inr (IntKind.i64.wrap (k + 1))) : Int ⊕ Int)) (fun _ => 0) := ⟨fun x k h0 h1 => by
  have w1 : IntKind.i64.wrap (k + 1) = k + 1 := wrap_id (by omega) (by omega)
  simp only [w1]
  exact ⟨by omega, by omega, by simp only [bne_self_eq_false, cond_false]⟩⟩
theorem laws_markIntS_ok : MkF laws_markIntS_m laws_heldIntS_m List.length := MkF_list laws_markIntS_e (b := fun _ k s => laws_markIntS_b1 k s.1 s.2) (hb := fun x k s => laws_heldIntS_b1 x k s) (fun x => wtS_zero x) (fun _ _ => rfl) (fun _ _ => rfl) (fun _ _ _ => rfl) (fun _ _ _ => rfl)
theorem laws_markVersionS_e : MkOk (fun (x : DVersion) (k : Int) => ((IntKind.i64.wrap ((IntKind.i64.wrap (((laws_markIntS_m ((x).Values) (IntKind.i64.wrap (k + 1))).1) + 1)) + 1)), ((⟨k, (laws_markIntS_m ((x).Values) (IntKind.i64.wrap (k + 1))).2, (laws_markIntS_m ((x).Values) (IntKind.i64.wrap (k + 1))).1, (IntKind.i64.wrap (((laws_markIntS_m ((x).Values) (IntKind.i64.wrap (k + 1))).1) + 1))⟩ : DVersion) : DVersion))) (fun (x : DVersion) (k : Int) => (cond (((x).Id) != k) (Sum.inl (-1)) (cond (decide ((laws_heldIntS_m ((x).Values) (IntKind.i64.wrap (k + 1))) < 0)) (Sum.inl (-1)) (cond (((x).Born) != (laws_heldIntS_m ((x).Values) (IntKind.i64.wrap (k + 1)))) (Sum.inl (-1)) (cond (((x).Died) != (IntKind.i64.wrap ((laws_heldIntS_m ((x).Values) (IntKind.i64.wrap (k + 1))) + 1))) (Sum.inl (-1)) (Sum.inr (IntKind.i64.wrap ((IntKind.i64.wrap ((laws_heldIntS_m ((x).Values) (IntKind.i64.wrap (k + 1))) + 1)) + 1)))))) : Int ⊕ Int)) wtVersion := ⟨fun x k h0 h1 => by
  unfold wtVersion at h1 ⊢
  have w1 : IntKind.i64.wrap (k + 1) = k + 1 := wrap_id (by omega) (by omega)
  obtain ⟨p2, q2, r2⟩ := laws_markIntS_ok.go x.Values (k + 1) (by omega) (by omega)
  have d2 : decide ((laws_markIntS_m x.Values (k + 1)).1 < 0) = false := decide_eq_false (by omega)
  have w3 : IntKind.i64.wrap ((laws_markIntS_m x.Values (k + 1)).1 + 1) = (laws_markIntS_m x.Values (k + 1)).1 + 1 := wrap_id (by omega) (by omega)
  have w4 : IntKind.i64.wrap ((laws_markIntS_m x.Values (k + 1)).1 + 1 + 1) = (laws_markIntS_m x.Values (k + 1)).1 + 1 + 1 := wrap_id (by omega) (by omega)
  simp only [w1, w3, w4]
  exact ⟨by omega, by omega, by simp only [bne_self_eq_false, r2, d2, cond_false, w1, w3, w4]⟩⟩
theorem laws_markVersionS_ok : MkF laws_markVersionS_m laws_heldVersionS_m (wtS wtVersion) := MkF_list laws_markVersionS_e (b := fun _ k s => laws_markVersionS_b1 k s.1 s.2) (hb := fun x k s => laws_heldVersionS_b1 x k s) (fun x => rfl) (fun _ _ => rfl) (fun _ _ => rfl) (fun _ _ _ => rfl) (fun _ _ _ => rfl)
theorem laws_markVersionSS_e : MkOk (fun (x : (List DVersion)) (k : Int) => ((laws_markVersionS_m (x) k).1, (((laws_markVersionS_m (x) k).2) : (List DVersion)))) (fun (x : (List DVersion)) (k : Int) => (cond (decide ((laws_heldVersionS_m (x) k) < 0)) (Sum.inl (-1)) (Sum.inr (laws_heldVersionS_m (x) k)) : Int ⊕ Int)) (wtS wtVersion) := ⟨fun x k h0 h1 => by
  obtain ⟨p1, q1, r1⟩ := laws_markVersionS_ok.go x k (by omega) (by omega)
  have d1 : decide ((laws_markVersionS_m x k).1 < 0) = false := decide_eq_false (by omega)
  exact ⟨by omega, by omega, by simp only [r1, d1, cond_false]⟩⟩
theorem laws_markVersionSS_ok : MkF laws_markVersionSS_m laws_heldVersionSS_m (wtS (wtS wtVersion)) := MkF_list laws_markVersionSS_e (b := fun _ k s => laws_markVersionSS_b1 k s.1 s.2) (hb := fun x k s => laws_heldVersionSS_b1 x k s) (fun x => rfl) (fun _ _ => rfl) (fun _ _ => rfl) (fun _ _ _ => rfl) (fun _ _ _ => rfl)
theorem laws_markStore_ok : MkF laws_markStore_m laws_heldStore_m wtStore := ⟨fun x k h0 h1 => by
  unfold wtStore at h1 ⊢
  obtain ⟨p1, q1, r1⟩ := laws_markVersionSS_ok.go x.Segments k (by omega) (by omega)
  have d1 : decide ((laws_markVersionSS_m x.Segments k).1 < 0) = false := decide_eq_false (by omega)
  unfold laws_markStore_m
  exact ⟨by dsimp only; omega, by dsimp only; omega, by simp only [laws_heldStore_m, r1, d1, cond_false]⟩⟩
theorem laws_markCondS_e : MkOk (fun (_ : DCond) (k : Int) => ((IntKind.i64.wrap ((IntKind.i64.wrap ((IntKind.i64.wrap (k + 1)) + 1)) + 1)), ((⟨k, (IntKind.i64.wrap (k + 1)), (IntKind.i64.wrap ((IntKind.i64.wrap (k + 1)) + 1))⟩ : DCond) : DCond))) (fun (x : DCond) (k : Int) => (cond (((x).Field) != k) (Sum.inl (-1)) (cond (((x).Low) != (IntKind.i64.wrap (k + 1))) (Sum.inl (-1)) (cond (((x).High) != (IntKind.i64.wrap ((IntKind.i64.wrap (k + 1)) + 1))) (Sum.inl (-1)) (Sum.inr (IntKind.i64.wrap ((IntKind.i64.wrap ((IntKind.i64.wrap (k + 1)) + 1)) + 1))))) : Int ⊕ Int)) (fun _ => 0) := ⟨fun x k h0 h1 => by
  have w1 : IntKind.i64.wrap (k + 1) = k + 1 := wrap_id (by omega) (by omega)
  have w2 : IntKind.i64.wrap (k + 1 + 1) = k + 1 + 1 := wrap_id (by omega) (by omega)
  have w3 : IntKind.i64.wrap (k + 1 + 1 + 1) = k + 1 + 1 + 1 := wrap_id (by omega) (by omega)
  simp only [w1, w2, w3]
  exact ⟨by omega, by omega, by simp only [bne_self_eq_false, cond_false]⟩⟩
theorem laws_markCondS_ok : MkF laws_markCondS_m laws_heldCondS_m List.length := MkF_list laws_markCondS_e (b := fun _ k s => laws_markCondS_b1 k s.1 s.2) (hb := fun x k s => laws_heldCondS_b1 x k s) (fun x => wtS_zero x) (fun _ _ => rfl) (fun _ _ => rfl) (fun _ _ _ => rfl) (fun _ _ _ => rfl)
theorem laws_markRowS_e : MkOk (fun (x : DRow) (k : Int) => ((laws_markIntS_m ((x).Values) (IntKind.i64.wrap (k + 1))).1, ((⟨k, (laws_markIntS_m ((x).Values) (IntKind.i64.wrap (k + 1))).2⟩ : DRow) : DRow))) (fun (x : DRow) (k : Int) => (cond (((x).Id) != k) (Sum.inl (-1)) (cond (decide ((laws_heldIntS_m ((x).Values) (IntKind.i64.wrap (k + 1))) < 0)) (Sum.inl (-1)) (Sum.inr (laws_heldIntS_m ((x).Values) (IntKind.i64.wrap (k + 1))))) : Int ⊕ Int)) wtRow := ⟨fun x k h0 h1 => by
  unfold wtRow at h1 ⊢
  have w1 : IntKind.i64.wrap (k + 1) = k + 1 := wrap_id (by omega) (by omega)
  obtain ⟨p2, q2, r2⟩ := laws_markIntS_ok.go x.Values (k + 1) (by omega) (by omega)
  have d2 : decide ((laws_markIntS_m x.Values (k + 1)).1 < 0) = false := decide_eq_false (by omega)
  simp only [w1]
  exact ⟨by omega, by omega, by simp only [bne_self_eq_false, r2, d2, cond_false, w1]⟩⟩
theorem laws_markRowS_ok : MkF laws_markRowS_m laws_heldRowS_m (wtS wtRow) := MkF_list laws_markRowS_e (b := fun _ k s => laws_markRowS_b1 k s.1 s.2) (hb := fun x k s => laws_heldRowS_b1 x k s) (fun x => rfl) (fun _ _ => rfl) (fun _ _ => rfl) (fun _ _ _ => rfl) (fun _ _ _ => rfl)
theorem laws_markActiveS_e : MkOk (fun (x : DActive) (k : Int) => ((laws_markRowS_m ((x).Rows) (IntKind.i64.wrap ((IntKind.i64.wrap ((IntKind.i64.wrap (((laws_markIntS_m ((x).Todo) (IntKind.i64.wrap (((laws_markIntS_m ((x).Query.Out) ((laws_markCondS_m ((x).Query.Conds) (IntKind.i64.wrap ((IntKind.i64.wrap (k + 1)) + 1))).1)).1) + 1))).1) + 1)) + 1)) + 1))).1, ((⟨(⟨k, (IntKind.i64.wrap (k + 1)), (laws_markCondS_m ((x).Query.Conds) (IntKind.i64.wrap ((IntKind.i64.wrap (k + 1)) + 1))).2, (laws_markIntS_m ((x).Query.Out) ((laws_markCondS_m ((x).Query.Conds) (IntKind.i64.wrap ((IntKind.i64.wrap (k + 1)) + 1))).1)).2⟩ : DQuery), (laws_markIntS_m ((x).Query.Out) ((laws_markCondS_m ((x).Query.Conds) (IntKind.i64.wrap ((IntKind.i64.wrap (k + 1)) + 1))).1)).1, (laws_markIntS_m ((x).Todo) (IntKind.i64.wrap (((laws_markIntS_m ((x).Query.Out) ((laws_markCondS_m ((x).Query.Conds) (IntKind.i64.wrap ((IntKind.i64.wrap (k + 1)) + 1))).1)).1) + 1))).2, (laws_markIntS_m ((x).Todo) (IntKind.i64.wrap (((laws_markIntS_m ((x).Query.Out) ((laws_markCondS_m ((x).Query.Conds) (IntKind.i64.wrap ((IntKind.i64.wrap (k + 1)) + 1))).1)).1) + 1))).1, (IntKind.i64.wrap (((laws_markIntS_m ((x).Todo) (IntKind.i64.wrap (((laws_markIntS_m ((x).Query.Out) ((laws_markCondS_m ((x).Query.Conds) (IntKind.i64.wrap ((IntKind.i64.wrap (k + 1)) + 1))).1)).1) + 1))).1) + 1)), (IntKind.i64.wrap ((IntKind.i64.wrap (((laws_markIntS_m ((x).Todo) (IntKind.i64.wrap (((laws_markIntS_m ((x).Query.Out) ((laws_markCondS_m ((x).Query.Conds) (IntKind.i64.wrap ((IntKind.i64.wrap (k + 1)) + 1))).1)).1) + 1))).1) + 1)) + 1)), (laws_markRowS_m ((x).Rows) (IntKind.i64.wrap ((IntKind.i64.wrap ((IntKind.i64.wrap (((laws_markIntS_m ((x).Todo) (IntKind.i64.wrap (((laws_markIntS_m ((x).Query.Out) ((laws_markCondS_m ((x).Query.Conds) (IntKind.i64.wrap ((IntKind.i64.wrap (k + 1)) + 1))).1)).1) + 1))).1) + 1)) + 1)) + 1))).2⟩ : DActive) : DActive))) (fun (x : DActive) (k : Int) => (cond (((x).Query.Id) != k) (Sum.inl (-1)) (cond (((x).Query.Tenant) != (IntKind.i64.wrap (k + 1))) (Sum.inl (-1)) (cond (decide ((laws_heldCondS_m ((x).Query.Conds) (IntKind.i64.wrap ((IntKind.i64.wrap (k + 1)) + 1))) < 0)) (Sum.inl (-1)) (cond (decide ((laws_heldIntS_m ((x).Query.Out) (laws_heldCondS_m ((x).Query.Conds) (IntKind.i64.wrap ((IntKind.i64.wrap (k + 1)) + 1)))) < 0)) (Sum.inl (-1)) (cond (((x).Time) != (laws_heldIntS_m ((x).Query.Out) (laws_heldCondS_m ((x).Query.Conds) (IntKind.i64.wrap ((IntKind.i64.wrap (k + 1)) + 1))))) (Sum.inl (-1)) (cond (decide ((laws_heldIntS_m ((x).Todo) (IntKind.i64.wrap ((laws_heldIntS_m ((x).Query.Out) (laws_heldCondS_m ((x).Query.Conds) (IntKind.i64.wrap ((IntKind.i64.wrap (k + 1)) + 1)))) + 1))) < 0)) (Sum.inl (-1)) (cond (((x).Age) != (laws_heldIntS_m ((x).Todo) (IntKind.i64.wrap ((laws_heldIntS_m ((x).Query.Out) (laws_heldCondS_m ((x).Query.Conds) (IntKind.i64.wrap ((IntKind.i64.wrap (k + 1)) + 1)))) + 1)))) (Sum.inl (-1)) (cond (((x).Sent) != (IntKind.i64.wrap ((laws_heldIntS_m ((x).Todo) (IntKind.i64.wrap ((laws_heldIntS_m ((x).Query.Out) (laws_heldCondS_m ((x).Query.Conds) (IntKind.i64.wrap ((IntKind.i64.wrap (k + 1)) + 1)))) + 1))) + 1))) (Sum.inl (-1)) (cond (((x).Cap) != (IntKind.i64.wrap ((IntKind.i64.wrap ((laws_heldIntS_m ((x).Todo) (IntKind.i64.wrap ((laws_heldIntS_m ((x).Query.Out) (laws_heldCondS_m ((x).Query.Conds) (IntKind.i64.wrap ((IntKind.i64.wrap (k + 1)) + 1)))) + 1))) + 1)) + 1))) (Sum.inl (-1)) (cond (decide ((laws_heldRowS_m ((x).Rows) (IntKind.i64.wrap ((IntKind.i64.wrap ((IntKind.i64.wrap ((laws_heldIntS_m ((x).Todo) (IntKind.i64.wrap ((laws_heldIntS_m ((x).Query.Out) (laws_heldCondS_m ((x).Query.Conds) (IntKind.i64.wrap ((IntKind.i64.wrap (k + 1)) + 1)))) + 1))) + 1)) + 1)) + 1))) < 0)) (Sum.inl (-1)) (Sum.inr (laws_heldRowS_m ((x).Rows) (IntKind.i64.wrap ((IntKind.i64.wrap ((IntKind.i64.wrap ((laws_heldIntS_m ((x).Todo) (IntKind.i64.wrap ((laws_heldIntS_m ((x).Query.Out) (laws_heldCondS_m ((x).Query.Conds) (IntKind.i64.wrap ((IntKind.i64.wrap (k + 1)) + 1)))) + 1))) + 1)) + 1)) + 1))))))))))))) : Int ⊕ Int)) wtActive := ⟨fun x k h0 h1 => by
  unfold wtActive wtQuery at h1 ⊢
  have w1 : IntKind.i64.wrap (k + 1) = k + 1 := wrap_id (by omega) (by omega)
  have w2 : IntKind.i64.wrap (k + 1 + 1) = k + 1 + 1 := wrap_id (by omega) (by omega)
  obtain ⟨p3, q3, r3⟩ := laws_markCondS_ok.go x.Query.Conds (k + 1 + 1) (by omega) (by omega)
  have d3 : decide ((laws_markCondS_m x.Query.Conds (k + 1 + 1)).1 < 0) = false := decide_eq_false (by omega)
  obtain ⟨p4, q4, r4⟩ := laws_markIntS_ok.go x.Query.Out ((laws_markCondS_m x.Query.Conds (k + 1 + 1)).1) (by omega) (by omega)
  have d4 : decide ((laws_markIntS_m x.Query.Out ((laws_markCondS_m x.Query.Conds (k + 1 + 1)).1)).1 < 0) = false := decide_eq_false (by omega)
  have w5 : IntKind.i64.wrap ((laws_markIntS_m x.Query.Out ((laws_markCondS_m x.Query.Conds (k + 1 + 1)).1)).1 + 1) = (laws_markIntS_m x.Query.Out ((laws_markCondS_m x.Query.Conds (k + 1 + 1)).1)).1 + 1 := wrap_id (by omega) (by omega)
  obtain ⟨p6, q6, r6⟩ := laws_markIntS_ok.go x.Todo ((laws_markIntS_m x.Query.Out ((laws_markCondS_m x.Query.Conds (k + 1 + 1)).1)).1 + 1) (by omega) (by omega)
  have d6 : decide ((laws_markIntS_m x.Todo ((laws_markIntS_m x.Query.Out ((laws_markCondS_m x.Query.Conds (k + 1 + 1)).1)).1 + 1)).1 < 0) = false := decide_eq_false (by omega)
  have w7 : IntKind.i64.wrap ((laws_markIntS_m x.Todo ((laws_markIntS_m x.Query.Out ((laws_markCondS_m x.Query.Conds (k + 1 + 1)).1)).1 + 1)).1 + 1) = (laws_markIntS_m x.Todo ((laws_markIntS_m x.Query.Out ((laws_markCondS_m x.Query.Conds (k + 1 + 1)).1)).1 + 1)).1 + 1 := wrap_id (by omega) (by omega)
  have w8 : IntKind.i64.wrap ((laws_markIntS_m x.Todo ((laws_markIntS_m x.Query.Out ((laws_markCondS_m x.Query.Conds (k + 1 + 1)).1)).1 + 1)).1 + 1 + 1) = (laws_markIntS_m x.Todo ((laws_markIntS_m x.Query.Out ((laws_markCondS_m x.Query.Conds (k + 1 + 1)).1)).1 + 1)).1 + 1 + 1 := wrap_id (by omega) (by omega)
  have w9 : IntKind.i64.wrap ((laws_markIntS_m x.Todo ((laws_markIntS_m x.Query.Out ((laws_markCondS_m x.Query.Conds (k + 1 + 1)).1)).1 + 1)).1 + 1 + 1 + 1) = (laws_markIntS_m x.Todo ((laws_markIntS_m x.Query.Out ((laws_markCondS_m x.Query.Conds (k + 1 + 1)).1)).1 + 1)).1 + 1 + 1 + 1 := wrap_id (by omega) (by omega)
  obtain ⟨p10, q10, r10⟩ := laws_markRowS_ok.go x.Rows ((laws_markIntS_m x.Todo ((laws_markIntS_m x.Query.Out ((laws_markCondS_m x.Query.Conds (k + 1 + 1)).1)).1 + 1)).1 + 1 + 1 + 1) (by omega) (by omega)
  have d10 : decide ((laws_markRowS_m x.Rows ((laws_markIntS_m x.Todo ((laws_markIntS_m x.Query.Out ((laws_markCondS_m x.Query.Conds (k + 1 + 1)).1)).1 + 1)).1 + 1 + 1 + 1)).1 < 0) = false := decide_eq_false (by omega)
  simp only [w1, w2, w5, w7, w8, w9]
  exact ⟨by omega, by omega, by simp only [bne_self_eq_false, r3, d3, r4, d4, r6, d6, r10, d10, cond_false, w1, w2, w5, w7, w8, w9]⟩⟩
theorem laws_markActiveS_ok : MkF laws_markActiveS_m laws_heldActiveS_m (wtS wtActive) := MkF_list laws_markActiveS_e (b := fun _ k s => laws_markActiveS_b1 k s.1 s.2) (hb := fun x k s => laws_heldActiveS_b1 x k s) (fun x => rfl) (fun _ _ => rfl) (fun _ _ => rfl) (fun _ _ _ => rfl) (fun _ _ _ => rfl)
theorem laws_markFinishedS_e : MkOk (fun (x : DFinished) (k : Int) => ((laws_markRowS_m ((x).Rows) (IntKind.i64.wrap ((IntKind.i64.wrap (((laws_markIntS_m ((x).Query.Out) ((laws_markCondS_m ((x).Query.Conds) (IntKind.i64.wrap ((IntKind.i64.wrap (k + 1)) + 1))).1)).1) + 1)) + 1))).1, ((⟨(⟨k, (IntKind.i64.wrap (k + 1)), (laws_markCondS_m ((x).Query.Conds) (IntKind.i64.wrap ((IntKind.i64.wrap (k + 1)) + 1))).2, (laws_markIntS_m ((x).Query.Out) ((laws_markCondS_m ((x).Query.Conds) (IntKind.i64.wrap ((IntKind.i64.wrap (k + 1)) + 1))).1)).2⟩ : DQuery), (laws_markIntS_m ((x).Query.Out) ((laws_markCondS_m ((x).Query.Conds) (IntKind.i64.wrap ((IntKind.i64.wrap (k + 1)) + 1))).1)).1, (IntKind.i64.wrap (((laws_markIntS_m ((x).Query.Out) ((laws_markCondS_m ((x).Query.Conds) (IntKind.i64.wrap ((IntKind.i64.wrap (k + 1)) + 1))).1)).1) + 1)), (laws_markRowS_m ((x).Rows) (IntKind.i64.wrap ((IntKind.i64.wrap (((laws_markIntS_m ((x).Query.Out) ((laws_markCondS_m ((x).Query.Conds) (IntKind.i64.wrap ((IntKind.i64.wrap (k + 1)) + 1))).1)).1) + 1)) + 1))).2⟩ : DFinished) : DFinished))) (fun (x : DFinished) (k : Int) => (cond (((x).Query.Id) != k) (Sum.inl (-1)) (cond (((x).Query.Tenant) != (IntKind.i64.wrap (k + 1))) (Sum.inl (-1)) (cond (decide ((laws_heldCondS_m ((x).Query.Conds) (IntKind.i64.wrap ((IntKind.i64.wrap (k + 1)) + 1))) < 0)) (Sum.inl (-1)) (cond (decide ((laws_heldIntS_m ((x).Query.Out) (laws_heldCondS_m ((x).Query.Conds) (IntKind.i64.wrap ((IntKind.i64.wrap (k + 1)) + 1)))) < 0)) (Sum.inl (-1)) (cond (((x).Time) != (laws_heldIntS_m ((x).Query.Out) (laws_heldCondS_m ((x).Query.Conds) (IntKind.i64.wrap ((IntKind.i64.wrap (k + 1)) + 1))))) (Sum.inl (-1)) (cond (((x).Steps) != (IntKind.i64.wrap ((laws_heldIntS_m ((x).Query.Out) (laws_heldCondS_m ((x).Query.Conds) (IntKind.i64.wrap ((IntKind.i64.wrap (k + 1)) + 1)))) + 1))) (Sum.inl (-1)) (cond (decide ((laws_heldRowS_m ((x).Rows) (IntKind.i64.wrap ((IntKind.i64.wrap ((laws_heldIntS_m ((x).Query.Out) (laws_heldCondS_m ((x).Query.Conds) (IntKind.i64.wrap ((IntKind.i64.wrap (k + 1)) + 1)))) + 1)) + 1))) < 0)) (Sum.inl (-1)) (Sum.inr (laws_heldRowS_m ((x).Rows) (IntKind.i64.wrap ((IntKind.i64.wrap ((laws_heldIntS_m ((x).Query.Out) (laws_heldCondS_m ((x).Query.Conds) (IntKind.i64.wrap ((IntKind.i64.wrap (k + 1)) + 1)))) + 1)) + 1)))))))))) : Int ⊕ Int)) wtFinished := ⟨fun x k h0 h1 => by
  unfold wtFinished wtQuery at h1 ⊢
  have w1 : IntKind.i64.wrap (k + 1) = k + 1 := wrap_id (by omega) (by omega)
  have w2 : IntKind.i64.wrap (k + 1 + 1) = k + 1 + 1 := wrap_id (by omega) (by omega)
  obtain ⟨p3, q3, r3⟩ := laws_markCondS_ok.go x.Query.Conds (k + 1 + 1) (by omega) (by omega)
  have d3 : decide ((laws_markCondS_m x.Query.Conds (k + 1 + 1)).1 < 0) = false := decide_eq_false (by omega)
  obtain ⟨p4, q4, r4⟩ := laws_markIntS_ok.go x.Query.Out ((laws_markCondS_m x.Query.Conds (k + 1 + 1)).1) (by omega) (by omega)
  have d4 : decide ((laws_markIntS_m x.Query.Out ((laws_markCondS_m x.Query.Conds (k + 1 + 1)).1)).1 < 0) = false := decide_eq_false (by omega)
  have w5 : IntKind.i64.wrap ((laws_markIntS_m x.Query.Out ((laws_markCondS_m x.Query.Conds (k + 1 + 1)).1)).1 + 1) = (laws_markIntS_m x.Query.Out ((laws_markCondS_m x.Query.Conds (k + 1 + 1)).1)).1 + 1 := wrap_id (by omega) (by omega)
  have w6 : IntKind.i64.wrap ((laws_markIntS_m x.Query.Out ((laws_markCondS_m x.Query.Conds (k + 1 + 1)).1)).1 + 1 + 1) = (laws_markIntS_m x.Query.Out ((laws_markCondS_m x.Query.Conds (k + 1 + 1)).1)).1 + 1 + 1 := wrap_id (by omega) (by omega)
  obtain ⟨p7, q7, r7⟩ := laws_markRowS_ok.go x.Rows ((laws_markIntS_m x.Query.Out ((laws_markCondS_m x.Query.Conds (k + 1 + 1)).1)).1 + 1 + 1) (by omega) (by omega)
  have d7 : decide ((laws_markRowS_m x.Rows ((laws_markIntS_m x.Query.Out ((laws_markCondS_m x.Query.Conds (k + 1 + 1)).1)).1 + 1 + 1)).1 < 0) = false := decide_eq_false (by omega)
  simp only [w1, w2, w5, w6]
  exact ⟨by omega, by omega, by simp only [bne_self_eq_false, r3, d3, r4, d4, r7, d7, cond_false, w1, w2, w5, w6]⟩⟩
theorem laws_markFinishedS_ok : MkF laws_markFinishedS_m laws_heldFinishedS_m (wtS wtFinished) := MkF_list laws_markFinishedS_e (b := fun _ k s => laws_markFinishedS_b1 k s.1 s.2) (hb := fun x k s => laws_heldFinishedS_b1 x k s) (fun x => rfl) (fun _ _ => rfl) (fun _ _ => rfl) (fun _ _ _ => rfl) (fun _ _ _ => rfl)
theorem laws_markChargeS_e : MkOk (fun (x : DCharge) (k : Int) => ((laws_markIntS_m ((x).Rows) ((laws_markIntS_m ((x).Tenants) ((laws_markIntS_m ((x).Ids) (IntKind.i64.wrap ((IntKind.i64.wrap (k + 1)) + 1))).1)).1)).1, ((⟨k, (IntKind.i64.wrap (k + 1)), (laws_markIntS_m ((x).Ids) (IntKind.i64.wrap ((IntKind.i64.wrap (k + 1)) + 1))).2, (laws_markIntS_m ((x).Tenants) ((laws_markIntS_m ((x).Ids) (IntKind.i64.wrap ((IntKind.i64.wrap (k + 1)) + 1))).1)).2, (laws_markIntS_m ((x).Rows) ((laws_markIntS_m ((x).Tenants) ((laws_markIntS_m ((x).Ids) (IntKind.i64.wrap ((IntKind.i64.wrap (k + 1)) + 1))).1)).1)).2⟩ : DCharge) : DCharge))) (fun (x : DCharge) (k : Int) => (cond (((x).Segment) != k) (Sum.inl (-1)) (cond (((x).Base) != (IntKind.i64.wrap (k + 1))) (Sum.inl (-1)) (cond (decide ((laws_heldIntS_m ((x).Ids) (IntKind.i64.wrap ((IntKind.i64.wrap (k + 1)) + 1))) < 0)) (Sum.inl (-1)) (cond (decide ((laws_heldIntS_m ((x).Tenants) (laws_heldIntS_m ((x).Ids) (IntKind.i64.wrap ((IntKind.i64.wrap (k + 1)) + 1)))) < 0)) (Sum.inl (-1)) (cond (decide ((laws_heldIntS_m ((x).Rows) (laws_heldIntS_m ((x).Tenants) (laws_heldIntS_m ((x).Ids) (IntKind.i64.wrap ((IntKind.i64.wrap (k + 1)) + 1))))) < 0)) (Sum.inl (-1)) (Sum.inr (laws_heldIntS_m ((x).Rows) (laws_heldIntS_m ((x).Tenants) (laws_heldIntS_m ((x).Ids) (IntKind.i64.wrap ((IntKind.i64.wrap (k + 1)) + 1)))))))))) : Int ⊕ Int)) wtCharge := ⟨fun x k h0 h1 => by
  unfold wtCharge at h1 ⊢
  have w1 : IntKind.i64.wrap (k + 1) = k + 1 := wrap_id (by omega) (by omega)
  have w2 : IntKind.i64.wrap (k + 1 + 1) = k + 1 + 1 := wrap_id (by omega) (by omega)
  obtain ⟨p3, q3, r3⟩ := laws_markIntS_ok.go x.Ids (k + 1 + 1) (by omega) (by omega)
  have d3 : decide ((laws_markIntS_m x.Ids (k + 1 + 1)).1 < 0) = false := decide_eq_false (by omega)
  obtain ⟨p4, q4, r4⟩ := laws_markIntS_ok.go x.Tenants ((laws_markIntS_m x.Ids (k + 1 + 1)).1) (by omega) (by omega)
  have d4 : decide ((laws_markIntS_m x.Tenants ((laws_markIntS_m x.Ids (k + 1 + 1)).1)).1 < 0) = false := decide_eq_false (by omega)
  obtain ⟨p5, q5, r5⟩ := laws_markIntS_ok.go x.Rows ((laws_markIntS_m x.Tenants ((laws_markIntS_m x.Ids (k + 1 + 1)).1)).1) (by omega) (by omega)
  have d5 : decide ((laws_markIntS_m x.Rows ((laws_markIntS_m x.Tenants ((laws_markIntS_m x.Ids (k + 1 + 1)).1)).1)).1 < 0) = false := decide_eq_false (by omega)
  simp only [w1, w2]
  exact ⟨by omega, by omega, by simp only [bne_self_eq_false, r3, d3, r4, d4, r5, d5, cond_false, w1, w2]⟩⟩
theorem laws_markChargeS_ok : MkF laws_markChargeS_m laws_heldChargeS_m (wtS wtCharge) := MkF_list laws_markChargeS_e (b := fun _ k s => laws_markChargeS_b1 k s.1 s.2) (hb := fun x k s => laws_heldChargeS_b1 x k s) (fun x => rfl) (fun _ _ => rfl) (fun _ _ => rfl) (fun _ _ _ => rfl) (fun _ _ _ => rfl)
theorem laws_markEngine_ok : MkF laws_markEngine_m laws_heldEngine_m wtEngine := ⟨fun x k h0 h1 => by
  unfold wtEngine at h1 ⊢
  obtain ⟨p1, q1, r1⟩ := laws_markStore_ok.go x.Store k (by omega) (by omega)
  have d1 : decide ((laws_markStore_m x.Store k).1 < 0) = false := decide_eq_false (by omega)
  have r1 : laws_heldStore_m (⟨(laws_markStore_m x.Store k).2.Segments, x.Store.Now⟩ : DStore) k = (laws_markStore_m x.Store k).1 := r1
  obtain ⟨p2, q2, r2⟩ := laws_markIntS_ok.go x.Order ((laws_markStore_m x.Store k).1) (by omega) (by omega)
  have d2 : decide ((laws_markIntS_m x.Order ((laws_markStore_m x.Store k).1)).1 < 0) = false := decide_eq_false (by omega)
  obtain ⟨p3, q3, r3⟩ := laws_markActiveS_ok.go x.Active ((laws_markIntS_m x.Order ((laws_markStore_m x.Store k).1)).1) (by omega) (by omega)
  have d3 : decide ((laws_markActiveS_m x.Active ((laws_markIntS_m x.Order ((laws_markStore_m x.Store k).1)).1)).1 < 0) = false := decide_eq_false (by omega)
  obtain ⟨p4, q4, r4⟩ := laws_markFinishedS_ok.go x.Done ((laws_markActiveS_m x.Active ((laws_markIntS_m x.Order ((laws_markStore_m x.Store k).1)).1)).1) (by omega) (by omega)
  have d4 : decide ((laws_markFinishedS_m x.Done ((laws_markActiveS_m x.Active ((laws_markIntS_m x.Order ((laws_markStore_m x.Store k).1)).1)).1)).1 < 0) = false := decide_eq_false (by omega)
  obtain ⟨p5, q5, r5⟩ := laws_markChargeS_ok.go x.Ledger ((laws_markFinishedS_m x.Done ((laws_markActiveS_m x.Active ((laws_markIntS_m x.Order ((laws_markStore_m x.Store k).1)).1)).1)).1) (by omega) (by omega)
  have d5 : decide ((laws_markChargeS_m x.Ledger ((laws_markFinishedS_m x.Done ((laws_markActiveS_m x.Active ((laws_markIntS_m x.Order ((laws_markStore_m x.Store k).1)).1)).1)).1)).1 < 0) = false := decide_eq_false (by omega)
  unfold laws_markEngine_m
  exact ⟨by dsimp only; omega, by dsimp only; omega, by simp only [laws_heldEngine_m, r1, d1, r2, d2, r3, d3, r4, d4, r5, d5, cond_false]⟩⟩
theorem laws_markQuery_ok : MkB laws_markQuery_m wtQuery := ⟨fun x k h0 h1 => by
  unfold wtQuery at h1 ⊢
  obtain ⟨p1, q1⟩ := laws_markCondS_ok.b.go x.Conds k (by omega) (by omega)
  obtain ⟨p2, q2⟩ := laws_markIntS_ok.b.go x.Out ((laws_markCondS_m x.Conds k).1) (by omega) (by omega)
  unfold laws_markQuery_m
  exact ⟨by dsimp only; omega, by dsimp only; omega⟩⟩
end Go.Proofs.YtmikmbmdibabmaaGreat

