/-
  Contracts of functions, printed by a program of ours.
-/
import Derived.Test.YtjcdginailhfmaaL9F3
namespace Go.Proofs.Ytjcdginailhfmaa
open Go.RowKit
theorem within_same (x a b : Int) : impl_within_m x a b = spec_l1In_m x a b := rfl
theorem IsRow_same (x : DRow) : impl_IsRow_m x = spec_IsRow_m x := rfl
theorem isField_same (x : Int) : impl_isField_m x = spec_l1In_m x 0 2 := rfl
theorem IsUpdate_same (x : DUpdate) : impl_IsUpdate_m x = spec_IsUpdate_m x := by
  unfold impl_IsUpdate_m spec_IsUpdate_m
  rw [IsRow_same, within_same, within_same, isField_same]
  cases spec_l1In_m x.Row.Id 0 999 <;> cases h1 : x.Kind == 1 <;> cases x.Kind == 2 <;> cases x.Kind == 3 <;> cases spec_IsRow_m x.Row <;> cases (((x.Row.Values.length : Nat) : Int) == 0) <;> rfl
def okI (now : Int) (seen : List DVersion) (v : DVersion) : Bool := spec_l7Version_m v now && seen.all fun w => !(v.Id == w.Id && impl_meetInTime_m v w)
theorem seenF_append (ok : List DVersion → DVersion → Bool) : ∀ (s t seen : List DVersion), seenF ok seen (s ++ t) = (seenF ok seen s && seenF ok (seen ++ s) t)
  | [], t, seen => by simp [seenF]
  | v :: s, t, seen => by
    show (ok seen v && seenF ok (seen ++ [v]) (s ++ t)) = _
    rw [seenF_append ok s t]
    simp [seenF, Bool.and_assoc]
theorem chkF_seen (ok : List DVersion → DVersion → Bool) : ∀ (l seen : List DVersion), chkF (fun d v => ok d v) (fun d v => d ++ [v]) l seen = cond (seenF ok seen l) (some (seen ++ l)) none
  | [], seen => by simp [chkF, seenF]
  | v :: l, seen => by
    rw [chkF, chkF_seen ok l]
    show _ = cond (ok seen v && seenF ok (seen ++ [v]) l) _ _
    cases ok seen v <;> simp
theorem impl_Store_b34 (x : DStore) (i j : Nat) (d : List DVersion) : rng (R := Bool) (fun k (_ : Unit) => impl_IsStore_b3 x i j d k) (d.length - 0) 0 () = cond (d.all fun w => !((gt (gt x.Segments i) j).Id == w.Id && impl_meetInTime_m (gt (gt x.Segments i) j) w)) (.inr ()) (.inl false) :=
  rng_allB fun k _ => by
    unfold impl_IsStore_b3
    cases (gt (gt x.Segments i) j).Id == (gt d k).Id <;> cases impl_meetInTime_m (gt (gt x.Segments i) j) (gt d k) <;> rfl
theorem impl_Store_b2 (x : DStore) (i j : Nat) (d : List DVersion) : impl_IsStore_b2 x i j d = cond (okI x.Now d (gt (gt x.Segments i) j)) (.inr (d ++ [gt (gt x.Segments i) j])) (.inl false) := by
  have h4 : (fun k (_ : Unit) => impl_IsStore_b4 x i j d k) = fun k (_ : Unit) => impl_IsStore_b3 x i j d k := rfl
  unfold impl_IsStore_b2 okI
  rw [h4, impl_Store_b34, Version_eq, impl_within_iff, impl_within_iff]
  have hr : impl_IsRow_m (impl_rowOf_m (gt (gt x.Segments i) j)) = spec_IsRow_m (⟨(gt (gt x.Segments i) j).Id, (gt (gt x.Segments i) j).Values⟩ : DRow) := rfl
  rw [hr]
  have hn : ((gt (gt x.Segments i) j).Died != (-1)) = !((gt (gt x.Segments i) j).Died == (-1)) := rfl
  rw [hn]
  cases spec_IsRow_m (⟨(gt (gt x.Segments i) j).Id, (gt (gt x.Segments i) j).Values⟩ : DRow) <;> cases decide (0 ≤ (gt (gt x.Segments i) j).Born ∧ (gt (gt x.Segments i) j).Born ≤ x.Now) <;> cases (gt (gt x.Segments i) j).Died == (-1) <;>
    cases decide (IntKind.i64.wrap ((gt (gt x.Segments i) j).Born + 1) ≤ (gt (gt x.Segments i) j).Died ∧ (gt (gt x.Segments i) j).Died ≤ x.Now) <;> cases (d.all fun w => !((gt (gt x.Segments i) j).Id == w.Id && impl_meetInTime_m (gt (gt x.Segments i) j) w)) <;> rfl
theorem impl_Store_b1 (x : DStore) (i : Nat) (d : List DVersion) : impl_IsStore_b1 x i d = cond (decide ((gt x.Segments i).length ≤ 4) && seenF (okI x.Now) d (gt x.Segments i)) (.inr (d ++ gt x.Segments i)) (.inl false) := by
  unfold impl_IsStore_b1
  rw [rng_chk (xs := gt x.Segments i) (r := false) (c := fun d v => okI x.Now d v) (f := fun d v => d ++ [v]) (fun j s _ => impl_Store_b2 x i j s), chkF_seen]
  by_cases h : (gt x.Segments i).length ≤ 4
  · rw [decide_eq_true h, decide_eq_false (show ¬ 4 < ((gt x.Segments i).length : Int) by omega)]
    cases seenF (okI x.Now) d (gt x.Segments i) <;> rfl
  · rw [decide_eq_false h, decide_eq_true (show 4 < ((gt x.Segments i).length : Int) by omega)]
    rfl
theorem chkF_segs (ok : List DVersion → DVersion → Bool) : ∀ (l : List (List DVersion)) (d : List DVersion), chkF (fun d s => decide (s.length ≤ 4) && seenF ok d s) (fun d s => d ++ s) l d = cond (l.all (fun s => decide (s.length ≤ 4)) && seenF ok d l.flatten) (some (d ++ l.flatten)) none
  | [], d => by simp [chkF, seenF]
  | s :: l, d => by
    rw [chkF, chkF_segs ok l, List.flatten_cons, seenF_append, List.all_cons]
    cases decide (s.length ≤ 4) <;> cases seenF ok d s <;> cases l.all (fun s => decide (s.length ≤ 4)) <;> simp
theorem impl_IsStore_form (x : DStore) : impl_IsStore_m x = storeB (okI x.Now) x := by
  unfold impl_IsStore_m storeB
  rw [rng_chk (xs := x.Segments) (r := false) (c := fun d s => decide (s.length ≤ 4) && seenF (okI x.Now) d s) (f := fun d s => d ++ s) (fun j s _ => impl_Store_b1 x j s), chkF_segs, impl_within_iff, impl_within_iff]
  cases decide (1 ≤ (x.Segments.length : Int) ∧ (x.Segments.length : Int) ≤ 8) <;> cases decide (0 ≤ x.Now ∧ x.Now ≤ 100000) <;> cases x.Segments.all (fun s => decide (s.length ≤ 4)) <;> cases seenF (okI x.Now) [] x.Segments.flatten <;> rfl
theorem Version_ord {v : DVersion} {now : Int} (hn : now ≤ 100000) (h : spec_l7Version_m v now = true) : 0 ≤ v.Born ∧ v.Born ≤ now ∧ (v.Died = -1 ∨ (v.Born + 1 ≤ v.Died ∧ v.Died ≤ now)) := by
  rw [Version_eq] at h
  simp only [Bool.and_eq_true, Bool.or_eq_true, decide_eq_true_eq, beq_iff_eq] at h
  obtain ⟨⟨_, h1, h2⟩, h3⟩ := h
  rw [wrap_id (by omega) (by omega)] at h3
  exact ⟨h1, h2, h3⟩
theorem Visible_eq (v : DVersion) (t : Int) : impl_IsVisible_m v t = decide (v.Born ≤ t ∧ (v.Died = -1 ∨ t < v.Died)) := by
  unfold impl_IsVisible_m
  by_cases h1 : v.Born ≤ t <;> by_cases h2 : v.Died = -1 <;> by_cases h3 : t < v.Died <;> simp [h1, h2, h3]
theorem Apart_eq (v w : DVersion) : spec_l7Apart_m v w = decide (v.Id ≠ w.Id ∨ (v.Died ≠ -1 ∧ v.Died ≤ w.Born) ∨ (w.Died ≠ -1 ∧ w.Died ≤ v.Born)) := by
  unfold spec_l7Apart_m
  by_cases h1 : v.Id = w.Id <;> by_cases h2 : v.Died = -1 <;> by_cases h3 : w.Died = -1 <;> by_cases h4 : v.Died ≤ w.Born <;> simp [h1, h2, h3, h4] <;> (try rw [h2] at h4) <;> (try simp_all) <;> (try rfl)
theorem apart_meet {v w : DVersion} {now : Int} (hn : now ≤ 100000) (hv : spec_l7Version_m v now = true) (hw : spec_l7Version_m w now = true) : spec_l7Apart_m v w = !(v.Id == w.Id && impl_meetInTime_m v w) := by
  obtain ⟨a1, a2, a3⟩ := Version_ord hn hv
  obtain ⟨b1, b2, b3⟩ := Version_ord hn hw
  have hm : impl_meetInTime_m v w = decide ((v.Born ≤ w.Born ∧ (v.Died = -1 ∨ w.Born < v.Died)) ∨ (w.Born ≤ v.Born ∧ (w.Died = -1 ∨ v.Born < w.Died))) := by
    unfold impl_meetInTime_m
    rw [Visible_eq, Visible_eq]
    by_cases h1 : (v.Born ≤ w.Born ∧ (v.Died = -1 ∨ w.Born < v.Died)) <;> by_cases h2 : (w.Born ≤ v.Born ∧ (w.Died = -1 ∨ v.Born < w.Died)) <;> simp [h1, h2]
  rw [hm, Apart_eq]
  have hb : (v.Id == w.Id) = decide (v.Id = w.Id) := by by_cases h : v.Id = w.Id <;> simp [h]
  rw [hb, ← Bool.decide_and, ← decide_not]
  apply decide_eq_decide.2
  omega
theorem seenF_same {now : Int} (hn : now ≤ 100000) : ∀ (l seen : List DVersion), (∀ w ∈ seen, spec_l7Version_m w now = true) → seenF (okI now) seen l = seenF (okS now) seen l
  | [], _, _ => rfl
  | v :: l, seen, hs => by
    show (okI now seen v && seenF (okI now) (seen ++ [v]) l) = (okS now seen v && seenF (okS now) (seen ++ [v]) l)
    unfold okI okS
    cases hv : spec_l7Version_m v now with
    | false => rfl
    | true =>
      have e : (seen.all fun w => !(v.Id == w.Id && impl_meetInTime_m v w)) = seen.all fun w => spec_l7Apart_m v w := by
        rw [Bool.eq_iff_iff, List.all_eq_true, List.all_eq_true]
        exact ⟨fun h w hw => by rw [apart_meet hn hv (hs w hw)]; exact h w hw, fun h w hw => by rw [← apart_meet hn hv (hs w hw)]; exact h w hw⟩
      have ih := seenF_same hn l (seen ++ [v]) (fun w hw => by
        rcases List.mem_append.1 hw with h | h
        · exact hs w h
        · rw [List.mem_singleton.1 h]; exact hv)
      unfold okI okS at ih
      rw [e, ih]
theorem IsStore_same (x : DStore) : impl_IsStore_m x = spec_IsStore_m x := by
  rw [impl_IsStore_form, spec_IsStore_form]
  unfold storeB
  by_cases h : 0 ≤ x.Now ∧ x.Now ≤ 100000
  · rw [seenF_same h.2 _ [] (fun w hw => by cases hw)]
  · rw [decide_eq_false h, Bool.and_false, Bool.false_and]
    rfl
theorem impl_Find_fact {x : DStore} (h : impl_IsStore_m x = true) (id : Int) : (impl_findAlive_m x id).1 < 0 ∨ (0 ≤ (impl_findAlive_m x id).1 ∧ (impl_findAlive_m x id).1.toNat < x.Segments.length ∧ 0 ≤ (impl_findAlive_m x id).2 ∧ (impl_findAlive_m x id).2.toNat < (gt x.Segments (impl_findAlive_m x id).1.toNat).length ∧ (gt (gt x.Segments (impl_findAlive_m x id).1.toNat) (impl_findAlive_m x id).2.toNat).Values.length = 3 ∧ (impl_findAlive_m x id).1 < (x.Segments.length : Int) ∧ (impl_findAlive_m x id).2 < ((gt x.Segments (impl_findAlive_m x id).1.toNat).length : Int)) := spec_Find_fact (by rw [← IsStore_same]; exact h) id
theorem impl_Update_fact {u : DUpdate} (h : impl_IsUpdate_m u = true) : (u.Kind = 1 ∨ u.Kind = 2 ∨ u.Kind = 3) ∧ (u.Kind = 3 → 0 ≤ u.Field ∧ u.Field ≤ 2) ∧ (u.Kind = 1 → u.Row.Values.length = 3) ∧ (u.Kind ≠ 1 → u.Row.Values.length = 0) := spec_Update_fact (by rw [← IsUpdate_same]; exact h)
abbrev impl_ApplyUpdate_v1 (x0 : DStore) (x1 : DUpdate) : (List DVersion) :=
  ((gt x0.Segments (((impl_findAlive_m x0 x1.Row.Id).1).toNat)).set (((impl_findAlive_m x0 x1.Row.Id).2).toNat) (⟨(gt (gt x0.Segments (((impl_findAlive_m x0 x1.Row.Id).1).toNat)) (((impl_findAlive_m x0 x1.Row.Id).2).toNat)).Id, (gt (gt x0.Segments (((impl_findAlive_m x0 x1.Row.Id).1).toNat)) (((impl_findAlive_m x0 x1.Row.Id).2).toNat)).Values, (gt (gt x0.Segments (((impl_findAlive_m x0 x1.Row.Id).1).toNat)) (((impl_findAlive_m x0 x1.Row.Id).2).toNat)).Born, (IntKind.i64.wrap (x0.Now + 1))⟩ : DVersion))
abbrev impl_ApplyUpdate_v2 (x0 : DStore) (x1 : DUpdate) (k92 : Nat) : (List DVersion) :=
  ((gt (x0.Segments.set (((impl_findAlive_m x0 x1.Row.Id).1).toNat) (impl_ApplyUpdate_v1 x0 x1)) k92) ++ [(⟨x1.Row.Id, (((gt (gt x0.Segments (((impl_findAlive_m x0 x1.Row.Id).1).toNat)) (((impl_findAlive_m x0 x1.Row.Id).2).toNat)).Values).set (x1.Field.toNat) x1.Value), (IntKind.i64.wrap (x0.Now + 1)), (-1)⟩ : DVersion)])
def impl_ApplyUpdate_b1 (x0 : DStore) (x1 : DUpdate) (k92 : Nat) : (DStore × Bool) ⊕ (Unit) :=
  cond (decide ((((gt (x0.Segments.set (((impl_findAlive_m x0 x1.Row.Id).1).toNat) (impl_ApplyUpdate_v1 x0 x1)) k92).length : Nat) : Int) < 4)) (Sum.inl ((⟨((x0.Segments.set (((impl_findAlive_m x0 x1.Row.Id).1).toNat) (impl_ApplyUpdate_v1 x0 x1)).set k92 (impl_ApplyUpdate_v2 x0 x1 k92)), (IntKind.i64.wrap (x0.Now + 1))⟩ : DStore), true)) (Sum.inr ())
abbrev impl_ApplyUpdate_v3 (x0 : DStore) (x1 : DUpdate) (k122 : Nat) : (List DVersion) :=
  ((gt (x0.Segments.set (((impl_findAlive_m x0 x1.Row.Id).1).toNat) (impl_ApplyUpdate_v1 x0 x1)) k122) ++ [(⟨x1.Row.Id, ((gt (gt x0.Segments (((impl_findAlive_m x0 x1.Row.Id).1).toNat)) (((impl_findAlive_m x0 x1.Row.Id).2).toNat)).Values), (IntKind.i64.wrap (x0.Now + 1)), (-1)⟩ : DVersion)])
def impl_ApplyUpdate_b2 (x0 : DStore) (x1 : DUpdate) (k122 : Nat) : (DStore × Bool) ⊕ (Unit) :=
  cond (decide ((((gt (x0.Segments.set (((impl_findAlive_m x0 x1.Row.Id).1).toNat) (impl_ApplyUpdate_v1 x0 x1)) k122).length : Nat) : Int) < 4)) (Sum.inl ((⟨((x0.Segments.set (((impl_findAlive_m x0 x1.Row.Id).1).toNat) (impl_ApplyUpdate_v1 x0 x1)).set k122 (impl_ApplyUpdate_v3 x0 x1 k122)), (IntKind.i64.wrap (x0.Now + 1))⟩ : DStore), true)) (Sum.inr ())
def impl_ApplyUpdate_b3 (x0 : DStore) (x1 : DUpdate) (k155 : Nat) : (DStore × Bool) ⊕ (Unit) :=
  cond (decide ((((gt x0.Segments k155).length : Nat) : Int) < 4)) (Sum.inl ((⟨(x0.Segments.set k155 ((gt x0.Segments k155) ++ [(⟨x1.Row.Id, (x1.Row.Values.set (x1.Field.toNat) x1.Value), (IntKind.i64.wrap (x0.Now + 1)), (-1)⟩ : DVersion)])), (IntKind.i64.wrap (x0.Now + 1))⟩ : DStore), true)) (Sum.inr ())
def impl_ApplyUpdate_b4 (x0 : DStore) (x1 : DUpdate) (k186 : Nat) : (DStore × Bool) ⊕ (Unit) :=
  cond (decide ((((gt x0.Segments k186).length : Nat) : Int) < 4)) (Sum.inl ((⟨(x0.Segments.set k186 ((gt x0.Segments k186) ++ [(⟨x1.Row.Id, x1.Row.Values, (IntKind.i64.wrap (x0.Now + 1)), (-1)⟩ : DVersion)])), (IntKind.i64.wrap (x0.Now + 1))⟩ : DStore), true)) (Sum.inr ())
def impl_ApplyUpdate_m (x0 : DStore) (x1 : DUpdate) : (DStore × Bool) :=
  cond (impl_IsStore_m x0) (cond (impl_IsUpdate_m x1) (cond (x0.Now == 100000) (x0, false) (cond ((decide (0 ≤ ((impl_findAlive_m x0 x1.Row.Id).1))) == (x1.Kind == 1)) (x0, false) (cond (decide (0 ≤ ((impl_findAlive_m x0 x1.Row.Id).1))) (cond (x1.Kind == 3) (cond (x1.Kind == 2) ((⟨(x0.Segments.set (((impl_findAlive_m x0 x1.Row.Id).1).toNat) (impl_ApplyUpdate_v1 x0 x1)), (IntKind.i64.wrap (x0.Now + 1))⟩ : DStore), true) (Sum.elim id (fun (s : Unit) => (x0, false)) (rng (R := (DStore × Bool)) (fun k (_ : Unit) => impl_ApplyUpdate_b1 x0 x1 k) (x0.Segments.length - 0) 0 ()))) (cond (x1.Kind == 2) ((⟨(x0.Segments.set (((impl_findAlive_m x0 x1.Row.Id).1).toNat) (impl_ApplyUpdate_v1 x0 x1)), (IntKind.i64.wrap (x0.Now + 1))⟩ : DStore), true) (Sum.elim id (fun (s : Unit) => (x0, false)) (rng (R := (DStore × Bool)) (fun k (_ : Unit) => impl_ApplyUpdate_b2 x0 x1 k) (x0.Segments.length - 0) 0 ())))) (cond (x1.Kind == 3) (cond (x1.Kind == 2) ((⟨x0.Segments, (IntKind.i64.wrap (x0.Now + 1))⟩ : DStore), true) (Sum.elim id (fun (s : Unit) => (x0, false)) (rng (R := (DStore × Bool)) (fun k (_ : Unit) => impl_ApplyUpdate_b3 x0 x1 k) (x0.Segments.length - 0) 0 ()))) (cond (x1.Kind == 2) ((⟨x0.Segments, (IntKind.i64.wrap (x0.Now + 1))⟩ : DStore), true) (Sum.elim id (fun (s : Unit) => (x0, false)) (rng (R := (DStore × Bool)) (fun k (_ : Unit) => impl_ApplyUpdate_b4 x0 x1 k) (x0.Segments.length - 0) 0 ()))))))) (x0, false)) (x0, false)
set_option maxRecDepth 100000 in
theorem cb45 : Cb Try.prog 45 := ⟨Try.f45, _, Try.func45, rfl, by decide⟩
set_option maxRecDepth 10000 in
set_option maxHeartbeats 4000000 in
theorem impl_ApplyUpdate_c (w : World) (z0 : List Value) (x0 : DStore) (z1 : List Value) (x1 : DUpdate) (r_0 : tyStore.rd w w.heap.size z0 x0) (r_1 : tyUpdate.rd w w.heap.size z1 x1) (s_0 : smStore 68719476736 x0) (s_1 : smUpdate 68719476736 x1) :
    Calls Try.prog 45 #[.agg z0.toArray, .agg z1.toArray] w fun e w' => ∃ v : List Value, e = .returned (.tuple #[.agg v.toArray, .bool ((impl_ApplyUpdate_m x0 x1).2)]) ∧ Mem w.heap.size w [iOwn tyStore v (impl_ApplyUpdate_m x0 x1).1] w' := by
  obtain ⟨v1, rfl, r2⟩ := tyStore_rd r_0
  have r7 := r2
  obtain ⟨m3, A4, c5, rfl, q6⟩ := r2
  obtain ⟨v8, rfl, r9⟩ := tyUpdate_rd r_1
  have r14 := r9
  obtain ⟨m10, A11, c12, rfl, q13⟩ := r9
  have l15 : x0.Segments.length ≤ 68719476736 := s_0.1
  have l16 : x1.Row.Values.length ≤ 68719476736 := s_1
  refine call_enterM (L := [(0, .agg #[.slice A4 x0.Segments.length c5, .int .i64 x0.Now]), (1, .agg #[.int .i64 x1.Kind, .int .i64 x1.Row.Id, .slice A11 x1.Row.Values.length c12, .int .i64 x1.Field, .int .i64 x1.Value])]) (N := 115) Try.func45 rfl rfl (Nat.le_of_ble_eq_true rfl) (argsL_cons rfl (argsL_cons rfl argsL_nil)) ?_
  refine sr ?_
  refine WM_box rfl (Wd_none rfl) (by decide) (fun p17 => ?_)
  refine WM_box rfl (Wd_none rfl) (by decide) (fun p18 => ?_)
  refine WM_alloc Try.type45 rfl (Wd_none rfl) (by decide) (fun p19 => ?_)
  refine wa ?_
  refine nt' ?_
  refine sr ?_
  refine wv (fun W hm => rv_loadN (cs := [.slice A4 x0.Segments.length c5, .int .i64 x0.Now]) Try.underlying45 Try.type45 rfl rfl (hm.boxCells (n := 2) rfl)) ?_
  refine WM_call (χ := List Value) (val := fun x => .agg x.toArray) (js := fun x => [iOwn tyStore x x0]) (cl_fn cb72 rfl) (fun W hm => impl_copyStore_c2 W _ x0 (tyStore_mk (x := x0) (hm.rdS0 r7)) s_0) (Wd_none rfl) (by decide) (fun z20 => ?_)
  refine WM_split (γ := Value) (js := fun g => [iOwn (tSl (tSl tyVersion 102) 100) [g] x0.Segments]) (C := fun g => z20 = [g, .int .i64 x0.Now]) (fun _ _ h => tyStore_split h) ?_
  rintro v21 rfl
  refine WM_form (n := 0) rfl ?_
  rintro A22 c23 rfl m24
  refine WM_alloc Try.type45 rfl (Wd_none rfl) (by decide) (fun p26 => ?_)
  refine WM_storeBox (p := p26) (o := 0) (cs := [.slice none 0 0, .int .i64 0]) (cs' := [.slice A22 x0.Segments.length c23, .int .i64 x0.Now]) (js := [iOwn (tSl (tSl tyVersion 102) 100) [.slice A22 x0.Segments.length c23] x0.Segments, iBox p19 45 [.slice none 0 0, .int .i64 0], iBox p18 71 [.int .i64 x1.Kind, .int .i64 x1.Row.Id, .slice A11 x1.Row.Values.length c12, .int .i64 x1.Field, .int .i64 x1.Value], iBox p17 45 [.slice A4 x0.Segments.length c5, .int .i64 x0.Now]]) (fun W hm => hm) Try.type45 rfl (Nat.le_of_ble_eq_true rfl) rfl rfl rfl rfl (Wd_none rfl) ?_
  refine nt' ?_
  refine CM_seq ?_
  refine sr ?_
  refine wv (fun W hm => rv_loadN (cs := [.slice A4 x0.Segments.length c5, .int .i64 x0.Now]) Try.underlying45 Try.type45 rfl rfl (hm.boxCells (n := 4) rfl)) ?_
  refine WM_callV (cl_fn cb73 rfl) (fun W hm => impl_IsStore_c W _ x0 (tyStore_mk (x := x0) (hm.rdS0 r7)) s_0) (Wd_none rfl) (by decide) ?_
  refine wv (fun W hm => rv_not rfl) ?_
  refine wm ?_
  rcases Bool.eq_false_or_eq_true (impl_IsStore_m x0) with g28 | g28
  ·
    have hst := g28
    refine wg (fun W hm => rv_loadN (cs := [.int .i64 x1.Kind, .int .i64 x1.Row.Id, .slice A11 x1.Row.Values.length c12, .int .i64 x1.Field, .int .i64 x1.Value]) Try.underlying71 Try.type71 rfl rfl (hm.boxCells (n := 3) rfl)) (nt g28) ?_
    refine WM_callV (cl_fn cb93 rfl) (fun W hm => impl_IsUpdate_c W _ x1 (tyUpdate_mk (x := x1) (hm.rdS0 r14))) (Wd_some rfl rfl rfl (bw (nt g28) rfl)) (by decide) ?_
    refine wg (fun W hm => rv_not rfl) (nt g28) ?_
    refine wv (fun W hm => rv_pickF rfl (nt g28) rfl) ?_
    refine wm ?_
    rcases Bool.eq_false_or_eq_true (impl_IsUpdate_m x1) with g30 | g30
    ·
      obtain ⟨hu1, hu2, hu3, hu4⟩ := impl_Update_fact g30
      refine wg (fun W hm => rv_field Try.underlying45 rfl Try.type3 (by decide) rfl rfl) (nt g30) ?_
      refine wg (fun W hm => rv_load Try.underlying3 rfl rfl (hm.boxCell (n := 4) (o := 1) rfl rfl)) (nt g30) ?_
      refine wg (fun W hm => rv_eql rfl rfl) (nt g30) ?_
      refine wv (fun W hm => rv_pickF rfl (nt g30) rfl) ?_
      refine nt' ?_
      by_cases h31 : x0.Now = 100000
      · have g32 : (x0.Now == 100000) = true := beq_iff_eq.2 h31
        refine CM_condT rfl g32 ?_
        refine sr ?_
        refine wv (fun W hm => rv_loadN (cs := [.slice A22 x0.Segments.length c23, .int .i64 x0.Now]) Try.underlying45 Try.type45 rfl rfl (hm.boxCells (n := 0) rfl)) ?_
        refine WM_storeBox (p := p19) (o := 0) (cs := [.slice none 0 0, .int .i64 0]) (cs' := [.slice A22 x0.Segments.length c23, .int .i64 x0.Now]) (js := [iBox p26 45 [.slice A22 x0.Segments.length c23, .int .i64 x0.Now], iOwn (tSl (tSl tyVersion 102) 100) [.slice A22 x0.Segments.length c23] x0.Segments, iBox p18 71 [.int .i64 x1.Kind, .int .i64 x1.Row.Id, .slice A11 x1.Row.Values.length c12, .int .i64 x1.Field, .int .i64 x1.Value], iBox p17 45 [.slice A4 x0.Segments.length c5, .int .i64 x0.Now]]) (fun W hm => (hm.pick [2, 0, 1, 3, 4] (by decide))) Try.type45 rfl (Nat.le_of_ble_eq_true rfl) rfl rfl rfl rfl (Wd_none rfl) ?_
        refine wa ?_
        refine nt' ?_
        refine CM_ret ?_
        refine QM_then_ret ?_
        refine QM_r2 rfl (RR_cell (n := 0) rfl rfl Try.underlying45 Try.type45 rfl) (RR_tmp rfl) (fun W hm => ⟨[.slice A22 x0.Segments.length c23, .int .i64 x0.Now], ?_, ?_⟩)
        · first | rw [(show impl_ApplyUpdate_m x0 x1 = (x0, false) from by unfold impl_ApplyUpdate_m; exact cond_t g28 (cond_t g30 (cond_t g32 (rfl))))] | rfl
        · rw [(show impl_ApplyUpdate_m x0 x1 = (x0, false) from by unfold impl_ApplyUpdate_m; exact cond_t g28 (cond_t g30 (cond_t g32 (rfl))))]; exact Mem.join (is := [iOwn (tSl (tSl tyVersion 102) 100) [.slice A22 x0.Segments.length c23] x0.Segments]) (js := []) (fun _ _ hs => tyStore_join (x := x0) hs) (hm.pick [2] (by decide))
      · have g32 : (x0.Now == 100000) = false := beq_eq_false_iff_ne.2 h31
        refine CM_condF rfl g32 ?_
        refine CM_skip ?_
        refine QM_then ?_
        refine sr ?_
        refine wv (fun W hm => rv_loadN (cs := [.slice A4 x0.Segments.length c5, .int .i64 x0.Now]) Try.underlying45 Try.type45 rfl rfl (hm.boxCells (n := 4) rfl)) ?_
        refine wv (fun W hm => rv_field Try.underlying71 rfl Try.type69 (by decide) rfl rfl) ?_
        refine wv (fun W hm => rv_fieldA (o := 1) Try.underlying69 rfl Try.type3 (by decide) rfl rfl) ?_
        refine wv (fun W hm => rv_load Try.underlying3 rfl rfl (hm.boxCell (n := 3) (o := 1) rfl rfl)) ?_
        refine WM_callV (cl_fn cb94 rfl) (fun W hm => impl_findAlive_c W _ x0 x1.Row.Id (tyStore_mk (x := x0) (hm.rdS0 r7))) (Wd_none rfl) (by decide) ?_
        have hf := impl_Find_fact (x := x0) hst x1.Row.Id
        refine wm ?_
        refine wv (fun W hm => rv_extract rfl rfl) ?_
        refine wv (fun W hm => rv_extract rfl rfl) ?_
        refine wa ?_
        refine wa ?_
        refine nt' ?_
        refine CM_seq ?_
        refine sr ?_
        refine wm ?_
        refine wv (fun W hm => rv_geq rfl rfl) ?_
        refine wv (fun W hm => rv_field Try.underlying71 rfl Try.type3 (by decide) rfl rfl) ?_
        refine wv (fun W hm => rv_load Try.underlying3 rfl rfl (hm.boxCell (n := 3) (o := 0) rfl rfl)) ?_
        refine wv (fun W hm => rv_eql rfl rfl) ?_
        refine wv (fun W hm => rv_eqlB Try.underlying4 rfl rfl) ?_
        refine nt' ?_
        rcases Bool.eq_false_or_eq_true ((decide (0 ≤ ((impl_findAlive_m x0 x1.Row.Id).1))) == (x1.Kind == 1)) with g34 | g34
        ·
          refine CM_condT rfl g34 ?_
          refine sr ?_
          refine wv (fun W hm => rv_loadN (cs := [.slice A22 x0.Segments.length c23, .int .i64 x0.Now]) Try.underlying45 Try.type45 rfl rfl (hm.boxCells (n := 0) rfl)) ?_
          refine WM_storeBox (p := p19) (o := 0) (cs := [.slice none 0 0, .int .i64 0]) (cs' := [.slice A22 x0.Segments.length c23, .int .i64 x0.Now]) (js := [iBox p26 45 [.slice A22 x0.Segments.length c23, .int .i64 x0.Now], iOwn (tSl (tSl tyVersion 102) 100) [.slice A22 x0.Segments.length c23] x0.Segments, iBox p18 71 [.int .i64 x1.Kind, .int .i64 x1.Row.Id, .slice A11 x1.Row.Values.length c12, .int .i64 x1.Field, .int .i64 x1.Value], iBox p17 45 [.slice A4 x0.Segments.length c5, .int .i64 x0.Now]]) (fun W hm => (hm.pick [2, 0, 1, 3, 4] (by decide))) Try.type45 rfl (Nat.le_of_ble_eq_true rfl) rfl rfl rfl rfl (Wd_none rfl) ?_
          refine wa ?_
          refine nt' ?_
          refine CM_ret ?_
          refine QM_then_ret ?_
          refine QM_r2 rfl (RR_cell (n := 0) rfl rfl Try.underlying45 Try.type45 rfl) (RR_tmp rfl) (fun W hm => ⟨[.slice A22 x0.Segments.length c23, .int .i64 x0.Now], ?_, ?_⟩)
          · first | rw [(show impl_ApplyUpdate_m x0 x1 = (x0, false) from by unfold impl_ApplyUpdate_m; exact cond_t g28 (cond_t g30 (cond_f g32 (cond_t g34 (rfl)))))] | rfl
          · rw [(show impl_ApplyUpdate_m x0 x1 = (x0, false) from by unfold impl_ApplyUpdate_m; exact cond_t g28 (cond_t g30 (cond_f g32 (cond_t g34 (rfl)))))]; exact Mem.join (is := [iOwn (tSl (tSl tyVersion 102) 100) [.slice A22 x0.Segments.length c23] x0.Segments]) (js := []) (fun _ _ hs => tyStore_join (x := x0) hs) (hm.pick [2] (by decide))
        ·
          have hne := beq_dec g34
          refine CM_condF rfl g34 ?_
          refine CM_skip ?_
          refine QM_then ?_
          refine sr ?_
          refine wv (fun W hm => rv_field Try.underlying45 rfl Try.type3 (by decide) rfl rfl) ?_
          refine wv (fun W hm => rv_load Try.underlying3 rfl rfl (hm.boxCell (n := 0) (o := 1) rfl rfl)) ?_
          refine wv (fun W hm => rv_add rfl rfl) ?_
          refine wv (fun W hm => rv_field Try.underlying45 rfl Try.type3 (by decide) rfl rfl) ?_
          refine WM_storeBox (p := p26) (o := 1) (cs := [.slice A22 x0.Segments.length c23, .int .i64 x0.Now]) (cs' := [.slice A22 x0.Segments.length c23, .int .i64 (IntKind.i64.wrap (x0.Now + 1))]) (js := [iOwn (tSl (tSl tyVersion 102) 100) [.slice A22 x0.Segments.length c23] x0.Segments, iBox p19 45 [.slice none 0 0, .int .i64 0], iBox p18 71 [.int .i64 x1.Kind, .int .i64 x1.Row.Id, .slice A11 x1.Row.Values.length c12, .int .i64 x1.Field, .int .i64 x1.Value], iBox p17 45 [.slice A4 x0.Segments.length c5, .int .i64 x0.Now]]) (fun W hm => hm) Try.type3 rfl (Nat.le_of_ble_eq_true rfl) rfl rfl rfl rfl (Wd_none rfl) ?_
          refine nt' ?_
          refine sr ?_
          refine wv (fun W hm => rv_field Try.underlying71 rfl Try.type69 (by decide) rfl rfl) ?_
          refine wv (fun W hm => rv_fieldA (o := 2) Try.underlying69 rfl Try.type33 (by decide) rfl rfl) ?_
          refine wv (fun W hm => rv_load Try.underlying33 rfl rfl (hm.boxCell (n := 3) (o := 2) rfl rfl)) ?_
          refine WM_call (χ := Value) (val := fun x => x) (js := fun x => [iOwn (tSl tInt 3) [x] x1.Row.Values]) (cl_fn cb95 rfl) (fun W hm => impl_copyInts_c2 W _ x1.Row.Values (hm.rdS0 r14) s_1) (Wd_none rfl) (by decide) (fun z35 => ?_)
          refine WM_form (n := 0) rfl ?_
          rintro A36 c37 rfl m38
          refine wa ?_
          refine nt' ?_
          refine CM_seq ?_
          refine sr ?_
          refine wm ?_
          refine wv (fun W hm => rv_geq rfl rfl) ?_
          refine nt' ?_
          by_cases h40 : 0 ≤ ((impl_findAlive_m x0 x1.Row.Id).1)
          · have g41 : (decide (0 ≤ ((impl_findAlive_m x0 x1.Row.Id).1))) = true := decide_eq_true h40
            obtain ⟨hf1, hf2, hf3, hf4, hf5, hf6, hf7⟩ := hf.resolve_left (by omega); clear hf
            refine CM_condT rfl g41 ?_
            refine CM_seq ?_
            refine CM_formO (n := 2) rfl (by omega) ?_
            rintro g42 rfl
            refine CM_focus (E := (tSl tyVersion 102)) (e := 100) (A := (some ⟨g42, 0, none⟩)) (n := x0.Segments.length) (c := c23) (xs := x0.Segments) (k := (((impl_findAlive_m x0 x1.Row.Id).1).toNat)) (js := [iOwn (tSl tInt 3) [.slice A36 x1.Row.Values.length c37] x1.Row.Values, iBox p26 45 [.slice (some ⟨g42, 0, none⟩) x0.Segments.length c23, .int .i64 (IntKind.i64.wrap (x0.Now + 1))], iBox p19 45 [.slice none 0 0, .int .i64 0], iBox p18 71 [.int .i64 x1.Kind, .int .i64 x1.Row.Id, .slice A11 x1.Row.Values.length c12, .int .i64 x1.Field, .int .i64 x1.Value], iBox p17 45 [.slice A4 x0.Segments.length c5, .int .i64 x0.Now]]) (by omega) (fun W hm => (hm.pick [2, 0, 1, 3, 4, 5] (by decide))) (fun ck43 => ?_)
            refine CM_split (γ := Value) (js := fun g => [iOwn (tSl tyVersion 102) [g] (gt x0.Segments (((impl_findAlive_m x0 x1.Row.Id).1).toNat))]) (C := fun g => ck43 = [g]) (fun _ _ h => tSl_split h) ?_
            rintro v44 rfl
            refine CM_form (n := 0) rfl ?_
            rintro A45 c46 rfl m47
            refine CM_formO (n := 0) rfl (by omega) ?_
            rintro g49 rfl
            refine CM_regionB (n := 11) (listed := #[false, false, false, false, false, false, false, false, false, false, false]) (s := [iFoc (tSl tyVersion 102) 100 (some ⟨g42, 0, none⟩) x0.Segments.length c23 x0.Segments (((impl_findAlive_m x0 x1.Row.Id).1).toNat) [.slice (some ⟨g49, 0, none⟩) (gt x0.Segments (((impl_findAlive_m x0 x1.Row.Id).1).toNat)).length c46], iOwn (tSl tInt 3) [.slice A36 x1.Row.Values.length c37] x1.Row.Values, iBox p26 45 [.slice (some ⟨g42, 0, none⟩) x0.Segments.length c23, .int .i64 (IntKind.i64.wrap (x0.Now + 1))], iBox p19 45 [.slice none 0 0, .int .i64 0], iBox p18 71 [.int .i64 x1.Kind, .int .i64 x1.Row.Id, .slice A11 x1.Row.Values.length c12, .int .i64 x1.Field, .int .i64 x1.Value], iBox p17 45 [.slice A4 x0.Segments.length c5, .int .i64 x0.Now]]) (by kernel_rfl) rfl (by kernel_rfl) (fun W hm => (hm.pick [1, 2, 3, 4, 5, 6] (by decide))) ?_
            refine QB_take 0 (listed' := #[true, false, false, false, false, false, false, false, false, false, false]) (by kernel_rfl) rfl (by kernel_rfl) (by kernel_rfl) (by kernel_rfl) (fun _ _ _ h => h) (fun W hm => rv_field Try.underlying45 rfl Try.type43 (by decide) rfl rfl) (Wd_none rfl) rfl (by decide) ?_
            refine QB_take 1 (listed' := #[true, true, false, false, false, false, false, false, false, false, false]) (by kernel_rfl) rfl (by kernel_rfl) (by kernel_rfl) (by kernel_rfl) (fun _ _ _ h => h) (fun W hm => rv_load Try.underlying43 rfl rfl (hm.boxCell (n := 2) (o := 0) rfl rfl)) (Wd_none rfl) rfl (by decide) ?_
            refine QB_take 2 (listed' := #[true, true, true, false, false, false, false, false, false, false, false]) (by kernel_rfl) rfl (by kernel_rfl) (by kernel_rfl) (by kernel_rfl) (fun _ _ _ h => h) (fun W hm => rv_move rfl) (Wd_none rfl) rfl (by decide) ?_
            refine QB_take 3 (listed' := #[true, true, true, true, false, false, false, false, false, false, false]) (by kernel_rfl) rfl (by kernel_rfl) (by kernel_rfl) (by kernel_rfl) (fun _ _ _ h => h) (fun W hm => rv_indexI (sz := 1) (k := (impl_findAlive_m x0 x1.Row.Id).1) Try.underlying43 Try.type100 rfl rfl rfl (by omega) (by omega)) (Wd_none rfl) rfl (by decide) ?_
            refine QB_take 4 (listed' := #[true, true, true, true, true, false, false, false, false, false, false]) (by kernel_rfl) rfl (by kernel_rfl) (by kernel_rfl) (by kernel_rfl) (fun _ _ _ h => h) (fun W hm => rv_load Try.underlying100 rfl rfl (hm.focInt (i := 0) rfl rfl)) (Wd_none rfl) rfl (by decide) ?_
            refine QB_take 5 (listed' := #[true, true, true, true, true, true, false, false, false, false, false]) (by kernel_rfl) rfl (by kernel_rfl) (by kernel_rfl) (by kernel_rfl) (fun _ _ _ h => h) (fun W hm => rv_move rfl) (Wd_none rfl) rfl (by decide) ?_
            refine QB_take 6 (listed' := #[true, true, true, true, true, true, true, false, false, false, false]) (by kernel_rfl) rfl (by kernel_rfl) (by kernel_rfl) (by kernel_rfl) (fun _ _ _ h => h) (fun W hm => rv_field Try.underlying45 rfl Try.type3 (by decide) rfl rfl) (Wd_none rfl) rfl (by decide) ?_
            refine QB_take 7 (listed' := #[true, true, true, true, true, true, true, true, false, false, false]) (by kernel_rfl) rfl (by kernel_rfl) (by kernel_rfl) (by kernel_rfl) (fun _ _ _ h => h) (fun W hm => rv_load Try.underlying3 rfl rfl (hm.boxCell (n := 2) (o := 1) rfl rfl)) (Wd_none rfl) rfl (by decide) ?_
            refine QB_take 8 (listed' := #[true, true, true, true, true, true, true, true, true, false, false]) (by kernel_rfl) rfl (by kernel_rfl) (by kernel_rfl) (by kernel_rfl) (fun _ _ _ h => h) (fun W hm => rv_indexI (sz := 4) (k := (impl_findAlive_m x0 x1.Row.Id).2) Try.underlying100 Try.type102 rfl rfl rfl (by omega) (by omega)) (Wd_none rfl) rfl (by decide) ?_
            refine QB_take 9 (listed' := #[true, true, true, true, true, true, true, true, true, true, false]) (by kernel_rfl) rfl (by kernel_rfl) (by kernel_rfl) (by kernel_rfl) (fun _ _ _ h => h) (fun W hm => rv_field Try.underlying102 rfl Try.type3 (by decide) rfl rfl) (Wd_none rfl) rfl (by decide) ?_
            refine QB_one 10 (listed' := #[true, true, true, true, true, true, true, true, true, true, true]) (by kernel_rfl) rfl (by kernel_rfl) ?_
            refine WM_focus (E := tyVersion) (e := 102) (A := (some ⟨g49, 0, none⟩)) (n := (gt x0.Segments (((impl_findAlive_m x0 x1.Row.Id).1).toNat)).length) (c := c46) (xs := (gt x0.Segments (((impl_findAlive_m x0 x1.Row.Id).1).toNat))) (k := (((impl_findAlive_m x0 x1.Row.Id).2).toNat)) (js := [iFoc (tSl tyVersion 102) 100 (some ⟨g42, 0, none⟩) x0.Segments.length c23 x0.Segments (((impl_findAlive_m x0 x1.Row.Id).1).toNat) [.slice (some ⟨g49, 0, none⟩) (gt x0.Segments (((impl_findAlive_m x0 x1.Row.Id).1).toNat)).length c46], iOwn (tSl tInt 3) [.slice A36 x1.Row.Values.length c37] x1.Row.Values, iBox p26 45 [.slice (some ⟨g42, 0, none⟩) x0.Segments.length c23, .int .i64 (IntKind.i64.wrap (x0.Now + 1))], iBox p19 45 [.slice none 0 0, .int .i64 0], iBox p18 71 [.int .i64 x1.Kind, .int .i64 x1.Row.Id, .slice A11 x1.Row.Values.length c12, .int .i64 x1.Field, .int .i64 x1.Value], iBox p17 45 [.slice A4 x0.Segments.length c5, .int .i64 x0.Now]]) (by omega) (fun W hm => hm) (fun ck50 => ?_)
            refine WM_split (γ := Value) (js := fun g => [iOwn (tSl tInt 3) [g] ((gt (gt x0.Segments (((impl_findAlive_m x0 x1.Row.Id).1).toNat)) (((impl_findAlive_m x0 x1.Row.Id).2).toNat)).Values)]) (C := fun g => ck50 = [.int .i64 ((gt (gt x0.Segments (((impl_findAlive_m x0 x1.Row.Id).1).toNat)) (((impl_findAlive_m x0 x1.Row.Id).2).toNat)).Id), g, .int .i64 ((gt (gt x0.Segments (((impl_findAlive_m x0 x1.Row.Id).1).toNat)) (((impl_findAlive_m x0 x1.Row.Id).2).toNat)).Born), .int .i64 ((gt (gt x0.Segments (((impl_findAlive_m x0 x1.Row.Id).1).toNat)) (((impl_findAlive_m x0 x1.Row.Id).2).toNat)).Died)]) (fun _ _ h => tyVersion_split h) ?_
            rintro v51 rfl
            refine WM_form (n := 0) rfl ?_
            rintro A52 c53 rfl m54
            refine WM_storeFoc (E := tyVersion) (e := 102) (g := g49) (n := (gt x0.Segments (((impl_findAlive_m x0 x1.Row.Id).1).toNat)).length) (c := c46) (k := (((impl_findAlive_m x0 x1.Row.Id).2).toNat)) (s := 4) (o := 3) (xs := (gt x0.Segments (((impl_findAlive_m x0 x1.Row.Id).1).toNat))) (ck := [.int .i64 ((gt (gt x0.Segments (((impl_findAlive_m x0 x1.Row.Id).1).toNat)) (((impl_findAlive_m x0 x1.Row.Id).2).toNat)).Id), .slice A52 ((gt (gt x0.Segments (((impl_findAlive_m x0 x1.Row.Id).1).toNat)) (((impl_findAlive_m x0 x1.Row.Id).2).toNat)).Values).length c53, .int .i64 ((gt (gt x0.Segments (((impl_findAlive_m x0 x1.Row.Id).1).toNat)) (((impl_findAlive_m x0 x1.Row.Id).2).toNat)).Born), .int .i64 ((gt (gt x0.Segments (((impl_findAlive_m x0 x1.Row.Id).1).toNat)) (((impl_findAlive_m x0 x1.Row.Id).2).toNat)).Died)]) (ck' := [.int .i64 ((gt (gt x0.Segments (((impl_findAlive_m x0 x1.Row.Id).1).toNat)) (((impl_findAlive_m x0 x1.Row.Id).2).toNat)).Id), .slice A52 ((gt (gt x0.Segments (((impl_findAlive_m x0 x1.Row.Id).1).toNat)) (((impl_findAlive_m x0 x1.Row.Id).2).toNat)).Values).length c53, .int .i64 ((gt (gt x0.Segments (((impl_findAlive_m x0 x1.Row.Id).1).toNat)) (((impl_findAlive_m x0 x1.Row.Id).2).toNat)).Born), .int .i64 (IntKind.i64.wrap (x0.Now + 1))]) (js := [iOwn (tSl tInt 3) [.slice A52 ((gt (gt x0.Segments (((impl_findAlive_m x0 x1.Row.Id).1).toNat)) (((impl_findAlive_m x0 x1.Row.Id).2).toNat)).Values).length c53] ((gt (gt x0.Segments (((impl_findAlive_m x0 x1.Row.Id).1).toNat)) (((impl_findAlive_m x0 x1.Row.Id).2).toNat)).Values), iFoc (tSl tyVersion 102) 100 (some ⟨g42, 0, none⟩) x0.Segments.length c23 x0.Segments (((impl_findAlive_m x0 x1.Row.Id).1).toNat) [.slice (some ⟨g49, 0, none⟩) (gt x0.Segments (((impl_findAlive_m x0 x1.Row.Id).1).toNat)).length c46], iOwn (tSl tInt 3) [.slice A36 x1.Row.Values.length c37] x1.Row.Values, iBox p26 45 [.slice (some ⟨g42, 0, none⟩) x0.Segments.length c23, .int .i64 (IntKind.i64.wrap (x0.Now + 1))], iBox p19 45 [.slice none 0 0, .int .i64 0], iBox p18 71 [.int .i64 x1.Kind, .int .i64 x1.Row.Id, .slice A11 x1.Row.Values.length c12, .int .i64 x1.Field, .int .i64 x1.Value], iBox p17 45 [.slice A4 x0.Segments.length c5, .int .i64 x0.Now]]) (fun W hm => (hm.pick [1, 0, 2, 3, 4, 5, 6, 7] (by decide))) rfl rfl Try.type3 rfl (Nat.le_of_ble_eq_true rfl) rfl rfl rfl rfl (Wd_none rfl) ?_
            refine WM_nil ?_
            refine QB_next (fun W hm => (hm.pick [2, 3, 4, 5, 6, 7] (by decide))) ?_
            refine QB_done (by kernel_rfl) ?_
            refine QM_then ?_
            refine CM_region ?_
            refine wv (fun W hm => rv_field Try.underlying45 rfl Try.type43 (by decide) rfl rfl) ?_
            refine wv (fun W hm => rv_load Try.underlying43 rfl rfl (hm.boxCell (n := 7) (o := 0) rfl rfl)) ?_
            refine wm ?_
            obtain ⟨a56, rfl, hb57, he58⟩ := q6 (by omega)
            refine wv (fun W hm => rv_indexI (sz := 1) (k := (impl_findAlive_m x0 x1.Row.Id).1) Try.underlying43 Try.type100 rfl rfl rfl (by omega) (by omega)) ?_
            obtain ⟨_, e60, hc59⟩ := he58 (((impl_findAlive_m x0 x1.Row.Id).1).toNat) _ (gt_some (show (((impl_findAlive_m x0 x1.Row.Id).1).toNat) < x0.Segments.length from by omega))
            have l61 : (gt x0.Segments (((impl_findAlive_m x0 x1.Row.Id).1).toNat)).length ≤ 68719476736 := (s_0.2 _ (gt_mem (show (((impl_findAlive_m x0 x1.Row.Id).1).toNat) < x0.Segments.length from by omega))).1
            obtain ⟨v62, rfl, r63⟩ := e60
            have r68 := r63
            obtain ⟨m64, A65, c66, rfl, q67⟩ := r63
            refine wv (fun W hm => rv_load Try.underlying100 rfl rfl ((hm.cell0 (show (a56.add ((((impl_findAlive_m x0 x1.Row.Id).1).toNat) * 1)).block < w.heap.size from by rw [add_block]; exact hb57.1)).trans (hc59 0 _ rfl))) ?_
            refine wm ?_
            obtain ⟨a69, rfl, hb70, he71⟩ := q67 (by omega)
            refine wv (fun W hm => rv_indexI (sz := 4) (k := (impl_findAlive_m x0 x1.Row.Id).2) Try.underlying100 Try.type102 rfl rfl rfl (by omega) (by omega)) ?_
            refine wv (fun W hm => rv_field Try.underlying102 rfl Try.type33 (by decide) rfl rfl) ?_
            obtain ⟨_, e75, hc72⟩ := he71 (((impl_findAlive_m x0 x1.Row.Id).2).toNat) _ (gt_some (show (((impl_findAlive_m x0 x1.Row.Id).2).toNat) < ((gt x0.Segments (((impl_findAlive_m x0 x1.Row.Id).1).toNat))).length from by omega))
            obtain ⟨v73, rfl, r74⟩ := tyVersion_rd e75
            have l76 : ((gt (gt x0.Segments (((impl_findAlive_m x0 x1.Row.Id).1).toNat)) (((impl_findAlive_m x0 x1.Row.Id).2).toNat)).Values).length ≤ 68719476736 := ((s_0.2 _ (gt_mem (show (((impl_findAlive_m x0 x1.Row.Id).1).toNat) < x0.Segments.length from by omega))).2 _ (gt_mem (show (((impl_findAlive_m x0 x1.Row.Id).2).toNat) < ((gt x0.Segments (((impl_findAlive_m x0 x1.Row.Id).1).toNat))).length from by omega)))
            have r81 := r74
            obtain ⟨m77, A78, c79, rfl, q80⟩ := r74
            refine wv (fun W hm => rv_load Try.underlying33 rfl rfl ((hm.cell0 (show ((a69.add ((((impl_findAlive_m x0 x1.Row.Id).2).toNat) * 4)).add 1).block < w.heap.size from by rw [add_block, add_block]; exact hb70.1)).trans (hc72 1 _ rfl))) ?_
            refine WM_call (χ := Value) (val := fun x => x) (js := fun x => [iOwn (tSl tInt 3) [x] ((gt (gt x0.Segments (((impl_findAlive_m x0 x1.Row.Id).1).toNat)) (((impl_findAlive_m x0 x1.Row.Id).2).toNat)).Values)]) (cl_fn cb95 rfl) (fun W hm => impl_copyInts_c2 W _ ((gt (gt x0.Segments (((impl_findAlive_m x0 x1.Row.Id).1).toNat)) (((impl_findAlive_m x0 x1.Row.Id).2).toNat)).Values) (hm.rdS0 r81) ((s_0.2 _ (gt_mem (show (((impl_findAlive_m x0 x1.Row.Id).1).toNat) < x0.Segments.length from by omega))).2 _ (gt_mem (show (((impl_findAlive_m x0 x1.Row.Id).2).toNat) < ((gt x0.Segments (((impl_findAlive_m x0 x1.Row.Id).1).toNat))).length from by omega)))) (Wd_none rfl) (by decide) (fun z82 => ?_)
            refine WM_form (n := 0) rfl ?_
            rintro A83 c84 rfl m85
            refine wa ?_
            refine nt' ?_
            refine CM_seq ?_
            refine sr ?_
            refine wv (fun W hm => rv_field Try.underlying71 rfl Try.type3 (by decide) rfl rfl) ?_
            refine wv (fun W hm => rv_load Try.underlying3 rfl rfl (hm.boxCell (n := 7) (o := 0) rfl rfl)) ?_
            refine wv (fun W hm => rv_eql rfl rfl) ?_
            refine nt' ?_
            by_cases h87 : x1.Kind = 3
            · have g88 : (x1.Kind == 3) = true := beq_iff_eq.2 h87
              obtain ⟨hu5, hu6⟩ := hu2 (by assumption)
              refine CM_condT rfl g88 ?_
              refine CM_region ?_
              refine wm ?_
              refine wv (fun W hm => rv_field Try.underlying71 rfl Try.type3 (by decide) rfl rfl) ?_
              refine wv (fun W hm => rv_load Try.underlying3 rfl rfl (hm.boxCell (n := 7) (o := 3) rfl rfl)) ?_
              refine wv (fun W hm => rv_field Try.underlying71 rfl Try.type3 (by decide) rfl rfl) ?_
              refine wv (fun W hm => rv_load Try.underlying3 rfl rfl (hm.boxCell (n := 7) (o := 4) rfl rfl)) ?_
              refine WM_formO (n := 0) rfl (by omega) ?_
              rintro g89 rfl
              refine wv (fun W hm => rv_indexI (sz := 1) (k := x1.Field) Try.underlying33 Try.type3 rfl rfl rfl (by omega) (by omega)) ?_
              refine WM_setEl (E := tInt) (e := 3) (u := .int .i64 x1.Value) (k := (x1.Field.toNat)) (p := g89) (n := ((gt (gt x0.Segments (((impl_findAlive_m x0 x1.Row.Id).1).toNat)) (((impl_findAlive_m x0 x1.Row.Id).2).toNat)).Values).length) (xs := ((gt (gt x0.Segments (((impl_findAlive_m x0 x1.Row.Id).1).toNat)) (((impl_findAlive_m x0 x1.Row.Id).2).toNat)).Values)) (eis := []) (js := [iFoc tyVersion 102 (some ⟨g49, 0, none⟩) ((gt x0.Segments (((impl_findAlive_m x0 x1.Row.Id).1).toNat)).length) c46 (gt x0.Segments (((impl_findAlive_m x0 x1.Row.Id).1).toNat)) (((impl_findAlive_m x0 x1.Row.Id).2).toNat) [.int .i64 ((gt (gt x0.Segments (((impl_findAlive_m x0 x1.Row.Id).1).toNat)) (((impl_findAlive_m x0 x1.Row.Id).2).toNat)).Id), .slice A52 ((gt (gt x0.Segments (((impl_findAlive_m x0 x1.Row.Id).1).toNat)) (((impl_findAlive_m x0 x1.Row.Id).2).toNat)).Values).length c53, .int .i64 ((gt (gt x0.Segments (((impl_findAlive_m x0 x1.Row.Id).1).toNat)) (((impl_findAlive_m x0 x1.Row.Id).2).toNat)).Born), .int .i64 (IntKind.i64.wrap (x0.Now + 1))], iOwn (tSl tInt 3) [.slice A52 ((gt (gt x0.Segments (((impl_findAlive_m x0 x1.Row.Id).1).toNat)) (((impl_findAlive_m x0 x1.Row.Id).2).toNat)).Values).length c53] ((gt (gt x0.Segments (((impl_findAlive_m x0 x1.Row.Id).1).toNat)) (((impl_findAlive_m x0 x1.Row.Id).2).toNat)).Values), iFoc (tSl tyVersion 102) 100 (some ⟨g42, 0, none⟩) x0.Segments.length c23 x0.Segments (((impl_findAlive_m x0 x1.Row.Id).1).toNat) [.slice (some ⟨g49, 0, none⟩) (gt x0.Segments (((impl_findAlive_m x0 x1.Row.Id).1).toNat)).length c46], iOwn (tSl tInt 3) [.slice A36 x1.Row.Values.length c37] x1.Row.Values, iBox p26 45 [.slice (some ⟨g42, 0, none⟩) x0.Segments.length c23, .int .i64 (IntKind.i64.wrap (x0.Now + 1))], iBox p19 45 [.slice none 0 0, .int .i64 0], iBox p18 71 [.int .i64 x1.Kind, .int .i64 x1.Row.Id, .slice A11 x1.Row.Values.length c12, .int .i64 x1.Field, .int .i64 x1.Value], iBox p17 45 [.slice (some a56) x0.Segments.length c5, .int .i64 x0.Now]]) (yv := x1.Value) (fun W hm => hm) (fun _ _ hs => (Sep.nil hs ▸ tInt_own)) rfl Try.type3 rfl (by omega) rfl rfl (Wd_none rfl) ?_
              refine nt' ?_
              refine CM_seq ?_
              refine sr ?_
              refine wv (fun W hm => rv_field Try.underlying71 rfl Try.type3 (by decide) rfl rfl) ?_
              refine wv (fun W hm => rv_load Try.underlying3 rfl rfl (hm.boxCell (n := 7) (o := 0) rfl rfl)) ?_
              refine wv (fun W hm => rv_eql rfl rfl) ?_
              refine nt' ?_
              by_cases h90 : x1.Kind = 2
              · have g91 : (x1.Kind == 2) = true := beq_iff_eq.2 h90
                refine CM_condT rfl g91 ?_
                refine CM_seq ?_
                refine CM_items (fun W hm => (hm.pick [1, 2, 3, 5, 6] (by decide))) ?_
                refine CM_region ?_
                refine wv (fun W hm => rv_loadN (cs := [.slice (some ⟨g42, 0, none⟩) x0.Segments.length c23, .int .i64 (IntKind.i64.wrap (x0.Now + 1))]) Try.underlying45 Try.type45 rfl rfl (hm.boxCells (n := 3) rfl)) ?_
                refine WM_storeBox (p := p19) (o := 0) (cs := [.slice none 0 0, .int .i64 0]) (cs' := [.slice (some ⟨g42, 0, none⟩) x0.Segments.length c23, .int .i64 (IntKind.i64.wrap (x0.Now + 1))]) (js := [iFoc tyVersion 102 (some ⟨g49, 0, none⟩) ((gt x0.Segments (((impl_findAlive_m x0 x1.Row.Id).1).toNat)).length) c46 (gt x0.Segments (((impl_findAlive_m x0 x1.Row.Id).1).toNat)) (((impl_findAlive_m x0 x1.Row.Id).2).toNat) [.int .i64 ((gt (gt x0.Segments (((impl_findAlive_m x0 x1.Row.Id).1).toNat)) (((impl_findAlive_m x0 x1.Row.Id).2).toNat)).Id), .slice A52 ((gt (gt x0.Segments (((impl_findAlive_m x0 x1.Row.Id).1).toNat)) (((impl_findAlive_m x0 x1.Row.Id).2).toNat)).Values).length c53, .int .i64 ((gt (gt x0.Segments (((impl_findAlive_m x0 x1.Row.Id).1).toNat)) (((impl_findAlive_m x0 x1.Row.Id).2).toNat)).Born), .int .i64 (IntKind.i64.wrap (x0.Now + 1))], iOwn (tSl tInt 3) [.slice A52 ((gt (gt x0.Segments (((impl_findAlive_m x0 x1.Row.Id).1).toNat)) (((impl_findAlive_m x0 x1.Row.Id).2).toNat)).Values).length c53] ((gt (gt x0.Segments (((impl_findAlive_m x0 x1.Row.Id).1).toNat)) (((impl_findAlive_m x0 x1.Row.Id).2).toNat)).Values), iFoc (tSl tyVersion 102) 100 (some ⟨g42, 0, none⟩) x0.Segments.length c23 x0.Segments (((impl_findAlive_m x0 x1.Row.Id).1).toNat) [.slice (some ⟨g49, 0, none⟩) (gt x0.Segments (((impl_findAlive_m x0 x1.Row.Id).1).toNat)).length c46], iBox p26 45 [.slice (some ⟨g42, 0, none⟩) x0.Segments.length c23, .int .i64 (IntKind.i64.wrap (x0.Now + 1))]]) (fun W hm => (hm.pick [4, 0, 1, 2, 3] (by decide))) Try.type45 rfl (Nat.le_of_ble_eq_true rfl) rfl rfl rfl rfl (Wd_none rfl) ?_
                refine wa ?_
                refine nt' ?_
                refine CM_ret ?_
                refine QM_then_ret ?_
                refine QM_items (fun W hm => Mem.unfocus (Mem.join (is := [iOwn (tSl tInt 3) [.slice A52 ((gt (gt x0.Segments (((impl_findAlive_m x0 x1.Row.Id).1).toNat)) (((impl_findAlive_m x0 x1.Row.Id).2).toNat)).Values).length c53] ((gt (gt x0.Segments (((impl_findAlive_m x0 x1.Row.Id).1).toNat)) (((impl_findAlive_m x0 x1.Row.Id).2).toNat)).Values)]) (js := (iFoc tyVersion 102 (some ⟨g49, 0, none⟩) ((gt x0.Segments (((impl_findAlive_m x0 x1.Row.Id).1).toNat)).length) c46 (gt x0.Segments (((impl_findAlive_m x0 x1.Row.Id).1).toNat)) (((impl_findAlive_m x0 x1.Row.Id).2).toNat) [.int .i64 ((gt (gt x0.Segments (((impl_findAlive_m x0 x1.Row.Id).1).toNat)) (((impl_findAlive_m x0 x1.Row.Id).2).toNat)).Id), .slice A52 ((gt (gt x0.Segments (((impl_findAlive_m x0 x1.Row.Id).1).toNat)) (((impl_findAlive_m x0 x1.Row.Id).2).toNat)).Values).length c53, .int .i64 ((gt (gt x0.Segments (((impl_findAlive_m x0 x1.Row.Id).1).toNat)) (((impl_findAlive_m x0 x1.Row.Id).2).toNat)).Born), .int .i64 (IntKind.i64.wrap (x0.Now + 1))] :: [iBox p19 45 [.slice (some ⟨g42, 0, none⟩) x0.Segments.length c23, .int .i64 (IntKind.i64.wrap (x0.Now + 1))], iFoc (tSl tyVersion 102) 100 (some ⟨g42, 0, none⟩) x0.Segments.length c23 x0.Segments (((impl_findAlive_m x0 x1.Row.Id).1).toNat) [.slice (some ⟨g49, 0, none⟩) (gt x0.Segments (((impl_findAlive_m x0 x1.Row.Id).1).toNat)).length c46], iBox p26 45 [.slice (some ⟨g42, 0, none⟩) x0.Segments.length c23, .int .i64 (IntKind.i64.wrap (x0.Now + 1))]])) (fun _ _ hs => tyVersion_join (x := (⟨(gt (gt x0.Segments (((impl_findAlive_m x0 x1.Row.Id).1).toNat)) (((impl_findAlive_m x0 x1.Row.Id).2).toNat)).Id, (gt (gt x0.Segments (((impl_findAlive_m x0 x1.Row.Id).1).toNat)) (((impl_findAlive_m x0 x1.Row.Id).2).toNat)).Values, (gt (gt x0.Segments (((impl_findAlive_m x0 x1.Row.Id).1).toNat)) (((impl_findAlive_m x0 x1.Row.Id).2).toNat)).Born, (IntKind.i64.wrap (x0.Now + 1))⟩ : DVersion)) hs) (hm.pick [2, 1, 0, 3, 4] (by decide)))) ?_
                refine QM_items (fun W hm => Mem.unfocus (Mem.join (is := [iOwn (tSl tyVersion 102) [.slice (some ⟨g49, 0, none⟩) (gt x0.Segments (((impl_findAlive_m x0 x1.Row.Id).1).toNat)).length c46] (impl_ApplyUpdate_v1 x0 x1)]) (js := (iFoc (tSl tyVersion 102) 100 (some ⟨g42, 0, none⟩) x0.Segments.length c23 x0.Segments (((impl_findAlive_m x0 x1.Row.Id).1).toNat) [.slice (some ⟨g49, 0, none⟩) (gt x0.Segments (((impl_findAlive_m x0 x1.Row.Id).1).toNat)).length c46] :: [iBox p19 45 [.slice (some ⟨g42, 0, none⟩) x0.Segments.length c23, .int .i64 (IntKind.i64.wrap (x0.Now + 1))], iBox p26 45 [.slice (some ⟨g42, 0, none⟩) x0.Segments.length c23, .int .i64 (IntKind.i64.wrap (x0.Now + 1))]])) (fun _ _ hs => Sep.one hs) (hm.pick [0, 2, 1, 3] (by decide)))) ?_
                refine QM_r2 rfl (RR_cell (n := 1) rfl rfl Try.underlying45 Try.type45 rfl) (RR_tmp rfl) (fun W hm => ⟨[.slice (some ⟨g42, 0, none⟩) x0.Segments.length c23, .int .i64 (IntKind.i64.wrap (x0.Now + 1))], ?_, ?_⟩)
                · first | rw [(show impl_ApplyUpdate_m x0 x1 = ((⟨(x0.Segments.set (((impl_findAlive_m x0 x1.Row.Id).1).toNat) (impl_ApplyUpdate_v1 x0 x1)), (IntKind.i64.wrap (x0.Now + 1))⟩ : DStore), true) from by unfold impl_ApplyUpdate_m; exact cond_t g28 (cond_t g30 (cond_f g32 (cond_f g34 (cond_t g41 (cond_t g88 (cond_t g91 (rfl))))))))] | rfl
                · rw [(show impl_ApplyUpdate_m x0 x1 = ((⟨(x0.Segments.set (((impl_findAlive_m x0 x1.Row.Id).1).toNat) (impl_ApplyUpdate_v1 x0 x1)), (IntKind.i64.wrap (x0.Now + 1))⟩ : DStore), true) from by unfold impl_ApplyUpdate_m; exact cond_t g28 (cond_t g30 (cond_f g32 (cond_f g34 (cond_t g41 (cond_t g88 (cond_t g91 (rfl))))))))]; exact Mem.join (is := [iOwn (tSl (tSl tyVersion 102) 100) [.slice (some ⟨g42, 0, none⟩) x0.Segments.length c23] (x0.Segments.set (((impl_findAlive_m x0 x1.Row.Id).1).toNat) (impl_ApplyUpdate_v1 x0 x1))]) (js := []) (fun _ _ hs => tyStore_join (x := (⟨(x0.Segments.set (((impl_findAlive_m x0 x1.Row.Id).1).toNat) (impl_ApplyUpdate_v1 x0 x1)), (IntKind.i64.wrap (x0.Now + 1))⟩ : DStore)) hs) (hm.pick [0] (by decide))
              · have g91 : (x1.Kind == 2) = false := beq_eq_false_iff_ne.2 h90
                refine CM_condF rfl g91 ?_
                refine CM_skip ?_
                refine QM_then ?_
                refine CM_seq ?_
                refine sr ?_
                refine wv (fun W hm => rv_field Try.underlying45 rfl Try.type43 (by decide) rfl rfl) ?_
                refine wv (fun W hm => rv_load Try.underlying43 rfl rfl (hm.boxCell (n := 5) (o := 0) rfl rfl)) ?_
                refine wv (fun W hm => rv_len Try.underlying43 rfl) ?_
                refine wm ?_
                refine nt' ?_
                refine CM_block ?_
                refine CM_items (fun W hm => Mem.unfocus (Mem.join (is := [iOwn (tSl tInt 3) [.slice A52 ((gt (gt x0.Segments (((impl_findAlive_m x0 x1.Row.Id).1).toNat)) (((impl_findAlive_m x0 x1.Row.Id).2).toNat)).Values).length c53] ((gt (gt x0.Segments (((impl_findAlive_m x0 x1.Row.Id).1).toNat)) (((impl_findAlive_m x0 x1.Row.Id).2).toNat)).Values)]) (js := (iFoc tyVersion 102 (some ⟨g49, 0, none⟩) ((gt x0.Segments (((impl_findAlive_m x0 x1.Row.Id).1).toNat)).length) c46 (gt x0.Segments (((impl_findAlive_m x0 x1.Row.Id).1).toNat)) (((impl_findAlive_m x0 x1.Row.Id).2).toNat) [.int .i64 ((gt (gt x0.Segments (((impl_findAlive_m x0 x1.Row.Id).1).toNat)) (((impl_findAlive_m x0 x1.Row.Id).2).toNat)).Id), .slice A52 ((gt (gt x0.Segments (((impl_findAlive_m x0 x1.Row.Id).1).toNat)) (((impl_findAlive_m x0 x1.Row.Id).2).toNat)).Values).length c53, .int .i64 ((gt (gt x0.Segments (((impl_findAlive_m x0 x1.Row.Id).1).toNat)) (((impl_findAlive_m x0 x1.Row.Id).2).toNat)).Born), .int .i64 (IntKind.i64.wrap (x0.Now + 1))] :: [iOwn (tSl tInt 3) [.slice (some ⟨g89, 0, none⟩) ((gt (gt x0.Segments (((impl_findAlive_m x0 x1.Row.Id).1).toNat)) (((impl_findAlive_m x0 x1.Row.Id).2).toNat)).Values).length c84] (((gt (gt x0.Segments (((impl_findAlive_m x0 x1.Row.Id).1).toNat)) (((impl_findAlive_m x0 x1.Row.Id).2).toNat)).Values).set (x1.Field.toNat) x1.Value), iFoc (tSl tyVersion 102) 100 (some ⟨g42, 0, none⟩) x0.Segments.length c23 x0.Segments (((impl_findAlive_m x0 x1.Row.Id).1).toNat) [.slice (some ⟨g49, 0, none⟩) (gt x0.Segments (((impl_findAlive_m x0 x1.Row.Id).1).toNat)).length c46], iOwn (tSl tInt 3) [.slice A36 x1.Row.Values.length c37] x1.Row.Values, iBox p26 45 [.slice (some ⟨g42, 0, none⟩) x0.Segments.length c23, .int .i64 (IntKind.i64.wrap (x0.Now + 1))], iBox p19 45 [.slice none 0 0, .int .i64 0], iBox p18 71 [.int .i64 x1.Kind, .int .i64 x1.Row.Id, .slice A11 x1.Row.Values.length c12, .int .i64 x1.Field, .int .i64 x1.Value], iBox p17 45 [.slice (some a56) x0.Segments.length c5, .int .i64 x0.Now]])) (fun _ _ hs => tyVersion_join (x := (⟨(gt (gt x0.Segments (((impl_findAlive_m x0 x1.Row.Id).1).toNat)) (((impl_findAlive_m x0 x1.Row.Id).2).toNat)).Id, (gt (gt x0.Segments (((impl_findAlive_m x0 x1.Row.Id).1).toNat)) (((impl_findAlive_m x0 x1.Row.Id).2).toNat)).Values, (gt (gt x0.Segments (((impl_findAlive_m x0 x1.Row.Id).1).toNat)) (((impl_findAlive_m x0 x1.Row.Id).2).toNat)).Born, (IntKind.i64.wrap (x0.Now + 1))⟩ : DVersion)) hs) (hm.pick [2, 1, 0, 3, 4, 5, 6, 7, 8] (by decide)))) ?_
                refine CM_items (fun W hm => Mem.unfocus (Mem.join (is := [iOwn (tSl tyVersion 102) [.slice (some ⟨g49, 0, none⟩) (gt x0.Segments (((impl_findAlive_m x0 x1.Row.Id).1).toNat)).length c46] (impl_ApplyUpdate_v1 x0 x1)]) (js := (iFoc (tSl tyVersion 102) 100 (some ⟨g42, 0, none⟩) x0.Segments.length c23 x0.Segments (((impl_findAlive_m x0 x1.Row.Id).1).toNat) [.slice (some ⟨g49, 0, none⟩) (gt x0.Segments (((impl_findAlive_m x0 x1.Row.Id).1).toNat)).length c46] :: [iOwn (tSl tInt 3) [.slice (some ⟨g89, 0, none⟩) ((gt (gt x0.Segments (((impl_findAlive_m x0 x1.Row.Id).1).toNat)) (((impl_findAlive_m x0 x1.Row.Id).2).toNat)).Values).length c84] (((gt (gt x0.Segments (((impl_findAlive_m x0 x1.Row.Id).1).toNat)) (((impl_findAlive_m x0 x1.Row.Id).2).toNat)).Values).set (x1.Field.toNat) x1.Value), iOwn (tSl tInt 3) [.slice A36 x1.Row.Values.length c37] x1.Row.Values, iBox p26 45 [.slice (some ⟨g42, 0, none⟩) x0.Segments.length c23, .int .i64 (IntKind.i64.wrap (x0.Now + 1))], iBox p19 45 [.slice none 0 0, .int .i64 0], iBox p18 71 [.int .i64 x1.Kind, .int .i64 x1.Row.Id, .slice A11 x1.Row.Values.length c12, .int .i64 x1.Field, .int .i64 x1.Value], iBox p17 45 [.slice (some a56) x0.Segments.length c5, .int .i64 x0.Now]])) (fun _ _ hs => Sep.one hs) (hm.pick [0, 2, 1, 3, 4, 5, 6, 7] (by decide)))) ?_
                refine CM_loop (σ := Nat × (Unit) × (Unit)) (fun s => [(2, .pointer (some (⟨p17, 0, none⟩ : Addr))), (3, .pointer (some (⟨p18, 0, none⟩ : Addr))), (4, .pointer (some (⟨p19, 0, none⟩ : Addr))), (6, .pointer (some (⟨p26, 0, none⟩ : Addr))), (9, .slice (some ⟨g89, 0, none⟩) ((gt (gt x0.Segments (((impl_findAlive_m x0 x1.Row.Id).1).toNat)) (((impl_findAlive_m x0 x1.Row.Id).2).toNat)).Values).length c84), (87, .slice (some ⟨g42, 0, none⟩) x0.Segments.length c23), (88, .int .i64 ((x0.Segments.length : Nat) : Int)), (89, .int .i64 ((s.1 : Nat) : Int))]) (fun s => [iOwn (tSl (tSl tyVersion 102) 100) [.slice (some ⟨g42, 0, none⟩) x0.Segments.length c23] (x0.Segments.set (((impl_findAlive_m x0 x1.Row.Id).1).toNat) (impl_ApplyUpdate_v1 x0 x1)), iOwn (tSl tInt 3) [.slice (some ⟨g89, 0, none⟩) ((gt (gt x0.Segments (((impl_findAlive_m x0 x1.Row.Id).1).toNat)) (((impl_findAlive_m x0 x1.Row.Id).2).toNat)).Values).length c84] (((gt (gt x0.Segments (((impl_findAlive_m x0 x1.Row.Id).1).toNat)) (((impl_findAlive_m x0 x1.Row.Id).2).toNat)).Values).set (x1.Field.toNat) x1.Value), iOwn (tSl tInt 3) [.slice A36 x1.Row.Values.length c37] x1.Row.Values, iBox p26 45 [.slice (some ⟨g42, 0, none⟩) x0.Segments.length c23, .int .i64 (IntKind.i64.wrap (x0.Now + 1))], iBox p19 45 [.slice none 0 0, .int .i64 0], iBox p18 71 [.int .i64 x1.Kind, .int .i64 x1.Row.Id, .slice A11 x1.Row.Values.length c12, .int .i64 x1.Field, .int .i64 x1.Value], iBox p17 45 [.slice (some a56) x0.Segments.length c5, .int .i64 x0.Now]]) (fun s => s.1 ≤ x0.Segments.length ∧ rng (R := (DStore × Bool)) (fun k (_ : Unit) => impl_ApplyUpdate_b1 x0 x1 k) (x0.Segments.length - s.1) s.1 s.2.1 = rng (R := (DStore × Bool)) (fun k (_ : Unit) => impl_ApplyUpdate_b1 x0 x1 k) (x0.Segments.length - 0) 0 ()) (fun s => x0.Segments.length - s.1) (0, (), ()) (subL_cons rfl (subL_cons rfl (subL_cons rfl (subL_cons rfl (subL_cons rfl (subL_cons rfl (subL_cons rfl (subL_cons rfl subL_nil)))))))) (fun W hm => hm) ⟨(by omega), rfl⟩ ?_
                rintro ⟨k92, ⟨⟩, ⟨⟩⟩ H95
                obtain ⟨hk93, hF94⟩ : k92 ≤ x0.Segments.length ∧ rng (R := (DStore × Bool)) (fun k (_ : Unit) => impl_ApplyUpdate_b1 x0 x1 k) (x0.Segments.length - k92) k92 () = rng (R := (DStore × Bool)) (fun k (_ : Unit) => impl_ApplyUpdate_b1 x0 x1 k) (x0.Segments.length - 0) 0 () := H95
                show CM Try.prog 115 _ _ _ _ [(2, .pointer (some (⟨p17, 0, none⟩ : Addr))), (3, .pointer (some (⟨p18, 0, none⟩ : Addr))), (4, .pointer (some (⟨p19, 0, none⟩ : Addr))), (6, .pointer (some (⟨p26, 0, none⟩ : Addr))), (9, .slice (some ⟨g89, 0, none⟩) ((gt (gt x0.Segments (((impl_findAlive_m x0 x1.Row.Id).1).toNat)) (((impl_findAlive_m x0 x1.Row.Id).2).toNat)).Values).length c84), (87, .slice (some ⟨g42, 0, none⟩) x0.Segments.length c23), (88, .int .i64 ((x0.Segments.length : Nat) : Int)), (89, .int .i64 ((k92 : Nat) : Int))] [iOwn (tSl (tSl tyVersion 102) 100) [.slice (some ⟨g42, 0, none⟩) x0.Segments.length c23] (x0.Segments.set (((impl_findAlive_m x0 x1.Row.Id).1).toNat) (impl_ApplyUpdate_v1 x0 x1)), iOwn (tSl tInt 3) [.slice (some ⟨g89, 0, none⟩) ((gt (gt x0.Segments (((impl_findAlive_m x0 x1.Row.Id).1).toNat)) (((impl_findAlive_m x0 x1.Row.Id).2).toNat)).Values).length c84] (((gt (gt x0.Segments (((impl_findAlive_m x0 x1.Row.Id).1).toNat)) (((impl_findAlive_m x0 x1.Row.Id).2).toNat)).Values).set (x1.Field.toNat) x1.Value), iOwn (tSl tInt 3) [.slice A36 x1.Row.Values.length c37] x1.Row.Values, iBox p26 45 [.slice (some ⟨g42, 0, none⟩) x0.Segments.length c23, .int .i64 (IntKind.i64.wrap (x0.Now + 1))], iBox p19 45 [.slice none 0 0, .int .i64 0], iBox p18 71 [.int .i64 x1.Kind, .int .i64 x1.Row.Id, .slice A11 x1.Row.Values.length c12, .int .i64 x1.Field, .int .i64 x1.Value], iBox p17 45 [.slice (some a56) x0.Segments.length c5, .int .i64 x0.Now]]
                refine sr ?_
                refine wv (fun W hm => rv_lss rfl rfl) ?_
                refine nt' ?_
                refine CM_seq ?_
                by_cases hl96 : k92 < x0.Segments.length
                · have g97 : (decide (((k92 : Nat) : Int) < ((x0.Segments.length : Nat) : Int))) = true := decide_eq_true (by omega)
                  refine CM_condT rfl g97 ?_
                  refine CM_skip ?_
                  refine QM_then ?_
                  refine CM_seq ?_
                  refine CM_block ?_
                  refine sr ?_
                  refine wm ?_
                  refine wv (fun W hm => rv_index (sz := 1) (k := k92) Try.underlying43 Try.type100 rfl rfl rfl (by omega)) ?_
                  refine WM_focus (E := (tSl tyVersion 102)) (e := 100) (A := (some ⟨g42, 0, none⟩)) (n := x0.Segments.length) (c := c23) (xs := (x0.Segments.set (((impl_findAlive_m x0 x1.Row.Id).1).toNat) (impl_ApplyUpdate_v1 x0 x1))) (k := k92) (js := [iOwn (tSl tInt 3) [.slice (some ⟨g89, 0, none⟩) ((gt (gt x0.Segments (((impl_findAlive_m x0 x1.Row.Id).1).toNat)) (((impl_findAlive_m x0 x1.Row.Id).2).toNat)).Values).length c84] (((gt (gt x0.Segments (((impl_findAlive_m x0 x1.Row.Id).1).toNat)) (((impl_findAlive_m x0 x1.Row.Id).2).toNat)).Values).set (x1.Field.toNat) x1.Value), iOwn (tSl tInt 3) [.slice A36 x1.Row.Values.length c37] x1.Row.Values, iBox p26 45 [.slice (some ⟨g42, 0, none⟩) x0.Segments.length c23, .int .i64 (IntKind.i64.wrap (x0.Now + 1))], iBox p19 45 [.slice none 0 0, .int .i64 0], iBox p18 71 [.int .i64 x1.Kind, .int .i64 x1.Row.Id, .slice A11 x1.Row.Values.length c12, .int .i64 x1.Field, .int .i64 x1.Value], iBox p17 45 [.slice (some a56) x0.Segments.length c5, .int .i64 x0.Now]]) (by omega) (fun W hm => hm) (fun ck98 => ?_)
                  refine WM_split (γ := Value) (js := fun g => [iOwn (tSl tyVersion 102) [g] (gt (x0.Segments.set (((impl_findAlive_m x0 x1.Row.Id).1).toNat) (impl_ApplyUpdate_v1 x0 x1)) k92)]) (C := fun g => ck98 = [g]) (fun _ _ h => tSl_split h) ?_
                  rintro v99 rfl
                  refine WM_form (n := 0) rfl ?_
                  rintro A100 c101 rfl m102
                  refine wv (fun W hm => rv_load Try.underlying100 rfl rfl (hm.focInt (i := 1) rfl rfl)) ?_
                  refine wa ?_
                  refine wa ?_
                  refine nt' ?_
                  refine sr ?_
                  refine wm ?_
                  refine wv (fun W hm => rv_len Try.underlying100 rfl) ?_
                  refine wv (fun W hm => rv_lss rfl rfl) ?_
                  refine nt' ?_
                  by_cases h104 : (((gt (x0.Segments.set (((impl_findAlive_m x0 x1.Row.Id).1).toNat) (impl_ApplyUpdate_v1 x0 x1)) k92).length : Nat) : Int) < 4
                  · have g105 : (decide ((((gt (x0.Segments.set (((impl_findAlive_m x0 x1.Row.Id).1).toNat) (impl_ApplyUpdate_v1 x0 x1)) k92).length : Nat) : Int) < 4)) = true := decide_eq_true h104
                    refine CM_condT rfl g105 ?_
                    refine CM_seq ?_
                    refine CM_regionB (n := 15) (listed := #[false, false, false, false, false, false, false, false, false, false, false, false, false, false, false]) (s := [iOwn (tSl tInt 3) [.slice A36 x1.Row.Values.length c37] x1.Row.Values, iBox p26 45 [.slice (some ⟨g42, 0, none⟩) x0.Segments.length c23, .int .i64 (IntKind.i64.wrap (x0.Now + 1))], iBox p19 45 [.slice none 0 0, .int .i64 0], iBox p18 71 [.int .i64 x1.Kind, .int .i64 x1.Row.Id, .slice A11 x1.Row.Values.length c12, .int .i64 x1.Field, .int .i64 x1.Value], iBox p17 45 [.slice (some a56) x0.Segments.length c5, .int .i64 x0.Now]]) (by kernel_rfl) rfl (by kernel_rfl) (fun W hm => (hm.pick [3, 4, 5, 6, 7] (by decide))) ?_
                    refine QB_take 0 (listed' := #[true, false, false, false, false, false, false, false, false, false, false, false, false, false, false]) (by kernel_rfl) rfl (by kernel_rfl) (by kernel_rfl) (by kernel_rfl) (fun _ _ _ h => h) (fun W hm => rv_field Try.underlying45 rfl Try.type43 (by decide) rfl rfl) (Wd_none rfl) rfl (by decide) ?_
                    refine QB_take 1 (listed' := #[true, true, false, false, false, false, false, false, false, false, false, false, false, false, false]) (by kernel_rfl) rfl (by kernel_rfl) (by kernel_rfl) (by kernel_rfl) (fun _ _ _ h => h) (fun W hm => rv_load Try.underlying43 rfl rfl (hm.boxCell (n := 1) (o := 0) rfl rfl)) (Wd_none rfl) rfl (by decide) ?_
                    refine QB_take 2 (listed' := #[true, true, true, false, false, false, false, false, false, false, false, false, false, false, false]) (by kernel_rfl) rfl (by kernel_rfl) (by kernel_rfl) (by kernel_rfl) (fun _ _ _ h => h) (fun W hm => rv_move rfl) (Wd_none rfl) rfl (by decide) ?_
                    refine QB_take 3 (listed' := #[true, true, true, true, false, false, false, false, false, false, false, false, false, false, false]) (by kernel_rfl) rfl (by kernel_rfl) (by kernel_rfl) (by kernel_rfl) (fun _ _ _ h => h) (fun W hm => rv_move rfl) (Wd_none rfl) rfl (by decide) ?_
                    refine QB_take 4 (listed' := #[true, true, true, true, true, false, false, false, false, false, false, false, false, false, false]) (by kernel_rfl) rfl (by kernel_rfl) (by kernel_rfl) (by kernel_rfl) (fun _ _ _ h => h) (fun W hm => rv_field Try.underlying71 rfl Try.type69 (by decide) rfl rfl) (Wd_none rfl) rfl (by decide) ?_
                    refine QB_take 5 (listed' := #[true, true, true, true, true, true, false, false, false, false, false, false, false, false, false]) (by kernel_rfl) rfl (by kernel_rfl) (by kernel_rfl) (by kernel_rfl) (fun _ _ _ h => h) (fun W hm => rv_fieldA (o := 1) Try.underlying69 rfl Try.type3 (by decide) rfl rfl) (Wd_none rfl) rfl (by decide) ?_
                    refine QB_take 6 (listed' := #[true, true, true, true, true, true, true, false, false, false, false, false, false, false, false]) (by kernel_rfl) rfl (by kernel_rfl) (by kernel_rfl) (by kernel_rfl) (fun _ _ _ h => h) (fun W hm => rv_load Try.underlying3 rfl rfl (hm.boxCell (n := 3) (o := 1) rfl rfl)) (Wd_none rfl) rfl (by decide) ?_
                    refine QB_take 7 (listed' := #[true, true, true, true, true, true, true, true, false, false, false, false, false, false, false]) (by kernel_rfl) rfl (by kernel_rfl) (by kernel_rfl) (by kernel_rfl) (fun _ _ _ h => h) (fun W hm => rv_move rfl) (Wd_none rfl) rfl (by decide) ?_
                    refine QB_take 8 (listed' := #[true, true, true, true, true, true, true, true, true, false, false, false, false, false, false]) (by kernel_rfl) rfl (by kernel_rfl) (by kernel_rfl) (by kernel_rfl) (fun _ _ _ h => h) (fun W hm => rv_field Try.underlying45 rfl Try.type3 (by decide) rfl rfl) (Wd_none rfl) rfl (by decide) ?_
                    refine QB_take 9 (listed' := #[true, true, true, true, true, true, true, true, true, true, false, false, false, false, false]) (by kernel_rfl) rfl (by kernel_rfl) (by kernel_rfl) (by kernel_rfl) (fun _ _ _ h => h) (fun W hm => rv_load Try.underlying3 rfl rfl (hm.boxCell (n := 1) (o := 1) rfl rfl)) (Wd_none rfl) rfl (by decide) ?_
                    refine QB_take 10 (listed' := #[true, true, true, true, true, true, true, true, true, true, true, false, false, false, false]) (by kernel_rfl) rfl (by kernel_rfl) (by kernel_rfl) (by kernel_rfl) (fun _ _ _ h => h) (fun W hm => rv_build (cs := [.int .i64 x1.Row.Id, .slice (some ⟨g89, 0, none⟩) ((gt (gt x0.Segments (((impl_findAlive_m x0 x1.Row.Id).1).toNat)) (((impl_findAlive_m x0 x1.Row.Id).2).toNat)).Values).length c84, .int .i64 (IntKind.i64.wrap (x0.Now + 1)), .int .i64 (-1)]) rfl (by kernel_rfl)) (Wd_none rfl) rfl (by decide) ?_
                    refine QB_one 11 (listed' := #[true, true, true, true, true, true, true, true, true, true, true, true, false, false, false]) (by kernel_rfl) rfl (by kernel_rfl) ?_
                    refine WM_build (cs := [.int .i64 x1.Row.Id, .slice (some ⟨g89, 0, none⟩) ((gt (gt x0.Segments (((impl_findAlive_m x0 x1.Row.Id).1).toNat)) (((impl_findAlive_m x0 x1.Row.Id).2).toNat)).Values).length c84, .int .i64 (IntKind.i64.wrap (x0.Now + 1)), .int .i64 (-1)]) Try.underlying100 Try.type102 rfl (by decide) (by decide) rfl (by kernel_rfl) (Wd_none rfl) (by decide) (fun p106 => ?_)
                    refine WM_nil ?_
                    refine QB_next (fun W hm => (hm.pick [4, 5, 6, 7, 8] (by decide))) ?_
                    refine QB_one 12 (listed' := #[true, true, true, true, true, true, true, true, true, true, true, true, true, false, false]) (by kernel_rfl) rfl (by kernel_rfl) ?_
                    refine WM_append (E := tyVersion) (e := 102) (v := .slice A100 (gt (x0.Segments.set (((impl_findAlive_m x0 x1.Row.Id).1).toNat) (impl_ApplyUpdate_v1 x0 x1)) k92).length c101) (p := p106) (q := 1) (xs := (gt (x0.Segments.set (((impl_findAlive_m x0 x1.Row.Id).1).toNat) (impl_ApplyUpdate_v1 x0 x1)) k92)) (ys := [(⟨x1.Row.Id, (((gt (gt x0.Segments (((impl_findAlive_m x0 x1.Row.Id).1).toNat)) (((impl_findAlive_m x0 x1.Row.Id).2).toNat)).Values).set (x1.Field.toNat) x1.Value), (IntKind.i64.wrap (x0.Now + 1)), (-1)⟩ : DVersion)]) (eis := [iOwn (tSl tInt 3) [.slice (some ⟨g89, 0, none⟩) ((gt (gt x0.Segments (((impl_findAlive_m x0 x1.Row.Id).1).toNat)) (((impl_findAlive_m x0 x1.Row.Id).2).toNat)).Values).length c84] (((gt (gt x0.Segments (((impl_findAlive_m x0 x1.Row.Id).1).toNat)) (((impl_findAlive_m x0 x1.Row.Id).2).toNat)).Values).set (x1.Field.toNat) x1.Value)]) (js := [iFoc (tSl tyVersion 102) 100 (some ⟨g42, 0, none⟩) x0.Segments.length c23 (x0.Segments.set (((impl_findAlive_m x0 x1.Row.Id).1).toNat) (impl_ApplyUpdate_v1 x0 x1)) k92 [.slice A100 (gt (x0.Segments.set (((impl_findAlive_m x0 x1.Row.Id).1).toNat) (impl_ApplyUpdate_v1 x0 x1)) k92).length c101], iOwn (tSl tInt 3) [.slice A36 x1.Row.Values.length c37] x1.Row.Values, iBox p26 45 [.slice (some ⟨g42, 0, none⟩) x0.Segments.length c23, .int .i64 (IntKind.i64.wrap (x0.Now + 1))], iBox p19 45 [.slice none 0 0, .int .i64 0], iBox p18 71 [.int .i64 x1.Kind, .int .i64 x1.Row.Id, .slice A11 x1.Row.Values.length c12, .int .i64 x1.Field, .int .i64 x1.Value], iBox p17 45 [.slice (some a56) x0.Segments.length c5, .int .i64 x0.Now]]) (news := [.int .i64 x1.Row.Id, .slice (some ⟨g89, 0, none⟩) ((gt (gt x0.Segments (((impl_findAlive_m x0 x1.Row.Id).1).toNat)) (((impl_findAlive_m x0 x1.Row.Id).2).toNat)).Values).length c84, .int .i64 (IntKind.i64.wrap (x0.Now + 1)), .int .i64 (-1)]) (fun W hm => (hm.pick [0, 1, 3, 2, 4, 5, 6, 7, 8] (by decide))) (fun _ _ hs => Els.single (tyVersion_join (x := (⟨x1.Row.Id, (((gt (gt x0.Segments (((impl_findAlive_m x0 x1.Row.Id).1).toNat)) (((impl_findAlive_m x0 x1.Row.Id).2).toNat)).Values).set (x1.Field.toNat) x1.Value), (IntKind.i64.wrap (x0.Now + 1)), (-1)⟩ : DVersion)) hs)) Try.underlying100 Try.type102 rfl rfl rfl (Nat.le_of_ble_eq_true rfl) rfl rfl rfl (show ((gt (x0.Segments.set (((impl_findAlive_m x0 x1.Row.Id).1).toNat) (impl_ApplyUpdate_v1 x0 x1)) k92).length + 1) * 48 ≤ 140737488355328 from by first | omega | (have hx := gtset_len (xs := x0.Segments) (i := (impl_findAlive_m x0 x1.Row.Id).1.toNat) (y := impl_ApplyUpdate_v1 x0 x1) List.length_set k92; omega)) (show (gt (x0.Segments.set (((impl_findAlive_m x0 x1.Row.Id).1).toNat) (impl_ApplyUpdate_v1 x0 x1)) k92).length + 1 ≤ 9223372036854775807 from by first | omega | (have hx := gtset_len (xs := x0.Segments) (i := (impl_findAlive_m x0 x1.Row.Id).1.toNat) (y := impl_ApplyUpdate_v1 x0 x1) List.length_set k92; omega)) (Wd_none rfl) (by decide) (fun v107 => ?_)
                    refine WM_form (n := 0) rfl ?_
                    rintro A108 c109 rfl m110
                    refine WM_nil ?_
                    refine QB_next (fun W hm => (hm.pick [2, 3, 4, 5, 6] (by decide))) ?_
                    refine QB_take 13 (listed' := #[true, true, true, true, true, true, true, true, true, true, true, true, true, true, false]) (by kernel_rfl) rfl (by kernel_rfl) (by kernel_rfl) (by kernel_rfl) (fun _ _ _ h => h) (fun W hm => rv_index (sz := 1) (k := k92) Try.underlying43 Try.type100 rfl rfl rfl (by omega)) (Wd_none rfl) rfl (by decide) ?_
                    refine QB_one 14 (listed' := #[true, true, true, true, true, true, true, true, true, true, true, true, true, true, true]) (by kernel_rfl) rfl (by kernel_rfl) ?_
                    refine WM_storeFoc (E := (tSl tyVersion 102)) (e := 100) (g := g42) (n := x0.Segments.length) (c := c23) (k := k92) (s := 1) (o := 0) (xs := (x0.Segments.set (((impl_findAlive_m x0 x1.Row.Id).1).toNat) (impl_ApplyUpdate_v1 x0 x1))) (ck := [.slice A100 (gt (x0.Segments.set (((impl_findAlive_m x0 x1.Row.Id).1).toNat) (impl_ApplyUpdate_v1 x0 x1)) k92).length c101]) (ck' := [.slice A108 (impl_ApplyUpdate_v2 x0 x1 k92).length c109]) (js := [iOwn (tSl tyVersion 102) [.slice A108 (impl_ApplyUpdate_v2 x0 x1 k92).length c109] (impl_ApplyUpdate_v2 x0 x1 k92), iOwn (tSl tInt 3) [.slice A36 x1.Row.Values.length c37] x1.Row.Values, iBox p26 45 [.slice (some ⟨g42, 0, none⟩) x0.Segments.length c23, .int .i64 (IntKind.i64.wrap (x0.Now + 1))], iBox p19 45 [.slice none 0 0, .int .i64 0], iBox p18 71 [.int .i64 x1.Kind, .int .i64 x1.Row.Id, .slice A11 x1.Row.Values.length c12, .int .i64 x1.Field, .int .i64 x1.Value], iBox p17 45 [.slice (some a56) x0.Segments.length c5, .int .i64 x0.Now]]) (fun W hm => (hm.pick [1, 0, 2, 3, 4, 5, 6] (by decide))) rfl (add0 _).symm Try.type100 rfl (Nat.le_of_ble_eq_true rfl) rfl rfl rfl rfl (Wd_none rfl) ?_
                    refine WM_nil ?_
                    refine QB_next (fun W hm => (hm.pick [2, 3, 4, 5, 6] (by decide))) ?_
                    refine QB_done (by kernel_rfl) ?_
                    refine QM_then ?_
                    refine sr ?_
                    refine wv (fun W hm => rv_loadN (cs := [.slice (some ⟨g42, 0, none⟩) x0.Segments.length c23, .int .i64 (IntKind.i64.wrap (x0.Now + 1))]) Try.underlying45 Try.type45 rfl rfl (hm.boxCells (n := 3) rfl)) ?_
                    refine WM_storeBox (p := p19) (o := 0) (cs := [.slice none 0 0, .int .i64 0]) (cs' := [.slice (some ⟨g42, 0, none⟩) x0.Segments.length c23, .int .i64 (IntKind.i64.wrap (x0.Now + 1))]) (js := [iFoc (tSl tyVersion 102) 100 (some ⟨g42, 0, none⟩) x0.Segments.length c23 (x0.Segments.set (((impl_findAlive_m x0 x1.Row.Id).1).toNat) (impl_ApplyUpdate_v1 x0 x1)) k92 [.slice A108 (impl_ApplyUpdate_v2 x0 x1 k92).length c109], iOwn (tSl tyVersion 102) [.slice A108 (impl_ApplyUpdate_v2 x0 x1 k92).length c109] (impl_ApplyUpdate_v2 x0 x1 k92), iOwn (tSl tInt 3) [.slice A36 x1.Row.Values.length c37] x1.Row.Values, iBox p26 45 [.slice (some ⟨g42, 0, none⟩) x0.Segments.length c23, .int .i64 (IntKind.i64.wrap (x0.Now + 1))], iBox p18 71 [.int .i64 x1.Kind, .int .i64 x1.Row.Id, .slice A11 x1.Row.Values.length c12, .int .i64 x1.Field, .int .i64 x1.Value], iBox p17 45 [.slice (some a56) x0.Segments.length c5, .int .i64 x0.Now]]) (fun W hm => (hm.pick [4, 0, 1, 2, 3, 5, 6] (by decide))) Try.type45 rfl (Nat.le_of_ble_eq_true rfl) rfl rfl rfl rfl (Wd_none rfl) ?_
                    refine wa ?_
                    refine nt' ?_
                    refine CM_ret ?_
                    refine QM_block_ret ?_
                    refine QM_then_ret ?_
                    refine QM_then_ret ?_
                    refine QM_block_ret ?_
                    refine QM_then_ret ?_
                    refine QM_items (fun W hm => Mem.unfocus (Mem.join (is := [iOwn (tSl tyVersion 102) [.slice A108 (impl_ApplyUpdate_v2 x0 x1 k92).length c109] (impl_ApplyUpdate_v2 x0 x1 k92)]) (js := (iFoc (tSl tyVersion 102) 100 (some ⟨g42, 0, none⟩) x0.Segments.length c23 (x0.Segments.set (((impl_findAlive_m x0 x1.Row.Id).1).toNat) (impl_ApplyUpdate_v1 x0 x1)) k92 [.slice A108 (impl_ApplyUpdate_v2 x0 x1 k92).length c109] :: [iBox p19 45 [.slice (some ⟨g42, 0, none⟩) x0.Segments.length c23, .int .i64 (IntKind.i64.wrap (x0.Now + 1))], iOwn (tSl tInt 3) [.slice A36 x1.Row.Values.length c37] x1.Row.Values, iBox p26 45 [.slice (some ⟨g42, 0, none⟩) x0.Segments.length c23, .int .i64 (IntKind.i64.wrap (x0.Now + 1))], iBox p18 71 [.int .i64 x1.Kind, .int .i64 x1.Row.Id, .slice A11 x1.Row.Values.length c12, .int .i64 x1.Field, .int .i64 x1.Value], iBox p17 45 [.slice (some a56) x0.Segments.length c5, .int .i64 x0.Now]])) (fun _ _ hs => Sep.one hs) (hm.pick [2, 1, 0, 3, 4, 5, 6] (by decide)))) ?_
                    refine QM_r2 rfl (RR_cell (n := 1) rfl rfl Try.underlying45 Try.type45 rfl) (RR_tmp rfl) (fun W hm => ⟨[.slice (some ⟨g42, 0, none⟩) x0.Segments.length c23, .int .i64 (IntKind.i64.wrap (x0.Now + 1))], ?_, ?_⟩)
                    · first | rw [(show impl_ApplyUpdate_m x0 x1 = ((⟨((x0.Segments.set (((impl_findAlive_m x0 x1.Row.Id).1).toNat) (impl_ApplyUpdate_v1 x0 x1)).set k92 (impl_ApplyUpdate_v2 x0 x1 k92)), (IntKind.i64.wrap (x0.Now + 1))⟩ : DStore), true) from by unfold impl_ApplyUpdate_m; exact cond_t g28 (cond_t g30 (cond_f g32 (cond_f g34 (cond_t g41 (cond_t g88 (cond_f g91 (fin_inl (rng_ret (body := (fun k (_ : Unit) => impl_ApplyUpdate_b1 x0 x1 k)) (k := k92) (s := ()) (show k92 < x0.Segments.length from by omega) (show impl_ApplyUpdate_b1 x0 x1 k92 = Sum.inl ((⟨((x0.Segments.set (((impl_findAlive_m x0 x1.Row.Id).1).toNat) (impl_ApplyUpdate_v1 x0 x1)).set k92 (impl_ApplyUpdate_v2 x0 x1 k92)), (IntKind.i64.wrap (x0.Now + 1))⟩ : DStore), true) from by unfold impl_ApplyUpdate_b1; exact cond_t g105 (rfl)) hF94) rfl))))))))] | rfl
                    · rw [(show impl_ApplyUpdate_m x0 x1 = ((⟨((x0.Segments.set (((impl_findAlive_m x0 x1.Row.Id).1).toNat) (impl_ApplyUpdate_v1 x0 x1)).set k92 (impl_ApplyUpdate_v2 x0 x1 k92)), (IntKind.i64.wrap (x0.Now + 1))⟩ : DStore), true) from by unfold impl_ApplyUpdate_m; exact cond_t g28 (cond_t g30 (cond_f g32 (cond_f g34 (cond_t g41 (cond_t g88 (cond_f g91 (fin_inl (rng_ret (body := (fun k (_ : Unit) => impl_ApplyUpdate_b1 x0 x1 k)) (k := k92) (s := ()) (show k92 < x0.Segments.length from by omega) (show impl_ApplyUpdate_b1 x0 x1 k92 = Sum.inl ((⟨((x0.Segments.set (((impl_findAlive_m x0 x1.Row.Id).1).toNat) (impl_ApplyUpdate_v1 x0 x1)).set k92 (impl_ApplyUpdate_v2 x0 x1 k92)), (IntKind.i64.wrap (x0.Now + 1))⟩ : DStore), true) from by unfold impl_ApplyUpdate_b1; exact cond_t g105 (rfl)) hF94) rfl))))))))]; exact Mem.join (is := [iOwn (tSl (tSl tyVersion 102) 100) [.slice (some ⟨g42, 0, none⟩) x0.Segments.length c23] ((x0.Segments.set (((impl_findAlive_m x0 x1.Row.Id).1).toNat) (impl_ApplyUpdate_v1 x0 x1)).set k92 (impl_ApplyUpdate_v2 x0 x1 k92))]) (js := []) (fun _ _ hs => tyStore_join (x := (⟨((x0.Segments.set (((impl_findAlive_m x0 x1.Row.Id).1).toNat) (impl_ApplyUpdate_v1 x0 x1)).set k92 (impl_ApplyUpdate_v2 x0 x1 k92)), (IntKind.i64.wrap (x0.Now + 1))⟩ : DStore)) hs) (hm.pick [0] (by decide))
                  · have g105 : (decide ((((gt (x0.Segments.set (((impl_findAlive_m x0 x1.Row.Id).1).toNat) (impl_ApplyUpdate_v1 x0 x1)) k92).length : Nat) : Int) < 4)) = false := decide_eq_false h104
                    refine CM_condF rfl g105 ?_
                    refine CM_skip ?_
                    refine QM_block_normal ?_
                    refine QM_then ?_
                    refine CM_region ?_
                    refine wv (fun W hm => rv_addN (p := k92) (q := 1) rfl rfl (by omega)) ?_
                    refine wm ?_
                    refine WM_nil ?_
                    refine QM_items (fun W hm => Mem.unfocus0 (Mem.join (is := [iOwn (tSl tyVersion 102) [.slice A100 (gt (x0.Segments.set (((impl_findAlive_m x0 x1.Row.Id).1).toNat) (impl_ApplyUpdate_v1 x0 x1)) k92).length c101] (gt (x0.Segments.set (((impl_findAlive_m x0 x1.Row.Id).1).toNat) (impl_ApplyUpdate_v1 x0 x1)) k92)]) (js := (iFoc (tSl tyVersion 102) 100 (some ⟨g42, 0, none⟩) x0.Segments.length c23 (x0.Segments.set (((impl_findAlive_m x0 x1.Row.Id).1).toNat) (impl_ApplyUpdate_v1 x0 x1)) k92 [.slice A100 (gt (x0.Segments.set (((impl_findAlive_m x0 x1.Row.Id).1).toNat) (impl_ApplyUpdate_v1 x0 x1)) k92).length c101] :: [iOwn (tSl tInt 3) [.slice (some ⟨g89, 0, none⟩) ((gt (gt x0.Segments (((impl_findAlive_m x0 x1.Row.Id).1).toNat)) (((impl_findAlive_m x0 x1.Row.Id).2).toNat)).Values).length c84] (((gt (gt x0.Segments (((impl_findAlive_m x0 x1.Row.Id).1).toNat)) (((impl_findAlive_m x0 x1.Row.Id).2).toNat)).Values).set (x1.Field.toNat) x1.Value), iOwn (tSl tInt 3) [.slice A36 x1.Row.Values.length c37] x1.Row.Values, iBox p26 45 [.slice (some ⟨g42, 0, none⟩) x0.Segments.length c23, .int .i64 (IntKind.i64.wrap (x0.Now + 1))], iBox p19 45 [.slice none 0 0, .int .i64 0], iBox p18 71 [.int .i64 x1.Kind, .int .i64 x1.Row.Id, .slice A11 x1.Row.Values.length c12, .int .i64 x1.Field, .int .i64 x1.Value], iBox p17 45 [.slice (some a56) x0.Segments.length c5, .int .i64 x0.Now]])) (fun _ _ hs => Sep.one hs) hm)) ?_
                    have hn112 := rng_next (R := (DStore × Bool)) (body := (fun k (_ : Unit) => impl_ApplyUpdate_b1 x0 x1 k)) (k := k92) (s := ()) (s' := ()) (show k92 < x0.Segments.length from by omega) (show impl_ApplyUpdate_b1 x0 x1 k92 = Sum.inr () from by unfold impl_ApplyUpdate_b1; exact cond_f g105 (rfl)) hF94
                    exact QM_round (k92 + 1, (), ()) (subL_cons rfl (subL_cons rfl (subL_cons rfl (subL_cons rfl (subL_cons rfl (subL_cons rfl (subL_cons rfl (subL_cons rfl subL_nil)))))))) (fun W hm => hm) ⟨(by omega), hn112⟩ (show x0.Segments.length - (k92 + 1) < x0.Segments.length - k92 from by omega)
                · have g97 : (decide (((k92 : Nat) : Int) < ((x0.Segments.length : Nat) : Int))) = false := decide_eq_false (by omega)
                  refine CM_condF rfl g97 ?_
                  refine CM_exit ?_
                  refine QM_then_exit ?_
                  refine QM_then_exit ?_
                  have hE113 : rng (R := (DStore × Bool)) (fun k (_ : Unit) => impl_ApplyUpdate_b1 x0 x1 k) (x0.Segments.length - 0) 0 () = Sum.inr () := rng_end hl96 hF94
                  refine QM_block_hit ?_
                  refine QM_then ?_
                  refine CM_seq ?_
                  refine CM_items (fun W hm => (hm.pick [4, 6] (by decide))) ?_
                  refine CM_region ?_
                  refine wv (fun W hm => rv_loadN (cs := [.slice (some a56) x0.Segments.length c5, .int .i64 x0.Now]) Try.underlying45 Try.type45 rfl rfl (hm.boxCells (n := 1) rfl)) ?_
                  refine WM_call (χ := List Value) (val := fun x => .agg x.toArray) (js := fun x => [iOwn tyStore x x0]) (cl_fn cb72 rfl) (fun W hm => impl_copyStore_c2 W _ x0 (tyStore_mk (x := x0) (hm.rdS0 r7)) s_0) (Wd_none rfl) (by decide) (fun z114 => ?_)
                  refine WM_split (γ := Value) (js := fun g => [iOwn (tSl (tSl tyVersion 102) 100) [g] x0.Segments]) (C := fun g => z114 = [g, .int .i64 x0.Now]) (fun _ _ h => tyStore_split h) ?_
                  rintro v115 rfl
                  refine WM_form (n := 0) rfl ?_
                  rintro A116 c117 rfl m118
                  refine WM_storeBox (p := p19) (o := 0) (cs := [.slice none 0 0, .int .i64 0]) (cs' := [.slice A116 x0.Segments.length c117, .int .i64 x0.Now]) (js := [iOwn (tSl (tSl tyVersion 102) 100) [.slice A116 x0.Segments.length c117] x0.Segments, iBox p17 45 [.slice (some a56) x0.Segments.length c5, .int .i64 x0.Now]]) (fun W hm => (hm.pick [1, 0, 2] (by decide))) Try.type45 rfl (Nat.le_of_ble_eq_true rfl) rfl rfl rfl rfl (Wd_none rfl) ?_
                  refine wa ?_
                  refine nt' ?_
                  refine CM_ret ?_
                  refine QM_r2 rfl (RR_cell (n := 0) rfl rfl Try.underlying45 Try.type45 rfl) (RR_tmp rfl) (fun W hm => ⟨[.slice A116 x0.Segments.length c117, .int .i64 x0.Now], ?_, ?_⟩)
                  · first | rw [(show impl_ApplyUpdate_m x0 x1 = (x0, false) from by unfold impl_ApplyUpdate_m; exact cond_t g28 (cond_t g30 (cond_f g32 (cond_f g34 (cond_t g41 (cond_t g88 (cond_f g91 (fin_inr hE113 (rfl)))))))))] | rfl
                  · rw [(show impl_ApplyUpdate_m x0 x1 = (x0, false) from by unfold impl_ApplyUpdate_m; exact cond_t g28 (cond_t g30 (cond_f g32 (cond_f g34 (cond_t g41 (cond_t g88 (cond_f g91 (fin_inr hE113 (rfl)))))))))]; exact Mem.join (is := [iOwn (tSl (tSl tyVersion 102) 100) [.slice A116 x0.Segments.length c117] x0.Segments]) (js := []) (fun _ _ hs => tyStore_join (x := x0) hs) (hm.pick [1] (by decide))
            · have g88 : (x1.Kind == 3) = false := beq_eq_false_iff_ne.2 h87
              refine CM_condF rfl g88 ?_
              refine CM_skip ?_
              refine QM_then ?_
              refine CM_seq ?_
              refine sr ?_
              refine wv (fun W hm => rv_field Try.underlying71 rfl Try.type3 (by decide) rfl rfl) ?_
              refine wv (fun W hm => rv_load Try.underlying3 rfl rfl (hm.boxCell (n := 7) (o := 0) rfl rfl)) ?_
              refine wv (fun W hm => rv_eql rfl rfl) ?_
              refine nt' ?_
              by_cases h120 : x1.Kind = 2
              · have g121 : (x1.Kind == 2) = true := beq_iff_eq.2 h120
                refine CM_condT rfl g121 ?_
                refine CM_seq ?_
                refine CM_items (fun W hm => (hm.pick [1, 2, 3, 5, 6] (by decide))) ?_
                refine CM_region ?_
                refine wv (fun W hm => rv_loadN (cs := [.slice (some ⟨g42, 0, none⟩) x0.Segments.length c23, .int .i64 (IntKind.i64.wrap (x0.Now + 1))]) Try.underlying45 Try.type45 rfl rfl (hm.boxCells (n := 3) rfl)) ?_
                refine WM_storeBox (p := p19) (o := 0) (cs := [.slice none 0 0, .int .i64 0]) (cs' := [.slice (some ⟨g42, 0, none⟩) x0.Segments.length c23, .int .i64 (IntKind.i64.wrap (x0.Now + 1))]) (js := [iFoc tyVersion 102 (some ⟨g49, 0, none⟩) ((gt x0.Segments (((impl_findAlive_m x0 x1.Row.Id).1).toNat)).length) c46 (gt x0.Segments (((impl_findAlive_m x0 x1.Row.Id).1).toNat)) (((impl_findAlive_m x0 x1.Row.Id).2).toNat) [.int .i64 ((gt (gt x0.Segments (((impl_findAlive_m x0 x1.Row.Id).1).toNat)) (((impl_findAlive_m x0 x1.Row.Id).2).toNat)).Id), .slice A52 ((gt (gt x0.Segments (((impl_findAlive_m x0 x1.Row.Id).1).toNat)) (((impl_findAlive_m x0 x1.Row.Id).2).toNat)).Values).length c53, .int .i64 ((gt (gt x0.Segments (((impl_findAlive_m x0 x1.Row.Id).1).toNat)) (((impl_findAlive_m x0 x1.Row.Id).2).toNat)).Born), .int .i64 (IntKind.i64.wrap (x0.Now + 1))], iOwn (tSl tInt 3) [.slice A52 ((gt (gt x0.Segments (((impl_findAlive_m x0 x1.Row.Id).1).toNat)) (((impl_findAlive_m x0 x1.Row.Id).2).toNat)).Values).length c53] ((gt (gt x0.Segments (((impl_findAlive_m x0 x1.Row.Id).1).toNat)) (((impl_findAlive_m x0 x1.Row.Id).2).toNat)).Values), iFoc (tSl tyVersion 102) 100 (some ⟨g42, 0, none⟩) x0.Segments.length c23 x0.Segments (((impl_findAlive_m x0 x1.Row.Id).1).toNat) [.slice (some ⟨g49, 0, none⟩) (gt x0.Segments (((impl_findAlive_m x0 x1.Row.Id).1).toNat)).length c46], iBox p26 45 [.slice (some ⟨g42, 0, none⟩) x0.Segments.length c23, .int .i64 (IntKind.i64.wrap (x0.Now + 1))]]) (fun W hm => (hm.pick [4, 0, 1, 2, 3] (by decide))) Try.type45 rfl (Nat.le_of_ble_eq_true rfl) rfl rfl rfl rfl (Wd_none rfl) ?_
                refine wa ?_
                refine nt' ?_
                refine CM_ret ?_
                refine QM_then_ret ?_
                refine QM_items (fun W hm => Mem.unfocus (Mem.join (is := [iOwn (tSl tInt 3) [.slice A52 ((gt (gt x0.Segments (((impl_findAlive_m x0 x1.Row.Id).1).toNat)) (((impl_findAlive_m x0 x1.Row.Id).2).toNat)).Values).length c53] ((gt (gt x0.Segments (((impl_findAlive_m x0 x1.Row.Id).1).toNat)) (((impl_findAlive_m x0 x1.Row.Id).2).toNat)).Values)]) (js := (iFoc tyVersion 102 (some ⟨g49, 0, none⟩) ((gt x0.Segments (((impl_findAlive_m x0 x1.Row.Id).1).toNat)).length) c46 (gt x0.Segments (((impl_findAlive_m x0 x1.Row.Id).1).toNat)) (((impl_findAlive_m x0 x1.Row.Id).2).toNat) [.int .i64 ((gt (gt x0.Segments (((impl_findAlive_m x0 x1.Row.Id).1).toNat)) (((impl_findAlive_m x0 x1.Row.Id).2).toNat)).Id), .slice A52 ((gt (gt x0.Segments (((impl_findAlive_m x0 x1.Row.Id).1).toNat)) (((impl_findAlive_m x0 x1.Row.Id).2).toNat)).Values).length c53, .int .i64 ((gt (gt x0.Segments (((impl_findAlive_m x0 x1.Row.Id).1).toNat)) (((impl_findAlive_m x0 x1.Row.Id).2).toNat)).Born), .int .i64 (IntKind.i64.wrap (x0.Now + 1))] :: [iBox p19 45 [.slice (some ⟨g42, 0, none⟩) x0.Segments.length c23, .int .i64 (IntKind.i64.wrap (x0.Now + 1))], iFoc (tSl tyVersion 102) 100 (some ⟨g42, 0, none⟩) x0.Segments.length c23 x0.Segments (((impl_findAlive_m x0 x1.Row.Id).1).toNat) [.slice (some ⟨g49, 0, none⟩) (gt x0.Segments (((impl_findAlive_m x0 x1.Row.Id).1).toNat)).length c46], iBox p26 45 [.slice (some ⟨g42, 0, none⟩) x0.Segments.length c23, .int .i64 (IntKind.i64.wrap (x0.Now + 1))]])) (fun _ _ hs => tyVersion_join (x := (⟨(gt (gt x0.Segments (((impl_findAlive_m x0 x1.Row.Id).1).toNat)) (((impl_findAlive_m x0 x1.Row.Id).2).toNat)).Id, (gt (gt x0.Segments (((impl_findAlive_m x0 x1.Row.Id).1).toNat)) (((impl_findAlive_m x0 x1.Row.Id).2).toNat)).Values, (gt (gt x0.Segments (((impl_findAlive_m x0 x1.Row.Id).1).toNat)) (((impl_findAlive_m x0 x1.Row.Id).2).toNat)).Born, (IntKind.i64.wrap (x0.Now + 1))⟩ : DVersion)) hs) (hm.pick [2, 1, 0, 3, 4] (by decide)))) ?_
                refine QM_items (fun W hm => Mem.unfocus (Mem.join (is := [iOwn (tSl tyVersion 102) [.slice (some ⟨g49, 0, none⟩) (gt x0.Segments (((impl_findAlive_m x0 x1.Row.Id).1).toNat)).length c46] (impl_ApplyUpdate_v1 x0 x1)]) (js := (iFoc (tSl tyVersion 102) 100 (some ⟨g42, 0, none⟩) x0.Segments.length c23 x0.Segments (((impl_findAlive_m x0 x1.Row.Id).1).toNat) [.slice (some ⟨g49, 0, none⟩) (gt x0.Segments (((impl_findAlive_m x0 x1.Row.Id).1).toNat)).length c46] :: [iBox p19 45 [.slice (some ⟨g42, 0, none⟩) x0.Segments.length c23, .int .i64 (IntKind.i64.wrap (x0.Now + 1))], iBox p26 45 [.slice (some ⟨g42, 0, none⟩) x0.Segments.length c23, .int .i64 (IntKind.i64.wrap (x0.Now + 1))]])) (fun _ _ hs => Sep.one hs) (hm.pick [0, 2, 1, 3] (by decide)))) ?_
                refine QM_r2 rfl (RR_cell (n := 1) rfl rfl Try.underlying45 Try.type45 rfl) (RR_tmp rfl) (fun W hm => ⟨[.slice (some ⟨g42, 0, none⟩) x0.Segments.length c23, .int .i64 (IntKind.i64.wrap (x0.Now + 1))], ?_, ?_⟩)
                · first | rw [(show impl_ApplyUpdate_m x0 x1 = ((⟨(x0.Segments.set (((impl_findAlive_m x0 x1.Row.Id).1).toNat) (impl_ApplyUpdate_v1 x0 x1)), (IntKind.i64.wrap (x0.Now + 1))⟩ : DStore), true) from by unfold impl_ApplyUpdate_m; exact cond_t g28 (cond_t g30 (cond_f g32 (cond_f g34 (cond_t g41 (cond_f g88 (cond_t g121 (rfl))))))))] | rfl
                · rw [(show impl_ApplyUpdate_m x0 x1 = ((⟨(x0.Segments.set (((impl_findAlive_m x0 x1.Row.Id).1).toNat) (impl_ApplyUpdate_v1 x0 x1)), (IntKind.i64.wrap (x0.Now + 1))⟩ : DStore), true) from by unfold impl_ApplyUpdate_m; exact cond_t g28 (cond_t g30 (cond_f g32 (cond_f g34 (cond_t g41 (cond_f g88 (cond_t g121 (rfl))))))))]; exact Mem.join (is := [iOwn (tSl (tSl tyVersion 102) 100) [.slice (some ⟨g42, 0, none⟩) x0.Segments.length c23] (x0.Segments.set (((impl_findAlive_m x0 x1.Row.Id).1).toNat) (impl_ApplyUpdate_v1 x0 x1))]) (js := []) (fun _ _ hs => tyStore_join (x := (⟨(x0.Segments.set (((impl_findAlive_m x0 x1.Row.Id).1).toNat) (impl_ApplyUpdate_v1 x0 x1)), (IntKind.i64.wrap (x0.Now + 1))⟩ : DStore)) hs) (hm.pick [0] (by decide))
              · have g121 : (x1.Kind == 2) = false := beq_eq_false_iff_ne.2 h120
                refine CM_condF rfl g121 ?_
                refine CM_skip ?_
                refine QM_then ?_
                refine CM_seq ?_
                refine sr ?_
                refine wv (fun W hm => rv_field Try.underlying45 rfl Try.type43 (by decide) rfl rfl) ?_
                refine wv (fun W hm => rv_load Try.underlying43 rfl rfl (hm.boxCell (n := 5) (o := 0) rfl rfl)) ?_
                refine wv (fun W hm => rv_len Try.underlying43 rfl) ?_
                refine wm ?_
                refine nt' ?_
                refine CM_block ?_
                refine CM_items (fun W hm => Mem.unfocus (Mem.join (is := [iOwn (tSl tInt 3) [.slice A52 ((gt (gt x0.Segments (((impl_findAlive_m x0 x1.Row.Id).1).toNat)) (((impl_findAlive_m x0 x1.Row.Id).2).toNat)).Values).length c53] ((gt (gt x0.Segments (((impl_findAlive_m x0 x1.Row.Id).1).toNat)) (((impl_findAlive_m x0 x1.Row.Id).2).toNat)).Values)]) (js := (iFoc tyVersion 102 (some ⟨g49, 0, none⟩) ((gt x0.Segments (((impl_findAlive_m x0 x1.Row.Id).1).toNat)).length) c46 (gt x0.Segments (((impl_findAlive_m x0 x1.Row.Id).1).toNat)) (((impl_findAlive_m x0 x1.Row.Id).2).toNat) [.int .i64 ((gt (gt x0.Segments (((impl_findAlive_m x0 x1.Row.Id).1).toNat)) (((impl_findAlive_m x0 x1.Row.Id).2).toNat)).Id), .slice A52 ((gt (gt x0.Segments (((impl_findAlive_m x0 x1.Row.Id).1).toNat)) (((impl_findAlive_m x0 x1.Row.Id).2).toNat)).Values).length c53, .int .i64 ((gt (gt x0.Segments (((impl_findAlive_m x0 x1.Row.Id).1).toNat)) (((impl_findAlive_m x0 x1.Row.Id).2).toNat)).Born), .int .i64 (IntKind.i64.wrap (x0.Now + 1))] :: [iOwn (tSl tInt 3) [.slice A83 ((gt (gt x0.Segments (((impl_findAlive_m x0 x1.Row.Id).1).toNat)) (((impl_findAlive_m x0 x1.Row.Id).2).toNat)).Values).length c84] ((gt (gt x0.Segments (((impl_findAlive_m x0 x1.Row.Id).1).toNat)) (((impl_findAlive_m x0 x1.Row.Id).2).toNat)).Values), iFoc (tSl tyVersion 102) 100 (some ⟨g42, 0, none⟩) x0.Segments.length c23 x0.Segments (((impl_findAlive_m x0 x1.Row.Id).1).toNat) [.slice (some ⟨g49, 0, none⟩) (gt x0.Segments (((impl_findAlive_m x0 x1.Row.Id).1).toNat)).length c46], iOwn (tSl tInt 3) [.slice A36 x1.Row.Values.length c37] x1.Row.Values, iBox p26 45 [.slice (some ⟨g42, 0, none⟩) x0.Segments.length c23, .int .i64 (IntKind.i64.wrap (x0.Now + 1))], iBox p19 45 [.slice none 0 0, .int .i64 0], iBox p18 71 [.int .i64 x1.Kind, .int .i64 x1.Row.Id, .slice A11 x1.Row.Values.length c12, .int .i64 x1.Field, .int .i64 x1.Value], iBox p17 45 [.slice (some a56) x0.Segments.length c5, .int .i64 x0.Now]])) (fun _ _ hs => tyVersion_join (x := (⟨(gt (gt x0.Segments (((impl_findAlive_m x0 x1.Row.Id).1).toNat)) (((impl_findAlive_m x0 x1.Row.Id).2).toNat)).Id, (gt (gt x0.Segments (((impl_findAlive_m x0 x1.Row.Id).1).toNat)) (((impl_findAlive_m x0 x1.Row.Id).2).toNat)).Values, (gt (gt x0.Segments (((impl_findAlive_m x0 x1.Row.Id).1).toNat)) (((impl_findAlive_m x0 x1.Row.Id).2).toNat)).Born, (IntKind.i64.wrap (x0.Now + 1))⟩ : DVersion)) hs) (hm.pick [2, 1, 0, 3, 4, 5, 6, 7, 8] (by decide)))) ?_
                refine CM_items (fun W hm => Mem.unfocus (Mem.join (is := [iOwn (tSl tyVersion 102) [.slice (some ⟨g49, 0, none⟩) (gt x0.Segments (((impl_findAlive_m x0 x1.Row.Id).1).toNat)).length c46] (impl_ApplyUpdate_v1 x0 x1)]) (js := (iFoc (tSl tyVersion 102) 100 (some ⟨g42, 0, none⟩) x0.Segments.length c23 x0.Segments (((impl_findAlive_m x0 x1.Row.Id).1).toNat) [.slice (some ⟨g49, 0, none⟩) (gt x0.Segments (((impl_findAlive_m x0 x1.Row.Id).1).toNat)).length c46] :: [iOwn (tSl tInt 3) [.slice A83 ((gt (gt x0.Segments (((impl_findAlive_m x0 x1.Row.Id).1).toNat)) (((impl_findAlive_m x0 x1.Row.Id).2).toNat)).Values).length c84] ((gt (gt x0.Segments (((impl_findAlive_m x0 x1.Row.Id).1).toNat)) (((impl_findAlive_m x0 x1.Row.Id).2).toNat)).Values), iOwn (tSl tInt 3) [.slice A36 x1.Row.Values.length c37] x1.Row.Values, iBox p26 45 [.slice (some ⟨g42, 0, none⟩) x0.Segments.length c23, .int .i64 (IntKind.i64.wrap (x0.Now + 1))], iBox p19 45 [.slice none 0 0, .int .i64 0], iBox p18 71 [.int .i64 x1.Kind, .int .i64 x1.Row.Id, .slice A11 x1.Row.Values.length c12, .int .i64 x1.Field, .int .i64 x1.Value], iBox p17 45 [.slice (some a56) x0.Segments.length c5, .int .i64 x0.Now]])) (fun _ _ hs => Sep.one hs) (hm.pick [0, 2, 1, 3, 4, 5, 6, 7] (by decide)))) ?_
                refine CM_loop (σ := Nat × (Unit) × (Unit)) (fun s => [(2, .pointer (some (⟨p17, 0, none⟩ : Addr))), (3, .pointer (some (⟨p18, 0, none⟩ : Addr))), (4, .pointer (some (⟨p19, 0, none⟩ : Addr))), (6, .pointer (some (⟨p26, 0, none⟩ : Addr))), (9, .slice A83 ((gt (gt x0.Segments (((impl_findAlive_m x0 x1.Row.Id).1).toNat)) (((impl_findAlive_m x0 x1.Row.Id).2).toNat)).Values).length c84), (87, .slice (some ⟨g42, 0, none⟩) x0.Segments.length c23), (88, .int .i64 ((x0.Segments.length : Nat) : Int)), (89, .int .i64 ((s.1 : Nat) : Int))]) (fun s => [iOwn (tSl (tSl tyVersion 102) 100) [.slice (some ⟨g42, 0, none⟩) x0.Segments.length c23] (x0.Segments.set (((impl_findAlive_m x0 x1.Row.Id).1).toNat) (impl_ApplyUpdate_v1 x0 x1)), iOwn (tSl tInt 3) [.slice A83 ((gt (gt x0.Segments (((impl_findAlive_m x0 x1.Row.Id).1).toNat)) (((impl_findAlive_m x0 x1.Row.Id).2).toNat)).Values).length c84] ((gt (gt x0.Segments (((impl_findAlive_m x0 x1.Row.Id).1).toNat)) (((impl_findAlive_m x0 x1.Row.Id).2).toNat)).Values), iOwn (tSl tInt 3) [.slice A36 x1.Row.Values.length c37] x1.Row.Values, iBox p26 45 [.slice (some ⟨g42, 0, none⟩) x0.Segments.length c23, .int .i64 (IntKind.i64.wrap (x0.Now + 1))], iBox p19 45 [.slice none 0 0, .int .i64 0], iBox p18 71 [.int .i64 x1.Kind, .int .i64 x1.Row.Id, .slice A11 x1.Row.Values.length c12, .int .i64 x1.Field, .int .i64 x1.Value], iBox p17 45 [.slice (some a56) x0.Segments.length c5, .int .i64 x0.Now]]) (fun s => s.1 ≤ x0.Segments.length ∧ rng (R := (DStore × Bool)) (fun k (_ : Unit) => impl_ApplyUpdate_b2 x0 x1 k) (x0.Segments.length - s.1) s.1 s.2.1 = rng (R := (DStore × Bool)) (fun k (_ : Unit) => impl_ApplyUpdate_b2 x0 x1 k) (x0.Segments.length - 0) 0 ()) (fun s => x0.Segments.length - s.1) (0, (), ()) (subL_cons rfl (subL_cons rfl (subL_cons rfl (subL_cons rfl (subL_cons rfl (subL_cons rfl (subL_cons rfl (subL_cons rfl subL_nil)))))))) (fun W hm => hm) ⟨(by omega), rfl⟩ ?_
                rintro ⟨k122, ⟨⟩, ⟨⟩⟩ H125
                obtain ⟨hk123, hF124⟩ : k122 ≤ x0.Segments.length ∧ rng (R := (DStore × Bool)) (fun k (_ : Unit) => impl_ApplyUpdate_b2 x0 x1 k) (x0.Segments.length - k122) k122 () = rng (R := (DStore × Bool)) (fun k (_ : Unit) => impl_ApplyUpdate_b2 x0 x1 k) (x0.Segments.length - 0) 0 () := H125
                show CM Try.prog 115 _ _ _ _ [(2, .pointer (some (⟨p17, 0, none⟩ : Addr))), (3, .pointer (some (⟨p18, 0, none⟩ : Addr))), (4, .pointer (some (⟨p19, 0, none⟩ : Addr))), (6, .pointer (some (⟨p26, 0, none⟩ : Addr))), (9, .slice A83 ((gt (gt x0.Segments (((impl_findAlive_m x0 x1.Row.Id).1).toNat)) (((impl_findAlive_m x0 x1.Row.Id).2).toNat)).Values).length c84), (87, .slice (some ⟨g42, 0, none⟩) x0.Segments.length c23), (88, .int .i64 ((x0.Segments.length : Nat) : Int)), (89, .int .i64 ((k122 : Nat) : Int))] [iOwn (tSl (tSl tyVersion 102) 100) [.slice (some ⟨g42, 0, none⟩) x0.Segments.length c23] (x0.Segments.set (((impl_findAlive_m x0 x1.Row.Id).1).toNat) (impl_ApplyUpdate_v1 x0 x1)), iOwn (tSl tInt 3) [.slice A83 ((gt (gt x0.Segments (((impl_findAlive_m x0 x1.Row.Id).1).toNat)) (((impl_findAlive_m x0 x1.Row.Id).2).toNat)).Values).length c84] ((gt (gt x0.Segments (((impl_findAlive_m x0 x1.Row.Id).1).toNat)) (((impl_findAlive_m x0 x1.Row.Id).2).toNat)).Values), iOwn (tSl tInt 3) [.slice A36 x1.Row.Values.length c37] x1.Row.Values, iBox p26 45 [.slice (some ⟨g42, 0, none⟩) x0.Segments.length c23, .int .i64 (IntKind.i64.wrap (x0.Now + 1))], iBox p19 45 [.slice none 0 0, .int .i64 0], iBox p18 71 [.int .i64 x1.Kind, .int .i64 x1.Row.Id, .slice A11 x1.Row.Values.length c12, .int .i64 x1.Field, .int .i64 x1.Value], iBox p17 45 [.slice (some a56) x0.Segments.length c5, .int .i64 x0.Now]]
                refine sr ?_
                refine wv (fun W hm => rv_lss rfl rfl) ?_
                refine nt' ?_
                refine CM_seq ?_
                by_cases hl126 : k122 < x0.Segments.length
                · have g127 : (decide (((k122 : Nat) : Int) < ((x0.Segments.length : Nat) : Int))) = true := decide_eq_true (by omega)
                  refine CM_condT rfl g127 ?_
                  refine CM_skip ?_
                  refine QM_then ?_
                  refine CM_seq ?_
                  refine CM_block ?_
                  refine sr ?_
                  refine wm ?_
                  refine wv (fun W hm => rv_index (sz := 1) (k := k122) Try.underlying43 Try.type100 rfl rfl rfl (by omega)) ?_
                  refine WM_focus (E := (tSl tyVersion 102)) (e := 100) (A := (some ⟨g42, 0, none⟩)) (n := x0.Segments.length) (c := c23) (xs := (x0.Segments.set (((impl_findAlive_m x0 x1.Row.Id).1).toNat) (impl_ApplyUpdate_v1 x0 x1))) (k := k122) (js := [iOwn (tSl tInt 3) [.slice A83 ((gt (gt x0.Segments (((impl_findAlive_m x0 x1.Row.Id).1).toNat)) (((impl_findAlive_m x0 x1.Row.Id).2).toNat)).Values).length c84] ((gt (gt x0.Segments (((impl_findAlive_m x0 x1.Row.Id).1).toNat)) (((impl_findAlive_m x0 x1.Row.Id).2).toNat)).Values), iOwn (tSl tInt 3) [.slice A36 x1.Row.Values.length c37] x1.Row.Values, iBox p26 45 [.slice (some ⟨g42, 0, none⟩) x0.Segments.length c23, .int .i64 (IntKind.i64.wrap (x0.Now + 1))], iBox p19 45 [.slice none 0 0, .int .i64 0], iBox p18 71 [.int .i64 x1.Kind, .int .i64 x1.Row.Id, .slice A11 x1.Row.Values.length c12, .int .i64 x1.Field, .int .i64 x1.Value], iBox p17 45 [.slice (some a56) x0.Segments.length c5, .int .i64 x0.Now]]) (by omega) (fun W hm => hm) (fun ck128 => ?_)
                  refine WM_split (γ := Value) (js := fun g => [iOwn (tSl tyVersion 102) [g] (gt (x0.Segments.set (((impl_findAlive_m x0 x1.Row.Id).1).toNat) (impl_ApplyUpdate_v1 x0 x1)) k122)]) (C := fun g => ck128 = [g]) (fun _ _ h => tSl_split h) ?_
                  rintro v129 rfl
                  refine WM_form (n := 0) rfl ?_
                  rintro A130 c131 rfl m132
                  refine wv (fun W hm => rv_load Try.underlying100 rfl rfl (hm.focInt (i := 1) rfl rfl)) ?_
                  refine wa ?_
                  refine wa ?_
                  refine nt' ?_
                  refine sr ?_
                  refine wm ?_
                  refine wv (fun W hm => rv_len Try.underlying100 rfl) ?_
                  refine wv (fun W hm => rv_lss rfl rfl) ?_
                  refine nt' ?_
                  by_cases h134 : (((gt (x0.Segments.set (((impl_findAlive_m x0 x1.Row.Id).1).toNat) (impl_ApplyUpdate_v1 x0 x1)) k122).length : Nat) : Int) < 4
                  · have g135 : (decide ((((gt (x0.Segments.set (((impl_findAlive_m x0 x1.Row.Id).1).toNat) (impl_ApplyUpdate_v1 x0 x1)) k122).length : Nat) : Int) < 4)) = true := decide_eq_true h134
                    refine CM_condT rfl g135 ?_
                    refine CM_seq ?_
                    refine CM_regionB (n := 15) (listed := #[false, false, false, false, false, false, false, false, false, false, false, false, false, false, false]) (s := [iOwn (tSl tInt 3) [.slice A36 x1.Row.Values.length c37] x1.Row.Values, iBox p26 45 [.slice (some ⟨g42, 0, none⟩) x0.Segments.length c23, .int .i64 (IntKind.i64.wrap (x0.Now + 1))], iBox p19 45 [.slice none 0 0, .int .i64 0], iBox p18 71 [.int .i64 x1.Kind, .int .i64 x1.Row.Id, .slice A11 x1.Row.Values.length c12, .int .i64 x1.Field, .int .i64 x1.Value], iBox p17 45 [.slice (some a56) x0.Segments.length c5, .int .i64 x0.Now]]) (by kernel_rfl) rfl (by kernel_rfl) (fun W hm => (hm.pick [3, 4, 5, 6, 7] (by decide))) ?_
                    refine QB_take 0 (listed' := #[true, false, false, false, false, false, false, false, false, false, false, false, false, false, false]) (by kernel_rfl) rfl (by kernel_rfl) (by kernel_rfl) (by kernel_rfl) (fun _ _ _ h => h) (fun W hm => rv_field Try.underlying45 rfl Try.type43 (by decide) rfl rfl) (Wd_none rfl) rfl (by decide) ?_
                    refine QB_take 1 (listed' := #[true, true, false, false, false, false, false, false, false, false, false, false, false, false, false]) (by kernel_rfl) rfl (by kernel_rfl) (by kernel_rfl) (by kernel_rfl) (fun _ _ _ h => h) (fun W hm => rv_load Try.underlying43 rfl rfl (hm.boxCell (n := 1) (o := 0) rfl rfl)) (Wd_none rfl) rfl (by decide) ?_
                    refine QB_take 2 (listed' := #[true, true, true, false, false, false, false, false, false, false, false, false, false, false, false]) (by kernel_rfl) rfl (by kernel_rfl) (by kernel_rfl) (by kernel_rfl) (fun _ _ _ h => h) (fun W hm => rv_move rfl) (Wd_none rfl) rfl (by decide) ?_
                    refine QB_take 3 (listed' := #[true, true, true, true, false, false, false, false, false, false, false, false, false, false, false]) (by kernel_rfl) rfl (by kernel_rfl) (by kernel_rfl) (by kernel_rfl) (fun _ _ _ h => h) (fun W hm => rv_move rfl) (Wd_none rfl) rfl (by decide) ?_
                    refine QB_take 4 (listed' := #[true, true, true, true, true, false, false, false, false, false, false, false, false, false, false]) (by kernel_rfl) rfl (by kernel_rfl) (by kernel_rfl) (by kernel_rfl) (fun _ _ _ h => h) (fun W hm => rv_field Try.underlying71 rfl Try.type69 (by decide) rfl rfl) (Wd_none rfl) rfl (by decide) ?_
                    refine QB_take 5 (listed' := #[true, true, true, true, true, true, false, false, false, false, false, false, false, false, false]) (by kernel_rfl) rfl (by kernel_rfl) (by kernel_rfl) (by kernel_rfl) (fun _ _ _ h => h) (fun W hm => rv_fieldA (o := 1) Try.underlying69 rfl Try.type3 (by decide) rfl rfl) (Wd_none rfl) rfl (by decide) ?_
                    refine QB_take 6 (listed' := #[true, true, true, true, true, true, true, false, false, false, false, false, false, false, false]) (by kernel_rfl) rfl (by kernel_rfl) (by kernel_rfl) (by kernel_rfl) (fun _ _ _ h => h) (fun W hm => rv_load Try.underlying3 rfl rfl (hm.boxCell (n := 3) (o := 1) rfl rfl)) (Wd_none rfl) rfl (by decide) ?_
                    refine QB_take 7 (listed' := #[true, true, true, true, true, true, true, true, false, false, false, false, false, false, false]) (by kernel_rfl) rfl (by kernel_rfl) (by kernel_rfl) (by kernel_rfl) (fun _ _ _ h => h) (fun W hm => rv_move rfl) (Wd_none rfl) rfl (by decide) ?_
                    refine QB_take 8 (listed' := #[true, true, true, true, true, true, true, true, true, false, false, false, false, false, false]) (by kernel_rfl) rfl (by kernel_rfl) (by kernel_rfl) (by kernel_rfl) (fun _ _ _ h => h) (fun W hm => rv_field Try.underlying45 rfl Try.type3 (by decide) rfl rfl) (Wd_none rfl) rfl (by decide) ?_
                    refine QB_take 9 (listed' := #[true, true, true, true, true, true, true, true, true, true, false, false, false, false, false]) (by kernel_rfl) rfl (by kernel_rfl) (by kernel_rfl) (by kernel_rfl) (fun _ _ _ h => h) (fun W hm => rv_load Try.underlying3 rfl rfl (hm.boxCell (n := 1) (o := 1) rfl rfl)) (Wd_none rfl) rfl (by decide) ?_
                    refine QB_take 10 (listed' := #[true, true, true, true, true, true, true, true, true, true, true, false, false, false, false]) (by kernel_rfl) rfl (by kernel_rfl) (by kernel_rfl) (by kernel_rfl) (fun _ _ _ h => h) (fun W hm => rv_build (cs := [.int .i64 x1.Row.Id, .slice A83 ((gt (gt x0.Segments (((impl_findAlive_m x0 x1.Row.Id).1).toNat)) (((impl_findAlive_m x0 x1.Row.Id).2).toNat)).Values).length c84, .int .i64 (IntKind.i64.wrap (x0.Now + 1)), .int .i64 (-1)]) rfl (by kernel_rfl)) (Wd_none rfl) rfl (by decide) ?_
                    refine QB_one 11 (listed' := #[true, true, true, true, true, true, true, true, true, true, true, true, false, false, false]) (by kernel_rfl) rfl (by kernel_rfl) ?_
                    refine WM_build (cs := [.int .i64 x1.Row.Id, .slice A83 ((gt (gt x0.Segments (((impl_findAlive_m x0 x1.Row.Id).1).toNat)) (((impl_findAlive_m x0 x1.Row.Id).2).toNat)).Values).length c84, .int .i64 (IntKind.i64.wrap (x0.Now + 1)), .int .i64 (-1)]) Try.underlying100 Try.type102 rfl (by decide) (by decide) rfl (by kernel_rfl) (Wd_none rfl) (by decide) (fun p136 => ?_)
                    refine WM_nil ?_
                    refine QB_next (fun W hm => (hm.pick [4, 5, 6, 7, 8] (by decide))) ?_
                    refine QB_one 12 (listed' := #[true, true, true, true, true, true, true, true, true, true, true, true, true, false, false]) (by kernel_rfl) rfl (by kernel_rfl) ?_
                    refine WM_append (E := tyVersion) (e := 102) (v := .slice A130 (gt (x0.Segments.set (((impl_findAlive_m x0 x1.Row.Id).1).toNat) (impl_ApplyUpdate_v1 x0 x1)) k122).length c131) (p := p136) (q := 1) (xs := (gt (x0.Segments.set (((impl_findAlive_m x0 x1.Row.Id).1).toNat) (impl_ApplyUpdate_v1 x0 x1)) k122)) (ys := [(⟨x1.Row.Id, ((gt (gt x0.Segments (((impl_findAlive_m x0 x1.Row.Id).1).toNat)) (((impl_findAlive_m x0 x1.Row.Id).2).toNat)).Values), (IntKind.i64.wrap (x0.Now + 1)), (-1)⟩ : DVersion)]) (eis := [iOwn (tSl tInt 3) [.slice A83 ((gt (gt x0.Segments (((impl_findAlive_m x0 x1.Row.Id).1).toNat)) (((impl_findAlive_m x0 x1.Row.Id).2).toNat)).Values).length c84] ((gt (gt x0.Segments (((impl_findAlive_m x0 x1.Row.Id).1).toNat)) (((impl_findAlive_m x0 x1.Row.Id).2).toNat)).Values)]) (js := [iFoc (tSl tyVersion 102) 100 (some ⟨g42, 0, none⟩) x0.Segments.length c23 (x0.Segments.set (((impl_findAlive_m x0 x1.Row.Id).1).toNat) (impl_ApplyUpdate_v1 x0 x1)) k122 [.slice A130 (gt (x0.Segments.set (((impl_findAlive_m x0 x1.Row.Id).1).toNat) (impl_ApplyUpdate_v1 x0 x1)) k122).length c131], iOwn (tSl tInt 3) [.slice A36 x1.Row.Values.length c37] x1.Row.Values, iBox p26 45 [.slice (some ⟨g42, 0, none⟩) x0.Segments.length c23, .int .i64 (IntKind.i64.wrap (x0.Now + 1))], iBox p19 45 [.slice none 0 0, .int .i64 0], iBox p18 71 [.int .i64 x1.Kind, .int .i64 x1.Row.Id, .slice A11 x1.Row.Values.length c12, .int .i64 x1.Field, .int .i64 x1.Value], iBox p17 45 [.slice (some a56) x0.Segments.length c5, .int .i64 x0.Now]]) (news := [.int .i64 x1.Row.Id, .slice A83 ((gt (gt x0.Segments (((impl_findAlive_m x0 x1.Row.Id).1).toNat)) (((impl_findAlive_m x0 x1.Row.Id).2).toNat)).Values).length c84, .int .i64 (IntKind.i64.wrap (x0.Now + 1)), .int .i64 (-1)]) (fun W hm => (hm.pick [0, 1, 3, 2, 4, 5, 6, 7, 8] (by decide))) (fun _ _ hs => Els.single (tyVersion_join (x := (⟨x1.Row.Id, ((gt (gt x0.Segments (((impl_findAlive_m x0 x1.Row.Id).1).toNat)) (((impl_findAlive_m x0 x1.Row.Id).2).toNat)).Values), (IntKind.i64.wrap (x0.Now + 1)), (-1)⟩ : DVersion)) hs)) Try.underlying100 Try.type102 rfl rfl rfl (Nat.le_of_ble_eq_true rfl) rfl rfl rfl (show ((gt (x0.Segments.set (((impl_findAlive_m x0 x1.Row.Id).1).toNat) (impl_ApplyUpdate_v1 x0 x1)) k122).length + 1) * 48 ≤ 140737488355328 from by first | omega | (have hx := gtset_len (xs := x0.Segments) (i := (impl_findAlive_m x0 x1.Row.Id).1.toNat) (y := impl_ApplyUpdate_v1 x0 x1) List.length_set k122; omega)) (show (gt (x0.Segments.set (((impl_findAlive_m x0 x1.Row.Id).1).toNat) (impl_ApplyUpdate_v1 x0 x1)) k122).length + 1 ≤ 9223372036854775807 from by first | omega | (have hx := gtset_len (xs := x0.Segments) (i := (impl_findAlive_m x0 x1.Row.Id).1.toNat) (y := impl_ApplyUpdate_v1 x0 x1) List.length_set k122; omega)) (Wd_none rfl) (by decide) (fun v137 => ?_)
                    refine WM_form (n := 0) rfl ?_
                    rintro A138 c139 rfl m140
                    refine WM_nil ?_
                    refine QB_next (fun W hm => (hm.pick [2, 3, 4, 5, 6] (by decide))) ?_
                    refine QB_take 13 (listed' := #[true, true, true, true, true, true, true, true, true, true, true, true, true, true, false]) (by kernel_rfl) rfl (by kernel_rfl) (by kernel_rfl) (by kernel_rfl) (fun _ _ _ h => h) (fun W hm => rv_index (sz := 1) (k := k122) Try.underlying43 Try.type100 rfl rfl rfl (by omega)) (Wd_none rfl) rfl (by decide) ?_
                    refine QB_one 14 (listed' := #[true, true, true, true, true, true, true, true, true, true, true, true, true, true, true]) (by kernel_rfl) rfl (by kernel_rfl) ?_
                    refine WM_storeFoc (E := (tSl tyVersion 102)) (e := 100) (g := g42) (n := x0.Segments.length) (c := c23) (k := k122) (s := 1) (o := 0) (xs := (x0.Segments.set (((impl_findAlive_m x0 x1.Row.Id).1).toNat) (impl_ApplyUpdate_v1 x0 x1))) (ck := [.slice A130 (gt (x0.Segments.set (((impl_findAlive_m x0 x1.Row.Id).1).toNat) (impl_ApplyUpdate_v1 x0 x1)) k122).length c131]) (ck' := [.slice A138 (impl_ApplyUpdate_v3 x0 x1 k122).length c139]) (js := [iOwn (tSl tyVersion 102) [.slice A138 (impl_ApplyUpdate_v3 x0 x1 k122).length c139] (impl_ApplyUpdate_v3 x0 x1 k122), iOwn (tSl tInt 3) [.slice A36 x1.Row.Values.length c37] x1.Row.Values, iBox p26 45 [.slice (some ⟨g42, 0, none⟩) x0.Segments.length c23, .int .i64 (IntKind.i64.wrap (x0.Now + 1))], iBox p19 45 [.slice none 0 0, .int .i64 0], iBox p18 71 [.int .i64 x1.Kind, .int .i64 x1.Row.Id, .slice A11 x1.Row.Values.length c12, .int .i64 x1.Field, .int .i64 x1.Value], iBox p17 45 [.slice (some a56) x0.Segments.length c5, .int .i64 x0.Now]]) (fun W hm => (hm.pick [1, 0, 2, 3, 4, 5, 6] (by decide))) rfl (add0 _).symm Try.type100 rfl (Nat.le_of_ble_eq_true rfl) rfl rfl rfl rfl (Wd_none rfl) ?_
                    refine WM_nil ?_
                    refine QB_next (fun W hm => (hm.pick [2, 3, 4, 5, 6] (by decide))) ?_
                    refine QB_done (by kernel_rfl) ?_
                    refine QM_then ?_
                    refine sr ?_
                    refine wv (fun W hm => rv_loadN (cs := [.slice (some ⟨g42, 0, none⟩) x0.Segments.length c23, .int .i64 (IntKind.i64.wrap (x0.Now + 1))]) Try.underlying45 Try.type45 rfl rfl (hm.boxCells (n := 3) rfl)) ?_
                    refine WM_storeBox (p := p19) (o := 0) (cs := [.slice none 0 0, .int .i64 0]) (cs' := [.slice (some ⟨g42, 0, none⟩) x0.Segments.length c23, .int .i64 (IntKind.i64.wrap (x0.Now + 1))]) (js := [iFoc (tSl tyVersion 102) 100 (some ⟨g42, 0, none⟩) x0.Segments.length c23 (x0.Segments.set (((impl_findAlive_m x0 x1.Row.Id).1).toNat) (impl_ApplyUpdate_v1 x0 x1)) k122 [.slice A138 (impl_ApplyUpdate_v3 x0 x1 k122).length c139], iOwn (tSl tyVersion 102) [.slice A138 (impl_ApplyUpdate_v3 x0 x1 k122).length c139] (impl_ApplyUpdate_v3 x0 x1 k122), iOwn (tSl tInt 3) [.slice A36 x1.Row.Values.length c37] x1.Row.Values, iBox p26 45 [.slice (some ⟨g42, 0, none⟩) x0.Segments.length c23, .int .i64 (IntKind.i64.wrap (x0.Now + 1))], iBox p18 71 [.int .i64 x1.Kind, .int .i64 x1.Row.Id, .slice A11 x1.Row.Values.length c12, .int .i64 x1.Field, .int .i64 x1.Value], iBox p17 45 [.slice (some a56) x0.Segments.length c5, .int .i64 x0.Now]]) (fun W hm => (hm.pick [4, 0, 1, 2, 3, 5, 6] (by decide))) Try.type45 rfl (Nat.le_of_ble_eq_true rfl) rfl rfl rfl rfl (Wd_none rfl) ?_
                    refine wa ?_
                    refine nt' ?_
                    refine CM_ret ?_
                    refine QM_block_ret ?_
                    refine QM_then_ret ?_
                    refine QM_then_ret ?_
                    refine QM_block_ret ?_
                    refine QM_then_ret ?_
                    refine QM_items (fun W hm => Mem.unfocus (Mem.join (is := [iOwn (tSl tyVersion 102) [.slice A138 (impl_ApplyUpdate_v3 x0 x1 k122).length c139] (impl_ApplyUpdate_v3 x0 x1 k122)]) (js := (iFoc (tSl tyVersion 102) 100 (some ⟨g42, 0, none⟩) x0.Segments.length c23 (x0.Segments.set (((impl_findAlive_m x0 x1.Row.Id).1).toNat) (impl_ApplyUpdate_v1 x0 x1)) k122 [.slice A138 (impl_ApplyUpdate_v3 x0 x1 k122).length c139] :: [iBox p19 45 [.slice (some ⟨g42, 0, none⟩) x0.Segments.length c23, .int .i64 (IntKind.i64.wrap (x0.Now + 1))], iOwn (tSl tInt 3) [.slice A36 x1.Row.Values.length c37] x1.Row.Values, iBox p26 45 [.slice (some ⟨g42, 0, none⟩) x0.Segments.length c23, .int .i64 (IntKind.i64.wrap (x0.Now + 1))], iBox p18 71 [.int .i64 x1.Kind, .int .i64 x1.Row.Id, .slice A11 x1.Row.Values.length c12, .int .i64 x1.Field, .int .i64 x1.Value], iBox p17 45 [.slice (some a56) x0.Segments.length c5, .int .i64 x0.Now]])) (fun _ _ hs => Sep.one hs) (hm.pick [2, 1, 0, 3, 4, 5, 6] (by decide)))) ?_
                    refine QM_r2 rfl (RR_cell (n := 1) rfl rfl Try.underlying45 Try.type45 rfl) (RR_tmp rfl) (fun W hm => ⟨[.slice (some ⟨g42, 0, none⟩) x0.Segments.length c23, .int .i64 (IntKind.i64.wrap (x0.Now + 1))], ?_, ?_⟩)
                    · first | rw [(show impl_ApplyUpdate_m x0 x1 = ((⟨((x0.Segments.set (((impl_findAlive_m x0 x1.Row.Id).1).toNat) (impl_ApplyUpdate_v1 x0 x1)).set k122 (impl_ApplyUpdate_v3 x0 x1 k122)), (IntKind.i64.wrap (x0.Now + 1))⟩ : DStore), true) from by unfold impl_ApplyUpdate_m; exact cond_t g28 (cond_t g30 (cond_f g32 (cond_f g34 (cond_t g41 (cond_f g88 (cond_f g121 (fin_inl (rng_ret (body := (fun k (_ : Unit) => impl_ApplyUpdate_b2 x0 x1 k)) (k := k122) (s := ()) (show k122 < x0.Segments.length from by omega) (show impl_ApplyUpdate_b2 x0 x1 k122 = Sum.inl ((⟨((x0.Segments.set (((impl_findAlive_m x0 x1.Row.Id).1).toNat) (impl_ApplyUpdate_v1 x0 x1)).set k122 (impl_ApplyUpdate_v3 x0 x1 k122)), (IntKind.i64.wrap (x0.Now + 1))⟩ : DStore), true) from by unfold impl_ApplyUpdate_b2; exact cond_t g135 (rfl)) hF124) rfl))))))))] | rfl
                    · rw [(show impl_ApplyUpdate_m x0 x1 = ((⟨((x0.Segments.set (((impl_findAlive_m x0 x1.Row.Id).1).toNat) (impl_ApplyUpdate_v1 x0 x1)).set k122 (impl_ApplyUpdate_v3 x0 x1 k122)), (IntKind.i64.wrap (x0.Now + 1))⟩ : DStore), true) from by unfold impl_ApplyUpdate_m; exact cond_t g28 (cond_t g30 (cond_f g32 (cond_f g34 (cond_t g41 (cond_f g88 (cond_f g121 (fin_inl (rng_ret (body := (fun k (_ : Unit) => impl_ApplyUpdate_b2 x0 x1 k)) (k := k122) (s := ()) (show k122 < x0.Segments.length from by omega) (show impl_ApplyUpdate_b2 x0 x1 k122 = Sum.inl ((⟨((x0.Segments.set (((impl_findAlive_m x0 x1.Row.Id).1).toNat) (impl_ApplyUpdate_v1 x0 x1)).set k122 (impl_ApplyUpdate_v3 x0 x1 k122)), (IntKind.i64.wrap (x0.Now + 1))⟩ : DStore), true) from by unfold impl_ApplyUpdate_b2; exact cond_t g135 (rfl)) hF124) rfl))))))))]; exact Mem.join (is := [iOwn (tSl (tSl tyVersion 102) 100) [.slice (some ⟨g42, 0, none⟩) x0.Segments.length c23] ((x0.Segments.set (((impl_findAlive_m x0 x1.Row.Id).1).toNat) (impl_ApplyUpdate_v1 x0 x1)).set k122 (impl_ApplyUpdate_v3 x0 x1 k122))]) (js := []) (fun _ _ hs => tyStore_join (x := (⟨((x0.Segments.set (((impl_findAlive_m x0 x1.Row.Id).1).toNat) (impl_ApplyUpdate_v1 x0 x1)).set k122 (impl_ApplyUpdate_v3 x0 x1 k122)), (IntKind.i64.wrap (x0.Now + 1))⟩ : DStore)) hs) (hm.pick [0] (by decide))
                  · have g135 : (decide ((((gt (x0.Segments.set (((impl_findAlive_m x0 x1.Row.Id).1).toNat) (impl_ApplyUpdate_v1 x0 x1)) k122).length : Nat) : Int) < 4)) = false := decide_eq_false h134
                    refine CM_condF rfl g135 ?_
                    refine CM_skip ?_
                    refine QM_block_normal ?_
                    refine QM_then ?_
                    refine CM_region ?_
                    refine wv (fun W hm => rv_addN (p := k122) (q := 1) rfl rfl (by omega)) ?_
                    refine wm ?_
                    refine WM_nil ?_
                    refine QM_items (fun W hm => Mem.unfocus0 (Mem.join (is := [iOwn (tSl tyVersion 102) [.slice A130 (gt (x0.Segments.set (((impl_findAlive_m x0 x1.Row.Id).1).toNat) (impl_ApplyUpdate_v1 x0 x1)) k122).length c131] (gt (x0.Segments.set (((impl_findAlive_m x0 x1.Row.Id).1).toNat) (impl_ApplyUpdate_v1 x0 x1)) k122)]) (js := (iFoc (tSl tyVersion 102) 100 (some ⟨g42, 0, none⟩) x0.Segments.length c23 (x0.Segments.set (((impl_findAlive_m x0 x1.Row.Id).1).toNat) (impl_ApplyUpdate_v1 x0 x1)) k122 [.slice A130 (gt (x0.Segments.set (((impl_findAlive_m x0 x1.Row.Id).1).toNat) (impl_ApplyUpdate_v1 x0 x1)) k122).length c131] :: [iOwn (tSl tInt 3) [.slice A83 ((gt (gt x0.Segments (((impl_findAlive_m x0 x1.Row.Id).1).toNat)) (((impl_findAlive_m x0 x1.Row.Id).2).toNat)).Values).length c84] ((gt (gt x0.Segments (((impl_findAlive_m x0 x1.Row.Id).1).toNat)) (((impl_findAlive_m x0 x1.Row.Id).2).toNat)).Values), iOwn (tSl tInt 3) [.slice A36 x1.Row.Values.length c37] x1.Row.Values, iBox p26 45 [.slice (some ⟨g42, 0, none⟩) x0.Segments.length c23, .int .i64 (IntKind.i64.wrap (x0.Now + 1))], iBox p19 45 [.slice none 0 0, .int .i64 0], iBox p18 71 [.int .i64 x1.Kind, .int .i64 x1.Row.Id, .slice A11 x1.Row.Values.length c12, .int .i64 x1.Field, .int .i64 x1.Value], iBox p17 45 [.slice (some a56) x0.Segments.length c5, .int .i64 x0.Now]])) (fun _ _ hs => Sep.one hs) hm)) ?_
                    have hn142 := rng_next (R := (DStore × Bool)) (body := (fun k (_ : Unit) => impl_ApplyUpdate_b2 x0 x1 k)) (k := k122) (s := ()) (s' := ()) (show k122 < x0.Segments.length from by omega) (show impl_ApplyUpdate_b2 x0 x1 k122 = Sum.inr () from by unfold impl_ApplyUpdate_b2; exact cond_f g135 (rfl)) hF124
                    exact QM_round (k122 + 1, (), ()) (subL_cons rfl (subL_cons rfl (subL_cons rfl (subL_cons rfl (subL_cons rfl (subL_cons rfl (subL_cons rfl (subL_cons rfl subL_nil)))))))) (fun W hm => hm) ⟨(by omega), hn142⟩ (show x0.Segments.length - (k122 + 1) < x0.Segments.length - k122 from by omega)
                · have g127 : (decide (((k122 : Nat) : Int) < ((x0.Segments.length : Nat) : Int))) = false := decide_eq_false (by omega)
                  refine CM_condF rfl g127 ?_
                  refine CM_exit ?_
                  refine QM_then_exit ?_
                  refine QM_then_exit ?_
                  have hE143 : rng (R := (DStore × Bool)) (fun k (_ : Unit) => impl_ApplyUpdate_b2 x0 x1 k) (x0.Segments.length - 0) 0 () = Sum.inr () := rng_end hl126 hF124
                  refine QM_block_hit ?_
                  refine QM_then ?_
                  refine CM_seq ?_
                  refine CM_items (fun W hm => (hm.pick [4, 6] (by decide))) ?_
                  refine CM_region ?_
                  refine wv (fun W hm => rv_loadN (cs := [.slice (some a56) x0.Segments.length c5, .int .i64 x0.Now]) Try.underlying45 Try.type45 rfl rfl (hm.boxCells (n := 1) rfl)) ?_
                  refine WM_call (χ := List Value) (val := fun x => .agg x.toArray) (js := fun x => [iOwn tyStore x x0]) (cl_fn cb72 rfl) (fun W hm => impl_copyStore_c2 W _ x0 (tyStore_mk (x := x0) (hm.rdS0 r7)) s_0) (Wd_none rfl) (by decide) (fun z144 => ?_)
                  refine WM_split (γ := Value) (js := fun g => [iOwn (tSl (tSl tyVersion 102) 100) [g] x0.Segments]) (C := fun g => z144 = [g, .int .i64 x0.Now]) (fun _ _ h => tyStore_split h) ?_
                  rintro v145 rfl
                  refine WM_form (n := 0) rfl ?_
                  rintro A146 c147 rfl m148
                  refine WM_storeBox (p := p19) (o := 0) (cs := [.slice none 0 0, .int .i64 0]) (cs' := [.slice A146 x0.Segments.length c147, .int .i64 x0.Now]) (js := [iOwn (tSl (tSl tyVersion 102) 100) [.slice A146 x0.Segments.length c147] x0.Segments, iBox p17 45 [.slice (some a56) x0.Segments.length c5, .int .i64 x0.Now]]) (fun W hm => (hm.pick [1, 0, 2] (by decide))) Try.type45 rfl (Nat.le_of_ble_eq_true rfl) rfl rfl rfl rfl (Wd_none rfl) ?_
                  refine wa ?_
                  refine nt' ?_
                  refine CM_ret ?_
                  refine QM_r2 rfl (RR_cell (n := 0) rfl rfl Try.underlying45 Try.type45 rfl) (RR_tmp rfl) (fun W hm => ⟨[.slice A146 x0.Segments.length c147, .int .i64 x0.Now], ?_, ?_⟩)
                  · first | rw [(show impl_ApplyUpdate_m x0 x1 = (x0, false) from by unfold impl_ApplyUpdate_m; exact cond_t g28 (cond_t g30 (cond_f g32 (cond_f g34 (cond_t g41 (cond_f g88 (cond_f g121 (fin_inr hE143 (rfl)))))))))] | rfl
                  · rw [(show impl_ApplyUpdate_m x0 x1 = (x0, false) from by unfold impl_ApplyUpdate_m; exact cond_t g28 (cond_t g30 (cond_f g32 (cond_f g34 (cond_t g41 (cond_f g88 (cond_f g121 (fin_inr hE143 (rfl)))))))))]; exact Mem.join (is := [iOwn (tSl (tSl tyVersion 102) 100) [.slice A146 x0.Segments.length c147] x0.Segments]) (js := []) (fun _ _ hs => tyStore_join (x := x0) hs) (hm.pick [1] (by decide))
          · have g41 : (decide (0 ≤ ((impl_findAlive_m x0 x1.Row.Id).1))) = false := decide_eq_false h40
            refine CM_condF rfl g41 ?_
            refine CM_skip ?_
            refine QM_then ?_
            refine CM_seq ?_
            refine sr ?_
            refine wv (fun W hm => rv_field Try.underlying71 rfl Try.type3 (by decide) rfl rfl) ?_
            refine wv (fun W hm => rv_load Try.underlying3 rfl rfl (hm.boxCell (n := 4) (o := 0) rfl rfl)) ?_
            refine wv (fun W hm => rv_eql rfl rfl) ?_
            refine nt' ?_
            by_cases h150 : x1.Kind = 3
            · have g151 : (x1.Kind == 3) = true := beq_iff_eq.2 h150
              obtain ⟨hu5, hu6⟩ := hu2 (by assumption)
              refine CM_condT rfl g151 ?_
              refine CM_region ?_
              refine wm ?_
              refine wv (fun W hm => rv_field Try.underlying71 rfl Try.type3 (by decide) rfl rfl) ?_
              refine wv (fun W hm => rv_load Try.underlying3 rfl rfl (hm.boxCell (n := 4) (o := 3) rfl rfl)) ?_
              refine wv (fun W hm => rv_field Try.underlying71 rfl Try.type3 (by decide) rfl rfl) ?_
              refine wv (fun W hm => rv_load Try.underlying3 rfl rfl (hm.boxCell (n := 4) (o := 4) rfl rfl)) ?_
              refine WM_formO (n := 0) rfl (by omega) ?_
              rintro g152 rfl
              refine wv (fun W hm => rv_indexI (sz := 1) (k := x1.Field) Try.underlying33 Try.type3 rfl rfl rfl (by omega) (by omega)) ?_
              refine WM_setEl (E := tInt) (e := 3) (u := .int .i64 x1.Value) (k := (x1.Field.toNat)) (p := g152) (n := x1.Row.Values.length) (xs := x1.Row.Values) (eis := []) (js := [iBox p26 45 [.slice A22 x0.Segments.length c23, .int .i64 (IntKind.i64.wrap (x0.Now + 1))], iOwn (tSl (tSl tyVersion 102) 100) [.slice A22 x0.Segments.length c23] x0.Segments, iBox p19 45 [.slice none 0 0, .int .i64 0], iBox p18 71 [.int .i64 x1.Kind, .int .i64 x1.Row.Id, .slice A11 x1.Row.Values.length c12, .int .i64 x1.Field, .int .i64 x1.Value], iBox p17 45 [.slice A4 x0.Segments.length c5, .int .i64 x0.Now]]) (yv := x1.Value) (fun W hm => hm) (fun _ _ hs => (Sep.nil hs ▸ tInt_own)) rfl Try.type3 rfl (by omega) rfl rfl (Wd_none rfl) ?_
              refine nt' ?_
              refine CM_seq ?_
              refine sr ?_
              refine wv (fun W hm => rv_field Try.underlying71 rfl Try.type3 (by decide) rfl rfl) ?_
              refine wv (fun W hm => rv_load Try.underlying3 rfl rfl (hm.boxCell (n := 4) (o := 0) rfl rfl)) ?_
              refine wv (fun W hm => rv_eql rfl rfl) ?_
              refine nt' ?_
              by_cases h153 : x1.Kind = 2
              · have g154 : (x1.Kind == 2) = true := beq_iff_eq.2 h153
                refine CM_condT rfl g154 ?_
                refine CM_seq ?_
                refine CM_items (fun W hm => (hm.pick [1, 2, 3] (by decide))) ?_
                refine CM_region ?_
                refine wv (fun W hm => rv_loadN (cs := [.slice A22 x0.Segments.length c23, .int .i64 (IntKind.i64.wrap (x0.Now + 1))]) Try.underlying45 Try.type45 rfl rfl (hm.boxCells (n := 0) rfl)) ?_
                refine WM_storeBox (p := p19) (o := 0) (cs := [.slice none 0 0, .int .i64 0]) (cs' := [.slice A22 x0.Segments.length c23, .int .i64 (IntKind.i64.wrap (x0.Now + 1))]) (js := [iBox p26 45 [.slice A22 x0.Segments.length c23, .int .i64 (IntKind.i64.wrap (x0.Now + 1))], iOwn (tSl (tSl tyVersion 102) 100) [.slice A22 x0.Segments.length c23] x0.Segments]) (fun W hm => (hm.pick [2, 0, 1] (by decide))) Try.type45 rfl (Nat.le_of_ble_eq_true rfl) rfl rfl rfl rfl (Wd_none rfl) ?_
                refine wa ?_
                refine nt' ?_
                refine CM_ret ?_
                refine QM_then_ret ?_
                refine QM_r2 rfl (RR_cell (n := 0) rfl rfl Try.underlying45 Try.type45 rfl) (RR_tmp rfl) (fun W hm => ⟨[.slice A22 x0.Segments.length c23, .int .i64 (IntKind.i64.wrap (x0.Now + 1))], ?_, ?_⟩)
                · first | rw [(show impl_ApplyUpdate_m x0 x1 = ((⟨x0.Segments, (IntKind.i64.wrap (x0.Now + 1))⟩ : DStore), true) from by unfold impl_ApplyUpdate_m; exact cond_t g28 (cond_t g30 (cond_f g32 (cond_f g34 (cond_f g41 (cond_t g151 (cond_t g154 (rfl))))))))] | rfl
                · rw [(show impl_ApplyUpdate_m x0 x1 = ((⟨x0.Segments, (IntKind.i64.wrap (x0.Now + 1))⟩ : DStore), true) from by unfold impl_ApplyUpdate_m; exact cond_t g28 (cond_t g30 (cond_f g32 (cond_f g34 (cond_f g41 (cond_t g151 (cond_t g154 (rfl))))))))]; exact Mem.join (is := [iOwn (tSl (tSl tyVersion 102) 100) [.slice A22 x0.Segments.length c23] x0.Segments]) (js := []) (fun _ _ hs => tyStore_join (x := (⟨x0.Segments, (IntKind.i64.wrap (x0.Now + 1))⟩ : DStore)) hs) (hm.pick [2] (by decide))
              · have g154 : (x1.Kind == 2) = false := beq_eq_false_iff_ne.2 h153
                refine CM_condF rfl g154 ?_
                refine CM_skip ?_
                refine QM_then ?_
                refine CM_seq ?_
                refine sr ?_
                refine wv (fun W hm => rv_field Try.underlying45 rfl Try.type43 (by decide) rfl rfl) ?_
                refine wv (fun W hm => rv_load Try.underlying43 rfl rfl (hm.boxCell (n := 1) (o := 0) rfl rfl)) ?_
                refine wv (fun W hm => rv_len Try.underlying43 rfl) ?_
                refine wm ?_
                refine nt' ?_
                refine CM_block ?_
                refine CM_loop (σ := Nat × (Unit) × (Unit)) (fun s => [(2, .pointer (some (⟨p17, 0, none⟩ : Addr))), (3, .pointer (some (⟨p18, 0, none⟩ : Addr))), (4, .pointer (some (⟨p19, 0, none⟩ : Addr))), (6, .pointer (some (⟨p26, 0, none⟩ : Addr))), (9, .slice (some ⟨g152, 0, none⟩) x1.Row.Values.length c37), (87, .slice A22 x0.Segments.length c23), (88, .int .i64 ((x0.Segments.length : Nat) : Int)), (89, .int .i64 ((s.1 : Nat) : Int))]) (fun s => [iOwn (tSl tInt 3) [.slice (some ⟨g152, 0, none⟩) x1.Row.Values.length c37] (x1.Row.Values.set (x1.Field.toNat) x1.Value), iBox p26 45 [.slice A22 x0.Segments.length c23, .int .i64 (IntKind.i64.wrap (x0.Now + 1))], iOwn (tSl (tSl tyVersion 102) 100) [.slice A22 x0.Segments.length c23] x0.Segments, iBox p19 45 [.slice none 0 0, .int .i64 0], iBox p18 71 [.int .i64 x1.Kind, .int .i64 x1.Row.Id, .slice A11 x1.Row.Values.length c12, .int .i64 x1.Field, .int .i64 x1.Value], iBox p17 45 [.slice A4 x0.Segments.length c5, .int .i64 x0.Now]]) (fun s => s.1 ≤ x0.Segments.length ∧ rng (R := (DStore × Bool)) (fun k (_ : Unit) => impl_ApplyUpdate_b3 x0 x1 k) (x0.Segments.length - s.1) s.1 s.2.1 = rng (R := (DStore × Bool)) (fun k (_ : Unit) => impl_ApplyUpdate_b3 x0 x1 k) (x0.Segments.length - 0) 0 ()) (fun s => x0.Segments.length - s.1) (0, (), ()) (subL_cons rfl (subL_cons rfl (subL_cons rfl (subL_cons rfl (subL_cons rfl (subL_cons rfl (subL_cons rfl (subL_cons rfl subL_nil)))))))) (fun W hm => hm) ⟨(by omega), rfl⟩ ?_
                rintro ⟨k155, ⟨⟩, ⟨⟩⟩ H158
                obtain ⟨hk156, hF157⟩ : k155 ≤ x0.Segments.length ∧ rng (R := (DStore × Bool)) (fun k (_ : Unit) => impl_ApplyUpdate_b3 x0 x1 k) (x0.Segments.length - k155) k155 () = rng (R := (DStore × Bool)) (fun k (_ : Unit) => impl_ApplyUpdate_b3 x0 x1 k) (x0.Segments.length - 0) 0 () := H158
                show CM Try.prog 115 _ _ _ _ [(2, .pointer (some (⟨p17, 0, none⟩ : Addr))), (3, .pointer (some (⟨p18, 0, none⟩ : Addr))), (4, .pointer (some (⟨p19, 0, none⟩ : Addr))), (6, .pointer (some (⟨p26, 0, none⟩ : Addr))), (9, .slice (some ⟨g152, 0, none⟩) x1.Row.Values.length c37), (87, .slice A22 x0.Segments.length c23), (88, .int .i64 ((x0.Segments.length : Nat) : Int)), (89, .int .i64 ((k155 : Nat) : Int))] [iOwn (tSl tInt 3) [.slice (some ⟨g152, 0, none⟩) x1.Row.Values.length c37] (x1.Row.Values.set (x1.Field.toNat) x1.Value), iBox p26 45 [.slice A22 x0.Segments.length c23, .int .i64 (IntKind.i64.wrap (x0.Now + 1))], iOwn (tSl (tSl tyVersion 102) 100) [.slice A22 x0.Segments.length c23] x0.Segments, iBox p19 45 [.slice none 0 0, .int .i64 0], iBox p18 71 [.int .i64 x1.Kind, .int .i64 x1.Row.Id, .slice A11 x1.Row.Values.length c12, .int .i64 x1.Field, .int .i64 x1.Value], iBox p17 45 [.slice A4 x0.Segments.length c5, .int .i64 x0.Now]]
                refine sr ?_
                refine wv (fun W hm => rv_lss rfl rfl) ?_
                refine nt' ?_
                refine CM_seq ?_
                by_cases hl159 : k155 < x0.Segments.length
                · have g160 : (decide (((k155 : Nat) : Int) < ((x0.Segments.length : Nat) : Int))) = true := decide_eq_true (by omega)
                  refine CM_condT rfl g160 ?_
                  refine CM_skip ?_
                  refine QM_then ?_
                  refine CM_seq ?_
                  refine CM_block ?_
                  refine sr ?_
                  refine wm ?_
                  refine WM_formO (n := 2) rfl (by omega) ?_
                  rintro g161 rfl
                  refine wv (fun W hm => rv_index (sz := 1) (k := k155) Try.underlying43 Try.type100 rfl rfl rfl (by omega)) ?_
                  refine WM_focus (E := (tSl tyVersion 102)) (e := 100) (A := (some ⟨g161, 0, none⟩)) (n := x0.Segments.length) (c := c23) (xs := x0.Segments) (k := k155) (js := [iOwn (tSl tInt 3) [.slice (some ⟨g152, 0, none⟩) x1.Row.Values.length c37] (x1.Row.Values.set (x1.Field.toNat) x1.Value), iBox p26 45 [.slice (some ⟨g161, 0, none⟩) x0.Segments.length c23, .int .i64 (IntKind.i64.wrap (x0.Now + 1))], iBox p19 45 [.slice none 0 0, .int .i64 0], iBox p18 71 [.int .i64 x1.Kind, .int .i64 x1.Row.Id, .slice A11 x1.Row.Values.length c12, .int .i64 x1.Field, .int .i64 x1.Value], iBox p17 45 [.slice A4 x0.Segments.length c5, .int .i64 x0.Now]]) (by omega) (fun W hm => (hm.pick [2, 0, 1, 3, 4, 5] (by decide))) (fun ck162 => ?_)
                  refine WM_split (γ := Value) (js := fun g => [iOwn (tSl tyVersion 102) [g] (gt x0.Segments k155)]) (C := fun g => ck162 = [g]) (fun _ _ h => tSl_split h) ?_
                  rintro v163 rfl
                  refine WM_form (n := 0) rfl ?_
                  rintro A164 c165 rfl m166
                  refine wv (fun W hm => rv_load Try.underlying100 rfl rfl (hm.focInt (i := 1) rfl rfl)) ?_
                  refine wa ?_
                  refine wa ?_
                  refine nt' ?_
                  refine sr ?_
                  refine wm ?_
                  refine wv (fun W hm => rv_len Try.underlying100 rfl) ?_
                  refine wv (fun W hm => rv_lss rfl rfl) ?_
                  refine nt' ?_
                  by_cases h168 : (((gt x0.Segments k155).length : Nat) : Int) < 4
                  · have g169 : (decide ((((gt x0.Segments k155).length : Nat) : Int) < 4)) = true := decide_eq_true h168
                    refine CM_condT rfl g169 ?_
                    refine CM_seq ?_
                    refine CM_regionB (n := 15) (listed := #[false, false, false, false, false, false, false, false, false, false, false, false, false, false, false]) (s := [iBox p26 45 [.slice (some ⟨g161, 0, none⟩) x0.Segments.length c23, .int .i64 (IntKind.i64.wrap (x0.Now + 1))], iBox p19 45 [.slice none 0 0, .int .i64 0], iBox p18 71 [.int .i64 x1.Kind, .int .i64 x1.Row.Id, .slice A11 x1.Row.Values.length c12, .int .i64 x1.Field, .int .i64 x1.Value], iBox p17 45 [.slice A4 x0.Segments.length c5, .int .i64 x0.Now]]) (by kernel_rfl) rfl (by kernel_rfl) (fun W hm => (hm.pick [3, 4, 5, 6] (by decide))) ?_
                    refine QB_take 0 (listed' := #[true, false, false, false, false, false, false, false, false, false, false, false, false, false, false]) (by kernel_rfl) rfl (by kernel_rfl) (by kernel_rfl) (by kernel_rfl) (fun _ _ _ h => h) (fun W hm => rv_field Try.underlying45 rfl Try.type43 (by decide) rfl rfl) (Wd_none rfl) rfl (by decide) ?_
                    refine QB_take 1 (listed' := #[true, true, false, false, false, false, false, false, false, false, false, false, false, false, false]) (by kernel_rfl) rfl (by kernel_rfl) (by kernel_rfl) (by kernel_rfl) (fun _ _ _ h => h) (fun W hm => rv_load Try.underlying43 rfl rfl (hm.boxCell (n := 0) (o := 0) rfl rfl)) (Wd_none rfl) rfl (by decide) ?_
                    refine QB_take 2 (listed' := #[true, true, true, false, false, false, false, false, false, false, false, false, false, false, false]) (by kernel_rfl) rfl (by kernel_rfl) (by kernel_rfl) (by kernel_rfl) (fun _ _ _ h => h) (fun W hm => rv_move rfl) (Wd_none rfl) rfl (by decide) ?_
                    refine QB_take 3 (listed' := #[true, true, true, true, false, false, false, false, false, false, false, false, false, false, false]) (by kernel_rfl) rfl (by kernel_rfl) (by kernel_rfl) (by kernel_rfl) (fun _ _ _ h => h) (fun W hm => rv_move rfl) (Wd_none rfl) rfl (by decide) ?_
                    refine QB_take 4 (listed' := #[true, true, true, true, true, false, false, false, false, false, false, false, false, false, false]) (by kernel_rfl) rfl (by kernel_rfl) (by kernel_rfl) (by kernel_rfl) (fun _ _ _ h => h) (fun W hm => rv_field Try.underlying71 rfl Try.type69 (by decide) rfl rfl) (Wd_none rfl) rfl (by decide) ?_
                    refine QB_take 5 (listed' := #[true, true, true, true, true, true, false, false, false, false, false, false, false, false, false]) (by kernel_rfl) rfl (by kernel_rfl) (by kernel_rfl) (by kernel_rfl) (fun _ _ _ h => h) (fun W hm => rv_fieldA (o := 1) Try.underlying69 rfl Try.type3 (by decide) rfl rfl) (Wd_none rfl) rfl (by decide) ?_
                    refine QB_take 6 (listed' := #[true, true, true, true, true, true, true, false, false, false, false, false, false, false, false]) (by kernel_rfl) rfl (by kernel_rfl) (by kernel_rfl) (by kernel_rfl) (fun _ _ _ h => h) (fun W hm => rv_load Try.underlying3 rfl rfl (hm.boxCell (n := 2) (o := 1) rfl rfl)) (Wd_none rfl) rfl (by decide) ?_
                    refine QB_take 7 (listed' := #[true, true, true, true, true, true, true, true, false, false, false, false, false, false, false]) (by kernel_rfl) rfl (by kernel_rfl) (by kernel_rfl) (by kernel_rfl) (fun _ _ _ h => h) (fun W hm => rv_move rfl) (Wd_none rfl) rfl (by decide) ?_
                    refine QB_take 8 (listed' := #[true, true, true, true, true, true, true, true, true, false, false, false, false, false, false]) (by kernel_rfl) rfl (by kernel_rfl) (by kernel_rfl) (by kernel_rfl) (fun _ _ _ h => h) (fun W hm => rv_field Try.underlying45 rfl Try.type3 (by decide) rfl rfl) (Wd_none rfl) rfl (by decide) ?_
                    refine QB_take 9 (listed' := #[true, true, true, true, true, true, true, true, true, true, false, false, false, false, false]) (by kernel_rfl) rfl (by kernel_rfl) (by kernel_rfl) (by kernel_rfl) (fun _ _ _ h => h) (fun W hm => rv_load Try.underlying3 rfl rfl (hm.boxCell (n := 0) (o := 1) rfl rfl)) (Wd_none rfl) rfl (by decide) ?_
                    refine QB_take 10 (listed' := #[true, true, true, true, true, true, true, true, true, true, true, false, false, false, false]) (by kernel_rfl) rfl (by kernel_rfl) (by kernel_rfl) (by kernel_rfl) (fun _ _ _ h => h) (fun W hm => rv_build (cs := [.int .i64 x1.Row.Id, .slice (some ⟨g152, 0, none⟩) x1.Row.Values.length c37, .int .i64 (IntKind.i64.wrap (x0.Now + 1)), .int .i64 (-1)]) rfl (by kernel_rfl)) (Wd_none rfl) rfl (by decide) ?_
                    refine QB_one 11 (listed' := #[true, true, true, true, true, true, true, true, true, true, true, true, false, false, false]) (by kernel_rfl) rfl (by kernel_rfl) ?_
                    refine WM_build (cs := [.int .i64 x1.Row.Id, .slice (some ⟨g152, 0, none⟩) x1.Row.Values.length c37, .int .i64 (IntKind.i64.wrap (x0.Now + 1)), .int .i64 (-1)]) Try.underlying100 Try.type102 rfl (by decide) (by decide) rfl (by kernel_rfl) (Wd_none rfl) (by decide) (fun p170 => ?_)
                    refine WM_nil ?_
                    refine QB_next (fun W hm => (hm.pick [4, 5, 6, 7] (by decide))) ?_
                    refine QB_one 12 (listed' := #[true, true, true, true, true, true, true, true, true, true, true, true, true, false, false]) (by kernel_rfl) rfl (by kernel_rfl) ?_
                    refine WM_append (E := tyVersion) (e := 102) (v := .slice A164 (gt x0.Segments k155).length c165) (p := p170) (q := 1) (xs := (gt x0.Segments k155)) (ys := [(⟨x1.Row.Id, (x1.Row.Values.set (x1.Field.toNat) x1.Value), (IntKind.i64.wrap (x0.Now + 1)), (-1)⟩ : DVersion)]) (eis := [iOwn (tSl tInt 3) [.slice (some ⟨g152, 0, none⟩) x1.Row.Values.length c37] (x1.Row.Values.set (x1.Field.toNat) x1.Value)]) (js := [iFoc (tSl tyVersion 102) 100 (some ⟨g161, 0, none⟩) x0.Segments.length c23 x0.Segments k155 [.slice A164 (gt x0.Segments k155).length c165], iBox p26 45 [.slice (some ⟨g161, 0, none⟩) x0.Segments.length c23, .int .i64 (IntKind.i64.wrap (x0.Now + 1))], iBox p19 45 [.slice none 0 0, .int .i64 0], iBox p18 71 [.int .i64 x1.Kind, .int .i64 x1.Row.Id, .slice A11 x1.Row.Values.length c12, .int .i64 x1.Field, .int .i64 x1.Value], iBox p17 45 [.slice A4 x0.Segments.length c5, .int .i64 x0.Now]]) (news := [.int .i64 x1.Row.Id, .slice (some ⟨g152, 0, none⟩) x1.Row.Values.length c37, .int .i64 (IntKind.i64.wrap (x0.Now + 1)), .int .i64 (-1)]) (fun W hm => (hm.pick [0, 1, 3, 2, 4, 5, 6, 7] (by decide))) (fun _ _ hs => Els.single (tyVersion_join (x := (⟨x1.Row.Id, (x1.Row.Values.set (x1.Field.toNat) x1.Value), (IntKind.i64.wrap (x0.Now + 1)), (-1)⟩ : DVersion)) hs)) Try.underlying100 Try.type102 rfl rfl rfl (Nat.le_of_ble_eq_true rfl) rfl rfl rfl (show ((gt x0.Segments k155).length + 1) * 48 ≤ 140737488355328 from by first | omega | (have hx := gtset_len (xs := x0.Segments) (i := (impl_findAlive_m x0 x1.Row.Id).1.toNat) (y := impl_ApplyUpdate_v1 x0 x1) List.length_set k155; omega)) (show (gt x0.Segments k155).length + 1 ≤ 9223372036854775807 from by first | omega | (have hx := gtset_len (xs := x0.Segments) (i := (impl_findAlive_m x0 x1.Row.Id).1.toNat) (y := impl_ApplyUpdate_v1 x0 x1) List.length_set k155; omega)) (Wd_none rfl) (by decide) (fun v171 => ?_)
                    refine WM_form (n := 0) rfl ?_
                    rintro A172 c173 rfl m174
                    refine WM_nil ?_
                    refine QB_next (fun W hm => (hm.pick [2, 3, 4, 5] (by decide))) ?_
                    refine QB_take 13 (listed' := #[true, true, true, true, true, true, true, true, true, true, true, true, true, true, false]) (by kernel_rfl) rfl (by kernel_rfl) (by kernel_rfl) (by kernel_rfl) (fun _ _ _ h => h) (fun W hm => rv_index (sz := 1) (k := k155) Try.underlying43 Try.type100 rfl rfl rfl (by omega)) (Wd_none rfl) rfl (by decide) ?_
                    refine QB_one 14 (listed' := #[true, true, true, true, true, true, true, true, true, true, true, true, true, true, true]) (by kernel_rfl) rfl (by kernel_rfl) ?_
                    refine WM_storeFoc (E := (tSl tyVersion 102)) (e := 100) (g := g161) (n := x0.Segments.length) (c := c23) (k := k155) (s := 1) (o := 0) (xs := x0.Segments) (ck := [.slice A164 (gt x0.Segments k155).length c165]) (ck' := [.slice A172 ((gt x0.Segments k155) ++ [(⟨x1.Row.Id, (x1.Row.Values.set (x1.Field.toNat) x1.Value), (IntKind.i64.wrap (x0.Now + 1)), (-1)⟩ : DVersion)]).length c173]) (js := [iOwn (tSl tyVersion 102) [.slice A172 ((gt x0.Segments k155) ++ [(⟨x1.Row.Id, (x1.Row.Values.set (x1.Field.toNat) x1.Value), (IntKind.i64.wrap (x0.Now + 1)), (-1)⟩ : DVersion)]).length c173] ((gt x0.Segments k155) ++ [(⟨x1.Row.Id, (x1.Row.Values.set (x1.Field.toNat) x1.Value), (IntKind.i64.wrap (x0.Now + 1)), (-1)⟩ : DVersion)]), iBox p26 45 [.slice (some ⟨g161, 0, none⟩) x0.Segments.length c23, .int .i64 (IntKind.i64.wrap (x0.Now + 1))], iBox p19 45 [.slice none 0 0, .int .i64 0], iBox p18 71 [.int .i64 x1.Kind, .int .i64 x1.Row.Id, .slice A11 x1.Row.Values.length c12, .int .i64 x1.Field, .int .i64 x1.Value], iBox p17 45 [.slice A4 x0.Segments.length c5, .int .i64 x0.Now]]) (fun W hm => (hm.pick [1, 0, 2, 3, 4, 5] (by decide))) rfl (add0 _).symm Try.type100 rfl (Nat.le_of_ble_eq_true rfl) rfl rfl rfl rfl (Wd_none rfl) ?_
                    refine WM_nil ?_
                    refine QB_next (fun W hm => (hm.pick [2, 3, 4, 5] (by decide))) ?_
                    refine QB_done (by kernel_rfl) ?_
                    refine QM_then ?_
                    refine sr ?_
                    refine wv (fun W hm => rv_loadN (cs := [.slice (some ⟨g161, 0, none⟩) x0.Segments.length c23, .int .i64 (IntKind.i64.wrap (x0.Now + 1))]) Try.underlying45 Try.type45 rfl rfl (hm.boxCells (n := 2) rfl)) ?_
                    refine WM_storeBox (p := p19) (o := 0) (cs := [.slice none 0 0, .int .i64 0]) (cs' := [.slice (some ⟨g161, 0, none⟩) x0.Segments.length c23, .int .i64 (IntKind.i64.wrap (x0.Now + 1))]) (js := [iFoc (tSl tyVersion 102) 100 (some ⟨g161, 0, none⟩) x0.Segments.length c23 x0.Segments k155 [.slice A172 ((gt x0.Segments k155) ++ [(⟨x1.Row.Id, (x1.Row.Values.set (x1.Field.toNat) x1.Value), (IntKind.i64.wrap (x0.Now + 1)), (-1)⟩ : DVersion)]).length c173], iOwn (tSl tyVersion 102) [.slice A172 ((gt x0.Segments k155) ++ [(⟨x1.Row.Id, (x1.Row.Values.set (x1.Field.toNat) x1.Value), (IntKind.i64.wrap (x0.Now + 1)), (-1)⟩ : DVersion)]).length c173] ((gt x0.Segments k155) ++ [(⟨x1.Row.Id, (x1.Row.Values.set (x1.Field.toNat) x1.Value), (IntKind.i64.wrap (x0.Now + 1)), (-1)⟩ : DVersion)]), iBox p26 45 [.slice (some ⟨g161, 0, none⟩) x0.Segments.length c23, .int .i64 (IntKind.i64.wrap (x0.Now + 1))], iBox p18 71 [.int .i64 x1.Kind, .int .i64 x1.Row.Id, .slice A11 x1.Row.Values.length c12, .int .i64 x1.Field, .int .i64 x1.Value], iBox p17 45 [.slice A4 x0.Segments.length c5, .int .i64 x0.Now]]) (fun W hm => (hm.pick [3, 0, 1, 2, 4, 5] (by decide))) Try.type45 rfl (Nat.le_of_ble_eq_true rfl) rfl rfl rfl rfl (Wd_none rfl) ?_
                    refine wa ?_
                    refine nt' ?_
                    refine CM_ret ?_
                    refine QM_block_ret ?_
                    refine QM_then_ret ?_
                    refine QM_then_ret ?_
                    refine QM_block_ret ?_
                    refine QM_then_ret ?_
                    refine QM_items (fun W hm => Mem.unfocus (Mem.join (is := [iOwn (tSl tyVersion 102) [.slice A172 ((gt x0.Segments k155) ++ [(⟨x1.Row.Id, (x1.Row.Values.set (x1.Field.toNat) x1.Value), (IntKind.i64.wrap (x0.Now + 1)), (-1)⟩ : DVersion)]).length c173] ((gt x0.Segments k155) ++ [(⟨x1.Row.Id, (x1.Row.Values.set (x1.Field.toNat) x1.Value), (IntKind.i64.wrap (x0.Now + 1)), (-1)⟩ : DVersion)])]) (js := (iFoc (tSl tyVersion 102) 100 (some ⟨g161, 0, none⟩) x0.Segments.length c23 x0.Segments k155 [.slice A172 ((gt x0.Segments k155) ++ [(⟨x1.Row.Id, (x1.Row.Values.set (x1.Field.toNat) x1.Value), (IntKind.i64.wrap (x0.Now + 1)), (-1)⟩ : DVersion)]).length c173] :: [iBox p19 45 [.slice (some ⟨g161, 0, none⟩) x0.Segments.length c23, .int .i64 (IntKind.i64.wrap (x0.Now + 1))], iBox p26 45 [.slice (some ⟨g161, 0, none⟩) x0.Segments.length c23, .int .i64 (IntKind.i64.wrap (x0.Now + 1))], iBox p18 71 [.int .i64 x1.Kind, .int .i64 x1.Row.Id, .slice A11 x1.Row.Values.length c12, .int .i64 x1.Field, .int .i64 x1.Value], iBox p17 45 [.slice A4 x0.Segments.length c5, .int .i64 x0.Now]])) (fun _ _ hs => Sep.one hs) (hm.pick [2, 1, 0, 3, 4, 5] (by decide)))) ?_
                    refine QM_r2 rfl (RR_cell (n := 1) rfl rfl Try.underlying45 Try.type45 rfl) (RR_tmp rfl) (fun W hm => ⟨[.slice (some ⟨g161, 0, none⟩) x0.Segments.length c23, .int .i64 (IntKind.i64.wrap (x0.Now + 1))], ?_, ?_⟩)
                    · first | rw [(show impl_ApplyUpdate_m x0 x1 = ((⟨(x0.Segments.set k155 ((gt x0.Segments k155) ++ [(⟨x1.Row.Id, (x1.Row.Values.set (x1.Field.toNat) x1.Value), (IntKind.i64.wrap (x0.Now + 1)), (-1)⟩ : DVersion)])), (IntKind.i64.wrap (x0.Now + 1))⟩ : DStore), true) from by unfold impl_ApplyUpdate_m; exact cond_t g28 (cond_t g30 (cond_f g32 (cond_f g34 (cond_f g41 (cond_t g151 (cond_f g154 (fin_inl (rng_ret (body := (fun k (_ : Unit) => impl_ApplyUpdate_b3 x0 x1 k)) (k := k155) (s := ()) (show k155 < x0.Segments.length from by omega) (show impl_ApplyUpdate_b3 x0 x1 k155 = Sum.inl ((⟨(x0.Segments.set k155 ((gt x0.Segments k155) ++ [(⟨x1.Row.Id, (x1.Row.Values.set (x1.Field.toNat) x1.Value), (IntKind.i64.wrap (x0.Now + 1)), (-1)⟩ : DVersion)])), (IntKind.i64.wrap (x0.Now + 1))⟩ : DStore), true) from by unfold impl_ApplyUpdate_b3; exact cond_t g169 (rfl)) hF157) rfl))))))))] | rfl
                    · rw [(show impl_ApplyUpdate_m x0 x1 = ((⟨(x0.Segments.set k155 ((gt x0.Segments k155) ++ [(⟨x1.Row.Id, (x1.Row.Values.set (x1.Field.toNat) x1.Value), (IntKind.i64.wrap (x0.Now + 1)), (-1)⟩ : DVersion)])), (IntKind.i64.wrap (x0.Now + 1))⟩ : DStore), true) from by unfold impl_ApplyUpdate_m; exact cond_t g28 (cond_t g30 (cond_f g32 (cond_f g34 (cond_f g41 (cond_t g151 (cond_f g154 (fin_inl (rng_ret (body := (fun k (_ : Unit) => impl_ApplyUpdate_b3 x0 x1 k)) (k := k155) (s := ()) (show k155 < x0.Segments.length from by omega) (show impl_ApplyUpdate_b3 x0 x1 k155 = Sum.inl ((⟨(x0.Segments.set k155 ((gt x0.Segments k155) ++ [(⟨x1.Row.Id, (x1.Row.Values.set (x1.Field.toNat) x1.Value), (IntKind.i64.wrap (x0.Now + 1)), (-1)⟩ : DVersion)])), (IntKind.i64.wrap (x0.Now + 1))⟩ : DStore), true) from by unfold impl_ApplyUpdate_b3; exact cond_t g169 (rfl)) hF157) rfl))))))))]; exact Mem.join (is := [iOwn (tSl (tSl tyVersion 102) 100) [.slice (some ⟨g161, 0, none⟩) x0.Segments.length c23] (x0.Segments.set k155 ((gt x0.Segments k155) ++ [(⟨x1.Row.Id, (x1.Row.Values.set (x1.Field.toNat) x1.Value), (IntKind.i64.wrap (x0.Now + 1)), (-1)⟩ : DVersion)]))]) (js := []) (fun _ _ hs => tyStore_join (x := (⟨(x0.Segments.set k155 ((gt x0.Segments k155) ++ [(⟨x1.Row.Id, (x1.Row.Values.set (x1.Field.toNat) x1.Value), (IntKind.i64.wrap (x0.Now + 1)), (-1)⟩ : DVersion)])), (IntKind.i64.wrap (x0.Now + 1))⟩ : DStore)) hs) (hm.pick [0] (by decide))
                  · have g169 : (decide ((((gt x0.Segments k155).length : Nat) : Int) < 4)) = false := decide_eq_false h168
                    refine CM_condF rfl g169 ?_
                    refine CM_skip ?_
                    refine QM_block_normal ?_
                    refine QM_then ?_
                    refine CM_region ?_
                    refine wv (fun W hm => rv_addN (p := k155) (q := 1) rfl rfl (by omega)) ?_
                    refine wm ?_
                    refine WM_nil ?_
                    refine QM_items (fun W hm => Mem.unfocus0 (Mem.join (is := [iOwn (tSl tyVersion 102) [.slice A164 (gt x0.Segments k155).length c165] (gt x0.Segments k155)]) (js := (iFoc (tSl tyVersion 102) 100 (some ⟨g161, 0, none⟩) x0.Segments.length c23 x0.Segments k155 [.slice A164 (gt x0.Segments k155).length c165] :: [iOwn (tSl tInt 3) [.slice (some ⟨g152, 0, none⟩) x1.Row.Values.length c37] (x1.Row.Values.set (x1.Field.toNat) x1.Value), iBox p26 45 [.slice (some ⟨g161, 0, none⟩) x0.Segments.length c23, .int .i64 (IntKind.i64.wrap (x0.Now + 1))], iBox p19 45 [.slice none 0 0, .int .i64 0], iBox p18 71 [.int .i64 x1.Kind, .int .i64 x1.Row.Id, .slice A11 x1.Row.Values.length c12, .int .i64 x1.Field, .int .i64 x1.Value], iBox p17 45 [.slice A4 x0.Segments.length c5, .int .i64 x0.Now]])) (fun _ _ hs => Sep.one hs) hm)) ?_
                    have hn176 := rng_next (R := (DStore × Bool)) (body := (fun k (_ : Unit) => impl_ApplyUpdate_b3 x0 x1 k)) (k := k155) (s := ()) (s' := ()) (show k155 < x0.Segments.length from by omega) (show impl_ApplyUpdate_b3 x0 x1 k155 = Sum.inr () from by unfold impl_ApplyUpdate_b3; exact cond_f g169 (rfl)) hF157
                    exact QM_round (k155 + 1, (), ()) (subL_cons rfl (subL_cons rfl (subL_cons rfl (subL_cons rfl (subL_cons rfl (subL_cons rfl (subL_cons rfl (subL_cons rfl subL_nil)))))))) (fun W hm => (hm.pick [1, 2, 0, 3, 4, 5] (by decide))) ⟨(by omega), hn176⟩ (show x0.Segments.length - (k155 + 1) < x0.Segments.length - k155 from by omega)
                · have g160 : (decide (((k155 : Nat) : Int) < ((x0.Segments.length : Nat) : Int))) = false := decide_eq_false (by omega)
                  refine CM_condF rfl g160 ?_
                  refine CM_exit ?_
                  refine QM_then_exit ?_
                  refine QM_then_exit ?_
                  have hE177 : rng (R := (DStore × Bool)) (fun k (_ : Unit) => impl_ApplyUpdate_b3 x0 x1 k) (x0.Segments.length - 0) 0 () = Sum.inr () := rng_end hl159 hF157
                  refine QM_block_hit ?_
                  refine QM_then ?_
                  refine CM_seq ?_
                  refine CM_items (fun W hm => (hm.pick [3, 5] (by decide))) ?_
                  refine CM_region ?_
                  refine wv (fun W hm => rv_loadN (cs := [.slice A4 x0.Segments.length c5, .int .i64 x0.Now]) Try.underlying45 Try.type45 rfl rfl (hm.boxCells (n := 1) rfl)) ?_
                  refine WM_call (χ := List Value) (val := fun x => .agg x.toArray) (js := fun x => [iOwn tyStore x x0]) (cl_fn cb72 rfl) (fun W hm => impl_copyStore_c2 W _ x0 (tyStore_mk (x := x0) (hm.rdS0 r7)) s_0) (Wd_none rfl) (by decide) (fun z178 => ?_)
                  refine WM_split (γ := Value) (js := fun g => [iOwn (tSl (tSl tyVersion 102) 100) [g] x0.Segments]) (C := fun g => z178 = [g, .int .i64 x0.Now]) (fun _ _ h => tyStore_split h) ?_
                  rintro v179 rfl
                  refine WM_form (n := 0) rfl ?_
                  rintro A180 c181 rfl m182
                  refine WM_storeBox (p := p19) (o := 0) (cs := [.slice none 0 0, .int .i64 0]) (cs' := [.slice A180 x0.Segments.length c181, .int .i64 x0.Now]) (js := [iOwn (tSl (tSl tyVersion 102) 100) [.slice A180 x0.Segments.length c181] x0.Segments, iBox p17 45 [.slice A4 x0.Segments.length c5, .int .i64 x0.Now]]) (fun W hm => (hm.pick [1, 0, 2] (by decide))) Try.type45 rfl (Nat.le_of_ble_eq_true rfl) rfl rfl rfl rfl (Wd_none rfl) ?_
                  refine wa ?_
                  refine nt' ?_
                  refine CM_ret ?_
                  refine QM_r2 rfl (RR_cell (n := 0) rfl rfl Try.underlying45 Try.type45 rfl) (RR_tmp rfl) (fun W hm => ⟨[.slice A180 x0.Segments.length c181, .int .i64 x0.Now], ?_, ?_⟩)
                  · first | rw [(show impl_ApplyUpdate_m x0 x1 = (x0, false) from by unfold impl_ApplyUpdate_m; exact cond_t g28 (cond_t g30 (cond_f g32 (cond_f g34 (cond_f g41 (cond_t g151 (cond_f g154 (fin_inr hE177 (rfl)))))))))] | rfl
                  · rw [(show impl_ApplyUpdate_m x0 x1 = (x0, false) from by unfold impl_ApplyUpdate_m; exact cond_t g28 (cond_t g30 (cond_f g32 (cond_f g34 (cond_f g41 (cond_t g151 (cond_f g154 (fin_inr hE177 (rfl)))))))))]; exact Mem.join (is := [iOwn (tSl (tSl tyVersion 102) 100) [.slice A180 x0.Segments.length c181] x0.Segments]) (js := []) (fun _ _ hs => tyStore_join (x := x0) hs) (hm.pick [1] (by decide))
            · have g151 : (x1.Kind == 3) = false := beq_eq_false_iff_ne.2 h150
              refine CM_condF rfl g151 ?_
              refine CM_skip ?_
              refine QM_then ?_
              refine CM_seq ?_
              refine sr ?_
              refine wv (fun W hm => rv_field Try.underlying71 rfl Try.type3 (by decide) rfl rfl) ?_
              refine wv (fun W hm => rv_load Try.underlying3 rfl rfl (hm.boxCell (n := 4) (o := 0) rfl rfl)) ?_
              refine wv (fun W hm => rv_eql rfl rfl) ?_
              refine nt' ?_
              by_cases h184 : x1.Kind = 2
              · have g185 : (x1.Kind == 2) = true := beq_iff_eq.2 h184
                refine CM_condT rfl g185 ?_
                refine CM_seq ?_
                refine CM_items (fun W hm => (hm.pick [1, 2, 3] (by decide))) ?_
                refine CM_region ?_
                refine wv (fun W hm => rv_loadN (cs := [.slice A22 x0.Segments.length c23, .int .i64 (IntKind.i64.wrap (x0.Now + 1))]) Try.underlying45 Try.type45 rfl rfl (hm.boxCells (n := 0) rfl)) ?_
                refine WM_storeBox (p := p19) (o := 0) (cs := [.slice none 0 0, .int .i64 0]) (cs' := [.slice A22 x0.Segments.length c23, .int .i64 (IntKind.i64.wrap (x0.Now + 1))]) (js := [iBox p26 45 [.slice A22 x0.Segments.length c23, .int .i64 (IntKind.i64.wrap (x0.Now + 1))], iOwn (tSl (tSl tyVersion 102) 100) [.slice A22 x0.Segments.length c23] x0.Segments]) (fun W hm => (hm.pick [2, 0, 1] (by decide))) Try.type45 rfl (Nat.le_of_ble_eq_true rfl) rfl rfl rfl rfl (Wd_none rfl) ?_
                refine wa ?_
                refine nt' ?_
                refine CM_ret ?_
                refine QM_then_ret ?_
                refine QM_r2 rfl (RR_cell (n := 0) rfl rfl Try.underlying45 Try.type45 rfl) (RR_tmp rfl) (fun W hm => ⟨[.slice A22 x0.Segments.length c23, .int .i64 (IntKind.i64.wrap (x0.Now + 1))], ?_, ?_⟩)
                · first | rw [(show impl_ApplyUpdate_m x0 x1 = ((⟨x0.Segments, (IntKind.i64.wrap (x0.Now + 1))⟩ : DStore), true) from by unfold impl_ApplyUpdate_m; exact cond_t g28 (cond_t g30 (cond_f g32 (cond_f g34 (cond_f g41 (cond_f g151 (cond_t g185 (rfl))))))))] | rfl
                · rw [(show impl_ApplyUpdate_m x0 x1 = ((⟨x0.Segments, (IntKind.i64.wrap (x0.Now + 1))⟩ : DStore), true) from by unfold impl_ApplyUpdate_m; exact cond_t g28 (cond_t g30 (cond_f g32 (cond_f g34 (cond_f g41 (cond_f g151 (cond_t g185 (rfl))))))))]; exact Mem.join (is := [iOwn (tSl (tSl tyVersion 102) 100) [.slice A22 x0.Segments.length c23] x0.Segments]) (js := []) (fun _ _ hs => tyStore_join (x := (⟨x0.Segments, (IntKind.i64.wrap (x0.Now + 1))⟩ : DStore)) hs) (hm.pick [2] (by decide))
              · have g185 : (x1.Kind == 2) = false := beq_eq_false_iff_ne.2 h184
                refine CM_condF rfl g185 ?_
                refine CM_skip ?_
                refine QM_then ?_
                refine CM_seq ?_
                refine sr ?_
                refine wv (fun W hm => rv_field Try.underlying45 rfl Try.type43 (by decide) rfl rfl) ?_
                refine wv (fun W hm => rv_load Try.underlying43 rfl rfl (hm.boxCell (n := 1) (o := 0) rfl rfl)) ?_
                refine wv (fun W hm => rv_len Try.underlying43 rfl) ?_
                refine wm ?_
                refine nt' ?_
                refine CM_block ?_
                refine CM_loop (σ := Nat × (Unit) × (Unit)) (fun s => [(2, .pointer (some (⟨p17, 0, none⟩ : Addr))), (3, .pointer (some (⟨p18, 0, none⟩ : Addr))), (4, .pointer (some (⟨p19, 0, none⟩ : Addr))), (6, .pointer (some (⟨p26, 0, none⟩ : Addr))), (9, .slice A36 x1.Row.Values.length c37), (87, .slice A22 x0.Segments.length c23), (88, .int .i64 ((x0.Segments.length : Nat) : Int)), (89, .int .i64 ((s.1 : Nat) : Int))]) (fun s => [iOwn (tSl tInt 3) [.slice A36 x1.Row.Values.length c37] x1.Row.Values, iBox p26 45 [.slice A22 x0.Segments.length c23, .int .i64 (IntKind.i64.wrap (x0.Now + 1))], iOwn (tSl (tSl tyVersion 102) 100) [.slice A22 x0.Segments.length c23] x0.Segments, iBox p19 45 [.slice none 0 0, .int .i64 0], iBox p18 71 [.int .i64 x1.Kind, .int .i64 x1.Row.Id, .slice A11 x1.Row.Values.length c12, .int .i64 x1.Field, .int .i64 x1.Value], iBox p17 45 [.slice A4 x0.Segments.length c5, .int .i64 x0.Now]]) (fun s => s.1 ≤ x0.Segments.length ∧ rng (R := (DStore × Bool)) (fun k (_ : Unit) => impl_ApplyUpdate_b4 x0 x1 k) (x0.Segments.length - s.1) s.1 s.2.1 = rng (R := (DStore × Bool)) (fun k (_ : Unit) => impl_ApplyUpdate_b4 x0 x1 k) (x0.Segments.length - 0) 0 ()) (fun s => x0.Segments.length - s.1) (0, (), ()) (subL_cons rfl (subL_cons rfl (subL_cons rfl (subL_cons rfl (subL_cons rfl (subL_cons rfl (subL_cons rfl (subL_cons rfl subL_nil)))))))) (fun W hm => hm) ⟨(by omega), rfl⟩ ?_
                rintro ⟨k186, ⟨⟩, ⟨⟩⟩ H189
                obtain ⟨hk187, hF188⟩ : k186 ≤ x0.Segments.length ∧ rng (R := (DStore × Bool)) (fun k (_ : Unit) => impl_ApplyUpdate_b4 x0 x1 k) (x0.Segments.length - k186) k186 () = rng (R := (DStore × Bool)) (fun k (_ : Unit) => impl_ApplyUpdate_b4 x0 x1 k) (x0.Segments.length - 0) 0 () := H189
                show CM Try.prog 115 _ _ _ _ [(2, .pointer (some (⟨p17, 0, none⟩ : Addr))), (3, .pointer (some (⟨p18, 0, none⟩ : Addr))), (4, .pointer (some (⟨p19, 0, none⟩ : Addr))), (6, .pointer (some (⟨p26, 0, none⟩ : Addr))), (9, .slice A36 x1.Row.Values.length c37), (87, .slice A22 x0.Segments.length c23), (88, .int .i64 ((x0.Segments.length : Nat) : Int)), (89, .int .i64 ((k186 : Nat) : Int))] [iOwn (tSl tInt 3) [.slice A36 x1.Row.Values.length c37] x1.Row.Values, iBox p26 45 [.slice A22 x0.Segments.length c23, .int .i64 (IntKind.i64.wrap (x0.Now + 1))], iOwn (tSl (tSl tyVersion 102) 100) [.slice A22 x0.Segments.length c23] x0.Segments, iBox p19 45 [.slice none 0 0, .int .i64 0], iBox p18 71 [.int .i64 x1.Kind, .int .i64 x1.Row.Id, .slice A11 x1.Row.Values.length c12, .int .i64 x1.Field, .int .i64 x1.Value], iBox p17 45 [.slice A4 x0.Segments.length c5, .int .i64 x0.Now]]
                refine sr ?_
                refine wv (fun W hm => rv_lss rfl rfl) ?_
                refine nt' ?_
                refine CM_seq ?_
                by_cases hl190 : k186 < x0.Segments.length
                · have g191 : (decide (((k186 : Nat) : Int) < ((x0.Segments.length : Nat) : Int))) = true := decide_eq_true (by omega)
                  refine CM_condT rfl g191 ?_
                  refine CM_skip ?_
                  refine QM_then ?_
                  refine CM_seq ?_
                  refine CM_block ?_
                  refine sr ?_
                  refine wm ?_
                  refine WM_formO (n := 2) rfl (by omega) ?_
                  rintro g192 rfl
                  refine wv (fun W hm => rv_index (sz := 1) (k := k186) Try.underlying43 Try.type100 rfl rfl rfl (by omega)) ?_
                  refine WM_focus (E := (tSl tyVersion 102)) (e := 100) (A := (some ⟨g192, 0, none⟩)) (n := x0.Segments.length) (c := c23) (xs := x0.Segments) (k := k186) (js := [iOwn (tSl tInt 3) [.slice A36 x1.Row.Values.length c37] x1.Row.Values, iBox p26 45 [.slice (some ⟨g192, 0, none⟩) x0.Segments.length c23, .int .i64 (IntKind.i64.wrap (x0.Now + 1))], iBox p19 45 [.slice none 0 0, .int .i64 0], iBox p18 71 [.int .i64 x1.Kind, .int .i64 x1.Row.Id, .slice A11 x1.Row.Values.length c12, .int .i64 x1.Field, .int .i64 x1.Value], iBox p17 45 [.slice A4 x0.Segments.length c5, .int .i64 x0.Now]]) (by omega) (fun W hm => (hm.pick [2, 0, 1, 3, 4, 5] (by decide))) (fun ck193 => ?_)
                  refine WM_split (γ := Value) (js := fun g => [iOwn (tSl tyVersion 102) [g] (gt x0.Segments k186)]) (C := fun g => ck193 = [g]) (fun _ _ h => tSl_split h) ?_
                  rintro v194 rfl
                  refine WM_form (n := 0) rfl ?_
                  rintro A195 c196 rfl m197
                  refine wv (fun W hm => rv_load Try.underlying100 rfl rfl (hm.focInt (i := 1) rfl rfl)) ?_
                  refine wa ?_
                  refine wa ?_
                  refine nt' ?_
                  refine sr ?_
                  refine wm ?_
                  refine wv (fun W hm => rv_len Try.underlying100 rfl) ?_
                  refine wv (fun W hm => rv_lss rfl rfl) ?_
                  refine nt' ?_
                  by_cases h199 : (((gt x0.Segments k186).length : Nat) : Int) < 4
                  · have g200 : (decide ((((gt x0.Segments k186).length : Nat) : Int) < 4)) = true := decide_eq_true h199
                    refine CM_condT rfl g200 ?_
                    refine CM_seq ?_
                    refine CM_regionB (n := 15) (listed := #[false, false, false, false, false, false, false, false, false, false, false, false, false, false, false]) (s := [iBox p26 45 [.slice (some ⟨g192, 0, none⟩) x0.Segments.length c23, .int .i64 (IntKind.i64.wrap (x0.Now + 1))], iBox p19 45 [.slice none 0 0, .int .i64 0], iBox p18 71 [.int .i64 x1.Kind, .int .i64 x1.Row.Id, .slice A11 x1.Row.Values.length c12, .int .i64 x1.Field, .int .i64 x1.Value], iBox p17 45 [.slice A4 x0.Segments.length c5, .int .i64 x0.Now]]) (by kernel_rfl) rfl (by kernel_rfl) (fun W hm => (hm.pick [3, 4, 5, 6] (by decide))) ?_
                    refine QB_take 0 (listed' := #[true, false, false, false, false, false, false, false, false, false, false, false, false, false, false]) (by kernel_rfl) rfl (by kernel_rfl) (by kernel_rfl) (by kernel_rfl) (fun _ _ _ h => h) (fun W hm => rv_field Try.underlying45 rfl Try.type43 (by decide) rfl rfl) (Wd_none rfl) rfl (by decide) ?_
                    refine QB_take 1 (listed' := #[true, true, false, false, false, false, false, false, false, false, false, false, false, false, false]) (by kernel_rfl) rfl (by kernel_rfl) (by kernel_rfl) (by kernel_rfl) (fun _ _ _ h => h) (fun W hm => rv_load Try.underlying43 rfl rfl (hm.boxCell (n := 0) (o := 0) rfl rfl)) (Wd_none rfl) rfl (by decide) ?_
                    refine QB_take 2 (listed' := #[true, true, true, false, false, false, false, false, false, false, false, false, false, false, false]) (by kernel_rfl) rfl (by kernel_rfl) (by kernel_rfl) (by kernel_rfl) (fun _ _ _ h => h) (fun W hm => rv_move rfl) (Wd_none rfl) rfl (by decide) ?_
                    refine QB_take 3 (listed' := #[true, true, true, true, false, false, false, false, false, false, false, false, false, false, false]) (by kernel_rfl) rfl (by kernel_rfl) (by kernel_rfl) (by kernel_rfl) (fun _ _ _ h => h) (fun W hm => rv_move rfl) (Wd_none rfl) rfl (by decide) ?_
                    refine QB_take 4 (listed' := #[true, true, true, true, true, false, false, false, false, false, false, false, false, false, false]) (by kernel_rfl) rfl (by kernel_rfl) (by kernel_rfl) (by kernel_rfl) (fun _ _ _ h => h) (fun W hm => rv_field Try.underlying71 rfl Try.type69 (by decide) rfl rfl) (Wd_none rfl) rfl (by decide) ?_
                    refine QB_take 5 (listed' := #[true, true, true, true, true, true, false, false, false, false, false, false, false, false, false]) (by kernel_rfl) rfl (by kernel_rfl) (by kernel_rfl) (by kernel_rfl) (fun _ _ _ h => h) (fun W hm => rv_fieldA (o := 1) Try.underlying69 rfl Try.type3 (by decide) rfl rfl) (Wd_none rfl) rfl (by decide) ?_
                    refine QB_take 6 (listed' := #[true, true, true, true, true, true, true, false, false, false, false, false, false, false, false]) (by kernel_rfl) rfl (by kernel_rfl) (by kernel_rfl) (by kernel_rfl) (fun _ _ _ h => h) (fun W hm => rv_load Try.underlying3 rfl rfl (hm.boxCell (n := 2) (o := 1) rfl rfl)) (Wd_none rfl) rfl (by decide) ?_
                    refine QB_take 7 (listed' := #[true, true, true, true, true, true, true, true, false, false, false, false, false, false, false]) (by kernel_rfl) rfl (by kernel_rfl) (by kernel_rfl) (by kernel_rfl) (fun _ _ _ h => h) (fun W hm => rv_move rfl) (Wd_none rfl) rfl (by decide) ?_
                    refine QB_take 8 (listed' := #[true, true, true, true, true, true, true, true, true, false, false, false, false, false, false]) (by kernel_rfl) rfl (by kernel_rfl) (by kernel_rfl) (by kernel_rfl) (fun _ _ _ h => h) (fun W hm => rv_field Try.underlying45 rfl Try.type3 (by decide) rfl rfl) (Wd_none rfl) rfl (by decide) ?_
                    refine QB_take 9 (listed' := #[true, true, true, true, true, true, true, true, true, true, false, false, false, false, false]) (by kernel_rfl) rfl (by kernel_rfl) (by kernel_rfl) (by kernel_rfl) (fun _ _ _ h => h) (fun W hm => rv_load Try.underlying3 rfl rfl (hm.boxCell (n := 0) (o := 1) rfl rfl)) (Wd_none rfl) rfl (by decide) ?_
                    refine QB_take 10 (listed' := #[true, true, true, true, true, true, true, true, true, true, true, false, false, false, false]) (by kernel_rfl) rfl (by kernel_rfl) (by kernel_rfl) (by kernel_rfl) (fun _ _ _ h => h) (fun W hm => rv_build (cs := [.int .i64 x1.Row.Id, .slice A36 x1.Row.Values.length c37, .int .i64 (IntKind.i64.wrap (x0.Now + 1)), .int .i64 (-1)]) rfl (by kernel_rfl)) (Wd_none rfl) rfl (by decide) ?_
                    refine QB_one 11 (listed' := #[true, true, true, true, true, true, true, true, true, true, true, true, false, false, false]) (by kernel_rfl) rfl (by kernel_rfl) ?_
                    refine WM_build (cs := [.int .i64 x1.Row.Id, .slice A36 x1.Row.Values.length c37, .int .i64 (IntKind.i64.wrap (x0.Now + 1)), .int .i64 (-1)]) Try.underlying100 Try.type102 rfl (by decide) (by decide) rfl (by kernel_rfl) (Wd_none rfl) (by decide) (fun p201 => ?_)
                    refine WM_nil ?_
                    refine QB_next (fun W hm => (hm.pick [4, 5, 6, 7] (by decide))) ?_
                    refine QB_one 12 (listed' := #[true, true, true, true, true, true, true, true, true, true, true, true, true, false, false]) (by kernel_rfl) rfl (by kernel_rfl) ?_
                    refine WM_append (E := tyVersion) (e := 102) (v := .slice A195 (gt x0.Segments k186).length c196) (p := p201) (q := 1) (xs := (gt x0.Segments k186)) (ys := [(⟨x1.Row.Id, x1.Row.Values, (IntKind.i64.wrap (x0.Now + 1)), (-1)⟩ : DVersion)]) (eis := [iOwn (tSl tInt 3) [.slice A36 x1.Row.Values.length c37] x1.Row.Values]) (js := [iFoc (tSl tyVersion 102) 100 (some ⟨g192, 0, none⟩) x0.Segments.length c23 x0.Segments k186 [.slice A195 (gt x0.Segments k186).length c196], iBox p26 45 [.slice (some ⟨g192, 0, none⟩) x0.Segments.length c23, .int .i64 (IntKind.i64.wrap (x0.Now + 1))], iBox p19 45 [.slice none 0 0, .int .i64 0], iBox p18 71 [.int .i64 x1.Kind, .int .i64 x1.Row.Id, .slice A11 x1.Row.Values.length c12, .int .i64 x1.Field, .int .i64 x1.Value], iBox p17 45 [.slice A4 x0.Segments.length c5, .int .i64 x0.Now]]) (news := [.int .i64 x1.Row.Id, .slice A36 x1.Row.Values.length c37, .int .i64 (IntKind.i64.wrap (x0.Now + 1)), .int .i64 (-1)]) (fun W hm => (hm.pick [0, 1, 3, 2, 4, 5, 6, 7] (by decide))) (fun _ _ hs => Els.single (tyVersion_join (x := (⟨x1.Row.Id, x1.Row.Values, (IntKind.i64.wrap (x0.Now + 1)), (-1)⟩ : DVersion)) hs)) Try.underlying100 Try.type102 rfl rfl rfl (Nat.le_of_ble_eq_true rfl) rfl rfl rfl (show ((gt x0.Segments k186).length + 1) * 48 ≤ 140737488355328 from by first | omega | (have hx := gtset_len (xs := x0.Segments) (i := (impl_findAlive_m x0 x1.Row.Id).1.toNat) (y := impl_ApplyUpdate_v1 x0 x1) List.length_set k186; omega)) (show (gt x0.Segments k186).length + 1 ≤ 9223372036854775807 from by first | omega | (have hx := gtset_len (xs := x0.Segments) (i := (impl_findAlive_m x0 x1.Row.Id).1.toNat) (y := impl_ApplyUpdate_v1 x0 x1) List.length_set k186; omega)) (Wd_none rfl) (by decide) (fun v202 => ?_)
                    refine WM_form (n := 0) rfl ?_
                    rintro A203 c204 rfl m205
                    refine WM_nil ?_
                    refine QB_next (fun W hm => (hm.pick [2, 3, 4, 5] (by decide))) ?_
                    refine QB_take 13 (listed' := #[true, true, true, true, true, true, true, true, true, true, true, true, true, true, false]) (by kernel_rfl) rfl (by kernel_rfl) (by kernel_rfl) (by kernel_rfl) (fun _ _ _ h => h) (fun W hm => rv_index (sz := 1) (k := k186) Try.underlying43 Try.type100 rfl rfl rfl (by omega)) (Wd_none rfl) rfl (by decide) ?_
                    refine QB_one 14 (listed' := #[true, true, true, true, true, true, true, true, true, true, true, true, true, true, true]) (by kernel_rfl) rfl (by kernel_rfl) ?_
                    refine WM_storeFoc (E := (tSl tyVersion 102)) (e := 100) (g := g192) (n := x0.Segments.length) (c := c23) (k := k186) (s := 1) (o := 0) (xs := x0.Segments) (ck := [.slice A195 (gt x0.Segments k186).length c196]) (ck' := [.slice A203 ((gt x0.Segments k186) ++ [(⟨x1.Row.Id, x1.Row.Values, (IntKind.i64.wrap (x0.Now + 1)), (-1)⟩ : DVersion)]).length c204]) (js := [iOwn (tSl tyVersion 102) [.slice A203 ((gt x0.Segments k186) ++ [(⟨x1.Row.Id, x1.Row.Values, (IntKind.i64.wrap (x0.Now + 1)), (-1)⟩ : DVersion)]).length c204] ((gt x0.Segments k186) ++ [(⟨x1.Row.Id, x1.Row.Values, (IntKind.i64.wrap (x0.Now + 1)), (-1)⟩ : DVersion)]), iBox p26 45 [.slice (some ⟨g192, 0, none⟩) x0.Segments.length c23, .int .i64 (IntKind.i64.wrap (x0.Now + 1))], iBox p19 45 [.slice none 0 0, .int .i64 0], iBox p18 71 [.int .i64 x1.Kind, .int .i64 x1.Row.Id, .slice A11 x1.Row.Values.length c12, .int .i64 x1.Field, .int .i64 x1.Value], iBox p17 45 [.slice A4 x0.Segments.length c5, .int .i64 x0.Now]]) (fun W hm => (hm.pick [1, 0, 2, 3, 4, 5] (by decide))) rfl (add0 _).symm Try.type100 rfl (Nat.le_of_ble_eq_true rfl) rfl rfl rfl rfl (Wd_none rfl) ?_
                    refine WM_nil ?_
                    refine QB_next (fun W hm => (hm.pick [2, 3, 4, 5] (by decide))) ?_
                    refine QB_done (by kernel_rfl) ?_
                    refine QM_then ?_
                    refine sr ?_
                    refine wv (fun W hm => rv_loadN (cs := [.slice (some ⟨g192, 0, none⟩) x0.Segments.length c23, .int .i64 (IntKind.i64.wrap (x0.Now + 1))]) Try.underlying45 Try.type45 rfl rfl (hm.boxCells (n := 2) rfl)) ?_
                    refine WM_storeBox (p := p19) (o := 0) (cs := [.slice none 0 0, .int .i64 0]) (cs' := [.slice (some ⟨g192, 0, none⟩) x0.Segments.length c23, .int .i64 (IntKind.i64.wrap (x0.Now + 1))]) (js := [iFoc (tSl tyVersion 102) 100 (some ⟨g192, 0, none⟩) x0.Segments.length c23 x0.Segments k186 [.slice A203 ((gt x0.Segments k186) ++ [(⟨x1.Row.Id, x1.Row.Values, (IntKind.i64.wrap (x0.Now + 1)), (-1)⟩ : DVersion)]).length c204], iOwn (tSl tyVersion 102) [.slice A203 ((gt x0.Segments k186) ++ [(⟨x1.Row.Id, x1.Row.Values, (IntKind.i64.wrap (x0.Now + 1)), (-1)⟩ : DVersion)]).length c204] ((gt x0.Segments k186) ++ [(⟨x1.Row.Id, x1.Row.Values, (IntKind.i64.wrap (x0.Now + 1)), (-1)⟩ : DVersion)]), iBox p26 45 [.slice (some ⟨g192, 0, none⟩) x0.Segments.length c23, .int .i64 (IntKind.i64.wrap (x0.Now + 1))], iBox p18 71 [.int .i64 x1.Kind, .int .i64 x1.Row.Id, .slice A11 x1.Row.Values.length c12, .int .i64 x1.Field, .int .i64 x1.Value], iBox p17 45 [.slice A4 x0.Segments.length c5, .int .i64 x0.Now]]) (fun W hm => (hm.pick [3, 0, 1, 2, 4, 5] (by decide))) Try.type45 rfl (Nat.le_of_ble_eq_true rfl) rfl rfl rfl rfl (Wd_none rfl) ?_
                    refine wa ?_
                    refine nt' ?_
                    refine CM_ret ?_
                    refine QM_block_ret ?_
                    refine QM_then_ret ?_
                    refine QM_then_ret ?_
                    refine QM_block_ret ?_
                    refine QM_then_ret ?_
                    refine QM_items (fun W hm => Mem.unfocus (Mem.join (is := [iOwn (tSl tyVersion 102) [.slice A203 ((gt x0.Segments k186) ++ [(⟨x1.Row.Id, x1.Row.Values, (IntKind.i64.wrap (x0.Now + 1)), (-1)⟩ : DVersion)]).length c204] ((gt x0.Segments k186) ++ [(⟨x1.Row.Id, x1.Row.Values, (IntKind.i64.wrap (x0.Now + 1)), (-1)⟩ : DVersion)])]) (js := (iFoc (tSl tyVersion 102) 100 (some ⟨g192, 0, none⟩) x0.Segments.length c23 x0.Segments k186 [.slice A203 ((gt x0.Segments k186) ++ [(⟨x1.Row.Id, x1.Row.Values, (IntKind.i64.wrap (x0.Now + 1)), (-1)⟩ : DVersion)]).length c204] :: [iBox p19 45 [.slice (some ⟨g192, 0, none⟩) x0.Segments.length c23, .int .i64 (IntKind.i64.wrap (x0.Now + 1))], iBox p26 45 [.slice (some ⟨g192, 0, none⟩) x0.Segments.length c23, .int .i64 (IntKind.i64.wrap (x0.Now + 1))], iBox p18 71 [.int .i64 x1.Kind, .int .i64 x1.Row.Id, .slice A11 x1.Row.Values.length c12, .int .i64 x1.Field, .int .i64 x1.Value], iBox p17 45 [.slice A4 x0.Segments.length c5, .int .i64 x0.Now]])) (fun _ _ hs => Sep.one hs) (hm.pick [2, 1, 0, 3, 4, 5] (by decide)))) ?_
                    refine QM_r2 rfl (RR_cell (n := 1) rfl rfl Try.underlying45 Try.type45 rfl) (RR_tmp rfl) (fun W hm => ⟨[.slice (some ⟨g192, 0, none⟩) x0.Segments.length c23, .int .i64 (IntKind.i64.wrap (x0.Now + 1))], ?_, ?_⟩)
                    · first | rw [(show impl_ApplyUpdate_m x0 x1 = ((⟨(x0.Segments.set k186 ((gt x0.Segments k186) ++ [(⟨x1.Row.Id, x1.Row.Values, (IntKind.i64.wrap (x0.Now + 1)), (-1)⟩ : DVersion)])), (IntKind.i64.wrap (x0.Now + 1))⟩ : DStore), true) from by unfold impl_ApplyUpdate_m; exact cond_t g28 (cond_t g30 (cond_f g32 (cond_f g34 (cond_f g41 (cond_f g151 (cond_f g185 (fin_inl (rng_ret (body := (fun k (_ : Unit) => impl_ApplyUpdate_b4 x0 x1 k)) (k := k186) (s := ()) (show k186 < x0.Segments.length from by omega) (show impl_ApplyUpdate_b4 x0 x1 k186 = Sum.inl ((⟨(x0.Segments.set k186 ((gt x0.Segments k186) ++ [(⟨x1.Row.Id, x1.Row.Values, (IntKind.i64.wrap (x0.Now + 1)), (-1)⟩ : DVersion)])), (IntKind.i64.wrap (x0.Now + 1))⟩ : DStore), true) from by unfold impl_ApplyUpdate_b4; exact cond_t g200 (rfl)) hF188) rfl))))))))] | rfl
                    · rw [(show impl_ApplyUpdate_m x0 x1 = ((⟨(x0.Segments.set k186 ((gt x0.Segments k186) ++ [(⟨x1.Row.Id, x1.Row.Values, (IntKind.i64.wrap (x0.Now + 1)), (-1)⟩ : DVersion)])), (IntKind.i64.wrap (x0.Now + 1))⟩ : DStore), true) from by unfold impl_ApplyUpdate_m; exact cond_t g28 (cond_t g30 (cond_f g32 (cond_f g34 (cond_f g41 (cond_f g151 (cond_f g185 (fin_inl (rng_ret (body := (fun k (_ : Unit) => impl_ApplyUpdate_b4 x0 x1 k)) (k := k186) (s := ()) (show k186 < x0.Segments.length from by omega) (show impl_ApplyUpdate_b4 x0 x1 k186 = Sum.inl ((⟨(x0.Segments.set k186 ((gt x0.Segments k186) ++ [(⟨x1.Row.Id, x1.Row.Values, (IntKind.i64.wrap (x0.Now + 1)), (-1)⟩ : DVersion)])), (IntKind.i64.wrap (x0.Now + 1))⟩ : DStore), true) from by unfold impl_ApplyUpdate_b4; exact cond_t g200 (rfl)) hF188) rfl))))))))]; exact Mem.join (is := [iOwn (tSl (tSl tyVersion 102) 100) [.slice (some ⟨g192, 0, none⟩) x0.Segments.length c23] (x0.Segments.set k186 ((gt x0.Segments k186) ++ [(⟨x1.Row.Id, x1.Row.Values, (IntKind.i64.wrap (x0.Now + 1)), (-1)⟩ : DVersion)]))]) (js := []) (fun _ _ hs => tyStore_join (x := (⟨(x0.Segments.set k186 ((gt x0.Segments k186) ++ [(⟨x1.Row.Id, x1.Row.Values, (IntKind.i64.wrap (x0.Now + 1)), (-1)⟩ : DVersion)])), (IntKind.i64.wrap (x0.Now + 1))⟩ : DStore)) hs) (hm.pick [0] (by decide))
                  · have g200 : (decide ((((gt x0.Segments k186).length : Nat) : Int) < 4)) = false := decide_eq_false h199
                    refine CM_condF rfl g200 ?_
                    refine CM_skip ?_
                    refine QM_block_normal ?_
                    refine QM_then ?_
                    refine CM_region ?_
                    refine wv (fun W hm => rv_addN (p := k186) (q := 1) rfl rfl (by omega)) ?_
                    refine wm ?_
                    refine WM_nil ?_
                    refine QM_items (fun W hm => Mem.unfocus0 (Mem.join (is := [iOwn (tSl tyVersion 102) [.slice A195 (gt x0.Segments k186).length c196] (gt x0.Segments k186)]) (js := (iFoc (tSl tyVersion 102) 100 (some ⟨g192, 0, none⟩) x0.Segments.length c23 x0.Segments k186 [.slice A195 (gt x0.Segments k186).length c196] :: [iOwn (tSl tInt 3) [.slice A36 x1.Row.Values.length c37] x1.Row.Values, iBox p26 45 [.slice (some ⟨g192, 0, none⟩) x0.Segments.length c23, .int .i64 (IntKind.i64.wrap (x0.Now + 1))], iBox p19 45 [.slice none 0 0, .int .i64 0], iBox p18 71 [.int .i64 x1.Kind, .int .i64 x1.Row.Id, .slice A11 x1.Row.Values.length c12, .int .i64 x1.Field, .int .i64 x1.Value], iBox p17 45 [.slice A4 x0.Segments.length c5, .int .i64 x0.Now]])) (fun _ _ hs => Sep.one hs) hm)) ?_
                    have hn207 := rng_next (R := (DStore × Bool)) (body := (fun k (_ : Unit) => impl_ApplyUpdate_b4 x0 x1 k)) (k := k186) (s := ()) (s' := ()) (show k186 < x0.Segments.length from by omega) (show impl_ApplyUpdate_b4 x0 x1 k186 = Sum.inr () from by unfold impl_ApplyUpdate_b4; exact cond_f g200 (rfl)) hF188
                    exact QM_round (k186 + 1, (), ()) (subL_cons rfl (subL_cons rfl (subL_cons rfl (subL_cons rfl (subL_cons rfl (subL_cons rfl (subL_cons rfl (subL_cons rfl subL_nil)))))))) (fun W hm => (hm.pick [1, 2, 0, 3, 4, 5] (by decide))) ⟨(by omega), hn207⟩ (show x0.Segments.length - (k186 + 1) < x0.Segments.length - k186 from by omega)
                · have g191 : (decide (((k186 : Nat) : Int) < ((x0.Segments.length : Nat) : Int))) = false := decide_eq_false (by omega)
                  refine CM_condF rfl g191 ?_
                  refine CM_exit ?_
                  refine QM_then_exit ?_
                  refine QM_then_exit ?_
                  have hE208 : rng (R := (DStore × Bool)) (fun k (_ : Unit) => impl_ApplyUpdate_b4 x0 x1 k) (x0.Segments.length - 0) 0 () = Sum.inr () := rng_end hl190 hF188
                  refine QM_block_hit ?_
                  refine QM_then ?_
                  refine CM_seq ?_
                  refine CM_items (fun W hm => (hm.pick [3, 5] (by decide))) ?_
                  refine CM_region ?_
                  refine wv (fun W hm => rv_loadN (cs := [.slice A4 x0.Segments.length c5, .int .i64 x0.Now]) Try.underlying45 Try.type45 rfl rfl (hm.boxCells (n := 1) rfl)) ?_
                  refine WM_call (χ := List Value) (val := fun x => .agg x.toArray) (js := fun x => [iOwn tyStore x x0]) (cl_fn cb72 rfl) (fun W hm => impl_copyStore_c2 W _ x0 (tyStore_mk (x := x0) (hm.rdS0 r7)) s_0) (Wd_none rfl) (by decide) (fun z209 => ?_)
                  refine WM_split (γ := Value) (js := fun g => [iOwn (tSl (tSl tyVersion 102) 100) [g] x0.Segments]) (C := fun g => z209 = [g, .int .i64 x0.Now]) (fun _ _ h => tyStore_split h) ?_
                  rintro v210 rfl
                  refine WM_form (n := 0) rfl ?_
                  rintro A211 c212 rfl m213
                  refine WM_storeBox (p := p19) (o := 0) (cs := [.slice none 0 0, .int .i64 0]) (cs' := [.slice A211 x0.Segments.length c212, .int .i64 x0.Now]) (js := [iOwn (tSl (tSl tyVersion 102) 100) [.slice A211 x0.Segments.length c212] x0.Segments, iBox p17 45 [.slice A4 x0.Segments.length c5, .int .i64 x0.Now]]) (fun W hm => (hm.pick [1, 0, 2] (by decide))) Try.type45 rfl (Nat.le_of_ble_eq_true rfl) rfl rfl rfl rfl (Wd_none rfl) ?_
                  refine wa ?_
                  refine nt' ?_
                  refine CM_ret ?_
                  refine QM_r2 rfl (RR_cell (n := 0) rfl rfl Try.underlying45 Try.type45 rfl) (RR_tmp rfl) (fun W hm => ⟨[.slice A211 x0.Segments.length c212, .int .i64 x0.Now], ?_, ?_⟩)
                  · first | rw [(show impl_ApplyUpdate_m x0 x1 = (x0, false) from by unfold impl_ApplyUpdate_m; exact cond_t g28 (cond_t g30 (cond_f g32 (cond_f g34 (cond_f g41 (cond_f g151 (cond_f g185 (fin_inr hE208 (rfl)))))))))] | rfl
                  · rw [(show impl_ApplyUpdate_m x0 x1 = (x0, false) from by unfold impl_ApplyUpdate_m; exact cond_t g28 (cond_t g30 (cond_f g32 (cond_f g34 (cond_f g41 (cond_f g151 (cond_f g185 (fin_inr hE208 (rfl)))))))))]; exact Mem.join (is := [iOwn (tSl (tSl tyVersion 102) 100) [.slice A211 x0.Segments.length c212] x0.Segments]) (js := []) (fun _ _ hs => tyStore_join (x := x0) hs) (hm.pick [1] (by decide))
    ·
      refine ws (nf g30) ?_
      refine ws (nf g30) ?_
      refine ws (nf g30) ?_
      refine wv (fun W hm => rv_pickT rfl (nf g30) rfl) ?_
      refine nt' ?_
      refine CM_condT rfl rfl ?_
      refine sr ?_
      refine wv (fun W hm => rv_loadN (cs := [.slice A22 x0.Segments.length c23, .int .i64 x0.Now]) Try.underlying45 Try.type45 rfl rfl (hm.boxCells (n := 0) rfl)) ?_
      refine WM_storeBox (p := p19) (o := 0) (cs := [.slice none 0 0, .int .i64 0]) (cs' := [.slice A22 x0.Segments.length c23, .int .i64 x0.Now]) (js := [iBox p26 45 [.slice A22 x0.Segments.length c23, .int .i64 x0.Now], iOwn (tSl (tSl tyVersion 102) 100) [.slice A22 x0.Segments.length c23] x0.Segments, iBox p18 71 [.int .i64 x1.Kind, .int .i64 x1.Row.Id, .slice A11 x1.Row.Values.length c12, .int .i64 x1.Field, .int .i64 x1.Value], iBox p17 45 [.slice A4 x0.Segments.length c5, .int .i64 x0.Now]]) (fun W hm => (hm.pick [2, 0, 1, 3, 4] (by decide))) Try.type45 rfl (Nat.le_of_ble_eq_true rfl) rfl rfl rfl rfl (Wd_none rfl) ?_
      refine wa ?_
      refine nt' ?_
      refine CM_ret ?_
      refine QM_then_ret ?_
      refine QM_r2 rfl (RR_cell (n := 0) rfl rfl Try.underlying45 Try.type45 rfl) (RR_tmp rfl) (fun W hm => ⟨[.slice A22 x0.Segments.length c23, .int .i64 x0.Now], ?_, ?_⟩)
      · first | rw [(show impl_ApplyUpdate_m x0 x1 = (x0, false) from by unfold impl_ApplyUpdate_m; exact cond_t g28 (cond_f g30 (rfl)))] | rfl
      · rw [(show impl_ApplyUpdate_m x0 x1 = (x0, false) from by unfold impl_ApplyUpdate_m; exact cond_t g28 (cond_f g30 (rfl)))]; exact Mem.join (is := [iOwn (tSl (tSl tyVersion 102) 100) [.slice A22 x0.Segments.length c23] x0.Segments]) (js := []) (fun _ _ hs => tyStore_join (x := x0) hs) (hm.pick [2] (by decide))
  ·
    refine ws (nf g28) ?_
    refine ws (nf g28) ?_
    refine ws (nf g28) ?_
    refine wv (fun W hm => rv_pickT rfl (nf g28) rfl) ?_
    refine wm ?_
    refine WM_skip (Wd_some rfl rfl rfl rfl) rfl (by decide) ?_
    refine WM_skip (Wd_some rfl rfl rfl rfl) rfl (by decide) ?_
    refine WM_skip (Wd_some rfl rfl rfl rfl) rfl (by decide) ?_
    refine wv (fun W hm => rv_pickT rfl rfl rfl) ?_
    refine nt' ?_
    refine CM_condT rfl rfl ?_
    refine sr ?_
    refine wv (fun W hm => rv_loadN (cs := [.slice A22 x0.Segments.length c23, .int .i64 x0.Now]) Try.underlying45 Try.type45 rfl rfl (hm.boxCells (n := 0) rfl)) ?_
    refine WM_storeBox (p := p19) (o := 0) (cs := [.slice none 0 0, .int .i64 0]) (cs' := [.slice A22 x0.Segments.length c23, .int .i64 x0.Now]) (js := [iBox p26 45 [.slice A22 x0.Segments.length c23, .int .i64 x0.Now], iOwn (tSl (tSl tyVersion 102) 100) [.slice A22 x0.Segments.length c23] x0.Segments, iBox p18 71 [.int .i64 x1.Kind, .int .i64 x1.Row.Id, .slice A11 x1.Row.Values.length c12, .int .i64 x1.Field, .int .i64 x1.Value], iBox p17 45 [.slice A4 x0.Segments.length c5, .int .i64 x0.Now]]) (fun W hm => (hm.pick [2, 0, 1, 3, 4] (by decide))) Try.type45 rfl (Nat.le_of_ble_eq_true rfl) rfl rfl rfl rfl (Wd_none rfl) ?_
    refine wa ?_
    refine nt' ?_
    refine CM_ret ?_
    refine QM_then_ret ?_
    refine QM_r2 rfl (RR_cell (n := 0) rfl rfl Try.underlying45 Try.type45 rfl) (RR_tmp rfl) (fun W hm => ⟨[.slice A22 x0.Segments.length c23, .int .i64 x0.Now], ?_, ?_⟩)
    · first | rw [(show impl_ApplyUpdate_m x0 x1 = (x0, false) from by unfold impl_ApplyUpdate_m; exact cond_f g28 (rfl))] | rfl
    · rw [(show impl_ApplyUpdate_m x0 x1 = (x0, false) from by unfold impl_ApplyUpdate_m; exact cond_f g28 (rfl))]; exact Mem.join (is := [iOwn (tSl (tSl tyVersion 102) 100) [.slice A22 x0.Segments.length c23] x0.Segments]) (js := []) (fun _ _ hs => tyStore_join (x := x0) hs) (hm.pick [2] (by decide))

theorem Room_cases (x : DStore) : (rng (R := Int) (fun k (_ : Unit) => spec_l8Room_b1 x k) (x.Segments.length - 0) 0 () = .inr () ∧ spec_l8Room_m x < 0) ∨ (rng (R := Int) (fun k (_ : Unit) => spec_l8Room_b1 x k) (x.Segments.length - 0) 0 () = .inl (spec_l8Room_m x) ∧ ¬ spec_l8Room_m x < 0) := by
  have hr := spec_Room_fact x
  unfold spec_l8Room_m at hr ⊢
  cases h : rng (R := Int) (fun k (_ : Unit) => spec_l8Room_b1 x k) (x.Segments.length - 0) 0 () with
  | inr s => exact .inl ⟨rfl, by show (-1 : Int) < 0; decide⟩
  | inl r =>
    refine .inr ⟨rfl, ?_⟩
    rw [h] at hr
    have hr' : r < 0 ∨ (0 ≤ r ∧ r.toNat < x.Segments.length ∧ (gt x.Segments r.toNat).length < 4) := hr
    show ¬ r < 0
    rcases hr' with h1 | h1
    · exfalso
      rcases rng_find (P := fun r : Int => 0 ≤ r) (n := x.Segments.length) (b := fun k (_ : Unit) => spec_l8Room_b1 x k) (fun j hj => by
        show (∃ r, spec_l8Room_b1 x j = .inl r ∧ _) ∨ spec_l8Room_b1 x j = .inr ()
        unfold spec_l8Room_b1
        cases decide (((gt x.Segments j).length : Int) < 4) with
        | true => exact .inl ⟨_, rfl, by omega⟩
        | false => exact .inr rfl) (x.Segments.length - 0) 0 (by omega) with ⟨q, e1, e2⟩ | e1
      · rw [h] at e1; cases e1; omega
      · rw [h] at e1; cases e1
    · omega
theorem Room_loop (x : DStore) {segs : List (List DVersion)} (hl : ∀ j, (gt segs j).length = (gt x.Segments j).length) {F : Nat → DStore × Bool} {b : Nat → Unit → (DStore × Bool) ⊕ Unit} (hb : ∀ j, b j () = cond (decide ((((gt segs j).length : Nat) : Int) < 4)) (.inl (F j)) (.inr ())) {y : DStore × Bool} :
    Sum.elim id (fun (_ : Unit) => y) (rng b (x.Segments.length - 0) 0 ()) = cond (decide (spec_l8Room_m x < 0)) y (F (spec_l8Room_m x).toNat) := by
  rw [rng_idx (c := fun j => decide ((((gt segs j).length : Nat) : Int) < 4)) (F := F) (b' := fun k (_ : Unit) => spec_l8Room_b1 x k) hb (fun j => by unfold spec_l8Room_b1; rw [hl])]
  rcases Room_cases x with ⟨h1, h2⟩ | ⟨h1, h2⟩
  · rw [h1, decide_eq_true h2]; rfl
  · rw [h1, decide_eq_false h2]; rfl
theorem ApplyUpdate_same (x : DStore) (u : DUpdate) : impl_ApplyUpdate_m x u = spec_ApplyUpdate_m x u := by
  unfold impl_ApplyUpdate_m spec_ApplyUpdate_m
  rw [IsStore_same, IsUpdate_same]
  cases hs : spec_IsStore_m x with
  | false => rfl
  | true =>
  cases hu : spec_IsUpdate_m u with
  | false => rfl
  | true =>
    obtain ⟨_, hn, _, _⟩ := spec_Store_vers hs
    obtain ⟨hk, _, _, _⟩ := spec_Update_fact hu
    have e0 : impl_findAlive_m x u.Row.Id = spec_l8Find_m x u.Row.Id := rfl
    have e1 : (x.Now == 100000) = decide (100000 ≤ x.Now) := by
      by_cases h : x.Now = 100000
      · rw [beq_iff_eq.2 h, decide_eq_true (by omega)]
      · rw [beq_eq_false_iff_ne.2 h, decide_eq_false (by omega)]
    rw [e0, e1]
    cases decide (100000 ≤ x.Now) with
    | true => rfl
    | false =>
    by_cases hr : (spec_l8Find_m x u.Row.Id).1 < 0
    · rw [decide_eq_true hr, decide_eq_false (show ¬ 0 ≤ (spec_l8Find_m x u.Row.Id).1 by omega)]
      by_cases k1 : u.Kind = 1
      · rw [beq_iff_eq.2 k1, beq_eq_false_iff_ne.2 (show ¬ u.Kind = 3 by omega), beq_eq_false_iff_ne.2 (show ¬ u.Kind = 2 by omega), bne_iff_ne.2 (show u.Kind ≠ 2 by omega)]
        exact Room_loop x (segs := x.Segments) (fun _ => rfl) (b := fun k (_ : Unit) => impl_ApplyUpdate_b4 x u k) (fun j => rfl)
      · rw [beq_eq_false_iff_ne.2 k1]; rfl
    · rw [decide_eq_false hr, decide_eq_true (show 0 ≤ (spec_l8Find_m x u.Row.Id).1 by omega)]
      have hl : ∀ j, (gt (x.Segments.set (impl_findAlive_m x u.Row.Id).1.toNat (impl_ApplyUpdate_v1 x u)) j).length = (gt x.Segments j).length := fun j => gtset_len List.length_set j
      rcases hk with k1 | k2 | k3
      · rw [beq_iff_eq.2 k1]; rfl
      · rw [beq_iff_eq.2 k2, beq_eq_false_iff_ne.2 (show ¬ u.Kind = 1 by omega), beq_eq_false_iff_ne.2 (show ¬ u.Kind = 3 by omega), show (u.Kind != 2) = false from by rw [k2]; rfl]
        rfl
      · rw [beq_iff_eq.2 k3, beq_eq_false_iff_ne.2 (show ¬ u.Kind = 1 by omega), beq_eq_false_iff_ne.2 (show ¬ u.Kind = 2 by omega), bne_iff_ne.2 (show u.Kind ≠ 2 by omega)]
        exact Room_loop x hl (b := fun k (_ : Unit) => impl_ApplyUpdate_b1 x u k) (fun j => rfl)
theorem impl_ApplyUpdate_sm {x : DStore} (h : smStore 68719476736 x) (u : DUpdate) : smStore 68719476736 (impl_ApplyUpdate_m x u).1 := by
  rw [ApplyUpdate_same]; exact spec_ApplyUpdate_sm h u
def impl_ApplyUpdates_b1 (x1 : (List DUpdate)) (k24 : Nat) (s25 : Int) (d27 : (List (List DVersion))) (s30 : Int) : (DStore × Int) ⊕ (Int × (List (List DVersion)) × Int) :=
  cond ((impl_ApplyUpdate_m (⟨d27, s30⟩ : DStore) (gt x1 k24)).2) (Sum.inr ((IntKind.i64.wrap (s25 + 1)), ((impl_ApplyUpdate_m (⟨d27, s30⟩ : DStore) (gt x1 k24)).1).Segments, ((impl_ApplyUpdate_m (⟨d27, s30⟩ : DStore) (gt x1 k24)).1).Now)) (Sum.inr (s25, ((impl_ApplyUpdate_m (⟨d27, s30⟩ : DStore) (gt x1 k24)).1).Segments, ((impl_ApplyUpdate_m (⟨d27, s30⟩ : DStore) (gt x1 k24)).1).Now))
def impl_ApplyUpdates_m (x0 : DStore) (x1 : (List DUpdate)) : (DStore × Int) :=
  Sum.elim id (fun (s : Int × (List (List DVersion)) × Int) => ((⟨s.2.1, s.2.2⟩ : DStore), s.1)) (rng (R := (DStore × Int)) (fun k (s : Int × (List (List DVersion)) × Int) => impl_ApplyUpdates_b1 x1 k s.1 s.2.1 s.2.2) (x1.length - 0) 0 (0, x0.Segments, x0.Now))
set_option maxRecDepth 100000 in
theorem cb51 : Cb Try.prog 51 := ⟨Try.f51, _, Try.func51, rfl, by decide⟩
set_option maxRecDepth 10000 in
set_option maxHeartbeats 4000000 in
theorem impl_ApplyUpdates_c (w : World) (z0 : List Value) (x0 : DStore) (z1 : Value) (x1 : (List DUpdate)) (r_0 : tyStore.rd w w.heap.size z0 x0) (r_1 : rdS tyUpdate w w.heap.size z1 x1) (s_0 : smStore 68719476736 x0) (s_1 : (x1.length ≤ 68719476736 ∧ ∀ y ∈ x1, smUpdate 68719476736 y)) :
    Calls Try.prog 51 #[.agg z0.toArray, z1] w fun e w' => ∃ v : List Value, e = .returned (.tuple #[.agg v.toArray, .int .i64 ((impl_ApplyUpdates_m x0 x1).2)]) ∧ Mem w.heap.size w [iOwn tyStore v (impl_ApplyUpdates_m x0 x1).1] w' := by
  obtain ⟨v1, rfl, r2⟩ := tyStore_rd r_0
  have r7 := r2
  obtain ⟨m3, A4, c5, rfl, q6⟩ := r2
  have r12 := r_1
  obtain ⟨m8, A9, c10, rfl, q11⟩ := r_1
  have l13 : x0.Segments.length ≤ 68719476736 := s_0.1
  have l14 : x1.length ≤ 68719476736 := s_1.1
  refine call_enterM (L := [(0, .agg #[.slice A4 x0.Segments.length c5, .int .i64 x0.Now]), (1, .slice A9 x1.length c10)]) (N := 33) Try.func51 rfl rfl (Nat.le_of_ble_eq_true rfl) (argsL_cons rfl (argsL_cons rfl argsL_nil)) ?_
  refine sr ?_
  refine WM_box rfl (Wd_none rfl) (by decide) (fun p15 => ?_)
  refine WM_alloc Try.type45 rfl (Wd_none rfl) (by decide) (fun p16 => ?_)
  refine wa ?_
  refine nt' ?_
  refine sr ?_
  refine wv (fun W hm => rv_loadN (cs := [.slice A4 x0.Segments.length c5, .int .i64 x0.Now]) Try.underlying45 Try.type45 rfl rfl (hm.boxCells (n := 1) rfl)) ?_
  refine WM_call (χ := List Value) (val := fun x => .agg x.toArray) (js := fun x => [iOwn tyStore x x0]) (cl_fn cb72 rfl) (fun W hm => impl_copyStore_c2 W _ x0 (tyStore_mk (x := x0) (hm.rdS0 r7)) s_0) (Wd_none rfl) (by decide) (fun z17 => ?_)
  refine WM_split (γ := Value) (js := fun g => [iOwn (tSl (tSl tyVersion 102) 100) [g] x0.Segments]) (C := fun g => z17 = [g, .int .i64 x0.Now]) (fun _ _ h => tyStore_split h) ?_
  rintro v18 rfl
  refine WM_form (n := 0) rfl ?_
  rintro A19 c20 rfl m21
  refine WM_alloc Try.type45 rfl (Wd_none rfl) (by decide) (fun p23 => ?_)
  refine WM_storeBox (p := p23) (o := 0) (cs := [.slice none 0 0, .int .i64 0]) (cs' := [.slice A19 x0.Segments.length c20, .int .i64 x0.Now]) (js := [iOwn (tSl (tSl tyVersion 102) 100) [.slice A19 x0.Segments.length c20] x0.Segments, iBox p16 45 [.slice none 0 0, .int .i64 0], iBox p15 45 [.slice A4 x0.Segments.length c5, .int .i64 x0.Now]]) (fun W hm => hm) Try.type45 rfl (Nat.le_of_ble_eq_true rfl) rfl rfl rfl rfl (Wd_none rfl) ?_
  refine nt' ?_
  refine sr ?_
  refine wa ?_
  refine nt' ?_
  refine CM_seq ?_
  refine sr ?_
  refine wm ?_
  refine wv (fun W hm => rv_len Try.underlying79 rfl) ?_
  refine wm ?_
  refine nt' ?_
  refine CM_block ?_
  refine CM_loop (σ := Nat × (Int × (List (List DVersion)) × Int) × (Option Addr × Nat)) (fun s => [(4, .pointer (some (⟨p16, 0, none⟩ : Addr))), (6, .pointer (some (⟨p23, 0, none⟩ : Addr))), (7, .int .i64 s.2.1.1), (14, .slice A9 x1.length c10), (15, .int .i64 ((x1.length : Nat) : Int)), (16, .int .i64 ((s.1 : Nat) : Int))]) (fun s => [iBox p23 45 [.slice s.2.2.1 s.2.1.2.1.length s.2.2.2, .int .i64 s.2.1.2.2], iOwn (tSl (tSl tyVersion 102) 100) [.slice s.2.2.1 s.2.1.2.1.length s.2.2.2] s.2.1.2.1, iBox p16 45 [.slice none 0 0, .int .i64 0], iBox p15 45 [.slice A4 x0.Segments.length c5, .int .i64 x0.Now]]) (fun s => s.1 ≤ x1.length ∧ rng (R := (DStore × Int)) (fun k (s : Int × (List (List DVersion)) × Int) => impl_ApplyUpdates_b1 x1 k s.1 s.2.1 s.2.2) (x1.length - s.1) s.1 s.2.1 = rng (R := (DStore × Int)) (fun k (s : Int × (List (List DVersion)) × Int) => impl_ApplyUpdates_b1 x1 k s.1 s.2.1 s.2.2) (x1.length - 0) 0 (0, x0.Segments, x0.Now) ∧ smStore 68719476736 (⟨s.2.1.2.1, s.2.1.2.2⟩ : DStore)) (fun s => x1.length - s.1) (0, (0, x0.Segments, x0.Now), (A19, c20)) (subL_cons rfl (subL_cons rfl (subL_cons rfl (subL_cons rfl (subL_cons rfl (subL_cons rfl subL_nil)))))) (fun W hm => hm) ⟨(by omega), rfl, s_0⟩ ?_
  rintro ⟨k24, ⟨s25, d27, s30⟩, ⟨A28, c29⟩⟩ H33
  obtain ⟨hk31, hF32, hi34⟩ : k24 ≤ x1.length ∧ rng (R := (DStore × Int)) (fun k (s : Int × (List (List DVersion)) × Int) => impl_ApplyUpdates_b1 x1 k s.1 s.2.1 s.2.2) (x1.length - k24) k24 (s25, d27, s30) = rng (R := (DStore × Int)) (fun k (s : Int × (List (List DVersion)) × Int) => impl_ApplyUpdates_b1 x1 k s.1 s.2.1 s.2.2) (x1.length - 0) 0 (0, x0.Segments, x0.Now) ∧ smStore 68719476736 (⟨d27, s30⟩ : DStore) := H33
  show CM Try.prog 33 _ _ _ _ [(4, .pointer (some (⟨p16, 0, none⟩ : Addr))), (6, .pointer (some (⟨p23, 0, none⟩ : Addr))), (7, .int .i64 s25), (14, .slice A9 x1.length c10), (15, .int .i64 ((x1.length : Nat) : Int)), (16, .int .i64 ((k24 : Nat) : Int))] [iBox p23 45 [.slice A28 d27.length c29, .int .i64 s30], iOwn (tSl (tSl tyVersion 102) 100) [.slice A28 d27.length c29] d27, iBox p16 45 [.slice none 0 0, .int .i64 0], iBox p15 45 [.slice A4 x0.Segments.length c5, .int .i64 x0.Now]]
  refine sr ?_
  refine wv (fun W hm => rv_lss rfl rfl) ?_
  refine nt' ?_
  refine CM_seq ?_
  by_cases hl35 : k24 < x1.length
  · have g36 : (decide (((k24 : Nat) : Int) < ((x1.length : Nat) : Int))) = true := decide_eq_true (by omega)
    have hsm := hi34
    refine CM_condT rfl g36 ?_
    refine CM_skip ?_
    refine QM_then ?_
    refine CM_seq ?_
    refine CM_block ?_
    refine sr ?_
    obtain ⟨a37, rfl, hb38, he39⟩ := q11 (by omega)
    refine wv (fun W hm => rv_index (sz := 5) (k := k24) Try.underlying79 Try.type71 rfl rfl rfl (by omega)) ?_
    obtain ⟨_, e43, hc40⟩ := he39 k24 _ (gt_some (show k24 < x1.length from by omega))
    obtain ⟨v41, rfl, r42⟩ := tyUpdate_rd e43
    have l44 : ((gt x1 k24).Row.Values).length ≤ 68719476736 := (s_1.2 _ (gt_mem (show k24 < x1.length from by omega)))
    have r49 := r42
    obtain ⟨m45, A46, c47, rfl, q48⟩ := r42
    refine wv (fun W hm => rv_loadN (cs := [.int .i64 ((gt x1 k24).Kind), .int .i64 ((gt x1 k24).Row.Id), .slice A46 ((gt x1 k24).Row.Values).length c47, .int .i64 ((gt x1 k24).Field), .int .i64 ((gt x1 k24).Value)]) Try.underlying71 Try.type71 rfl rfl (hm.elCells (show (a37.add (k24 * 5)).block < w.heap.size from by rw [add_block]; exact hb38.1) hc40)) ?_
    refine WM_alloc Try.type71 rfl (Wd_none rfl) (by decide) (fun p50 => ?_)
    refine WM_storeBox (p := p50) (o := 0) (cs := [.int .i64 0, .int .i64 0, .slice none 0 0, .int .i64 0, .int .i64 0]) (cs' := [.int .i64 ((gt x1 k24).Kind), .int .i64 ((gt x1 k24).Row.Id), .slice A46 ((gt x1 k24).Row.Values).length c47, .int .i64 ((gt x1 k24).Field), .int .i64 ((gt x1 k24).Value)]) (js := [iBox p23 45 [.slice A28 d27.length c29, .int .i64 s30], iOwn (tSl (tSl tyVersion 102) 100) [.slice A28 d27.length c29] d27, iBox p16 45 [.slice none 0 0, .int .i64 0], iBox p15 45 [.slice A4 x0.Segments.length c5, .int .i64 x0.Now]]) (fun W hm => hm) Try.type71 rfl (Nat.le_of_ble_eq_true rfl) rfl rfl rfl rfl (Wd_none rfl) ?_
    refine nt' ?_
    refine sr ?_
    refine wv (fun W hm => rv_loadN (cs := [.slice A28 d27.length c29, .int .i64 s30]) Try.underlying45 Try.type45 rfl rfl (hm.boxCells (n := 1) rfl)) ?_
    refine wv (fun W hm => rv_loadN (cs := [.int .i64 ((gt x1 k24).Kind), .int .i64 ((gt x1 k24).Row.Id), .slice A46 ((gt x1 k24).Row.Values).length c47, .int .i64 ((gt x1 k24).Field), .int .i64 ((gt x1 k24).Value)]) Try.underlying71 Try.type71 rfl rfl (hm.boxCells (n := 0) rfl)) ?_
    refine WM_call (χ := List Value) (val := fun x => .tuple #[.agg x.toArray, .bool ((impl_ApplyUpdate_m (⟨d27, s30⟩ : DStore) (gt x1 k24)).2)]) (js := fun x => [iOwn tyStore x ((impl_ApplyUpdate_m (⟨d27, s30⟩ : DStore) (gt x1 k24)).1)]) (cl_fn cb45 rfl) (fun W hm => impl_ApplyUpdate_c W _ (⟨d27, s30⟩ : DStore) _ (gt x1 k24) (tyStore_mk (x := (⟨d27, s30⟩ : DStore)) (hm.rdSI (n := 2) rfl)) (tyUpdate_mk (x := (gt x1 k24)) (hm.rdS0 r49)) hsm (s_1.2 _ (gt_mem (show k24 < x1.length from by omega)))) (Wd_none rfl) (by decide) (fun z51 => ?_)
    refine WM_split (γ := Value) (js := fun g => [iOwn (tSl (tSl tyVersion 102) 100) [g] (((impl_ApplyUpdate_m (⟨d27, s30⟩ : DStore) (gt x1 k24)).1).Segments)]) (C := fun g => z51 = [g, .int .i64 (((impl_ApplyUpdate_m (⟨d27, s30⟩ : DStore) (gt x1 k24)).1).Now)]) (fun _ _ h => tyStore_split h) ?_
    rintro v52 rfl
    refine WM_form (n := 0) rfl ?_
    rintro A53 c54 rfl m55
    refine wm ?_
    refine wv (fun W hm => rv_extract rfl rfl) ?_
    refine wv (fun W hm => rv_extract rfl rfl) ?_
    refine WM_alloc Try.type45 rfl (Wd_none rfl) (by decide) (fun p57 => ?_)
    refine WM_storeBox (p := p57) (o := 0) (cs := [.slice none 0 0, .int .i64 0]) (cs' := [.slice A53 (((impl_ApplyUpdate_m (⟨d27, s30⟩ : DStore) (gt x1 k24)).1).Segments).length c54, .int .i64 (((impl_ApplyUpdate_m (⟨d27, s30⟩ : DStore) (gt x1 k24)).1).Now)]) (js := [iOwn (tSl (tSl tyVersion 102) 100) [.slice A53 (((impl_ApplyUpdate_m (⟨d27, s30⟩ : DStore) (gt x1 k24)).1).Segments).length c54] (((impl_ApplyUpdate_m (⟨d27, s30⟩ : DStore) (gt x1 k24)).1).Segments), iBox p50 71 [.int .i64 ((gt x1 k24).Kind), .int .i64 ((gt x1 k24).Row.Id), .slice A46 ((gt x1 k24).Row.Values).length c47, .int .i64 ((gt x1 k24).Field), .int .i64 ((gt x1 k24).Value)], iBox p23 45 [.slice A28 d27.length c29, .int .i64 s30], iOwn (tSl (tSl tyVersion 102) 100) [.slice A28 d27.length c29] d27, iBox p16 45 [.slice none 0 0, .int .i64 0], iBox p15 45 [.slice A4 x0.Segments.length c5, .int .i64 x0.Now]]) (fun W hm => hm) Try.type45 rfl (Nat.le_of_ble_eq_true rfl) rfl rfl rfl rfl (Wd_none rfl) ?_
    refine wa ?_
    refine nt' ?_
    refine sr ?_
    refine wv (fun W hm => rv_loadN (cs := [.slice A53 (((impl_ApplyUpdate_m (⟨d27, s30⟩ : DStore) (gt x1 k24)).1).Segments).length c54, .int .i64 (((impl_ApplyUpdate_m (⟨d27, s30⟩ : DStore) (gt x1 k24)).1).Now)]) Try.underlying45 Try.type45 rfl rfl (hm.boxCells (n := 0) rfl)) ?_
    refine WM_storeBox (p := p23) (o := 0) (cs := [.slice A28 d27.length c29, .int .i64 s30]) (cs' := [.slice A53 (((impl_ApplyUpdate_m (⟨d27, s30⟩ : DStore) (gt x1 k24)).1).Segments).length c54, .int .i64 (((impl_ApplyUpdate_m (⟨d27, s30⟩ : DStore) (gt x1 k24)).1).Now)]) (js := [iBox p57 45 [.slice A53 (((impl_ApplyUpdate_m (⟨d27, s30⟩ : DStore) (gt x1 k24)).1).Segments).length c54, .int .i64 (((impl_ApplyUpdate_m (⟨d27, s30⟩ : DStore) (gt x1 k24)).1).Now)], iOwn (tSl (tSl tyVersion 102) 100) [.slice A53 (((impl_ApplyUpdate_m (⟨d27, s30⟩ : DStore) (gt x1 k24)).1).Segments).length c54] (((impl_ApplyUpdate_m (⟨d27, s30⟩ : DStore) (gt x1 k24)).1).Segments), iBox p50 71 [.int .i64 ((gt x1 k24).Kind), .int .i64 ((gt x1 k24).Row.Id), .slice A46 ((gt x1 k24).Row.Values).length c47, .int .i64 ((gt x1 k24).Field), .int .i64 ((gt x1 k24).Value)], iOwn (tSl (tSl tyVersion 102) 100) [.slice A28 d27.length c29] d27, iBox p16 45 [.slice none 0 0, .int .i64 0], iBox p15 45 [.slice A4 x0.Segments.length c5, .int .i64 x0.Now]]) (fun W hm => (hm.pick [3, 0, 1, 2, 4, 5, 6] (by decide))) Try.type45 rfl (Nat.le_of_ble_eq_true rfl) rfl rfl rfl rfl (Wd_none rfl) ?_
    refine nt' ?_
    refine sr ?_
    refine wm ?_
    refine nt' ?_
    rcases Bool.eq_false_or_eq_true ((impl_ApplyUpdate_m (⟨d27, s30⟩ : DStore) (gt x1 k24)).2) with g59 | g59
    ·
      refine CM_condT rfl g59 ?_
      refine CM_region ?_
      refine wm ?_
      refine wv (fun W hm => rv_add rfl rfl) ?_
      refine wa ?_
      refine WM_nil ?_
      refine QM_block_normal ?_
      refine QM_then ?_
      refine CM_region ?_
      refine wv (fun W hm => rv_addN (p := k24) (q := 1) rfl rfl (by omega)) ?_
      refine wm ?_
      refine WM_nil ?_
      have hn60 := rng_next (R := (DStore × Int)) (body := (fun k (s : Int × (List (List DVersion)) × Int) => impl_ApplyUpdates_b1 x1 k s.1 s.2.1 s.2.2)) (k := k24) (s := (s25, d27, s30)) (s' := ((IntKind.i64.wrap (s25 + 1)), ((impl_ApplyUpdate_m (⟨d27, s30⟩ : DStore) (gt x1 k24)).1).Segments, ((impl_ApplyUpdate_m (⟨d27, s30⟩ : DStore) (gt x1 k24)).1).Now)) (show k24 < x1.length from by omega) (show impl_ApplyUpdates_b1 x1 k24 s25 d27 s30 = Sum.inr ((IntKind.i64.wrap (s25 + 1)), ((impl_ApplyUpdate_m (⟨d27, s30⟩ : DStore) (gt x1 k24)).1).Segments, ((impl_ApplyUpdate_m (⟨d27, s30⟩ : DStore) (gt x1 k24)).1).Now) from by unfold impl_ApplyUpdates_b1; exact cond_t g59 (rfl)) hF32
      exact QM_round (k24 + 1, ((IntKind.i64.wrap (s25 + 1)), ((impl_ApplyUpdate_m (⟨d27, s30⟩ : DStore) (gt x1 k24)).1).Segments, ((impl_ApplyUpdate_m (⟨d27, s30⟩ : DStore) (gt x1 k24)).1).Now), (A53, c54)) (subL_cons rfl (subL_cons rfl (subL_cons rfl (subL_cons rfl (subL_cons rfl (subL_cons rfl subL_nil)))))) (fun W hm => (hm.pick [0, 2, 5, 6] (by decide))) ⟨(by omega), hn60, (show smStore 68719476736 (⟨(((impl_ApplyUpdate_m (⟨d27, s30⟩ : DStore) (gt x1 k24)).1).Segments), (((impl_ApplyUpdate_m (⟨d27, s30⟩ : DStore) (gt x1 k24)).1).Now)⟩ : DStore) from by exact impl_ApplyUpdate_sm hi34 _)⟩ (show x1.length - (k24 + 1) < x1.length - k24 from by omega)
    ·
      refine CM_condF rfl g59 ?_
      refine CM_skip ?_
      refine QM_block_normal ?_
      refine QM_then ?_
      refine CM_region ?_
      refine wv (fun W hm => rv_addN (p := k24) (q := 1) rfl rfl (by omega)) ?_
      refine wm ?_
      refine WM_nil ?_
      have hn61 := rng_next (R := (DStore × Int)) (body := (fun k (s : Int × (List (List DVersion)) × Int) => impl_ApplyUpdates_b1 x1 k s.1 s.2.1 s.2.2)) (k := k24) (s := (s25, d27, s30)) (s' := (s25, ((impl_ApplyUpdate_m (⟨d27, s30⟩ : DStore) (gt x1 k24)).1).Segments, ((impl_ApplyUpdate_m (⟨d27, s30⟩ : DStore) (gt x1 k24)).1).Now)) (show k24 < x1.length from by omega) (show impl_ApplyUpdates_b1 x1 k24 s25 d27 s30 = Sum.inr (s25, ((impl_ApplyUpdate_m (⟨d27, s30⟩ : DStore) (gt x1 k24)).1).Segments, ((impl_ApplyUpdate_m (⟨d27, s30⟩ : DStore) (gt x1 k24)).1).Now) from by unfold impl_ApplyUpdates_b1; exact cond_f g59 (rfl)) hF32
      exact QM_round (k24 + 1, (s25, ((impl_ApplyUpdate_m (⟨d27, s30⟩ : DStore) (gt x1 k24)).1).Segments, ((impl_ApplyUpdate_m (⟨d27, s30⟩ : DStore) (gt x1 k24)).1).Now), (A53, c54)) (subL_cons rfl (subL_cons rfl (subL_cons rfl (subL_cons rfl (subL_cons rfl (subL_cons rfl subL_nil)))))) (fun W hm => (hm.pick [0, 2, 5, 6] (by decide))) ⟨(by omega), hn61, (show smStore 68719476736 (⟨(((impl_ApplyUpdate_m (⟨d27, s30⟩ : DStore) (gt x1 k24)).1).Segments), (((impl_ApplyUpdate_m (⟨d27, s30⟩ : DStore) (gt x1 k24)).1).Now)⟩ : DStore) from by exact impl_ApplyUpdate_sm hi34 _)⟩ (show x1.length - (k24 + 1) < x1.length - k24 from by omega)
  · have g36 : (decide (((k24 : Nat) : Int) < ((x1.length : Nat) : Int))) = false := decide_eq_false (by omega)
    refine CM_condF rfl g36 ?_
    refine CM_exit ?_
    refine QM_then_exit ?_
    refine QM_then_exit ?_
    have hE62 : rng (R := (DStore × Int)) (fun k (s : Int × (List (List DVersion)) × Int) => impl_ApplyUpdates_b1 x1 k s.1 s.2.1 s.2.2) (x1.length - 0) 0 (0, x0.Segments, x0.Now) = Sum.inr (s25, d27, s30) := rng_end hl35 hF32
    refine QM_block_hit ?_
    refine QM_then ?_
    refine sr ?_
    refine wv (fun W hm => rv_loadN (cs := [.slice A28 d27.length c29, .int .i64 s30]) Try.underlying45 Try.type45 rfl rfl (hm.boxCells (n := 0) rfl)) ?_
    refine wm ?_
    refine WM_storeBox (p := p16) (o := 0) (cs := [.slice none 0 0, .int .i64 0]) (cs' := [.slice A28 d27.length c29, .int .i64 s30]) (js := [iBox p23 45 [.slice A28 d27.length c29, .int .i64 s30], iOwn (tSl (tSl tyVersion 102) 100) [.slice A28 d27.length c29] d27, iBox p15 45 [.slice A4 x0.Segments.length c5, .int .i64 x0.Now]]) (fun W hm => (hm.pick [2, 0, 1, 3] (by decide))) Try.type45 rfl (Nat.le_of_ble_eq_true rfl) rfl rfl rfl rfl (Wd_none rfl) ?_
    refine wa ?_
    refine nt' ?_
    refine CM_ret ?_
    refine QM_r2 rfl (RR_cell (n := 0) rfl rfl Try.underlying45 Try.type45 rfl) (RR_tmp rfl) (fun W hm => ⟨[.slice A28 d27.length c29, .int .i64 s30], ?_, ?_⟩)
    · first | rw [(show impl_ApplyUpdates_m x0 x1 = ((⟨d27, s30⟩ : DStore), s25) from by unfold impl_ApplyUpdates_m; exact fin_inr hE62 (rfl))] | rfl
    · rw [(show impl_ApplyUpdates_m x0 x1 = ((⟨d27, s30⟩ : DStore), s25) from by unfold impl_ApplyUpdates_m; exact fin_inr hE62 (rfl))]; exact Mem.join (is := [iOwn (tSl (tSl tyVersion 102) 100) [.slice A28 d27.length c29] d27]) (js := []) (fun _ _ hs => tyStore_join (x := (⟨d27, s30⟩ : DStore)) hs) (hm.pick [2] (by decide))

def laws_eqIntS_b1 (x0 : (List Int)) (x1 : (List Int)) (k13 : Nat) : Bool ⊕ (Unit) :=
  cond ((gt x0 k13) != (gt x1 k13)) (Sum.inl false) (Sum.inr ())
def laws_eqIntS_m (x0 : (List Int)) (x1 : (List Int)) : Bool :=
  cond (((x0.length : Nat) : Int) != ((x1.length : Nat) : Int)) false (Sum.elim id (fun (s : Unit) => true) (rng (R := Bool) (fun k (_ : Unit) => laws_eqIntS_b1 x0 x1 k) (x0.length - 0) 0 ()))
set_option maxRecDepth 100000 in
theorem cb23 : Cb Try.prog 23 := ⟨Try.f23, _, Try.func23, rfl, by decide⟩
set_option maxRecDepth 10000 in
set_option maxHeartbeats 4000000 in
theorem laws_eqIntS_c (w : World) (z0 : Value) (x0 : (List Int)) (z1 : Value) (x1 : (List Int)) (r_0 : rdS tInt w w.heap.size z0 x0) (r_1 : rdS tInt w w.heap.size z1 x1) :
    Calls Try.prog 23 #[z0, z1] w fun e w' => e = .returned (.bool (laws_eqIntS_m x0 x1)) ∧ Below w.heap.size w w' := by
  have r5 := r_0
  obtain ⟨m1, A2, c3, rfl, q4⟩ := r_0
  have r10 := r_1
  obtain ⟨m6, A7, c8, rfl, q9⟩ := r_1
  refine call_enterM (L := [(0, .slice A2 x0.length c3), (1, .slice A7 x1.length c8)]) (N := 26) Try.func23 rfl rfl (Nat.le_of_ble_eq_true rfl) (argsL_cons rfl (argsL_cons rfl argsL_nil)) ?_
  refine sr ?_
  refine wa ?_
  refine nt' ?_
  refine CM_seq ?_
  refine sr ?_
  refine wm ?_
  refine wv (fun W hm => rv_len Try.underlying33 rfl) ?_
  refine wm ?_
  refine wv (fun W hm => rv_len Try.underlying33 rfl) ?_
  refine wv (fun W hm => rv_neq rfl rfl) ?_
  refine nt' ?_
  by_cases h11 : ((x0.length : Nat) : Int) = ((x1.length : Nat) : Int)
  · have g12 : (((x0.length : Nat) : Int) != ((x1.length : Nat) : Int)) = false := by rw [h11]; exact bne_self_eq_false _
    refine CM_condF rfl g12 ?_
    refine CM_skip ?_
    refine QM_then ?_
    refine CM_seq ?_
    refine sr ?_
    refine wa ?_
    refine nt' ?_
    refine CM_block ?_
    refine CM_loop (σ := Nat × (Unit) × (Unit)) (fun s => [(0, .slice A2 x0.length c3), (1, .slice A7 x1.length c8), (5, .int .i64 ((s.1 : Nat) : Int))]) (fun s => []) (fun s => s.1 ≤ x0.length ∧ rng (R := Bool) (fun k (_ : Unit) => laws_eqIntS_b1 x0 x1 k) (x0.length - s.1) s.1 s.2.1 = rng (R := Bool) (fun k (_ : Unit) => laws_eqIntS_b1 x0 x1 k) (x0.length - 0) 0 ()) (fun s => x0.length - s.1) (0, (), ()) (subL_cons rfl (subL_cons rfl (subL_cons rfl subL_nil))) (fun W hm => hm) ⟨(by omega), rfl⟩ ?_
    rintro ⟨k13, ⟨⟩, ⟨⟩⟩ H16
    obtain ⟨hk14, hF15⟩ : k13 ≤ x0.length ∧ rng (R := Bool) (fun k (_ : Unit) => laws_eqIntS_b1 x0 x1 k) (x0.length - k13) k13 () = rng (R := Bool) (fun k (_ : Unit) => laws_eqIntS_b1 x0 x1 k) (x0.length - 0) 0 () := H16
    show CM Try.prog 26 _ _ _ _ [(0, .slice A2 x0.length c3), (1, .slice A7 x1.length c8), (5, .int .i64 ((k13 : Nat) : Int))] []
    refine CM_seq ?_
    refine sr ?_
    refine wm ?_
    refine wm ?_
    refine wv (fun W hm => rv_len Try.underlying33 rfl) ?_
    refine wv (fun W hm => rv_lss rfl rfl) ?_
    refine nt' ?_
    by_cases hl17 : k13 < x0.length
    · have g18 : (decide (((k13 : Nat) : Int) < ((x0.length : Nat) : Int))) = true := decide_eq_true (by omega)
      refine CM_condT rfl g18 ?_
      refine CM_skip ?_
      refine QM_then ?_
      refine CM_seq ?_
      refine CM_block ?_
      refine CM_seq ?_
      refine CM_regionD (by kernel_rfl) (by kernel_rfl) ?_
      refine qm ?_
      refine qm ?_
      obtain ⟨a19, rfl, hb20, he21⟩ := q4 (by omega)
      refine qv (fun W hm => rv_index (sz := 1) (k := k13) Try.underlying33 Try.type3 rfl rfl rfl (by omega)) ?_
      refine qv (fun W hm => rv_load Try.underlying3 rfl rfl ((hm.cell0 (show (a19.add (k13 * 1)).block < w.heap.size from by rw [add_block]; exact hb20.1)).trans (rdS_int he21 k13 (by omega)))) ?_
      refine qm ?_
      refine qm ?_
      obtain ⟨a22, rfl, hb23, he24⟩ := q9 (by omega)
      refine qv (fun W hm => rv_index (sz := 1) (k := k13) Try.underlying33 Try.type3 rfl rfl rfl (by omega)) ?_
      refine qv (fun W hm => rv_load Try.underlying3 rfl rfl ((hm.cell0 (show (a22.add (k13 * 1)).block < w.heap.size from by rw [add_block]; exact hb23.1)).trans (rdS_int he24 k13 (by omega)))) ?_
      refine qv (fun W hm => rv_neq rfl rfl) ?_
      refine nq' ?_
      by_cases h25 : (gt x0 k13) = (gt x1 k13)
      · have g26 : ((gt x0 k13) != (gt x1 k13)) = false := by rw [h25]; exact bne_self_eq_false _
        refine CM_condF rfl g26 ?_
        refine CM_skip ?_
        refine QM_block_normal ?_
        refine QM_then ?_
        refine CM_region ?_
        refine wm ?_
        refine wv (fun W hm => rv_addN (p := k13) (q := 1) rfl rfl (by omega)) ?_
        refine wa ?_
        refine WM_nil ?_
        have hn27 := rng_next (R := Bool) (body := (fun k (_ : Unit) => laws_eqIntS_b1 x0 x1 k)) (k := k13) (s := ()) (s' := ()) (show k13 < x0.length from by omega) (show laws_eqIntS_b1 x0 x1 k13 = Sum.inr () from by unfold laws_eqIntS_b1; exact cond_f g26 (rfl)) hF15
        exact QM_round (k13 + 1, (), ()) (subL_cons rfl (subL_cons rfl (subL_cons rfl subL_nil))) (fun W hm => hm) ⟨(by omega), hn27⟩ (show x0.length - (k13 + 1) < x0.length - k13 from by omega)
      · have g26 : ((gt x0 k13) != (gt x1 k13)) = true := bne_iff_ne.2 h25
        refine CM_condT rfl g26 ?_
        refine sr ?_
        refine wa ?_
        refine nt' ?_
        refine CM_ret ?_
        refine QM_block_ret ?_
        refine QM_then_ret ?_
        refine QM_then_ret ?_
        refine QM_block_ret ?_
        refine QM_then_ret ?_
        exact QM_ret1 rfl rfl (fun W hm => ⟨ret_b (show laws_eqIntS_m x0 x1 = false from by unfold laws_eqIntS_m; exact cond_f g12 (fin_inl (rng_ret (body := (fun k (_ : Unit) => laws_eqIntS_b1 x0 x1 k)) (k := k13) (s := ()) (show k13 < x0.length from by omega) (show laws_eqIntS_b1 x0 x1 k13 = Sum.inl false from by unfold laws_eqIntS_b1; exact cond_t g26 (rfl)) hF15) rfl)), hm.below⟩)
    · have g18 : (decide (((k13 : Nat) : Int) < ((x0.length : Nat) : Int))) = false := decide_eq_false (by omega)
      refine CM_condF rfl g18 ?_
      refine CM_exit ?_
      refine QM_then_exit ?_
      refine QM_then_exit ?_
      have hE28 : rng (R := Bool) (fun k (_ : Unit) => laws_eqIntS_b1 x0 x1 k) (x0.length - 0) 0 () = Sum.inr () := rng_end hl17 hF15
      refine QM_block_hit ?_
      refine QM_then ?_
      refine sr ?_
      refine wa ?_
      refine nt' ?_
      refine CM_ret ?_
      exact QM_ret1 rfl rfl (fun W hm => ⟨ret_b (show laws_eqIntS_m x0 x1 = true from by unfold laws_eqIntS_m; exact cond_f g12 (fin_inr hE28 (rfl))), hm.below⟩)
  · have g12 : (((x0.length : Nat) : Int) != ((x1.length : Nat) : Int)) = true := bne_iff_ne.2 h11
    refine CM_condT rfl g12 ?_
    refine sr ?_
    refine wa ?_
    refine nt' ?_
    refine CM_ret ?_
    refine QM_then_ret ?_
    exact QM_ret1 rfl rfl (fun W hm => ⟨ret_b (show laws_eqIntS_m x0 x1 = false from by unfold laws_eqIntS_m; exact cond_t g12 (rfl)), hm.below⟩)

def laws_eqVersion_m (x0 : DVersion) (x1 : DVersion) : Bool :=
  cond (x0.Id != x1.Id) false (cond (laws_eqIntS_m x0.Values x1.Values) (cond (x0.Born != x1.Born) false (cond (x0.Died != x1.Died) false true)) false)
set_option maxRecDepth 100000 in
theorem cb131 : Cb Try.prog 131 := ⟨Try.f131, _, Try.func131, rfl, by decide⟩
set_option maxRecDepth 10000 in
set_option maxHeartbeats 4000000 in
theorem laws_eqVersion_c (w : World) (z0 : List Value) (x0 : DVersion) (z1 : List Value) (x1 : DVersion) (r_0 : tyVersion.rd w w.heap.size z0 x0) (r_1 : tyVersion.rd w w.heap.size z1 x1) :
    Calls Try.prog 131 #[.agg z0.toArray, .agg z1.toArray] w fun e w' => e = .returned (.bool (laws_eqVersion_m x0 x1)) ∧ Below w.heap.size w w' := by
  obtain ⟨v1, rfl, r2⟩ := tyVersion_rd r_0
  have r7 := r2
  obtain ⟨m3, A4, c5, rfl, q6⟩ := r2
  obtain ⟨v8, rfl, r9⟩ := tyVersion_rd r_1
  have r14 := r9
  obtain ⟨m10, A11, c12, rfl, q13⟩ := r9
  refine call_enterM (L := [(0, .agg #[.int .i64 x0.Id, .slice A4 x0.Values.length c5, .int .i64 x0.Born, .int .i64 x0.Died]), (1, .agg #[.int .i64 x1.Id, .slice A11 x1.Values.length c12, .int .i64 x1.Born, .int .i64 x1.Died])]) (N := 26) Try.func131 rfl rfl (Nat.le_of_ble_eq_true rfl) (argsL_cons rfl (argsL_cons rfl argsL_nil)) ?_
  refine sr ?_
  refine WM_box rfl (Wd_none rfl) (by decide) (fun p15 => ?_)
  refine WM_box rfl (Wd_none rfl) (by decide) (fun p16 => ?_)
  refine wa ?_
  refine nt' ?_
  refine CM_seq ?_
  refine sr ?_
  refine wv (fun W hm => rv_field Try.underlying102 rfl Try.type3 (by decide) rfl rfl) ?_
  refine wv (fun W hm => rv_load Try.underlying3 rfl rfl (hm.boxCell (n := 1) (o := 0) rfl rfl)) ?_
  refine wv (fun W hm => rv_field Try.underlying102 rfl Try.type3 (by decide) rfl rfl) ?_
  refine wv (fun W hm => rv_load Try.underlying3 rfl rfl (hm.boxCell (n := 0) (o := 0) rfl rfl)) ?_
  refine wv (fun W hm => rv_neq rfl rfl) ?_
  refine nt' ?_
  by_cases h17 : x0.Id = x1.Id
  · have g18 : (x0.Id != x1.Id) = false := by rw [h17]; exact bne_self_eq_false _
    refine CM_condF rfl g18 ?_
    refine CM_skip ?_
    refine QM_then ?_
    refine CM_seq ?_
    refine sr ?_
    refine wv (fun W hm => rv_field Try.underlying102 rfl Try.type33 (by decide) rfl rfl) ?_
    refine wv (fun W hm => rv_load Try.underlying33 rfl rfl (hm.boxCell (n := 1) (o := 1) rfl rfl)) ?_
    refine wv (fun W hm => rv_field Try.underlying102 rfl Try.type33 (by decide) rfl rfl) ?_
    refine wv (fun W hm => rv_load Try.underlying33 rfl rfl (hm.boxCell (n := 0) (o := 1) rfl rfl)) ?_
    refine WM_callV (cl_fn cb23 rfl) (fun W hm => laws_eqIntS_c W _ x0.Values _ x1.Values (hm.rdS0 r7) (hm.rdS0 r14)) (Wd_none rfl) (by decide) ?_
    refine wv (fun W hm => rv_not rfl) ?_
    refine nt' ?_
    rcases Bool.eq_false_or_eq_true (laws_eqIntS_m x0.Values x1.Values) with g20 | g20
    ·
      refine CM_condF rfl (nt g20) ?_
      refine CM_skip ?_
      refine QM_then ?_
      refine CM_seq ?_
      refine sr ?_
      refine wv (fun W hm => rv_field Try.underlying102 rfl Try.type3 (by decide) rfl rfl) ?_
      refine wv (fun W hm => rv_load Try.underlying3 rfl rfl (hm.boxCell (n := 1) (o := 2) rfl rfl)) ?_
      refine wv (fun W hm => rv_field Try.underlying102 rfl Try.type3 (by decide) rfl rfl) ?_
      refine wv (fun W hm => rv_load Try.underlying3 rfl rfl (hm.boxCell (n := 0) (o := 2) rfl rfl)) ?_
      refine wv (fun W hm => rv_neq rfl rfl) ?_
      refine nt' ?_
      by_cases h21 : x0.Born = x1.Born
      · have g22 : (x0.Born != x1.Born) = false := by rw [h21]; exact bne_self_eq_false _
        refine CM_condF rfl g22 ?_
        refine CM_skip ?_
        refine QM_then ?_
        refine CM_seq ?_
        refine sr ?_
        refine wv (fun W hm => rv_field Try.underlying102 rfl Try.type3 (by decide) rfl rfl) ?_
        refine wv (fun W hm => rv_load Try.underlying3 rfl rfl (hm.boxCell (n := 1) (o := 3) rfl rfl)) ?_
        refine wv (fun W hm => rv_field Try.underlying102 rfl Try.type3 (by decide) rfl rfl) ?_
        refine wv (fun W hm => rv_load Try.underlying3 rfl rfl (hm.boxCell (n := 0) (o := 3) rfl rfl)) ?_
        refine wv (fun W hm => rv_neq rfl rfl) ?_
        refine nt' ?_
        by_cases h23 : x0.Died = x1.Died
        · have g24 : (x0.Died != x1.Died) = false := by rw [h23]; exact bne_self_eq_false _
          refine CM_condF rfl g24 ?_
          refine CM_skip ?_
          refine QM_then ?_
          refine sr ?_
          refine wa ?_
          refine nt' ?_
          refine CM_ret ?_
          exact QM_ret1 rfl rfl (fun W hm => ⟨ret_b (show laws_eqVersion_m x0 x1 = true from by unfold laws_eqVersion_m; exact cond_f g18 (cond_t g20 (cond_f g22 (cond_f g24 (rfl))))), hm.below⟩)
        · have g24 : (x0.Died != x1.Died) = true := bne_iff_ne.2 h23
          refine CM_condT rfl g24 ?_
          refine sr ?_
          refine wa ?_
          refine nt' ?_
          refine CM_ret ?_
          refine QM_then_ret ?_
          exact QM_ret1 rfl rfl (fun W hm => ⟨ret_b (show laws_eqVersion_m x0 x1 = false from by unfold laws_eqVersion_m; exact cond_f g18 (cond_t g20 (cond_f g22 (cond_t g24 (rfl))))), hm.below⟩)
      · have g22 : (x0.Born != x1.Born) = true := bne_iff_ne.2 h21
        refine CM_condT rfl g22 ?_
        refine sr ?_
        refine wa ?_
        refine nt' ?_
        refine CM_ret ?_
        refine QM_then_ret ?_
        exact QM_ret1 rfl rfl (fun W hm => ⟨ret_b (show laws_eqVersion_m x0 x1 = false from by unfold laws_eqVersion_m; exact cond_f g18 (cond_t g20 (cond_t g22 (rfl)))), hm.below⟩)
    ·
      refine CM_condT rfl (nf g20) ?_
      refine sr ?_
      refine wa ?_
      refine nt' ?_
      refine CM_ret ?_
      refine QM_then_ret ?_
      exact QM_ret1 rfl rfl (fun W hm => ⟨ret_b (show laws_eqVersion_m x0 x1 = false from by unfold laws_eqVersion_m; exact cond_f g18 (cond_f g20 (rfl))), hm.below⟩)
  · have g18 : (x0.Id != x1.Id) = true := bne_iff_ne.2 h17
    refine CM_condT rfl g18 ?_
    refine sr ?_
    refine wa ?_
    refine nt' ?_
    refine CM_ret ?_
    refine QM_then_ret ?_
    exact QM_ret1 rfl rfl (fun W hm => ⟨ret_b (show laws_eqVersion_m x0 x1 = false from by unfold laws_eqVersion_m; exact cond_t g18 (rfl)), hm.below⟩)

def laws_eqVersionS_b1 (x0 : (List DVersion)) (x1 : (List DVersion)) (k13 : Nat) : Bool ⊕ (Unit) :=
  cond (laws_eqVersion_m (gt x0 k13) (gt x1 k13)) (Sum.inr ()) (Sum.inl false)
def laws_eqVersionS_m (x0 : (List DVersion)) (x1 : (List DVersion)) : Bool :=
  cond (((x0.length : Nat) : Int) != ((x1.length : Nat) : Int)) false (Sum.elim id (fun (s : Unit) => true) (rng (R := Bool) (fun k (_ : Unit) => laws_eqVersionS_b1 x0 x1 k) (x0.length - 0) 0 ()))
set_option maxRecDepth 100000 in
theorem cb118 : Cb Try.prog 118 := ⟨Try.f118, _, Try.func118, rfl, by decide⟩
set_option maxRecDepth 10000 in
set_option maxHeartbeats 4000000 in
theorem laws_eqVersionS_c (w : World) (z0 : Value) (x0 : (List DVersion)) (z1 : Value) (x1 : (List DVersion)) (r_0 : rdS tyVersion w w.heap.size z0 x0) (r_1 : rdS tyVersion w w.heap.size z1 x1) :
    Calls Try.prog 118 #[z0, z1] w fun e w' => e = .returned (.bool (laws_eqVersionS_m x0 x1)) ∧ Below w.heap.size w w' := by
  have r5 := r_0
  obtain ⟨m1, A2, c3, rfl, q4⟩ := r_0
  have r10 := r_1
  obtain ⟨m6, A7, c8, rfl, q9⟩ := r_1
  refine call_enterM (L := [(0, .slice A2 x0.length c3), (1, .slice A7 x1.length c8)]) (N := 27) Try.func118 rfl rfl (Nat.le_of_ble_eq_true rfl) (argsL_cons rfl (argsL_cons rfl argsL_nil)) ?_
  refine sr ?_
  refine wa ?_
  refine nt' ?_
  refine CM_seq ?_
  refine sr ?_
  refine wm ?_
  refine wv (fun W hm => rv_len Try.underlying100 rfl) ?_
  refine wm ?_
  refine wv (fun W hm => rv_len Try.underlying100 rfl) ?_
  refine wv (fun W hm => rv_neq rfl rfl) ?_
  refine nt' ?_
  by_cases h11 : ((x0.length : Nat) : Int) = ((x1.length : Nat) : Int)
  · have g12 : (((x0.length : Nat) : Int) != ((x1.length : Nat) : Int)) = false := by rw [h11]; exact bne_self_eq_false _
    refine CM_condF rfl g12 ?_
    refine CM_skip ?_
    refine QM_then ?_
    refine CM_seq ?_
    refine sr ?_
    refine wa ?_
    refine nt' ?_
    refine CM_block ?_
    refine CM_loop (σ := Nat × (Unit) × (Unit)) (fun s => [(0, .slice A2 x0.length c3), (1, .slice A7 x1.length c8), (5, .int .i64 ((s.1 : Nat) : Int))]) (fun s => []) (fun s => s.1 ≤ x0.length ∧ rng (R := Bool) (fun k (_ : Unit) => laws_eqVersionS_b1 x0 x1 k) (x0.length - s.1) s.1 s.2.1 = rng (R := Bool) (fun k (_ : Unit) => laws_eqVersionS_b1 x0 x1 k) (x0.length - 0) 0 ()) (fun s => x0.length - s.1) (0, (), ()) (subL_cons rfl (subL_cons rfl (subL_cons rfl subL_nil))) (fun W hm => hm) ⟨(by omega), rfl⟩ ?_
    rintro ⟨k13, ⟨⟩, ⟨⟩⟩ H16
    obtain ⟨hk14, hF15⟩ : k13 ≤ x0.length ∧ rng (R := Bool) (fun k (_ : Unit) => laws_eqVersionS_b1 x0 x1 k) (x0.length - k13) k13 () = rng (R := Bool) (fun k (_ : Unit) => laws_eqVersionS_b1 x0 x1 k) (x0.length - 0) 0 () := H16
    show CM Try.prog 27 _ _ _ _ [(0, .slice A2 x0.length c3), (1, .slice A7 x1.length c8), (5, .int .i64 ((k13 : Nat) : Int))] []
    refine CM_seq ?_
    refine sr ?_
    refine wm ?_
    refine wm ?_
    refine wv (fun W hm => rv_len Try.underlying100 rfl) ?_
    refine wv (fun W hm => rv_lss rfl rfl) ?_
    refine nt' ?_
    by_cases hl17 : k13 < x0.length
    · have g18 : (decide (((k13 : Nat) : Int) < ((x0.length : Nat) : Int))) = true := decide_eq_true (by omega)
      refine CM_condT rfl g18 ?_
      refine CM_skip ?_
      refine QM_then ?_
      refine CM_seq ?_
      refine CM_block ?_
      refine CM_seq ?_
      refine CM_regionD (by kernel_rfl) (by kernel_rfl) ?_
      refine qm ?_
      refine qm ?_
      obtain ⟨a19, rfl, hb20, he21⟩ := q4 (by omega)
      refine qv (fun W hm => rv_index (sz := 4) (k := k13) Try.underlying100 Try.type102 rfl rfl rfl (by omega)) ?_
      obtain ⟨_, e25, hc22⟩ := he21 k13 _ (gt_some (show k13 < x0.length from by omega))
      obtain ⟨v23, rfl, r24⟩ := tyVersion_rd e25
      have r30 := r24
      obtain ⟨m26, A27, c28, rfl, q29⟩ := r24
      refine qv (fun W hm => rv_loadN (cs := [.int .i64 ((gt x0 k13).Id), .slice A27 ((gt x0 k13).Values).length c28, .int .i64 ((gt x0 k13).Born), .int .i64 ((gt x0 k13).Died)]) Try.underlying102 Try.type102 rfl rfl (hm.elCells (show (a19.add (k13 * 4)).block < w.heap.size from by rw [add_block]; exact hb20.1) hc22)) ?_
      refine qm ?_
      refine qm ?_
      obtain ⟨a31, rfl, hb32, he33⟩ := q9 (by omega)
      refine qv (fun W hm => rv_index (sz := 4) (k := k13) Try.underlying100 Try.type102 rfl rfl rfl (by omega)) ?_
      obtain ⟨_, e37, hc34⟩ := he33 k13 _ (gt_some (show k13 < x1.length from by omega))
      obtain ⟨v35, rfl, r36⟩ := tyVersion_rd e37
      have r42 := r36
      obtain ⟨m38, A39, c40, rfl, q41⟩ := r36
      refine qv (fun W hm => rv_loadN (cs := [.int .i64 ((gt x1 k13).Id), .slice A39 ((gt x1 k13).Values).length c40, .int .i64 ((gt x1 k13).Born), .int .i64 ((gt x1 k13).Died)]) Try.underlying102 Try.type102 rfl rfl (hm.elCells (show (a31.add (k13 * 4)).block < w.heap.size from by rw [add_block]; exact hb32.1) hc34)) ?_
      refine QR_callV (cl_fn cb131 rfl) (fun W hm => laws_eqVersion_c W _ (gt x0 k13) _ (gt x1 k13) (tyVersion_mk (x := (gt x0 k13)) (hm.rdS0 r30)) (tyVersion_mk (x := (gt x1 k13)) (hm.rdS0 r42))) (Wd_none rfl) (by decide) ?_
      refine qv (fun W hm => rv_not rfl) ?_
      refine nq' ?_
      rcases Bool.eq_false_or_eq_true (laws_eqVersion_m (gt x0 k13) (gt x1 k13)) with g44 | g44
      ·
        refine CM_condF rfl (nt g44) ?_
        refine CM_skip ?_
        refine QM_block_normal ?_
        refine QM_then ?_
        refine CM_region ?_
        refine wm ?_
        refine wv (fun W hm => rv_addN (p := k13) (q := 1) rfl rfl (by omega)) ?_
        refine wa ?_
        refine WM_nil ?_
        have hn45 := rng_next (R := Bool) (body := (fun k (_ : Unit) => laws_eqVersionS_b1 x0 x1 k)) (k := k13) (s := ()) (s' := ()) (show k13 < x0.length from by omega) (show laws_eqVersionS_b1 x0 x1 k13 = Sum.inr () from by unfold laws_eqVersionS_b1; exact cond_t g44 (rfl)) hF15
        exact QM_round (k13 + 1, (), ()) (subL_cons rfl (subL_cons rfl (subL_cons rfl subL_nil))) (fun W hm => hm) ⟨(by omega), hn45⟩ (show x0.length - (k13 + 1) < x0.length - k13 from by omega)
      ·
        refine CM_condT rfl (nf g44) ?_
        refine sr ?_
        refine wa ?_
        refine nt' ?_
        refine CM_ret ?_
        refine QM_block_ret ?_
        refine QM_then_ret ?_
        refine QM_then_ret ?_
        refine QM_block_ret ?_
        refine QM_then_ret ?_
        exact QM_ret1 rfl rfl (fun W hm => ⟨ret_b (show laws_eqVersionS_m x0 x1 = false from by unfold laws_eqVersionS_m; exact cond_f g12 (fin_inl (rng_ret (body := (fun k (_ : Unit) => laws_eqVersionS_b1 x0 x1 k)) (k := k13) (s := ()) (show k13 < x0.length from by omega) (show laws_eqVersionS_b1 x0 x1 k13 = Sum.inl false from by unfold laws_eqVersionS_b1; exact cond_f g44 (rfl)) hF15) rfl)), hm.below⟩)
    · have g18 : (decide (((k13 : Nat) : Int) < ((x0.length : Nat) : Int))) = false := decide_eq_false (by omega)
      refine CM_condF rfl g18 ?_
      refine CM_exit ?_
      refine QM_then_exit ?_
      refine QM_then_exit ?_
      have hE46 : rng (R := Bool) (fun k (_ : Unit) => laws_eqVersionS_b1 x0 x1 k) (x0.length - 0) 0 () = Sum.inr () := rng_end hl17 hF15
      refine QM_block_hit ?_
      refine QM_then ?_
      refine sr ?_
      refine wa ?_
      refine nt' ?_
      refine CM_ret ?_
      exact QM_ret1 rfl rfl (fun W hm => ⟨ret_b (show laws_eqVersionS_m x0 x1 = true from by unfold laws_eqVersionS_m; exact cond_f g12 (fin_inr hE46 (rfl))), hm.below⟩)
  · have g12 : (((x0.length : Nat) : Int) != ((x1.length : Nat) : Int)) = true := bne_iff_ne.2 h11
    refine CM_condT rfl g12 ?_
    refine sr ?_
    refine wa ?_
    refine nt' ?_
    refine CM_ret ?_
    refine QM_then_ret ?_
    exact QM_ret1 rfl rfl (fun W hm => ⟨ret_b (show laws_eqVersionS_m x0 x1 = false from by unfold laws_eqVersionS_m; exact cond_t g12 (rfl)), hm.below⟩)

def laws_eqVersionSS_b1 (x0 : (List (List DVersion))) (x1 : (List (List DVersion))) (k13 : Nat) : Bool ⊕ (Unit) :=
  cond (laws_eqVersionS_m (gt x0 k13) (gt x1 k13)) (Sum.inr ()) (Sum.inl false)
def laws_eqVersionSS_m (x0 : (List (List DVersion))) (x1 : (List (List DVersion))) : Bool :=
  cond (((x0.length : Nat) : Int) != ((x1.length : Nat) : Int)) false (Sum.elim id (fun (s : Unit) => true) (rng (R := Bool) (fun k (_ : Unit) => laws_eqVersionSS_b1 x0 x1 k) (x0.length - 0) 0 ()))
set_option maxRecDepth 100000 in
theorem cb76 : Cb Try.prog 76 := ⟨Try.f76, _, Try.func76, rfl, by decide⟩
set_option maxRecDepth 10000 in
set_option maxHeartbeats 4000000 in
theorem laws_eqVersionSS_c (w : World) (z0 : Value) (x0 : (List (List DVersion))) (z1 : Value) (x1 : (List (List DVersion))) (r_0 : rdS (tSl tyVersion 102) w w.heap.size z0 x0) (r_1 : rdS (tSl tyVersion 102) w w.heap.size z1 x1) :
    Calls Try.prog 76 #[z0, z1] w fun e w' => e = .returned (.bool (laws_eqVersionSS_m x0 x1)) ∧ Below w.heap.size w w' := by
  have r5 := r_0
  obtain ⟨m1, A2, c3, rfl, q4⟩ := r_0
  have r10 := r_1
  obtain ⟨m6, A7, c8, rfl, q9⟩ := r_1
  refine call_enterM (L := [(0, .slice A2 x0.length c3), (1, .slice A7 x1.length c8)]) (N := 27) Try.func76 rfl rfl (Nat.le_of_ble_eq_true rfl) (argsL_cons rfl (argsL_cons rfl argsL_nil)) ?_
  refine sr ?_
  refine wa ?_
  refine nt' ?_
  refine CM_seq ?_
  refine sr ?_
  refine wm ?_
  refine wv (fun W hm => rv_len Try.underlying43 rfl) ?_
  refine wm ?_
  refine wv (fun W hm => rv_len Try.underlying43 rfl) ?_
  refine wv (fun W hm => rv_neq rfl rfl) ?_
  refine nt' ?_
  by_cases h11 : ((x0.length : Nat) : Int) = ((x1.length : Nat) : Int)
  · have g12 : (((x0.length : Nat) : Int) != ((x1.length : Nat) : Int)) = false := by rw [h11]; exact bne_self_eq_false _
    refine CM_condF rfl g12 ?_
    refine CM_skip ?_
    refine QM_then ?_
    refine CM_seq ?_
    refine sr ?_
    refine wa ?_
    refine nt' ?_
    refine CM_block ?_
    refine CM_loop (σ := Nat × (Unit) × (Unit)) (fun s => [(0, .slice A2 x0.length c3), (1, .slice A7 x1.length c8), (5, .int .i64 ((s.1 : Nat) : Int))]) (fun s => []) (fun s => s.1 ≤ x0.length ∧ rng (R := Bool) (fun k (_ : Unit) => laws_eqVersionSS_b1 x0 x1 k) (x0.length - s.1) s.1 s.2.1 = rng (R := Bool) (fun k (_ : Unit) => laws_eqVersionSS_b1 x0 x1 k) (x0.length - 0) 0 ()) (fun s => x0.length - s.1) (0, (), ()) (subL_cons rfl (subL_cons rfl (subL_cons rfl subL_nil))) (fun W hm => hm) ⟨(by omega), rfl⟩ ?_
    rintro ⟨k13, ⟨⟩, ⟨⟩⟩ H16
    obtain ⟨hk14, hF15⟩ : k13 ≤ x0.length ∧ rng (R := Bool) (fun k (_ : Unit) => laws_eqVersionSS_b1 x0 x1 k) (x0.length - k13) k13 () = rng (R := Bool) (fun k (_ : Unit) => laws_eqVersionSS_b1 x0 x1 k) (x0.length - 0) 0 () := H16
    show CM Try.prog 27 _ _ _ _ [(0, .slice A2 x0.length c3), (1, .slice A7 x1.length c8), (5, .int .i64 ((k13 : Nat) : Int))] []
    refine CM_seq ?_
    refine sr ?_
    refine wm ?_
    refine wm ?_
    refine wv (fun W hm => rv_len Try.underlying43 rfl) ?_
    refine wv (fun W hm => rv_lss rfl rfl) ?_
    refine nt' ?_
    by_cases hl17 : k13 < x0.length
    · have g18 : (decide (((k13 : Nat) : Int) < ((x0.length : Nat) : Int))) = true := decide_eq_true (by omega)
      refine CM_condT rfl g18 ?_
      refine CM_skip ?_
      refine QM_then ?_
      refine CM_seq ?_
      refine CM_block ?_
      refine CM_seq ?_
      refine CM_regionD (by kernel_rfl) (by kernel_rfl) ?_
      refine qm ?_
      refine qm ?_
      obtain ⟨a19, rfl, hb20, he21⟩ := q4 (by omega)
      refine qv (fun W hm => rv_index (sz := 1) (k := k13) Try.underlying43 Try.type100 rfl rfl rfl (by omega)) ?_
      obtain ⟨_, e23, hc22⟩ := he21 k13 _ (gt_some (show k13 < x0.length from by omega))
      obtain ⟨v24, rfl, r25⟩ := e23
      have r30 := r25
      obtain ⟨m26, A27, c28, rfl, q29⟩ := r25
      refine qv (fun W hm => rv_load Try.underlying100 rfl rfl ((hm.cell0 (show (a19.add (k13 * 1)).block < w.heap.size from by rw [add_block]; exact hb20.1)).trans (hc22 0 _ rfl))) ?_
      refine qm ?_
      refine qm ?_
      obtain ⟨a31, rfl, hb32, he33⟩ := q9 (by omega)
      refine qv (fun W hm => rv_index (sz := 1) (k := k13) Try.underlying43 Try.type100 rfl rfl rfl (by omega)) ?_
      obtain ⟨_, e35, hc34⟩ := he33 k13 _ (gt_some (show k13 < x1.length from by omega))
      obtain ⟨v36, rfl, r37⟩ := e35
      have r42 := r37
      obtain ⟨m38, A39, c40, rfl, q41⟩ := r37
      refine qv (fun W hm => rv_load Try.underlying100 rfl rfl ((hm.cell0 (show (a31.add (k13 * 1)).block < w.heap.size from by rw [add_block]; exact hb32.1)).trans (hc34 0 _ rfl))) ?_
      refine QR_callV (cl_fn cb118 rfl) (fun W hm => laws_eqVersionS_c W _ (gt x0 k13) _ (gt x1 k13) (hm.rdS0 r30) (hm.rdS0 r42)) (Wd_none rfl) (by decide) ?_
      refine qv (fun W hm => rv_not rfl) ?_
      refine nq' ?_
      rcases Bool.eq_false_or_eq_true (laws_eqVersionS_m (gt x0 k13) (gt x1 k13)) with g44 | g44
      ·
        refine CM_condF rfl (nt g44) ?_
        refine CM_skip ?_
        refine QM_block_normal ?_
        refine QM_then ?_
        refine CM_region ?_
        refine wm ?_
        refine wv (fun W hm => rv_addN (p := k13) (q := 1) rfl rfl (by omega)) ?_
        refine wa ?_
        refine WM_nil ?_
        have hn45 := rng_next (R := Bool) (body := (fun k (_ : Unit) => laws_eqVersionSS_b1 x0 x1 k)) (k := k13) (s := ()) (s' := ()) (show k13 < x0.length from by omega) (show laws_eqVersionSS_b1 x0 x1 k13 = Sum.inr () from by unfold laws_eqVersionSS_b1; exact cond_t g44 (rfl)) hF15
        exact QM_round (k13 + 1, (), ()) (subL_cons rfl (subL_cons rfl (subL_cons rfl subL_nil))) (fun W hm => hm) ⟨(by omega), hn45⟩ (show x0.length - (k13 + 1) < x0.length - k13 from by omega)
      ·
        refine CM_condT rfl (nf g44) ?_
        refine sr ?_
        refine wa ?_
        refine nt' ?_
        refine CM_ret ?_
        refine QM_block_ret ?_
        refine QM_then_ret ?_
        refine QM_then_ret ?_
        refine QM_block_ret ?_
        refine QM_then_ret ?_
        exact QM_ret1 rfl rfl (fun W hm => ⟨ret_b (show laws_eqVersionSS_m x0 x1 = false from by unfold laws_eqVersionSS_m; exact cond_f g12 (fin_inl (rng_ret (body := (fun k (_ : Unit) => laws_eqVersionSS_b1 x0 x1 k)) (k := k13) (s := ()) (show k13 < x0.length from by omega) (show laws_eqVersionSS_b1 x0 x1 k13 = Sum.inl false from by unfold laws_eqVersionSS_b1; exact cond_f g44 (rfl)) hF15) rfl)), hm.below⟩)
    · have g18 : (decide (((k13 : Nat) : Int) < ((x0.length : Nat) : Int))) = false := decide_eq_false (by omega)
      refine CM_condF rfl g18 ?_
      refine CM_exit ?_
      refine QM_then_exit ?_
      refine QM_then_exit ?_
      have hE46 : rng (R := Bool) (fun k (_ : Unit) => laws_eqVersionSS_b1 x0 x1 k) (x0.length - 0) 0 () = Sum.inr () := rng_end hl17 hF15
      refine QM_block_hit ?_
      refine QM_then ?_
      refine sr ?_
      refine wa ?_
      refine nt' ?_
      refine CM_ret ?_
      exact QM_ret1 rfl rfl (fun W hm => ⟨ret_b (show laws_eqVersionSS_m x0 x1 = true from by unfold laws_eqVersionSS_m; exact cond_f g12 (fin_inr hE46 (rfl))), hm.below⟩)
  · have g12 : (((x0.length : Nat) : Int) != ((x1.length : Nat) : Int)) = true := bne_iff_ne.2 h11
    refine CM_condT rfl g12 ?_
    refine sr ?_
    refine wa ?_
    refine nt' ?_
    refine CM_ret ?_
    refine QM_then_ret ?_
    exact QM_ret1 rfl rfl (fun W hm => ⟨ret_b (show laws_eqVersionSS_m x0 x1 = false from by unfold laws_eqVersionSS_m; exact cond_t g12 (rfl)), hm.below⟩)

def laws_eqStore_m (x0 : DStore) (x1 : DStore) : Bool :=
  cond (laws_eqVersionSS_m x0.Segments x1.Segments) (cond (x0.Now != x1.Now) false true) false
set_option maxRecDepth 100000 in
theorem cb30 : Cb Try.prog 30 := ⟨Try.f30, _, Try.func30, rfl, by decide⟩
set_option maxRecDepth 10000 in
set_option maxHeartbeats 4000000 in
theorem laws_eqStore_c (w : World) (z0 : List Value) (x0 : DStore) (z1 : List Value) (x1 : DStore) (r_0 : tyStore.rd w w.heap.size z0 x0) (r_1 : tyStore.rd w w.heap.size z1 x1) :
    Calls Try.prog 30 #[.agg z0.toArray, .agg z1.toArray] w fun e w' => e = .returned (.bool (laws_eqStore_m x0 x1)) ∧ Below w.heap.size w w' := by
  obtain ⟨v1, rfl, r2⟩ := tyStore_rd r_0
  have r7 := r2
  obtain ⟨m3, A4, c5, rfl, q6⟩ := r2
  obtain ⟨v8, rfl, r9⟩ := tyStore_rd r_1
  have r14 := r9
  obtain ⟨m10, A11, c12, rfl, q13⟩ := r9
  refine call_enterM (L := [(0, .agg #[.slice A4 x0.Segments.length c5, .int .i64 x0.Now]), (1, .agg #[.slice A11 x1.Segments.length c12, .int .i64 x1.Now])]) (N := 16) Try.func30 rfl rfl (Nat.le_of_ble_eq_true rfl) (argsL_cons rfl (argsL_cons rfl argsL_nil)) ?_
  refine sr ?_
  refine WM_box rfl (Wd_none rfl) (by decide) (fun p15 => ?_)
  refine WM_box rfl (Wd_none rfl) (by decide) (fun p16 => ?_)
  refine wa ?_
  refine nt' ?_
  refine CM_seq ?_
  refine sr ?_
  refine wv (fun W hm => rv_field Try.underlying45 rfl Try.type43 (by decide) rfl rfl) ?_
  refine wv (fun W hm => rv_load Try.underlying43 rfl rfl (hm.boxCell (n := 1) (o := 0) rfl rfl)) ?_
  refine wv (fun W hm => rv_field Try.underlying45 rfl Try.type43 (by decide) rfl rfl) ?_
  refine wv (fun W hm => rv_load Try.underlying43 rfl rfl (hm.boxCell (n := 0) (o := 0) rfl rfl)) ?_
  refine WM_callV (cl_fn cb76 rfl) (fun W hm => laws_eqVersionSS_c W _ x0.Segments _ x1.Segments (hm.rdS0 r7) (hm.rdS0 r14)) (Wd_none rfl) (by decide) ?_
  refine wv (fun W hm => rv_not rfl) ?_
  refine nt' ?_
  rcases Bool.eq_false_or_eq_true (laws_eqVersionSS_m x0.Segments x1.Segments) with g18 | g18
  ·
    refine CM_condF rfl (nt g18) ?_
    refine CM_skip ?_
    refine QM_then ?_
    refine CM_seq ?_
    refine sr ?_
    refine wv (fun W hm => rv_field Try.underlying45 rfl Try.type3 (by decide) rfl rfl) ?_
    refine wv (fun W hm => rv_load Try.underlying3 rfl rfl (hm.boxCell (n := 1) (o := 1) rfl rfl)) ?_
    refine wv (fun W hm => rv_field Try.underlying45 rfl Try.type3 (by decide) rfl rfl) ?_
    refine wv (fun W hm => rv_load Try.underlying3 rfl rfl (hm.boxCell (n := 0) (o := 1) rfl rfl)) ?_
    refine wv (fun W hm => rv_neq rfl rfl) ?_
    refine nt' ?_
    by_cases h19 : x0.Now = x1.Now
    · have g20 : (x0.Now != x1.Now) = false := by rw [h19]; exact bne_self_eq_false _
      refine CM_condF rfl g20 ?_
      refine CM_skip ?_
      refine QM_then ?_
      refine sr ?_
      refine wa ?_
      refine nt' ?_
      refine CM_ret ?_
      exact QM_ret1 rfl rfl (fun W hm => ⟨ret_b (show laws_eqStore_m x0 x1 = true from by unfold laws_eqStore_m; exact cond_t g18 (cond_f g20 (rfl))), hm.below⟩)
    · have g20 : (x0.Now != x1.Now) = true := bne_iff_ne.2 h19
      refine CM_condT rfl g20 ?_
      refine sr ?_
      refine wa ?_
      refine nt' ?_
      refine CM_ret ?_
      refine QM_then_ret ?_
      exact QM_ret1 rfl rfl (fun W hm => ⟨ret_b (show laws_eqStore_m x0 x1 = false from by unfold laws_eqStore_m; exact cond_t g18 (cond_t g20 (rfl))), hm.below⟩)
  ·
    refine CM_condT rfl (nf g18) ?_
    refine sr ?_
    refine wa ?_
    refine nt' ?_
    refine CM_ret ?_
    refine QM_then_ret ?_
    exact QM_ret1 rfl rfl (fun W hm => ⟨ret_b (show laws_eqStore_m x0 x1 = false from by unfold laws_eqStore_m; exact cond_f g18 (rfl)), hm.below⟩)

end Go.Proofs.Ytjcdginailhfmaa
