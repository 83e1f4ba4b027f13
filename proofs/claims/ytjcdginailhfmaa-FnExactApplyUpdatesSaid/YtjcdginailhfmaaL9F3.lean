/-
  Contracts of functions, printed by a program of ours.
-/
import Derived.Test.YtjcdginailhfmaaL9F2
namespace Go.Proofs.Ytjcdginailhfmaa
open Go.RowKit
def smP (n : Nat) (z : List DVersion) : Prop := z.length ≤ n ∧ ∀ v ∈ z, v.Values.length ≤ 3
theorem smP_set {n : Nat} {z : List DVersion} (h : smP n z) (k : Nat) {v : DVersion} (hv : v.Values.length ≤ 3) : smP n (z.set k v) :=
  ⟨by rw [List.length_set]; exact h.1, fun y hy => (List.mem_or_eq_of_mem_set hy).elim (h.2 y) (fun e => e ▸ hv)⟩
theorem smP_app {n : Nat} {z : List DVersion} (h : smP n z) {v : DVersion} (hv : v.Values.length ≤ 3) : smP (n + 1) (z ++ [v]) :=
  ⟨by simp only [List.length_append, List.length_cons, List.length_nil]; have := h.1; omega, fun y hy => (List.mem_append.1 hy).elim (h.2 y) (fun e => by rw [List.mem_singleton.1 e]; exact hv)⟩
theorem smP_gt {n : Nat} {s : List (List DVersion)} (h : ∀ z ∈ s, smP n z) (i : Nat) : smP n (gt s i) := by
  by_cases hi : i < s.length
  · exact h _ (gt_mem hi)
  · have : gt s i = [] := by unfold gt; rw [List.getD_eq_getElem?_getD, List.getElem?_eq_none (by omega)]; rfl
    rw [this]; exact ⟨Nat.zero_le _, fun v hv => by cases hv⟩
theorem smP_vals {n : Nat} {z : List DVersion} (h : smP n z) (k : Nat) : (gt z k).Values.length ≤ 3 := by
  by_cases hk : k < z.length
  · exact h.2 _ (gt_mem hk)
  · have : gt z k = default := by unfold gt; rw [List.getD_eq_getElem?_getD, List.getElem?_eq_none (by omega)]; rfl
    rw [this]; exact Nat.zero_le _
theorem smP_mono {n m : Nat} (h : n ≤ m) {z : List DVersion} (hz : smP n z) : smP m z := ⟨Nat.le_trans hz.1 h, hz.2⟩
theorem smP_sets {n : Nat} {s : List (List DVersion)} (h : ∀ z ∈ s, smP n z) (i : Nat) {y : List DVersion} (hy : smP n y) : ∀ z ∈ s.set i y, smP n z := fun z hz => (List.mem_or_eq_of_mem_set hz).elim (h z) (fun e => e ▸ hy)
theorem smP_store {s : List (List DVersion)} {now : Int} (hl : s.length ≤ 8) (h : ∀ z ∈ s, smP 5 z) : smStore 68719476736 ⟨s, now⟩ :=
  ⟨by show s.length ≤ _; omega, fun z hz => ⟨by have := (h z hz).1; omega, fun v hv => by have := (h z hz).2 v hv; show v.Values.length ≤ _; omega⟩⟩
theorem spec_ApplyUpdate_key (x : DStore) (u : DUpdate) : (spec_ApplyUpdate_m x u).1 = x ∨ ((spec_ApplyUpdate_m x u).1.Segments.length ≤ 8 ∧ ∀ z ∈ (spec_ApplyUpdate_m x u).1.Segments, smP 5 z) := by
  unfold spec_ApplyUpdate_m
  cases hs : spec_IsStore_m x with
  | false => exact .inl rfl
  | true =>
  cases hu : spec_IsUpdate_m u with
  | false => exact .inl rfl
  | true =>
    obtain ⟨⟨_, hl⟩, _, h4, hv⟩ := spec_Store_vers hs
    obtain ⟨_, _, u1, u2⟩ := spec_Update_fact hu
    have hp : ∀ z ∈ x.Segments, smP 4 z := fun z hz => ⟨h4 z hz, fun v hvz => by rw [spec_Version_len (hv z hz v hvz)]; omega⟩
    have hp5 : ∀ z ∈ x.Segments, smP 5 z := fun z hz => smP_mono (by omega) (hp z hz)
    have hr : u.Row.Values.length ≤ 3 := by by_cases k : u.Kind = 1 <;> omega
    have hv1 : smP 4 (spec_ApplyUpdate_v1 x u) := smP_set (smP_gt hp _) _ (smP_vals (smP_gt hp _) _)
    have hs1 := smP_sets hp (spec_l8Find_m x u.Row.Id).1.toNat hv1
    have hs5 := smP_sets hp5 (spec_l8Find_m x u.Row.Id).1.toNat (smP_mono (m := 5) (by omega) hv1)
    have hlv := smP_vals (smP_gt hp (spec_l8Find_m x u.Row.Id).1.toNat) (spec_l8Find_m x u.Row.Id).2.toNat
    cases decide (100000 ≤ x.Now) with
    | true => exact .inl rfl
    | false =>
    cases ((u.Kind == 1) != decide ((spec_l8Find_m x u.Row.Id).1 < 0)) with
    | true => exact .inl rfl
    | false =>
    cases (u.Kind != 2) with
    | false =>
      cases decide (0 ≤ (spec_l8Find_m x u.Row.Id).1) <;> cases (u.Kind == 3) <;> first | exact (.inr ⟨hl, hp5⟩) | exact (.inr ⟨by show (List.set _ _ _).length ≤ 8; rw [List.length_set]; exact hl, hs5⟩)
    | true =>
    cases decide (spec_l8Room_m x < 0) with
    | true => exact .inl rfl
    | false =>
      cases decide (0 ≤ (spec_l8Find_m x u.Row.Id).1) with
      | true =>
        cases (u.Kind == 3)
        · exact .inr ⟨(by first | (show (List.set (List.set _ _ _) _ _).length ≤ 8; simp only [List.length_set]; exact hl) | (show (List.set _ _ _).length ≤ 8; simp only [List.length_set]; exact hl)), (smP_sets hs5 _ (smP_app (smP_gt hs1 _) hlv))⟩
        · exact .inr ⟨(by first | (show (List.set (List.set _ _ _) _ _).length ≤ 8; simp only [List.length_set]; exact hl) | (show (List.set _ _ _).length ≤ 8; simp only [List.length_set]; exact hl)), (smP_sets hs5 _ (smP_app (smP_gt hs1 _) (by rw [List.length_set]; exact hlv)))⟩
      | false =>
        cases (u.Kind == 3)
        · exact .inr ⟨(by first | (show (List.set (List.set _ _ _) _ _).length ≤ 8; simp only [List.length_set]; exact hl) | (show (List.set _ _ _).length ≤ 8; simp only [List.length_set]; exact hl)), (smP_sets hp5 _ (smP_app (smP_gt hp _) hr))⟩
        · exact .inr ⟨(by first | (show (List.set (List.set _ _ _) _ _).length ≤ 8; simp only [List.length_set]; exact hl) | (show (List.set _ _ _).length ≤ 8; simp only [List.length_set]; exact hl)), (smP_sets hp5 _ (smP_app (smP_gt hp _) (by rw [List.length_set]; exact hr)))⟩
theorem spec_ApplyUpdate_sm {x : DStore} (h : smStore 68719476736 x) (u : DUpdate) : smStore 68719476736 (spec_ApplyUpdate_m x u).1 := by
  rcases spec_ApplyUpdate_key x u with e | ⟨e1, e2⟩
  · rw [e]; exact h
  · exact smP_store (now := (spec_ApplyUpdate_m x u).1.Now) e1 e2
def spec_ApplyUpdates_b1 (x1 : (List DUpdate)) (k24 : Nat) (s25 : Int) (d27 : (List (List DVersion))) (s30 : Int) : (DStore × Int) ⊕ (Int × (List (List DVersion)) × Int) :=
  cond ((spec_ApplyUpdate_m (⟨d27, s30⟩ : DStore) (gt x1 k24)).2) (Sum.inr ((IntKind.i64.wrap (s25 + 1)), ((spec_ApplyUpdate_m (⟨d27, s30⟩ : DStore) (gt x1 k24)).1).Segments, ((spec_ApplyUpdate_m (⟨d27, s30⟩ : DStore) (gt x1 k24)).1).Now)) (Sum.inr (s25, ((spec_ApplyUpdate_m (⟨d27, s30⟩ : DStore) (gt x1 k24)).1).Segments, ((spec_ApplyUpdate_m (⟨d27, s30⟩ : DStore) (gt x1 k24)).1).Now))
def spec_ApplyUpdates_m (x0 : DStore) (x1 : (List DUpdate)) : (DStore × Int) :=
  Sum.elim id (fun (s : Int × (List (List DVersion)) × Int) => ((⟨s.2.1, s.2.2⟩ : DStore), s.1)) (rng (R := (DStore × Int)) (fun k (s : Int × (List (List DVersion)) × Int) => spec_ApplyUpdates_b1 x1 k s.1 s.2.1 s.2.2) (x1.length - 0) 0 (0, x0.Segments, x0.Now))
set_option maxRecDepth 100000 in
theorem cb49 : Cb Try.prog 49 := ⟨Try.f49, _, Try.func49, rfl, by decide⟩
set_option maxRecDepth 10000 in
set_option maxHeartbeats 4000000 in
theorem spec_ApplyUpdates_c (w : World) (z0 : List Value) (x0 : DStore) (z1 : Value) (x1 : (List DUpdate)) (r_0 : tyStore.rd w w.heap.size z0 x0) (r_1 : rdS tyUpdate w w.heap.size z1 x1) (s_0 : smStore 68719476736 x0) (s_1 : (x1.length ≤ 68719476736 ∧ ∀ y ∈ x1, smUpdate 68719476736 y)) :
    Calls Try.prog 49 #[.agg z0.toArray, z1] w fun e w' => ∃ v : List Value, e = .returned (.tuple #[.agg v.toArray, .int .i64 ((spec_ApplyUpdates_m x0 x1).2)]) ∧ Mem w.heap.size w [iOwn tyStore v (spec_ApplyUpdates_m x0 x1).1] w' := by
  obtain ⟨v1, rfl, r2⟩ := tyStore_rd r_0
  have r7 := r2
  obtain ⟨m3, A4, c5, rfl, q6⟩ := r2
  have r12 := r_1
  obtain ⟨m8, A9, c10, rfl, q11⟩ := r_1
  have l13 : x0.Segments.length ≤ 68719476736 := s_0.1
  have l14 : x1.length ≤ 68719476736 := s_1.1
  refine call_enterM (L := [(0, .agg #[.slice A4 x0.Segments.length c5, .int .i64 x0.Now]), (1, .slice A9 x1.length c10)]) (N := 34) Try.func49 rfl rfl (Nat.le_of_ble_eq_true rfl) (argsL_cons rfl (argsL_cons rfl argsL_nil)) ?_
  refine sr ?_
  refine WM_box rfl (Wd_none rfl) (by decide) (fun p15 => ?_)
  refine WM_alloc Try.type45 rfl (Wd_none rfl) (by decide) (fun p16 => ?_)
  refine wa ?_
  refine nt' ?_
  refine sr ?_
  refine wv (fun W hm => rv_loadN (cs := [.slice A4 x0.Segments.length c5, .int .i64 x0.Now]) Try.underlying45 Try.type45 rfl rfl (hm.boxCells (n := 1) rfl)) ?_
  refine WM_call (χ := List Value) (val := fun x => .agg x.toArray) (js := fun x => [iOwn tyStore x x0]) (cl_fn cb68 rfl) (fun W hm => spec_l7Copy_c2 W _ x0 (tyStore_mk (x := x0) (hm.rdS0 r7)) s_0) (Wd_none rfl) (by decide) (fun z17 => ?_)
  refine WM_split (γ := Value) (js := fun g => [iOwn (tSl (tSl tyVersion 102) 100) [g] x0.Segments]) (C := fun g => z17 = [g, .int .i64 x0.Now]) (fun _ _ h => tyStore_split h) ?_
  rintro v18 rfl
  refine WM_form (n := 0) rfl ?_
  rintro A19 c20 rfl m21
  refine WM_alloc Try.type45 rfl (Wd_none rfl) (by decide) (fun p23 => ?_)
  refine WM_storeBox (p := p23) (o := 0) (cs := [.slice none 0 0, .int .i64 0]) (cs' := [.slice A19 x0.Segments.length c20, .int .i64 x0.Now]) (js := [iOwn (tSl (tSl tyVersion 102) 100) [.slice A19 x0.Segments.length c20] x0.Segments, iBox p16 45 [.slice none 0 0, .int .i64 0], iBox p15 45 [.slice A4 x0.Segments.length c5, .int .i64 x0.Now]]) (fun W hm => hm) Try.type45 rfl (Nat.le_of_ble_eq_true rfl) rfl rfl rfl rfl (Wd_none rfl) ?_
  refine nt' ?_
  refine sr ?_
  refine wa ?_
  refine nt' ?_
  refine CM_seq ?_
  refine sr ?_
  refine wa ?_
  refine nt' ?_
  refine CM_block ?_
  refine CM_loop (σ := Nat × (Int × (List (List DVersion)) × Int) × (Option Addr × Nat)) (fun s => [(1, .slice A9 x1.length c10), (4, .pointer (some (⟨p16, 0, none⟩ : Addr))), (6, .pointer (some (⟨p23, 0, none⟩ : Addr))), (7, .int .i64 s.2.1.1), (8, .int .i64 ((s.1 : Nat) : Int))]) (fun s => [iBox p23 45 [.slice s.2.2.1 s.2.1.2.1.length s.2.2.2, .int .i64 s.2.1.2.2], iOwn (tSl (tSl tyVersion 102) 100) [.slice s.2.2.1 s.2.1.2.1.length s.2.2.2] s.2.1.2.1, iBox p16 45 [.slice none 0 0, .int .i64 0], iBox p15 45 [.slice A4 x0.Segments.length c5, .int .i64 x0.Now]]) (fun s => s.1 ≤ x1.length ∧ rng (R := (DStore × Int)) (fun k (s : Int × (List (List DVersion)) × Int) => spec_ApplyUpdates_b1 x1 k s.1 s.2.1 s.2.2) (x1.length - s.1) s.1 s.2.1 = rng (R := (DStore × Int)) (fun k (s : Int × (List (List DVersion)) × Int) => spec_ApplyUpdates_b1 x1 k s.1 s.2.1 s.2.2) (x1.length - 0) 0 (0, x0.Segments, x0.Now) ∧ smStore 68719476736 (⟨s.2.1.2.1, s.2.1.2.2⟩ : DStore)) (fun s => x1.length - s.1) (0, (0, x0.Segments, x0.Now), (A19, c20)) (subL_cons rfl (subL_cons rfl (subL_cons rfl (subL_cons rfl (subL_cons rfl subL_nil))))) (fun W hm => hm) ⟨(by omega), rfl, s_0⟩ ?_
  rintro ⟨k24, ⟨s25, d27, s30⟩, ⟨A28, c29⟩⟩ H33
  obtain ⟨hk31, hF32, hi34⟩ : k24 ≤ x1.length ∧ rng (R := (DStore × Int)) (fun k (s : Int × (List (List DVersion)) × Int) => spec_ApplyUpdates_b1 x1 k s.1 s.2.1 s.2.2) (x1.length - k24) k24 (s25, d27, s30) = rng (R := (DStore × Int)) (fun k (s : Int × (List (List DVersion)) × Int) => spec_ApplyUpdates_b1 x1 k s.1 s.2.1 s.2.2) (x1.length - 0) 0 (0, x0.Segments, x0.Now) ∧ smStore 68719476736 (⟨d27, s30⟩ : DStore) := H33
  show CM Try.prog 34 _ _ _ _ [(1, .slice A9 x1.length c10), (4, .pointer (some (⟨p16, 0, none⟩ : Addr))), (6, .pointer (some (⟨p23, 0, none⟩ : Addr))), (7, .int .i64 s25), (8, .int .i64 ((k24 : Nat) : Int))] [iBox p23 45 [.slice A28 d27.length c29, .int .i64 s30], iOwn (tSl (tSl tyVersion 102) 100) [.slice A28 d27.length c29] d27, iBox p16 45 [.slice none 0 0, .int .i64 0], iBox p15 45 [.slice A4 x0.Segments.length c5, .int .i64 x0.Now]]
  refine CM_seq ?_
  refine sr ?_
  refine wm ?_
  refine wm ?_
  refine wv (fun W hm => rv_len Try.underlying79 rfl) ?_
  refine wv (fun W hm => rv_lss rfl rfl) ?_
  refine nt' ?_
  by_cases hl35 : k24 < x1.length
  · have g36 : (decide (((k24 : Nat) : Int) < ((x1.length : Nat) : Int))) = true := decide_eq_true (by omega)
    have hsm := hi34
    refine CM_condT rfl g36 ?_
    refine CM_skip ?_
    refine QM_then ?_
    refine CM_seq ?_
    refine CM_block ?_
    refine CM_seq ?_
    obtain ⟨a37, rfl, hb38, he39⟩ := q11 (by omega)
    obtain ⟨_, e43, hc40⟩ := he39 k24 _ (gt_some (show k24 < x1.length from by omega))
    obtain ⟨v41, rfl, r42⟩ := tyUpdate_rd e43
    have l44 : ((gt x1 k24).Row.Values).length ≤ 68719476736 := (s_1.2 _ (gt_mem (show k24 < x1.length from by omega)))
    have r49 := r42
    obtain ⟨m45, A46, c47, rfl, q48⟩ := r42
    refine CM_cut (σ := Nat × Option Addr × Nat) (fun s => [(1, .slice (some a37) x1.length c10), (4, .pointer (some (⟨p16, 0, none⟩ : Addr))), (6, .pointer (some (⟨p23, 0, none⟩ : Addr))), (7, .int .i64 s25), (8, .int .i64 ((k24 : Nat) : Int)), (9, .pointer (some (⟨s.1, 0, none⟩ : Addr))), (10, .bool (spec_ApplyUpdate_m (⟨d27, s30⟩ : DStore) (gt x1 k24)).2)]) (fun s => [iBox s.1 45 [.slice s.2.1 (((spec_ApplyUpdate_m (⟨d27, s30⟩ : DStore) (gt x1 k24)).1).Segments).length s.2.2, .int .i64 (((spec_ApplyUpdate_m (⟨d27, s30⟩ : DStore) (gt x1 k24)).1).Now)], iOwn (tSl (tSl tyVersion 102) 100) [.slice s.2.1 (((spec_ApplyUpdate_m (⟨d27, s30⟩ : DStore) (gt x1 k24)).1).Segments).length s.2.2] (((spec_ApplyUpdate_m (⟨d27, s30⟩ : DStore) (gt x1 k24)).1).Segments), iBox p23 45 [.slice A28 d27.length c29, .int .i64 s30], iOwn (tSl (tSl tyVersion 102) 100) [.slice A28 d27.length c29] d27, iBox p16 45 [.slice none 0 0, .int .i64 0], iBox p15 45 [.slice A4 x0.Segments.length c5, .int .i64 x0.Now]]) (fun _ => True) ?_ ?_
    ·
      refine CM_regionB (n := 12) (listed := #[false, false, false, false, false, false, false, false, false, false, false, false]) (s := [iBox p23 45 [.slice A28 d27.length c29, .int .i64 s30], iOwn (tSl (tSl tyVersion 102) 100) [.slice A28 d27.length c29] d27, iBox p16 45 [.slice none 0 0, .int .i64 0], iBox p15 45 [.slice A4 x0.Segments.length c5, .int .i64 x0.Now]]) (by kernel_rfl) rfl (by kernel_rfl) (fun W hm => hm) ?_
      refine QB_take 0 (listed' := #[true, false, false, false, false, false, false, false, false, false, false, false]) (by kernel_rfl) rfl (by kernel_rfl) (by kernel_rfl) (by kernel_rfl) (fun _ _ _ h => h) (fun W hm => rv_loadN (cs := [.slice A28 d27.length c29, .int .i64 s30]) Try.underlying45 Try.type45 rfl rfl (hm.boxCells (n := 0) rfl)) (Wd_none rfl) rfl (by decide) ?_
      refine QB_take 1 (listed' := #[true, true, false, false, false, false, false, false, false, false, false, false]) (by kernel_rfl) rfl (by kernel_rfl) (by kernel_rfl) (by kernel_rfl) (fun _ _ _ h => h) (fun W hm => rv_move rfl) (Wd_none rfl) rfl (by decide) ?_
      refine QB_take 2 (listed' := #[true, true, true, false, false, false, false, false, false, false, false, false]) (by kernel_rfl) rfl (by kernel_rfl) (by kernel_rfl) (by kernel_rfl) (fun _ _ _ h => h) (fun W hm => rv_move rfl) (Wd_none rfl) rfl (by decide) ?_
      refine QB_take 3 (listed' := #[true, true, true, true, false, false, false, false, false, false, false, false]) (by kernel_rfl) rfl (by kernel_rfl) (by kernel_rfl) (by kernel_rfl) (fun _ _ _ h => h) (fun W hm => rv_index (sz := 5) (k := k24) Try.underlying79 Try.type71 rfl rfl rfl (by omega)) (Wd_none rfl) rfl (by decide) ?_
      refine QB_take 4 (listed' := #[true, true, true, true, true, false, false, false, false, false, false, false]) (by kernel_rfl) rfl (by kernel_rfl) (by kernel_rfl) (by kernel_rfl) (fun _ _ _ h => h) (fun W hm => rv_loadN (cs := [.int .i64 ((gt x1 k24).Kind), .int .i64 ((gt x1 k24).Row.Id), .slice A46 ((gt x1 k24).Row.Values).length c47, .int .i64 ((gt x1 k24).Field), .int .i64 ((gt x1 k24).Value)]) Try.underlying71 Try.type71 rfl rfl (hm.elCells (show (a37.add (k24 * 5)).block < w.heap.size from by rw [add_block]; exact hb38.1) hc40)) (Wd_none rfl) rfl (by decide) ?_
      refine QB_all [5, 9] (by kernel_rfl) (by decide) ?_
      refine QBs_cons (listed' := #[true, true, true, true, true, true, false, false, false, false, false, false]) (by kernel_rfl) rfl ?_ ?_
      ·
        refine WM_call (χ := List Value) (val := fun x => .tuple #[.agg x.toArray, .bool ((spec_ApplyUpdate_m (⟨d27, s30⟩ : DStore) (gt x1 k24)).2)]) (js := fun x => [iOwn tyStore x ((spec_ApplyUpdate_m (⟨d27, s30⟩ : DStore) (gt x1 k24)).1)]) (cl_fn cb43 rfl) (fun W hm => spec_ApplyUpdate_c W _ (⟨d27, s30⟩ : DStore) _ (gt x1 k24) (tyStore_mk (x := (⟨d27, s30⟩ : DStore)) (hm.rdSI (n := 1) rfl)) (tyUpdate_mk (x := (gt x1 k24)) (hm.rdS0 r49)) hsm (s_1.2 _ (gt_mem (show k24 < x1.length from by omega)))) (Wd_none rfl) (by decide) (fun z57 => ?_)
        refine WM_split (γ := Value) (js := fun g => [iOwn (tSl (tSl tyVersion 102) 100) [g] (((spec_ApplyUpdate_m (⟨d27, s30⟩ : DStore) (gt x1 k24)).1).Segments)]) (C := fun g => z57 = [g, .int .i64 (((spec_ApplyUpdate_m (⟨d27, s30⟩ : DStore) (gt x1 k24)).1).Now)]) (fun _ _ h => tyStore_split h) ?_
        rintro v58 rfl
        refine WM_form (n := 0) rfl ?_
        rintro A59 c60 rfl m61
        refine WM_nil ?_
        refine QB_next (fun W hm => (hm.pick [1, 2, 3, 4] (by decide))) ?_
        refine QB_take 6 (listed' := #[true, true, true, true, true, true, true, false, false, false, false, false]) (by kernel_rfl) rfl (by kernel_rfl) (by kernel_rfl) (by kernel_rfl) (fun _ _ _ h => h) (fun W hm => rv_move rfl) (Wd_none rfl) rfl (by decide) ?_
        refine QB_take 7 (listed' := #[true, true, true, true, true, true, true, true, false, false, false, false]) (by kernel_rfl) rfl (by kernel_rfl) (by kernel_rfl) (by kernel_rfl) (fun _ _ _ h => h) (fun W hm => rv_extract rfl rfl) (Wd_none rfl) rfl (by decide) ?_
        refine QB_take 8 (listed' := #[true, true, true, true, true, true, true, true, true, false, false, false]) (by kernel_rfl) rfl (by kernel_rfl) (by kernel_rfl) (by kernel_rfl) (fun _ _ _ h => h) (fun W hm => rv_extract rfl rfl) (Wd_none rfl) rfl (by decide) ?_
        refine QB_one 9 (listed' := #[true, true, true, true, true, true, true, true, true, true, false, false]) (by kernel_rfl) rfl (by kernel_rfl) ?_
        refine WM_alloc Try.type45 rfl (Wd_none rfl) (by decide) (fun p63 => ?_)
        refine WM_nil ?_
        refine QB_next (fun W hm => (hm.pick [2, 3, 4, 5] (by decide))) ?_
        refine QB_one 10 (listed' := #[true, true, true, true, true, true, true, true, true, true, true, false]) (by kernel_rfl) rfl (by kernel_rfl) ?_
        refine WM_storeBox (p := p63) (o := 0) (cs := [.slice none 0 0, .int .i64 0]) (cs' := [.slice A59 (((spec_ApplyUpdate_m (⟨d27, s30⟩ : DStore) (gt x1 k24)).1).Segments).length c60, .int .i64 (((spec_ApplyUpdate_m (⟨d27, s30⟩ : DStore) (gt x1 k24)).1).Now)]) (js := [iOwn (tSl (tSl tyVersion 102) 100) [.slice A59 (((spec_ApplyUpdate_m (⟨d27, s30⟩ : DStore) (gt x1 k24)).1).Segments).length c60] (((spec_ApplyUpdate_m (⟨d27, s30⟩ : DStore) (gt x1 k24)).1).Segments), iBox p23 45 [.slice A28 d27.length c29, .int .i64 s30], iOwn (tSl (tSl tyVersion 102) 100) [.slice A28 d27.length c29] d27, iBox p16 45 [.slice none 0 0, .int .i64 0], iBox p15 45 [.slice A4 x0.Segments.length c5, .int .i64 x0.Now]]) (fun W hm => hm) Try.type45 rfl (Nat.le_of_ble_eq_true rfl) rfl rfl rfl rfl (Wd_none rfl) ?_
        refine WM_nil ?_
        refine QB_next (fun W hm => (hm.pick [2, 3, 4, 5] (by decide))) ?_
        refine QB_take 11 (listed' := #[true, true, true, true, true, true, true, true, true, true, true, true]) (by kernel_rfl) rfl (by kernel_rfl) (by kernel_rfl) (by kernel_rfl) (fun _ _ _ h => h) (fun W hm => rv_assign rfl) (Wd_none rfl) rfl (by decide) ?_
        refine QB_done (by kernel_rfl) ?_
        exact QM_cut_normal (p63, A59, c60) (subL_cons rfl (subL_cons rfl (subL_cons rfl (subL_cons rfl (subL_cons rfl (subL_cons rfl (subL_cons rfl subL_nil))))))) (fun W hm => hm) trivial
      refine QBs_cons (listed' := #[true, true, true, true, true, false, false, false, false, true, false, false]) (by kernel_rfl) rfl ?_ ?_
      ·
        refine WM_alloc Try.type45 rfl (Wd_none rfl) (by decide) (fun p64 => ?_)
        refine WM_nil ?_
        refine QB_next (fun W hm => (hm.pick [1, 2, 3, 4] (by decide))) ?_
        refine QB_one 5 (listed' := #[true, true, true, true, true, true, false, false, false, true, false, false]) (by kernel_rfl) rfl (by kernel_rfl) ?_
        refine WM_call (χ := List Value) (val := fun x => .tuple #[.agg x.toArray, .bool ((spec_ApplyUpdate_m (⟨d27, s30⟩ : DStore) (gt x1 k24)).2)]) (js := fun x => [iOwn tyStore x ((spec_ApplyUpdate_m (⟨d27, s30⟩ : DStore) (gt x1 k24)).1)]) (cl_fn cb43 rfl) (fun W hm => spec_ApplyUpdate_c W _ (⟨d27, s30⟩ : DStore) _ (gt x1 k24) (tyStore_mk (x := (⟨d27, s30⟩ : DStore)) (hm.rdSI (n := 2) rfl)) (tyUpdate_mk (x := (gt x1 k24)) (hm.rdS0 r49)) hsm (s_1.2 _ (gt_mem (show k24 < x1.length from by omega)))) (Wd_none rfl) (by decide) (fun z65 => ?_)
        refine WM_split (γ := Value) (js := fun g => [iOwn (tSl (tSl tyVersion 102) 100) [g] (((spec_ApplyUpdate_m (⟨d27, s30⟩ : DStore) (gt x1 k24)).1).Segments)]) (C := fun g => z65 = [g, .int .i64 (((spec_ApplyUpdate_m (⟨d27, s30⟩ : DStore) (gt x1 k24)).1).Now)]) (fun _ _ h => tyStore_split h) ?_
        rintro v66 rfl
        refine WM_form (n := 0) rfl ?_
        rintro A67 c68 rfl m69
        refine WM_nil ?_
        refine QB_next (fun W hm => (hm.pick [2, 3, 4, 5] (by decide))) ?_
        refine QB_take 6 (listed' := #[true, true, true, true, true, true, true, false, false, true, false, false]) (by kernel_rfl) rfl (by kernel_rfl) (by kernel_rfl) (by kernel_rfl) (fun _ _ _ h => h) (fun W hm => rv_move rfl) (Wd_none rfl) rfl (by decide) ?_
        refine QB_take 7 (listed' := #[true, true, true, true, true, true, true, true, false, true, false, false]) (by kernel_rfl) rfl (by kernel_rfl) (by kernel_rfl) (by kernel_rfl) (fun _ _ _ h => h) (fun W hm => rv_extract rfl rfl) (Wd_none rfl) rfl (by decide) ?_
        refine QB_take 8 (listed' := #[true, true, true, true, true, true, true, true, true, true, false, false]) (by kernel_rfl) rfl (by kernel_rfl) (by kernel_rfl) (by kernel_rfl) (fun _ _ _ h => h) (fun W hm => rv_extract rfl rfl) (Wd_none rfl) rfl (by decide) ?_
        refine QB_one 10 (listed' := #[true, true, true, true, true, true, true, true, true, true, true, false]) (by kernel_rfl) rfl (by kernel_rfl) ?_
        refine WM_storeBox (p := p64) (o := 0) (cs := [.slice none 0 0, .int .i64 0]) (cs' := [.slice A67 (((spec_ApplyUpdate_m (⟨d27, s30⟩ : DStore) (gt x1 k24)).1).Segments).length c68, .int .i64 (((spec_ApplyUpdate_m (⟨d27, s30⟩ : DStore) (gt x1 k24)).1).Now)]) (js := [iOwn (tSl (tSl tyVersion 102) 100) [.slice A67 (((spec_ApplyUpdate_m (⟨d27, s30⟩ : DStore) (gt x1 k24)).1).Segments).length c68] (((spec_ApplyUpdate_m (⟨d27, s30⟩ : DStore) (gt x1 k24)).1).Segments), iBox p23 45 [.slice A28 d27.length c29, .int .i64 s30], iOwn (tSl (tSl tyVersion 102) 100) [.slice A28 d27.length c29] d27, iBox p16 45 [.slice none 0 0, .int .i64 0], iBox p15 45 [.slice A4 x0.Segments.length c5, .int .i64 x0.Now]]) (fun W hm => (hm.pick [1, 0, 2, 3, 4, 5] (by decide))) Try.type45 rfl (Nat.le_of_ble_eq_true rfl) rfl rfl rfl rfl (Wd_none rfl) ?_
        refine WM_nil ?_
        refine QB_next (fun W hm => (hm.pick [2, 3, 4, 5] (by decide))) ?_
        refine QB_take 11 (listed' := #[true, true, true, true, true, true, true, true, true, true, true, true]) (by kernel_rfl) rfl (by kernel_rfl) (by kernel_rfl) (by kernel_rfl) (fun _ _ _ h => h) (fun W hm => rv_assign rfl) (Wd_none rfl) rfl (by decide) ?_
        refine QB_done (by kernel_rfl) ?_
        exact QM_cut_normal (p64, A67, c68) (subL_cons rfl (subL_cons rfl (subL_cons rfl (subL_cons rfl (subL_cons rfl (subL_cons rfl (subL_cons rfl subL_nil))))))) (fun W hm => hm) trivial
      exact QBs_nil
    ·
      rintro ⟨p56, A52, c53⟩ -
      show QM 34 _ _ _ .normal [(1, .slice (some a37) x1.length c10), (4, .pointer (some (⟨p16, 0, none⟩ : Addr))), (6, .pointer (some (⟨p23, 0, none⟩ : Addr))), (7, .int .i64 s25), (8, .int .i64 ((k24 : Nat) : Int)), (9, .pointer (some (⟨p56, 0, none⟩ : Addr))), (10, .bool (spec_ApplyUpdate_m (⟨d27, s30⟩ : DStore) (gt x1 k24)).2)] [iBox p56 45 [.slice A52 (((spec_ApplyUpdate_m (⟨d27, s30⟩ : DStore) (gt x1 k24)).1).Segments).length c53, .int .i64 (((spec_ApplyUpdate_m (⟨d27, s30⟩ : DStore) (gt x1 k24)).1).Now)], iOwn (tSl (tSl tyVersion 102) 100) [.slice A52 (((spec_ApplyUpdate_m (⟨d27, s30⟩ : DStore) (gt x1 k24)).1).Segments).length c53] (((spec_ApplyUpdate_m (⟨d27, s30⟩ : DStore) (gt x1 k24)).1).Segments), iBox p23 45 [.slice A28 d27.length c29, .int .i64 s30], iOwn (tSl (tSl tyVersion 102) 100) [.slice A28 d27.length c29] d27, iBox p16 45 [.slice none 0 0, .int .i64 0], iBox p15 45 [.slice A4 x0.Segments.length c5, .int .i64 x0.Now]]
      refine QM_len (n := 1) rfl ?_
      intro m71 m72
      refine QM_then ?_
      refine sr ?_
      refine wv (fun W hm => rv_loadN (cs := [.slice A52 (((spec_ApplyUpdate_m (⟨d27, s30⟩ : DStore) (gt x1 k24)).1).Segments).length c53, .int .i64 (((spec_ApplyUpdate_m (⟨d27, s30⟩ : DStore) (gt x1 k24)).1).Now)]) Try.underlying45 Try.type45 rfl rfl (hm.boxCells (n := 0) rfl)) ?_
      refine WM_storeBox (p := p23) (o := 0) (cs := [.slice A28 d27.length c29, .int .i64 s30]) (cs' := [.slice A52 (((spec_ApplyUpdate_m (⟨d27, s30⟩ : DStore) (gt x1 k24)).1).Segments).length c53, .int .i64 (((spec_ApplyUpdate_m (⟨d27, s30⟩ : DStore) (gt x1 k24)).1).Now)]) (js := [iBox p56 45 [.slice A52 (((spec_ApplyUpdate_m (⟨d27, s30⟩ : DStore) (gt x1 k24)).1).Segments).length c53, .int .i64 (((spec_ApplyUpdate_m (⟨d27, s30⟩ : DStore) (gt x1 k24)).1).Now)], iOwn (tSl (tSl tyVersion 102) 100) [.slice A52 (((spec_ApplyUpdate_m (⟨d27, s30⟩ : DStore) (gt x1 k24)).1).Segments).length c53] (((spec_ApplyUpdate_m (⟨d27, s30⟩ : DStore) (gt x1 k24)).1).Segments), iOwn (tSl (tSl tyVersion 102) 100) [.slice A28 d27.length c29] d27, iBox p16 45 [.slice none 0 0, .int .i64 0], iBox p15 45 [.slice A4 x0.Segments.length c5, .int .i64 x0.Now]]) (fun W hm => (hm.pick [2, 0, 1, 3, 4, 5] (by decide))) Try.type45 rfl (Nat.le_of_ble_eq_true rfl) rfl rfl rfl rfl (Wd_none rfl) ?_
      refine nt' ?_
      refine sr ?_
      refine wm ?_
      refine nt' ?_
      rcases Bool.eq_false_or_eq_true ((spec_ApplyUpdate_m (⟨d27, s30⟩ : DStore) (gt x1 k24)).2) with g74 | g74
      ·
        refine CM_condT rfl g74 ?_
        refine CM_region ?_
        refine wm ?_
        refine wv (fun W hm => rv_add rfl rfl) ?_
        refine wa ?_
        refine WM_nil ?_
        refine QM_block_normal ?_
        refine QM_then ?_
        refine CM_region ?_
        refine wm ?_
        refine wv (fun W hm => rv_addN (p := k24) (q := 1) rfl rfl (by omega)) ?_
        refine wa ?_
        refine WM_nil ?_
        have hn75 := rng_next (R := (DStore × Int)) (body := (fun k (s : Int × (List (List DVersion)) × Int) => spec_ApplyUpdates_b1 x1 k s.1 s.2.1 s.2.2)) (k := k24) (s := (s25, d27, s30)) (s' := ((IntKind.i64.wrap (s25 + 1)), ((spec_ApplyUpdate_m (⟨d27, s30⟩ : DStore) (gt x1 k24)).1).Segments, ((spec_ApplyUpdate_m (⟨d27, s30⟩ : DStore) (gt x1 k24)).1).Now)) (show k24 < x1.length from by omega) (show spec_ApplyUpdates_b1 x1 k24 s25 d27 s30 = Sum.inr ((IntKind.i64.wrap (s25 + 1)), ((spec_ApplyUpdate_m (⟨d27, s30⟩ : DStore) (gt x1 k24)).1).Segments, ((spec_ApplyUpdate_m (⟨d27, s30⟩ : DStore) (gt x1 k24)).1).Now) from by unfold spec_ApplyUpdates_b1; exact cond_t g74 (rfl)) hF32
        exact QM_round (k24 + 1, ((IntKind.i64.wrap (s25 + 1)), ((spec_ApplyUpdate_m (⟨d27, s30⟩ : DStore) (gt x1 k24)).1).Segments, ((spec_ApplyUpdate_m (⟨d27, s30⟩ : DStore) (gt x1 k24)).1).Now), (A52, c53)) (subL_cons rfl (subL_cons rfl (subL_cons rfl (subL_cons rfl (subL_cons rfl subL_nil))))) (fun W hm => (hm.pick [0, 2, 4, 5] (by decide))) ⟨(by omega), hn75, (show smStore 68719476736 (⟨(((spec_ApplyUpdate_m (⟨d27, s30⟩ : DStore) (gt x1 k24)).1).Segments), (((spec_ApplyUpdate_m (⟨d27, s30⟩ : DStore) (gt x1 k24)).1).Now)⟩ : DStore) from by exact spec_ApplyUpdate_sm hi34 _)⟩ (show x1.length - (k24 + 1) < x1.length - k24 from by omega)
      ·
        refine CM_condF rfl g74 ?_
        refine CM_skip ?_
        refine QM_block_normal ?_
        refine QM_then ?_
        refine CM_region ?_
        refine wm ?_
        refine wv (fun W hm => rv_addN (p := k24) (q := 1) rfl rfl (by omega)) ?_
        refine wa ?_
        refine WM_nil ?_
        have hn76 := rng_next (R := (DStore × Int)) (body := (fun k (s : Int × (List (List DVersion)) × Int) => spec_ApplyUpdates_b1 x1 k s.1 s.2.1 s.2.2)) (k := k24) (s := (s25, d27, s30)) (s' := (s25, ((spec_ApplyUpdate_m (⟨d27, s30⟩ : DStore) (gt x1 k24)).1).Segments, ((spec_ApplyUpdate_m (⟨d27, s30⟩ : DStore) (gt x1 k24)).1).Now)) (show k24 < x1.length from by omega) (show spec_ApplyUpdates_b1 x1 k24 s25 d27 s30 = Sum.inr (s25, ((spec_ApplyUpdate_m (⟨d27, s30⟩ : DStore) (gt x1 k24)).1).Segments, ((spec_ApplyUpdate_m (⟨d27, s30⟩ : DStore) (gt x1 k24)).1).Now) from by unfold spec_ApplyUpdates_b1; exact cond_f g74 (rfl)) hF32
        exact QM_round (k24 + 1, (s25, ((spec_ApplyUpdate_m (⟨d27, s30⟩ : DStore) (gt x1 k24)).1).Segments, ((spec_ApplyUpdate_m (⟨d27, s30⟩ : DStore) (gt x1 k24)).1).Now), (A52, c53)) (subL_cons rfl (subL_cons rfl (subL_cons rfl (subL_cons rfl (subL_cons rfl subL_nil))))) (fun W hm => (hm.pick [0, 2, 4, 5] (by decide))) ⟨(by omega), hn76, (show smStore 68719476736 (⟨(((spec_ApplyUpdate_m (⟨d27, s30⟩ : DStore) (gt x1 k24)).1).Segments), (((spec_ApplyUpdate_m (⟨d27, s30⟩ : DStore) (gt x1 k24)).1).Now)⟩ : DStore) from by exact spec_ApplyUpdate_sm hi34 _)⟩ (show x1.length - (k24 + 1) < x1.length - k24 from by omega)
  · have g36 : (decide (((k24 : Nat) : Int) < ((x1.length : Nat) : Int))) = false := decide_eq_false (by omega)
    refine CM_condF rfl g36 ?_
    refine CM_exit ?_
    refine QM_then_exit ?_
    refine QM_then_exit ?_
    have hE77 : rng (R := (DStore × Int)) (fun k (s : Int × (List (List DVersion)) × Int) => spec_ApplyUpdates_b1 x1 k s.1 s.2.1 s.2.2) (x1.length - 0) 0 (0, x0.Segments, x0.Now) = Sum.inr (s25, d27, s30) := rng_end hl35 hF32
    refine QM_block_hit ?_
    refine QM_then ?_
    refine sr ?_
    refine wv (fun W hm => rv_loadN (cs := [.slice A28 d27.length c29, .int .i64 s30]) Try.underlying45 Try.type45 rfl rfl (hm.boxCells (n := 0) rfl)) ?_
    refine wm ?_
    refine WM_storeBox (p := p16) (o := 0) (cs := [.slice none 0 0, .int .i64 0]) (cs' := [.slice A28 d27.length c29, .int .i64 s30]) (js := [iBox p23 45 [.slice A28 d27.length c29, .int .i64 s30], iOwn (tSl (tSl tyVersion 102) 100) [.slice A28 d27.length c29] d27, iBox p15 45 [.slice A4 x0.Segments.length c5, .int .i64 x0.Now]]) (fun W hm => (hm.pick [2, 0, 1, 3] (by decide))) Try.type45 rfl (Nat.le_of_ble_eq_true rfl) rfl rfl rfl rfl (Wd_none rfl) ?_
    refine wa ?_
    refine nt' ?_
    refine CM_ret ?_
    refine QM_r2 rfl (RR_cell (n := 0) rfl rfl Try.underlying45 Try.type45 rfl) (RR_tmp rfl) (fun W hm => ⟨[.slice A28 d27.length c29, .int .i64 s30], ?_, ?_⟩)
    · first | rw [(show spec_ApplyUpdates_m x0 x1 = ((⟨d27, s30⟩ : DStore), s25) from by unfold spec_ApplyUpdates_m; exact fin_inr hE77 (rfl))] | rfl
    · rw [(show spec_ApplyUpdates_m x0 x1 = ((⟨d27, s30⟩ : DStore), s25) from by unfold spec_ApplyUpdates_m; exact fin_inr hE77 (rfl))]; exact Mem.join (is := [iOwn (tSl (tSl tyVersion 102) 100) [.slice A28 d27.length c29] d27]) (js := []) (fun _ _ hs => tyStore_join (x := (⟨d27, s30⟩ : DStore)) hs) (hm.pick [2] (by decide))

def impl_copyInts_m (x0 : (List Int)) : (List Int) :=
  x0
set_option maxRecDepth 100000 in
theorem cb95 : Cb Try.prog 95 := ⟨Try.f95, _, Try.func95, rfl, by decide⟩
set_option maxRecDepth 10000 in
set_option maxHeartbeats 4000000 in
theorem impl_copyInts_c (w : World) (z0 : Value) (x0 : (List Int)) (r_0 : rdS tInt w w.heap.size z0 x0) (s_0 : x0.length ≤ 68719476736) :
    Calls Try.prog 95 #[z0] w fun e w' => ∃ v : Value, e = .returned (v) ∧ Mem w.heap.size w [iOwn (tSl tInt 3) [v] (impl_copyInts_m x0)] w' := by
  have r5 := r_0
  obtain ⟨m1, A2, c3, rfl, q4⟩ := r_0
  have l6 : x0.length ≤ 68719476736 := s_0
  refine call_enterM (L := [(0, .slice A2 x0.length c3)]) (N := 6) Try.func95 rfl rfl (Nat.le_of_ble_eq_true rfl) (argsL_cons rfl argsL_nil) ?_
  refine sr ?_
  refine wa ?_
  refine nt' ?_
  refine sr ?_
  refine WM_build0 (E := tInt) Try.underlying33 Try.type3 (Wd_none rfl) (by decide) (fun p7 => ?_)
  refine wm ?_
  refine WM_appendR (F := tInt) (E := tInt) (e := 3) (v := .slice (some ⟨p7, 0, none⟩) 0 0) (xs := []) (ys := x0) (js := []) (fun W hm => hm) (fun W hm => src_flat flat_int (hm.rdS0 r5)) Try.underlying33 Try.type3 rfl rfl rfl (Nat.le_of_ble_eq_true rfl) rfl rfl (show ([].length + x0.length) * 8 ≤ 140737488355328 from by first | omega | (simp only [List.length_append, List.length_cons, List.length_nil] at *; omega)) (show [].length + x0.length ≤ 9223372036854775807 from by first | omega | (simp only [List.length_append, List.length_cons, List.length_nil] at *; omega)) (Wd_none rfl) (by decide) (fun v9 => ?_)
  refine WM_form (n := 0) rfl ?_
  rintro A10 c11 rfl m12
  refine wa ?_
  refine nt' ?_
  refine CM_ret ?_
  refine QM_r1 rfl (RR_tmp rfl) (fun W hm => ⟨.slice A10 x0.length c11, ?_, ?_⟩)
  · first | rw [(show impl_copyInts_m x0 = x0 from by unfold impl_copyInts_m; exact rfl)] | rfl
  · rw [(show impl_copyInts_m x0 = x0 from by unfold impl_copyInts_m; exact rfl)]; exact hm
theorem impl_copyInts_eq (x0 : (List Int)) : impl_copyInts_m x0 = x0 := by
  rfl
theorem impl_copyInts_c2 (w : World) (z0 : Value) (x0 : (List Int)) (r_0 : rdS tInt w w.heap.size z0 x0) (s_0 : x0.length ≤ 68719476736) :
    Calls Try.prog 95 #[z0] w fun e w' => ∃ v : Value, e = .returned (v) ∧ Mem w.heap.size w [iOwn (tSl tInt 3) [v] x0] w' := by
  have h := impl_copyInts_c w z0 x0 r_0 s_0
  rw [impl_copyInts_eq] at h
  exact h

def impl_copyStore_b2 (x0 : DStore) (k12 : Nat) (k39 : Nat) (d40 : (List DVersion)) : DStore ⊕ ((List DVersion)) :=
  Sum.inr (d40 ++ [(⟨(gt (gt x0.Segments k12) k39).Id, ((gt (gt x0.Segments k12) k39).Values), (gt (gt x0.Segments k12) k39).Born, (gt (gt x0.Segments k12) k39).Died⟩ : DVersion)])
def impl_copyStore_b1 (x0 : DStore) (k12 : Nat) (d15 : (List (List DVersion))) : DStore ⊕ ((List (List DVersion))) :=
  Sum.elim Sum.inl (fun (s : (List DVersion)) => Sum.inr (d15 ++ [s])) (rng (R := DStore) (fun k (s : (List DVersion)) => impl_copyStore_b2 x0 k12 k s) (((gt x0.Segments k12)).length - 0) 0 [])
def impl_copyStore_m (x0 : DStore) : DStore :=
  Sum.elim id (fun (s : (List (List DVersion))) => (⟨s, x0.Now⟩ : DStore)) (rng (R := DStore) (fun k (s : (List (List DVersion))) => impl_copyStore_b1 x0 k s) (x0.Segments.length - 0) 0 [])
set_option maxRecDepth 100000 in
theorem cb72 : Cb Try.prog 72 := ⟨Try.f72, _, Try.func72, rfl, by decide⟩
set_option maxRecDepth 10000 in
set_option maxHeartbeats 4000000 in
theorem impl_copyStore_c (w : World) (z0 : List Value) (x0 : DStore) (r_0 : tyStore.rd w w.heap.size z0 x0) (s_0 : smStore 68719476736 x0) :
    Calls Try.prog 72 #[.agg z0.toArray] w fun e w' => ∃ v : List Value, e = .returned (.agg v.toArray) ∧ Mem w.heap.size w [iOwn tyStore v (impl_copyStore_m x0)] w' := by
  obtain ⟨v1, rfl, r2⟩ := tyStore_rd r_0
  have r7 := r2
  obtain ⟨m3, A4, c5, rfl, q6⟩ := r2
  have l8 : x0.Segments.length ≤ 68719476736 := s_0.1
  refine call_enterM (L := [(0, .agg #[.slice A4 x0.Segments.length c5, .int .i64 x0.Now])]) (N := 48) Try.func72 rfl rfl (Nat.le_of_ble_eq_true rfl) (argsL_cons rfl argsL_nil) ?_
  refine sr ?_
  refine WM_box rfl (Wd_none rfl) (by decide) (fun p9 => ?_)
  refine WM_alloc Try.type45 rfl (Wd_none rfl) (by decide) (fun p10 => ?_)
  refine nt' ?_
  refine sr ?_
  refine wv (fun W hm => rv_field Try.underlying45 rfl Try.type3 (by decide) rfl rfl) ?_
  refine wv (fun W hm => rv_load Try.underlying3 rfl rfl (hm.boxCell (n := 1) (o := 1) rfl rfl)) ?_
  refine wv (fun W hm => rv_build (cs := [.slice none 0 0, .int .i64 x0.Now]) rfl (by kernel_rfl)) ?_
  refine WM_alloc Try.type45 rfl (Wd_none rfl) (by decide) (fun p11 => ?_)
  refine WM_storeBox (p := p11) (o := 0) (cs := [.slice none 0 0, .int .i64 0]) (cs' := [.slice none 0 0, .int .i64 x0.Now]) (js := [iBox p10 45 [.slice none 0 0, .int .i64 0], iBox p9 45 [.slice A4 x0.Segments.length c5, .int .i64 x0.Now]]) (fun W hm => hm) Try.type45 rfl (Nat.le_of_ble_eq_true rfl) rfl rfl rfl rfl (Wd_none rfl) ?_
  refine nt' ?_
  refine CM_seq ?_
  refine sr ?_
  refine wv (fun W hm => rv_field Try.underlying45 rfl Try.type43 (by decide) rfl rfl) ?_
  refine wv (fun W hm => rv_load Try.underlying43 rfl rfl (hm.boxCell (n := 2) (o := 0) rfl rfl)) ?_
  refine wv (fun W hm => rv_len Try.underlying43 rfl) ?_
  refine wm ?_
  refine nt' ?_
  refine CM_block ?_
  refine CM_items (fun W hm => (hm.addNil (E := (tSl tyVersion 102)) (e := 100)).last) ?_
  refine CM_loop (σ := Nat × ((List (List DVersion))) × (Option Addr × Nat)) (fun s => [(2, .pointer (some (⟨p10, 0, none⟩ : Addr))), (3, .pointer (some (⟨p11, 0, none⟩ : Addr))), (13, .slice A4 x0.Segments.length c5), (14, .int .i64 ((x0.Segments.length : Nat) : Int)), (15, .int .i64 ((s.1 : Nat) : Int))]) (fun s => [iBox p11 45 [.slice s.2.2.1 s.2.1.length s.2.2.2, .int .i64 x0.Now], iBox p10 45 [.slice none 0 0, .int .i64 0], iBox p9 45 [.slice A4 x0.Segments.length c5, .int .i64 x0.Now], iOwn (tSl (tSl tyVersion 102) 100) [.slice s.2.2.1 s.2.1.length s.2.2.2] s.2.1]) (fun s => s.1 ≤ x0.Segments.length ∧ rng (R := DStore) (fun k (s : (List (List DVersion))) => impl_copyStore_b1 x0 k s) (x0.Segments.length - s.1) s.1 s.2.1 = rng (R := DStore) (fun k (s : (List (List DVersion))) => impl_copyStore_b1 x0 k s) (x0.Segments.length - 0) 0 [] ∧ s.2.1.length ≤ 0 + s.1) (fun s => x0.Segments.length - s.1) (0, [], (none, 0)) (subL_cons rfl (subL_cons rfl (subL_cons rfl (subL_cons rfl (subL_cons rfl subL_nil))))) (fun W hm => hm) ⟨(by omega), rfl, Nat.le_refl _⟩ ?_
  rintro ⟨k12, d15, ⟨A16, c17⟩⟩ H20
  obtain ⟨hk18, hF19, hi21⟩ : k12 ≤ x0.Segments.length ∧ rng (R := DStore) (fun k (s : (List (List DVersion))) => impl_copyStore_b1 x0 k s) (x0.Segments.length - k12) k12 d15 = rng (R := DStore) (fun k (s : (List (List DVersion))) => impl_copyStore_b1 x0 k s) (x0.Segments.length - 0) 0 [] ∧ d15.length ≤ 0 + k12 := H20
  show CM Try.prog 48 _ _ _ _ [(2, .pointer (some (⟨p10, 0, none⟩ : Addr))), (3, .pointer (some (⟨p11, 0, none⟩ : Addr))), (13, .slice A4 x0.Segments.length c5), (14, .int .i64 ((x0.Segments.length : Nat) : Int)), (15, .int .i64 ((k12 : Nat) : Int))] [iBox p11 45 [.slice A16 d15.length c17, .int .i64 x0.Now], iBox p10 45 [.slice none 0 0, .int .i64 0], iBox p9 45 [.slice A4 x0.Segments.length c5, .int .i64 x0.Now], iOwn (tSl (tSl tyVersion 102) 100) [.slice A16 d15.length c17] d15]
  refine sr ?_
  refine wv (fun W hm => rv_lss rfl rfl) ?_
  refine nt' ?_
  refine CM_seq ?_
  by_cases hl22 : k12 < x0.Segments.length
  · have g23 : (decide (((k12 : Nat) : Int) < ((x0.Segments.length : Nat) : Int))) = true := decide_eq_true (by omega)
    refine CM_condT rfl g23 ?_
    refine CM_skip ?_
    refine QM_then ?_
    refine CM_seq ?_
    refine CM_block ?_
    refine sr ?_
    obtain ⟨a24, rfl, hb25, he26⟩ := q6 (by omega)
    refine wv (fun W hm => rv_index (sz := 1) (k := k12) Try.underlying43 Try.type100 rfl rfl rfl (by omega)) ?_
    obtain ⟨_, e28, hc27⟩ := he26 k12 _ (gt_some (show k12 < x0.Segments.length from by omega))
    have l29 : (gt x0.Segments k12).length ≤ 68719476736 := (s_0.2 _ (gt_mem (show k12 < x0.Segments.length from by omega))).1
    obtain ⟨v30, rfl, r31⟩ := e28
    have r36 := r31
    obtain ⟨m32, A33, c34, rfl, q35⟩ := r31
    refine wv (fun W hm => rv_load Try.underlying100 rfl rfl ((hm.cell0 (show (a24.add (k12 * 1)).block < w.heap.size from by rw [add_block]; exact hb25.1)).trans (hc27 0 _ rfl))) ?_
    refine wa ?_
    refine nt' ?_
    refine sr ?_
    refine WM_build0 (E := tyVersion) Try.underlying100 Try.type102 (Wd_none rfl) (by decide) (fun p37 => ?_)
    refine wa ?_
    refine nt' ?_
    refine CM_seq ?_
    refine sr ?_
    refine wm ?_
    refine wv (fun W hm => rv_len Try.underlying100 rfl) ?_
    refine wm ?_
    refine nt' ?_
    refine CM_block ?_
    refine CM_loop (σ := Nat × ((List DVersion)) × (Option Addr × Nat)) (fun s => [(2, .pointer (some (⟨p10, 0, none⟩ : Addr))), (3, .pointer (some (⟨p11, 0, none⟩ : Addr))), (6, .slice s.2.2.1 s.2.1.length s.2.2.2), (13, .slice (some a24) x0.Segments.length c5), (14, .int .i64 ((x0.Segments.length : Nat) : Int)), (15, .int .i64 ((k12 : Nat) : Int)), (20, .slice A33 ((gt x0.Segments k12)).length c34), (21, .int .i64 ((((gt x0.Segments k12)).length : Nat) : Int)), (22, .int .i64 ((s.1 : Nat) : Int))]) (fun s => [iOwn (tSl tyVersion 102) [.slice s.2.2.1 s.2.1.length s.2.2.2] s.2.1, iBox p11 45 [.slice A16 d15.length c17, .int .i64 x0.Now], iBox p10 45 [.slice none 0 0, .int .i64 0], iBox p9 45 [.slice (some a24) x0.Segments.length c5, .int .i64 x0.Now], iOwn (tSl (tSl tyVersion 102) 100) [.slice A16 d15.length c17] d15]) (fun s => s.1 ≤ ((gt x0.Segments k12)).length ∧ rng (R := DStore) (fun k (s : (List DVersion)) => impl_copyStore_b2 x0 k12 k s) (((gt x0.Segments k12)).length - s.1) s.1 s.2.1 = rng (R := DStore) (fun k (s : (List DVersion)) => impl_copyStore_b2 x0 k12 k s) (((gt x0.Segments k12)).length - 0) 0 [] ∧ s.2.1.length ≤ 0 + s.1) (fun s => ((gt x0.Segments k12)).length - s.1) (0, [], ((some ⟨p37, 0, none⟩), 0)) (subL_cons rfl (subL_cons rfl (subL_cons rfl (subL_cons rfl (subL_cons rfl (subL_cons rfl (subL_cons rfl (subL_cons rfl (subL_cons rfl subL_nil))))))))) (fun W hm => hm) ⟨(by omega), rfl, Nat.le_refl _⟩ ?_
    rintro ⟨k39, d40, ⟨A41, c42⟩⟩ H45
    obtain ⟨hk43, hF44, hi46⟩ : k39 ≤ ((gt x0.Segments k12)).length ∧ rng (R := DStore) (fun k (s : (List DVersion)) => impl_copyStore_b2 x0 k12 k s) (((gt x0.Segments k12)).length - k39) k39 d40 = rng (R := DStore) (fun k (s : (List DVersion)) => impl_copyStore_b2 x0 k12 k s) (((gt x0.Segments k12)).length - 0) 0 [] ∧ d40.length ≤ 0 + k39 := H45
    show CM Try.prog 48 _ _ _ _ [(2, .pointer (some (⟨p10, 0, none⟩ : Addr))), (3, .pointer (some (⟨p11, 0, none⟩ : Addr))), (6, .slice A41 d40.length c42), (13, .slice (some a24) x0.Segments.length c5), (14, .int .i64 ((x0.Segments.length : Nat) : Int)), (15, .int .i64 ((k12 : Nat) : Int)), (20, .slice A33 ((gt x0.Segments k12)).length c34), (21, .int .i64 ((((gt x0.Segments k12)).length : Nat) : Int)), (22, .int .i64 ((k39 : Nat) : Int))] [iOwn (tSl tyVersion 102) [.slice A41 d40.length c42] d40, iBox p11 45 [.slice A16 d15.length c17, .int .i64 x0.Now], iBox p10 45 [.slice none 0 0, .int .i64 0], iBox p9 45 [.slice (some a24) x0.Segments.length c5, .int .i64 x0.Now], iOwn (tSl (tSl tyVersion 102) 100) [.slice A16 d15.length c17] d15]
    refine sr ?_
    refine wv (fun W hm => rv_lss rfl rfl) ?_
    refine nt' ?_
    refine CM_seq ?_
    by_cases hl47 : k39 < ((gt x0.Segments k12)).length
    · have g48 : (decide (((k39 : Nat) : Int) < ((((gt x0.Segments k12)).length : Nat) : Int))) = true := decide_eq_true (by omega)
      refine CM_condT rfl g48 ?_
      refine CM_skip ?_
      refine QM_then ?_
      refine CM_seq ?_
      refine CM_block ?_
      refine sr ?_
      obtain ⟨a49, rfl, hb50, he51⟩ := q35 (by omega)
      refine wv (fun W hm => rv_index (sz := 4) (k := k39) Try.underlying100 Try.type102 rfl rfl rfl (by omega)) ?_
      obtain ⟨_, e55, hc52⟩ := he51 k39 _ (gt_some (show k39 < ((gt x0.Segments k12)).length from by omega))
      obtain ⟨v53, rfl, r54⟩ := tyVersion_rd e55
      have l56 : ((gt (gt x0.Segments k12) k39).Values).length ≤ 68719476736 := ((s_0.2 _ (gt_mem (show k12 < x0.Segments.length from by omega))).2 _ (gt_mem (show k39 < ((gt x0.Segments k12)).length from by omega)))
      have r61 := r54
      obtain ⟨m57, A58, c59, rfl, q60⟩ := r54
      refine wv (fun W hm => rv_loadN (cs := [.int .i64 ((gt (gt x0.Segments k12) k39).Id), .slice A58 ((gt (gt x0.Segments k12) k39).Values).length c59, .int .i64 ((gt (gt x0.Segments k12) k39).Born), .int .i64 ((gt (gt x0.Segments k12) k39).Died)]) Try.underlying102 Try.type102 rfl rfl (hm.elCells (show (a49.add (k39 * 4)).block < w.heap.size from by rw [add_block]; exact hb50.1) hc52)) ?_
      refine WM_alloc Try.type102 rfl (Wd_none rfl) (by decide) (fun p62 => ?_)
      refine WM_storeBox (p := p62) (o := 0) (cs := [.int .i64 0, .slice none 0 0, .int .i64 0, .int .i64 0]) (cs' := [.int .i64 ((gt (gt x0.Segments k12) k39).Id), .slice A58 ((gt (gt x0.Segments k12) k39).Values).length c59, .int .i64 ((gt (gt x0.Segments k12) k39).Born), .int .i64 ((gt (gt x0.Segments k12) k39).Died)]) (js := [iOwn (tSl tyVersion 102) [.slice A41 d40.length c42] d40, iBox p11 45 [.slice A16 d15.length c17, .int .i64 x0.Now], iBox p10 45 [.slice none 0 0, .int .i64 0], iBox p9 45 [.slice (some a24) x0.Segments.length c5, .int .i64 x0.Now], iOwn (tSl (tSl tyVersion 102) 100) [.slice A16 d15.length c17] d15]) (fun W hm => hm) Try.type102 rfl (Nat.le_of_ble_eq_true rfl) rfl rfl rfl rfl (Wd_none rfl) ?_
      refine nt' ?_
      refine CM_regionB (n := 14) (listed := #[false, false, false, false, false, false, false, false, false, false, false, false, false, false]) (s := [iBox p62 102 [.int .i64 ((gt (gt x0.Segments k12) k39).Id), .slice A58 ((gt (gt x0.Segments k12) k39).Values).length c59, .int .i64 ((gt (gt x0.Segments k12) k39).Born), .int .i64 ((gt (gt x0.Segments k12) k39).Died)], iBox p11 45 [.slice A16 d15.length c17, .int .i64 x0.Now], iBox p10 45 [.slice none 0 0, .int .i64 0], iBox p9 45 [.slice (some a24) x0.Segments.length c5, .int .i64 x0.Now], iOwn (tSl (tSl tyVersion 102) 100) [.slice A16 d15.length c17] d15]) (by kernel_rfl) rfl (by kernel_rfl) (fun W hm => (hm.pick [0, 2, 3, 4, 5] (by decide))) ?_
      refine QB_take 0 (listed' := #[true, false, false, false, false, false, false, false, false, false, false, false, false, false]) (by kernel_rfl) rfl (by kernel_rfl) (by kernel_rfl) (by kernel_rfl) (fun _ _ _ h => h) (fun W hm => rv_move rfl) (Wd_none rfl) rfl (by decide) ?_
      refine QB_take 1 (listed' := #[true, true, false, false, false, false, false, false, false, false, false, false, false, false]) (by kernel_rfl) rfl (by kernel_rfl) (by kernel_rfl) (by kernel_rfl) (fun _ _ _ h => h) (fun W hm => rv_field Try.underlying102 rfl Try.type3 (by decide) rfl rfl) (Wd_none rfl) rfl (by decide) ?_
      refine QB_take 2 (listed' := #[true, true, true, false, false, false, false, false, false, false, false, false, false, false]) (by kernel_rfl) rfl (by kernel_rfl) (by kernel_rfl) (by kernel_rfl) (fun _ _ _ h => h) (fun W hm => rv_load Try.underlying3 rfl rfl (hm.boxCell (n := 0) (o := 0) rfl rfl)) (Wd_none rfl) rfl (by decide) ?_
      refine QB_take 3 (listed' := #[true, true, true, true, false, false, false, false, false, false, false, false, false, false]) (by kernel_rfl) rfl (by kernel_rfl) (by kernel_rfl) (by kernel_rfl) (fun _ _ _ h => h) (fun W hm => rv_field Try.underlying102 rfl Try.type33 (by decide) rfl rfl) (Wd_none rfl) rfl (by decide) ?_
      refine QB_take 4 (listed' := #[true, true, true, true, true, false, false, false, false, false, false, false, false, false]) (by kernel_rfl) rfl (by kernel_rfl) (by kernel_rfl) (by kernel_rfl) (fun _ _ _ h => h) (fun W hm => rv_load Try.underlying33 rfl rfl (hm.boxCell (n := 0) (o := 1) rfl rfl)) (Wd_none rfl) rfl (by decide) ?_
      refine QB_take 6 (listed' := #[true, true, true, true, true, false, true, false, false, false, false, false, false, false]) (by kernel_rfl) rfl (by kernel_rfl) (by kernel_rfl) (by kernel_rfl) (fun _ _ _ h => h) (fun W hm => rv_field Try.underlying102 rfl Try.type3 (by decide) rfl rfl) (Wd_none rfl) rfl (by decide) ?_
      refine QB_take 7 (listed' := #[true, true, true, true, true, false, true, true, false, false, false, false, false, false]) (by kernel_rfl) rfl (by kernel_rfl) (by kernel_rfl) (by kernel_rfl) (fun _ _ _ h => h) (fun W hm => rv_load Try.underlying3 rfl rfl (hm.boxCell (n := 0) (o := 2) rfl rfl)) (Wd_none rfl) rfl (by decide) ?_
      refine QB_take 8 (listed' := #[true, true, true, true, true, false, true, true, true, false, false, false, false, false]) (by kernel_rfl) rfl (by kernel_rfl) (by kernel_rfl) (by kernel_rfl) (fun _ _ _ h => h) (fun W hm => rv_field Try.underlying102 rfl Try.type3 (by decide) rfl rfl) (Wd_none rfl) rfl (by decide) ?_
      refine QB_take 9 (listed' := #[true, true, true, true, true, false, true, true, true, true, false, false, false, false]) (by kernel_rfl) rfl (by kernel_rfl) (by kernel_rfl) (by kernel_rfl) (fun _ _ _ h => h) (fun W hm => rv_load Try.underlying3 rfl rfl (hm.boxCell (n := 0) (o := 3) rfl rfl)) (Wd_none rfl) rfl (by decide) ?_
      refine QB_one 5 (listed' := #[true, true, true, true, true, true, true, true, true, true, false, false, false, false]) (by kernel_rfl) rfl (by kernel_rfl) ?_
      refine WM_call (χ := Value) (val := fun x => x) (js := fun x => [iOwn (tSl tInt 3) [x] ((gt (gt x0.Segments k12) k39).Values)]) (cl_fn cb95 rfl) (fun W hm => impl_copyInts_c2 W _ ((gt (gt x0.Segments k12) k39).Values) (hm.rdS0 r61) ((s_0.2 _ (gt_mem (show k12 < x0.Segments.length from by omega))).2 _ (gt_mem (show k39 < ((gt x0.Segments k12)).length from by omega)))) (Wd_none rfl) (by decide) (fun z63 => ?_)
      refine WM_form (n := 0) rfl ?_
      rintro A64 c65 rfl m66
      refine WM_nil ?_
      refine QB_next (fun W hm => (hm.pick [1, 3, 4, 5, 6] (by decide))) ?_
      refine QB_take 10 (listed' := #[true, true, true, true, true, true, true, true, true, true, true, false, false, false]) (by kernel_rfl) rfl (by kernel_rfl) (by kernel_rfl) (by kernel_rfl) (fun _ _ _ h => h) (fun W hm => rv_build (cs := [.int .i64 ((gt (gt x0.Segments k12) k39).Id), .slice A64 ((gt (gt x0.Segments k12) k39).Values).length c65, .int .i64 ((gt (gt x0.Segments k12) k39).Born), .int .i64 ((gt (gt x0.Segments k12) k39).Died)]) rfl (by kernel_rfl)) (Wd_none rfl) rfl (by decide) ?_
      refine QB_one 11 (listed' := #[true, true, true, true, true, true, true, true, true, true, true, true, false, false]) (by kernel_rfl) rfl (by kernel_rfl) ?_
      refine WM_build (cs := [.int .i64 ((gt (gt x0.Segments k12) k39).Id), .slice A64 ((gt (gt x0.Segments k12) k39).Values).length c65, .int .i64 ((gt (gt x0.Segments k12) k39).Born), .int .i64 ((gt (gt x0.Segments k12) k39).Died)]) Try.underlying100 Try.type102 rfl (by decide) (by decide) rfl (by kernel_rfl) (Wd_none rfl) (by decide) (fun p68 => ?_)
      refine WM_nil ?_
      refine QB_next (fun W hm => (hm.pick [2, 4, 5, 6, 7] (by decide))) ?_
      refine QB_one 12 (listed' := #[true, true, true, true, true, true, true, true, true, true, true, true, true, false]) (by kernel_rfl) rfl (by kernel_rfl) ?_
      refine WM_append (E := tyVersion) (e := 102) (v := .slice A41 d40.length c42) (p := p68) (q := 1) (xs := d40) (ys := [(⟨(gt (gt x0.Segments k12) k39).Id, ((gt (gt x0.Segments k12) k39).Values), (gt (gt x0.Segments k12) k39).Born, (gt (gt x0.Segments k12) k39).Died⟩ : DVersion)]) (eis := [iOwn (tSl tInt 3) [.slice A64 ((gt (gt x0.Segments k12) k39).Values).length c65] ((gt (gt x0.Segments k12) k39).Values)]) (js := [iBox p62 102 [.int .i64 ((gt (gt x0.Segments k12) k39).Id), .slice A58 ((gt (gt x0.Segments k12) k39).Values).length c59, .int .i64 ((gt (gt x0.Segments k12) k39).Born), .int .i64 ((gt (gt x0.Segments k12) k39).Died)], iBox p11 45 [.slice A16 d15.length c17, .int .i64 x0.Now], iBox p10 45 [.slice none 0 0, .int .i64 0], iBox p9 45 [.slice (some a24) x0.Segments.length c5, .int .i64 x0.Now], iOwn (tSl (tSl tyVersion 102) 100) [.slice A16 d15.length c17] d15]) (news := [.int .i64 ((gt (gt x0.Segments k12) k39).Id), .slice A64 ((gt (gt x0.Segments k12) k39).Values).length c65, .int .i64 ((gt (gt x0.Segments k12) k39).Born), .int .i64 ((gt (gt x0.Segments k12) k39).Died)]) (fun W hm => (hm.pick [0, 3, 1, 2, 4, 5, 6, 7] (by decide))) (fun _ _ hs => Els.single (tyVersion_join (x := (⟨(gt (gt x0.Segments k12) k39).Id, ((gt (gt x0.Segments k12) k39).Values), (gt (gt x0.Segments k12) k39).Born, (gt (gt x0.Segments k12) k39).Died⟩ : DVersion)) hs)) Try.underlying100 Try.type102 rfl rfl rfl (Nat.le_of_ble_eq_true rfl) rfl rfl rfl (show (d40.length + 1) * 48 ≤ 140737488355328 from by omega) (show d40.length + 1 ≤ 9223372036854775807 from by omega) (Wd_none rfl) (by decide) (fun v69 => ?_)
      refine WM_form (n := 0) rfl ?_
      rintro A70 c71 rfl m72
      refine WM_nil ?_
      refine QB_next (fun W hm => (hm.pick [1, 2, 3, 4, 5] (by decide))) ?_
      refine QB_take 13 (listed' := #[true, true, true, true, true, true, true, true, true, true, true, true, true, true]) (by kernel_rfl) rfl (by kernel_rfl) (by kernel_rfl) (by kernel_rfl) (fun _ _ _ h => h) (fun W hm => rv_assign rfl) (Wd_none rfl) rfl (by decide) ?_
      refine QB_done (by kernel_rfl) ?_
      refine QM_block_normal ?_
      refine QM_then ?_
      refine CM_region ?_
      refine wv (fun W hm => rv_addN (p := k39) (q := 1) rfl rfl (by omega)) ?_
      refine wm ?_
      refine WM_nil ?_
      have hn74 := rng_next (R := DStore) (body := (fun k (s : (List DVersion)) => impl_copyStore_b2 x0 k12 k s)) (k := k39) (s := d40) (s' := (d40 ++ [(⟨(gt (gt x0.Segments k12) k39).Id, ((gt (gt x0.Segments k12) k39).Values), (gt (gt x0.Segments k12) k39).Born, (gt (gt x0.Segments k12) k39).Died⟩ : DVersion)])) (show k39 < ((gt x0.Segments k12)).length from by omega) (show impl_copyStore_b2 x0 k12 k39 d40 = Sum.inr (d40 ++ [(⟨(gt (gt x0.Segments k12) k39).Id, ((gt (gt x0.Segments k12) k39).Values), (gt (gt x0.Segments k12) k39).Born, (gt (gt x0.Segments k12) k39).Died⟩ : DVersion)]) from by unfold impl_copyStore_b2; exact rfl) hF44
      exact QM_round (k39 + 1, (d40 ++ [(⟨(gt (gt x0.Segments k12) k39).Id, ((gt (gt x0.Segments k12) k39).Values), (gt (gt x0.Segments k12) k39).Born, (gt (gt x0.Segments k12) k39).Died⟩ : DVersion)]), (A70, c71)) (subL_cons rfl (subL_cons rfl (subL_cons rfl (subL_cons rfl (subL_cons rfl (subL_cons rfl (subL_cons rfl (subL_cons rfl (subL_cons rfl subL_nil))))))))) (fun W hm => (hm.pick [0, 2, 3, 4, 5] (by decide))) ⟨(by omega), hn74, (show (d40 ++ [(⟨(gt (gt x0.Segments k12) k39).Id, ((gt (gt x0.Segments k12) k39).Values), (gt (gt x0.Segments k12) k39).Born, (gt (gt x0.Segments k12) k39).Died⟩ : DVersion)]).length ≤ 0 + (k39 + 1) from by first | omega | (simp only [List.length_append, List.length_cons, List.length_nil] at *; omega))⟩ (show ((gt x0.Segments k12)).length - (k39 + 1) < ((gt x0.Segments k12)).length - k39 from by omega)
    · have g48 : (decide (((k39 : Nat) : Int) < ((((gt x0.Segments k12)).length : Nat) : Int))) = false := decide_eq_false (by omega)
      refine CM_condF rfl g48 ?_
      refine CM_exit ?_
      refine QM_then_exit ?_
      refine QM_then_exit ?_
      have hE75 : rng (R := DStore) (fun k (s : (List DVersion)) => impl_copyStore_b2 x0 k12 k s) (((gt x0.Segments k12)).length - 0) 0 [] = Sum.inr d40 := rng_end hl47 hF44
      refine QM_block_hit ?_
      refine QM_then ?_
      refine CM_region ?_
      refine wv (fun W hm => rv_field Try.underlying45 rfl Try.type43 (by decide) rfl rfl) ?_
      refine wv (fun W hm => rv_load Try.underlying43 rfl rfl (hm.boxCell (n := 1) (o := 0) rfl rfl)) ?_
      refine wm ?_
      refine WM_build (cs := [.slice A41 d40.length c42]) Try.underlying43 Try.type100 rfl (by decide) (by decide) rfl (by kernel_rfl) (Wd_none rfl) (by decide) (fun p76 => ?_)
      refine WM_append (E := (tSl tyVersion 102)) (e := 100) (v := .slice A16 d15.length c17) (p := p76) (q := 1) (xs := d15) (ys := [d40]) (eis := [iOwn (tSl tyVersion 102) [.slice A41 d40.length c42] d40]) (js := [iBox p11 45 [.slice A16 d15.length c17, .int .i64 x0.Now], iBox p10 45 [.slice none 0 0, .int .i64 0], iBox p9 45 [.slice (some a24) x0.Segments.length c5, .int .i64 x0.Now]]) (news := [.slice A41 d40.length c42]) (fun W hm => (hm.pick [0, 5, 1, 2, 3, 4] (by decide))) (fun _ _ hs => Els.single (Sep.one hs)) Try.underlying43 Try.type100 rfl rfl rfl (Nat.le_of_ble_eq_true rfl) rfl rfl rfl (show (d15.length + 1) * 24 ≤ 140737488355328 from by omega) (show d15.length + 1 ≤ 9223372036854775807 from by omega) (Wd_none rfl) (by decide) (fun v77 => ?_)
      refine WM_form (n := 0) rfl ?_
      rintro A78 c79 rfl m80
      refine wv (fun W hm => rv_field Try.underlying45 rfl Try.type43 (by decide) rfl rfl) ?_
      refine WM_storeBox (p := p11) (o := 0) (cs := [.slice A16 d15.length c17, .int .i64 x0.Now]) (cs' := [.slice A78 (d15 ++ [d40]).length c79, .int .i64 x0.Now]) (js := [iOwn (tSl (tSl tyVersion 102) 100) [.slice A78 (d15 ++ [d40]).length c79] (d15 ++ [d40]), iBox p10 45 [.slice none 0 0, .int .i64 0], iBox p9 45 [.slice (some a24) x0.Segments.length c5, .int .i64 x0.Now]]) (fun W hm => (hm.pick [1, 0, 2, 3] (by decide))) Try.type43 rfl (Nat.le_of_ble_eq_true rfl) rfl rfl rfl rfl (Wd_none rfl) ?_
      refine WM_nil ?_
      refine QM_block_normal ?_
      refine QM_then ?_
      refine CM_region ?_
      refine wv (fun W hm => rv_addN (p := k12) (q := 1) rfl rfl (by omega)) ?_
      refine wm ?_
      refine WM_nil ?_
      have hn82 := rng_next (R := DStore) (body := (fun k (s : (List (List DVersion))) => impl_copyStore_b1 x0 k s)) (k := k12) (s := d15) (s' := (d15 ++ [d40])) (show k12 < x0.Segments.length from by omega) (show impl_copyStore_b1 x0 k12 d15 = Sum.inr (d15 ++ [d40]) from by unfold impl_copyStore_b1; exact fin_inr hE75 (rfl)) hF19
      exact QM_round (k12 + 1, (d15 ++ [d40]), (A78, c79)) (subL_cons rfl (subL_cons rfl (subL_cons rfl (subL_cons rfl (subL_cons rfl subL_nil))))) (fun W hm => (hm.pick [0, 2, 3, 1] (by decide))) ⟨(by omega), hn82, (show (d15 ++ [d40]).length ≤ 0 + (k12 + 1) from by first | omega | (simp only [List.length_append, List.length_cons, List.length_nil] at *; omega))⟩ (show x0.Segments.length - (k12 + 1) < x0.Segments.length - k12 from by omega)
  · have g23 : (decide (((k12 : Nat) : Int) < ((x0.Segments.length : Nat) : Int))) = false := decide_eq_false (by omega)
    refine CM_condF rfl g23 ?_
    refine CM_exit ?_
    refine QM_then_exit ?_
    refine QM_then_exit ?_
    have hE83 : rng (R := DStore) (fun k (s : (List (List DVersion))) => impl_copyStore_b1 x0 k s) (x0.Segments.length - 0) 0 [] = Sum.inr d15 := rng_end hl22 hF19
    refine QM_block_hit ?_
    refine QM_then ?_
    refine sr ?_
    refine wv (fun W hm => rv_loadN (cs := [.slice A16 d15.length c17, .int .i64 x0.Now]) Try.underlying45 Try.type45 rfl rfl (hm.boxCells (n := 0) rfl)) ?_
    refine WM_storeBox (p := p10) (o := 0) (cs := [.slice none 0 0, .int .i64 0]) (cs' := [.slice A16 d15.length c17, .int .i64 x0.Now]) (js := [iBox p11 45 [.slice A16 d15.length c17, .int .i64 x0.Now], iBox p9 45 [.slice A4 x0.Segments.length c5, .int .i64 x0.Now], iOwn (tSl (tSl tyVersion 102) 100) [.slice A16 d15.length c17] d15]) (fun W hm => (hm.pick [1, 0, 2, 3] (by decide))) Try.type45 rfl (Nat.le_of_ble_eq_true rfl) rfl rfl rfl rfl (Wd_none rfl) ?_
    refine nt' ?_
    refine CM_ret ?_
    refine QM_r1 rfl (RR_cell (n := 0) rfl rfl Try.underlying45 Try.type45 rfl) (fun W hm => ⟨[.slice A16 d15.length c17, .int .i64 x0.Now], ?_, ?_⟩)
    · first | rw [(show impl_copyStore_m x0 = (⟨d15, x0.Now⟩ : DStore) from by unfold impl_copyStore_m; exact fin_inr hE83 (rfl))] | rfl
    · rw [(show impl_copyStore_m x0 = (⟨d15, x0.Now⟩ : DStore) from by unfold impl_copyStore_m; exact fin_inr hE83 (rfl))]; exact Mem.join (is := [iOwn (tSl (tSl tyVersion 102) 100) [.slice A16 d15.length c17] d15]) (js := []) (fun _ _ hs => tyStore_join (x := (⟨d15, x0.Now⟩ : DStore)) hs) (hm.pick [3] (by decide))
theorem impl_copyStore_eq (x0 : DStore) : impl_copyStore_m x0 = x0 := by
  unfold impl_copyStore_m; rw [rng_app (xs := x0.Segments) (b := fun k s => impl_copyStore_b1 x0 k s) (fun j s => by unfold impl_copyStore_b1; rw [rng_app (xs := gt x0.Segments j) (b := fun k s => impl_copyStore_b2 x0 j k s) (fun _ _ => rfl)]; rfl)]; rfl
theorem impl_copyStore_c2 (w : World) (z0 : List Value) (x0 : DStore) (r_0 : tyStore.rd w w.heap.size z0 x0) (s_0 : smStore 68719476736 x0) :
    Calls Try.prog 72 #[.agg z0.toArray] w fun e w' => ∃ v : List Value, e = .returned (.agg v.toArray) ∧ Mem w.heap.size w [iOwn tyStore v x0] w' := by
  have h := impl_copyStore_c w z0 x0 r_0 s_0
  rw [impl_copyStore_eq] at h
  exact h

def impl_within_m (x0 : Int) (x1 : Int) (x2 : Int) : Bool :=
  cond (decide (x1 ≤ x0)) (decide (x0 ≤ x2)) false
set_option maxRecDepth 100000 in
theorem cb114 : Cb Try.prog 114 := ⟨Try.f114, _, Try.func114, rfl, by decide⟩
set_option maxRecDepth 10000 in
set_option maxHeartbeats 4000000 in
theorem impl_within_c (w : World) (x0 : Int) (x1 : Int) (x2 : Int) :
    Calls Try.prog 114 #[.int .i64 x0, .int .i64 x1, .int .i64 x2] w fun e w' => e = .returned (.bool (impl_within_m x0 x1 x2)) ∧ Below w.heap.size w w' := by
  refine call_enterM (L := [(0, .int .i64 x0), (1, .int .i64 x1), (2, .int .i64 x2)]) (N := 15) Try.func114 rfl rfl (Nat.le_of_ble_eq_true rfl) (argsL_cons rfl (argsL_cons rfl (argsL_cons rfl argsL_nil))) ?_
  refine sr ?_
  refine wa ?_
  refine nt' ?_
  refine sr ?_
  refine wm ?_
  refine wm ?_
  refine wv (fun W hm => rv_geq rfl rfl) ?_
  refine wm ?_
  by_cases h1 : x1 ≤ x0
  · have g2 : (decide (x1 ≤ x0)) = true := decide_eq_true h1
    refine wg (fun W hm => rv_move rfl) g2 ?_
    refine wg (fun W hm => rv_move rfl) g2 ?_
    refine wg (fun W hm => rv_leq rfl rfl) g2 ?_
    refine wv (fun W hm => rv_pickT rfl g2 rfl) ?_
    refine wa ?_
    refine nt' ?_
    refine CM_ret ?_
    exact QM_ret1 rfl rfl (fun W hm => ⟨ret_b (show impl_within_m x0 x1 x2 = (decide (x0 ≤ x2)) from by unfold impl_within_m; exact cond_t g2 (rfl)), hm.below⟩)
  · have g2 : (decide (x1 ≤ x0)) = false := decide_eq_false h1
    refine ws g2 ?_
    refine ws g2 ?_
    refine ws g2 ?_
    refine wv (fun W hm => rv_pickF rfl g2 rfl) ?_
    refine wa ?_
    refine nt' ?_
    refine CM_ret ?_
    exact QM_ret1 rfl rfl (fun W hm => ⟨ret_b (show impl_within_m x0 x1 x2 = false from by unfold impl_within_m; exact cond_f g2 (rfl)), hm.below⟩)

theorem impl_within_fact {x a b : Int} (h : impl_within_m x a b = true) : a ≤ x ∧ x ≤ b := by
  unfold impl_within_m at h
  by_cases h1 : a ≤ x
  · rw [decide_eq_true h1] at h
    exact ⟨h1, of_decide_eq_true h⟩
  · rw [decide_eq_false h1] at h
    cases h
theorem impl_within_iff (x a b : Int) : impl_within_m x a b = decide (a ≤ x ∧ x ≤ b) := by
  unfold impl_within_m
  by_cases h1 : a ≤ x
  · by_cases h2 : x ≤ b
    · simp [h1, h2]
    · simp [h1, h2]
  · simp [h1]

def impl_rowOf_m (x0 : DVersion) : DRow :=
  (⟨x0.Id, x0.Values⟩ : DRow)
set_option maxRecDepth 100000 in
theorem cb115 : Cb Try.prog 115 := ⟨Try.f115, _, Try.func115, rfl, by decide⟩
set_option maxRecDepth 10000 in
set_option maxHeartbeats 4000000 in
theorem impl_rowOf_c (w : World) (z0 : List Value) (x0 : DVersion) (r_0 : tyVersion.rd w w.heap.size z0 x0) (s_0 : smVersion 68719476736 x0) :
    Calls Try.prog 115 #[.agg z0.toArray] w fun e w' => ∃ v : List Value, e = .returned (.agg v.toArray) ∧ Mem w.heap.size w [iOwn tyRow v (impl_rowOf_m x0)] w' := by
  obtain ⟨v1, rfl, r2⟩ := tyVersion_rd r_0
  have r7 := r2
  obtain ⟨m3, A4, c5, rfl, q6⟩ := r2
  have l8 : x0.Values.length ≤ 68719476736 := s_0
  refine call_enterM (L := [(0, .agg #[.int .i64 x0.Id, .slice A4 x0.Values.length c5, .int .i64 x0.Born, .int .i64 x0.Died])]) (N := 9) Try.func115 rfl rfl (Nat.le_of_ble_eq_true rfl) (argsL_cons rfl argsL_nil) ?_
  refine sr ?_
  refine WM_box rfl (Wd_none rfl) (by decide) (fun p9 => ?_)
  refine WM_alloc Try.type69 rfl (Wd_none rfl) (by decide) (fun p10 => ?_)
  refine nt' ?_
  refine CM_seq ?_
  refine CM_regionB (n := 7) (listed := #[false, false, false, false, false, false, false]) (s := [iBox p9 102 [.int .i64 x0.Id, .slice A4 x0.Values.length c5, .int .i64 x0.Born, .int .i64 x0.Died]]) (by kernel_rfl) rfl (by kernel_rfl) (fun W hm => (hm.pick [1] (by decide))) ?_
  refine QB_take 0 (listed' := #[true, false, false, false, false, false, false]) (by kernel_rfl) rfl (by kernel_rfl) (by kernel_rfl) (by kernel_rfl) (fun _ _ _ h => h) (fun W hm => rv_field Try.underlying102 rfl Try.type3 (by decide) rfl rfl) (Wd_none rfl) rfl (by decide) ?_
  refine QB_take 1 (listed' := #[true, true, false, false, false, false, false]) (by kernel_rfl) rfl (by kernel_rfl) (by kernel_rfl) (by kernel_rfl) (fun _ _ _ h => h) (fun W hm => rv_load Try.underlying3 rfl rfl (hm.boxCell (n := 0) (o := 0) rfl rfl)) (Wd_none rfl) rfl (by decide) ?_
  refine QB_take 2 (listed' := #[true, true, true, false, false, false, false]) (by kernel_rfl) rfl (by kernel_rfl) (by kernel_rfl) (by kernel_rfl) (fun _ _ _ h => h) (fun W hm => rv_field Try.underlying102 rfl Try.type33 (by decide) rfl rfl) (Wd_none rfl) rfl (by decide) ?_
  refine QB_take 3 (listed' := #[true, true, true, true, false, false, false]) (by kernel_rfl) rfl (by kernel_rfl) (by kernel_rfl) (by kernel_rfl) (fun _ _ _ h => h) (fun W hm => rv_load Try.underlying33 rfl rfl (hm.boxCell (n := 0) (o := 1) rfl rfl)) (Wd_none rfl) rfl (by decide) ?_
  refine QB_one 4 (listed' := #[true, true, true, true, true, false, false]) (by kernel_rfl) rfl (by kernel_rfl) ?_
  refine WM_call (χ := Value) (val := fun x => x) (js := fun x => [iOwn (tSl tInt 3) [x] x0.Values]) (cl_fn cb95 rfl) (fun W hm => impl_copyInts_c2 W _ x0.Values (hm.rdS0 r7) s_0) (Wd_none rfl) (by decide) (fun z11 => ?_)
  refine WM_form (n := 0) rfl ?_
  rintro A12 c13 rfl m14
  refine WM_nil ?_
  refine QB_next (fun W hm => (hm.pick [2] (by decide))) ?_
  refine QB_take 5 (listed' := #[true, true, true, true, true, true, false]) (by kernel_rfl) rfl (by kernel_rfl) (by kernel_rfl) (by kernel_rfl) (fun _ _ _ h => h) (fun W hm => rv_build (cs := [.int .i64 x0.Id, .slice A12 x0.Values.length c13]) rfl (by kernel_rfl)) (Wd_none rfl) rfl (by decide) ?_
  refine QB_one 6 (listed' := #[true, true, true, true, true, true, true]) (by kernel_rfl) rfl (by kernel_rfl) ?_
  refine WM_storeBox (p := p10) (o := 0) (cs := [.int .i64 0, .slice none 0 0]) (cs' := [.int .i64 x0.Id, .slice A12 x0.Values.length c13]) (js := [iOwn (tSl tInt 3) [.slice A12 x0.Values.length c13] x0.Values, iBox p9 102 [.int .i64 x0.Id, .slice A4 x0.Values.length c5, .int .i64 x0.Born, .int .i64 x0.Died]]) (fun W hm => (hm.pick [1, 0, 2] (by decide))) Try.type69 rfl (Nat.le_of_ble_eq_true rfl) rfl rfl rfl rfl (Wd_none rfl) ?_
  refine WM_nil ?_
  refine QB_next (fun W hm => (hm.pick [2] (by decide))) ?_
  refine QB_done (by kernel_rfl) ?_
  refine QM_then ?_
  refine CM_ret ?_
  refine QM_r1 rfl (RR_cell (n := 0) rfl rfl Try.underlying69 Try.type69 rfl) (fun W hm => ⟨[.int .i64 x0.Id, .slice A12 x0.Values.length c13], ?_, ?_⟩)
  · first | rw [(show impl_rowOf_m x0 = (⟨x0.Id, x0.Values⟩ : DRow) from by unfold impl_rowOf_m; exact rfl)] | rfl
  · rw [(show impl_rowOf_m x0 = (⟨x0.Id, x0.Values⟩ : DRow) from by unfold impl_rowOf_m; exact rfl)]; exact Mem.join (is := [iOwn (tSl tInt 3) [.slice A12 x0.Values.length c13] x0.Values]) (js := []) (fun _ _ hs => tyRow_join (x := (⟨x0.Id, x0.Values⟩ : DRow)) hs) (hm.pick [1] (by decide))

def impl_IsRow_b1 (x0 : DRow) (k9 : Nat) : Bool ⊕ (Unit) :=
  cond (impl_within_m (gt x0.Values k9) 0 99) (Sum.inr ()) (Sum.inl false)
def impl_IsRow_m (x0 : DRow) : Bool :=
  Sum.elim id (fun (s : Unit) => cond (impl_within_m x0.Id 0 999) (((x0.Values.length : Nat) : Int) == 3) false) (rng (R := Bool) (fun k (_ : Unit) => impl_IsRow_b1 x0 k) (x0.Values.length - 0) 0 ())
set_option maxRecDepth 100000 in
theorem cb87 : Cb Try.prog 87 := ⟨Try.f87, _, Try.func87, rfl, by decide⟩
set_option maxRecDepth 10000 in
set_option maxHeartbeats 4000000 in
theorem impl_IsRow_c (w : World) (z0 : List Value) (x0 : DRow) (r_0 : tyRow.rd w w.heap.size z0 x0) :
    Calls Try.prog 87 #[.agg z0.toArray] w fun e w' => e = .returned (.bool (impl_IsRow_m x0)) ∧ Below w.heap.size w w' := by
  obtain ⟨v1, rfl, r2⟩ := tyRow_rd r_0
  have r7 := r2
  obtain ⟨m3, A4, c5, rfl, q6⟩ := r2
  refine call_enterM (L := [(0, .agg #[.int .i64 x0.Id, .slice A4 x0.Values.length c5])]) (N := 25) Try.func87 rfl rfl (Nat.le_of_ble_eq_true rfl) (argsL_cons rfl argsL_nil) ?_
  refine sr ?_
  refine WM_box rfl (Wd_none rfl) (by decide) (fun p8 => ?_)
  refine wa ?_
  refine nt' ?_
  refine CM_seq ?_
  refine sr ?_
  refine wv (fun W hm => rv_field Try.underlying69 rfl Try.type33 (by decide) rfl rfl) ?_
  refine wv (fun W hm => rv_load Try.underlying33 rfl rfl (hm.boxCell (n := 0) (o := 1) rfl rfl)) ?_
  refine wv (fun W hm => rv_len Try.underlying33 rfl) ?_
  refine wm ?_
  refine nt' ?_
  refine CM_block ?_
  refine CM_loop (σ := Nat × (Unit) × (Unit)) (fun s => [(1, .pointer (some (⟨p8, 0, none⟩ : Addr))), (6, .slice A4 x0.Values.length c5), (7, .int .i64 ((x0.Values.length : Nat) : Int)), (8, .int .i64 ((s.1 : Nat) : Int))]) (fun s => [iBox p8 69 [.int .i64 x0.Id, .slice A4 x0.Values.length c5]]) (fun s => s.1 ≤ x0.Values.length ∧ rng (R := Bool) (fun k (_ : Unit) => impl_IsRow_b1 x0 k) (x0.Values.length - s.1) s.1 s.2.1 = rng (R := Bool) (fun k (_ : Unit) => impl_IsRow_b1 x0 k) (x0.Values.length - 0) 0 ()) (fun s => x0.Values.length - s.1) (0, (), ()) (subL_cons rfl (subL_cons rfl (subL_cons rfl (subL_cons rfl subL_nil)))) (fun W hm => hm) ⟨(by omega), rfl⟩ ?_
  rintro ⟨k9, ⟨⟩, ⟨⟩⟩ H12
  obtain ⟨hk10, hF11⟩ : k9 ≤ x0.Values.length ∧ rng (R := Bool) (fun k (_ : Unit) => impl_IsRow_b1 x0 k) (x0.Values.length - k9) k9 () = rng (R := Bool) (fun k (_ : Unit) => impl_IsRow_b1 x0 k) (x0.Values.length - 0) 0 () := H12
  show CM Try.prog 25 _ _ _ _ [(1, .pointer (some (⟨p8, 0, none⟩ : Addr))), (6, .slice A4 x0.Values.length c5), (7, .int .i64 ((x0.Values.length : Nat) : Int)), (8, .int .i64 ((k9 : Nat) : Int))] [iBox p8 69 [.int .i64 x0.Id, .slice A4 x0.Values.length c5]]
  refine sr ?_
  refine wv (fun W hm => rv_lss rfl rfl) ?_
  refine nt' ?_
  refine CM_seq ?_
  by_cases hl13 : k9 < x0.Values.length
  · have g14 : (decide (((k9 : Nat) : Int) < ((x0.Values.length : Nat) : Int))) = true := decide_eq_true (by omega)
    refine CM_condT rfl g14 ?_
    refine CM_skip ?_
    refine QM_then ?_
    refine CM_seq ?_
    refine CM_block ?_
    refine sr ?_
    obtain ⟨a15, rfl, hb16, he17⟩ := q6 (by omega)
    refine wv (fun W hm => rv_index (sz := 1) (k := k9) Try.underlying33 Try.type3 rfl rfl rfl (by omega)) ?_
    refine wv (fun W hm => rv_load Try.underlying3 rfl rfl ((hm.cell0 (show (a15.add (k9 * 1)).block < w.heap.size from by rw [add_block]; exact hb16.1)).trans (rdS_int he17 k9 (by omega)))) ?_
    refine wa ?_
    refine nt' ?_
    refine sr ?_
    refine wm ?_
    refine WM_callV (cl_fn cb114 rfl) (fun W hm => impl_within_c W (gt x0.Values k9) 0 99) (Wd_none rfl) (by decide) ?_
    refine wv (fun W hm => rv_not rfl) ?_
    refine nt' ?_
    rcases Bool.eq_false_or_eq_true (impl_within_m (gt x0.Values k9) 0 99) with g19 | g19
    ·
      have hw := impl_within_fact g19
      refine CM_condF rfl (nt g19) ?_
      refine CM_skip ?_
      refine QM_block_normal ?_
      refine QM_then ?_
      refine CM_region ?_
      refine wv (fun W hm => rv_addN (p := k9) (q := 1) rfl rfl (by omega)) ?_
      refine wm ?_
      refine WM_nil ?_
      have hn20 := rng_next (R := Bool) (body := (fun k (_ : Unit) => impl_IsRow_b1 x0 k)) (k := k9) (s := ()) (s' := ()) (show k9 < x0.Values.length from by omega) (show impl_IsRow_b1 x0 k9 = Sum.inr () from by unfold impl_IsRow_b1; exact cond_t g19 (rfl)) hF11
      exact QM_round (k9 + 1, (), ()) (subL_cons rfl (subL_cons rfl (subL_cons rfl (subL_cons rfl subL_nil)))) (fun W hm => hm) ⟨(by omega), hn20⟩ (show x0.Values.length - (k9 + 1) < x0.Values.length - k9 from by omega)
    ·
      refine CM_condT rfl (nf g19) ?_
      refine sr ?_
      refine wa ?_
      refine nt' ?_
      refine CM_ret ?_
      refine QM_block_ret ?_
      refine QM_then_ret ?_
      refine QM_then_ret ?_
      refine QM_block_ret ?_
      refine QM_then_ret ?_
      exact QM_ret1 rfl rfl (fun W hm => ⟨ret_b (show impl_IsRow_m x0 = false from by unfold impl_IsRow_m; exact fin_inl (rng_ret (body := (fun k (_ : Unit) => impl_IsRow_b1 x0 k)) (k := k9) (s := ()) (show k9 < x0.Values.length from by omega) (show impl_IsRow_b1 x0 k9 = Sum.inl false from by unfold impl_IsRow_b1; exact cond_f g19 (rfl)) hF11) rfl), hm.below⟩)
  · have g14 : (decide (((k9 : Nat) : Int) < ((x0.Values.length : Nat) : Int))) = false := decide_eq_false (by omega)
    refine CM_condF rfl g14 ?_
    refine CM_exit ?_
    refine QM_then_exit ?_
    refine QM_then_exit ?_
    have hE21 : rng (R := Bool) (fun k (_ : Unit) => impl_IsRow_b1 x0 k) (x0.Values.length - 0) 0 () = Sum.inr () := rng_end hl13 hF11
    refine QM_block_hit ?_
    refine QM_then ?_
    refine sr ?_
    refine wv (fun W hm => rv_field Try.underlying69 rfl Try.type3 (by decide) rfl rfl) ?_
    refine wv (fun W hm => rv_load Try.underlying3 rfl rfl (hm.boxCell (n := 0) (o := 0) rfl rfl)) ?_
    refine WM_callV (cl_fn cb114 rfl) (fun W hm => impl_within_c W x0.Id 0 999) (Wd_none rfl) (by decide) ?_
    refine wm ?_
    rcases Bool.eq_false_or_eq_true (impl_within_m x0.Id 0 999) with g23 | g23
    ·
      have hw := impl_within_fact g23
      refine wg (fun W hm => rv_field Try.underlying69 rfl Try.type33 (by decide) rfl rfl) g23 ?_
      refine wg (fun W hm => rv_load Try.underlying33 rfl rfl (hm.boxCell (n := 0) (o := 1) rfl rfl)) g23 ?_
      refine wg (fun W hm => rv_len Try.underlying33 rfl) g23 ?_
      refine wg (fun W hm => rv_eql rfl rfl) g23 ?_
      refine wv (fun W hm => rv_pickT rfl g23 rfl) ?_
      refine wa ?_
      refine nt' ?_
      refine CM_ret ?_
      exact QM_ret1 rfl rfl (fun W hm => ⟨ret_b (show impl_IsRow_m x0 = (((x0.Values.length : Nat) : Int) == 3) from by unfold impl_IsRow_m; exact fin_inr hE21 (cond_t g23 (rfl))), hm.below⟩)
    ·
      refine ws g23 ?_
      refine ws g23 ?_
      refine ws g23 ?_
      refine ws g23 ?_
      refine wv (fun W hm => rv_pickF rfl g23 rfl) ?_
      refine wa ?_
      refine nt' ?_
      refine CM_ret ?_
      exact QM_ret1 rfl rfl (fun W hm => ⟨ret_b (show impl_IsRow_m x0 = false from by unfold impl_IsRow_m; exact fin_inr hE21 (cond_f g23 (rfl))), hm.below⟩)

def impl_IsVisible_m (x0 : DVersion) (x1 : Int) : Bool :=
  cond (decide (x0.Born ≤ x1)) (cond (x0.Died == (-1)) true (decide (x1 < x0.Died))) false
set_option maxRecDepth 100000 in
theorem cb117 : Cb Try.prog 117 := ⟨Try.f117, _, Try.func117, rfl, by decide⟩
set_option maxRecDepth 10000 in
set_option maxHeartbeats 4000000 in
theorem impl_IsVisible_c (w : World) (z0 : List Value) (x0 : DVersion) (x1 : Int) (r_0 : tyVersion.rd w w.heap.size z0 x0) :
    Calls Try.prog 117 #[.agg z0.toArray, .int .i64 x1] w fun e w' => e = .returned (.bool (impl_IsVisible_m x0 x1)) ∧ Below w.heap.size w w' := by
  obtain ⟨v1, rfl, r2⟩ := tyVersion_rd r_0
  have r7 := r2
  obtain ⟨m3, A4, c5, rfl, q6⟩ := r2
  refine call_enterM (L := [(0, .agg #[.int .i64 x0.Id, .slice A4 x0.Values.length c5, .int .i64 x0.Born, .int .i64 x0.Died]), (1, .int .i64 x1)]) (N := 20) Try.func117 rfl rfl (Nat.le_of_ble_eq_true rfl) (argsL_cons rfl (argsL_cons rfl argsL_nil)) ?_
  refine sr ?_
  refine WM_box rfl (Wd_none rfl) (by decide) (fun p8 => ?_)
  refine wa ?_
  refine nt' ?_
  refine sr ?_
  refine wv (fun W hm => rv_field Try.underlying102 rfl Try.type3 (by decide) rfl rfl) ?_
  refine wv (fun W hm => rv_load Try.underlying3 rfl rfl (hm.boxCell (n := 0) (o := 2) rfl rfl)) ?_
  refine wm ?_
  refine wv (fun W hm => rv_leq rfl rfl) ?_
  refine wm ?_
  by_cases h9 : x0.Born ≤ x1
  · have g10 : (decide (x0.Born ≤ x1)) = true := decide_eq_true h9
    refine wg (fun W hm => rv_field Try.underlying102 rfl Try.type3 (by decide) rfl rfl) g10 ?_
    refine wg (fun W hm => rv_load Try.underlying3 rfl rfl (hm.boxCell (n := 0) (o := 3) rfl rfl)) g10 ?_
    refine wg (fun W hm => rv_eql rfl rfl) g10 ?_
    refine wg (fun W hm => rv_move rfl) g10 ?_
    by_cases h11 : x0.Died = (-1)
    · have g12 : (x0.Died == (-1)) = true := beq_iff_eq.2 h11
      refine ws g12 ?_
      refine ws g12 ?_
      refine ws g12 ?_
      refine ws g12 ?_
      refine wg (fun W hm => rv_pickT rfl g12 rfl) g10 ?_
      refine wv (fun W hm => rv_pickT rfl g10 rfl) ?_
      refine wa ?_
      refine nt' ?_
      refine CM_ret ?_
      exact QM_ret1 rfl rfl (fun W hm => ⟨ret_b (show impl_IsVisible_m x0 x1 = true from by unfold impl_IsVisible_m; exact cond_t g10 (cond_t g12 (rfl))), hm.below⟩)
    · have g12 : (x0.Died == (-1)) = false := beq_eq_false_iff_ne.2 h11
      refine wg (fun W hm => rv_field Try.underlying102 rfl Try.type3 (by decide) rfl rfl) g12 ?_
      refine wg (fun W hm => rv_load Try.underlying3 rfl rfl (hm.boxCell (n := 0) (o := 3) rfl rfl)) g12 ?_
      refine wg (fun W hm => rv_move rfl) g12 ?_
      refine wg (fun W hm => rv_gtr rfl rfl) g12 ?_
      refine wg (fun W hm => rv_pickF rfl g12 rfl) g10 ?_
      refine wv (fun W hm => rv_pickT rfl g10 rfl) ?_
      refine wa ?_
      refine nt' ?_
      refine CM_ret ?_
      exact QM_ret1 rfl rfl (fun W hm => ⟨ret_b (show impl_IsVisible_m x0 x1 = (decide (x1 < x0.Died)) from by unfold impl_IsVisible_m; exact cond_t g10 (cond_f g12 (rfl))), hm.below⟩)
  · have g10 : (decide (x0.Born ≤ x1)) = false := decide_eq_false h9
    refine ws g10 ?_
    refine ws g10 ?_
    refine ws g10 ?_
    refine ws g10 ?_
    refine wu ?_
    refine wu ?_
    refine wu ?_
    refine wu ?_
    refine ws g10 ?_
    refine wv (fun W hm => rv_pickF rfl g10 rfl) ?_
    refine wa ?_
    refine nt' ?_
    refine CM_ret ?_
    exact QM_ret1 rfl rfl (fun W hm => ⟨ret_b (show impl_IsVisible_m x0 x1 = false from by unfold impl_IsVisible_m; exact cond_f g10 (rfl)), hm.below⟩)

def impl_meetInTime_m (x0 : DVersion) (x1 : DVersion) : Bool :=
  cond (impl_IsVisible_m x0 x1.Born) true (impl_IsVisible_m x1 x0.Born)
set_option maxRecDepth 100000 in
theorem cb116 : Cb Try.prog 116 := ⟨Try.f116, _, Try.func116, rfl, by decide⟩
set_option maxRecDepth 10000 in
set_option maxHeartbeats 4000000 in
theorem impl_meetInTime_c (w : World) (z0 : List Value) (x0 : DVersion) (z1 : List Value) (x1 : DVersion) (r_0 : tyVersion.rd w w.heap.size z0 x0) (r_1 : tyVersion.rd w w.heap.size z1 x1) :
    Calls Try.prog 116 #[.agg z0.toArray, .agg z1.toArray] w fun e w' => e = .returned (.bool (impl_meetInTime_m x0 x1)) ∧ Below w.heap.size w w' := by
  obtain ⟨v1, rfl, r2⟩ := tyVersion_rd r_0
  have r7 := r2
  obtain ⟨m3, A4, c5, rfl, q6⟩ := r2
  obtain ⟨v8, rfl, r9⟩ := tyVersion_rd r_1
  have r14 := r9
  obtain ⟨m10, A11, c12, rfl, q13⟩ := r9
  refine call_enterM (L := [(0, .agg #[.int .i64 x0.Id, .slice A4 x0.Values.length c5, .int .i64 x0.Born, .int .i64 x0.Died]), (1, .agg #[.int .i64 x1.Id, .slice A11 x1.Values.length c12, .int .i64 x1.Born, .int .i64 x1.Died])]) (N := 15) Try.func116 rfl rfl (Nat.le_of_ble_eq_true rfl) (argsL_cons rfl (argsL_cons rfl argsL_nil)) ?_
  refine sr ?_
  refine WM_box rfl (Wd_none rfl) (by decide) (fun p15 => ?_)
  refine WM_box rfl (Wd_none rfl) (by decide) (fun p16 => ?_)
  refine wa ?_
  refine nt' ?_
  refine sr ?_
  refine wv (fun W hm => rv_loadN (cs := [.int .i64 x0.Id, .slice A4 x0.Values.length c5, .int .i64 x0.Born, .int .i64 x0.Died]) Try.underlying102 Try.type102 rfl rfl (hm.boxCells (n := 1) rfl)) ?_
  refine wv (fun W hm => rv_field Try.underlying102 rfl Try.type3 (by decide) rfl rfl) ?_
  refine wv (fun W hm => rv_load Try.underlying3 rfl rfl (hm.boxCell (n := 0) (o := 2) rfl rfl)) ?_
  refine WM_callV (cl_fn cb117 rfl) (fun W hm => impl_IsVisible_c W _ x0 x1.Born (tyVersion_mk (x := x0) (hm.rdS0 r7))) (Wd_none rfl) (by decide) ?_
  refine wm ?_
  rcases Bool.eq_false_or_eq_true (impl_IsVisible_m x0 x1.Born) with g18 | g18
  ·
    refine ws g18 ?_
    refine ws g18 ?_
    refine ws g18 ?_
    refine ws g18 ?_
    refine wv (fun W hm => rv_pickT rfl g18 rfl) ?_
    refine wa ?_
    refine nt' ?_
    refine CM_ret ?_
    exact QM_ret1 rfl rfl (fun W hm => ⟨ret_b (show impl_meetInTime_m x0 x1 = true from by unfold impl_meetInTime_m; exact cond_t g18 (rfl)), hm.below⟩)
  ·
    refine wg (fun W hm => rv_loadN (cs := [.int .i64 x1.Id, .slice A11 x1.Values.length c12, .int .i64 x1.Born, .int .i64 x1.Died]) Try.underlying102 Try.type102 rfl rfl (hm.boxCells (n := 0) rfl)) g18 ?_
    refine wg (fun W hm => rv_field Try.underlying102 rfl Try.type3 (by decide) rfl rfl) g18 ?_
    refine wg (fun W hm => rv_load Try.underlying3 rfl rfl (hm.boxCell (n := 1) (o := 2) rfl rfl)) g18 ?_
    refine WM_callV (cl_fn cb117 rfl) (fun W hm => impl_IsVisible_c W _ x1 x0.Born (tyVersion_mk (x := x1) (hm.rdS0 r14))) (Wd_some rfl rfl rfl (bw g18 rfl)) (by decide) ?_
    refine wv (fun W hm => rv_pickF rfl g18 rfl) ?_
    refine wa ?_
    refine nt' ?_
    refine CM_ret ?_
    exact QM_ret1 rfl rfl (fun W hm => ⟨ret_b (show impl_meetInTime_m x0 x1 = (impl_IsVisible_m x1 x0.Born) from by unfold impl_meetInTime_m; exact cond_f g18 (rfl)), hm.below⟩)

def impl_IsStore_b3 (x0 : DStore) (k16 : Nat) (k41 : Nat) (d42 : (List DVersion)) (k77 : Nat) : Bool ⊕ (Unit) :=
  cond (((gt (gt x0.Segments k16) k41).Id) == ((gt d42 k77).Id)) (cond (impl_meetInTime_m (gt (gt x0.Segments k16) k41) (gt d42 k77)) (Sum.inl false) (Sum.inr ())) (Sum.inr ())
def impl_IsStore_b4 (x0 : DStore) (k16 : Nat) (k41 : Nat) (d42 : (List DVersion)) (k112 : Nat) : Bool ⊕ (Unit) :=
  cond (((gt (gt x0.Segments k16) k41).Id) == ((gt d42 k112).Id)) (cond (impl_meetInTime_m (gt (gt x0.Segments k16) k41) (gt d42 k112)) (Sum.inl false) (Sum.inr ())) (Sum.inr ())
def impl_IsStore_b2 (x0 : DStore) (k16 : Nat) (k41 : Nat) (d42 : (List DVersion)) : Bool ⊕ ((List DVersion)) :=
  cond (impl_IsRow_m (impl_rowOf_m (gt (gt x0.Segments k16) k41))) (cond (impl_within_m ((gt (gt x0.Segments k16) k41).Born) 0 x0.Now) (cond (((gt (gt x0.Segments k16) k41).Died) != (-1)) (cond (impl_within_m ((gt (gt x0.Segments k16) k41).Died) (IntKind.i64.wrap (((gt (gt x0.Segments k16) k41).Born) + 1)) x0.Now) (Sum.elim Sum.inl (fun (s : Unit) => Sum.inr (d42 ++ [(gt (gt x0.Segments k16) k41)])) (rng (R := Bool) (fun k (_ : Unit) => impl_IsStore_b4 x0 k16 k41 d42 k) (d42.length - 0) 0 ())) (Sum.inl false)) (Sum.elim Sum.inl (fun (s : Unit) => Sum.inr (d42 ++ [(gt (gt x0.Segments k16) k41)])) (rng (R := Bool) (fun k (_ : Unit) => impl_IsStore_b3 x0 k16 k41 d42 k) (d42.length - 0) 0 ()))) (Sum.inl false)) (Sum.inl false)
def impl_IsStore_b1 (x0 : DStore) (k16 : Nat) (d17 : (List DVersion)) : Bool ⊕ ((List DVersion)) :=
  cond (decide (4 < ((((gt x0.Segments k16)).length : Nat) : Int))) (Sum.inl false) (Sum.elim Sum.inl (fun (s : (List DVersion)) => Sum.inr s) (rng (R := Bool) (fun k (s : (List DVersion)) => impl_IsStore_b2 x0 k16 k s) (((gt x0.Segments k16)).length - 0) 0 d17))
def impl_IsStore_m (x0 : DStore) : Bool :=
  cond (impl_within_m ((x0.Segments.length : Nat) : Int) 1 8) (cond (impl_within_m x0.Now 0 100000) (Sum.elim id (fun (s : (List DVersion)) => true) (rng (R := Bool) (fun k (s : (List DVersion)) => impl_IsStore_b1 x0 k s) (x0.Segments.length - 0) 0 [])) false) false
set_option maxRecDepth 100000 in
theorem cb73 : Cb Try.prog 73 := ⟨Try.f73, _, Try.func73, rfl, by decide⟩
set_option maxRecDepth 10000 in
set_option maxHeartbeats 4000000 in
theorem impl_IsStore_c (w : World) (z0 : List Value) (x0 : DStore) (r_0 : tyStore.rd w w.heap.size z0 x0) (s_0 : smStore 68719476736 x0) :
    Calls Try.prog 73 #[.agg z0.toArray] w fun e w' => e = .returned (.bool (impl_IsStore_m x0)) ∧ Below w.heap.size w w' := by
  obtain ⟨v1, rfl, r2⟩ := tyStore_rd r_0
  have r7 := r2
  obtain ⟨m3, A4, c5, rfl, q6⟩ := r2
  have l8 : x0.Segments.length ≤ 68719476736 := s_0.1
  refine call_enterM (L := [(0, .agg #[.slice A4 x0.Segments.length c5, .int .i64 x0.Now])]) (N := 89) Try.func73 rfl rfl (Nat.le_of_ble_eq_true rfl) (argsL_cons rfl argsL_nil) ?_
  refine sr ?_
  refine WM_box rfl (Wd_none rfl) (by decide) (fun p9 => ?_)
  refine wa ?_
  refine nt' ?_
  refine CM_seq ?_
  refine sr ?_
  refine wv (fun W hm => rv_field Try.underlying45 rfl Try.type43 (by decide) rfl rfl) ?_
  refine wv (fun W hm => rv_load Try.underlying43 rfl rfl (hm.boxCell (n := 0) (o := 0) rfl rfl)) ?_
  refine wv (fun W hm => rv_len Try.underlying43 rfl) ?_
  refine WM_callV (cl_fn cb114 rfl) (fun W hm => impl_within_c W ((x0.Segments.length : Nat) : Int) 1 8) (Wd_none rfl) (by decide) ?_
  refine wv (fun W hm => rv_not rfl) ?_
  refine wm ?_
  rcases Bool.eq_false_or_eq_true (impl_within_m ((x0.Segments.length : Nat) : Int) 1 8) with g11 | g11
  ·
    have hw := impl_within_fact g11
    refine wg (fun W hm => rv_field Try.underlying45 rfl Try.type3 (by decide) rfl rfl) (nt g11) ?_
    refine wg (fun W hm => rv_load Try.underlying3 rfl rfl (hm.boxCell (n := 0) (o := 1) rfl rfl)) (nt g11) ?_
    refine WM_callV (cl_fn cb114 rfl) (fun W hm => impl_within_c W x0.Now 0 100000) (Wd_some rfl rfl rfl (bw (nt g11) rfl)) (by decide) ?_
    refine wg (fun W hm => rv_not rfl) (nt g11) ?_
    refine wv (fun W hm => rv_pickF rfl (nt g11) rfl) ?_
    refine nt' ?_
    rcases Bool.eq_false_or_eq_true (impl_within_m x0.Now 0 100000) with g13 | g13
    ·
      have hw := impl_within_fact g13
      refine CM_condF rfl (nt g13) ?_
      refine CM_skip ?_
      refine QM_then ?_
      refine sr ?_
      refine WM_build0 (E := (tBor tyVersion w w.heap.size)) Try.underlying100 Try.type102 (Wd_none rfl) (by decide) (fun p14 => ?_)
      refine wa ?_
      refine nt' ?_
      refine CM_seq ?_
      refine sr ?_
      refine wv (fun W hm => rv_field Try.underlying45 rfl Try.type43 (by decide) rfl rfl) ?_
      refine wv (fun W hm => rv_load Try.underlying43 rfl rfl (hm.boxCell (n := 1) (o := 0) rfl rfl)) ?_
      refine wv (fun W hm => rv_len Try.underlying43 rfl) ?_
      refine wm ?_
      refine nt' ?_
      refine CM_block ?_
      refine CM_loop (σ := Nat × ((List DVersion)) × (Option Addr × Nat)) (fun s => [(1, .pointer (some (⟨p9, 0, none⟩ : Addr))), (3, .slice s.2.2.1 s.2.1.length s.2.2.2), (23, .slice A4 x0.Segments.length c5), (24, .int .i64 ((x0.Segments.length : Nat) : Int)), (25, .int .i64 ((s.1 : Nat) : Int))]) (fun s => [iOwn (tSl (tBor tyVersion w w.heap.size) 102) [.slice s.2.2.1 s.2.1.length s.2.2.2] s.2.1, iBox p9 45 [.slice A4 x0.Segments.length c5, .int .i64 x0.Now]]) (fun s => s.1 ≤ x0.Segments.length ∧ rng (R := Bool) (fun k (s : (List DVersion)) => impl_IsStore_b1 x0 k s) (x0.Segments.length - s.1) s.1 s.2.1 = rng (R := Bool) (fun k (s : (List DVersion)) => impl_IsStore_b1 x0 k s) (x0.Segments.length - 0) 0 [] ∧ s.2.1.length ≤ 0 + 4 * s.1) (fun s => x0.Segments.length - s.1) (0, [], ((some ⟨p14, 0, none⟩), 0)) (subL_cons rfl (subL_cons rfl (subL_cons rfl (subL_cons rfl (subL_cons rfl subL_nil))))) (fun W hm => hm) ⟨(by omega), rfl, Nat.le_refl _⟩ ?_
      rintro ⟨k16, d17, ⟨A18, c19⟩⟩ H22
      obtain ⟨hk20, hF21, hi23⟩ : k16 ≤ x0.Segments.length ∧ rng (R := Bool) (fun k (s : (List DVersion)) => impl_IsStore_b1 x0 k s) (x0.Segments.length - k16) k16 d17 = rng (R := Bool) (fun k (s : (List DVersion)) => impl_IsStore_b1 x0 k s) (x0.Segments.length - 0) 0 [] ∧ d17.length ≤ 0 + 4 * k16 := H22
      show CM Try.prog 89 _ _ _ _ [(1, .pointer (some (⟨p9, 0, none⟩ : Addr))), (3, .slice A18 d17.length c19), (23, .slice A4 x0.Segments.length c5), (24, .int .i64 ((x0.Segments.length : Nat) : Int)), (25, .int .i64 ((k16 : Nat) : Int))] [iOwn (tSl (tBor tyVersion w w.heap.size) 102) [.slice A18 d17.length c19] d17, iBox p9 45 [.slice A4 x0.Segments.length c5, .int .i64 x0.Now]]
      refine sr ?_
      refine wv (fun W hm => rv_lss rfl rfl) ?_
      refine nt' ?_
      refine CM_seq ?_
      by_cases hl24 : k16 < x0.Segments.length
      · have g25 : (decide (((k16 : Nat) : Int) < ((x0.Segments.length : Nat) : Int))) = true := decide_eq_true (by omega)
        refine CM_condT rfl g25 ?_
        refine CM_skip ?_
        refine QM_then ?_
        refine CM_seq ?_
        refine CM_block ?_
        refine sr ?_
        obtain ⟨a26, rfl, hb27, he28⟩ := q6 (by omega)
        refine wv (fun W hm => rv_index (sz := 1) (k := k16) Try.underlying43 Try.type100 rfl rfl rfl (by omega)) ?_
        obtain ⟨_, e30, hc29⟩ := he28 k16 _ (gt_some (show k16 < x0.Segments.length from by omega))
        have l31 : (gt x0.Segments k16).length ≤ 68719476736 := (s_0.2 _ (gt_mem (show k16 < x0.Segments.length from by omega))).1
        obtain ⟨v32, rfl, r33⟩ := e30
        have r38 := r33
        obtain ⟨m34, A35, c36, rfl, q37⟩ := r33
        refine wv (fun W hm => rv_load Try.underlying100 rfl rfl ((hm.cell0 (show (a26.add (k16 * 1)).block < w.heap.size from by rw [add_block]; exact hb27.1)).trans (hc29 0 _ rfl))) ?_
        refine wa ?_
        refine nt' ?_
        refine CM_seq ?_
        refine sr ?_
        refine wm ?_
        refine wv (fun W hm => rv_len Try.underlying100 rfl) ?_
        refine wv (fun W hm => rv_gtr rfl rfl) ?_
        refine nt' ?_
        by_cases h39 : 4 < ((((gt x0.Segments k16)).length : Nat) : Int)
        · have g40 : (decide (4 < ((((gt x0.Segments k16)).length : Nat) : Int))) = true := decide_eq_true h39
          refine CM_condT rfl g40 ?_
          refine sr ?_
          refine wa ?_
          refine nt' ?_
          refine CM_ret ?_
          refine QM_then_ret ?_
          refine QM_block_ret ?_
          refine QM_then_ret ?_
          refine QM_then_ret ?_
          refine QM_block_ret ?_
          refine QM_then_ret ?_
          exact QM_ret1 rfl rfl (fun W hm => ⟨ret_b (show impl_IsStore_m x0 = false from by unfold impl_IsStore_m; exact cond_t g11 (cond_t g13 (fin_inl (rng_ret (body := (fun k (s : (List DVersion)) => impl_IsStore_b1 x0 k s)) (k := k16) (s := d17) (show k16 < x0.Segments.length from by omega) (show impl_IsStore_b1 x0 k16 d17 = Sum.inl false from by unfold impl_IsStore_b1; exact cond_t g40 (rfl)) hF21) rfl))), hm.below⟩)
        · have g40 : (decide (4 < ((((gt x0.Segments k16)).length : Nat) : Int))) = false := decide_eq_false h39
          refine CM_condF rfl g40 ?_
          refine CM_skip ?_
          refine QM_then ?_
          refine sr ?_
          refine wm ?_
          refine wv (fun W hm => rv_len Try.underlying100 rfl) ?_
          refine wm ?_
          refine nt' ?_
          refine CM_block ?_
          refine CM_loop (σ := Nat × ((List DVersion)) × (Option Addr × Nat)) (fun s => [(1, .pointer (some (⟨p9, 0, none⟩ : Addr))), (3, .slice s.2.2.1 s.2.1.length s.2.2.2), (23, .slice (some a26) x0.Segments.length c5), (24, .int .i64 ((x0.Segments.length : Nat) : Int)), (25, .int .i64 ((k16 : Nat) : Int)), (32, .slice A35 ((gt x0.Segments k16)).length c36), (33, .int .i64 ((((gt x0.Segments k16)).length : Nat) : Int)), (34, .int .i64 ((s.1 : Nat) : Int))]) (fun s => [iOwn (tSl (tBor tyVersion w w.heap.size) 102) [.slice s.2.2.1 s.2.1.length s.2.2.2] s.2.1, iBox p9 45 [.slice (some a26) x0.Segments.length c5, .int .i64 x0.Now]]) (fun s => s.1 ≤ ((gt x0.Segments k16)).length ∧ rng (R := Bool) (fun k (s : (List DVersion)) => impl_IsStore_b2 x0 k16 k s) (((gt x0.Segments k16)).length - s.1) s.1 s.2.1 = rng (R := Bool) (fun k (s : (List DVersion)) => impl_IsStore_b2 x0 k16 k s) (((gt x0.Segments k16)).length - 0) 0 d17 ∧ s.2.1.length ≤ d17.length + s.1) (fun s => ((gt x0.Segments k16)).length - s.1) (0, d17, (A18, c19)) (subL_cons rfl (subL_cons rfl (subL_cons rfl (subL_cons rfl (subL_cons rfl (subL_cons rfl (subL_cons rfl (subL_cons rfl subL_nil)))))))) (fun W hm => hm) ⟨(by omega), rfl, Nat.le_refl _⟩ ?_
          rintro ⟨k41, d42, ⟨A43, c44⟩⟩ H47
          obtain ⟨hk45, hF46, hi48⟩ : k41 ≤ ((gt x0.Segments k16)).length ∧ rng (R := Bool) (fun k (s : (List DVersion)) => impl_IsStore_b2 x0 k16 k s) (((gt x0.Segments k16)).length - k41) k41 d42 = rng (R := Bool) (fun k (s : (List DVersion)) => impl_IsStore_b2 x0 k16 k s) (((gt x0.Segments k16)).length - 0) 0 d17 ∧ d42.length ≤ d17.length + k41 := H47
          show CM Try.prog 89 _ _ _ _ [(1, .pointer (some (⟨p9, 0, none⟩ : Addr))), (3, .slice A43 d42.length c44), (23, .slice (some a26) x0.Segments.length c5), (24, .int .i64 ((x0.Segments.length : Nat) : Int)), (25, .int .i64 ((k16 : Nat) : Int)), (32, .slice A35 ((gt x0.Segments k16)).length c36), (33, .int .i64 ((((gt x0.Segments k16)).length : Nat) : Int)), (34, .int .i64 ((k41 : Nat) : Int))] [iOwn (tSl (tBor tyVersion w w.heap.size) 102) [.slice A43 d42.length c44] d42, iBox p9 45 [.slice (some a26) x0.Segments.length c5, .int .i64 x0.Now]]
          refine sr ?_
          refine wv (fun W hm => rv_lss rfl rfl) ?_
          refine nt' ?_
          refine CM_seq ?_
          by_cases hl49 : k41 < ((gt x0.Segments k16)).length
          · have g50 : (decide (((k41 : Nat) : Int) < ((((gt x0.Segments k16)).length : Nat) : Int))) = true := decide_eq_true (by omega)
            refine CM_condT rfl g50 ?_
            refine CM_skip ?_
            refine QM_then ?_
            refine CM_seq ?_
            refine CM_block ?_
            refine sr ?_
            obtain ⟨a51, rfl, hb52, he53⟩ := q37 (by omega)
            refine wv (fun W hm => rv_index (sz := 4) (k := k41) Try.underlying100 Try.type102 rfl rfl rfl (by omega)) ?_
            obtain ⟨_, e57, hc54⟩ := he53 k41 _ (gt_some (show k41 < ((gt x0.Segments k16)).length from by omega))
            obtain ⟨v55, rfl, r56⟩ := tyVersion_rd e57
            have l58 : ((gt (gt x0.Segments k16) k41).Values).length ≤ 68719476736 := ((s_0.2 _ (gt_mem (show k16 < x0.Segments.length from by omega))).2 _ (gt_mem (show k41 < ((gt x0.Segments k16)).length from by omega)))
            have r63 := r56
            obtain ⟨m59, A60, c61, rfl, q62⟩ := r56
            refine wv (fun W hm => rv_loadN (cs := [.int .i64 ((gt (gt x0.Segments k16) k41).Id), .slice A60 ((gt (gt x0.Segments k16) k41).Values).length c61, .int .i64 ((gt (gt x0.Segments k16) k41).Born), .int .i64 ((gt (gt x0.Segments k16) k41).Died)]) Try.underlying102 Try.type102 rfl rfl (hm.elCells (show (a51.add (k41 * 4)).block < w.heap.size from by rw [add_block]; exact hb52.1) hc54)) ?_
            refine WM_alloc Try.type102 rfl (Wd_none rfl) (by decide) (fun p64 => ?_)
            refine WM_storeBox (p := p64) (o := 0) (cs := [.int .i64 0, .slice none 0 0, .int .i64 0, .int .i64 0]) (cs' := [.int .i64 ((gt (gt x0.Segments k16) k41).Id), .slice A60 ((gt (gt x0.Segments k16) k41).Values).length c61, .int .i64 ((gt (gt x0.Segments k16) k41).Born), .int .i64 ((gt (gt x0.Segments k16) k41).Died)]) (js := [iOwn (tSl (tBor tyVersion w w.heap.size) 102) [.slice A43 d42.length c44] d42, iBox p9 45 [.slice (some a26) x0.Segments.length c5, .int .i64 x0.Now]]) (fun W hm => hm) Try.type102 rfl (Nat.le_of_ble_eq_true rfl) rfl rfl rfl rfl (Wd_none rfl) ?_
            refine nt' ?_
            refine CM_seq ?_
            refine sr ?_
            refine wv (fun W hm => rv_loadN (cs := [.int .i64 ((gt (gt x0.Segments k16) k41).Id), .slice A60 ((gt (gt x0.Segments k16) k41).Values).length c61, .int .i64 ((gt (gt x0.Segments k16) k41).Born), .int .i64 ((gt (gt x0.Segments k16) k41).Died)]) Try.underlying102 Try.type102 rfl rfl (hm.boxCells (n := 0) rfl)) ?_
            refine WM_call (χ := List Value) (val := fun x => .agg x.toArray) (js := fun x => [iOwn tyRow x (impl_rowOf_m (gt (gt x0.Segments k16) k41))]) (cl_fn cb115 rfl) (fun W hm => impl_rowOf_c W _ (gt (gt x0.Segments k16) k41) (tyVersion_mk (x := (gt (gt x0.Segments k16) k41)) (hm.rdS0 r63)) ((s_0.2 _ (gt_mem (show k16 < x0.Segments.length from by omega))).2 _ (gt_mem (show k41 < ((gt x0.Segments k16)).length from by omega)))) (Wd_none rfl) (by decide) (fun z65 => ?_)
            refine WM_split (γ := Value) (js := fun g => [iOwn (tSl tInt 3) [g] ((impl_rowOf_m (gt (gt x0.Segments k16) k41)).Values)]) (C := fun g => z65 = [.int .i64 ((impl_rowOf_m (gt (gt x0.Segments k16) k41)).Id), g]) (fun _ _ h => tyRow_split h) ?_
            rintro v66 rfl
            refine WM_form (n := 0) rfl ?_
            rintro A67 c68 rfl m69
            refine WM_callV (cl_fn cb87 rfl) (fun W hm => impl_IsRow_c W _ (impl_rowOf_m (gt (gt x0.Segments k16) k41)) (tyRow_mk (x := (impl_rowOf_m (gt (gt x0.Segments k16) k41))) (hm.rdSI (n := 0) rfl))) (Wd_none rfl) (by decide) ?_
            refine wv (fun W hm => rv_not rfl) ?_
            refine wm ?_
            rcases Bool.eq_false_or_eq_true (impl_IsRow_m (impl_rowOf_m (gt (gt x0.Segments k16) k41))) with g72 | g72
            ·
              refine wg (fun W hm => rv_field Try.underlying102 rfl Try.type3 (by decide) rfl rfl) (nt g72) ?_
              refine wg (fun W hm => rv_load Try.underlying3 rfl rfl (hm.boxCell (n := 1) (o := 2) rfl rfl)) (nt g72) ?_
              refine wg (fun W hm => rv_field Try.underlying45 rfl Try.type3 (by decide) rfl rfl) (nt g72) ?_
              refine wg (fun W hm => rv_load Try.underlying3 rfl rfl (hm.boxCell (n := 3) (o := 1) rfl rfl)) (nt g72) ?_
              refine WM_callV (cl_fn cb114 rfl) (fun W hm => impl_within_c W ((gt (gt x0.Segments k16) k41).Born) 0 x0.Now) (Wd_some rfl rfl rfl (bw (nt g72) rfl)) (by decide) ?_
              refine wg (fun W hm => rv_not rfl) (nt g72) ?_
              refine wv (fun W hm => rv_pickF rfl (nt g72) rfl) ?_
              refine wm ?_
              rcases Bool.eq_false_or_eq_true (impl_within_m ((gt (gt x0.Segments k16) k41).Born) 0 x0.Now) with g74 | g74
              ·
                have hw := impl_within_fact g74
                refine wg (fun W hm => rv_field Try.underlying102 rfl Try.type3 (by decide) rfl rfl) (nt g74) ?_
                refine wg (fun W hm => rv_load Try.underlying3 rfl rfl (hm.boxCell (n := 1) (o := 3) rfl rfl)) (nt g74) ?_
                refine wg (fun W hm => rv_neq rfl rfl) (nt g74) ?_
                refine wg (fun W hm => rv_move rfl) (nt g74) ?_
                by_cases h75 : ((gt (gt x0.Segments k16) k41).Died) = (-1)
                · have g76 : (((gt (gt x0.Segments k16) k41).Died) != (-1)) = false := by rw [h75]; exact bne_self_eq_false _
                  refine ws g76 ?_
                  refine ws g76 ?_
                  refine ws g76 ?_
                  refine ws g76 ?_
                  refine ws g76 ?_
                  refine ws g76 ?_
                  refine ws g76 ?_
                  refine ws g76 ?_
                  refine ws g76 ?_
                  refine wg (fun W hm => rv_pickF rfl g76 rfl) (nt g74) ?_
                  refine wv (fun W hm => rv_pickF rfl (nt g74) rfl) ?_
                  refine nt' ?_
                  refine CM_condF rfl rfl ?_
                  refine CM_skip ?_
                  refine QM_then ?_
                  refine CM_seq ?_
                  refine sr ?_
                  refine wm ?_
                  refine wv (fun W hm => rv_len Try.underlying100 rfl) ?_
                  refine wm ?_
                  refine nt' ?_
                  refine CM_block ?_
                  refine CM_loop (σ := Nat × (Unit) × (Unit)) (fun s => [(1, .pointer (some (⟨p9, 0, none⟩ : Addr))), (3, .slice A43 d42.length c44), (7, .pointer (some (⟨p64, 0, none⟩ : Addr))), (23, .slice (some a26) x0.Segments.length c5), (24, .int .i64 ((x0.Segments.length : Nat) : Int)), (25, .int .i64 ((k16 : Nat) : Int)), (32, .slice (some a51) ((gt x0.Segments k16)).length c36), (33, .int .i64 ((((gt x0.Segments k16)).length : Nat) : Int)), (34, .int .i64 ((k41 : Nat) : Int)), (66, .slice A43 d42.length c44), (67, .int .i64 ((d42.length : Nat) : Int)), (68, .int .i64 ((s.1 : Nat) : Int))]) (fun s => [iOwn (tSl tInt 3) [.slice A67 ((impl_rowOf_m (gt (gt x0.Segments k16) k41)).Values).length c68] ((impl_rowOf_m (gt (gt x0.Segments k16) k41)).Values), iBox p64 102 [.int .i64 ((gt (gt x0.Segments k16) k41).Id), .slice A60 ((gt (gt x0.Segments k16) k41).Values).length c61, .int .i64 ((gt (gt x0.Segments k16) k41).Born), .int .i64 ((gt (gt x0.Segments k16) k41).Died)], iOwn (tSl (tBor tyVersion w w.heap.size) 102) [.slice A43 d42.length c44] d42, iBox p9 45 [.slice (some a26) x0.Segments.length c5, .int .i64 x0.Now]]) (fun s => s.1 ≤ d42.length ∧ rng (R := Bool) (fun k (_ : Unit) => impl_IsStore_b3 x0 k16 k41 d42 k) (d42.length - s.1) s.1 s.2.1 = rng (R := Bool) (fun k (_ : Unit) => impl_IsStore_b3 x0 k16 k41 d42 k) (d42.length - 0) 0 ()) (fun s => d42.length - s.1) (0, (), ()) (subL_cons rfl (subL_cons rfl (subL_cons rfl (subL_cons rfl (subL_cons rfl (subL_cons rfl (subL_cons rfl (subL_cons rfl (subL_cons rfl (subL_cons rfl (subL_cons rfl (subL_cons rfl subL_nil)))))))))))) (fun W hm => hm) ⟨(by omega), rfl⟩ ?_
                  rintro ⟨k77, ⟨⟩, ⟨⟩⟩ H80
                  obtain ⟨hk78, hF79⟩ : k77 ≤ d42.length ∧ rng (R := Bool) (fun k (_ : Unit) => impl_IsStore_b3 x0 k16 k41 d42 k) (d42.length - k77) k77 () = rng (R := Bool) (fun k (_ : Unit) => impl_IsStore_b3 x0 k16 k41 d42 k) (d42.length - 0) 0 () := H80
                  show CM Try.prog 89 _ _ _ _ [(1, .pointer (some (⟨p9, 0, none⟩ : Addr))), (3, .slice A43 d42.length c44), (7, .pointer (some (⟨p64, 0, none⟩ : Addr))), (23, .slice (some a26) x0.Segments.length c5), (24, .int .i64 ((x0.Segments.length : Nat) : Int)), (25, .int .i64 ((k16 : Nat) : Int)), (32, .slice (some a51) ((gt x0.Segments k16)).length c36), (33, .int .i64 ((((gt x0.Segments k16)).length : Nat) : Int)), (34, .int .i64 ((k41 : Nat) : Int)), (66, .slice A43 d42.length c44), (67, .int .i64 ((d42.length : Nat) : Int)), (68, .int .i64 ((k77 : Nat) : Int))] [iOwn (tSl tInt 3) [.slice A67 ((impl_rowOf_m (gt (gt x0.Segments k16) k41)).Values).length c68] ((impl_rowOf_m (gt (gt x0.Segments k16) k41)).Values), iBox p64 102 [.int .i64 ((gt (gt x0.Segments k16) k41).Id), .slice A60 ((gt (gt x0.Segments k16) k41).Values).length c61, .int .i64 ((gt (gt x0.Segments k16) k41).Born), .int .i64 ((gt (gt x0.Segments k16) k41).Died)], iOwn (tSl (tBor tyVersion w w.heap.size) 102) [.slice A43 d42.length c44] d42, iBox p9 45 [.slice (some a26) x0.Segments.length c5, .int .i64 x0.Now]]
                  refine sr ?_
                  refine wv (fun W hm => rv_lss rfl rfl) ?_
                  refine nt' ?_
                  refine CM_seq ?_
                  by_cases hl81 : k77 < d42.length
                  · have g82 : (decide (((k77 : Nat) : Int) < ((d42.length : Nat) : Int))) = true := decide_eq_true (by omega)
                    refine CM_condT rfl g82 ?_
                    refine CM_skip ?_
                    refine QM_then ?_
                    refine CM_seq ?_
                    refine CM_block ?_
                    refine sr ?_
                    refine WM_formO (n := 2) rfl (by omega) ?_
                    rintro g83 rfl
                    refine wv (fun W hm => rv_index (sz := 4) (k := k77) Try.underlying100 Try.type102 rfl rfl rfl (by omega)) ?_
                    refine WM_expose (T := tyVersion) (wb := w) (Bb := w.heap.size) (e := 102) (g := g83) (n := d42.length) (c := c44) (xs := d42) (js := [iOwn (tSl tInt 3) [.slice A67 ((impl_rowOf_m (gt (gt x0.Segments k16) k41)).Values).length c68] ((impl_rowOf_m (gt (gt x0.Segments k16) k41)).Values), iBox p64 102 [.int .i64 ((gt (gt x0.Segments k16) k41).Id), .slice A60 ((gt (gt x0.Segments k16) k41).Values).length c61, .int .i64 ((gt (gt x0.Segments k16) k41).Born), .int .i64 ((gt (gt x0.Segments k16) k41).Died)], iBox p9 45 [.slice (some a26) x0.Segments.length c5, .int .i64 x0.Now]]) (fun W hm => (hm.pick [2, 0, 1, 3] (by decide))) ?_
                    rintro ck84 rk85
                    obtain ⟨_, e86, hc87⟩ := rk85.get (j := k77) (by omega)
                    obtain ⟨v88, rfl, r89⟩ := tyVersion_rd e86
                    have r94 := r89
                    obtain ⟨m90, A91, c92, rfl, q93⟩ := r89
                    refine wv (fun W hm => rv_loadN (cs := [.int .i64 ((gt d42 k77).Id), .slice A91 ((gt d42 k77).Values).length c92, .int .i64 ((gt d42 k77).Born), .int .i64 ((gt d42 k77).Died)]) Try.underlying102 Try.type102 rfl rfl (hm.rowCells (i := 0) rfl hc87)) ?_
                    refine WM_alloc Try.type102 rfl (Wd_none rfl) (by decide) (fun p95 => ?_)
                    refine WM_storeBox (p := p95) (o := 0) (cs := [.int .i64 0, .slice none 0 0, .int .i64 0, .int .i64 0]) (cs' := [.int .i64 ((gt d42 k77).Id), .slice A91 ((gt d42 k77).Values).length c92, .int .i64 ((gt d42 k77).Born), .int .i64 ((gt d42 k77).Died)]) (js := [iBox g83 102 ck84, iOwn (tSl tInt 3) [.slice A67 ((impl_rowOf_m (gt (gt x0.Segments k16) k41)).Values).length c68] ((impl_rowOf_m (gt (gt x0.Segments k16) k41)).Values), iBox p64 102 [.int .i64 ((gt (gt x0.Segments k16) k41).Id), .slice A60 ((gt (gt x0.Segments k16) k41).Values).length c61, .int .i64 ((gt (gt x0.Segments k16) k41).Born), .int .i64 ((gt (gt x0.Segments k16) k41).Died)], iBox p9 45 [.slice (some a26) x0.Segments.length c5, .int .i64 x0.Now]]) (fun W hm => hm) Try.type102 rfl (Nat.le_of_ble_eq_true rfl) rfl rfl rfl rfl (Wd_none rfl) ?_
                    refine nt' ?_
                    refine sr ?_
                    refine wv (fun W hm => rv_field Try.underlying102 rfl Try.type3 (by decide) rfl rfl) ?_
                    refine wv (fun W hm => rv_load Try.underlying3 rfl rfl (hm.boxCell (n := 3) (o := 0) rfl rfl)) ?_
                    refine wv (fun W hm => rv_field Try.underlying102 rfl Try.type3 (by decide) rfl rfl) ?_
                    refine wv (fun W hm => rv_load Try.underlying3 rfl rfl (hm.boxCell (n := 0) (o := 0) rfl rfl)) ?_
                    refine wv (fun W hm => rv_eql rfl rfl) ?_
                    refine wm ?_
                    by_cases h96 : ((gt (gt x0.Segments k16) k41).Id) = ((gt d42 k77).Id)
                    · have g97 : (((gt (gt x0.Segments k16) k41).Id) == ((gt d42 k77).Id)) = true := beq_iff_eq.2 h96
                      refine wg (fun W hm => rv_loadN (cs := [.int .i64 ((gt (gt x0.Segments k16) k41).Id), .slice A60 ((gt (gt x0.Segments k16) k41).Values).length c61, .int .i64 ((gt (gt x0.Segments k16) k41).Born), .int .i64 ((gt (gt x0.Segments k16) k41).Died)]) Try.underlying102 Try.type102 rfl rfl (hm.boxCells (n := 3) rfl)) g97 ?_
                      refine wg (fun W hm => rv_loadN (cs := [.int .i64 ((gt d42 k77).Id), .slice A91 ((gt d42 k77).Values).length c92, .int .i64 ((gt d42 k77).Born), .int .i64 ((gt d42 k77).Died)]) Try.underlying102 Try.type102 rfl rfl (hm.boxCells (n := 0) rfl)) g97 ?_
                      refine WM_callV (cl_fn cb116 rfl) (fun W hm => impl_meetInTime_c W _ (gt (gt x0.Segments k16) k41) _ (gt d42 k77) (tyVersion_mk (x := (gt (gt x0.Segments k16) k41)) (hm.rdS0 r63)) (tyVersion_mk (x := (gt d42 k77)) (hm.rdS0 r94))) (Wd_some rfl rfl rfl (bw g97 rfl)) (by decide) ?_
                      refine wv (fun W hm => rv_pickT rfl g97 rfl) ?_
                      refine nt' ?_
                      rcases Bool.eq_false_or_eq_true (impl_meetInTime_m (gt (gt x0.Segments k16) k41) (gt d42 k77)) with g99 | g99
                      ·
                        refine CM_condT rfl g99 ?_
                        refine sr ?_
                        refine wa ?_
                        refine nt' ?_
                        refine CM_ret ?_
                        refine QM_block_ret ?_
                        refine QM_then_ret ?_
                        refine QM_then_ret ?_
                        refine QM_block_ret ?_
                        refine QM_then_ret ?_
                        refine QM_block_ret ?_
                        refine QM_then_ret ?_
                        refine QM_then_ret ?_
                        refine QM_block_ret ?_
                        refine QM_block_ret ?_
                        refine QM_then_ret ?_
                        refine QM_then_ret ?_
                        refine QM_block_ret ?_
                        refine QM_then_ret ?_
                        refine QM_items (fun W hm => Mem.hide rk85 (hm.pick [1, 0, 2, 3, 4] (by decide))) ?_
                        exact QM_ret1 rfl rfl (fun W hm => ⟨ret_b (show impl_IsStore_m x0 = false from by unfold impl_IsStore_m; exact cond_t g11 (cond_t g13 (fin_inl (rng_ret (body := (fun k (s : (List DVersion)) => impl_IsStore_b1 x0 k s)) (k := k16) (s := d17) (show k16 < x0.Segments.length from by omega) (show impl_IsStore_b1 x0 k16 d17 = Sum.inl false from by unfold impl_IsStore_b1; exact cond_f g40 (fin_inl (rng_ret (body := (fun k (s : (List DVersion)) => impl_IsStore_b2 x0 k16 k s)) (k := k41) (s := d42) (show k41 < ((gt x0.Segments k16)).length from by omega) (show impl_IsStore_b2 x0 k16 k41 d42 = Sum.inl false from by unfold impl_IsStore_b2; exact cond_t g72 (cond_t g74 (cond_f g76 (fin_inl (rng_ret (body := (fun k (_ : Unit) => impl_IsStore_b3 x0 k16 k41 d42 k)) (k := k77) (s := ()) (show k77 < d42.length from by omega) (show impl_IsStore_b3 x0 k16 k41 d42 k77 = Sum.inl false from by unfold impl_IsStore_b3; exact cond_t g97 (cond_t g99 (rfl))) hF79) rfl)))) hF46) rfl)) hF21) rfl))), hm.below⟩)
                      ·
                        refine CM_condF rfl g99 ?_
                        refine CM_skip ?_
                        refine QM_block_normal ?_
                        refine QM_then ?_
                        refine CM_region ?_
                        refine wv (fun W hm => rv_addN (p := k77) (q := 1) rfl rfl (by omega)) ?_
                        refine wm ?_
                        refine WM_nil ?_
                        refine QM_items (fun W hm => Mem.hide rk85 (hm.pick [1, 0, 2, 3, 4] (by decide))) ?_
                        have hn100 := rng_next (R := Bool) (body := (fun k (_ : Unit) => impl_IsStore_b3 x0 k16 k41 d42 k)) (k := k77) (s := ()) (s' := ()) (show k77 < d42.length from by omega) (show impl_IsStore_b3 x0 k16 k41 d42 k77 = Sum.inr () from by unfold impl_IsStore_b3; exact cond_t g97 (cond_f g99 (rfl))) hF79
                        exact QM_round (k77 + 1, (), ()) (subL_cons rfl (subL_cons rfl (subL_cons rfl (subL_cons rfl (subL_cons rfl (subL_cons rfl (subL_cons rfl (subL_cons rfl (subL_cons rfl (subL_cons rfl (subL_cons rfl (subL_cons rfl subL_nil)))))))))))) (fun W hm => (hm.pick [2, 3, 0, 4] (by decide))) ⟨(by omega), hn100⟩ (show d42.length - (k77 + 1) < d42.length - k77 from by omega)
                    · have g97 : (((gt (gt x0.Segments k16) k41).Id) == ((gt d42 k77).Id)) = false := beq_eq_false_iff_ne.2 h96
                      refine ws g97 ?_
                      refine ws g97 ?_
                      refine ws g97 ?_
                      refine wv (fun W hm => rv_pickF rfl g97 rfl) ?_
                      refine nt' ?_
                      refine CM_condF rfl rfl ?_
                      refine CM_skip ?_
                      refine QM_block_normal ?_
                      refine QM_then ?_
                      refine CM_region ?_
                      refine wv (fun W hm => rv_addN (p := k77) (q := 1) rfl rfl (by omega)) ?_
                      refine wm ?_
                      refine WM_nil ?_
                      refine QM_items (fun W hm => Mem.hide rk85 (hm.pick [1, 0, 2, 3, 4] (by decide))) ?_
                      have hn101 := rng_next (R := Bool) (body := (fun k (_ : Unit) => impl_IsStore_b3 x0 k16 k41 d42 k)) (k := k77) (s := ()) (s' := ()) (show k77 < d42.length from by omega) (show impl_IsStore_b3 x0 k16 k41 d42 k77 = Sum.inr () from by unfold impl_IsStore_b3; exact cond_f g97 (rfl)) hF79
                      exact QM_round (k77 + 1, (), ()) (subL_cons rfl (subL_cons rfl (subL_cons rfl (subL_cons rfl (subL_cons rfl (subL_cons rfl (subL_cons rfl (subL_cons rfl (subL_cons rfl (subL_cons rfl (subL_cons rfl (subL_cons rfl subL_nil)))))))))))) (fun W hm => (hm.pick [2, 3, 0, 4] (by decide))) ⟨(by omega), hn101⟩ (show d42.length - (k77 + 1) < d42.length - k77 from by omega)
                  · have g82 : (decide (((k77 : Nat) : Int) < ((d42.length : Nat) : Int))) = false := decide_eq_false (by omega)
                    refine CM_condF rfl g82 ?_
                    refine CM_exit ?_
                    refine QM_then_exit ?_
                    refine QM_then_exit ?_
                    have hE102 : rng (R := Bool) (fun k (_ : Unit) => impl_IsStore_b3 x0 k16 k41 d42 k) (d42.length - 0) 0 () = Sum.inr () := rng_end hl81 hF79
                    refine QM_block_hit ?_
                    refine QM_then ?_
                    refine CM_region ?_
                    refine wm ?_
                    refine wv (fun W hm => rv_loadN (cs := [.int .i64 ((gt (gt x0.Segments k16) k41).Id), .slice A60 ((gt (gt x0.Segments k16) k41).Values).length c61, .int .i64 ((gt (gt x0.Segments k16) k41).Born), .int .i64 ((gt (gt x0.Segments k16) k41).Died)]) Try.underlying102 Try.type102 rfl rfl (hm.boxCells (n := 1) rfl)) ?_
                    refine WM_build (cs := [.int .i64 ((gt (gt x0.Segments k16) k41).Id), .slice A60 ((gt (gt x0.Segments k16) k41).Values).length c61, .int .i64 ((gt (gt x0.Segments k16) k41).Born), .int .i64 ((gt (gt x0.Segments k16) k41).Died)]) Try.underlying100 Try.type102 rfl (by decide) (by decide) rfl (by kernel_rfl) (Wd_none rfl) (by decide) (fun p103 => ?_)
                    refine WM_append (E := (tBor tyVersion w w.heap.size)) (e := 102) (v := .slice A43 d42.length c44) (p := p103) (q := 1) (xs := d42) (ys := [(gt (gt x0.Segments k16) k41)]) (eis := []) (js := [iOwn (tSl tInt 3) [.slice A67 ((impl_rowOf_m (gt (gt x0.Segments k16) k41)).Values).length c68] ((impl_rowOf_m (gt (gt x0.Segments k16) k41)).Values), iBox p64 102 [.int .i64 ((gt (gt x0.Segments k16) k41).Id), .slice A60 ((gt (gt x0.Segments k16) k41).Values).length c61, .int .i64 ((gt (gt x0.Segments k16) k41).Born), .int .i64 ((gt (gt x0.Segments k16) k41).Died)], iBox p9 45 [.slice (some a26) x0.Segments.length c5, .int .i64 x0.Now]]) (news := [.int .i64 ((gt (gt x0.Segments k16) k41).Id), .slice A60 ((gt (gt x0.Segments k16) k41).Values).length c61, .int .i64 ((gt (gt x0.Segments k16) k41).Born), .int .i64 ((gt (gt x0.Segments k16) k41).Died)]) (fun W hm => (hm.pick [0, 3, 1, 2, 4] (by decide))) (fun _ _ hs => by cases (Sep.nil hs); exact (els_cons (E := (tBor tyVersion w w.heap.size)) (L1 := []) ⟨rfl, (tyVersion_mk r63)⟩ els_nil)) Try.underlying100 Try.type102 rfl rfl rfl (Nat.le_of_ble_eq_true rfl) rfl rfl rfl (show (d42.length + 1) * 48 ≤ 140737488355328 from by omega) (show d42.length + 1 ≤ 9223372036854775807 from by omega) (Wd_none rfl) (by decide) (fun v104 => ?_)
                    refine WM_form (n := 0) rfl ?_
                    rintro A105 c106 rfl m107
                    refine wa ?_
                    refine WM_nil ?_
                    refine QM_block_normal ?_
                    refine QM_then ?_
                    refine CM_region ?_
                    refine wv (fun W hm => rv_addN (p := k41) (q := 1) rfl rfl (by omega)) ?_
                    refine wm ?_
                    refine WM_nil ?_
                    have hn109 := rng_next (R := Bool) (body := (fun k (s : (List DVersion)) => impl_IsStore_b2 x0 k16 k s)) (k := k41) (s := d42) (s' := (d42 ++ [(gt (gt x0.Segments k16) k41)])) (show k41 < ((gt x0.Segments k16)).length from by omega) (show impl_IsStore_b2 x0 k16 k41 d42 = Sum.inr (d42 ++ [(gt (gt x0.Segments k16) k41)]) from by unfold impl_IsStore_b2; exact cond_t g72 (cond_t g74 (cond_f g76 (fin_inr hE102 (rfl))))) hF46
                    exact QM_round (k41 + 1, (d42 ++ [(gt (gt x0.Segments k16) k41)]), (A105, c106)) (subL_cons rfl (subL_cons rfl (subL_cons rfl (subL_cons rfl (subL_cons rfl (subL_cons rfl (subL_cons rfl (subL_cons rfl subL_nil)))))))) (fun W hm => (hm.pick [0, 3] (by decide))) ⟨(by omega), hn109, (show (d42 ++ [(gt (gt x0.Segments k16) k41)]).length ≤ d17.length + (k41 + 1) from by first | omega | (simp only [List.length_append, List.length_cons, List.length_nil] at *; omega))⟩ (show ((gt x0.Segments k16)).length - (k41 + 1) < ((gt x0.Segments k16)).length - k41 from by omega)
                · have g76 : (((gt (gt x0.Segments k16) k41).Died) != (-1)) = true := bne_iff_ne.2 h75
                  refine wg (fun W hm => rv_field Try.underlying102 rfl Try.type3 (by decide) rfl rfl) g76 ?_
                  refine wg (fun W hm => rv_load Try.underlying3 rfl rfl (hm.boxCell (n := 1) (o := 3) rfl rfl)) g76 ?_
                  refine wg (fun W hm => rv_field Try.underlying102 rfl Try.type3 (by decide) rfl rfl) g76 ?_
                  refine wg (fun W hm => rv_load Try.underlying3 rfl rfl (hm.boxCell (n := 1) (o := 2) rfl rfl)) g76 ?_
                  refine wg (fun W hm => rv_add rfl rfl) g76 ?_
                  refine wg (fun W hm => rv_field Try.underlying45 rfl Try.type3 (by decide) rfl rfl) g76 ?_
                  refine wg (fun W hm => rv_load Try.underlying3 rfl rfl (hm.boxCell (n := 3) (o := 1) rfl rfl)) g76 ?_
                  refine WM_callV (cl_fn cb114 rfl) (fun W hm => impl_within_c W ((gt (gt x0.Segments k16) k41).Died) (IntKind.i64.wrap (((gt (gt x0.Segments k16) k41).Born) + 1)) x0.Now) (Wd_some rfl rfl rfl (bw g76 rfl)) (by decide) ?_
                  refine wg (fun W hm => rv_not rfl) g76 ?_
                  refine wg (fun W hm => rv_pickT rfl g76 rfl) (nt g74) ?_
                  refine wv (fun W hm => rv_pickF rfl (nt g74) rfl) ?_
                  refine nt' ?_
                  rcases Bool.eq_false_or_eq_true (impl_within_m ((gt (gt x0.Segments k16) k41).Died) (IntKind.i64.wrap (((gt (gt x0.Segments k16) k41).Born) + 1)) x0.Now) with g111 | g111
                  ·
                    have hw := impl_within_fact g111
                    refine CM_condF rfl (nt g111) ?_
                    refine CM_skip ?_
                    refine QM_then ?_
                    refine CM_seq ?_
                    refine sr ?_
                    refine wm ?_
                    refine wv (fun W hm => rv_len Try.underlying100 rfl) ?_
                    refine wm ?_
                    refine nt' ?_
                    refine CM_block ?_
                    refine CM_loop (σ := Nat × (Unit) × (Unit)) (fun s => [(1, .pointer (some (⟨p9, 0, none⟩ : Addr))), (3, .slice A43 d42.length c44), (7, .pointer (some (⟨p64, 0, none⟩ : Addr))), (23, .slice (some a26) x0.Segments.length c5), (24, .int .i64 ((x0.Segments.length : Nat) : Int)), (25, .int .i64 ((k16 : Nat) : Int)), (32, .slice (some a51) ((gt x0.Segments k16)).length c36), (33, .int .i64 ((((gt x0.Segments k16)).length : Nat) : Int)), (34, .int .i64 ((k41 : Nat) : Int)), (66, .slice A43 d42.length c44), (67, .int .i64 ((d42.length : Nat) : Int)), (68, .int .i64 ((s.1 : Nat) : Int))]) (fun s => [iOwn (tSl tInt 3) [.slice A67 ((impl_rowOf_m (gt (gt x0.Segments k16) k41)).Values).length c68] ((impl_rowOf_m (gt (gt x0.Segments k16) k41)).Values), iBox p64 102 [.int .i64 ((gt (gt x0.Segments k16) k41).Id), .slice A60 ((gt (gt x0.Segments k16) k41).Values).length c61, .int .i64 ((gt (gt x0.Segments k16) k41).Born), .int .i64 ((gt (gt x0.Segments k16) k41).Died)], iOwn (tSl (tBor tyVersion w w.heap.size) 102) [.slice A43 d42.length c44] d42, iBox p9 45 [.slice (some a26) x0.Segments.length c5, .int .i64 x0.Now]]) (fun s => s.1 ≤ d42.length ∧ rng (R := Bool) (fun k (_ : Unit) => impl_IsStore_b4 x0 k16 k41 d42 k) (d42.length - s.1) s.1 s.2.1 = rng (R := Bool) (fun k (_ : Unit) => impl_IsStore_b4 x0 k16 k41 d42 k) (d42.length - 0) 0 ()) (fun s => d42.length - s.1) (0, (), ()) (subL_cons rfl (subL_cons rfl (subL_cons rfl (subL_cons rfl (subL_cons rfl (subL_cons rfl (subL_cons rfl (subL_cons rfl (subL_cons rfl (subL_cons rfl (subL_cons rfl (subL_cons rfl subL_nil)))))))))))) (fun W hm => hm) ⟨(by omega), rfl⟩ ?_
                    rintro ⟨k112, ⟨⟩, ⟨⟩⟩ H115
                    obtain ⟨hk113, hF114⟩ : k112 ≤ d42.length ∧ rng (R := Bool) (fun k (_ : Unit) => impl_IsStore_b4 x0 k16 k41 d42 k) (d42.length - k112) k112 () = rng (R := Bool) (fun k (_ : Unit) => impl_IsStore_b4 x0 k16 k41 d42 k) (d42.length - 0) 0 () := H115
                    show CM Try.prog 89 _ _ _ _ [(1, .pointer (some (⟨p9, 0, none⟩ : Addr))), (3, .slice A43 d42.length c44), (7, .pointer (some (⟨p64, 0, none⟩ : Addr))), (23, .slice (some a26) x0.Segments.length c5), (24, .int .i64 ((x0.Segments.length : Nat) : Int)), (25, .int .i64 ((k16 : Nat) : Int)), (32, .slice (some a51) ((gt x0.Segments k16)).length c36), (33, .int .i64 ((((gt x0.Segments k16)).length : Nat) : Int)), (34, .int .i64 ((k41 : Nat) : Int)), (66, .slice A43 d42.length c44), (67, .int .i64 ((d42.length : Nat) : Int)), (68, .int .i64 ((k112 : Nat) : Int))] [iOwn (tSl tInt 3) [.slice A67 ((impl_rowOf_m (gt (gt x0.Segments k16) k41)).Values).length c68] ((impl_rowOf_m (gt (gt x0.Segments k16) k41)).Values), iBox p64 102 [.int .i64 ((gt (gt x0.Segments k16) k41).Id), .slice A60 ((gt (gt x0.Segments k16) k41).Values).length c61, .int .i64 ((gt (gt x0.Segments k16) k41).Born), .int .i64 ((gt (gt x0.Segments k16) k41).Died)], iOwn (tSl (tBor tyVersion w w.heap.size) 102) [.slice A43 d42.length c44] d42, iBox p9 45 [.slice (some a26) x0.Segments.length c5, .int .i64 x0.Now]]
                    refine sr ?_
                    refine wv (fun W hm => rv_lss rfl rfl) ?_
                    refine nt' ?_
                    refine CM_seq ?_
                    by_cases hl116 : k112 < d42.length
                    · have g117 : (decide (((k112 : Nat) : Int) < ((d42.length : Nat) : Int))) = true := decide_eq_true (by omega)
                      refine CM_condT rfl g117 ?_
                      refine CM_skip ?_
                      refine QM_then ?_
                      refine CM_seq ?_
                      refine CM_block ?_
                      refine sr ?_
                      refine WM_formO (n := 2) rfl (by omega) ?_
                      rintro g118 rfl
                      refine wv (fun W hm => rv_index (sz := 4) (k := k112) Try.underlying100 Try.type102 rfl rfl rfl (by omega)) ?_
                      refine WM_expose (T := tyVersion) (wb := w) (Bb := w.heap.size) (e := 102) (g := g118) (n := d42.length) (c := c44) (xs := d42) (js := [iOwn (tSl tInt 3) [.slice A67 ((impl_rowOf_m (gt (gt x0.Segments k16) k41)).Values).length c68] ((impl_rowOf_m (gt (gt x0.Segments k16) k41)).Values), iBox p64 102 [.int .i64 ((gt (gt x0.Segments k16) k41).Id), .slice A60 ((gt (gt x0.Segments k16) k41).Values).length c61, .int .i64 ((gt (gt x0.Segments k16) k41).Born), .int .i64 ((gt (gt x0.Segments k16) k41).Died)], iBox p9 45 [.slice (some a26) x0.Segments.length c5, .int .i64 x0.Now]]) (fun W hm => (hm.pick [2, 0, 1, 3] (by decide))) ?_
                      rintro ck119 rk120
                      obtain ⟨_, e121, hc122⟩ := rk120.get (j := k112) (by omega)
                      obtain ⟨v123, rfl, r124⟩ := tyVersion_rd e121
                      have r129 := r124
                      obtain ⟨m125, A126, c127, rfl, q128⟩ := r124
                      refine wv (fun W hm => rv_loadN (cs := [.int .i64 ((gt d42 k112).Id), .slice A126 ((gt d42 k112).Values).length c127, .int .i64 ((gt d42 k112).Born), .int .i64 ((gt d42 k112).Died)]) Try.underlying102 Try.type102 rfl rfl (hm.rowCells (i := 0) rfl hc122)) ?_
                      refine WM_alloc Try.type102 rfl (Wd_none rfl) (by decide) (fun p130 => ?_)
                      refine WM_storeBox (p := p130) (o := 0) (cs := [.int .i64 0, .slice none 0 0, .int .i64 0, .int .i64 0]) (cs' := [.int .i64 ((gt d42 k112).Id), .slice A126 ((gt d42 k112).Values).length c127, .int .i64 ((gt d42 k112).Born), .int .i64 ((gt d42 k112).Died)]) (js := [iBox g118 102 ck119, iOwn (tSl tInt 3) [.slice A67 ((impl_rowOf_m (gt (gt x0.Segments k16) k41)).Values).length c68] ((impl_rowOf_m (gt (gt x0.Segments k16) k41)).Values), iBox p64 102 [.int .i64 ((gt (gt x0.Segments k16) k41).Id), .slice A60 ((gt (gt x0.Segments k16) k41).Values).length c61, .int .i64 ((gt (gt x0.Segments k16) k41).Born), .int .i64 ((gt (gt x0.Segments k16) k41).Died)], iBox p9 45 [.slice (some a26) x0.Segments.length c5, .int .i64 x0.Now]]) (fun W hm => hm) Try.type102 rfl (Nat.le_of_ble_eq_true rfl) rfl rfl rfl rfl (Wd_none rfl) ?_
                      refine nt' ?_
                      refine sr ?_
                      refine wv (fun W hm => rv_field Try.underlying102 rfl Try.type3 (by decide) rfl rfl) ?_
                      refine wv (fun W hm => rv_load Try.underlying3 rfl rfl (hm.boxCell (n := 3) (o := 0) rfl rfl)) ?_
                      refine wv (fun W hm => rv_field Try.underlying102 rfl Try.type3 (by decide) rfl rfl) ?_
                      refine wv (fun W hm => rv_load Try.underlying3 rfl rfl (hm.boxCell (n := 0) (o := 0) rfl rfl)) ?_
                      refine wv (fun W hm => rv_eql rfl rfl) ?_
                      refine wm ?_
                      by_cases h131 : ((gt (gt x0.Segments k16) k41).Id) = ((gt d42 k112).Id)
                      · have g132 : (((gt (gt x0.Segments k16) k41).Id) == ((gt d42 k112).Id)) = true := beq_iff_eq.2 h131
                        refine wg (fun W hm => rv_loadN (cs := [.int .i64 ((gt (gt x0.Segments k16) k41).Id), .slice A60 ((gt (gt x0.Segments k16) k41).Values).length c61, .int .i64 ((gt (gt x0.Segments k16) k41).Born), .int .i64 ((gt (gt x0.Segments k16) k41).Died)]) Try.underlying102 Try.type102 rfl rfl (hm.boxCells (n := 3) rfl)) g132 ?_
                        refine wg (fun W hm => rv_loadN (cs := [.int .i64 ((gt d42 k112).Id), .slice A126 ((gt d42 k112).Values).length c127, .int .i64 ((gt d42 k112).Born), .int .i64 ((gt d42 k112).Died)]) Try.underlying102 Try.type102 rfl rfl (hm.boxCells (n := 0) rfl)) g132 ?_
                        refine WM_callV (cl_fn cb116 rfl) (fun W hm => impl_meetInTime_c W _ (gt (gt x0.Segments k16) k41) _ (gt d42 k112) (tyVersion_mk (x := (gt (gt x0.Segments k16) k41)) (hm.rdS0 r63)) (tyVersion_mk (x := (gt d42 k112)) (hm.rdS0 r129))) (Wd_some rfl rfl rfl (bw g132 rfl)) (by decide) ?_
                        refine wv (fun W hm => rv_pickT rfl g132 rfl) ?_
                        refine nt' ?_
                        rcases Bool.eq_false_or_eq_true (impl_meetInTime_m (gt (gt x0.Segments k16) k41) (gt d42 k112)) with g134 | g134
                        ·
                          refine CM_condT rfl g134 ?_
                          refine sr ?_
                          refine wa ?_
                          refine nt' ?_
                          refine CM_ret ?_
                          refine QM_block_ret ?_
                          refine QM_then_ret ?_
                          refine QM_then_ret ?_
                          refine QM_block_ret ?_
                          refine QM_then_ret ?_
                          refine QM_block_ret ?_
                          refine QM_then_ret ?_
                          refine QM_then_ret ?_
                          refine QM_block_ret ?_
                          refine QM_block_ret ?_
                          refine QM_then_ret ?_
                          refine QM_then_ret ?_
                          refine QM_block_ret ?_
                          refine QM_then_ret ?_
                          refine QM_items (fun W hm => Mem.hide rk120 (hm.pick [1, 0, 2, 3, 4] (by decide))) ?_
                          exact QM_ret1 rfl rfl (fun W hm => ⟨ret_b (show impl_IsStore_m x0 = false from by unfold impl_IsStore_m; exact cond_t g11 (cond_t g13 (fin_inl (rng_ret (body := (fun k (s : (List DVersion)) => impl_IsStore_b1 x0 k s)) (k := k16) (s := d17) (show k16 < x0.Segments.length from by omega) (show impl_IsStore_b1 x0 k16 d17 = Sum.inl false from by unfold impl_IsStore_b1; exact cond_f g40 (fin_inl (rng_ret (body := (fun k (s : (List DVersion)) => impl_IsStore_b2 x0 k16 k s)) (k := k41) (s := d42) (show k41 < ((gt x0.Segments k16)).length from by omega) (show impl_IsStore_b2 x0 k16 k41 d42 = Sum.inl false from by unfold impl_IsStore_b2; exact cond_t g72 (cond_t g74 (cond_t g76 (cond_t g111 (fin_inl (rng_ret (body := (fun k (_ : Unit) => impl_IsStore_b4 x0 k16 k41 d42 k)) (k := k112) (s := ()) (show k112 < d42.length from by omega) (show impl_IsStore_b4 x0 k16 k41 d42 k112 = Sum.inl false from by unfold impl_IsStore_b4; exact cond_t g132 (cond_t g134 (rfl))) hF114) rfl))))) hF46) rfl)) hF21) rfl))), hm.below⟩)
                        ·
                          refine CM_condF rfl g134 ?_
                          refine CM_skip ?_
                          refine QM_block_normal ?_
                          refine QM_then ?_
                          refine CM_region ?_
                          refine wv (fun W hm => rv_addN (p := k112) (q := 1) rfl rfl (by omega)) ?_
                          refine wm ?_
                          refine WM_nil ?_
                          refine QM_items (fun W hm => Mem.hide rk120 (hm.pick [1, 0, 2, 3, 4] (by decide))) ?_
                          have hn135 := rng_next (R := Bool) (body := (fun k (_ : Unit) => impl_IsStore_b4 x0 k16 k41 d42 k)) (k := k112) (s := ()) (s' := ()) (show k112 < d42.length from by omega) (show impl_IsStore_b4 x0 k16 k41 d42 k112 = Sum.inr () from by unfold impl_IsStore_b4; exact cond_t g132 (cond_f g134 (rfl))) hF114
                          exact QM_round (k112 + 1, (), ()) (subL_cons rfl (subL_cons rfl (subL_cons rfl (subL_cons rfl (subL_cons rfl (subL_cons rfl (subL_cons rfl (subL_cons rfl (subL_cons rfl (subL_cons rfl (subL_cons rfl (subL_cons rfl subL_nil)))))))))))) (fun W hm => (hm.pick [2, 3, 0, 4] (by decide))) ⟨(by omega), hn135⟩ (show d42.length - (k112 + 1) < d42.length - k112 from by omega)
                      · have g132 : (((gt (gt x0.Segments k16) k41).Id) == ((gt d42 k112).Id)) = false := beq_eq_false_iff_ne.2 h131
                        refine ws g132 ?_
                        refine ws g132 ?_
                        refine ws g132 ?_
                        refine wv (fun W hm => rv_pickF rfl g132 rfl) ?_
                        refine nt' ?_
                        refine CM_condF rfl rfl ?_
                        refine CM_skip ?_
                        refine QM_block_normal ?_
                        refine QM_then ?_
                        refine CM_region ?_
                        refine wv (fun W hm => rv_addN (p := k112) (q := 1) rfl rfl (by omega)) ?_
                        refine wm ?_
                        refine WM_nil ?_
                        refine QM_items (fun W hm => Mem.hide rk120 (hm.pick [1, 0, 2, 3, 4] (by decide))) ?_
                        have hn136 := rng_next (R := Bool) (body := (fun k (_ : Unit) => impl_IsStore_b4 x0 k16 k41 d42 k)) (k := k112) (s := ()) (s' := ()) (show k112 < d42.length from by omega) (show impl_IsStore_b4 x0 k16 k41 d42 k112 = Sum.inr () from by unfold impl_IsStore_b4; exact cond_f g132 (rfl)) hF114
                        exact QM_round (k112 + 1, (), ()) (subL_cons rfl (subL_cons rfl (subL_cons rfl (subL_cons rfl (subL_cons rfl (subL_cons rfl (subL_cons rfl (subL_cons rfl (subL_cons rfl (subL_cons rfl (subL_cons rfl (subL_cons rfl subL_nil)))))))))))) (fun W hm => (hm.pick [2, 3, 0, 4] (by decide))) ⟨(by omega), hn136⟩ (show d42.length - (k112 + 1) < d42.length - k112 from by omega)
                    · have g117 : (decide (((k112 : Nat) : Int) < ((d42.length : Nat) : Int))) = false := decide_eq_false (by omega)
                      refine CM_condF rfl g117 ?_
                      refine CM_exit ?_
                      refine QM_then_exit ?_
                      refine QM_then_exit ?_
                      have hE137 : rng (R := Bool) (fun k (_ : Unit) => impl_IsStore_b4 x0 k16 k41 d42 k) (d42.length - 0) 0 () = Sum.inr () := rng_end hl116 hF114
                      refine QM_block_hit ?_
                      refine QM_then ?_
                      refine CM_region ?_
                      refine wm ?_
                      refine wv (fun W hm => rv_loadN (cs := [.int .i64 ((gt (gt x0.Segments k16) k41).Id), .slice A60 ((gt (gt x0.Segments k16) k41).Values).length c61, .int .i64 ((gt (gt x0.Segments k16) k41).Born), .int .i64 ((gt (gt x0.Segments k16) k41).Died)]) Try.underlying102 Try.type102 rfl rfl (hm.boxCells (n := 1) rfl)) ?_
                      refine WM_build (cs := [.int .i64 ((gt (gt x0.Segments k16) k41).Id), .slice A60 ((gt (gt x0.Segments k16) k41).Values).length c61, .int .i64 ((gt (gt x0.Segments k16) k41).Born), .int .i64 ((gt (gt x0.Segments k16) k41).Died)]) Try.underlying100 Try.type102 rfl (by decide) (by decide) rfl (by kernel_rfl) (Wd_none rfl) (by decide) (fun p138 => ?_)
                      refine WM_append (E := (tBor tyVersion w w.heap.size)) (e := 102) (v := .slice A43 d42.length c44) (p := p138) (q := 1) (xs := d42) (ys := [(gt (gt x0.Segments k16) k41)]) (eis := []) (js := [iOwn (tSl tInt 3) [.slice A67 ((impl_rowOf_m (gt (gt x0.Segments k16) k41)).Values).length c68] ((impl_rowOf_m (gt (gt x0.Segments k16) k41)).Values), iBox p64 102 [.int .i64 ((gt (gt x0.Segments k16) k41).Id), .slice A60 ((gt (gt x0.Segments k16) k41).Values).length c61, .int .i64 ((gt (gt x0.Segments k16) k41).Born), .int .i64 ((gt (gt x0.Segments k16) k41).Died)], iBox p9 45 [.slice (some a26) x0.Segments.length c5, .int .i64 x0.Now]]) (news := [.int .i64 ((gt (gt x0.Segments k16) k41).Id), .slice A60 ((gt (gt x0.Segments k16) k41).Values).length c61, .int .i64 ((gt (gt x0.Segments k16) k41).Born), .int .i64 ((gt (gt x0.Segments k16) k41).Died)]) (fun W hm => (hm.pick [0, 3, 1, 2, 4] (by decide))) (fun _ _ hs => by cases (Sep.nil hs); exact (els_cons (E := (tBor tyVersion w w.heap.size)) (L1 := []) ⟨rfl, (tyVersion_mk r63)⟩ els_nil)) Try.underlying100 Try.type102 rfl rfl rfl (Nat.le_of_ble_eq_true rfl) rfl rfl rfl (show (d42.length + 1) * 48 ≤ 140737488355328 from by omega) (show d42.length + 1 ≤ 9223372036854775807 from by omega) (Wd_none rfl) (by decide) (fun v139 => ?_)
                      refine WM_form (n := 0) rfl ?_
                      rintro A140 c141 rfl m142
                      refine wa ?_
                      refine WM_nil ?_
                      refine QM_block_normal ?_
                      refine QM_then ?_
                      refine CM_region ?_
                      refine wv (fun W hm => rv_addN (p := k41) (q := 1) rfl rfl (by omega)) ?_
                      refine wm ?_
                      refine WM_nil ?_
                      have hn144 := rng_next (R := Bool) (body := (fun k (s : (List DVersion)) => impl_IsStore_b2 x0 k16 k s)) (k := k41) (s := d42) (s' := (d42 ++ [(gt (gt x0.Segments k16) k41)])) (show k41 < ((gt x0.Segments k16)).length from by omega) (show impl_IsStore_b2 x0 k16 k41 d42 = Sum.inr (d42 ++ [(gt (gt x0.Segments k16) k41)]) from by unfold impl_IsStore_b2; exact cond_t g72 (cond_t g74 (cond_t g76 (cond_t g111 (fin_inr hE137 (rfl)))))) hF46
                      exact QM_round (k41 + 1, (d42 ++ [(gt (gt x0.Segments k16) k41)]), (A140, c141)) (subL_cons rfl (subL_cons rfl (subL_cons rfl (subL_cons rfl (subL_cons rfl (subL_cons rfl (subL_cons rfl (subL_cons rfl subL_nil)))))))) (fun W hm => (hm.pick [0, 3] (by decide))) ⟨(by omega), hn144, (show (d42 ++ [(gt (gt x0.Segments k16) k41)]).length ≤ d17.length + (k41 + 1) from by first | omega | (simp only [List.length_append, List.length_cons, List.length_nil] at *; omega))⟩ (show ((gt x0.Segments k16)).length - (k41 + 1) < ((gt x0.Segments k16)).length - k41 from by omega)
                  ·
                    refine CM_condT rfl (nf g111) ?_
                    refine sr ?_
                    refine wa ?_
                    refine nt' ?_
                    refine CM_ret ?_
                    refine QM_then_ret ?_
                    refine QM_block_ret ?_
                    refine QM_then_ret ?_
                    refine QM_then_ret ?_
                    refine QM_block_ret ?_
                    refine QM_block_ret ?_
                    refine QM_then_ret ?_
                    refine QM_then_ret ?_
                    refine QM_block_ret ?_
                    refine QM_then_ret ?_
                    exact QM_ret1 rfl rfl (fun W hm => ⟨ret_b (show impl_IsStore_m x0 = false from by unfold impl_IsStore_m; exact cond_t g11 (cond_t g13 (fin_inl (rng_ret (body := (fun k (s : (List DVersion)) => impl_IsStore_b1 x0 k s)) (k := k16) (s := d17) (show k16 < x0.Segments.length from by omega) (show impl_IsStore_b1 x0 k16 d17 = Sum.inl false from by unfold impl_IsStore_b1; exact cond_f g40 (fin_inl (rng_ret (body := (fun k (s : (List DVersion)) => impl_IsStore_b2 x0 k16 k s)) (k := k41) (s := d42) (show k41 < ((gt x0.Segments k16)).length from by omega) (show impl_IsStore_b2 x0 k16 k41 d42 = Sum.inl false from by unfold impl_IsStore_b2; exact cond_t g72 (cond_t g74 (cond_t g76 (cond_f g111 (rfl))))) hF46) rfl)) hF21) rfl))), hm.below⟩)
              ·
                refine ws (nf g74) ?_
                refine ws (nf g74) ?_
                refine ws (nf g74) ?_
                refine ws (nf g74) ?_
                refine wu ?_
                refine wu ?_
                refine wu ?_
                refine wu ?_
                refine wu ?_
                refine wu ?_
                refine wu ?_
                refine wu ?_
                refine wu ?_
                refine ws (nf g74) ?_
                refine wv (fun W hm => rv_pickT rfl (nf g74) rfl) ?_
                refine nt' ?_
                refine CM_condT rfl rfl ?_
                refine sr ?_
                refine wa ?_
                refine nt' ?_
                refine CM_ret ?_
                refine QM_then_ret ?_
                refine QM_block_ret ?_
                refine QM_then_ret ?_
                refine QM_then_ret ?_
                refine QM_block_ret ?_
                refine QM_block_ret ?_
                refine QM_then_ret ?_
                refine QM_then_ret ?_
                refine QM_block_ret ?_
                refine QM_then_ret ?_
                exact QM_ret1 rfl rfl (fun W hm => ⟨ret_b (show impl_IsStore_m x0 = false from by unfold impl_IsStore_m; exact cond_t g11 (cond_t g13 (fin_inl (rng_ret (body := (fun k (s : (List DVersion)) => impl_IsStore_b1 x0 k s)) (k := k16) (s := d17) (show k16 < x0.Segments.length from by omega) (show impl_IsStore_b1 x0 k16 d17 = Sum.inl false from by unfold impl_IsStore_b1; exact cond_f g40 (fin_inl (rng_ret (body := (fun k (s : (List DVersion)) => impl_IsStore_b2 x0 k16 k s)) (k := k41) (s := d42) (show k41 < ((gt x0.Segments k16)).length from by omega) (show impl_IsStore_b2 x0 k16 k41 d42 = Sum.inl false from by unfold impl_IsStore_b2; exact cond_t g72 (cond_f g74 (rfl))) hF46) rfl)) hF21) rfl))), hm.below⟩)
            ·
              refine ws (nf g72) ?_
              refine ws (nf g72) ?_
              refine ws (nf g72) ?_
              refine ws (nf g72) ?_
              refine ws (nf g72) ?_
              refine ws (nf g72) ?_
              refine wv (fun W hm => rv_pickT rfl (nf g72) rfl) ?_
              refine wm ?_
              refine WM_skip (Wd_some rfl rfl rfl rfl) rfl (by decide) ?_
              refine WM_skip (Wd_some rfl rfl rfl rfl) rfl (by decide) ?_
              refine WM_skip (Wd_some rfl rfl rfl rfl) rfl (by decide) ?_
              refine WM_skip (Wd_some rfl rfl rfl rfl) rfl (by decide) ?_
              refine wu ?_
              refine wu ?_
              refine wu ?_
              refine wu ?_
              refine wu ?_
              refine wu ?_
              refine wu ?_
              refine wu ?_
              refine wu ?_
              refine WM_skip (Wd_some rfl rfl rfl rfl) rfl (by decide) ?_
              refine wv (fun W hm => rv_pickT rfl rfl rfl) ?_
              refine nt' ?_
              refine CM_condT rfl rfl ?_
              refine sr ?_
              refine wa ?_
              refine nt' ?_
              refine CM_ret ?_
              refine QM_then_ret ?_
              refine QM_block_ret ?_
              refine QM_then_ret ?_
              refine QM_then_ret ?_
              refine QM_block_ret ?_
              refine QM_block_ret ?_
              refine QM_then_ret ?_
              refine QM_then_ret ?_
              refine QM_block_ret ?_
              refine QM_then_ret ?_
              exact QM_ret1 rfl rfl (fun W hm => ⟨ret_b (show impl_IsStore_m x0 = false from by unfold impl_IsStore_m; exact cond_t g11 (cond_t g13 (fin_inl (rng_ret (body := (fun k (s : (List DVersion)) => impl_IsStore_b1 x0 k s)) (k := k16) (s := d17) (show k16 < x0.Segments.length from by omega) (show impl_IsStore_b1 x0 k16 d17 = Sum.inl false from by unfold impl_IsStore_b1; exact cond_f g40 (fin_inl (rng_ret (body := (fun k (s : (List DVersion)) => impl_IsStore_b2 x0 k16 k s)) (k := k41) (s := d42) (show k41 < ((gt x0.Segments k16)).length from by omega) (show impl_IsStore_b2 x0 k16 k41 d42 = Sum.inl false from by unfold impl_IsStore_b2; exact cond_f g72 (rfl)) hF46) rfl)) hF21) rfl))), hm.below⟩)
          · have g50 : (decide (((k41 : Nat) : Int) < ((((gt x0.Segments k16)).length : Nat) : Int))) = false := decide_eq_false (by omega)
            refine CM_condF rfl g50 ?_
            refine CM_exit ?_
            refine QM_then_exit ?_
            refine QM_then_exit ?_
            have hE145 : rng (R := Bool) (fun k (s : (List DVersion)) => impl_IsStore_b2 x0 k16 k s) (((gt x0.Segments k16)).length - 0) 0 d17 = Sum.inr d42 := rng_end hl49 hF46
            refine QM_block_hit ?_
            refine QM_block_normal ?_
            refine QM_then ?_
            refine CM_region ?_
            refine wv (fun W hm => rv_addN (p := k16) (q := 1) rfl rfl (by omega)) ?_
            refine wm ?_
            refine WM_nil ?_
            have hn146 := rng_next (R := Bool) (body := (fun k (s : (List DVersion)) => impl_IsStore_b1 x0 k s)) (k := k16) (s := d17) (s' := d42) (show k16 < x0.Segments.length from by omega) (show impl_IsStore_b1 x0 k16 d17 = Sum.inr d42 from by unfold impl_IsStore_b1; exact cond_f g40 (fin_inr hE145 (rfl))) hF21
            exact QM_round (k16 + 1, d42, (A43, c44)) (subL_cons rfl (subL_cons rfl (subL_cons rfl (subL_cons rfl (subL_cons rfl subL_nil))))) (fun W hm => hm) ⟨(by omega), hn146, (show d42.length ≤ 0 + 4 * (k16 + 1) from by first | omega | (simp only [List.length_append, List.length_cons, List.length_nil] at *; omega))⟩ (show x0.Segments.length - (k16 + 1) < x0.Segments.length - k16 from by omega)
      · have g25 : (decide (((k16 : Nat) : Int) < ((x0.Segments.length : Nat) : Int))) = false := decide_eq_false (by omega)
        refine CM_condF rfl g25 ?_
        refine CM_exit ?_
        refine QM_then_exit ?_
        refine QM_then_exit ?_
        have hE147 : rng (R := Bool) (fun k (s : (List DVersion)) => impl_IsStore_b1 x0 k s) (x0.Segments.length - 0) 0 [] = Sum.inr d17 := rng_end hl24 hF21
        refine QM_block_hit ?_
        refine QM_then ?_
        refine sr ?_
        refine wa ?_
        refine nt' ?_
        refine CM_ret ?_
        exact QM_ret1 rfl rfl (fun W hm => ⟨ret_b (show impl_IsStore_m x0 = true from by unfold impl_IsStore_m; exact cond_t g11 (cond_t g13 (fin_inr hE147 (rfl)))), hm.below⟩)
    ·
      refine CM_condT rfl (nf g13) ?_
      refine sr ?_
      refine wa ?_
      refine nt' ?_
      refine CM_ret ?_
      refine QM_then_ret ?_
      exact QM_ret1 rfl rfl (fun W hm => ⟨ret_b (show impl_IsStore_m x0 = false from by unfold impl_IsStore_m; exact cond_t g11 (cond_f g13 (rfl))), hm.below⟩)
  ·
    refine ws (nf g11) ?_
    refine ws (nf g11) ?_
    refine ws (nf g11) ?_
    refine ws (nf g11) ?_
    refine wv (fun W hm => rv_pickT rfl (nf g11) rfl) ?_
    refine nt' ?_
    refine CM_condT rfl rfl ?_
    refine sr ?_
    refine wa ?_
    refine nt' ?_
    refine CM_ret ?_
    refine QM_then_ret ?_
    exact QM_ret1 rfl rfl (fun W hm => ⟨ret_b (show impl_IsStore_m x0 = false from by unfold impl_IsStore_m; exact cond_f g11 (rfl)), hm.below⟩)

def impl_isField_m (x0 : Int) : Bool :=
  (impl_within_m x0 0 2)
set_option maxRecDepth 100000 in
theorem cb86 : Cb Try.prog 86 := ⟨Try.f86, _, Try.func86, rfl, by decide⟩
set_option maxRecDepth 10000 in
set_option maxHeartbeats 4000000 in
theorem impl_isField_c (w : World) (x0 : Int) :
    Calls Try.prog 86 #[.int .i64 x0] w fun e w' => e = .returned (.bool (impl_isField_m x0)) ∧ Below w.heap.size w w' := by
  refine call_enterM (L := [(0, .int .i64 x0)]) (N := 5) Try.func86 rfl rfl (Nat.le_of_ble_eq_true rfl) (argsL_cons rfl argsL_nil) ?_
  refine sr ?_
  refine wa ?_
  refine nt' ?_
  refine sr ?_
  refine wm ?_
  refine WM_callV (cl_fn cb114 rfl) (fun W hm => impl_within_c W x0 0 2) (Wd_none rfl) (by decide) ?_
  refine wa ?_
  refine nt' ?_
  refine CM_ret ?_
  exact QM_ret1 rfl rfl (fun W hm => ⟨ret_b (show impl_isField_m x0 = (impl_within_m x0 0 2) from by unfold impl_isField_m; exact rfl), hm.below⟩)

def impl_IsUpdate_m (x0 : DUpdate) : Bool :=
  cond (impl_within_m x0.Row.Id 0 999) (cond (x0.Kind == 1) (cond (impl_IsRow_m x0.Row) (cond (x0.Field == 0) (x0.Value == 0) false) false) (cond (x0.Kind == 2) (cond (((x0.Row.Values.length : Nat) : Int) == 0) (cond (x0.Field == 0) (x0.Value == 0) false) false) (cond (x0.Kind == 3) (cond (((x0.Row.Values.length : Nat) : Int) == 0) (cond (impl_isField_m x0.Field) (impl_within_m x0.Value 0 99) false) false) false))) (cond (x0.Kind == 1) (cond (impl_IsRow_m x0.Row) (cond (x0.Field == 0) (x0.Value == 0) false) false) (cond (x0.Kind == 2) false (cond (x0.Kind == 3) false false)))
set_option maxRecDepth 100000 in
theorem cb93 : Cb Try.prog 93 := ⟨Try.f93, _, Try.func93, rfl, by decide⟩
set_option maxRecDepth 10000 in
set_option maxHeartbeats 4000000 in
theorem impl_IsUpdate_c (w : World) (z0 : List Value) (x0 : DUpdate) (r_0 : tyUpdate.rd w w.heap.size z0 x0) :
    Calls Try.prog 93 #[.agg z0.toArray] w fun e w' => e = .returned (.bool (impl_IsUpdate_m x0)) ∧ Below w.heap.size w w' := by
  obtain ⟨v1, rfl, r2⟩ := tyUpdate_rd r_0
  have r7 := r2
  obtain ⟨m3, A4, c5, rfl, q6⟩ := r2
  refine call_enterM (L := [(0, .agg #[.int .i64 x0.Kind, .int .i64 x0.Row.Id, .slice A4 x0.Row.Values.length c5, .int .i64 x0.Field, .int .i64 x0.Value])]) (N := 58) Try.func93 rfl rfl (Nat.le_of_ble_eq_true rfl) (argsL_cons rfl argsL_nil) ?_
  refine sr ?_
  refine WM_box rfl (Wd_none rfl) (by decide) (fun p8 => ?_)
  refine wa ?_
  refine nt' ?_
  refine sr ?_
  refine wv (fun W hm => rv_field Try.underlying71 rfl Try.type69 (by decide) rfl rfl) ?_
  refine wv (fun W hm => rv_fieldA (o := 1) Try.underlying69 rfl Try.type3 (by decide) rfl rfl) ?_
  refine wv (fun W hm => rv_load Try.underlying3 rfl rfl (hm.boxCell (n := 0) (o := 1) rfl rfl)) ?_
  refine WM_callV (cl_fn cb114 rfl) (fun W hm => impl_within_c W x0.Row.Id 0 999) (Wd_none rfl) (by decide) ?_
  refine wm ?_
  rcases Bool.eq_false_or_eq_true (impl_within_m x0.Row.Id 0 999) with g10 | g10
  ·
    have hw := impl_within_fact g10
    refine wg (fun W hm => rv_field Try.underlying71 rfl Try.type69 (by decide) rfl rfl) g10 ?_
    refine wg (fun W hm => rv_fieldA (o := 2) Try.underlying69 rfl Try.type33 (by decide) rfl rfl) g10 ?_
    refine wg (fun W hm => rv_load Try.underlying33 rfl rfl (hm.boxCell (n := 0) (o := 2) rfl rfl)) g10 ?_
    refine wg (fun W hm => rv_len Try.underlying33 rfl) g10 ?_
    refine wg (fun W hm => rv_eql rfl rfl) g10 ?_
    refine wv (fun W hm => rv_pickT rfl g10 rfl) ?_
    refine wa ?_
    refine nt' ?_
    refine CM_seq ?_
    refine sr ?_
    refine wv (fun W hm => rv_field Try.underlying71 rfl Try.type3 (by decide) rfl rfl) ?_
    refine wv (fun W hm => rv_load Try.underlying3 rfl rfl (hm.boxCell (n := 0) (o := 0) rfl rfl)) ?_
    refine nt' ?_
    refine CM_block ?_
    refine sr ?_
    refine wv (fun W hm => rv_eql rfl rfl) ?_
    refine wa ?_
    refine nt' ?_
    by_cases h11 : x0.Kind = 1
    · have g12 : (x0.Kind == 1) = true := beq_iff_eq.2 h11
      refine CM_condT rfl g12 ?_
      refine sr ?_
      refine wv (fun W hm => rv_field Try.underlying71 rfl Try.type69 (by decide) rfl rfl) ?_
      refine wv (fun W hm => rv_loadN (cs := [.int .i64 x0.Row.Id, .slice A4 x0.Row.Values.length c5]) Try.underlying69 Try.type69 rfl rfl (hm.boxPart (n := 0) rfl rfl)) ?_
      refine WM_callV (cl_fn cb87 rfl) (fun W hm => impl_IsRow_c W _ x0.Row (tyRow_mk (x := x0.Row) (hm.rdS0 r7))) (Wd_none rfl) (by decide) ?_
      refine wm ?_
      rcases Bool.eq_false_or_eq_true (impl_IsRow_m x0.Row) with g14 | g14
      ·
        refine wg (fun W hm => rv_field Try.underlying71 rfl Try.type3 (by decide) rfl rfl) g14 ?_
        refine wg (fun W hm => rv_load Try.underlying3 rfl rfl (hm.boxCell (n := 0) (o := 3) rfl rfl)) g14 ?_
        refine wg (fun W hm => rv_eql rfl rfl) g14 ?_
        refine wv (fun W hm => rv_pickT rfl g14 rfl) ?_
        refine wm ?_
        by_cases h15 : x0.Field = 0
        · have g16 : (x0.Field == 0) = true := beq_iff_eq.2 h15
          refine wg (fun W hm => rv_field Try.underlying71 rfl Try.type3 (by decide) rfl rfl) g16 ?_
          refine wg (fun W hm => rv_load Try.underlying3 rfl rfl (hm.boxCell (n := 0) (o := 4) rfl rfl)) g16 ?_
          refine wg (fun W hm => rv_eql rfl rfl) g16 ?_
          refine wv (fun W hm => rv_pickT rfl g16 rfl) ?_
          refine wa ?_
          refine nt' ?_
          refine CM_ret ?_
          refine QM_block_ret ?_
          refine QM_then_ret ?_
          exact QM_ret1 rfl rfl (fun W hm => ⟨ret_b (show impl_IsUpdate_m x0 = (x0.Value == 0) from by unfold impl_IsUpdate_m; exact cond_t g10 (cond_t g12 (cond_t g14 (cond_t g16 (rfl))))), hm.below⟩)
        · have g16 : (x0.Field == 0) = false := beq_eq_false_iff_ne.2 h15
          refine ws g16 ?_
          refine ws g16 ?_
          refine ws g16 ?_
          refine wv (fun W hm => rv_pickF rfl g16 rfl) ?_
          refine wa ?_
          refine nt' ?_
          refine CM_ret ?_
          refine QM_block_ret ?_
          refine QM_then_ret ?_
          exact QM_ret1 rfl rfl (fun W hm => ⟨ret_b (show impl_IsUpdate_m x0 = false from by unfold impl_IsUpdate_m; exact cond_t g10 (cond_t g12 (cond_t g14 (cond_f g16 (rfl))))), hm.below⟩)
      ·
        refine ws g14 ?_
        refine ws g14 ?_
        refine ws g14 ?_
        refine wv (fun W hm => rv_pickF rfl g14 rfl) ?_
        refine wm ?_
        refine WM_skip (Wd_some rfl rfl rfl rfl) rfl (by decide) ?_
        refine WM_skip (Wd_some rfl rfl rfl rfl) rfl (by decide) ?_
        refine WM_skip (Wd_some rfl rfl rfl rfl) rfl (by decide) ?_
        refine wv (fun W hm => rv_pickF rfl rfl rfl) ?_
        refine wa ?_
        refine nt' ?_
        refine CM_ret ?_
        refine QM_block_ret ?_
        refine QM_then_ret ?_
        exact QM_ret1 rfl rfl (fun W hm => ⟨ret_b (show impl_IsUpdate_m x0 = false from by unfold impl_IsUpdate_m; exact cond_t g10 (cond_t g12 (cond_f g14 (rfl)))), hm.below⟩)
    · have g12 : (x0.Kind == 1) = false := beq_eq_false_iff_ne.2 h11
      refine CM_condF rfl g12 ?_
      refine sr ?_
      refine wv (fun W hm => rv_eql rfl rfl) ?_
      refine wa ?_
      refine nt' ?_
      by_cases h17 : x0.Kind = 2
      · have g18 : (x0.Kind == 2) = true := beq_iff_eq.2 h17
        refine CM_condT rfl g18 ?_
        refine sr ?_
        refine wm ?_
        refine wm ?_
        by_cases h19 : ((x0.Row.Values.length : Nat) : Int) = 0
        · have g20 : (((x0.Row.Values.length : Nat) : Int) == 0) = true := beq_iff_eq.2 h19
          refine wg (fun W hm => rv_field Try.underlying71 rfl Try.type3 (by decide) rfl rfl) g20 ?_
          refine wg (fun W hm => rv_load Try.underlying3 rfl rfl (hm.boxCell (n := 0) (o := 3) rfl rfl)) g20 ?_
          refine wg (fun W hm => rv_eql rfl rfl) g20 ?_
          refine wv (fun W hm => rv_pickT rfl g20 rfl) ?_
          refine wm ?_
          by_cases h21 : x0.Field = 0
          · have g22 : (x0.Field == 0) = true := beq_iff_eq.2 h21
            refine wg (fun W hm => rv_field Try.underlying71 rfl Try.type3 (by decide) rfl rfl) g22 ?_
            refine wg (fun W hm => rv_load Try.underlying3 rfl rfl (hm.boxCell (n := 0) (o := 4) rfl rfl)) g22 ?_
            refine wg (fun W hm => rv_eql rfl rfl) g22 ?_
            refine wv (fun W hm => rv_pickT rfl g22 rfl) ?_
            refine wa ?_
            refine nt' ?_
            refine CM_ret ?_
            refine QM_block_ret ?_
            refine QM_then_ret ?_
            exact QM_ret1 rfl rfl (fun W hm => ⟨ret_b (show impl_IsUpdate_m x0 = (x0.Value == 0) from by unfold impl_IsUpdate_m; exact cond_t g10 (cond_f g12 (cond_t g18 (cond_t g20 (cond_t g22 (rfl)))))), hm.below⟩)
          · have g22 : (x0.Field == 0) = false := beq_eq_false_iff_ne.2 h21
            refine ws g22 ?_
            refine ws g22 ?_
            refine ws g22 ?_
            refine wv (fun W hm => rv_pickF rfl g22 rfl) ?_
            refine wa ?_
            refine nt' ?_
            refine CM_ret ?_
            refine QM_block_ret ?_
            refine QM_then_ret ?_
            exact QM_ret1 rfl rfl (fun W hm => ⟨ret_b (show impl_IsUpdate_m x0 = false from by unfold impl_IsUpdate_m; exact cond_t g10 (cond_f g12 (cond_t g18 (cond_t g20 (cond_f g22 (rfl)))))), hm.below⟩)
        · have g20 : (((x0.Row.Values.length : Nat) : Int) == 0) = false := beq_eq_false_iff_ne.2 h19
          refine ws g20 ?_
          refine ws g20 ?_
          refine ws g20 ?_
          refine wv (fun W hm => rv_pickF rfl g20 rfl) ?_
          refine wm ?_
          refine WM_skip (Wd_some rfl rfl rfl rfl) rfl (by decide) ?_
          refine WM_skip (Wd_some rfl rfl rfl rfl) rfl (by decide) ?_
          refine WM_skip (Wd_some rfl rfl rfl rfl) rfl (by decide) ?_
          refine wv (fun W hm => rv_pickF rfl rfl rfl) ?_
          refine wa ?_
          refine nt' ?_
          refine CM_ret ?_
          refine QM_block_ret ?_
          refine QM_then_ret ?_
          exact QM_ret1 rfl rfl (fun W hm => ⟨ret_b (show impl_IsUpdate_m x0 = false from by unfold impl_IsUpdate_m; exact cond_t g10 (cond_f g12 (cond_t g18 (cond_f g20 (rfl))))), hm.below⟩)
      · have g18 : (x0.Kind == 2) = false := beq_eq_false_iff_ne.2 h17
        refine CM_condF rfl g18 ?_
        refine sr ?_
        refine wv (fun W hm => rv_eql rfl rfl) ?_
        refine wa ?_
        refine nt' ?_
        by_cases h23 : x0.Kind = 3
        · have g24 : (x0.Kind == 3) = true := beq_iff_eq.2 h23
          refine CM_condT rfl g24 ?_
          refine sr ?_
          refine wm ?_
          refine wm ?_
          by_cases h25 : ((x0.Row.Values.length : Nat) : Int) = 0
          · have g26 : (((x0.Row.Values.length : Nat) : Int) == 0) = true := beq_iff_eq.2 h25
            refine wg (fun W hm => rv_field Try.underlying71 rfl Try.type3 (by decide) rfl rfl) g26 ?_
            refine wg (fun W hm => rv_load Try.underlying3 rfl rfl (hm.boxCell (n := 0) (o := 3) rfl rfl)) g26 ?_
            refine WM_callV (cl_fn cb86 rfl) (fun W hm => impl_isField_c W x0.Field) (Wd_some rfl rfl rfl (bw g26 rfl)) (by decide) ?_
            refine wv (fun W hm => rv_pickT rfl g26 rfl) ?_
            refine wm ?_
            rcases Bool.eq_false_or_eq_true (impl_isField_m x0.Field) with g28 | g28
            ·
              refine wg (fun W hm => rv_field Try.underlying71 rfl Try.type3 (by decide) rfl rfl) g28 ?_
              refine wg (fun W hm => rv_load Try.underlying3 rfl rfl (hm.boxCell (n := 0) (o := 4) rfl rfl)) g28 ?_
              refine WM_callV (cl_fn cb114 rfl) (fun W hm => impl_within_c W x0.Value 0 99) (Wd_some rfl rfl rfl (bw g28 rfl)) (by decide) ?_
              refine wv (fun W hm => rv_pickT rfl g28 rfl) ?_
              refine wa ?_
              refine nt' ?_
              refine CM_ret ?_
              refine QM_block_ret ?_
              refine QM_then_ret ?_
              exact QM_ret1 rfl rfl (fun W hm => ⟨ret_b (show impl_IsUpdate_m x0 = (impl_within_m x0.Value 0 99) from by unfold impl_IsUpdate_m; exact cond_t g10 (cond_f g12 (cond_f g18 (cond_t g24 (cond_t g26 (cond_t g28 (rfl))))))), hm.below⟩)
            ·
              refine ws g28 ?_
              refine ws g28 ?_
              refine ws g28 ?_
              refine wv (fun W hm => rv_pickF rfl g28 rfl) ?_
              refine wa ?_
              refine nt' ?_
              refine CM_ret ?_
              refine QM_block_ret ?_
              refine QM_then_ret ?_
              exact QM_ret1 rfl rfl (fun W hm => ⟨ret_b (show impl_IsUpdate_m x0 = false from by unfold impl_IsUpdate_m; exact cond_t g10 (cond_f g12 (cond_f g18 (cond_t g24 (cond_t g26 (cond_f g28 (rfl))))))), hm.below⟩)
          · have g26 : (((x0.Row.Values.length : Nat) : Int) == 0) = false := beq_eq_false_iff_ne.2 h25
            refine ws g26 ?_
            refine ws g26 ?_
            refine ws g26 ?_
            refine wv (fun W hm => rv_pickF rfl g26 rfl) ?_
            refine wm ?_
            refine WM_skip (Wd_some rfl rfl rfl rfl) rfl (by decide) ?_
            refine WM_skip (Wd_some rfl rfl rfl rfl) rfl (by decide) ?_
            refine WM_skip (Wd_some rfl rfl rfl rfl) rfl (by decide) ?_
            refine wv (fun W hm => rv_pickF rfl rfl rfl) ?_
            refine wa ?_
            refine nt' ?_
            refine CM_ret ?_
            refine QM_block_ret ?_
            refine QM_then_ret ?_
            exact QM_ret1 rfl rfl (fun W hm => ⟨ret_b (show impl_IsUpdate_m x0 = false from by unfold impl_IsUpdate_m; exact cond_t g10 (cond_f g12 (cond_f g18 (cond_t g24 (cond_f g26 (rfl)))))), hm.below⟩)
        · have g24 : (x0.Kind == 3) = false := beq_eq_false_iff_ne.2 h23
          refine CM_condF rfl g24 ?_
          refine CM_skip ?_
          refine QM_block_normal ?_
          refine QM_then ?_
          refine sr ?_
          refine wa ?_
          refine nt' ?_
          refine CM_ret ?_
          exact QM_ret1 rfl rfl (fun W hm => ⟨ret_b (show impl_IsUpdate_m x0 = false from by unfold impl_IsUpdate_m; exact cond_t g10 (cond_f g12 (cond_f g18 (cond_f g24 (rfl))))), hm.below⟩)
  ·
    refine ws g10 ?_
    refine ws g10 ?_
    refine ws g10 ?_
    refine ws g10 ?_
    refine ws g10 ?_
    refine wv (fun W hm => rv_pickF rfl g10 rfl) ?_
    refine wa ?_
    refine nt' ?_
    refine CM_seq ?_
    refine sr ?_
    refine wv (fun W hm => rv_field Try.underlying71 rfl Try.type3 (by decide) rfl rfl) ?_
    refine wv (fun W hm => rv_load Try.underlying3 rfl rfl (hm.boxCell (n := 0) (o := 0) rfl rfl)) ?_
    refine nt' ?_
    refine CM_block ?_
    refine sr ?_
    refine wv (fun W hm => rv_eql rfl rfl) ?_
    refine wa ?_
    refine nt' ?_
    by_cases h29 : x0.Kind = 1
    · have g30 : (x0.Kind == 1) = true := beq_iff_eq.2 h29
      refine CM_condT rfl g30 ?_
      refine sr ?_
      refine wv (fun W hm => rv_field Try.underlying71 rfl Try.type69 (by decide) rfl rfl) ?_
      refine wv (fun W hm => rv_loadN (cs := [.int .i64 x0.Row.Id, .slice A4 x0.Row.Values.length c5]) Try.underlying69 Try.type69 rfl rfl (hm.boxPart (n := 0) rfl rfl)) ?_
      refine WM_callV (cl_fn cb87 rfl) (fun W hm => impl_IsRow_c W _ x0.Row (tyRow_mk (x := x0.Row) (hm.rdS0 r7))) (Wd_none rfl) (by decide) ?_
      refine wm ?_
      rcases Bool.eq_false_or_eq_true (impl_IsRow_m x0.Row) with g32 | g32
      ·
        refine wg (fun W hm => rv_field Try.underlying71 rfl Try.type3 (by decide) rfl rfl) g32 ?_
        refine wg (fun W hm => rv_load Try.underlying3 rfl rfl (hm.boxCell (n := 0) (o := 3) rfl rfl)) g32 ?_
        refine wg (fun W hm => rv_eql rfl rfl) g32 ?_
        refine wv (fun W hm => rv_pickT rfl g32 rfl) ?_
        refine wm ?_
        by_cases h33 : x0.Field = 0
        · have g34 : (x0.Field == 0) = true := beq_iff_eq.2 h33
          refine wg (fun W hm => rv_field Try.underlying71 rfl Try.type3 (by decide) rfl rfl) g34 ?_
          refine wg (fun W hm => rv_load Try.underlying3 rfl rfl (hm.boxCell (n := 0) (o := 4) rfl rfl)) g34 ?_
          refine wg (fun W hm => rv_eql rfl rfl) g34 ?_
          refine wv (fun W hm => rv_pickT rfl g34 rfl) ?_
          refine wa ?_
          refine nt' ?_
          refine CM_ret ?_
          refine QM_block_ret ?_
          refine QM_then_ret ?_
          exact QM_ret1 rfl rfl (fun W hm => ⟨ret_b (show impl_IsUpdate_m x0 = (x0.Value == 0) from by unfold impl_IsUpdate_m; exact cond_f g10 (cond_t g30 (cond_t g32 (cond_t g34 (rfl))))), hm.below⟩)
        · have g34 : (x0.Field == 0) = false := beq_eq_false_iff_ne.2 h33
          refine ws g34 ?_
          refine ws g34 ?_
          refine ws g34 ?_
          refine wv (fun W hm => rv_pickF rfl g34 rfl) ?_
          refine wa ?_
          refine nt' ?_
          refine CM_ret ?_
          refine QM_block_ret ?_
          refine QM_then_ret ?_
          exact QM_ret1 rfl rfl (fun W hm => ⟨ret_b (show impl_IsUpdate_m x0 = false from by unfold impl_IsUpdate_m; exact cond_f g10 (cond_t g30 (cond_t g32 (cond_f g34 (rfl))))), hm.below⟩)
      ·
        refine ws g32 ?_
        refine ws g32 ?_
        refine ws g32 ?_
        refine wv (fun W hm => rv_pickF rfl g32 rfl) ?_
        refine wm ?_
        refine WM_skip (Wd_some rfl rfl rfl rfl) rfl (by decide) ?_
        refine WM_skip (Wd_some rfl rfl rfl rfl) rfl (by decide) ?_
        refine WM_skip (Wd_some rfl rfl rfl rfl) rfl (by decide) ?_
        refine wv (fun W hm => rv_pickF rfl rfl rfl) ?_
        refine wa ?_
        refine nt' ?_
        refine CM_ret ?_
        refine QM_block_ret ?_
        refine QM_then_ret ?_
        exact QM_ret1 rfl rfl (fun W hm => ⟨ret_b (show impl_IsUpdate_m x0 = false from by unfold impl_IsUpdate_m; exact cond_f g10 (cond_t g30 (cond_f g32 (rfl)))), hm.below⟩)
    · have g30 : (x0.Kind == 1) = false := beq_eq_false_iff_ne.2 h29
      refine CM_condF rfl g30 ?_
      refine sr ?_
      refine wv (fun W hm => rv_eql rfl rfl) ?_
      refine wa ?_
      refine nt' ?_
      by_cases h35 : x0.Kind = 2
      · have g36 : (x0.Kind == 2) = true := beq_iff_eq.2 h35
        refine CM_condT rfl g36 ?_
        refine sr ?_
        refine wm ?_
        refine wm ?_
        refine WM_skip (Wd_some rfl rfl rfl rfl) rfl (by decide) ?_
        refine WM_skip (Wd_some rfl rfl rfl rfl) rfl (by decide) ?_
        refine WM_skip (Wd_some rfl rfl rfl rfl) rfl (by decide) ?_
        refine wv (fun W hm => rv_pickF rfl rfl rfl) ?_
        refine wm ?_
        refine WM_skip (Wd_some rfl rfl rfl rfl) rfl (by decide) ?_
        refine WM_skip (Wd_some rfl rfl rfl rfl) rfl (by decide) ?_
        refine WM_skip (Wd_some rfl rfl rfl rfl) rfl (by decide) ?_
        refine wv (fun W hm => rv_pickF rfl rfl rfl) ?_
        refine wa ?_
        refine nt' ?_
        refine CM_ret ?_
        refine QM_block_ret ?_
        refine QM_then_ret ?_
        exact QM_ret1 rfl rfl (fun W hm => ⟨ret_b (show impl_IsUpdate_m x0 = false from by unfold impl_IsUpdate_m; exact cond_f g10 (cond_f g30 (cond_t g36 (rfl)))), hm.below⟩)
      · have g36 : (x0.Kind == 2) = false := beq_eq_false_iff_ne.2 h35
        refine CM_condF rfl g36 ?_
        refine sr ?_
        refine wv (fun W hm => rv_eql rfl rfl) ?_
        refine wa ?_
        refine nt' ?_
        by_cases h37 : x0.Kind = 3
        · have g38 : (x0.Kind == 3) = true := beq_iff_eq.2 h37
          refine CM_condT rfl g38 ?_
          refine sr ?_
          refine wm ?_
          refine wm ?_
          refine WM_skip (Wd_some rfl rfl rfl rfl) rfl (by decide) ?_
          refine WM_skip (Wd_some rfl rfl rfl rfl) rfl (by decide) ?_
          refine WM_skip (Wd_some rfl rfl rfl rfl) rfl (by decide) ?_
          refine wv (fun W hm => rv_pickF rfl rfl rfl) ?_
          refine wm ?_
          refine WM_skip (Wd_some rfl rfl rfl rfl) rfl (by decide) ?_
          refine WM_skip (Wd_some rfl rfl rfl rfl) rfl (by decide) ?_
          refine WM_skip (Wd_some rfl rfl rfl rfl) rfl (by decide) ?_
          refine wv (fun W hm => rv_pickF rfl rfl rfl) ?_
          refine wa ?_
          refine nt' ?_
          refine CM_ret ?_
          refine QM_block_ret ?_
          refine QM_then_ret ?_
          exact QM_ret1 rfl rfl (fun W hm => ⟨ret_b (show impl_IsUpdate_m x0 = false from by unfold impl_IsUpdate_m; exact cond_f g10 (cond_f g30 (cond_f g36 (cond_t g38 (rfl))))), hm.below⟩)
        · have g38 : (x0.Kind == 3) = false := beq_eq_false_iff_ne.2 h37
          refine CM_condF rfl g38 ?_
          refine CM_skip ?_
          refine QM_block_normal ?_
          refine QM_then ?_
          refine sr ?_
          refine wa ?_
          refine nt' ?_
          refine CM_ret ?_
          exact QM_ret1 rfl rfl (fun W hm => ⟨ret_b (show impl_IsUpdate_m x0 = false from by unfold impl_IsUpdate_m; exact cond_f g10 (cond_f g30 (cond_f g36 (cond_f g38 (rfl))))), hm.below⟩)

def impl_findAlive_b2 (x0 : DStore) (x1 : Int) (k9 : Nat) (k27 : Nat) : (Int × Int) ⊕ (Unit) :=
  cond (((gt (gt x0.Segments k9) k27).Id) == x1) (cond (((gt (gt x0.Segments k9) k27).Died) == (-1)) (Sum.inl (((k9 : Nat) : Int), ((k27 : Nat) : Int))) (Sum.inr ())) (Sum.inr ())
def impl_findAlive_b1 (x0 : DStore) (x1 : Int) (k9 : Nat) : (Int × Int) ⊕ (Unit) :=
  Sum.elim Sum.inl (fun (s : Unit) => Sum.inr ()) (rng (R := (Int × Int)) (fun k (_ : Unit) => impl_findAlive_b2 x0 x1 k9 k) (((gt x0.Segments k9)).length - 0) 0 ())
def impl_findAlive_m (x0 : DStore) (x1 : Int) : (Int × Int) :=
  Sum.elim id (fun (s : Unit) => ((-1), (-1))) (rng (R := (Int × Int)) (fun k (_ : Unit) => impl_findAlive_b1 x0 x1 k) (x0.Segments.length - 0) 0 ())
set_option maxRecDepth 100000 in
theorem cb94 : Cb Try.prog 94 := ⟨Try.f94, _, Try.func94, rfl, by decide⟩
set_option maxRecDepth 10000 in
set_option maxHeartbeats 4000000 in
theorem impl_findAlive_c (w : World) (z0 : List Value) (x0 : DStore) (x1 : Int) (r_0 : tyStore.rd w w.heap.size z0 x0) :
    Calls Try.prog 94 #[.agg z0.toArray, .int .i64 x1] w fun e w' => e = .returned (.tuple #[.int .i64 ((impl_findAlive_m x0 x1).1), .int .i64 ((impl_findAlive_m x0 x1).2)]) ∧ Below w.heap.size w w' := by
  obtain ⟨v1, rfl, r2⟩ := tyStore_rd r_0
  have r7 := r2
  obtain ⟨m3, A4, c5, rfl, q6⟩ := r2
  refine call_enterM (L := [(0, .agg #[.slice A4 x0.Segments.length c5, .int .i64 x0.Now]), (1, .int .i64 x1)]) (N := 38) Try.func94 rfl rfl (Nat.le_of_ble_eq_true rfl) (argsL_cons rfl (argsL_cons rfl argsL_nil)) ?_
  refine sr ?_
  refine WM_box rfl (Wd_none rfl) (by decide) (fun p8 => ?_)
  refine wa ?_
  refine wa ?_
  refine nt' ?_
  refine CM_seq ?_
  refine sr ?_
  refine wv (fun W hm => rv_field Try.underlying45 rfl Try.type43 (by decide) rfl rfl) ?_
  refine wv (fun W hm => rv_load Try.underlying43 rfl rfl (hm.boxCell (n := 0) (o := 0) rfl rfl)) ?_
  refine wv (fun W hm => rv_len Try.underlying43 rfl) ?_
  refine wm ?_
  refine nt' ?_
  refine CM_block ?_
  refine CM_loop (σ := Nat × (Unit) × (Unit)) (fun s => [(1, .int .i64 x1), (11, .slice A4 x0.Segments.length c5), (12, .int .i64 ((x0.Segments.length : Nat) : Int)), (13, .int .i64 ((s.1 : Nat) : Int))]) (fun s => [iBox p8 45 [.slice A4 x0.Segments.length c5, .int .i64 x0.Now]]) (fun s => s.1 ≤ x0.Segments.length ∧ rng (R := (Int × Int)) (fun k (_ : Unit) => impl_findAlive_b1 x0 x1 k) (x0.Segments.length - s.1) s.1 s.2.1 = rng (R := (Int × Int)) (fun k (_ : Unit) => impl_findAlive_b1 x0 x1 k) (x0.Segments.length - 0) 0 ()) (fun s => x0.Segments.length - s.1) (0, (), ()) (subL_cons rfl (subL_cons rfl (subL_cons rfl (subL_cons rfl subL_nil)))) (fun W hm => hm) ⟨(by omega), rfl⟩ ?_
  rintro ⟨k9, ⟨⟩, ⟨⟩⟩ H12
  obtain ⟨hk10, hF11⟩ : k9 ≤ x0.Segments.length ∧ rng (R := (Int × Int)) (fun k (_ : Unit) => impl_findAlive_b1 x0 x1 k) (x0.Segments.length - k9) k9 () = rng (R := (Int × Int)) (fun k (_ : Unit) => impl_findAlive_b1 x0 x1 k) (x0.Segments.length - 0) 0 () := H12
  show CM Try.prog 38 _ _ _ _ [(1, .int .i64 x1), (11, .slice A4 x0.Segments.length c5), (12, .int .i64 ((x0.Segments.length : Nat) : Int)), (13, .int .i64 ((k9 : Nat) : Int))] [iBox p8 45 [.slice A4 x0.Segments.length c5, .int .i64 x0.Now]]
  refine sr ?_
  refine wv (fun W hm => rv_lss rfl rfl) ?_
  refine nt' ?_
  refine CM_seq ?_
  by_cases hl13 : k9 < x0.Segments.length
  · have g14 : (decide (((k9 : Nat) : Int) < ((x0.Segments.length : Nat) : Int))) = true := decide_eq_true (by omega)
    refine CM_condT rfl g14 ?_
    refine CM_skip ?_
    refine QM_then ?_
    refine CM_seq ?_
    refine CM_block ?_
    refine sr ?_
    refine wm ?_
    obtain ⟨a15, rfl, hb16, he17⟩ := q6 (by omega)
    refine wv (fun W hm => rv_index (sz := 1) (k := k9) Try.underlying43 Try.type100 rfl rfl rfl (by omega)) ?_
    obtain ⟨_, e19, hc18⟩ := he17 k9 _ (gt_some (show k9 < x0.Segments.length from by omega))
    obtain ⟨v20, rfl, r21⟩ := e19
    have r26 := r21
    obtain ⟨m22, A23, c24, rfl, q25⟩ := r21
    refine wv (fun W hm => rv_load Try.underlying100 rfl rfl ((hm.cell0 (show (a15.add (k9 * 1)).block < w.heap.size from by rw [add_block]; exact hb16.1)).trans (hc18 0 _ rfl))) ?_
    refine wa ?_
    refine wa ?_
    refine nt' ?_
    refine sr ?_
    refine wm ?_
    refine wv (fun W hm => rv_len Try.underlying100 rfl) ?_
    refine wm ?_
    refine nt' ?_
    refine CM_block ?_
    refine CM_loop (σ := Nat × (Unit) × (Unit)) (fun s => [(1, .int .i64 x1), (6, .int .i64 ((k9 : Nat) : Int)), (11, .slice (some a15) x0.Segments.length c5), (12, .int .i64 ((x0.Segments.length : Nat) : Int)), (13, .int .i64 ((k9 : Nat) : Int)), (18, .slice A23 ((gt x0.Segments k9)).length c24), (19, .int .i64 ((((gt x0.Segments k9)).length : Nat) : Int)), (20, .int .i64 ((s.1 : Nat) : Int))]) (fun s => [iBox p8 45 [.slice (some a15) x0.Segments.length c5, .int .i64 x0.Now]]) (fun s => s.1 ≤ ((gt x0.Segments k9)).length ∧ rng (R := (Int × Int)) (fun k (_ : Unit) => impl_findAlive_b2 x0 x1 k9 k) (((gt x0.Segments k9)).length - s.1) s.1 s.2.1 = rng (R := (Int × Int)) (fun k (_ : Unit) => impl_findAlive_b2 x0 x1 k9 k) (((gt x0.Segments k9)).length - 0) 0 ()) (fun s => ((gt x0.Segments k9)).length - s.1) (0, (), ()) (subL_cons rfl (subL_cons rfl (subL_cons rfl (subL_cons rfl (subL_cons rfl (subL_cons rfl (subL_cons rfl (subL_cons rfl subL_nil)))))))) (fun W hm => hm) ⟨(by omega), rfl⟩ ?_
    rintro ⟨k27, ⟨⟩, ⟨⟩⟩ H30
    obtain ⟨hk28, hF29⟩ : k27 ≤ ((gt x0.Segments k9)).length ∧ rng (R := (Int × Int)) (fun k (_ : Unit) => impl_findAlive_b2 x0 x1 k9 k) (((gt x0.Segments k9)).length - k27) k27 () = rng (R := (Int × Int)) (fun k (_ : Unit) => impl_findAlive_b2 x0 x1 k9 k) (((gt x0.Segments k9)).length - 0) 0 () := H30
    show CM Try.prog 38 _ _ _ _ [(1, .int .i64 x1), (6, .int .i64 ((k9 : Nat) : Int)), (11, .slice (some a15) x0.Segments.length c5), (12, .int .i64 ((x0.Segments.length : Nat) : Int)), (13, .int .i64 ((k9 : Nat) : Int)), (18, .slice A23 ((gt x0.Segments k9)).length c24), (19, .int .i64 ((((gt x0.Segments k9)).length : Nat) : Int)), (20, .int .i64 ((k27 : Nat) : Int))] [iBox p8 45 [.slice (some a15) x0.Segments.length c5, .int .i64 x0.Now]]
    refine sr ?_
    refine wv (fun W hm => rv_lss rfl rfl) ?_
    refine nt' ?_
    refine CM_seq ?_
    by_cases hl31 : k27 < ((gt x0.Segments k9)).length
    · have g32 : (decide (((k27 : Nat) : Int) < ((((gt x0.Segments k9)).length : Nat) : Int))) = true := decide_eq_true (by omega)
      refine CM_condT rfl g32 ?_
      refine CM_skip ?_
      refine QM_then ?_
      refine CM_seq ?_
      refine CM_block ?_
      refine sr ?_
      refine wm ?_
      obtain ⟨a33, rfl, hb34, he35⟩ := q25 (by omega)
      refine wv (fun W hm => rv_index (sz := 4) (k := k27) Try.underlying100 Try.type102 rfl rfl rfl (by omega)) ?_
      obtain ⟨_, e39, hc36⟩ := he35 k27 _ (gt_some (show k27 < ((gt x0.Segments k9)).length from by omega))
      obtain ⟨v37, rfl, r38⟩ := tyVersion_rd e39
      have r44 := r38
      obtain ⟨m40, A41, c42, rfl, q43⟩ := r38
      refine wv (fun W hm => rv_loadN (cs := [.int .i64 ((gt (gt x0.Segments k9) k27).Id), .slice A41 ((gt (gt x0.Segments k9) k27).Values).length c42, .int .i64 ((gt (gt x0.Segments k9) k27).Born), .int .i64 ((gt (gt x0.Segments k9) k27).Died)]) Try.underlying102 Try.type102 rfl rfl (hm.elCells (show (a33.add (k27 * 4)).block < w.heap.size from by rw [add_block]; exact hb34.1) hc36)) ?_
      refine WM_alloc Try.type102 rfl (Wd_none rfl) (by decide) (fun p45 => ?_)
      refine wa ?_
      refine WM_storeBox (p := p45) (o := 0) (cs := [.int .i64 0, .slice none 0 0, .int .i64 0, .int .i64 0]) (cs' := [.int .i64 ((gt (gt x0.Segments k9) k27).Id), .slice A41 ((gt (gt x0.Segments k9) k27).Values).length c42, .int .i64 ((gt (gt x0.Segments k9) k27).Born), .int .i64 ((gt (gt x0.Segments k9) k27).Died)]) (js := [iBox p8 45 [.slice (some a15) x0.Segments.length c5, .int .i64 x0.Now]]) (fun W hm => hm) Try.type102 rfl (Nat.le_of_ble_eq_true rfl) rfl rfl rfl rfl (Wd_none rfl) ?_
      refine nt' ?_
      refine sr ?_
      refine wv (fun W hm => rv_field Try.underlying102 rfl Try.type3 (by decide) rfl rfl) ?_
      refine wv (fun W hm => rv_load Try.underlying3 rfl rfl (hm.boxCell (n := 0) (o := 0) rfl rfl)) ?_
      refine wm ?_
      refine wv (fun W hm => rv_eql rfl rfl) ?_
      refine wm ?_
      by_cases h46 : ((gt (gt x0.Segments k9) k27).Id) = x1
      · have g47 : (((gt (gt x0.Segments k9) k27).Id) == x1) = true := beq_iff_eq.2 h46
        refine wg (fun W hm => rv_field Try.underlying102 rfl Try.type3 (by decide) rfl rfl) g47 ?_
        refine wg (fun W hm => rv_load Try.underlying3 rfl rfl (hm.boxCell (n := 0) (o := 3) rfl rfl)) g47 ?_
        refine wg (fun W hm => rv_eql rfl rfl) g47 ?_
        refine wv (fun W hm => rv_pickT rfl g47 rfl) ?_
        refine nt' ?_
        by_cases h48 : ((gt (gt x0.Segments k9) k27).Died) = (-1)
        · have g49 : (((gt (gt x0.Segments k9) k27).Died) == (-1)) = true := beq_iff_eq.2 h48
          refine CM_condT rfl g49 ?_
          refine sr ?_
          refine wm ?_
          refine wm ?_
          refine wa ?_
          refine wa ?_
          refine nt' ?_
          refine CM_ret ?_
          refine QM_block_ret ?_
          refine QM_then_ret ?_
          refine QM_then_ret ?_
          refine QM_block_ret ?_
          refine QM_block_ret ?_
          refine QM_then_ret ?_
          refine QM_then_ret ?_
          refine QM_block_ret ?_
          refine QM_then_ret ?_
          exact QM_r2 rfl (RR_tmp rfl) (RR_tmp rfl) (fun W hm => ⟨by rw [(show impl_findAlive_m x0 x1 = (((k9 : Nat) : Int), ((k27 : Nat) : Int)) from by unfold impl_findAlive_m; exact fin_inl (rng_ret (body := (fun k (_ : Unit) => impl_findAlive_b1 x0 x1 k)) (k := k9) (s := ()) (show k9 < x0.Segments.length from by omega) (show impl_findAlive_b1 x0 x1 k9 = Sum.inl (((k9 : Nat) : Int), ((k27 : Nat) : Int)) from by unfold impl_findAlive_b1; exact fin_inl (rng_ret (body := (fun k (_ : Unit) => impl_findAlive_b2 x0 x1 k9 k)) (k := k27) (s := ()) (show k27 < ((gt x0.Segments k9)).length from by omega) (show impl_findAlive_b2 x0 x1 k9 k27 = Sum.inl (((k9 : Nat) : Int), ((k27 : Nat) : Int)) from by unfold impl_findAlive_b2; exact cond_t g47 (cond_t g49 (rfl))) hF29) rfl) hF11) rfl)], hm.below⟩)
        · have g49 : (((gt (gt x0.Segments k9) k27).Died) == (-1)) = false := beq_eq_false_iff_ne.2 h48
          refine CM_condF rfl g49 ?_
          refine CM_skip ?_
          refine QM_block_normal ?_
          refine QM_then ?_
          refine CM_region ?_
          refine wv (fun W hm => rv_addN (p := k27) (q := 1) rfl rfl (by omega)) ?_
          refine wm ?_
          refine WM_nil ?_
          have hn50 := rng_next (R := (Int × Int)) (body := (fun k (_ : Unit) => impl_findAlive_b2 x0 x1 k9 k)) (k := k27) (s := ()) (s' := ()) (show k27 < ((gt x0.Segments k9)).length from by omega) (show impl_findAlive_b2 x0 x1 k9 k27 = Sum.inr () from by unfold impl_findAlive_b2; exact cond_t g47 (cond_f g49 (rfl))) hF29
          exact QM_round (k27 + 1, (), ()) (subL_cons rfl (subL_cons rfl (subL_cons rfl (subL_cons rfl (subL_cons rfl (subL_cons rfl (subL_cons rfl (subL_cons rfl subL_nil)))))))) (fun W hm => (hm.pick [1] (by decide))) ⟨(by omega), hn50⟩ (show ((gt x0.Segments k9)).length - (k27 + 1) < ((gt x0.Segments k9)).length - k27 from by omega)
      · have g47 : (((gt (gt x0.Segments k9) k27).Id) == x1) = false := beq_eq_false_iff_ne.2 h46
        refine ws g47 ?_
        refine ws g47 ?_
        refine ws g47 ?_
        refine wv (fun W hm => rv_pickF rfl g47 rfl) ?_
        refine nt' ?_
        refine CM_condF rfl rfl ?_
        refine CM_skip ?_
        refine QM_block_normal ?_
        refine QM_then ?_
        refine CM_region ?_
        refine wv (fun W hm => rv_addN (p := k27) (q := 1) rfl rfl (by omega)) ?_
        refine wm ?_
        refine WM_nil ?_
        have hn51 := rng_next (R := (Int × Int)) (body := (fun k (_ : Unit) => impl_findAlive_b2 x0 x1 k9 k)) (k := k27) (s := ()) (s' := ()) (show k27 < ((gt x0.Segments k9)).length from by omega) (show impl_findAlive_b2 x0 x1 k9 k27 = Sum.inr () from by unfold impl_findAlive_b2; exact cond_f g47 (rfl)) hF29
        exact QM_round (k27 + 1, (), ()) (subL_cons rfl (subL_cons rfl (subL_cons rfl (subL_cons rfl (subL_cons rfl (subL_cons rfl (subL_cons rfl (subL_cons rfl subL_nil)))))))) (fun W hm => (hm.pick [1] (by decide))) ⟨(by omega), hn51⟩ (show ((gt x0.Segments k9)).length - (k27 + 1) < ((gt x0.Segments k9)).length - k27 from by omega)
    · have g32 : (decide (((k27 : Nat) : Int) < ((((gt x0.Segments k9)).length : Nat) : Int))) = false := decide_eq_false (by omega)
      refine CM_condF rfl g32 ?_
      refine CM_exit ?_
      refine QM_then_exit ?_
      refine QM_then_exit ?_
      have hE52 : rng (R := (Int × Int)) (fun k (_ : Unit) => impl_findAlive_b2 x0 x1 k9 k) (((gt x0.Segments k9)).length - 0) 0 () = Sum.inr () := rng_end hl31 hF29
      refine QM_block_hit ?_
      refine QM_block_normal ?_
      refine QM_then ?_
      refine CM_region ?_
      refine wv (fun W hm => rv_addN (p := k9) (q := 1) rfl rfl (by omega)) ?_
      refine wm ?_
      refine WM_nil ?_
      have hn53 := rng_next (R := (Int × Int)) (body := (fun k (_ : Unit) => impl_findAlive_b1 x0 x1 k)) (k := k9) (s := ()) (s' := ()) (show k9 < x0.Segments.length from by omega) (show impl_findAlive_b1 x0 x1 k9 = Sum.inr () from by unfold impl_findAlive_b1; exact fin_inr hE52 (rfl)) hF11
      exact QM_round (k9 + 1, (), ()) (subL_cons rfl (subL_cons rfl (subL_cons rfl (subL_cons rfl subL_nil)))) (fun W hm => hm) ⟨(by omega), hn53⟩ (show x0.Segments.length - (k9 + 1) < x0.Segments.length - k9 from by omega)
  · have g14 : (decide (((k9 : Nat) : Int) < ((x0.Segments.length : Nat) : Int))) = false := decide_eq_false (by omega)
    refine CM_condF rfl g14 ?_
    refine CM_exit ?_
    refine QM_then_exit ?_
    refine QM_then_exit ?_
    have hE54 : rng (R := (Int × Int)) (fun k (_ : Unit) => impl_findAlive_b1 x0 x1 k) (x0.Segments.length - 0) 0 () = Sum.inr () := rng_end hl13 hF11
    refine QM_block_hit ?_
    refine QM_then ?_
    refine sr ?_
    refine wa ?_
    refine wa ?_
    refine nt' ?_
    refine CM_ret ?_
    exact QM_r2 rfl (RR_tmp rfl) (RR_tmp rfl) (fun W hm => ⟨by rw [(show impl_findAlive_m x0 x1 = ((-1), (-1)) from by unfold impl_findAlive_m; exact fin_inr hE54 (rfl))], hm.below⟩)

end Go.Proofs.Ytjcdginailhfmaa
