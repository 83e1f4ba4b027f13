/-
  Contracts of functions, printed by a program of ours.
-/
import Derived.Test.YtcjelfdpekbbkaaDoorL7F1
namespace Go.Proofs.YtcjelfdpekbbkaaDoor
open Go.RowKit
set_option maxRecDepth 100000
set_option maxHeartbeats 4000000
open _root_.Go.Proofs.Tryd
theorem rngb_as {R S : Type} {b : Nat → S → R ⊕ S} {b' : Nat → S → R ⊕ (S ⊕ S)} (h : ∀ j s, b' j s = Sum.elim Sum.inl (fun s => Sum.inr (Sum.inr s)) (b j s)) : ∀ m k s, rngb b' m k s = rng b m k s
  | 0, _, _ => rfl
  | m + 1, k, s => by
    rw [rngb, rng, h]
    cases b k s with
    | inl r => rfl
    | inr s' => exact rngb_as h m (k + 1) s'
theorem spec_MeetSets_form (x y : List Int) : spec_MeetSets_m x y = cond (spec_IsSet_m x && spec_IsSet_m y) (x.filter fun z => spec_HasMember_m y z) [] := by
  unfold spec_MeetSets_m
  cases hx : spec_IsSet_m x with
  | false => rw [rngb_false (fun j s => by unfold spec_MeetSets_b1; rw [hx]; rfl)]; rfl
  | true =>
    cases hy : spec_IsSet_m y with
    | false => rw [rngb_false (fun j s => by unfold spec_MeetSets_b1; rw [hx, hy]; rfl)]; rfl
    | true =>
      rw [rngb_as (b := fun k d => cond (spec_HasMember_m y (gt x k)) (Sum.inr (d ++ [gt x k])) (Sum.inr d)) (fun j s => by unfold spec_MeetSets_b1; rw [hx, hy, cond_true, cond_true]; cases spec_HasMember_m y (gt x j) <;> rfl)]
      rw [rng_fold (xs := x) (f := fun d z => cond (spec_HasMember_m y z) (d ++ [z]) d) (b := fun k d => cond (spec_HasMember_m y (gt x k)) (Sum.inr (d ++ [gt x k])) (Sum.inr d)) (fun j s _ => by cases spec_HasMember_m y (gt x j) <;> rfl), foldl_filter]
      rfl
theorem foldl_ids : ∀ (l : List DQuery) (d : List Int), (l.foldl (fun d q => d ++ [q.Id]) d).length = d.length + l.length
  | [], _ => rfl
  | q :: l, d => by
    have h := foldl_ids l (d ++ [q.Id])
    simp only [List.length_append, List.length_cons, List.length_nil] at h ⊢
    rw [List.foldl_cons, h]
    omega
theorem spec_l6All_len (l : List DQuery) : (spec_l6All_m l).length ≤ l.length := by
  unfold spec_l6All_m
  rw [rng_fold (xs := l) (f := fun d q => d ++ [q.Id]) (b := fun k s => spec_l6All_b1 l k s) (fun _ _ _ => rfl)]
  have h := foldl_ids l []
  show (l.foldl (fun d q => d ++ [q.Id]) []).length ≤ _
  rw [h]
  simp
theorem spec_FindSpan_sm {B : Nat} {l : List DSpan} (h : ∀ z ∈ l, smSpan B z) (v : Int) : (spec_FindSpan_m l v).length ≤ B := by
  unfold spec_FindSpan_m
  rcases rng_find (P := fun (r : List Int) => r.length ≤ B) (n := l.length) (b := fun k (_ : Unit) => spec_FindSpan_b1 l v k) (fun j hj => by
    show (∃ r, spec_FindSpan_b1 l v j = _ ∧ _) ∨ spec_FindSpan_b1 l v j = _
    unfold spec_FindSpan_b1
    cases spec_l1In_m v (gt l j).From (gt l j).To
    · exact .inr rfl
    · exact .inl ⟨_, rfl, h _ (gt_mem hj)⟩) (l.length - 0) 0 (by omega) with ⟨r, h1, h2⟩ | h1
  · rw [h1]; exact h2
  · rw [h1]; exact Nat.zero_le _
theorem spec_MeetSets_len (x y : List Int) : (spec_MeetSets_m x y).length ≤ x.length := by
  rw [spec_MeetSets_form]
  cases (spec_IsSet_m x && spec_IsSet_m y)
  · exact Nat.zero_le _
  · exact List.length_filter_le _ _
def spec_l6Probe_b1 (x0 : DIndex) (x1 : DRow) (x2 : (List Int)) (k38 : Nat) (d39 : (List Int)) (s42 : Int) : ((List Int) × Int) ⊕ (((List Int) × Int) ⊕ ((List Int) × Int)) :=
 cond (decide (0 < ((d39.length : Nat) : Int))) (Sum.inr (Sum.inr ((spec_MeetSets_m d39 (spec_FindSpan_m (gt x0.Fields ((gt x2 k38).toNat)) (gt x1.Values ((gt x2 k38).toNat)))), (IntKind.i64.wrap ((IntKind.i64.wrap (s42 + 1)) + (if (((spec_FindSpan_m (gt x0.Fields ((gt x2 k38).toNat)) (gt x1.Values ((gt x2 k38).toNat))).length : Nat) : Int) < ((d39.length : Nat) : Int) then (((spec_FindSpan_m (gt x0.Fields ((gt x2 k38).toNat)) (gt x1.Values ((gt x2 k38).toNat))).length : Nat) : Int) else ((d39.length : Nat) : Int))))))) (Sum.inr (Sum.inl (d39, s42)))
def spec_l6Probe_m (x0 : DIndex) (x1 : DRow) (x2 : (List Int)) : ((List Int) × Int) :=
 Sum.elim id (fun (s : (List Int) × Int) => (s.1, s.2)) (rngb (R := ((List Int) × Int)) (fun k (s : (List Int) × Int) => spec_l6Probe_b1 x0 x1 x2 k s.1 s.2) (x2.length - 0) 0 ((spec_l6All_m x0.Queries), 0))
theorem cb138 : Cb Tryd.prog 138 := ⟨f138, _, func138, rfl, by decide⟩
theorem spec_l6Probe_c (w : World) (z0 : List Value) (x0 : DIndex) (z1 : List Value) (x1 : DRow) (z2 : Value) (x2 : (List Int)) (r_0 : tyIndex.rd w w.heap.size z0 x0) (r_1 : tyRow.rd w w.heap.size z1 x1) (r_2 : rdS tInt w w.heap.size z2 x2) (s_0 : smIndex 68719476736 x0) (s_1 : smRow 68719476736 x1) (s_2 : x2.length ≤ 68719476736) (hf : x0.Fields.length = 3) (hv : x1.Values.length = 3) (ho : ∀ y ∈ x2, 0 ≤ y ∧ y ≤ 2) :
  Calls Tryd.prog 138 #[.agg z0.toArray, .agg z1.toArray, z2] w fun e w' => ∃ v : Value, e = .returned (.tuple #[v, .int .i64 ((spec_l6Probe_m x0 x1 x2).2)]) ∧ Mem w.heap.size w [iOwn (tSl tInt 3) [v] (spec_l6Probe_m x0 x1 x2).1] w' := by
 obtain ⟨v1, v3, rfl, r2, r4⟩ := tyIndex_rd r_0
 obtain ⟨m5, A6, c7, rfl, q8, r9⟩ := rdS_op r2
 obtain ⟨m10, A11, c12, rfl, q13, r14⟩ := rdS_op r4
 obtain ⟨v15, rfl, r16⟩ := tyRow_rd r_1
 obtain ⟨m17, A18, c19, rfl, q20, r21⟩ := rdS_op r16
 obtain ⟨m22, A23, c24, rfl, q25, r26⟩ := rdS_op r_2
 have l27 : x0.Queries.length ≤ 68719476736 := s_0.1.1
 have l28 : x0.Fields.length ≤ 68719476736 := s_0.2.1
 have l29 : x1.Values.length ≤ 68719476736 := s_1
 have l30 : x2.length ≤ 68719476736 := s_2
 refine ce3 (L := [(0, .agg #[.slice A6 x0.Queries.length c7, .slice A11 x0.Fields.length c12]), (1, .agg #[.int .i64 x1.Id, .slice A18 x1.Values.length c19]), (2, .slice A23 x2.length c24)]) (N := 56) func138 ?_
 refine sr ?_
 refine WM_box rfl (Wd_none rfl) (by decide) (fun p31 => ?_)
 refine WM_box rfl (Wd_none rfl) (by decide) (fun p32 => ?_)
 refine wa (wa (nt' (sr ?_)))
 refine wv (vf underlying139 rfl type123) ?_
 refine wv (vl 1 0 underlying123) ?_
 refine wcl (tSl tInt 3) (spec_l6All_m x0.Queries) (cl_fn cb142 rfl) (fun W hm => spec_l6All_c W _ x0.Queries (hm.rdS0 r9) s_0.1) (fun z33 => ?_)
 have ha := spec_l6All_len x0.Queries
 refine WM_form (n := 0) rfl ?_
 rintro A34 c35 rfl m36
 refine wa (nt' (sr (wa (nt' (CM_seq (sr (wa (nt' ?_))))))))
 let F1 := fun k (s : (List Int) × Int) => spec_l6Probe_b1 x0 x1 x2 k s.1 s.2
 let R2 := rngb (R := ((List Int) × Int)) F1
 let K3 : List Value := [.slice A6 x0.Queries.length c7, .slice A11 x0.Fields.length c12]
 let I5 : It := iBox p32 43 [.int .i64 x1.Id, .slice A18 x1.Values.length c19]
 refine CM_cut (σ := ((List Int) × Int) × (Option Addr × Nat)) (fun s => [(8, .slice s.2.1 s.1.1.length s.2.2), (9, .int .i64 s.1.2)]) (fun s => [iOwn (tSl tInt 3) [.slice s.2.1 s.1.1.length s.2.2] s.1.1, I5, iBox p31 139 K3]) (fun s => R2 (x2.length - 0) 0 ((spec_l6All_m x0.Queries), 0) = Sum.inr s.1) ?_ ?_
 ·
  refine CM_block ?_
  refine CM_loop (σ := Nat × ((List Int) × Int) × (Option Addr × Nat)) (fun s => [(2, .slice A23 x2.length c24), (3, .pointer (some (⟨p31, 0, none⟩ : Addr))), (4, .pointer (some (⟨p32, 0, none⟩ : Addr))), (8, .slice s.2.2.1 s.2.1.1.length s.2.2.2), (9, .int .i64 s.2.1.2), (10, .int .i64 ((s.1 : Nat) : Int))]) (fun s => [iOwn (tSl tInt 3) [.slice s.2.2.1 s.2.1.1.length s.2.2.2] s.2.1.1, I5, iBox p31 139 K3]) (fun s => s.1 ≤ x2.length ∧ R2 (x2.length - s.1) s.1 s.2.1 = R2 (x2.length - 0) 0 ((spec_l6All_m x0.Queries), 0) ∧ s.2.1.1.length ≤ 68719476736) (fun s => x2.length - s.1) (0, ((spec_l6All_m x0.Queries), 0), (A34, c35)) sl6 (fun W hm => hm) ⟨(by omega), rfl, (by have := s_0.1.1; dsimp only; omega)⟩ ?_
  rintro ⟨k38, ⟨d39, s42⟩, ⟨A40, c41⟩⟩ H45
  obtain ⟨hk43, hF44, hi46⟩ : k38 ≤ x2.length ∧ R2 (x2.length - k38) k38 (d39, s42) = R2 (x2.length - 0) 0 ((spec_l6All_m x0.Queries), 0) ∧ d39.length ≤ 68719476736 := H45
  let I6 : It := iOwn (tSl tInt 3) [.slice A40 d39.length c41] d39
  show CM Tryd.prog 56 _ _ _ _ [(2, .slice A23 x2.length c24), (3, .pointer (some (⟨p31, 0, none⟩ : Addr))), (4, .pointer (some (⟨p32, 0, none⟩ : Addr))), (8, .slice A40 d39.length c41), (9, .int .i64 s42), (10, .int .i64 ((k38 : Nat) : Int))] [I6, I5, iBox p31 139 K3]
  refine CM_seq (sr (wm (wm ?_)))
  refine wv (vlen underlying28) ?_
  refine wv vlss ?_
  refine wm ?_
  by_cases hl47 : k38 < x2.length
  ·have g48 := dlT hl47
   have hq := ho _ (gt_mem (show k38 < x2.length from by omega))
   refine wg vmv g48 ?_
   refine wg (vlen underlying28) g48 ?_
   refine wg (fun W hm => rv_gtr rfl rfl) g48 ?_
   refine wv (vpT g48) ?_
   refine nt' ?_
   by_cases h49 : 0 < ((d39.length : Nat) : Int)
   ·have g50 := decide_eq_true h49
    refine CM_condT rfl g50 ?_
    refine CM_skip (QM_then (CM_seq (CM_block (CM_seq ?_))))
    obtain ⟨a51, rfl, hb52, he53⟩ := q25 (by omega)
    obtain ⟨a54, rfl, hb55, he56⟩ := q13 (by omega)
    obtain ⟨_, e58, hc57⟩ := he56 ((gt x2 k38).toNat) _ (gt_some (show ((gt x2 k38).toNat) < x0.Fields.length from by omega))
    have l59 : (gt x0.Fields ((gt x2 k38).toNat)).length ≤ 68719476736 := (s_0.2.2 _ (gt_mem (show ((gt x2 k38).toNat) < x0.Fields.length from by omega))).1
    obtain ⟨v60, rfl, r61⟩ := e58
    obtain ⟨m62, A63, c64, rfl, q65, r66⟩ := rdS_op r61
    obtain ⟨a67, rfl, hb68, he69⟩ := q20 (by omega)
    let K4 : List Value := [.slice A6 x0.Queries.length c7, .slice (some a54) x0.Fields.length c12]
    let I7 : It := iBox p32 43 [.int .i64 x1.Id, .slice (some a67) x1.Values.length c19]
    refine CM_cut (σ := Option Addr × Nat) (fun s => [(2, .slice (some a51) x2.length c24), (3, .pointer (some (⟨p31, 0, none⟩ : Addr))), (4, .pointer (some (⟨p32, 0, none⟩ : Addr))), (8, .slice A40 d39.length c41), (9, .int .i64 s42), (10, .int .i64 ((k38 : Nat) : Int)), (11, .slice s.1 (spec_FindSpan_m (gt x0.Fields ((gt x2 k38).toNat)) (gt x1.Values ((gt x2 k38).toNat))).length s.2)]) (fun s => [iOwn (tSl tInt 3) [.slice s.1 (spec_FindSpan_m (gt x0.Fields ((gt x2 k38).toNat)) (gt x1.Values ((gt x2 k38).toNat))).length s.2] (spec_FindSpan_m (gt x0.Fields ((gt x2 k38).toNat)) (gt x1.Values ((gt x2 k38).toNat))), I6, I7, iBox p31 139 K4]) (fun _ => True) ?_ ?_
    ·
     refine rb 18 (s := [I6]) (pk [0]) ?_
     refine qt 18 0 1 rfl (vf underlying139 rfl type137) ?_
     refine qt 18 2 5 rfl vmv ?_
     refine qt 18 3 13 rfl vmv ?_
     refine qt 18 4 29 rfl (vix 1 k38 underlying28 type3) ?_
     refine qt 18 5 61 rfl (fun W hm => rv_load underlying3 rfl rfl ((hm.cell0 (show (a51.add (k38 * 1)).block < w.heap.size from by rw [add_block]; exact hb52.1)).trans (rdS_int he53 k38 (by omega)))) ?_
     refine qt 18 8 317 rfl (vf underlying43 rfl type28) ?_
     refine qt 18 10 1341 rfl vmv ?_
     refine qt 18 11 3389 rfl vmv ?_
     refine qt 18 12 7485 rfl (vix 1 k38 underlying28 type3) ?_
     refine qt 18 13 15677 rfl (fun W hm => rv_load underlying3 rfl rfl ((hm.cell0 (show (a51.add (k38 * 1)).block < w.heap.size from by rw [add_block]; exact hb52.1)).trans (rdS_int he53 k38 (by omega)))) ?_
     refine qa [1, 9] ?_
     refine qc 18 15679 rfl ?_ ?_
     ·
      refine wv (vl 2 1 underlying137) ?_
      refine qn (pk [0]) ?_
      refine qt 18 6 15743 rfl (fun W hm => rv_indexI (sz := 1) (k := (gt x2 k38)) underlying137 type156 rfl rfl rfl (by omega) (by omega)) ?_
      refine qt 18 7 15871 rfl (fun W hm => rv_load underlying156 rfl rfl ((hm.cell0 (show (a54.add (((gt x2 k38).toNat) * 1)).block < w.heap.size from by rw [add_block]; exact hb55.1)).trans (hc57 0 _ rfl))) ?_
      refine qo 18 9 16383 rfl ?_
      refine wv (vl 1 1 underlying28) ?_
      refine qn (pk [0]) ?_
      refine qt 18 14 32767 rfl (fun W hm => rv_indexI (sz := 1) (k := (gt x2 k38)) underlying28 type3 rfl rfl rfl (by omega) (by omega)) ?_
      refine qt 18 15 65535 rfl (fun W hm => rv_load underlying3 rfl rfl ((hm.cell0 (show (a67.add (((gt x2 k38).toNat) * 1)).block < w.heap.size from by rw [add_block]; exact hb68.1)).trans (rdS_int he69 ((gt x2 k38).toNat) (by omega)))) ?_
      refine qo 18 16 131071 rfl ?_
      refine wcl (tSl tInt 3) (spec_FindSpan_m (gt x0.Fields ((gt x2 k38).toNat)) (gt x1.Values ((gt x2 k38).toNat))) (cl_fn cb143 rfl) (fun W hm => spec_FindSpan_c W _ (gt x0.Fields ((gt x2 k38).toNat)) (gt x1.Values ((gt x2 k38).toNat)) (hm.rdS0 r66) (s_0.2.2 _ (gt_mem (show ((gt x2 k38).toNat) < x0.Fields.length from by omega)))) (fun z75 => ?_)
      refine WM_form (n := 0) rfl ?_
      rintro A76 c77 rfl m78
      refine qn (pk [1]) ?_
      refine qt 18 17 262143 rfl (fun W hm => rv_assign rfl) ?_
      refine QB_done (by kernel_rfl) ?_
      exact QM_cut_normal (A76, c77) sl7 (fun W hm => hm) trivial
     refine qc 18 16189 rfl ?_ ?_
     ·
      refine wv (vl 1 1 underlying28) ?_
      refine qn (pk [0]) ?_
      refine qt 18 14 32573 rfl (fun W hm => rv_indexI (sz := 1) (k := (gt x2 k38)) underlying28 type3 rfl rfl rfl (by omega) (by omega)) ?_
      refine qt 18 15 65341 rfl (fun W hm => rv_load underlying3 rfl rfl ((hm.cell0 (show (a67.add (((gt x2 k38).toNat) * 1)).block < w.heap.size from by rw [add_block]; exact hb68.1)).trans (rdS_int he69 ((gt x2 k38).toNat) (by omega)))) ?_
      refine qo 18 1 65343 rfl ?_
      refine wv (vl 2 1 underlying137) ?_
      refine qn (pk [0]) ?_
      refine qt 18 6 65407 rfl (fun W hm => rv_indexI (sz := 1) (k := (gt x2 k38)) underlying137 type156 rfl rfl rfl (by omega) (by omega)) ?_
      refine qt 18 7 65535 rfl (fun W hm => rv_load underlying156 rfl rfl ((hm.cell0 (show (a54.add (((gt x2 k38).toNat) * 1)).block < w.heap.size from by rw [add_block]; exact hb55.1)).trans (hc57 0 _ rfl))) ?_
      refine qo 18 16 131071 rfl ?_
      refine wcl (tSl tInt 3) (spec_FindSpan_m (gt x0.Fields ((gt x2 k38).toNat)) (gt x1.Values ((gt x2 k38).toNat))) (cl_fn cb143 rfl) (fun W hm => spec_FindSpan_c W _ (gt x0.Fields ((gt x2 k38).toNat)) (gt x1.Values ((gt x2 k38).toNat)) (hm.rdS0 r66) (s_0.2.2 _ (gt_mem (show ((gt x2 k38).toNat) < x0.Fields.length from by omega)))) (fun z80 => ?_)
      refine WM_form (n := 0) rfl ?_
      rintro A81 c82 rfl m83
      refine qn (pk [1]) ?_
      refine qt 18 17 262143 rfl (fun W hm => rv_assign rfl) ?_
      refine QB_done (by kernel_rfl) ?_
      exact QM_cut_normal (A81, c82) sl7 (fun W hm => hm) trivial
     exact QBs_nil
    ·
     rintro ⟨A71, c72⟩ -
     show QM 56 _ _ _ .normal [(2, .slice (some a51) x2.length c24), (3, .pointer (some (⟨p31, 0, none⟩ : Addr))), (4, .pointer (some (⟨p32, 0, none⟩ : Addr))), (8, .slice A40 d39.length c41), (9, .int .i64 s42), (10, .int .i64 ((k38 : Nat) : Int)), (11, .slice A71 (spec_FindSpan_m (gt x0.Fields ((gt x2 k38).toNat)) (gt x1.Values ((gt x2 k38).toNat))).length c72)] [iOwn (tSl tInt 3) [.slice A71 (spec_FindSpan_m (gt x0.Fields ((gt x2 k38).toNat)) (gt x1.Values ((gt x2 k38).toNat))).length c72] (spec_FindSpan_m (gt x0.Fields ((gt x2 k38).toNat)) (gt x1.Values ((gt x2 k38).toNat))), I6, I7, iBox p31 139 K4]
     refine QM_len (n := 0) rfl ?_
     intro m85 m86
     refine QM_then (sr (wm ?_))
     refine wv vadd ?_
     refine wm ?_
     refine wv (vlen underlying28) ?_
     refine wm ?_
     refine wv (vlen underlying28) ?_
     refine wv (fun W hm => rv_min rfl rfl) ?_
     refine wv vadd ?_
     refine wa (nt' (CM_region (wm (wm ?_))))
     refine wcl (tSl tInt 3) (spec_MeetSets_m d39 (spec_FindSpan_m (gt x0.Fields ((gt x2 k38).toNat)) (gt x1.Values ((gt x2 k38).toNat)))) (cl_fn cb144 rfl) (fun W hm => spec_MeetSets_c W _ d39 _ (spec_FindSpan_m (gt x0.Fields ((gt x2 k38).toNat)) (gt x1.Values ((gt x2 k38).toNat))) (hm.rdSI (n := 1) rfl) (hm.rdSI (n := 0) rfl) (show _ ≤ 68719476736 from by omega) (spec_FindSpan_sm (s_0.2.2 _ (gt_mem (by omega))).2 _)) (fun z87 => ?_)
     refine WM_form (n := 0) rfl ?_
     rintro A88 c89 rfl m90
     refine wa (WM_nil (QM_block_normal (QM_then (CM_region (wm ?_)))))
     refine wv (vadN k38 1 (by omega)) ?_
     refine wa (WM_nil ?_)
     have hn92 := rngb_next (R := ((List Int) × Int)) (body := F1) (k := k38) (s := (d39, s42)) (s' := ((spec_MeetSets_m d39 (spec_FindSpan_m (gt x0.Fields ((gt x2 k38).toNat)) (gt x1.Values ((gt x2 k38).toNat)))), (IntKind.i64.wrap ((IntKind.i64.wrap (s42 + 1)) + (if (((spec_FindSpan_m (gt x0.Fields ((gt x2 k38).toNat)) (gt x1.Values ((gt x2 k38).toNat))).length : Nat) : Int) < ((d39.length : Nat) : Int) then (((spec_FindSpan_m (gt x0.Fields ((gt x2 k38).toNat)) (gt x1.Values ((gt x2 k38).toNat))).length : Nat) : Int) else ((d39.length : Nat) : Int)))))) (show k38 < x2.length from by omega) (cond_t g50 (rfl)) hF44
     exact QM_round (k38 + 1, ((spec_MeetSets_m d39 (spec_FindSpan_m (gt x0.Fields ((gt x2 k38).toNat)) (gt x1.Values ((gt x2 k38).toNat)))), (IntKind.i64.wrap ((IntKind.i64.wrap (s42 + 1)) + (if (((spec_FindSpan_m (gt x0.Fields ((gt x2 k38).toNat)) (gt x1.Values ((gt x2 k38).toNat))).length : Nat) : Int) < ((d39.length : Nat) : Int) then (((spec_FindSpan_m (gt x0.Fields ((gt x2 k38).toNat)) (gt x1.Values ((gt x2 k38).toNat))).length : Nat) : Int) else ((d39.length : Nat) : Int))))), (A88, c89)) sl6 (pk [0, 3, 4]) ⟨(by omega), hn92, (show (spec_MeetSets_m d39 (spec_FindSpan_m (gt x0.Fields ((gt x2 k38).toNat)) (gt x1.Values ((gt x2 k38).toNat)))).length ≤ 68719476736 from by exact Nat.le_trans (spec_MeetSets_len _ _) hi46)⟩ (rl (by omega))
   ·have g50 := decide_eq_false h49
    refine CM_condF rfl g50 ?_
    refine CM_exit (QM_then_exit (QM_then_exit (QM_block_hit ?_)))
    have hE93 := rngb_brk (R := ((List Int) × Int)) (body := F1) (k := k38) (s := (d39, s42)) (s' := (d39, s42)) (show k38 < x2.length from by omega) (cond_f g50 (rfl)) hF44
    exact QM_cut_normal ((d39, s42), (A40, c41)) sl2 (fun W hm => hm) hE93
  ·have g48 := dlF hl47
   refine ws g48 ?_
   refine ws g48 ?_
   refine ws g48 ?_
   refine wv (vpF g48) ?_
   refine nt' ?_
   refine CM_condF rfl rfl ?_
   refine CM_exit (QM_then_exit (QM_then_exit (QM_block_hit ?_)))
   have hE94 : R2 (x2.length - 0) 0 ((spec_l6All_m x0.Queries), 0) = Sum.inr (d39, s42) := rngb_end hl47 hF44
   exact QM_cut_normal ((d39, s42), (A40, c41)) sl2 (fun W hm => hm) hE94
 ·
  rintro ⟨⟨d39, s42⟩, ⟨A40, c41⟩⟩ H96
  have hE95 : R2 (x2.length - 0) 0 ((spec_l6All_m x0.Queries), 0) = Sum.inr (d39, s42) := H96
  show QM 56 _ _ _ .normal [(8, .slice A40 d39.length c41), (9, .int .i64 s42)] [iOwn (tSl tInt 3) [.slice A40 d39.length c41] d39, I5, iBox p31 139 K3]
  refine QM_then (sr (wm (wm (wa (wa (nt' (CM_ret ?_)))))))
  have he97 := (show spec_l6Probe_m x0 x1 x2 = (d39, s42) from fin_inr hE95 (rfl))
  refine QM_r2 rfl (RR_tmp rfl) (RR_tmp rfl) (fun W hm => ⟨.slice A40 d39.length c41, ?_, ?_⟩)
  ·first | rw [he97] | rfl
   try rfl
  ·rw [he97]; exact (hm.pick [0] (by decide))

theorem spec_IsRow_len {r : DRow} (h : spec_IsRow_m r = true) : r.Values.length = 3 := by
  unfold spec_IsRow_m at h
  rw [rng_allN (p := fun k => spec_l1In_m (gt r.Values k) 0 99) (r := false) (fun k _ => by
    unfold spec_IsRow_b1
    cases spec_l1In_m (gt r.Values k) 0 99 <;> rfl)] at h
  by_cases h1 : r.Values.length = 3
  · exact h1
  · rw [beq_eq_false_iff_ne.2 (show ¬ ((r.Values.length : Nat) : Int) = 3 by omega)] at h
    revert h
    cases (List.range r.Values.length).all (fun k => spec_l1In_m (gt r.Values k) 0 99) <;> cases spec_l1In_m r.Id 0 999 <;> intro h <;> cases h
theorem spec_IsIndex_fact {x : DIndex} (h : spec_IsIndex_m x = true) : x.Fields.length = 3 := by
  unfold spec_IsIndex_m at h
  cases h1 : spec_AreQueries_m x.Queries <;> rw [h1] at h
  · cases h
  · by_cases h2 : ((x.Fields.length : Nat) : Int) = 3
    · omega
    · rw [bne_iff_ne.2 h2] at h
      cases h
theorem spec_Order_fact {x : List Int} (h : spec_l6Order_m x = true) : ∀ y ∈ x, 0 ≤ y ∧ y ≤ 2 := by
  unfold spec_l6Order_m at h
  rw [rng_allN (p := fun k => spec_l1In_m (gt x k) 0 2 && !spec_HasMember_m (List.take k x) (gt x k)) (r := false) (fun k _ => by
    unfold spec_l6Order_b1
    cases spec_l1In_m (gt x k) 0 2 <;> cases spec_HasMember_m (List.take k x) (gt x k) <;> rfl)] at h
  intro y hy
  obtain ⟨k, hk, rfl⟩ := List.getElem_of_mem hy
  rw [← gt_at hk]
  cases ha : (List.range x.length).all (fun k => spec_l1In_m (gt x k) 0 2 && !spec_HasMember_m (List.take k x) (gt x k)) with
  | false =>
    rw [ha] at h
    cases hl : (((x.length : Nat) : Int) != 3) <;> rw [hl] at h <;> cases h
  | true =>
    have h2 := List.all_eq_true.1 ha k (List.mem_range.2 hk)
    cases h3 : spec_l1In_m (gt x k) 0 2 with
    | false => rw [h3] at h2; cases h2
    | true => exact spec_l1In_fact h3
def spec_ProbeSet_m (x0 : DIndex) (x1 : DRow) (x2 : (List Int)) : ((List Int) × Int) :=
 cond (spec_IsIndex_m x0) (cond (spec_IsRow_m x1) (cond (spec_l6Order_m x2) ((spec_l6Probe_m x0 x1 x2).1, (spec_l6Probe_m x0 x1 x2).2) ([], 0)) ([], 0)) ([], 0)
theorem cb130 : Cb Tryd.prog 130 := ⟨f130, _, func130, rfl, by decide⟩
theorem spec_ProbeSet_c (w : World) (z0 : List Value) (x0 : DIndex) (z1 : List Value) (x1 : DRow) (z2 : Value) (x2 : (List Int)) (r_0 : tyIndex.rd w w.heap.size z0 x0) (r_1 : tyRow.rd w w.heap.size z1 x1) (r_2 : rdS tInt w w.heap.size z2 x2) (s_0 : smIndex 68719476736 x0) (s_1 : smRow 68719476736 x1) (s_2 : x2.length ≤ 68719476736) :
  Calls Tryd.prog 130 #[.agg z0.toArray, .agg z1.toArray, z2] w fun e w' => ∃ v : Value, e = .returned (.tuple #[v, .int .i64 ((spec_ProbeSet_m x0 x1 x2).2)]) ∧ Mem w.heap.size w [iOwn (tSl tInt 3) [v] (spec_ProbeSet_m x0 x1 x2).1] w' := by
 obtain ⟨v1, v3, rfl, r2, r4⟩ := tyIndex_rd r_0
 obtain ⟨m5, A6, c7, rfl, q8, r9⟩ := rdS_op r2
 obtain ⟨m10, A11, c12, rfl, q13, r14⟩ := rdS_op r4
 obtain ⟨v15, rfl, r16⟩ := tyRow_rd r_1
 obtain ⟨m17, A18, c19, rfl, q20, r21⟩ := rdS_op r16
 obtain ⟨m22, A23, c24, rfl, q25, r26⟩ := rdS_op r_2
 have l27 : x0.Queries.length ≤ 68719476736 := s_0.1.1
 have l28 : x0.Fields.length ≤ 68719476736 := s_0.2.1
 have l29 : x1.Values.length ≤ 68719476736 := s_1
 have l30 : x2.length ≤ 68719476736 := s_2
 refine ce3 (L := [(0, .agg #[.slice A6 x0.Queries.length c7, .slice A11 x0.Fields.length c12]), (1, .agg #[.int .i64 x1.Id, .slice A18 x1.Values.length c19]), (2, .slice A23 x2.length c24)]) (N := 33) func130 ?_
 refine sr ?_
 refine WM_box rfl (Wd_none rfl) (by decide) (fun p31 => ?_)
 refine WM_box rfl (Wd_none rfl) (by decide) (fun p32 => ?_)
 refine wa (wa (nt' (CM_seq (sr ?_))))
 let K1 : List Value := [.slice A6 x0.Queries.length c7, .slice A11 x0.Fields.length c12]
 refine wv (fun W hm => rv_loadN (cs := K1) underlying139 type139 rfl rfl (hm.boxCells (n := 1) rfl)) ?_
 refine wcv (cl_fn cb118 rfl) (fun W hm => spec_IsIndex_c W _ x0 (tyIndex_mk (x := x0) (hm.rdS0 r9) (hm.rdS0 r14)) s_0) ?_
 refine wv vnot ?_
 refine wm ?_
 rcases Bool.eq_false_or_eq_true (spec_IsIndex_m x0) with g34 | g34
 ·
  have hf := spec_IsIndex_fact g34
  refine wg (fun W hm => rv_loadN (cs := [.int .i64 x1.Id, .slice A18 x1.Values.length c19]) underlying43 type43 rfl rfl (hm.boxCells (n := 0) rfl)) (nt g34) ?_
  refine WM_callV (cl_fn cb76 rfl) (fun W hm => spec_IsRow_c W _ x1 (tyRow_mk (x := x1) (hm.rdS0 r21))) (Wd_some rfl rfl rfl (bw (nt g34) rfl)) (by decide) ?_
  refine wg vnot (nt g34) ?_
  refine wv (vpF (nt g34)) ?_
  refine wm ?_
  rcases Bool.eq_false_or_eq_true (spec_IsRow_m x1) with g36 | g36
  ·
   have hv := spec_IsRow_len g36
   refine wg vmv (nt g36) ?_
   refine WM_callV (cl_fn cb137 rfl) (fun W hm => spec_l6Order_c W _ x2 (hm.rdS0 r26)) (Wd_some rfl rfl rfl (bw (nt g36) rfl)) (by decide) ?_
   refine wg vnot (nt g36) ?_
   refine wv (vpF (nt g36)) ?_
   refine nt' ?_
   rcases Bool.eq_false_or_eq_true (spec_l6Order_m x2) with g38 | g38
   ·
    have ho := spec_Order_fact g38
    refine CM_condF rfl (nt g38) ?_
    refine CM_skip (QM_then (sr ?_))
    refine wv (fun W hm => rv_loadN (cs := K1) underlying139 type139 rfl rfl (hm.boxCells (n := 1) rfl)) ?_
    refine wv (fun W hm => rv_loadN (cs := [.int .i64 x1.Id, .slice A18 x1.Values.length c19]) underlying43 type43 rfl rfl (hm.boxCells (n := 0) rfl)) ?_
    refine wm ?_
    refine WM_call (χ := Value) (val := fun x => .tuple #[x, .int .i64 ((spec_l6Probe_m x0 x1 x2).2)]) (js := fun x => [iOwn (tSl tInt 3) [x] ((spec_l6Probe_m x0 x1 x2).1)]) (cl_fn cb138 rfl) (fun W hm => spec_l6Probe_c W _ x0 _ x1 _ x2 (tyIndex_mk (x := x0) (hm.rdS0 r9) (hm.rdS0 r14)) (tyRow_mk (x := x1) (hm.rdS0 r21)) (hm.rdS0 r26) s_0 s_1 s_2 (hf) (hv) (ho)) (Wd_none rfl) (by decide) (fun z39 => ?_)
    refine WM_form (n := 0) rfl ?_
    rintro A40 c41 rfl m42
    refine wm ?_
    refine wv (fun W hm => rv_extract rfl rfl) ?_
    refine wv (fun W hm => rv_extract rfl rfl) ?_
    refine wa (wa (nt' (sr (wm (wm (wa (wa (nt' (CM_ret ?_)))))))))
    have he44 := (show spec_ProbeSet_m x0 x1 x2 = ((spec_l6Probe_m x0 x1 x2).1, (spec_l6Probe_m x0 x1 x2).2) from cond_t g34 (cond_t g36 (cond_t g38 (rfl))))
    refine QM_r2 rfl (RR_tmp rfl) (RR_tmp rfl) (fun W hm => ⟨.slice A40 ((spec_l6Probe_m x0 x1 x2).1).length c41, ?_, ?_⟩)
    ·first | rw [he44] | rfl
     try rfl
    ·rw [he44]; exact (hm.pick [0] (by decide))
   ·
    refine CM_condT rfl (nf g38) ?_
    refine sr ?_
    refine WM_build0 (E := tInt) underlying28 type3 (Wd_none rfl) (by decide) (fun p45 => ?_)
    refine wa (wa (nt' (CM_ret (QM_then_ret ?_))))
    have he47 := (show spec_ProbeSet_m x0 x1 x2 = ([], 0) from cond_t g34 (cond_t g36 (cond_f g38 (rfl))))
    refine QM_r2 rfl (RR_tmp rfl) (RR_tmp rfl) (fun W hm => ⟨.slice (some ⟨p45, 0, none⟩) 0 0, ?_, ?_⟩)
    ·first | rw [he47] | rfl
     try rfl
    ·rw [he47]; exact (hm.pick [0] (by decide))
  ·
   refine ws (nf g36) ?_
   refine ws (nf g36) ?_
   refine ws (nf g36) ?_
   refine wv (vpT (nf g36)) ?_
   refine nt' ?_
   refine CM_condT rfl rfl ?_
   refine sr ?_
   refine WM_build0 (E := tInt) underlying28 type3 (Wd_none rfl) (by decide) (fun p48 => ?_)
   refine wa (wa (nt' (CM_ret (QM_then_ret ?_))))
   have he50 := (show spec_ProbeSet_m x0 x1 x2 = ([], 0) from cond_t g34 (cond_f g36 (rfl)))
   refine QM_r2 rfl (RR_tmp rfl) (RR_tmp rfl) (fun W hm => ⟨.slice (some ⟨p48, 0, none⟩) 0 0, ?_, ?_⟩)
   ·first | rw [he50] | rfl
    try rfl
   ·rw [he50]; exact (hm.pick [0] (by decide))
 ·
  refine ws (nf g34) ?_
  refine ws (nf g34) ?_
  refine ws (nf g34) ?_
  refine wv (vpT (nf g34)) ?_
  refine wm ?_
  refine wk ?_
  refine wk ?_
  refine wk ?_
  refine wv (vpT rfl) ?_
  refine nt' ?_
  refine CM_condT rfl rfl ?_
  refine sr ?_
  refine WM_build0 (E := tInt) underlying28 type3 (Wd_none rfl) (by decide) (fun p51 => ?_)
  refine wa (wa (nt' (CM_ret (QM_then_ret ?_))))
  have he53 := (show spec_ProbeSet_m x0 x1 x2 = ([], 0) from cond_f g34 (rfl))
  refine QM_r2 rfl (RR_tmp rfl) (RR_tmp rfl) (fun W hm => ⟨.slice (some ⟨p51, 0, none⟩) 0 0, ?_, ?_⟩)
  ·first | rw [he53] | rfl
   try rfl
  ·rw [he53]; exact (hm.pick [0] (by decide))

def spec_MatchSet_m (x0 : DIndex) (x1 : DRow) : (List Int) :=
 (spec_ProbeSet_m x0 x1 [0, 1, 2]).1
theorem cb119 : Cb Tryd.prog 119 := ⟨f119, _, func119, rfl, by decide⟩
theorem spec_MatchSet_c (w : World) (z0 : List Value) (x0 : DIndex) (z1 : List Value) (x1 : DRow) (r_0 : tyIndex.rd w w.heap.size z0 x0) (r_1 : tyRow.rd w w.heap.size z1 x1) (s_0 : smIndex 68719476736 x0) (s_1 : smRow 68719476736 x1) :
  Calls Tryd.prog 119 #[.agg z0.toArray, .agg z1.toArray] w fun e w' => ∃ v : Value, e = .returned (v) ∧ Mem w.heap.size w [iOwn (tSl tInt 3) [v] (spec_MatchSet_m x0 x1)] w' := by
 obtain ⟨v1, v3, rfl, r2, r4⟩ := tyIndex_rd r_0
 obtain ⟨m5, A6, c7, rfl, q8, r9⟩ := rdS_op r2
 obtain ⟨m10, A11, c12, rfl, q13, r14⟩ := rdS_op r4
 obtain ⟨v15, rfl, r16⟩ := tyRow_rd r_1
 obtain ⟨m17, A18, c19, rfl, q20, r21⟩ := rdS_op r16
 have l22 : x0.Queries.length ≤ 68719476736 := s_0.1.1
 have l23 : x0.Fields.length ≤ 68719476736 := s_0.2.1
 have l24 : x1.Values.length ≤ 68719476736 := s_1
 refine ce2 (L := [(0, .agg #[.slice A6 x0.Queries.length c7, .slice A11 x0.Fields.length c12]), (1, .agg #[.int .i64 x1.Id, .slice A18 x1.Values.length c19])]) (N := 15) func119 ?_
 refine sr ?_
 refine WM_box rfl (Wd_none rfl) (by decide) (fun p25 => ?_)
 refine WM_box rfl (Wd_none rfl) (by decide) (fun p26 => ?_)
 refine wa (nt' (sr ?_))
 refine wv (fun W hm => rv_loadN (cs := [.slice A6 x0.Queries.length c7, .slice A11 x0.Fields.length c12]) underlying139 type139 rfl rfl (hm.boxCells (n := 1) rfl)) ?_
 refine wv (fun W hm => rv_loadN (cs := [.int .i64 x1.Id, .slice A18 x1.Values.length c19]) underlying43 type43 rfl rfl (hm.boxCells (n := 0) rfl)) ?_
 refine WM_build (cs := [.int .i64 0, .int .i64 1, .int .i64 2]) underlying28 type3 rfl (by decide) (by decide) rfl (by kernel_rfl) (Wd_none rfl) (by decide) (fun p27 => ?_)
 refine WM_items (fun W hm => Mem.litOwn (E := tInt) (xs := [0, 1, 2]) rfl (show 3 ≤ maxLen from by decide) (fun _ => (els_cons (E := tInt) (L1 := []) tInt_own (els_cons (E := tInt) (L1 := []) tInt_own (els_cons (E := tInt) (L1 := []) tInt_own els_nil)))) hm) ?_
 refine WM_call (χ := Value) (val := fun x => .tuple #[x, .int .i64 ((spec_ProbeSet_m x0 x1 [0, 1, 2]).2)]) (js := fun x => [iOwn (tSl tInt 3) [x] ((spec_ProbeSet_m x0 x1 [0, 1, 2]).1)]) (cl_fn cb130 rfl) (fun W hm => spec_ProbeSet_c W _ x0 _ x1 _ [0, 1, 2] (tyIndex_mk (x := x0) (hm.rdS0 r9) (hm.rdS0 r14)) (tyRow_mk (x := x1) (hm.rdS0 r21)) (hm.rdSI (n := 0) rfl) s_0 s_1 (show (3 : Nat) ≤ 68719476736 from by decide)) (Wd_none rfl) (by decide) (fun z29 => ?_)
 refine WM_form (n := 0) rfl ?_
 rintro A30 c31 rfl m32
 refine wm ?_
 refine wv (fun W hm => rv_extract rfl rfl) ?_
 refine wv (fun W hm => rv_extract rfl rfl) ?_
 refine wa (wa (nt' (sr (wm (wa (nt' (CM_ret ?_)))))))
 have he34 := (show spec_MatchSet_m x0 x1 = (spec_ProbeSet_m x0 x1 [0, 1, 2]).1 from rfl)
 refine QM_r1 rfl (RR_tmp rfl) (fun W hm => ⟨.slice A30 ((spec_ProbeSet_m x0 x1 [0, 1, 2]).1).length c31, ?_, ?_⟩)
 ·first | rw [he34] | rfl
 ·rw [he34]; exact (hm.pick [0] (by decide))

def spec_l3Copy_m (x0 : DRow) : DRow :=
 x0
theorem cb79 : Cb Tryd.prog 79 := ⟨f79, _, func79, rfl, by decide⟩
theorem spec_l3Copy_c (w : World) (z0 : List Value) (x0 : DRow) (r_0 : tyRow.rd w w.heap.size z0 x0) (s_0 : smRow 68719476736 x0) :
  Calls Tryd.prog 79 #[.agg z0.toArray] w fun e w' => ∃ v : List Value, e = .returned (.agg v.toArray) ∧ Mem w.heap.size w [iOwn tyRow v (spec_l3Copy_m x0)] w' := by
 obtain ⟨v1, rfl, r2⟩ := tyRow_rd r_0
 obtain ⟨m3, A4, c5, rfl, q6, r7⟩ := rdS_op r2
 have l8 : x0.Values.length ≤ 68719476736 := s_0
 refine ce1 (L := [(0, .agg #[.int .i64 x0.Id, .slice A4 x0.Values.length c5])]) (N := 10) func79 ?_
 refine sr ?_
 refine WM_box rfl (Wd_none rfl) (by decide) (fun p9 => ?_)
 refine WM_alloc type43 rfl (Wd_none rfl) (by decide) (fun p10 => ?_)
 refine nt' (CM_seq ?_)
 let I1 : It := iBox p9 43 [.int .i64 x0.Id, .slice A4 x0.Values.length c5]
 refine rd2 8 [7] (s := [I1]) (s2 := [iBox p10 43 [.int .i64 0, .slice none 0 0], I1]) (pk [1]) (fun W hm => hm) ?_
 refine qtD 8 0 1 rfl (vf underlying43 rfl type3) ?_
 refine qtD 8 1 3 rfl (vl 1 0 underlying3) ?_
 refine qtD 8 3 11 rfl (vf underlying43 rfl type28) ?_
 refine qtD 8 4 27 rfl (vl 1 1 underlying28) ?_
 refine qoD 8 2 31 rfl ?_
 refine WM_build0 (E := tInt) underlying28 type3 (Wd_none rfl) (by decide) (fun p11 => ?_)
 refine qnD (pk [2]) (pk [1, 2]) ?_
 refine qoD 8 5 63 rfl ?_
 refine apR tInt tInt 3 (.slice (some ⟨p11, 0, none⟩) 0 0) [] x0.Values [iBox p10 43 [.int .i64 0, .slice none 0 0], I1] (fun W hm => hm) (fun W hm => src_flat flat_int (hm.rdS0 r7)) underlying28 type3 (show (0 + x0.Values.length) * 8 ≤ 140737488355328 from by omega) (fun v13 => ?_)
 refine WM_form (n := 0) rfl ?_
 rintro A14 c15 rfl m16
 refine qnD (pk [2]) (pk [1, 2]) ?_
 refine qtD 8 6 127 rfl (fun W hm => rv_build (cs := [.int .i64 x0.Id, .slice A14 x0.Values.length c15]) rfl (by kernel_rfl)) ?_
 refine qoD 8 7 255 rfl ?_
 let I2 : It := iOwn (tSl tInt 3) [.slice A14 x0.Values.length c15] x0.Values
 refine sb 0 [.int .i64 x0.Id, .slice A14 x0.Values.length c15] [I2, I1] (pk [1, 0, 2]) type43 ?_
 refine qxD (pk [2]) ?_
 refine QB_done (by kernel_rfl) ?_
 refine QM_then (CM_ret ?_)
 have he18 := (show spec_l3Copy_m x0 = x0 from rfl)
 refine QM_r1 rfl (RR_cell (n := 0) rfl rfl underlying43 type43 rfl) (fun W hm => ⟨[.int .i64 x0.Id, .slice A14 x0.Values.length c15], ?_, ?_⟩)
 ·first | rw [he18] | rfl
 ·rw [he18]; exact Mem.join (is := [I2]) (js := []) (fun _ _ hs => tyRow_join (x := x0) hs) (hm.pick [1] (by decide))
theorem spec_l3Copy_eq (x0 : DRow) : spec_l3Copy_m x0 = x0 := by
 rfl
theorem spec_l3Copy_c2 (w : World) (z0 : List Value) (x0 : DRow) (r_0 : tyRow.rd w w.heap.size z0 x0) (s_0 : smRow 68719476736 x0) :
  Calls Tryd.prog 79 #[.agg z0.toArray] w fun e w' => ∃ v : List Value, e = .returned (.agg v.toArray) ∧ Mem w.heap.size w [iOwn tyRow v x0] w' := by
 have h := spec_l3Copy_c w z0 x0 r_0 s_0
 rw [spec_l3Copy_eq] at h
 exact h

def spec_AnnotateRows_b1 (x0 : DIndex) (x1 : (List DRow)) (k26 : Nat) (d27 : (List DAnnotated)) : (List DAnnotated) ⊕ (((List DAnnotated)) ⊕ ((List DAnnotated))) :=
 cond (spec_IsIndex_m x0) (cond (decide (0 < (((spec_MatchSet_m x0 (gt x1 k26)).length : Nat) : Int))) (Sum.inr (Sum.inr (d27 ++ [(⟨(gt x1 k26), (spec_MatchSet_m x0 (gt x1 k26))⟩ : DAnnotated)]))) (Sum.inr (Sum.inr d27))) (Sum.inr (Sum.inl d27))
def spec_AnnotateRows_m (x0 : DIndex) (x1 : (List DRow)) : (List DAnnotated) :=
 Sum.elim id (fun (s : (List DAnnotated)) => s) (rngb (R := (List DAnnotated)) (fun k (s : (List DAnnotated)) => spec_AnnotateRows_b1 x0 x1 k s) (x1.length - 0) 0 [])
theorem cb108 : Cb Tryd.prog 108 := ⟨f108, _, func108, rfl, by decide⟩
theorem spec_AnnotateRows_c (w : World) (z0 : List Value) (x0 : DIndex) (z1 : Value) (x1 : (List DRow)) (r_0 : tyIndex.rd w w.heap.size z0 x0) (r_1 : rdS tyRow w w.heap.size z1 x1) (s_0 : smIndex 68719476736 x0) (s_1 : (x1.length ≤ 68719476736 ∧ ∀ y ∈ x1, smRow 68719476736 y)) :
  Calls Tryd.prog 108 #[.agg z0.toArray, z1] w fun e w' => ∃ v : Value, e = .returned (v) ∧ Mem w.heap.size w [iOwn (tSl tyAnnotated 72) [v] (spec_AnnotateRows_m x0 x1)] w' := by
 obtain ⟨v1, v3, rfl, r2, r4⟩ := tyIndex_rd r_0
 obtain ⟨m5, A6, c7, rfl, q8, r9⟩ := rdS_op r2
 obtain ⟨m10, A11, c12, rfl, q13, r14⟩ := rdS_op r4
 obtain ⟨m15, A16, c17, rfl, q18, r19⟩ := rdS_op r_1
 have l20 : x0.Queries.length ≤ 68719476736 := s_0.1.1
 have l21 : x0.Fields.length ≤ 68719476736 := s_0.2.1
 have l22 : x1.length ≤ 68719476736 := s_1.1
 refine ce2 (L := [(0, .agg #[.slice A6 x0.Queries.length c7, .slice A11 x0.Fields.length c12]), (1, .slice A16 x1.length c17)]) (N := 39) func108 ?_
 refine sr ?_
 refine WM_box rfl (Wd_none rfl) (by decide) (fun p23 => ?_)
 refine wa (nt' (sr ?_))
 refine WM_build0 (E := tyAnnotated) underlying65 type72 (Wd_none rfl) (by decide) (fun p24 => ?_)
 refine wa (nt' (CM_seq (sr (wa (nt' ?_)))))
 let F1 := fun k (s : (List DAnnotated)) => spec_AnnotateRows_b1 x0 x1 k s
 let R2 := rngb (R := (List DAnnotated)) F1
 let K3 : List Value := [.slice A6 x0.Queries.length c7, .slice A11 x0.Fields.length c12]
 refine CM_cut (σ := ((List DAnnotated)) × (Option Addr × Nat)) (fun s => [(5, .slice s.2.1 s.1.length s.2.2)]) (fun s => [iOwn (tSl tyAnnotated 72) [.slice s.2.1 s.1.length s.2.2] s.1, iBox p23 139 K3]) (fun s => R2 (x1.length - 0) 0 [] = Sum.inr s.1) ?_ ?_
 ·
  refine CM_block ?_
  refine CM_loop (σ := Nat × ((List DAnnotated)) × (Option Addr × Nat)) (fun s => [(1, .slice A16 x1.length c17), (2, .pointer (some (⟨p23, 0, none⟩ : Addr))), (5, .slice s.2.2.1 s.2.1.length s.2.2.2), (6, .int .i64 ((s.1 : Nat) : Int))]) (fun s => [iOwn (tSl tyAnnotated 72) [.slice s.2.2.1 s.2.1.length s.2.2.2] s.2.1, iBox p23 139 K3]) (fun s => s.1 ≤ x1.length ∧ R2 (x1.length - s.1) s.1 s.2.1 = R2 (x1.length - 0) 0 [] ∧ s.2.1.length ≤ 0 + s.1) (fun s => x1.length - s.1) (0, [], ((some ⟨p24, 0, none⟩), 0)) sl4 (fun W hm => hm) ⟨(by omega), rfl, Nat.le_refl _⟩ ?_
  rintro ⟨k26, d27, ⟨A28, c29⟩⟩ H32
  obtain ⟨hk30, hF31, hi33⟩ : k26 ≤ x1.length ∧ R2 (x1.length - k26) k26 d27 = R2 (x1.length - 0) 0 [] ∧ d27.length ≤ 0 + k26 := H32
  let I6 : It := iOwn (tSl tyAnnotated 72) [.slice A28 d27.length c29] d27
  show CM Tryd.prog 39 _ _ _ _ [(1, .slice A16 x1.length c17), (2, .pointer (some (⟨p23, 0, none⟩ : Addr))), (5, .slice A28 d27.length c29), (6, .int .i64 ((k26 : Nat) : Int))] [I6, iBox p23 139 K3]
  refine CM_seq (sr (wm (wm ?_)))
  refine wv (vlen underlying75) ?_
  refine wv vlss ?_
  refine wm ?_
  by_cases hl34 : k26 < x1.length
  ·have g35 := dlT hl34
   refine wg (fun W hm => rv_loadN (cs := K3) underlying139 type139 rfl rfl (hm.boxCells (n := 1) rfl)) g35 ?_
   refine WM_callV (cl_fn cb118 rfl) (fun W hm => spec_IsIndex_c W _ x0 (tyIndex_mk (x := x0) (hm.rdS0 r9) (hm.rdS0 r14)) s_0) (Wd_some rfl rfl rfl (bw g35 rfl)) (by decide) ?_
   refine wv (vpT g35) ?_
   refine nt' ?_
   rcases Bool.eq_false_or_eq_true (spec_IsIndex_m x0) with g37 | g37
   ·
    refine CM_condT rfl g37 ?_
    refine CM_skip (QM_then (CM_seq (CM_block (CM_seq ?_))))
    refine rb 7 (s := [I6, iBox p23 139 K3]) (fun W hm => hm) ?_
    refine qt 7 0 1 rfl (fun W hm => rv_loadN (cs := K3) underlying139 type139 rfl rfl (hm.boxCells (n := 1) rfl)) ?_
    refine qt 7 1 3 rfl vmv ?_
    refine qt 7 2 7 rfl vmv ?_
    obtain ⟨a38, rfl, hb39, he40⟩ := q18 (by omega)
    refine qt 7 3 15 rfl (vix 2 k26 underlying75 type43) ?_
    obtain ⟨_, e44, hc41⟩ := he40 k26 _ (gt_some (show k26 < x1.length from by omega))
    obtain ⟨v42, rfl, r43⟩ := tyRow_rd e44
    have l45 : ((gt x1 k26).Values).length ≤ 68719476736 := (s_1.2 _ (gt_mem (show k26 < x1.length from by omega)))
    obtain ⟨m46, A47, c48, rfl, q49, r50⟩ := rdS_op r43
    let K4 : List Value := [.int .i64 ((gt x1 k26).Id), .slice A47 ((gt x1 k26).Values).length c48]
    refine qt 7 4 31 rfl (fun W hm => rv_loadN (cs := K4) underlying43 type43 rfl rfl (hm.elCells (show (a38.add (k26 * 2)).block < w.heap.size from by rw [add_block]; exact hb39.1) hc41)) ?_
    refine qo 7 5 63 rfl ?_
    refine wcl (tSl tInt 3) (spec_MatchSet_m x0 (gt x1 k26)) (cl_fn cb119 rfl) (fun W hm => spec_MatchSet_c W _ x0 _ (gt x1 k26) (tyIndex_mk (x := x0) (hm.rdS0 r9) (hm.rdS0 r14)) (tyRow_mk (x := (gt x1 k26)) (hm.rdS0 r50)) s_0 (s_1.2 _ (gt_mem (show k26 < x1.length from by omega)))) (fun z51 => ?_)
    refine WM_form (n := 0) rfl ?_
    rintro A52 c53 rfl m54
    refine qn (pk [1, 2]) ?_
    refine qt 7 6 127 rfl (fun W hm => rv_assign rfl) ?_
    refine QB_done (by kernel_rfl) ?_
    refine QM_then (sr (wm ?_))
    refine wv (vlen underlying28) ?_
    refine wv (fun W hm => rv_gtr rfl rfl) ?_
    refine nt' ?_
    by_cases h56 : 0 < (((spec_MatchSet_m x0 (gt x1 k26)).length : Nat) : Int)
    ·have g57 := decide_eq_true h56
     refine CM_condT rfl g57 ?_
     refine CM_region (wm (wm (wm ?_)))
     refine wv (vix 2 k26 underlying75 type43) ?_
     refine wv (fun W hm => rv_loadN (cs := K4) underlying43 type43 rfl rfl (hm.elCells (show (a38.add (k26 * 2)).block < w.heap.size from by rw [add_block]; exact hb39.1) hc41)) ?_
     refine wcs tyRow (gt x1 k26) (cl_fn cb79 rfl) (fun W hm => spec_l3Copy_c2 W _ (gt x1 k26) (tyRow_mk (x := (gt x1 k26)) (hm.rdS0 r50)) (s_1.2 _ (gt_mem (show k26 < x1.length from by omega)))) (fun z58 => ?_)
     refine tyRow_sp ?_
     rintro v59 rfl
     refine WM_form (n := 0) rfl ?_
     rintro A60 c61 rfl m62
     refine wm ?_
     let K5 : List Value := [.int .i64 ((gt x1 k26).Id), .slice A60 ((gt x1 k26).Values).length c61, .slice A52 (spec_MatchSet_m x0 (gt x1 k26)).length c53]
     refine wv (fun W hm => rv_build (cs := K5) rfl (by kernel_rfl)) ?_
     refine WM_build (cs := K5) underlying65 type72 rfl (by decide) (by decide) rfl (by kernel_rfl) (Wd_none rfl) (by decide) (fun p64 => ?_)
     refine ap1 tyAnnotated 72 (.slice A28 d27.length c29) d27 (⟨(gt x1 k26), (spec_MatchSet_m x0 (gt x1 k26))⟩ : DAnnotated) [iOwn (tSl tInt 3) [.slice A60 ((gt x1 k26).Values).length c61] ((gt x1 k26).Values), iOwn (tSl tInt 3) [.slice A52 (spec_MatchSet_m x0 (gt x1 k26)).length c53] (spec_MatchSet_m x0 (gt x1 k26))] [iBox p23 139 K3] K5 (pk [0, 3, 1, 2, 4]) (fun _ _ hs => Els.single (tyAnnotated_join (x := (⟨(gt x1 k26), (spec_MatchSet_m x0 (gt x1 k26))⟩ : DAnnotated)) hs)) underlying65 type72 (show (d27.length + 1) * 56 ≤ 140737488355328 from by omega) (fun v65 => ?_)
     refine WM_form (n := 0) rfl ?_
     rintro A66 c67 rfl m68
     refine wa (WM_nil (QM_block_normal (QM_then (CM_region (wm ?_)))))
     refine wv (vadN k26 1 (by omega)) ?_
     refine wa (WM_nil ?_)
     have hn70 := rngb_next (R := (List DAnnotated)) (body := F1) (k := k26) (s := d27) (s' := (d27 ++ [(⟨(gt x1 k26), (spec_MatchSet_m x0 (gt x1 k26))⟩ : DAnnotated)])) (show k26 < x1.length from by omega) (cond_t g37 (cond_t g57 (rfl))) hF31
     exact QM_round (k26 + 1, (d27 ++ [(⟨(gt x1 k26), (spec_MatchSet_m x0 (gt x1 k26))⟩ : DAnnotated)]), (A66, c67)) sl4 (fun W hm => hm) ⟨(by omega), hn70, (show (d27 ++ [(⟨(gt x1 k26), (spec_MatchSet_m x0 (gt x1 k26))⟩ : DAnnotated)]).length ≤ 0 + (k26 + 1) from by first | omega | (simp only [List.length_append, List.length_cons, List.length_nil] at *; omega))⟩ (rl (by omega))
    ·have g57 := decide_eq_false h56
     refine CM_condF rfl g57 ?_
     refine CM_skip (QM_block_normal (QM_then (CM_region (wm ?_))))
     refine wv (vadN k26 1 (by omega)) ?_
     refine wa (WM_nil ?_)
     have hn71 := rngb_next (R := (List DAnnotated)) (body := F1) (k := k26) (s := d27) (s' := d27) (show k26 < x1.length from by omega) (cond_t g37 (cond_f g57 (rfl))) hF31
     exact QM_round (k26 + 1, d27, (A28, c29)) sl4 (pk [1, 2]) ⟨(by omega), hn71, (show d27.length ≤ 0 + (k26 + 1) from by first | omega | (simp only [List.length_append, List.length_cons, List.length_nil] at *; omega))⟩ (rl (by omega))
   ·
    refine CM_condF rfl g37 ?_
    refine CM_exit (QM_then_exit (QM_then_exit (QM_block_hit ?_)))
    have hE72 := rngb_brk (R := (List DAnnotated)) (body := F1) (k := k26) (s := d27) (s' := d27) (show k26 < x1.length from by omega) (cond_f g37 (rfl)) hF31
    exact QM_cut_normal (d27, (A28, c29)) (subL_cons rfl subL_nil) (fun W hm => hm) hE72
  ·have g35 := dlF hl34
   refine ws g35 ?_
   refine ws g35 ?_
   refine wv (vpF g35) ?_
   refine nt' ?_
   refine CM_condF rfl rfl ?_
   refine CM_exit (QM_then_exit (QM_then_exit (QM_block_hit ?_)))
   have hE73 : R2 (x1.length - 0) 0 [] = Sum.inr d27 := rngb_end hl34 hF31
   exact QM_cut_normal (d27, (A28, c29)) (subL_cons rfl subL_nil) (fun W hm => hm) hE73
 ·
  rintro ⟨d27, ⟨A28, c29⟩⟩ H75
  have hE74 : R2 (x1.length - 0) 0 [] = Sum.inr d27 := H75
  show QM 39 _ _ _ .normal [(5, .slice A28 d27.length c29)] [iOwn (tSl tyAnnotated 72) [.slice A28 d27.length c29] d27, iBox p23 139 K3]
  refine QM_then (sr (wm (wa (nt' (CM_ret ?_)))))
  have he76 := (show spec_AnnotateRows_m x0 x1 = d27 from fin_inr hE74 (rfl))
  refine QM_r1 rfl (RR_tmp rfl) (fun W hm => ⟨.slice A28 d27.length c29, ?_, ?_⟩)
  ·first | rw [he76] | rfl
  ·rw [he76]; exact (hm.pick [0] (by decide))

theorem rng_invP {R S : Type} {b : Nat → S → R ⊕ S} {P : Nat → S → Prop} (h : ∀ k s, P k s → ∃ s', b k s = .inr s' ∧ P (k + 1) s') : ∀ m k s, P k s → ∃ s', rng b m k s = .inr s' ∧ P (k + m) s'
  | 0, _, s, hp => ⟨s, rfl, hp⟩
  | m + 1, k, s, hp => by
    obtain ⟨s', h1, h2⟩ := h k s hp
    obtain ⟨s'', h3, h4⟩ := rng_invP (P := P) h m (k + 1) s' h2
    exact ⟨s'', by rw [rng, h1]; exact h3, by rw [show k + (m + 1) = k + 1 + m by omega]; exact h4⟩
theorem rngb_invP {R S : Type} {b : Nat → S → R ⊕ (S ⊕ S)} {P : Nat → S → Prop} {Q : S → Prop} (h : ∀ k s, P k s → (∃ s', b k s = .inr (.inr s') ∧ P (k + 1) s') ∨ ∃ s', b k s = .inr (.inl s') ∧ Q s') : ∀ m k s, P k s → ∃ s', rngb b m k s = .inr s' ∧ (Q s' ∨ P (k + m) s')
  | 0, _, s, hp => ⟨s, rfl, .inr hp⟩
  | m + 1, k, s, hp => by
    rcases h k s hp with ⟨s', h1, h2⟩ | ⟨s', h1, h2⟩
    · obtain ⟨s'', h3, h4⟩ := rngb_invP (P := P) (Q := Q) h m (k + 1) s' h2
      exact ⟨s'', by rw [rngb, h1]; exact h3, by rw [show k + (m + 1) = k + 1 + m by omega]; exact h4⟩
    · exact ⟨s', by rw [rngb, h1]; rfl, .inl h2⟩
theorem spec_l3Wide (b : List Int) (D : Dl1Cur) : 0 < (spec_l1PickInt_m b D [3, 6, 100]).1 ∧ (spec_l1PickInt_m b D [3, 6, 100]).1 ≤ 100 := by
  have h := spec_l1Below_rng b D (([3, 6, 100] : List Int).length : Nat)
  have h1 := h.2.1 (by decide)
  have h2 : (spec_l1Below_m b D ((([3, 6, 100] : List Int).length : Nat) : Int)).1.toNat < 3 := by
    have : ((([3, 6, 100] : List Int).length : Nat) : Int) = 3 := rfl
    omega
  show 0 < gt [3, 6, 100] (spec_l1Below_m b D ((([3, 6, 100] : List Int).length : Nat) : Int)).1.toNat ∧ gt [3, 6, 100] (spec_l1Below_m b D ((([3, 6, 100] : List Int).length : Nat) : Int)).1.toNat ≤ 100
  generalize (spec_l1Below_m b D ((([3, 6, 100] : List Int).length : Nat) : Int)).1.toNat = j at h2
  have h3 : j = 0 ∨ j = 1 ∨ j = 2 := by omega
  rcases h3 with rfl | rfl | rfl <;> decide
theorem spec_l3Row_fact (b : List Int) (D : Dl1Cur) (i : Int) : (spec_l3Row_m b D i).1.Id = i ∧ (spec_l3Row_m b D i).1.Values.length = 3 ∧ ∀ v ∈ (spec_l3Row_m b D i).1.Values, 0 ≤ v ∧ v ≤ 99 := by
  unfold spec_l3Row_m
  have hw := spec_l3Wide b D
  obtain ⟨s', h1, h2, h3⟩ := rng_invP (R := (DRow × Dl1Cur)) (b := fun k (s : Nat × Int × (List Int)) => spec_l3Row_b1 b D k s.1 s.2.1 s.2.2) (P := fun k s => s.2.2.length = k ∧ ∀ v ∈ s.2.2, 0 ≤ v ∧ v ≤ 99) (fun k s hp => by
    refine ⟨_, rfl, ?_, ?_⟩
    · show (s.2.2 ++ [_]).length = k + 1
      rw [List.length_append, hp.1]; rfl
    · intro v hv
      have hv' : v ∈ s.2.2 ++ [(spec_l1Below_m b (⟨s.1, s.2.1⟩ : Dl1Cur) (spec_l1PickInt_m b D [3, 6, 100]).1).1] := hv
      rcases List.mem_append.1 hv' with hv | hv
      · exact hp.2 v hv
      · rw [List.mem_singleton.1 hv]
        have h := spec_l1Below_rng b (⟨s.1, s.2.1⟩ : Dl1Cur) (spec_l1PickInt_m b D [3, 6, 100]).1
        have h4 := h.2.1 hw.1
        omega) (3 - 0) 0 (((spec_l1PickInt_m b D [3, 6, 100]).2).i, ((spec_l1PickInt_m b D [3, 6, 100]).2).h, []) ⟨rfl, fun v hv => by cases hv⟩
  rw [h1]
  exact ⟨rfl, h2, h3⟩
def rowsP (l : List DRow) : Prop := (∀ r ∈ l, 0 ≤ r.Id ∧ r.Id ≤ 999 ∧ r.Values.length = 3 ∧ ∀ v ∈ r.Values, 0 ≤ v ∧ v ≤ 99) ∧ ∀ j, j + 1 < l.length → (gt l j).Id < (gt l (j + 1)).Id
theorem gt_app_lt {α : Type} [Inhabited α] {l : List α} {x : α} {j : Nat} (h : j < l.length) : gt (l ++ [x]) j = gt l j := by
  unfold gt
  rw [List.getD_eq_getElem?_getD, List.getD_eq_getElem?_getD, List.getElem?_append_left h]
theorem gt_app_eq {α : Type} [Inhabited α] {l : List α} {x : α} {j : Nat} (h : j = l.length) : gt (l ++ [x]) j = x := by
  subst h
  unfold gt
  rw [List.getD_eq_getElem?_getD, List.getElem?_append_right (Nat.le_refl _), Nat.sub_self]
  rfl
theorem spec_l3Rows_fact (b : List Int) (D : Dl1Cur) (x1 : Int) (h0 : 0 ≤ x1) (h1 : x1 ≤ 100) : rowsP (spec_l3Rows_m b D x1).1 ∧ (((spec_l3Rows_m b D x1).1.length : Nat) : Int) ≤ x1 := by
  have hw2 := wrap_id (n := x1 + 1) (by omega) (by omega)
  unfold spec_l3Rows_m
  rw [hw2]
  have hb1 := spec_l1Below_rng b D 3
  have hb2 := spec_l1Below_rng b (spec_l1Below_m b D 3).2 (x1 + 1)
  have hn1 := hb1.2.1 (by omega)
  have hn2 := hb2.2.1 (by omega)
  generalize (spec_l1Below_m b D 3).1 = id0 at hb1 hn1
  generalize hG : spec_l1Below_m b (spec_l1Below_m b D 3).2 (x1 + 1) = G at hb2 hn2
  obtain ⟨s', h2, h3⟩ := rngb_invP (R := ((List DRow) × Dl1Cur)) (b := fun k (s : (List DRow) × Int × Int × Nat × Int) => spec_l3Rows_b1 b k s.1 s.2.1 s.2.2.1 s.2.2.2.1 s.2.2.2.2)
    (P := fun k s => rowsP s.1 ∧ s.1.length = k ∧ 0 ≤ s.2.2.1 ∧ s.2.2.1 + (k : Int) = G.1 ∧ 0 ≤ s.2.1 ∧ s.2.1 ≤ 2 + 3 * (k : Int) ∧ ∀ r ∈ s.1, r.Id < s.2.1)
    (Q := fun s => rowsP s.1 ∧ ((s.1.length : Nat) : Int) ≤ x1) (fun k s ⟨p1, p2, p3, p4, p5, p6, p7⟩ => by
      show (∃ s', spec_l3Rows_b1 b k s.1 s.2.1 s.2.2.1 s.2.2.2.1 s.2.2.2.2 = _ ∧ _) ∨ ∃ s', spec_l3Rows_b1 b k s.1 s.2.1 s.2.2.1 s.2.2.2.1 s.2.2.2.2 = _ ∧ _
      unfold spec_l3Rows_b1
      by_cases h : 0 < s.2.2.1
      · rw [decide_eq_true h, cond_true]
        have hr := spec_l3Row_fact b (⟨s.2.2.2.1, s.2.2.2.2⟩ : Dl1Cur) s.2.1
        have hb := spec_l1Below_rng b (spec_l3Row_m b (⟨s.2.2.2.1, s.2.2.2.2⟩ : Dl1Cur) s.2.1).2 3
        have hb' := hb.2.1 (by omega)
        have w1 := wrap_id (n := s.2.1 + 1) (by omega) (by omega)
        have w2 := wrap_id (n := s.2.1 + 1 + (spec_l1Below_m b (spec_l3Row_m b (⟨s.2.2.2.1, s.2.2.2.2⟩ : Dl1Cur) s.2.1).2 3).1) (by omega) (by omega)
        have w3 := wrap_id (n := s.2.2.1 - 1) (by omega) (by omega)
        refine .inl ⟨_, rfl, ⟨fun r hr2 => ?_, fun j hj => ?_⟩, ?_, ?_, ?_, ?_, ?_, fun r hr2 => ?_⟩
        · rcases List.mem_append.1 hr2 with hr2 | hr2
          · exact p1.1 r hr2
          · rw [List.mem_singleton.1 hr2]
            exact ⟨by rw [hr.1]; exact p5, by rw [hr.1]; omega, hr.2.1, hr.2.2⟩
        · have hj' : j + 1 < (s.1 ++ [(spec_l3Row_m b (⟨s.2.2.2.1, s.2.2.2.2⟩ : Dl1Cur) s.2.1).1]).length := hj
          rw [List.length_append] at hj'
          show (gt (s.1 ++ [(spec_l3Row_m b (⟨s.2.2.2.1, s.2.2.2.2⟩ : Dl1Cur) s.2.1).1]) j).Id < (gt (s.1 ++ [(spec_l3Row_m b (⟨s.2.2.2.1, s.2.2.2.2⟩ : Dl1Cur) s.2.1).1]) (j + 1)).Id
          have hlen : ([(spec_l3Row_m b (⟨s.2.2.2.1, s.2.2.2.2⟩ : Dl1Cur) s.2.1).1]).length = 1 := rfl
          by_cases hj2 : j + 1 < s.1.length
          · rw [gt_app_lt (by omega), gt_app_lt hj2]
            exact p1.2 j hj2
          · rw [gt_app_lt (by omega), gt_app_eq (by omega), hr.1]
            exact p7 _ (gt_mem (by omega))
        · show (s.1 ++ [_]).length = k + 1
          rw [List.length_append, p2]; rfl
        · show 0 ≤ IntKind.i64.wrap (s.2.2.1 - 1); omega
        · show IntKind.i64.wrap (s.2.2.1 - 1) + ((k + 1 : Nat) : Int) = G.1; omega
        · show 0 ≤ IntKind.i64.wrap (IntKind.i64.wrap (s.2.1 + 1) + _); rw [w1, w2]; omega
        · show IntKind.i64.wrap (IntKind.i64.wrap (s.2.1 + 1) + _) ≤ 2 + 3 * ((k + 1 : Nat) : Int); rw [w1, w2]; omega
        · show r.Id < IntKind.i64.wrap (IntKind.i64.wrap (s.2.1 + 1) + _)
          rw [w1, w2]
          rcases List.mem_append.1 hr2 with hr2 | hr2
          · have := p7 r hr2; omega
          · rw [List.mem_singleton.1 hr2, hr.1]; omega
      · rw [decide_eq_false h, cond_false]
        exact .inr ⟨s, rfl, p1, by omega⟩) (G.1.toNat + 1 - 0) 0 ([], id0, G.1, G.2.i, G.2.h) ⟨⟨fun r hr => (by cases hr), fun j hj => (by simp at hj)⟩, rfl, hb2.1, (by simp), hb1.1, (by simp; omega), fun r hr => (by cases hr)⟩
  rw [h2]
  rcases h3 with h3 | h3
  · exact h3
  · exfalso
    have h4 := h3.2.2.1
    have h5 := h3.2.2.2.1
    omega
theorem rowsP_sm {l : List DRow} (h : rowsP l) (hl : l.length ≤ 32) : l.length ≤ 68719476736 ∧ ∀ y ∈ l, smRow 68719476736 y := ⟨by omega, fun y hy => by show y.Values.length ≤ _; rw [(h.1 y hy).2.2.1]; omega⟩
theorem cond_ex {R S : Type} {P : S → Prop} {c : Bool} {A B : R ⊕ S} (h1 : ∃ s', A = .inr s' ∧ P s') (h2 : ∃ s', B = .inr s' ∧ P s') : ∃ s', cond c A B = .inr s' ∧ P s' := by cases c <;> assumption
theorem spec_l4Query_outs {id_ : DQuery × Dl1Cur → DQuery × Dl1Cur} (b : List Int) (c : List DCond) (t id : Int) : ∀ (m k : Nat) (s : Int × Nat × Int × (List Int)), (s.1 ≤ 3 ∧ s.2.2.2.length + s.1.toNat ≤ 3) → (Sum.elim id_ (fun (s : Int × Nat × Int × (List Int)) => ((⟨id, t, c, s.2.2.2⟩ : DQuery), (⟨s.2.1, s.2.2.1⟩ : Dl1Cur))) (rngb (R := (DQuery × Dl1Cur)) (fun k (s : Int × Nat × Int × (List Int)) => spec_l4Query_b2 b k s.1 s.2.1 s.2.2.1 s.2.2.2) m k s)).1.Conds = c ∧ (Sum.elim id_ (fun (s : Int × Nat × Int × (List Int)) => ((⟨id, t, c, s.2.2.2⟩ : DQuery), (⟨s.2.1, s.2.2.1⟩ : Dl1Cur))) (rngb (R := (DQuery × Dl1Cur)) (fun k (s : Int × Nat × Int × (List Int)) => spec_l4Query_b2 b k s.1 s.2.1 s.2.2.1 s.2.2.2) m k s)).1.Out.length ≤ 3 := fun m k s hs => by
  obtain ⟨s', e1, e2⟩ := rngb_invP (R := (DQuery × Dl1Cur)) (b := fun k (s : Int × Nat × Int × (List Int)) => spec_l4Query_b2 b k s.1 s.2.1 s.2.2.1 s.2.2.2) (P := fun _ s => s.1 ≤ 3 ∧ s.2.2.2.length + s.1.toNat ≤ 3) (Q := fun s => s.2.2.2.length ≤ 3) (fun k s ⟨p1, p2⟩ => by
    show (∃ s', spec_l4Query_b2 b k s.1 s.2.1 s.2.2.1 s.2.2.2 = _ ∧ _) ∨ ∃ s', spec_l4Query_b2 b k s.1 s.2.1 s.2.2.1 s.2.2.2 = _ ∧ _
    unfold spec_l4Query_b2
    by_cases h : 0 < s.1
    · rw [decide_eq_true h, wrap_id (n := s.1 - 1) (by omega) (by omega)]
      refine .inl ⟨_, rfl, ?_, ?_⟩
      · show s.1 - 1 ≤ 3; omega
      · show (s.2.2.2 ++ [_]).length + (s.1 - 1).toNat ≤ 3; rw [List.length_append]; show s.2.2.2.length + 1 + _ ≤ 3; omega
    · rw [decide_eq_false h]
      exact .inr ⟨_, rfl, by show s.2.2.2.length ≤ 3; omega⟩) m k s hs
  rw [e1]
  refine ⟨rfl, ?_⟩
  show s'.2.2.2.length ≤ 3
  rcases e2 with h | h <;> omega
theorem spec_l4Query_fact (b : List Int) (D : Dl1Cur) (i : Int) : (spec_l4Query_m b D i).1.Conds.length ≤ 3 ∧ (spec_l4Query_m b D i).1.Out.length ≤ 3 := by
  unfold spec_l4Query_m
  obtain ⟨s1, e1, h1⟩ := rng_inv (R := DQuery × Dl1Cur) (body := fun k (s : Nat × Int × List DCond) => spec_l4Query_b1 b D k s.1 s.2.1 s.2.2) (n := 3) (fun k s => s.2.2.length ≤ k) (fun k s _ h => by
    have happ : ∀ y, (s.2.2 ++ [y]).length ≤ k + 1 := fun y => by rw [List.length_append]; show s.2.2.length + 1 ≤ k + 1; omega
    have hkeep : s.2.2.length ≤ k + 1 := by omega
    show ∃ s', spec_l4Query_b1 b D k s.1 s.2.1 s.2.2 = .inr s' ∧ s'.2.2.length ≤ k + 1
    unfold spec_l4Query_b1
    repeat' (first | exact ⟨_, rfl, happ _⟩ | exact ⟨_, rfl, hkeep⟩ | apply cond_ex)) (3 - 0) 0 ((spec_l1PickInt_m b ((spec_l1Below_m b D 4).2) [3, 6, 100]).2.i, (spec_l1PickInt_m b ((spec_l1Below_m b D 4).2) [3, 6, 100]).2.h, []) (by omega) (Nat.zero_le _)
  rw [e1]
  have hb := spec_l1Below_rng b (⟨s1.1, s1.2.1⟩ : Dl1Cur) 3
  have hb' := hb.2.1 (by omega)
  have hw := wrap_id (n := 1 + (spec_l1Below_m b (⟨s1.1, s1.2.1⟩ : Dl1Cur) 3).1) (by omega) (by omega)
  have key := spec_l4Query_outs (id_ := id) b s1.2.2 (spec_l1Below_m b D 4).1 i ((IntKind.i64.wrap (1 + (spec_l1Below_m b (⟨s1.1, s1.2.1⟩ : Dl1Cur) 3).1)).toNat + 1 - 0) 0 ((IntKind.i64.wrap (1 + (spec_l1Below_m b (⟨s1.1, s1.2.1⟩ : Dl1Cur) 3).1)), (spec_l1Below_m b (⟨s1.1, s1.2.1⟩ : Dl1Cur) 3).2.i, (spec_l1Below_m b (⟨s1.1, s1.2.1⟩ : Dl1Cur) 3).2.h, []) ⟨(by show IntKind.i64.wrap _ ≤ 3; omega), (by show 0 + (IntKind.i64.wrap _).toNat ≤ 3; omega)⟩
  exact ⟨Nat.le_trans (Nat.le_of_eq (congrArg List.length key.1)) h1, key.2⟩
theorem rngb_invN {R S : Type} {b : Nat → S → R ⊕ (S ⊕ S)} {n : Nat} {P : Nat → S → Prop} {Q : S → Prop} (h : ∀ k s, k < n → P k s → (∃ s', b k s = .inr (.inr s') ∧ P (k + 1) s') ∨ ∃ s', b k s = .inr (.inl s') ∧ Q s') : ∀ m k s, m + k = n → P k s → ∃ s', rngb b m k s = .inr s' ∧ (Q s' ∨ P n s')
  | 0, k, s, e, hp => ⟨s, rfl, .inr (by rw [show n = k by omega]; exact hp)⟩
  | m + 1, k, s, e, hp => by
    rcases h k s (by omega) hp with ⟨s', h1, h2⟩ | ⟨s', h1, h2⟩
    · obtain ⟨s'', h3, h4⟩ := rngb_invN h m (k + 1) s' (by omega) h2
      exact ⟨s'', by rw [rngb, h1]; exact h3, h4⟩
    · exact ⟨s', by rw [rngb, h1]; rfl, .inl h2⟩
theorem spec_l4Queries_fact (b : List Int) (D : Dl1Cur) (x1 : Int) (h0 : 0 ≤ x1) (h1 : x1 ≤ 100) : (((spec_l4Queries_m b D x1).1.length : Nat) : Int) ≤ x1 ∧ ∀ q ∈ (spec_l4Queries_m b D x1).1, q.Conds.length ≤ 3 ∧ q.Out.length ≤ 3 := by
  have hw := wrap_id (n := x1 + 1) (by omega) (by omega)
  have hb := spec_l1Below_rng b (spec_l1Below_m b D 2).2 (x1 + 1)
  have hb' := hb.2.1 (by omega)
  have key : ∀ (m k : Nat) (s : (List DQuery) × Int × Int × Nat × Int), (s.2.2.1 ≤ 100 ∧ ((s.1.length : Nat) : Int) + ((s.2.2.1.toNat : Nat) : Int) ≤ x1 ∧ ∀ q ∈ s.1, q.Conds.length ≤ 3 ∧ q.Out.length ≤ 3) → ∃ s', rngb (R := ((List DQuery) × Dl1Cur)) (fun k (s : (List DQuery) × Int × Int × Nat × Int) => spec_l4Queries_b1 b k s.1 s.2.1 s.2.2.1 s.2.2.2.1 s.2.2.2.2) m k s = .inr s' ∧ ((s'.1.length : Nat) : Int) ≤ x1 ∧ ∀ q ∈ s'.1, q.Conds.length ≤ 3 ∧ q.Out.length ≤ 3 := fun m k s hs => by
    obtain ⟨s', e1, e2⟩ := rngb_invP (R := ((List DQuery) × Dl1Cur)) (b := fun k (s : (List DQuery) × Int × Int × Nat × Int) => spec_l4Queries_b1 b k s.1 s.2.1 s.2.2.1 s.2.2.2.1 s.2.2.2.2) (P := fun _ s => s.2.2.1 ≤ 100 ∧ ((s.1.length : Nat) : Int) + ((s.2.2.1.toNat : Nat) : Int) ≤ x1 ∧ ∀ q ∈ s.1, q.Conds.length ≤ 3 ∧ q.Out.length ≤ 3) (Q := fun s => ((s.1.length : Nat) : Int) ≤ x1 ∧ ∀ q ∈ s.1, q.Conds.length ≤ 3 ∧ q.Out.length ≤ 3) (fun k s ⟨p1, p2, p3⟩ => by
      show (∃ s', spec_l4Queries_b1 b k s.1 s.2.1 s.2.2.1 s.2.2.2.1 s.2.2.2.2 = _ ∧ _) ∨ ∃ s', spec_l4Queries_b1 b k s.1 s.2.1 s.2.2.1 s.2.2.2.1 s.2.2.2.2 = _ ∧ _
      unfold spec_l4Queries_b1
      by_cases h : 0 < s.2.2.1
      · rw [decide_eq_true h, cond_true, wrap_id (n := s.2.2.1 - 1) (by omega) (by omega)]
        refine .inl ⟨_, rfl, ?_, ?_, fun q hq => ?_⟩
        · show s.2.2.1 - 1 ≤ 100; omega
        · show (((s.1 ++ [_]).length : Nat) : Int) + (((s.2.2.1 - 1).toNat : Nat) : Int) ≤ x1; rw [List.length_append]; show ((s.1.length + 1 : Nat) : Int) + _ ≤ x1; omega
        · rcases List.mem_append.1 hq with hq | hq
          · exact p3 q hq
          · rw [List.mem_singleton.1 hq]; exact spec_l4Query_fact _ _ _
      · rw [decide_eq_false h]
        exact .inr ⟨_, rfl, (by show ((s.1.length : Nat) : Int) ≤ x1; omega), p3⟩) m k s hs
    exact ⟨s', e1, e2.elim id fun h => ⟨by omega, h.2.2⟩⟩
  unfold spec_l4Queries_m
  rw [hw]
  obtain ⟨s', e, h⟩ := key ((spec_l1Below_m b (spec_l1Below_m b D 2).2 (x1 + 1)).1.toNat + 1 - 0) 0 ([], (spec_l1Below_m b D 2).1, (spec_l1Below_m b (spec_l1Below_m b D 2).2 (x1 + 1)).1, (spec_l1Below_m b (spec_l1Below_m b D 2).2 (x1 + 1)).2.i, (spec_l1Below_m b (spec_l1Below_m b D 2).2 (x1 + 1)).2.h) ⟨(by show (spec_l1Below_m b (spec_l1Below_m b D 2).2 (x1 + 1)).1 ≤ 100; omega), (by show ((0 : Nat) : Int) + (((spec_l1Below_m b (spec_l1Below_m b D 2).2 (x1 + 1)).1.toNat : Nat) : Int) ≤ x1; omega), fun q hq => (by cases hq)⟩
  rw [e]
  exact h
theorem Qs_sm {l : List DQuery} {n : Int} (h : ((l.length : Nat) : Int) ≤ n ∧ ∀ q ∈ l, q.Conds.length ≤ 3 ∧ q.Out.length ≤ 3) (hn : n ≤ 100) : l.length ≤ 68719476736 ∧ ∀ z ∈ l, smQuery 68719476736 z := ⟨by omega, fun z hz => ⟨by have := (h.2 z hz).1; omega, by have := (h.2 z hz).2; omega⟩⟩
theorem StabSet_short (l : List DQuery) (f v : Int) : (spec_StabSet_m l f v).length ≤ l.length := by
  unfold spec_StabSet_m
  obtain ⟨s', e, h⟩ := rngb_invN (R := List Int) (b := fun k (s : List Int) => spec_StabSet_b1 l f v k s) (n := l.length) (P := fun k s => s.length ≤ k) (Q := fun s => s.length ≤ l.length) (fun k s hk hs => by
    have happ : ∀ y, (s ++ [y]).length ≤ k + 1 := fun y => by rw [List.length_append]; show s.length + 1 ≤ k + 1; omega
    show (∃ s', spec_StabSet_b1 l f v k s = .inr (.inr s') ∧ _) ∨ ∃ s', spec_StabSet_b1 l f v k s = .inr (.inl s') ∧ _
    unfold spec_StabSet_b1
    cases spec_AreQueries_m l with
    | false => exact .inr ⟨_, rfl, by omega⟩
    | true =>
    cases spec_l1In_m f 0 2 with
    | false => exact .inr ⟨_, rfl, by omega⟩
    | true =>
    cases spec_l1In_m v 0 99 with
    | false => exact .inr ⟨_, rfl, by omega⟩
    | true =>
    cases spec_l5Admits_m (gt l k) f v with
    | true => exact .inl ⟨_, rfl, happ _⟩
    | false => exact .inl ⟨_, rfl, by omega⟩) (l.length - 0) 0 [] (by omega) (Nat.zero_le _)
  rw [e]
  exact h.elim id id
theorem Stab_short (l : List DQuery) (f : Int) : (spec_StabIndex_m l f).length ≤ 100 ∧ ∀ s ∈ spec_StabIndex_m l f, s.Set.length ≤ l.length := by
  unfold spec_StabIndex_m
  cases spec_AreQueries_m l with
  | false => exact ⟨Nat.zero_le _, fun s hs => by cases hs⟩
  | true =>
  cases spec_l1In_m f 0 2 with
  | false => exact ⟨Nat.zero_le _, fun s hs => by cases hs⟩
  | true =>
  obtain ⟨d, e, h⟩ := rng_inv (R := List DSpan) (body := fun k (s : List DSpan) => spec_StabIndex_b1 l f k s) (n := 100) (fun k d => d.length ≤ k ∧ ∀ s ∈ d, s.Set.length ≤ l.length) (fun k d _ ⟨h1, h2⟩ => by
    have happ : ∀ y : DSpan, y.Set.length ≤ l.length → (d ++ [y]).length ≤ k + 1 ∧ ∀ s ∈ d ++ [y], s.Set.length ≤ l.length := fun y hy => ⟨by rw [List.length_append]; show d.length + 1 ≤ k + 1; omega, fun s hs => by
      rcases List.mem_append.1 hs with h | h
      · exact h2 s h
      · rw [List.mem_singleton.1 h]; exact hy⟩
    show ∃ s', spec_StabIndex_b1 l f k d = .inr s' ∧ _
    unfold spec_StabIndex_b1
    by_cases h0 : 0 < d.length
    · rw [decide_eq_true (show (0 : Int) < ((d.length : Nat) : Int) by omega), cond_true]
      cases spec_l2Ints_m ((gt d (d.length - 1)).Set) (spec_StabSet_m l f ((k : Nat) : Int)) with
      | true =>
        refine ⟨_, rfl, by rw [List.length_set]; omega, fun s hs => ?_⟩
        rcases List.mem_or_eq_of_mem_set hs with h | rfl
        · exact h2 s h
        · exact h2 (gt d (d.length - 1)) (gt_mem (by omega))
      | false => exact ⟨_, rfl, happ _ (StabSet_short _ _ _)⟩
    · rw [decide_eq_false (show ¬ (0 : Int) < ((d.length : Nat) : Int) by omega), cond_false]
      exact ⟨_, rfl, happ _ (StabSet_short _ _ _)⟩) (100 - 0) 0 [] (by omega) ⟨Nat.zero_le _, fun s hs => by cases hs⟩
  rw [e]
  exact h
theorem BuildIndex_short (l : List DQuery) : spec_BuildIndex_m l = ⟨[], []⟩ ∨ spec_BuildIndex_m l = ⟨l, [spec_StabIndex_m l 0, spec_StabIndex_m l 1, spec_StabIndex_m l 2]⟩ := by
  unfold spec_BuildIndex_m
  cases spec_AreQueries_m l with
  | false => exact .inl rfl
  | true => exact .inr rfl
theorem BuildIndex_sm {l : List DQuery} {n : Int} (h : ((l.length : Nat) : Int) ≤ n ∧ ∀ q ∈ l, q.Conds.length ≤ 3 ∧ q.Out.length ≤ 3) (hn : n ≤ 100) : smIndex 68719476736 (spec_BuildIndex_m l) := by
  rcases BuildIndex_short l with e | e
  · rw [e]; exact ⟨⟨Nat.zero_le _, fun z hz => by cases hz⟩, Nat.zero_le _, fun z hz => by cases hz⟩
  · rw [e]
    have hs : ∀ f, (spec_StabIndex_m l f).length ≤ 68719476736 ∧ ∀ z ∈ spec_StabIndex_m l f, smSpan 68719476736 z := fun f => by
      obtain ⟨h1, h2⟩ := Stab_short l f
      exact ⟨by omega, fun z hz => by have := h2 z hz; show z.Set.length ≤ _; omega⟩
    refine ⟨Qs_sm h hn, (by show 3 ≤ 68719476736; decide), fun z hz => ?_⟩
    rcases List.mem_cons.1 hz with rfl | hz
    · exact hs 0
    rcases List.mem_cons.1 hz with rfl | hz
    · exact hs 1
    rcases List.mem_cons.1 hz with rfl | hz
    · exact hs 2
    cases hz
def spec_l13Draw_m (x0b : List Int) (x0 : Dl1Cur) : ((List DQuery) × (List DRow) × (List DAnnotated) × Dl1Cur) :=
 ((spec_l4Queries_m x0b x0 5).1, (spec_l3Rows_m x0b ((spec_l4Queries_m x0b x0 5).2) 8).1, (spec_AnnotateRows_m (spec_BuildIndex_m ((spec_l4Queries_m x0b x0 5).1)) (spec_l3Rows_m x0b ((spec_l4Queries_m x0b x0 5).2) 8).1), (spec_l3Rows_m x0b ((spec_l4Queries_m x0b x0 5).2) 8).2)
theorem cb96 : Cb Tryd.prog 96 := ⟨f96, _, func96, rfl, by decide⟩
theorem spec_l13Draw_c (B : Nat) (w0 : World) (is : List It) (w : World) (p : Nat) (z0 : Value) (x0b : List Int) (x0 : Dl1Cur) (r_0 : rdS tU8 w0 B z0 x0b) (s_0 : x0b.length ≤ 68719476736) (hm : Mem B w0 (iBox p 115 [z0, .int .i64 ((x0.i : Nat) : Int), .int .i64 x0.h] :: is) w) :
  Calls Tryd.prog 96 #[.pointer (some ⟨p, 0, none⟩)] w fun e w' => ∃ x : Value × Value × Value, e = .returned (.tuple #[x.1, x.2.1, x.2.2]) ∧ Mem B w0 (iOwn (tSl tyQuery 150) [x.1] ((spec_l13Draw_m x0b x0).1) :: iOwn (tSl tyRow 43) [x.2.1] ((spec_l13Draw_m x0b x0).2.1) :: iOwn (tSl tyAnnotated 72) [x.2.2] ((spec_l13Draw_m x0b x0).2.2.1) :: iBox p 115 [z0, .int .i64 ((((spec_l13Draw_m x0b x0).2.2.2).i : Nat) : Int), .int .i64 ((spec_l13Draw_m x0b x0).2.2.2).h] :: is) w' := by
 obtain ⟨m1, A2, c3, rfl, q4, r5⟩ := rdS_op r_0
 refine call_enterW (L := [(0, .pointer (some ⟨p, 0, none⟩))]) (N := 17) func96 rfl rfl (Nat.le_of_ble_eq_true rfl) (argsL_cons rfl argsL_nil) hm ?_
 have l6 : x0b.length ≤ 68719476736 := s_0
 refine sr (wa (wa (wa (nt' (sr (wm ?_))))))
 refine WM_callW (χ := Value) (val := fun x => x) (js := fun x => (iOwn (tSl tyQuery 150) [x] ((spec_l4Queries_m x0b x0 5).1) :: iBox p 115 [.slice A2 x0b.length c3, .int .i64 ((((spec_l4Queries_m x0b x0 5).2).i : Nat) : Int), .int .i64 ((spec_l4Queries_m x0b x0 5).2).h] :: (is))) (cl_fn cb106 rfl) (fun W hm => spec_l4Queries_c B w0 (is) W p _ x0b x0 r5 5 s_0 (⟨by omega, by omega⟩) (hm.front (n := 0) rfl)) (Wd_none rfl) (by decide) (fun z7 => ?_)
 have hqs := spec_l4Queries_fact x0b x0 5 (by omega) (by omega)
 refine WM_form (n := 0) rfl ?_
 rintro A8 c9 rfl m10
 refine wa (nt' (sr (wm ?_)))
 let I1 : It := iOwn (tSl tyQuery 150) [.slice A8 ((spec_l4Queries_m x0b x0 5).1).length c9] ((spec_l4Queries_m x0b x0 5).1)
 refine WM_callW (χ := Value) (val := fun x => x) (js := fun x => (iOwn (tSl tyRow 43) [x] ((spec_l3Rows_m x0b ((spec_l4Queries_m x0b x0 5).2) 8).1) :: iBox p 115 [.slice A2 x0b.length c3, .int .i64 ((((spec_l3Rows_m x0b ((spec_l4Queries_m x0b x0 5).2) 8).2).i : Nat) : Int), .int .i64 ((spec_l3Rows_m x0b ((spec_l4Queries_m x0b x0 5).2) 8).2).h] :: (I1 :: is))) (cl_fn cb107 rfl) (fun W hm => spec_l3Rows_c B w0 (I1 :: is) W p _ x0b ((spec_l4Queries_m x0b x0 5).2) r5 8 s_0 (⟨by omega, by omega⟩) (hm.front (n := 1) rfl)) (Wd_none rfl) (by decide) (fun z12 => ?_)
 have hrw := spec_l3Rows_fact x0b ((spec_l4Queries_m x0b x0 5).2) 8 (by omega) (by omega)
 obtain ⟨G13, hG13⟩ : ∃ G, G = (spec_l3Rows_m x0b ((spec_l4Queries_m x0b x0 5).2) 8) := ⟨_, rfl⟩
 rw [← hG13]
 rw [← hG13] at hrw
 refine WM_form (n := 0) rfl ?_
 rintro A14 c15 rfl m16
 refine wa (nt' (sr (wm (wm (wm ?_)))))
 refine wcs tyIndex (spec_BuildIndex_m ((spec_l4Queries_m x0b x0 5).1)) (cl_fn cb109 rfl) (fun W hm => spec_BuildIndex_c W _ ((spec_l4Queries_m x0b x0 5).1) (hm.rdSI (n := 2) rfl) (Qs_sm hqs (by omega))) (fun z18 => ?_)
 refine tyIndex_sp ?_
 rintro ⟨v19, v20⟩ rfl
 refine WM_form (n := 0) rfl ?_
 rintro A21 c22 rfl m23
 refine WM_form (n := 1) rfl ?_
 rintro A25 c26 rfl m27
 refine wm ?_
 refine wcl (tSl tyAnnotated 72) (spec_AnnotateRows_m (spec_BuildIndex_m ((spec_l4Queries_m x0b x0 5).1)) G13.1) (cl_fn cb108 rfl) (fun W hm => spec_AnnotateRows_c W _ (spec_BuildIndex_m ((spec_l4Queries_m x0b x0 5).1)) _ G13.1 (tyIndex_mk (x := (spec_BuildIndex_m ((spec_l4Queries_m x0b x0 5).1))) (hm.rdSI (n := 0) rfl) (hm.rdSI (n := 1) rfl)) (hm.rdSI (n := 2) rfl) (BuildIndex_sm hqs (by omega)) (by first | exact Qs_sm hqs (by omega) | exact rowsP_sm hrw.1 (by omega))) (fun z29 => ?_)
 refine WM_form (n := 0) rfl ?_
 rintro A30 c31 rfl m32
 refine wa (wa (wa (nt' (CM_ret ?_))))
 have he34 := (show spec_l13Draw_m x0b x0 = ((spec_l4Queries_m x0b x0 5).1, G13.1, (spec_AnnotateRows_m (spec_BuildIndex_m ((spec_l4Queries_m x0b x0 5).1)) G13.1), G13.2) from by subst hG13; exact rfl)
 refine QM_r3 rfl (RR_tmp rfl) (RR_tmp rfl) (RR_tmp rfl) (fun W hm => ⟨(.slice A8 ((spec_l4Queries_m x0b x0 5).1).length c9, .slice A14 G13.1.length c15, .slice A30 (spec_AnnotateRows_m (spec_BuildIndex_m ((spec_l4Queries_m x0b x0 5).1)) G13.1).length c31), ?_, ?_⟩)
 ·first | rw [he34] | rfl
 ·rw [he34]; exact ((((((hm.front (n := 4) rfl).front (n := 1) rfl).front (n := 4) rfl).front (n := 5) rfl).front (n := 4) rfl).tail.front (n := 4) rfl).tail

def spec_l3Any_m (x0b : List Int) (x0 : Dl1Cur) : (DRow × Dl1Cur) :=
 cond (((spec_l1Below_m x0b (spec_l3Row_m x0b ((spec_l1Below_m x0b x0 9).2) ((spec_l1Below_m x0b x0 9).1)).2 8).1) == 0) ((⟨(spec_l1PickInt_m x0b ((spec_l1Below_m x0b (spec_l3Row_m x0b ((spec_l1Below_m x0b x0 9).2) ((spec_l1Below_m x0b x0 9).1)).2 8).2) [(-1), 999, 1000]).1, (spec_l3Row_m x0b ((spec_l1Below_m x0b x0 9).2) ((spec_l1Below_m x0b x0 9).1)).1.Values⟩ : DRow), (spec_l1PickInt_m x0b ((spec_l1Below_m x0b (spec_l3Row_m x0b ((spec_l1Below_m x0b x0 9).2) ((spec_l1Below_m x0b x0 9).1)).2 8).2) [(-1), 999, 1000]).2) (cond (((spec_l1Below_m x0b (spec_l3Row_m x0b ((spec_l1Below_m x0b x0 9).2) ((spec_l1Below_m x0b x0 9).1)).2 8).1) == 1) ((⟨(spec_l3Row_m x0b ((spec_l1Below_m x0b x0 9).2) ((spec_l1Below_m x0b x0 9).1)).1.Id, ((spec_l3Row_m x0b ((spec_l1Below_m x0b x0 9).2) ((spec_l1Below_m x0b x0 9).1)).1.Values.set 0 (spec_l1PickInt_m x0b ((spec_l1Below_m x0b (spec_l3Row_m x0b ((spec_l1Below_m x0b x0 9).2) ((spec_l1Below_m x0b x0 9).1)).2 8).2) [(-1), 99, 100]).1)⟩ : DRow), (spec_l1PickInt_m x0b ((spec_l1Below_m x0b (spec_l3Row_m x0b ((spec_l1Below_m x0b x0 9).2) ((spec_l1Below_m x0b x0 9).1)).2 8).2) [(-1), 99, 100]).2) (cond (((spec_l1Below_m x0b (spec_l3Row_m x0b ((spec_l1Below_m x0b x0 9).2) ((spec_l1Below_m x0b x0 9).1)).2 8).1) == 2) ((⟨(spec_l3Row_m x0b ((spec_l1Below_m x0b x0 9).2) ((spec_l1Below_m x0b x0 9).1)).1.Id, ((spec_l3Row_m x0b ((spec_l1Below_m x0b x0 9).2) ((spec_l1Below_m x0b x0 9).1)).1.Values ++ [1])⟩ : DRow), ((spec_l1Below_m x0b (spec_l3Row_m x0b ((spec_l1Below_m x0b x0 9).2) ((spec_l1Below_m x0b x0 9).1)).2 8).2)) ((spec_l3Row_m x0b ((spec_l1Below_m x0b x0 9).2) ((spec_l1Below_m x0b x0 9).1)).1, ((spec_l1Below_m x0b (spec_l3Row_m x0b ((spec_l1Below_m x0b x0 9).2) ((spec_l1Below_m x0b x0 9).1)).2 8).2))))
theorem cb97 : Cb Tryd.prog 97 := ⟨f97, _, func97, rfl, by decide⟩
theorem spec_l3Any_c (B : Nat) (w0 : World) (is : List It) (w : World) (p : Nat) (z0 : Value) (x0b : List Int) (x0 : Dl1Cur) (r_0 : rdS tU8 w0 B z0 x0b) (s_0 : x0b.length ≤ 68719476736) (hm : Mem B w0 (iBox p 115 [z0, .int .i64 ((x0.i : Nat) : Int), .int .i64 x0.h] :: is) w) :
  Calls Tryd.prog 97 #[.pointer (some ⟨p, 0, none⟩)] w fun e w' => ∃ x : List Value, e = .returned (.agg x.toArray) ∧ Mem B w0 (iOwn tyRow x ((spec_l3Any_m x0b x0).1) :: iBox p 115 [z0, .int .i64 ((((spec_l3Any_m x0b x0).2).i : Nat) : Int), .int .i64 ((spec_l3Any_m x0b x0).2).h] :: is) w' := by
 obtain ⟨m1, A2, c3, rfl, q4, r5⟩ := rdS_op r_0
 refine call_enterW (L := [(0, .pointer (some ⟨p, 0, none⟩))]) (N := 32) func97 rfl rfl (Nat.le_of_ble_eq_true rfl) (argsL_cons rfl argsL_nil) hm ?_
 have l6 : x0b.length ≤ 68719476736 := s_0
 refine sr ?_
 refine WM_alloc type43 rfl (Wd_none rfl) (by decide) (fun p7 => ?_)
 refine nt' (sr (wm (wm ?_)))
 refine WM_callW (χ := Unit) (val := fun x => .int .i64 ((spec_l1Below_m x0b x0 9).1)) (js := fun x => (iBox p 115 [.slice A2 x0b.length c3, .int .i64 ((((spec_l1Below_m x0b x0 9).2).i : Nat) : Int), .int .i64 ((spec_l1Below_m x0b x0 9).2).h] :: (iBox p7 43 [.int .i64 0, .slice none 0 0] :: is))) (cl_fn cb67 rfl) (fun W hm => spec_l1Below_c B w0 (iBox p7 43 [.int .i64 0, .slice none 0 0] :: is) W p _ x0b x0 r5 9 s_0 (hm.front (n := 1) rfl)) (Wd_none rfl) (by decide) (fun z8 => ?_)
 refine WM_callW (χ := List Value) (val := fun x => .agg x.toArray) (js := fun x => (iOwn tyRow x ((spec_l3Row_m x0b ((spec_l1Below_m x0b x0 9).2) ((spec_l1Below_m x0b x0 9).1)).1) :: iBox p 115 [.slice A2 x0b.length c3, .int .i64 ((((spec_l3Row_m x0b ((spec_l1Below_m x0b x0 9).2) ((spec_l1Below_m x0b x0 9).1)).2).i : Nat) : Int), .int .i64 ((spec_l3Row_m x0b ((spec_l1Below_m x0b x0 9).2) ((spec_l1Below_m x0b x0 9).1)).2).h] :: (iBox p7 43 [.int .i64 0, .slice none 0 0] :: is))) (cl_fn cb110 rfl) (fun W hm => spec_l3Row_c B w0 (iBox p7 43 [.int .i64 0, .slice none 0 0] :: is) W p _ x0b ((spec_l1Below_m x0b x0 9).2) r5 ((spec_l1Below_m x0b x0 9).1) s_0 (hm.front (n := 0) rfl)) (Wd_none rfl) (by decide) (fun z9 => ?_)
 have hl3 := (spec_l3Row_fact x0b ((spec_l1Below_m x0b x0 9).2) ((spec_l1Below_m x0b x0 9).1)).2.1
 obtain ⟨G10, hG10⟩ : ∃ G, G = (spec_l3Row_m x0b ((spec_l1Below_m x0b x0 9).2) ((spec_l1Below_m x0b x0 9).1)) := ⟨_, rfl⟩
 rw [← hG10]
 rw [← hG10] at hl3
 refine tyRow_sp ?_
 rintro v11 rfl
 refine WM_form (n := 0) rfl ?_
 rintro A12 c13 rfl m14
 refine WM_alloc type43 rfl (Wd_none rfl) (by decide) (fun p16 => ?_)
 refine WM_storeBox (p := p16) (o := 0) (cs' := [.int .i64 G10.1.Id, .slice A12 G10.1.Values.length c13]) (fun w hm => hm.front (n := 0) rfl) type43 rfl (Nat.le_of_ble_eq_true rfl) rfl rfl rfl rfl (Wd_none rfl) ?_
 refine nt' (CM_seq (sr (wm ?_)))
 let I7 : It := iBox p16 43 [.int .i64 G10.1.Id, .slice A12 G10.1.Values.length c13]
 let I8 : It := iOwn (tSl tInt 3) [.slice A12 G10.1.Values.length c13] G10.1.Values
 refine WM_callW (χ := Unit) (val := fun x => .int .i64 ((spec_l1Below_m x0b G10.2 8).1)) (js := fun x => (iBox p 115 [.slice A2 x0b.length c3, .int .i64 ((((spec_l1Below_m x0b G10.2 8).2).i : Nat) : Int), .int .i64 ((spec_l1Below_m x0b G10.2 8).2).h] :: (I7 :: I8 :: iBox p7 43 [.int .i64 0, .slice none 0 0] :: is))) (cl_fn cb67 rfl) (fun W hm => spec_l1Below_c B w0 (I7 :: I8 :: iBox p7 43 [.int .i64 0, .slice none 0 0] :: is) W p _ x0b G10.2 r5 8 s_0 (hm.front (n := 2) rfl)) (Wd_none rfl) (by decide) (fun z17 => ?_)
 refine nt' (CM_block (sr ?_))
 refine wv (fun W hm => rv_eql rfl rfl) ?_
 refine wa (nt' ?_)
 by_cases h18 : ((spec_l1Below_m x0b G10.2 8).1) = 0
 ·have g19 := beq_iff_eq.2 h18
  refine CM_condT rfl g19 ?_
  refine CM_region (wm ?_)
  refine WM_build (cs := [.int .i64 (-1), .int .i64 999, .int .i64 1000]) underlying28 type3 rfl (by decide) (by decide) rfl (by kernel_rfl) (Wd_none rfl) (by decide) (fun p20 => ?_)
  refine WM_items (fun W hm => Mem.litOwn (E := tInt) (xs := [(-1), 999, 1000]) rfl (show 3 ≤ maxLen from by decide) (fun _ => (els_cons (E := tInt) (L1 := []) tInt_own (els_cons (E := tInt) (L1 := []) tInt_own (els_cons (E := tInt) (L1 := []) tInt_own els_nil)))) (hm.front (n := 0) rfl)) ?_
  let I9 : It := iOwn (tSl tInt 3) [.slice (some ⟨p20, 0, none⟩) 3 3] [(-1), 999, 1000]
  refine WM_callW (χ := Unit) (val := fun x => .int .i64 ((spec_l1PickInt_m x0b ((spec_l1Below_m x0b G10.2 8).2) [(-1), 999, 1000]).1)) (js := fun x => (iBox p 115 [.slice A2 x0b.length c3, .int .i64 ((((spec_l1PickInt_m x0b ((spec_l1Below_m x0b G10.2 8).2) [(-1), 999, 1000]).2).i : Nat) : Int), .int .i64 ((spec_l1PickInt_m x0b ((spec_l1Below_m x0b G10.2 8).2) [(-1), 999, 1000]).2).h] :: I9 :: (I7 :: I8 :: iBox p7 43 [.int .i64 0, .slice none 0 0] :: is))) (cl_fn cb86 rfl) (fun W hm => spec_l1PickInt_c B w0 (I7 :: I8 :: iBox p7 43 [.int .i64 0, .slice none 0 0] :: is) W p _ x0b ((spec_l1Below_m x0b G10.2 8).2) r5 _ [(-1), 999, 1000] s_0 (Nat.le_of_ble_eq_true rfl) (by first | decide | exact Nat.succ_pos _) ((hm.front (n := 0) rfl).front (n := 1) rfl)) (Wd_none rfl) (by decide) (fun z22 => ?_)
  obtain ⟨G23, hG23⟩ : ∃ G, G = (spec_l1PickInt_m x0b ((spec_l1Below_m x0b G10.2 8).2) [(-1), 999, 1000]) := ⟨_, rfl⟩
  rw [← hG23]
  refine wv (vf underlying43 rfl type3) ?_
  refine WM_storeBox (p := p16) (o := 0) (cs' := [.int .i64 G23.1, .slice A12 G10.1.Values.length c13]) (fun w hm => hm.front (n := 2) rfl) type3 rfl (Nat.le_of_ble_eq_true rfl) rfl rfl rfl rfl (Wd_none rfl) ?_
  refine WM_nil (QM_block_normal (QM_then (sr ?_)))
  refine wv (fun W hm => rv_loadN (cs := [.int .i64 G23.1, .slice A12 G10.1.Values.length c13]) underlying43 type43 rfl rfl (hm.boxCells (n := 0) rfl)) ?_
  refine WM_storeBox (p := p7) (o := 0) (cs' := [.int .i64 G23.1, .slice A12 G10.1.Values.length c13]) (fun w hm => hm.front (n := 4) rfl) type43 rfl (Nat.le_of_ble_eq_true rfl) rfl rfl rfl rfl (Wd_none rfl) ?_
  refine nt' (CM_ret ?_)
  let K1 : List Value := [.slice A2 x0b.length c3, .int .i64 ((G23.2.i : Nat) : Int), .int .i64 G23.2.h]
  let I10 : It := iBox p7 43 [.int .i64 G23.1, .slice A12 G10.1.Values.length c13]
  let I11 : It := iBox p16 43 [.int .i64 G23.1, .slice A12 G10.1.Values.length c13]
  refine QM_items (js := (iOwn tyRow [.int .i64 G23.1, .slice A12 G10.1.Values.length c13] (⟨G23.1, G10.1.Values⟩ : DRow) :: (I10 :: I11 :: iBox p 115 K1 :: I9 :: is))) (fun W hm => Mem.join (is := [I8]) (js := (I10 :: I11 :: iBox p 115 K1 :: I9 :: is)) (fun _ _ hs => tyRow_join (x := (⟨G23.1, G10.1.Values⟩ : DRow)) hs) (hm.front (n := 4) rfl)) ?_
  have he24 := (show spec_l3Any_m x0b x0 = ((⟨G23.1, G10.1.Values⟩ : DRow), G23.2) from by subst hG10 hG23; exact cond_t g19 (rfl))
  refine QM_r1 rfl (RR_cell (n := 1) rfl rfl underlying43 type43 rfl) (fun W hm => ⟨[.int .i64 G23.1, .slice A12 G10.1.Values.length c13], ?_, ?_⟩)
  ·first | rw [he24] | rfl
  ·rw [he24]; exact (((((hm.front (n := 3) rfl).front (n := 1) rfl).front (n := 2) rfl).tail.front (n := 2) rfl).tail.front (n := 2) rfl).tail
 ·have g19 := beq_eq_false_iff_ne.2 h18
  refine CM_condF rfl g19 ?_
  refine sr ?_
  refine wv (fun W hm => rv_eql rfl rfl) ?_
  refine wa (nt' ?_)
  by_cases h25 : ((spec_l1Below_m x0b G10.2 8).1) = 1
  ·have g26 := beq_iff_eq.2 h25
   refine CM_condT rfl g26 ?_
   refine CM_formO (n := 2) rfl (by omega) ?_
   rintro g27 rfl
   let K2 : List Value := [.int .i64 G10.1.Id, .slice (some ⟨g27, 0, none⟩) G10.1.Values.length c13]
   let I12 : It := iOwn (tSl tInt 3) [.slice (some ⟨g27, 0, none⟩) G10.1.Values.length c13] G10.1.Values
   refine rd2 7 [6] (s := (iBox p16 43 K2 :: iBox p7 43 [.int .i64 0, .slice none 0 0] :: is)) (s2 := (iBox p16 43 K2 :: I12 :: iBox p7 43 [.int .i64 0, .slice none 0 0] :: is)) (fun W hm => ((((hm.front (n := 3) rfl).front (n := 2) rfl).front (n := 2) rfl).tail.front (n := 2) rfl).tail) (fun W hm => ((((hm.front (n := 3) rfl).front (n := 3) rfl).front (n := 3) rfl).front (n := 3) rfl).tail) ?_
   refine qtD 7 0 1 rfl (vf underlying43 rfl type28) ?_
   refine qtD 7 1 3 rfl (vl 0 1 underlying28) ?_
   refine qtD 7 2 7 rfl vmv ?_
   refine qoD 7 3 15 rfl ?_
   refine WM_build (cs := [.int .i64 (-1), .int .i64 99, .int .i64 100]) underlying28 type3 rfl (by decide) (by decide) rfl (by kernel_rfl) (Wd_none rfl) (by decide) (fun p28 => ?_)
   refine qnD (fun W hm => (((((hm.front (n := 4) rfl).front (n := 3) rfl).front (n := 2) rfl).tail.front (n := 2) rfl).tail.front (n := 2) rfl).tail) (fun W hm => (((((hm.front (n := 4) rfl).front (n := 4) rfl).front (n := 4) rfl).front (n := 3) rfl).tail.front (n := 3) rfl).tail) ?_
   refine qoD 7 4 31 rfl ?_
   refine WM_items (fun W hm => Mem.litOwn (E := tInt) (xs := [(-1), 99, 100]) rfl (show 3 ≤ maxLen from by decide) (fun _ => (els_cons (E := tInt) (L1 := []) tInt_own (els_cons (E := tInt) (L1 := []) tInt_own (els_cons (E := tInt) (L1 := []) tInt_own els_nil)))) (hm.front (n := 0) rfl)) ?_
   let I13 : It := iOwn (tSl tInt 3) [.slice (some ⟨p28, 0, none⟩) 3 3] [(-1), 99, 100]
   refine WM_callW (χ := Unit) (val := fun x => .int .i64 ((spec_l1PickInt_m x0b ((spec_l1Below_m x0b G10.2 8).2) [(-1), 99, 100]).1)) (js := fun x => (iBox p 115 [.slice A2 x0b.length c3, .int .i64 ((((spec_l1PickInt_m x0b ((spec_l1Below_m x0b G10.2 8).2) [(-1), 99, 100]).2).i : Nat) : Int), .int .i64 ((spec_l1PickInt_m x0b ((spec_l1Below_m x0b G10.2 8).2) [(-1), 99, 100]).2).h] :: I13 :: (iBox p16 43 K2 :: I12 :: iBox p7 43 [.int .i64 0, .slice none 0 0] :: is))) (cl_fn cb86 rfl) (fun W hm => spec_l1PickInt_c B w0 (iBox p16 43 K2 :: I12 :: iBox p7 43 [.int .i64 0, .slice none 0 0] :: is) W p _ x0b ((spec_l1Below_m x0b G10.2 8).2) r5 _ [(-1), 99, 100] s_0 (Nat.le_of_ble_eq_true rfl) (by first | decide | exact Nat.succ_pos _) ((hm.front (n := 0) rfl).front (n := 1) rfl)) (Wd_none rfl) (by decide) (fun z30 => ?_)
   obtain ⟨G31, hG31⟩ : ∃ G, G = (spec_l1PickInt_m x0b ((spec_l1Below_m x0b G10.2 8).2) [(-1), 99, 100]) := ⟨_, rfl⟩
   rw [← hG31]
   refine qnD (fun W hm => (((((hm.front (n := 4) rfl).front (n := 3) rfl).front (n := 2) rfl).tail.front (n := 2) rfl).tail.front (n := 2) rfl).tail) (fun W hm => (((((hm.front (n := 4) rfl).front (n := 4) rfl).front (n := 4) rfl).front (n := 3) rfl).tail.front (n := 3) rfl).tail) ?_
   refine qtD 7 5 63 rfl (vix 1 0 underlying28 type3) ?_
   refine qoD 7 6 127 rfl ?_
   let K3 : List Value := [.slice A2 x0b.length c3, .int .i64 ((G31.2.i : Nat) : Int), .int .i64 G31.2.h]
   refine WM_setEl (E := tInt) (e := 3) (u := .int .i64 G31.1) (k := 0) (p := g27) (n := G10.1.Values.length) (xs := G10.1.Values) (eis := []) (js := (iBox p 115 K3 :: I13 :: iBox p16 43 K2 :: iBox p7 43 [.int .i64 0, .slice none 0 0] :: is)) (yv := G31.1) (fun W hm => (hm.front (n := 3) rfl)) (fun _ _ hs => (Sep.nil hs ▸ tInt_own)) rfl type3 rfl (by omega) rfl rfl (Wd_none rfl) ?_
   refine qxD (fun W hm => (((((hm.front (n := 4) rfl).front (n := 4) rfl).front (n := 2) rfl).tail.front (n := 2) rfl).tail.front (n := 2) rfl).tail) ?_
   refine QB_done (by kernel_rfl) ?_
   refine QM_block_normal (QM_then (sr ?_))
   refine wv (fun W hm => rv_loadN (cs := K2) underlying43 type43 rfl rfl (hm.boxCells (n := 3) rfl)) ?_
   refine WM_storeBox (p := p7) (o := 0) (cs' := K2) (fun w hm => hm.front (n := 4) rfl) type43 rfl (Nat.le_of_ble_eq_true rfl) rfl rfl rfl rfl (Wd_none rfl) ?_
   refine nt' (CM_ret ?_)
   refine QM_items (js := (iOwn tyRow K2 (⟨G10.1.Id, (G10.1.Values.set 0 G31.1)⟩ : DRow) :: (iBox p7 43 K2 :: iBox p 115 K3 :: I13 :: iBox p16 43 K2 :: is))) (fun W hm => Mem.join (is := [iOwn (tSl tInt 3) [.slice (some ⟨g27, 0, none⟩) G10.1.Values.length c13] (G10.1.Values.set 0 G31.1)]) (js := (iBox p7 43 K2 :: iBox p 115 K3 :: I13 :: iBox p16 43 K2 :: is)) (fun _ _ hs => tyRow_join (x := (⟨G10.1.Id, (G10.1.Values.set 0 G31.1)⟩ : DRow)) hs) (hm.front (n := 1) rfl)) ?_
   have he32 := (show spec_l3Any_m x0b x0 = ((⟨G10.1.Id, (G10.1.Values.set 0 G31.1)⟩ : DRow), G31.2) from by subst hG10 hG31; exact cond_f g19 (cond_t g26 (rfl)))
   refine QM_r1 rfl (RR_cell (n := 1) rfl rfl underlying43 type43 rfl) (fun W hm => ⟨K2, ?_, ?_⟩)
   ·first | rw [he32] | rfl
   ·rw [he32]; exact (((((hm.front (n := 2) rfl).front (n := 1) rfl).front (n := 2) rfl).tail.front (n := 2) rfl).tail.front (n := 2) rfl).tail
  ·have g26 := beq_eq_false_iff_ne.2 h25
   refine CM_condF rfl g26 ?_
   refine sr ?_
   refine wv (fun W hm => rv_eql rfl rfl) ?_
   refine wa (nt' ?_)
   by_cases h33 : ((spec_l1Below_m x0b G10.2 8).1) = 2
   ·have g34 := beq_iff_eq.2 h33
    refine CM_condT rfl g34 ?_
    refine CM_region ?_
    refine wv (vf underlying43 rfl type28) ?_
    refine wv (vl 1 1 underlying28) ?_
    refine WM_build (cs := [.int .i64 1]) underlying28 type3 rfl (by decide) (by decide) rfl (by kernel_rfl) (Wd_none rfl) (by decide) (fun p35 => ?_)
    let K4 : List Value := [.slice A2 x0b.length c3, .int .i64 ((((spec_l1Below_m x0b G10.2 8).2).i : Nat) : Int), .int .i64 (((spec_l1Below_m x0b G10.2 8).2).h)]
    refine ap1 tInt 3 (.slice A12 G10.1.Values.length c13) G10.1.Values 1 [] (iBox p 115 K4 :: I7 :: iBox p7 43 [.int .i64 0, .slice none 0 0] :: is) [.int .i64 1] (fun W hm => ((hm.front (n := 3) rfl).front (n := 1) rfl)) (fun _ _ hs => by cases (Sep.nil hs); exact (els_cons tInt_own els_nil)) underlying28 type3 (show (G10.1.Values.length + 1) * 8 ≤ 140737488355328 from by omega) (fun v36 => ?_)
    refine WM_form (n := 0) rfl ?_
    rintro A37 c38 rfl m39
    refine wv (vf underlying43 rfl type28) ?_
    let K5 : List Value := [.int .i64 G10.1.Id, .slice A37 (G10.1.Values ++ [1]).length c38]
    refine WM_storeBox (p := p16) (o := 1) (cs' := K5) (fun w hm => hm.front (n := 2) rfl) type28 rfl (Nat.le_of_ble_eq_true rfl) rfl rfl rfl rfl (Wd_none rfl) ?_
    refine WM_nil (QM_block_normal (QM_then (sr ?_)))
    refine wv (fun W hm => rv_loadN (cs := K5) underlying43 type43 rfl rfl (hm.boxCells (n := 0) rfl)) ?_
    refine WM_storeBox (p := p7) (o := 0) (cs' := K5) (fun w hm => hm.front (n := 3) rfl) type43 rfl (Nat.le_of_ble_eq_true rfl) rfl rfl rfl rfl (Wd_none rfl) ?_
    refine nt' (CM_ret ?_)
    refine QM_items (js := (iOwn tyRow K5 (⟨G10.1.Id, (G10.1.Values ++ [1])⟩ : DRow) :: (iBox p7 43 K5 :: iBox p16 43 K5 :: iBox p 115 K4 :: is))) (fun W hm => Mem.join (is := [iOwn (tSl tInt 3) [.slice A37 (G10.1.Values ++ [1]).length c38] (G10.1.Values ++ [1])]) (js := (iBox p7 43 K5 :: iBox p16 43 K5 :: iBox p 115 K4 :: is)) (fun _ _ hs => tyRow_join (x := (⟨G10.1.Id, (G10.1.Values ++ [1])⟩ : DRow)) hs) (hm.front (n := 2) rfl)) ?_
    have he41 := (show spec_l3Any_m x0b x0 = ((⟨G10.1.Id, (G10.1.Values ++ [1])⟩ : DRow), ((spec_l1Below_m x0b G10.2 8).2)) from by subst hG10; exact cond_f g19 (cond_f g26 (cond_t g34 (rfl))))
    refine QM_r1 rfl (RR_cell (n := 1) rfl rfl underlying43 type43 rfl) (fun W hm => ⟨K5, ?_, ?_⟩)
    ·first | rw [he41] | rfl
    ·rw [he41]; exact ((((hm.front (n := 3) rfl).front (n := 1) rfl).front (n := 2) rfl).tail.front (n := 2) rfl).tail
   ·have g34 := beq_eq_false_iff_ne.2 h33
    refine CM_condF rfl g34 ?_
    refine CM_skip (QM_block_normal (QM_then (sr ?_)))
    refine wv (fun W hm => rv_loadN (cs := [.int .i64 G10.1.Id, .slice A12 G10.1.Values.length c13]) underlying43 type43 rfl rfl (hm.boxCells (n := 1) rfl)) ?_
    refine WM_storeBox (p := p7) (o := 0) (cs' := [.int .i64 G10.1.Id, .slice A12 G10.1.Values.length c13]) (fun w hm => hm.front (n := 3) rfl) type43 rfl (Nat.le_of_ble_eq_true rfl) rfl rfl rfl rfl (Wd_none rfl) ?_
    refine nt' (CM_ret ?_)
    let K6 : List Value := [.slice A2 x0b.length c3, .int .i64 ((((spec_l1Below_m x0b G10.2 8).2).i : Nat) : Int), .int .i64 (((spec_l1Below_m x0b G10.2 8).2).h)]
    let I14 : It := iBox p7 43 [.int .i64 G10.1.Id, .slice A12 G10.1.Values.length c13]
    refine QM_items (js := (iOwn tyRow [.int .i64 G10.1.Id, .slice A12 G10.1.Values.length c13] G10.1 :: (I14 :: iBox p 115 K6 :: I7 :: is))) (fun W hm => Mem.join (is := [I8]) (js := (I14 :: iBox p 115 K6 :: I7 :: is)) (fun _ _ hs => tyRow_join (x := G10.1) hs) (hm.front (n := 3) rfl)) ?_
    have he42 := (show spec_l3Any_m x0b x0 = (G10.1, ((spec_l1Below_m x0b G10.2 8).2)) from by subst hG10; exact cond_f g19 (cond_f g26 (cond_f g34 (rfl))))
    refine QM_r1 rfl (RR_cell (n := 1) rfl rfl underlying43 type43 rfl) (fun W hm => ⟨[.int .i64 G10.1.Id, .slice A12 G10.1.Values.length c13], ?_, ?_⟩)
    ·first | rw [he42] | rfl
    ·rw [he42]; exact ((((hm.front (n := 2) rfl).front (n := 1) rfl).front (n := 2) rfl).tail.front (n := 2) rfl).tail

def spec_l2Set_b1 (x0b : List Int) (k12 : Nat) (d13 : (List Int)) (s16 : Int) (s17 : Int) (s18 : Nat) (s19 : Int) : ((List Int) × Dl1Cur) ⊕ (((List Int) × Int × Int × Nat × Int) ⊕ ((List Int) × Int × Int × Nat × Int)) :=
 cond (decide (0 < s17)) (cond (decide (s16 < 24)) (Sum.inr (Sum.inr ((d13 ++ [s16]), (IntKind.i64.wrap ((IntKind.i64.wrap (s16 + 1)) + (IntKind.i64.wrap ((spec_l1Below_m x0b (⟨s18, s19⟩ : Dl1Cur) 3).1 * ((spec_l1Below_m x0b (spec_l1Below_m x0b (⟨s18, s19⟩ : Dl1Cur) 3).2 2).1))))), (IntKind.i64.wrap (s17 - 1)), ((spec_l1Below_m x0b (spec_l1Below_m x0b (⟨s18, s19⟩ : Dl1Cur) 3).2 2).2).i, ((spec_l1Below_m x0b (spec_l1Below_m x0b (⟨s18, s19⟩ : Dl1Cur) 3).2 2).2).h))) (Sum.inr (Sum.inl (d13, s16, s17, s18, s19)))) (Sum.inr (Sum.inl (d13, s16, s17, s18, s19)))
def spec_l2Set_m (x0b : List Int) (x0 : Dl1Cur) : ((List Int) × Dl1Cur) :=
 Sum.elim id (fun (s : (List Int) × Int × Int × Nat × Int) => (s.1, (⟨s.2.2.2.1, s.2.2.2.2⟩ : Dl1Cur))) (rngb (R := ((List Int) × Dl1Cur)) (fun k (s : (List Int) × Int × Int × Nat × Int) => spec_l2Set_b1 x0b k s.1 s.2.1 s.2.2.1 s.2.2.2.1 s.2.2.2.2) (((spec_l1Below_m x0b ((spec_l1Below_m x0b x0 3).2) 7).1).toNat + 1 - 0) 0 ([], (spec_l1Below_m x0b x0 3).1, (spec_l1Below_m x0b ((spec_l1Below_m x0b x0 3).2) 7).1, (spec_l1Below_m x0b ((spec_l1Below_m x0b x0 3).2) 7).2.i, (spec_l1Below_m x0b ((spec_l1Below_m x0b x0 3).2) 7).2.h))
theorem cb111 : Cb Tryd.prog 111 := ⟨f111, _, func111, rfl, by decide⟩
theorem spec_l2Set_c (B : Nat) (w0 : World) (is : List It) (w : World) (p : Nat) (z0 : Value) (x0b : List Int) (x0 : Dl1Cur) (r_0 : rdS tU8 w0 B z0 x0b) (s_0 : x0b.length ≤ 68719476736) (hm : Mem B w0 (iBox p 115 [z0, .int .i64 ((x0.i : Nat) : Int), .int .i64 x0.h] :: is) w) :
  Calls Tryd.prog 111 #[.pointer (some ⟨p, 0, none⟩)] w fun e w' => ∃ x : Value, e = .returned (x) ∧ Mem B w0 (iOwn (tSl tInt 3) [x] ((spec_l2Set_m x0b x0).1) :: iBox p 115 [z0, .int .i64 ((((spec_l2Set_m x0b x0).2).i : Nat) : Int), .int .i64 ((spec_l2Set_m x0b x0).2).h] :: is) w' := by
 obtain ⟨m1, A2, c3, rfl, q4, r5⟩ := rdS_op r_0
 refine call_enterW (L := [(0, .pointer (some ⟨p, 0, none⟩))]) (N := 32) func111 rfl rfl (Nat.le_of_ble_eq_true rfl) (argsL_cons rfl argsL_nil) hm ?_
 have l6 : x0b.length ≤ 68719476736 := s_0
 refine sr (wa (nt' (sr ?_)))
 refine WM_build0 (E := tInt) underlying28 type3 (Wd_none rfl) (by decide) (fun p7 => ?_)
 refine wa (nt' (sr (wm ?_)))
 let I4 : It := iOwn (tSl tInt 3) [.slice (some ⟨p7, 0, none⟩) 0 0] []
 refine WM_callW (χ := Unit) (val := fun x => .int .i64 ((spec_l1Below_m x0b x0 3).1)) (js := fun x => (iBox p 115 [.slice A2 x0b.length c3, .int .i64 ((((spec_l1Below_m x0b x0 3).2).i : Nat) : Int), .int .i64 ((spec_l1Below_m x0b x0 3).2).h] :: (I4 :: is))) (cl_fn cb67 rfl) (fun W hm => spec_l1Below_c B w0 (I4 :: is) W p _ x0b x0 r5 3 s_0 (hm.front (n := 1) rfl)) (Wd_none rfl) (by decide) (fun z9 => ?_)
 have hb := spec_l1Below_rng x0b x0 3
 refine wa (nt' (CM_seq (sr (wm ?_))))
 refine WM_callW (χ := Unit) (val := fun x => .int .i64 ((spec_l1Below_m x0b ((spec_l1Below_m x0b x0 3).2) 7).1)) (js := fun x => (iBox p 115 [.slice A2 x0b.length c3, .int .i64 ((((spec_l1Below_m x0b ((spec_l1Below_m x0b x0 3).2) 7).2).i : Nat) : Int), .int .i64 ((spec_l1Below_m x0b ((spec_l1Below_m x0b x0 3).2) 7).2).h] :: (I4 :: is))) (cl_fn cb67 rfl) (fun W hm => spec_l1Below_c B w0 (I4 :: is) W p _ x0b ((spec_l1Below_m x0b x0 3).2) r5 7 s_0 (hm.front (n := 0) rfl)) (Wd_none rfl) (by decide) (fun z10 => ?_)
 have hb := spec_l1Below_rng x0b ((spec_l1Below_m x0b x0 3).2) 7
 obtain ⟨G11, hG11⟩ : ∃ G, G = (spec_l1Below_m x0b ((spec_l1Below_m x0b x0 3).2) 7) := ⟨_, rfl⟩
 rw [← hG11]
 rw [← hG11] at hb
 refine wa (nt' ?_)
 let F1 := fun k (s : (List Int) × Int × Int × Nat × Int) => spec_l2Set_b1 x0b k s.1 s.2.1 s.2.2.1 s.2.2.2.1 s.2.2.2.2
 let R2 := rngb (R := ((List Int) × Dl1Cur)) F1
 refine CM_cut (σ := ((List Int) × Int × Int × Nat × Int) × (Option Addr × Nat)) (fun s => [(3, .slice s.2.1 s.1.1.length s.2.2)]) (fun s => (iBox p 115 [.slice A2 x0b.length c3, .int .i64 ((s.1.2.2.2.1 : Nat) : Int), .int .i64 s.1.2.2.2.2] :: iOwn (tSl tInt 3) [.slice s.2.1 s.1.1.length s.2.2] s.1.1 :: is)) (fun s => R2 ((G11.1).toNat + 1 - 0) 0 ([], (spec_l1Below_m x0b x0 3).1, G11.1, G11.2.i, G11.2.h) = Sum.inr s.1) ?_ ?_
 ·
  refine CM_block ?_
  refine CM_loop (σ := Nat × ((List Int) × Int × Int × Nat × Int) × (Option Addr × Nat)) (fun s => [(0, .pointer (some (⟨p, 0, none⟩ : Addr))), (3, .slice s.2.2.1 s.2.1.1.length s.2.2.2), (4, .int .i64 s.2.1.2.1), (5, .int .i64 s.2.1.2.2.1)]) (fun s => (iBox p 115 [.slice A2 x0b.length c3, .int .i64 ((s.2.1.2.2.2.1 : Nat) : Int), .int .i64 s.2.1.2.2.2.2] :: iOwn (tSl tInt 3) [.slice s.2.2.1 s.2.1.1.length s.2.2.2] s.2.1.1 :: is)) (fun s => s.1 + ((s.2.1.2.2.1).toNat) + 1 ≤ (G11.1).toNat + 1 ∧ R2 ((G11.1).toNat + 1 - s.1) s.1 s.2.1 = R2 ((G11.1).toNat + 1 - 0) 0 ([], (spec_l1Below_m x0b x0 3).1, G11.1, G11.2.i, G11.2.h) ∧ s.2.1.1.length ≤ 0 + s.1 ∧ 0 ≤ s.2.1.2.2.1 ∧ s.2.1.2.2.1 ≤ 7) (fun s => (G11.1).toNat + 1 - s.1) (0, ([], (spec_l1Below_m x0b x0 3).1, G11.1, G11.2.i, G11.2.h), ((some ⟨p7, 0, none⟩), 0)) sl4 (fun W hm => hm) ⟨(show 0 + ((G11.1).toNat) + 1 ≤ (G11.1).toNat + 1 from by omega), rfl, Nat.le_refl _, (show 0 ≤ G11.1 from by omega), (show G11.1 ≤ 7 from by omega)⟩ ?_
  rintro ⟨k12, ⟨d13, s16, s17, s18, s19⟩, ⟨A14, c15⟩⟩ H22
  obtain ⟨hk20, hF21, hi23, hi24, hi25⟩ : k12 + ((s17).toNat) + 1 ≤ (G11.1).toNat + 1 ∧ R2 ((G11.1).toNat + 1 - k12) k12 (d13, s16, s17, s18, s19) = R2 ((G11.1).toNat + 1 - 0) 0 ([], (spec_l1Below_m x0b x0 3).1, G11.1, G11.2.i, G11.2.h) ∧ d13.length ≤ 0 + k12 ∧ 0 ≤ s17 ∧ s17 ≤ 7 := H22
  let K3 : List Value := [.slice A2 x0b.length c3, .int .i64 ((s18 : Nat) : Int), .int .i64 s19]
  show CM Tryd.prog 32 _ _ _ _ [(0, .pointer (some (⟨p, 0, none⟩ : Addr))), (3, .slice A14 d13.length c15), (4, .int .i64 s16), (5, .int .i64 s17)] (iBox p 115 K3 :: iOwn (tSl tInt 3) [.slice A14 d13.length c15] d13 :: is)
  have hw1 := wrap_id (n := s17 - 1) (by omega) (by omega)
  refine CM_seq (sr (wm ?_))
  refine wv (fun W hm => rv_gtr rfl rfl) ?_
  refine wm ?_
  by_cases h26 : 0 < s17
  ·have g27 := decide_eq_true h26
   refine wg vmv g27 ?_
   refine wg vlss g27 ?_
   refine wv (vpT g27) ?_
   refine nt' ?_
   by_cases h28 : s16 < 24
   ·have g29 := decide_eq_true h28
    refine CM_condT rfl g29 ?_
    refine CM_skip (QM_then (CM_seq (CM_block (sr (wm (wm ?_))))))
    refine WM_build (cs := [.int .i64 s16]) underlying28 type3 rfl (by decide) (by decide) rfl (by kernel_rfl) (Wd_none rfl) (by decide) (fun p30 => ?_)
    refine ap1 tInt 3 (.slice A14 d13.length c15) d13 s16 [] (iBox p 115 K3 :: is) [.int .i64 s16] (fun W hm => ((hm.front (n := 2) rfl).front (n := 1) rfl)) (fun _ _ hs => by cases (Sep.nil hs); exact (els_cons tInt_own els_nil)) underlying28 type3 (show (d13.length + 1) * 8 ≤ 140737488355328 from by omega) (fun v31 => ?_)
    refine WM_form (n := 0) rfl ?_
    rintro A32 c33 rfl m34
    refine wa (nt' (CM_region (wm ?_)))
    refine wv vadd ?_
    refine wm ?_
    let I5 : It := iOwn (tSl tInt 3) [.slice A32 (d13 ++ [s16]).length c33] (d13 ++ [s16])
    refine WM_callW (χ := Unit) (val := fun x => .int .i64 ((spec_l1Below_m x0b (⟨s18, s19⟩ : Dl1Cur) 3).1)) (js := fun x => (iBox p 115 [.slice A2 x0b.length c3, .int .i64 ((((spec_l1Below_m x0b (⟨s18, s19⟩ : Dl1Cur) 3).2).i : Nat) : Int), .int .i64 ((spec_l1Below_m x0b (⟨s18, s19⟩ : Dl1Cur) 3).2).h] :: (I5 :: is))) (cl_fn cb67 rfl) (fun W hm => spec_l1Below_c B w0 (I5 :: is) W p _ x0b (⟨s18, s19⟩ : Dl1Cur) r5 3 s_0 (hm.front (n := 1) rfl)) (Wd_none rfl) (by decide) (fun z36 => ?_)
    have hb := spec_l1Below_rng x0b (⟨s18, s19⟩ : Dl1Cur) 3
    obtain ⟨G37, hG37⟩ : ∃ G, G = (spec_l1Below_m x0b (⟨s18, s19⟩ : Dl1Cur) 3) := ⟨_, rfl⟩
    rw [← hG37]
    rw [← hG37] at hb
    refine wm ?_
    refine WM_callW (χ := Unit) (val := fun x => .int .i64 ((spec_l1Below_m x0b G37.2 2).1)) (js := fun x => (iBox p 115 [.slice A2 x0b.length c3, .int .i64 ((((spec_l1Below_m x0b G37.2 2).2).i : Nat) : Int), .int .i64 ((spec_l1Below_m x0b G37.2 2).2).h] :: (I5 :: is))) (cl_fn cb67 rfl) (fun W hm => spec_l1Below_c B w0 (I5 :: is) W p _ x0b G37.2 r5 2 s_0 (hm.front (n := 0) rfl)) (Wd_none rfl) (by decide) (fun z38 => ?_)
    have hb := spec_l1Below_rng x0b G37.2 2
    refine wv (fun W hm => rv_mul rfl rfl) ?_
    refine wv vadd ?_
    refine wa (WM_nil (QM_block_normal (QM_then (CM_region (wm ?_)))))
    refine wv (fun W hm => rv_sub rfl rfl) ?_
    refine wa (WM_nil ?_)
    have hn39 := rngb_next (R := ((List Int) × Dl1Cur)) (body := F1) (k := k12) (s := (d13, s16, s17, s18, s19)) (s' := ((d13 ++ [s16]), (IntKind.i64.wrap ((IntKind.i64.wrap (s16 + 1)) + (IntKind.i64.wrap (G37.1 * ((spec_l1Below_m x0b G37.2 2).1))))), (IntKind.i64.wrap (s17 - 1)), ((spec_l1Below_m x0b G37.2 2).2).i, ((spec_l1Below_m x0b G37.2 2).2).h)) (show k12 < (G11.1).toNat + 1 from by omega) (by subst hG11 hG37; exact cond_t g27 (cond_t g29 (rfl))) hF21
    exact QM_round (k12 + 1, ((d13 ++ [s16]), (IntKind.i64.wrap ((IntKind.i64.wrap (s16 + 1)) + (IntKind.i64.wrap (G37.1 * ((spec_l1Below_m x0b G37.2 2).1))))), (IntKind.i64.wrap (s17 - 1)), ((spec_l1Below_m x0b G37.2 2).2).i, ((spec_l1Below_m x0b G37.2 2).2).h), (A32, c33)) sl4 (fun W hm => hm) ⟨(show (k12 + 1) + (((IntKind.i64.wrap (s17 - 1))).toNat) + 1 ≤ (G11.1).toNat + 1 from by omega), hn39, (show (d13 ++ [s16]).length ≤ 0 + (k12 + 1) from by first | omega | (simp only [List.length_append, List.length_cons, List.length_nil] at *; omega)), (show 0 ≤ (IntKind.i64.wrap (s17 - 1)) from by first | omega | (simp only [List.length_append, List.length_cons, List.length_nil] at *; omega)), (show (IntKind.i64.wrap (s17 - 1)) ≤ 7 from by first | omega | (simp only [List.length_append, List.length_cons, List.length_nil] at *; omega))⟩ (show (G11.1).toNat + 1 - (k12 + 1) < (G11.1).toNat + 1 - k12 from by omega)
   ·have g29 := decide_eq_false h28
    refine CM_condF rfl g29 ?_
    refine CM_exit (QM_then_exit (QM_then_exit (QM_block_hit ?_)))
    have hE40 := rngb_brk (R := ((List Int) × Dl1Cur)) (body := F1) (k := k12) (s := (d13, s16, s17, s18, s19)) (s' := (d13, s16, s17, s18, s19)) (show k12 < (G11.1).toNat + 1 from by omega) (by subst hG11; exact cond_t g27 (cond_f g29 (rfl))) hF21
    exact QM_cut_normal ((d13, s16, s17, s18, s19), (A14, c15)) (subL_cons rfl subL_nil) (fun W hm => hm) hE40
  ·have g27 := decide_eq_false h26
   refine ws g27 ?_
   refine ws g27 ?_
   refine wv (vpF g27) ?_
   refine nt' ?_
   refine CM_condF rfl rfl ?_
   refine CM_exit (QM_then_exit (QM_then_exit (QM_block_hit ?_)))
   have hE41 := rngb_brk (R := ((List Int) × Dl1Cur)) (body := F1) (k := k12) (s := (d13, s16, s17, s18, s19)) (s' := (d13, s16, s17, s18, s19)) (show k12 < (G11.1).toNat + 1 from by omega) (by subst hG11; exact cond_f g27 (rfl)) hF21
   exact QM_cut_normal ((d13, s16, s17, s18, s19), (A14, c15)) (subL_cons rfl subL_nil) (fun W hm => hm) hE41
 ·
  rintro ⟨⟨d13, s16, s17, s18, s19⟩, ⟨A14, c15⟩⟩ H43
  have hE42 : R2 ((G11.1).toNat + 1 - 0) 0 ([], (spec_l1Below_m x0b x0 3).1, G11.1, G11.2.i, G11.2.h) = Sum.inr (d13, s16, s17, s18, s19) := H43
  show QM 32 _ _ _ .normal [(3, .slice A14 d13.length c15)] (iBox p 115 [.slice A2 x0b.length c3, .int .i64 ((s18 : Nat) : Int), .int .i64 s19] :: iOwn (tSl tInt 3) [.slice A14 d13.length c15] d13 :: is)
  refine QM_then (sr (wm (wa (nt' (CM_ret ?_)))))
  have he44 := (show spec_l2Set_m x0b x0 = (d13, (⟨s18, s19⟩ : Dl1Cur)) from by subst hG11; exact fin_inr hE42 (rfl))
  refine QM_r1 rfl (RR_tmp rfl) (fun W hm => ⟨.slice A14 d13.length c15, ?_, ?_⟩)
  ·first | rw [he44] | rfl
  ·rw [he44]; exact ((hm.front (n := 0) rfl).front (n := 1) rfl)

theorem spec_l2Set_fact (b : List Int) (D : Dl1Cur) : (spec_l2Set_m b D).1.length ≤ 6 := by
  have hb := spec_l1Below_rng b (spec_l1Below_m b D 3).2 7
  have hb' := hb.2.1 (by omega)
  have key : ∀ (m k : Nat) (s : (List Int) × Int × Int × Nat × Int), (s.2.2.1 ≤ 6 ∧ s.1.length + s.2.2.1.toNat ≤ 6) → (Sum.elim id (fun (s : (List Int) × Int × Int × Nat × Int) => (s.1, (⟨s.2.2.2.1, s.2.2.2.2⟩ : Dl1Cur))) (rngb (R := ((List Int) × Dl1Cur)) (fun k (s : (List Int) × Int × Int × Nat × Int) => spec_l2Set_b1 b k s.1 s.2.1 s.2.2.1 s.2.2.2.1 s.2.2.2.2) m k s)).1.length ≤ 6 := fun m k s hs => by
    obtain ⟨s', e1, e2⟩ := rngb_invP (R := ((List Int) × Dl1Cur)) (b := fun k (s : (List Int) × Int × Int × Nat × Int) => spec_l2Set_b1 b k s.1 s.2.1 s.2.2.1 s.2.2.2.1 s.2.2.2.2) (P := fun _ s => s.2.2.1 ≤ 6 ∧ s.1.length + s.2.2.1.toNat ≤ 6) (Q := fun s => s.1.length ≤ 6) (fun k s ⟨p1, p2⟩ => by
      show (∃ s', spec_l2Set_b1 b k s.1 s.2.1 s.2.2.1 s.2.2.2.1 s.2.2.2.2 = _ ∧ _) ∨ ∃ s', spec_l2Set_b1 b k s.1 s.2.1 s.2.2.1 s.2.2.2.1 s.2.2.2.2 = _ ∧ _
      unfold spec_l2Set_b1
      by_cases h : 0 < s.2.2.1
      · rw [decide_eq_true h, cond_true, wrap_id (n := s.2.2.1 - 1) (by omega) (by omega)]
        cases decide (s.2.1 < 24) with
        | true =>
          refine .inl ⟨_, rfl, ?_, ?_⟩
          · show s.2.2.1 - 1 ≤ 6; omega
          · show (s.1 ++ [_]).length + (s.2.2.1 - 1).toNat ≤ 6; rw [List.length_append]; show s.1.length + 1 + _ ≤ 6; omega
        | false => exact .inr ⟨_, rfl, by show s.1.length ≤ 6; omega⟩
      · rw [decide_eq_false h]
        exact .inr ⟨_, rfl, by show s.1.length ≤ 6; omega⟩) m k s hs
    rw [e1]
    show s'.1.length ≤ 6
    rcases e2 with h | h <;> omega
  unfold spec_l2Set_m
  exact key _ _ _ ⟨(by show (spec_l1Below_m b (spec_l1Below_m b D 3).2 7).1 ≤ 6; omega), (by show 0 + (spec_l1Below_m b (spec_l1Below_m b D 3).2 7).1.toNat ≤ 6; omega)⟩
def spec_l2Any_m (x0b : List Int) (x0 : Dl1Cur) : ((List Int) × Dl1Cur) :=
 cond ((spec_l1Once_m x0b ((spec_l2Set_m x0b x0).2) 8).1) (((spec_l2Set_m x0b x0).1 ++ [(spec_l1PickInt_m x0b (spec_l1Once_m x0b ((spec_l2Set_m x0b x0).2) 8).2 [(-1), 0, 23, 24]).1]), (spec_l1PickInt_m x0b (spec_l1Once_m x0b ((spec_l2Set_m x0b x0).2) 8).2 [(-1), 0, 23, 24]).2) ((spec_l2Set_m x0b x0).1, (spec_l1Once_m x0b ((spec_l2Set_m x0b x0).2) 8).2)
theorem cb98 : Cb Tryd.prog 98 := ⟨f98, _, func98, rfl, by decide⟩
theorem spec_l2Any_c (B : Nat) (w0 : World) (is : List It) (w : World) (p : Nat) (z0 : Value) (x0b : List Int) (x0 : Dl1Cur) (r_0 : rdS tU8 w0 B z0 x0b) (s_0 : x0b.length ≤ 68719476736) (hm : Mem B w0 (iBox p 115 [z0, .int .i64 ((x0.i : Nat) : Int), .int .i64 x0.h] :: is) w) :
  Calls Tryd.prog 98 #[.pointer (some ⟨p, 0, none⟩)] w fun e w' => ∃ x : Value, e = .returned (x) ∧ Mem B w0 (iOwn (tSl tInt 3) [x] ((spec_l2Any_m x0b x0).1) :: iBox p 115 [z0, .int .i64 ((((spec_l2Any_m x0b x0).2).i : Nat) : Int), .int .i64 ((spec_l2Any_m x0b x0).2).h] :: is) w' := by
 obtain ⟨m1, A2, c3, rfl, q4, r5⟩ := rdS_op r_0
 refine call_enterW (L := [(0, .pointer (some ⟨p, 0, none⟩))]) (N := 15) func98 rfl rfl (Nat.le_of_ble_eq_true rfl) (argsL_cons rfl argsL_nil) hm ?_
 have l6 : x0b.length ≤ 68719476736 := s_0
 refine sr (wa (nt' (sr (wm ?_))))
 refine WM_callW (χ := Value) (val := fun x => x) (js := fun x => (iOwn (tSl tInt 3) [x] ((spec_l2Set_m x0b x0).1) :: iBox p 115 [.slice A2 x0b.length c3, .int .i64 ((((spec_l2Set_m x0b x0).2).i : Nat) : Int), .int .i64 ((spec_l2Set_m x0b x0).2).h] :: (is))) (cl_fn cb111 rfl) (fun W hm => spec_l2Set_c B w0 (is) W p _ x0b x0 r5 s_0 (hm.front (n := 0) rfl)) (Wd_none rfl) (by decide) (fun z7 => ?_)
 have hsf := spec_l2Set_fact x0b x0
 refine WM_form (n := 0) rfl ?_
 rintro A8 c9 rfl m10
 refine wa (nt' (CM_seq (sr (wm ?_))))
 let I1 : It := iOwn (tSl tInt 3) [.slice A8 ((spec_l2Set_m x0b x0).1).length c9] ((spec_l2Set_m x0b x0).1)
 refine WM_callW (χ := Unit) (val := fun x => .bool ((spec_l1Once_m x0b ((spec_l2Set_m x0b x0).2) 8).1)) (js := fun x => (iBox p 115 [.slice A2 x0b.length c3, .int .i64 ((((spec_l1Once_m x0b ((spec_l2Set_m x0b x0).2) 8).2).i : Nat) : Int), .int .i64 ((spec_l1Once_m x0b ((spec_l2Set_m x0b x0).2) 8).2).h] :: (I1 :: is))) (cl_fn cb89 rfl) (fun W hm => spec_l1Once_c B w0 (I1 :: is) W p _ x0b ((spec_l2Set_m x0b x0).2) r5 8 s_0 (hm.front (n := 1) rfl)) (Wd_none rfl) (by decide) (fun z12 => ?_)
 obtain ⟨G13, hG13⟩ : ∃ G, G = (spec_l1Once_m x0b ((spec_l2Set_m x0b x0).2) 8) := ⟨_, rfl⟩
 rw [← hG13]
 refine nt' ?_
 rcases Bool.eq_false_or_eq_true G13.1 with g15 | g15
 ·
  refine CM_condT rfl g15 ?_
  refine CM_region (wm (wm ?_))
  refine WM_build (cs := [.int .i64 (-1), .int .i64 0, .int .i64 23, .int .i64 24]) underlying28 type3 rfl (by decide) (by decide) rfl (by kernel_rfl) (Wd_none rfl) (by decide) (fun p16 => ?_)
  refine WM_items (fun W hm => Mem.litOwn (E := tInt) (xs := [(-1), 0, 23, 24]) rfl (show 4 ≤ maxLen from by decide) (fun _ => (els_cons (E := tInt) (L1 := []) tInt_own (els_cons (E := tInt) (L1 := []) tInt_own (els_cons (E := tInt) (L1 := []) tInt_own (els_cons (E := tInt) (L1 := []) tInt_own els_nil))))) (hm.front (n := 0) rfl)) ?_
  let I2 : It := iOwn (tSl tInt 3) [.slice (some ⟨p16, 0, none⟩) 4 4] [(-1), 0, 23, 24]
  refine WM_callW (χ := Unit) (val := fun x => .int .i64 ((spec_l1PickInt_m x0b G13.2 [(-1), 0, 23, 24]).1)) (js := fun x => (iBox p 115 [.slice A2 x0b.length c3, .int .i64 ((((spec_l1PickInt_m x0b G13.2 [(-1), 0, 23, 24]).2).i : Nat) : Int), .int .i64 ((spec_l1PickInt_m x0b G13.2 [(-1), 0, 23, 24]).2).h] :: I2 :: (I1 :: is))) (cl_fn cb86 rfl) (fun W hm => spec_l1PickInt_c B w0 (I1 :: is) W p _ x0b G13.2 r5 _ [(-1), 0, 23, 24] s_0 (Nat.le_of_ble_eq_true rfl) (by first | decide | exact Nat.succ_pos _) ((hm.front (n := 0) rfl).front (n := 1) rfl)) (Wd_none rfl) (by decide) (fun z18 => ?_)
  obtain ⟨G19, hG19⟩ : ∃ G, G = (spec_l1PickInt_m x0b G13.2 [(-1), 0, 23, 24]) := ⟨_, rfl⟩
  rw [← hG19]
  refine WM_build (cs := [.int .i64 G19.1]) underlying28 type3 rfl (by decide) (by decide) rfl (by kernel_rfl) (Wd_none rfl) (by decide) (fun p20 => ?_)
  refine ap1 tInt 3 (.slice A8 ((spec_l2Set_m x0b x0).1).length c9) ((spec_l2Set_m x0b x0).1) G19.1 [] (iBox p 115 [.slice A2 x0b.length c3, .int .i64 ((G19.2.i : Nat) : Int), .int .i64 G19.2.h] :: I2 :: is) [.int .i64 G19.1] (fun W hm => ((hm.front (n := 3) rfl).front (n := 1) rfl)) (fun _ _ hs => by cases (Sep.nil hs); exact (els_cons tInt_own els_nil)) underlying28 type3 (show (((spec_l2Set_m x0b x0).1).length + 1) * 8 ≤ 140737488355328 from by omega) (fun v21 => ?_)
  refine WM_form (n := 0) rfl ?_
  rintro A22 c23 rfl m24
  refine wa (nt' (sr (wm (wa (nt' (CM_ret ?_))))))
  have he26 := (show spec_l2Any_m x0b x0 = (((spec_l2Set_m x0b x0).1 ++ [G19.1]), G19.2) from by subst hG13 hG19; exact cond_t g15 (rfl))
  refine QM_r1 rfl (RR_tmp rfl) (fun W hm => ⟨.slice A22 ((spec_l2Set_m x0b x0).1 ++ [G19.1]).length c23, ?_, ?_⟩)
  ·first | rw [he26] | rfl
  ·rw [he26]; exact (((hm.front (n := 1) rfl).front (n := 1) rfl).front (n := 2) rfl).tail
 ·
  refine CM_condF rfl g15 ?_
  refine CM_skip (QM_then (sr (wm (wa (nt' (CM_ret ?_))))))
  have he27 := (show spec_l2Any_m x0b x0 = ((spec_l2Set_m x0b x0).1, G13.2) from by subst hG13; exact cond_f g15 (rfl))
  refine QM_r1 rfl (RR_tmp rfl) (fun W hm => ⟨.slice A8 ((spec_l2Set_m x0b x0).1).length c9, ?_, ?_⟩)
  ·first | rw [he27] | rfl
  ·rw [he27]; exact ((hm.front (n := 0) rfl).front (n := 1) rfl)

theorem rngb_keep {R S : Type} {b : Nat → S → R ⊕ (S ⊕ S)} {P : S → Prop} (h : ∀ j s, P s → (∃ s', b j s = .inr (.inl s') ∧ P s') ∨ ∃ s', b j s = .inr (.inr s') ∧ P s') : ∀ m k s, P s → ∃ s', rngb b m k s = .inr s' ∧ P s'
  | 0, _, s, hs => ⟨s, rfl, hs⟩
  | m + 1, k, s, hs => by
    rcases h k s hs with ⟨s', h1, h2⟩ | ⟨s', h1, h2⟩
    · exact ⟨s', by rw [rngb, h1]; rfl, h2⟩
    · obtain ⟨s'', h3, h4⟩ := rngb_keep h m (k + 1) s' h2
      exact ⟨s'', by rw [rngb, h1]; exact h3, h4⟩
theorem cond_smR {b : Bool} {p q : DRow × Dl1Cur} (h1 : smRow 68719476736 p.1) (h2 : smRow 68719476736 q.1) : smRow 68719476736 (cond b p q).1 := by cases b <;> assumption
theorem spec_l3Any_sm (b : List Int) (D : Dl1Cur) : smRow 68719476736 (spec_l3Any_m b D).1 := by
  have hr := (spec_l3Row_fact b (spec_l1Below_m b D 9).2 (spec_l1Below_m b D 9).1).2.1
  unfold spec_l3Any_m
  repeat' (first | (show List.length _ ≤ 68719476736; first | omega | (simp only [List.length_set, List.length_append, List.length_take, List.length_cons, List.length_nil]; omega)) | apply cond_smR)
theorem spec_l2Any_fact (b : List Int) (D : Dl1Cur) : (spec_l2Any_m b D).1.length ≤ 7 := by
  have h := spec_l2Set_fact b D
  unfold spec_l2Any_m
  cases (spec_l1Once_m b (spec_l2Set_m b D).2 8).1 with
  | true => show ((spec_l2Set_m b D).1 ++ [_]).length ≤ 7; rw [List.length_append]; show _ + 1 ≤ 7; omega
  | false => show (spec_l2Set_m b D).1.length ≤ 7; omega
theorem spec_MatchSet_len (x : DIndex) (r : DRow) : (spec_MatchSet_m x r).length ≤ x.Queries.length := by
  unfold spec_MatchSet_m spec_ProbeSet_m
  cases spec_IsIndex_m x with
  | false => exact Nat.zero_le _
  | true =>
    cases spec_IsRow_m r with
    | false => exact Nat.zero_le _
    | true =>
      cases spec_l6Order_m [0, 1, 2] with
      | false => exact Nat.zero_le _
      | true =>
        show (spec_l6Probe_m x r [0, 1, 2]).1.length ≤ _
        unfold spec_l6Probe_m
        obtain ⟨s', h1, h2⟩ := rngb_keep (R := (List Int) × Int) (b := fun k (s : (List Int) × Int) => spec_l6Probe_b1 x r [0, 1, 2] k s.1 s.2) (P := fun s => s.1.length ≤ x.Queries.length) (fun j s hs => by
          show (∃ s', spec_l6Probe_b1 x r [0, 1, 2] j s.1 s.2 = _ ∧ _) ∨ ∃ s', spec_l6Probe_b1 x r [0, 1, 2] j s.1 s.2 = _ ∧ _
          unfold spec_l6Probe_b1
          cases decide (0 < ((s.1.length : Nat) : Int))
          · exact .inl ⟨_, rfl, hs⟩
          · exact .inr ⟨_, rfl, Nat.le_trans (spec_MeetSets_len _ _) hs⟩) (([0, 1, 2] : List Int).length - 0) 0 ((spec_l6All_m x.Queries), 0) (spec_l6All_len _)
        rw [h1]
        exact h2
theorem spec_Annotate_form (x : DIndex) (y : List DRow) : spec_AnnotateRows_m x y = cond (spec_IsIndex_m x) (((y.filter fun r => decide (0 < (((spec_MatchSet_m x r).length : Nat) : Int)))).map fun r => (⟨r, spec_MatchSet_m x r⟩ : DAnnotated)) [] := by
  unfold spec_AnnotateRows_m
  cases h : spec_IsIndex_m x with
  | false => rw [rngb_false (fun j s => by unfold spec_AnnotateRows_b1; rw [h]; rfl)]; rfl
  | true =>
    rw [rngb_as (b := fun k (d : List DAnnotated) => (.inr (cond (decide (0 < (((spec_MatchSet_m x (gt y k)).length : Nat) : Int))) (d ++ [(⟨gt y k, spec_MatchSet_m x (gt y k)⟩ : DAnnotated)]) d) : List DAnnotated ⊕ List DAnnotated)) (fun j s => by
      unfold spec_AnnotateRows_b1
      rw [h, cond_true]
      cases decide (0 < (((spec_MatchSet_m x (gt y j)).length : Nat) : Int)) <;> rfl),
      rng_fold (xs := y) (f := fun d r => cond (decide (0 < (((spec_MatchSet_m x r).length : Nat) : Int))) (d ++ [(⟨r, spec_MatchSet_m x r⟩ : DAnnotated)]) d) (fun j s _ => rfl), foldl_filterMap]
    rfl
def annP (m : Nat) (l : List DAnnotated) : Prop := l.length ≤ m ∧ ∀ a ∈ l, smAnnotated 68719476736 a
theorem annP_sm {m : Nat} {l : List DAnnotated} (h : annP m l) (hm : m ≤ 100) : l.length ≤ 68719476736 ∧ ∀ a ∈ l, smAnnotated 68719476736 a := ⟨by have := h.1; omega, h.2⟩
theorem spec_Annotate_P {x : DIndex} {y : List DRow} {m : Nat} (hx : x.Queries.length ≤ 68719476736) (hl : y.length ≤ m) (hy : ∀ r ∈ y, smRow 68719476736 r) : annP m (spec_AnnotateRows_m x y) := by
  rw [spec_Annotate_form]
  cases spec_IsIndex_m x with
  | false => exact ⟨Nat.zero_le _, fun a ha => by cases ha⟩
  | true =>
    refine ⟨?_, fun a ha => ?_⟩
    · show (List.map _ (List.filter _ y)).length ≤ m
      rw [List.length_map]
      exact Nat.le_trans (List.length_filter_le _ _) hl
    · obtain ⟨r, hr, rfl⟩ := List.mem_map.1 ha
      exact ⟨hy r (List.mem_filter.1 hr).1, Nat.le_trans (spec_MatchSet_len x r) hx⟩
theorem spec_l13Draw_fact (b : List Int) (D : Dl1Cur) : annP 8 (spec_l13Draw_m b D).2.2.1 := by
  show annP 8 (spec_AnnotateRows_m (spec_BuildIndex_m (spec_l4Queries_m b D 5).1) (spec_l3Rows_m b (spec_l4Queries_m b D 5).2 8).1)
  have hq := spec_l4Queries_fact b D 5 (by omega) (by omega)
  have hr := spec_l3Rows_fact b (spec_l4Queries_m b D 5).2 8 (by omega) (by omega)
  exact spec_Annotate_P (BuildIndex_sm hq (by omega)).1.1 (by omega) (rowsP_sm hr.1 (by omega)).2
def spec_l13Any_m (x0b : List Int) (x0 : Dl1Cur) : ((List DAnnotated) × Dl1Cur) :=
 cond ((spec_l1Once_m x0b ((spec_l13Draw_m x0b x0).2.2.2) 10).1) (((spec_l13Draw_m x0b x0).2.2.1 ++ [(⟨((spec_l3Any_m x0b (spec_l1Once_m x0b ((spec_l13Draw_m x0b x0).2.2.2) 10).2).1), (spec_l2Any_m x0b ((spec_l3Any_m x0b (spec_l1Once_m x0b ((spec_l13Draw_m x0b x0).2.2.2) 10).2).2)).1⟩ : DAnnotated)]), (spec_l2Any_m x0b ((spec_l3Any_m x0b (spec_l1Once_m x0b ((spec_l13Draw_m x0b x0).2.2.2) 10).2).2)).2) ((spec_l13Draw_m x0b x0).2.2.1, (spec_l1Once_m x0b ((spec_l13Draw_m x0b x0).2.2.2) 10).2)
theorem cb88 : Cb Tryd.prog 88 := ⟨f88, _, func88, rfl, by decide⟩
theorem spec_l13Any_c (B : Nat) (w0 : World) (is : List It) (w : World) (p : Nat) (z0 : Value) (x0b : List Int) (x0 : Dl1Cur) (r_0 : rdS tU8 w0 B z0 x0b) (s_0 : x0b.length ≤ 68719476736) (hm : Mem B w0 (iBox p 115 [z0, .int .i64 ((x0.i : Nat) : Int), .int .i64 x0.h] :: is) w) :
  Calls Tryd.prog 88 #[.pointer (some ⟨p, 0, none⟩)] w fun e w' => ∃ x : Value, e = .returned (x) ∧ Mem B w0 (iOwn (tSl tyAnnotated 72) [x] ((spec_l13Any_m x0b x0).1) :: iBox p 115 [z0, .int .i64 ((((spec_l13Any_m x0b x0).2).i : Nat) : Int), .int .i64 ((spec_l13Any_m x0b x0).2).h] :: is) w' := by
 obtain ⟨m1, A2, c3, rfl, q4, r5⟩ := rdS_op r_0
 refine call_enterW (L := [(0, .pointer (some ⟨p, 0, none⟩))]) (N := 23) func88 rfl rfl (Nat.le_of_ble_eq_true rfl) (argsL_cons rfl argsL_nil) hm ?_
 have l6 : x0b.length ≤ 68719476736 := s_0
 refine sr (wa (nt' (sr (wm ?_))))
 refine WM_callW (χ := Value × Value × Value) (val := fun x => .tuple #[x.1, x.2.1, x.2.2]) (js := fun x => (iOwn (tSl tyQuery 150) [x.1] ((spec_l13Draw_m x0b x0).1) :: iOwn (tSl tyRow 43) [x.2.1] ((spec_l13Draw_m x0b x0).2.1) :: iOwn (tSl tyAnnotated 72) [x.2.2] ((spec_l13Draw_m x0b x0).2.2.1) :: iBox p 115 [.slice A2 x0b.length c3, .int .i64 ((((spec_l13Draw_m x0b x0).2.2.2).i : Nat) : Int), .int .i64 ((spec_l13Draw_m x0b x0).2.2.2).h] :: (is))) (cl_fn cb96 rfl) (fun W hm => spec_l13Draw_c B w0 (is) W p _ x0b x0 r5 s_0 (hm.front (n := 0) rfl)) (Wd_none rfl) (by decide) (fun z7 => ?_)
 have hdd := (spec_l13Draw_fact x0b x0).1
 obtain ⟨z8, z9, z10⟩ := z7
 refine WM_form (n := 0) rfl ?_
 rintro A11 c12 rfl m13
 let K1 : List Value := [.slice A2 x0b.length c3, .int .i64 ((((spec_l13Draw_m x0b x0).2.2.2).i : Nat) : Int), .int .i64 (((spec_l13Draw_m x0b x0).2.2.2).h)]
 let I4 : It := iOwn (tSl tyQuery 150) [.slice A11 ((spec_l13Draw_m x0b x0).1).length c12] ((spec_l13Draw_m x0b x0).1)
 let I5 : It := iOwn (tSl tyAnnotated 72) [z10] ((spec_l13Draw_m x0b x0).2.2.1)
 refine WM_items (js := (iOwn (tSl tyRow 43) [z9] ((spec_l13Draw_m x0b x0).2.1) :: I4 :: I5 :: iBox p 115 K1 :: is)) (fun W hm => (hm.front (n := 1) rfl)) ?_
 refine WM_form (n := 0) rfl ?_
 rintro A15 c16 rfl m17
 let I6 : It := iOwn (tSl tyRow 43) [.slice A15 ((spec_l13Draw_m x0b x0).2.1).length c16] ((spec_l13Draw_m x0b x0).2.1)
 refine WM_items (js := (I5 :: I6 :: I4 :: iBox p 115 K1 :: is)) (fun W hm => (hm.front (n := 2) rfl)) ?_
 refine WM_form (n := 0) rfl ?_
 rintro A19 c20 rfl m21
 refine wm ?_
 refine wv (fun W hm => rv_extract rfl rfl) ?_
 refine wv (fun W hm => rv_extract rfl rfl) ?_
 refine wv (fun W hm => rv_extract rfl rfl) ?_
 refine wa (wa (wa (nt' (CM_seq (sr (wm ?_))))))
 let I7 : It := iOwn (tSl tyAnnotated 72) [.slice A19 ((spec_l13Draw_m x0b x0).2.2.1).length c20] ((spec_l13Draw_m x0b x0).2.2.1)
 refine WM_callW (χ := Unit) (val := fun x => .bool ((spec_l1Once_m x0b ((spec_l13Draw_m x0b x0).2.2.2) 10).1)) (js := fun x => (iBox p 115 [.slice A2 x0b.length c3, .int .i64 ((((spec_l1Once_m x0b ((spec_l13Draw_m x0b x0).2.2.2) 10).2).i : Nat) : Int), .int .i64 ((spec_l1Once_m x0b ((spec_l13Draw_m x0b x0).2.2.2) 10).2).h] :: (I7 :: I6 :: I4 :: is))) (cl_fn cb89 rfl) (fun W hm => spec_l1Once_c B w0 (I7 :: I6 :: I4 :: is) W p _ x0b ((spec_l13Draw_m x0b x0).2.2.2) r5 10 s_0 (hm.front (n := 3) rfl)) (Wd_none rfl) (by decide) (fun z23 => ?_)
 obtain ⟨G24, hG24⟩ : ∃ G, G = (spec_l1Once_m x0b ((spec_l13Draw_m x0b x0).2.2.2) 10) := ⟨_, rfl⟩
 rw [← hG24]
 refine nt' ?_
 rcases Bool.eq_false_or_eq_true G24.1 with g26 | g26
 ·
  refine CM_condT rfl g26 ?_
  refine CM_region (wm (wm ?_))
  refine WM_callW (χ := List Value) (val := fun x => .agg x.toArray) (js := fun x => (iOwn tyRow x ((spec_l3Any_m x0b G24.2).1) :: iBox p 115 [.slice A2 x0b.length c3, .int .i64 ((((spec_l3Any_m x0b G24.2).2).i : Nat) : Int), .int .i64 ((spec_l3Any_m x0b G24.2).2).h] :: (I7 :: I6 :: I4 :: is))) (cl_fn cb97 rfl) (fun W hm => spec_l3Any_c B w0 (I7 :: I6 :: I4 :: is) W p _ x0b G24.2 r5 s_0 (hm.front (n := 0) rfl)) (Wd_none rfl) (by decide) (fun z27 => ?_)
  refine tyRow_sp ?_
  rintro v28 rfl
  refine WM_form (n := 0) rfl ?_
  rintro A29 c30 rfl m31
  refine wm ?_
  let K2 : List Value := [.slice A29 (((spec_l3Any_m x0b G24.2).1).Values).length c30]
  let I8 : It := iOwn (tSl tInt 3) K2 (((spec_l3Any_m x0b G24.2).1).Values)
  refine WM_callW (χ := Value) (val := fun x => x) (js := fun x => (iOwn (tSl tInt 3) [x] ((spec_l2Any_m x0b ((spec_l3Any_m x0b G24.2).2)).1) :: iBox p 115 [.slice A2 x0b.length c3, .int .i64 ((((spec_l2Any_m x0b ((spec_l3Any_m x0b G24.2).2)).2).i : Nat) : Int), .int .i64 ((spec_l2Any_m x0b ((spec_l3Any_m x0b G24.2).2)).2).h] :: (I8 :: I7 :: I6 :: I4 :: is))) (cl_fn cb98 rfl) (fun W hm => spec_l2Any_c B w0 (I8 :: I7 :: I6 :: I4 :: is) W p _ x0b ((spec_l3Any_m x0b G24.2).2) r5 s_0 (hm.front (n := 1) rfl)) (Wd_none rfl) (by decide) (fun z33 => ?_)
  obtain ⟨G34, hG34⟩ : ∃ G, G = (spec_l2Any_m x0b ((spec_l3Any_m x0b G24.2).2)) := ⟨_, rfl⟩
  rw [← hG34]
  refine WM_form (n := 0) rfl ?_
  rintro A35 c36 rfl m37
  let K3 : List Value := [.int .i64 (((spec_l3Any_m x0b G24.2).1).Id), .slice A29 (((spec_l3Any_m x0b G24.2).1).Values).length c30, .slice A35 G34.1.length c36]
  refine wv (fun W hm => rv_build (cs := K3) rfl (by kernel_rfl)) ?_
  refine WM_build (cs := K3) underlying65 type72 rfl (by decide) (by decide) rfl (by kernel_rfl) (Wd_none rfl) (by decide) (fun p39 => ?_)
  refine ap1 tyAnnotated 72 (.slice A19 ((spec_l13Draw_m x0b x0).2.2.1).length c20) ((spec_l13Draw_m x0b x0).2.2.1) (⟨((spec_l3Any_m x0b G24.2).1), G34.1⟩ : DAnnotated) [I8, iOwn (tSl tInt 3) [.slice A35 G34.1.length c36] G34.1] (iBox p 115 [.slice A2 x0b.length c3, .int .i64 ((G34.2.i : Nat) : Int), .int .i64 G34.2.h] :: I6 :: I4 :: is) K3 (fun W hm => ((((hm.front (n := 1) rfl).front (n := 3) rfl).front (n := 4) rfl).front (n := 3) rfl)) (fun _ _ hs => Els.single (tyAnnotated_join (x := (⟨((spec_l3Any_m x0b G24.2).1), G34.1⟩ : DAnnotated)) hs)) underlying65 type72 (show (((spec_l13Draw_m x0b x0).2.2.1).length + 1) * 56 ≤ 140737488355328 from by omega) (fun v40 => ?_)
  refine WM_form (n := 0) rfl ?_
  rintro A41 c42 rfl m43
  refine wa (nt' (sr (wm (wa (nt' (CM_ret ?_))))))
  have he45 := (show spec_l13Any_m x0b x0 = (((spec_l13Draw_m x0b x0).2.2.1 ++ [(⟨((spec_l3Any_m x0b G24.2).1), G34.1⟩ : DAnnotated)]), G34.2) from by subst hG24 hG34; exact cond_t g26 (rfl))
  refine QM_r1 rfl (RR_tmp rfl) (fun W hm => ⟨.slice A41 ((spec_l13Draw_m x0b x0).2.2.1 ++ [(⟨((spec_l3Any_m x0b G24.2).1), G34.1⟩ : DAnnotated)]).length c42, ?_, ?_⟩)
  ·first | rw [he45] | rfl
  ·rw [he45]; exact ((((hm.front (n := 1) rfl).front (n := 1) rfl).front (n := 2) rfl).tail.front (n := 2) rfl).tail
 ·
  refine CM_condF rfl g26 ?_
  refine CM_skip (QM_then (sr (wm (wa (nt' (CM_ret ?_))))))
  have he46 := (show spec_l13Any_m x0b x0 = ((spec_l13Draw_m x0b x0).2.2.1, G24.2) from by subst hG24; exact cond_f g26 (rfl))
  refine QM_r1 rfl (RR_tmp rfl) (fun W hm => ⟨.slice A19 ((spec_l13Draw_m x0b x0).2.2.1).length c20, ?_, ?_⟩)
  ·first | rw [he46] | rfl
  ·rw [he46]; exact ((((hm.front (n := 0) rfl).front (n := 1) rfl).front (n := 2) rfl).tail.front (n := 2) rfl).tail

def spec_l14Draw_m (x0 : (List Int)) : ((List DAnnotated) × Int × Int) :=
 cond ((spec_l1Once_m x0 ((spec_l1Below_m x0 (spec_l13Any_m x0 (spec_l1New_m x0)).2 3).2) 10).1) ((spec_l13Any_m x0 (spec_l1New_m x0)).1, (spec_l1PickInt_m x0 (spec_l1Once_m x0 ((spec_l1Below_m x0 (spec_l13Any_m x0 (spec_l1New_m x0)).2 3).2) 10).2 [(-1), 3]).1, (spec_l1Below_m x0 (spec_l1PickInt_m x0 (spec_l1Once_m x0 ((spec_l1Below_m x0 (spec_l13Any_m x0 (spec_l1New_m x0)).2 3).2) 10).2 [(-1), 3]).2 3).1) ((spec_l13Any_m x0 (spec_l1New_m x0)).1, (spec_l1Below_m x0 (spec_l13Any_m x0 (spec_l1New_m x0)).2 3).1, (spec_l1Below_m x0 (spec_l1Once_m x0 ((spec_l1Below_m x0 (spec_l13Any_m x0 (spec_l1New_m x0)).2 3).2) 10).2 3).1)
theorem cb70 : Cb Tryd.prog 70 := ⟨f70, _, func70, rfl, by decide⟩
theorem spec_l14Draw_c (w : World) (z0 : Value) (x0 : (List Int)) (r_0 : rdS tU8 w w.heap.size z0 x0) (s_0 : x0.length ≤ 68719476736) :
  Calls Tryd.prog 70 #[z0] w fun e w' => ∃ v : Nat × Value, e = .returned (.tuple #[.pointer (some ⟨v.1, 0, none⟩), v.2, .int .i64 ((spec_l14Draw_m x0).2.1), .int .i64 ((spec_l14Draw_m x0).2.2)]) ∧ Mem w.heap.size w [iOwn (tSl tyAnnotated 72) [v.2] (spec_l14Draw_m x0).1] w' := by
 obtain ⟨m1, A2, c3, rfl, q4, r5⟩ := rdS_op r_0
 have l6 : x0.length ≤ 68719476736 := s_0
 refine ce1 (L := [(0, .slice A2 x0.length c3)]) (N := 25) func70 ?_
 refine sr (wa (wa (wa (wa (nt' (sr (wm ?_)))))))
 refine WM_call (χ := Nat) (val := fun p => .pointer (some ⟨p, 0, none⟩)) (js := fun p => [iBox p 115 [.slice A2 x0.length c3, .int .i64 (((spec_l1New_m x0).i : Nat) : Int), .int .i64 ((spec_l1New_m x0).h)]]) (cl_fn cb64 rfl) (fun W hm => spec_l1New_c W _ x0 (hm.rdS0 r5) s_0) (Wd_none rfl) (by decide) (fun p7 => ?_)
 refine wa (nt' (sr (wm ?_)))
 refine WM_callW (χ := Value) (val := fun x => x) (js := fun x => (iOwn (tSl tyAnnotated 72) [x] ((spec_l13Any_m x0 (spec_l1New_m x0)).1) :: iBox p7 115 [.slice A2 x0.length c3, .int .i64 ((((spec_l13Any_m x0 (spec_l1New_m x0)).2).i : Nat) : Int), .int .i64 ((spec_l13Any_m x0 (spec_l1New_m x0)).2).h] :: [])) (cl_fn cb88 rfl) (fun W hm => spec_l13Any_c w.heap.size w [] W p7 _ x0 (spec_l1New_m x0) r5 s_0 hm) (Wd_none rfl) (by decide) (fun z8 => ?_)
 obtain ⟨G9, hG9⟩ : ∃ G, G = (spec_l13Any_m x0 (spec_l1New_m x0)) := ⟨_, rfl⟩
 rw [← hG9]
 refine WM_form (n := 0) rfl ?_
 rintro A10 c11 rfl m12
 refine wa (nt' (sr (wm ?_)))
 let I1 : It := iOwn (tSl tyAnnotated 72) [.slice A10 G9.1.length c11] G9.1
 refine WM_callW (χ := Unit) (val := fun x => .int .i64 ((spec_l1Below_m x0 G9.2 3).1)) (js := fun x => (iBox p7 115 [.slice A2 x0.length c3, .int .i64 ((((spec_l1Below_m x0 G9.2 3).2).i : Nat) : Int), .int .i64 ((spec_l1Below_m x0 G9.2 3).2).h] :: [I1])) (cl_fn cb67 rfl) (fun W hm => spec_l1Below_c w.heap.size w [I1] W p7 _ x0 G9.2 r5 3 s_0 (hm.pick [1, 0] (by decide))) (Wd_none rfl) (by decide) (fun z14 => ?_)
 have hb := spec_l1Below_rng x0 G9.2 3
 refine wa (nt' (CM_seq (sr (wm ?_))))
 refine WM_callW (χ := Unit) (val := fun x => .bool ((spec_l1Once_m x0 ((spec_l1Below_m x0 G9.2 3).2) 10).1)) (js := fun x => (iBox p7 115 [.slice A2 x0.length c3, .int .i64 ((((spec_l1Once_m x0 ((spec_l1Below_m x0 G9.2 3).2) 10).2).i : Nat) : Int), .int .i64 ((spec_l1Once_m x0 ((spec_l1Below_m x0 G9.2 3).2) 10).2).h] :: [I1])) (cl_fn cb89 rfl) (fun W hm => spec_l1Once_c w.heap.size w [I1] W p7 _ x0 ((spec_l1Below_m x0 G9.2 3).2) r5 10 s_0 hm) (Wd_none rfl) (by decide) (fun z15 => ?_)
 obtain ⟨G16, hG16⟩ : ∃ G, G = (spec_l1Once_m x0 ((spec_l1Below_m x0 G9.2 3).2) 10) := ⟨_, rfl⟩
 rw [← hG16]
 refine nt' ?_
 rcases Bool.eq_false_or_eq_true G16.1 with g18 | g18
 ·
  refine CM_condT rfl g18 ?_
  refine CM_region (wm ?_)
  refine WM_build (cs := [.int .i64 (-1), .int .i64 3]) underlying28 type3 rfl (by decide) (by decide) rfl (by kernel_rfl) (Wd_none rfl) (by decide) (fun p19 => ?_)
  refine WM_items (fun W hm => Mem.litOwn (E := tInt) (xs := [(-1), 3]) rfl (show 2 ≤ maxLen from by decide) (fun _ => (els_cons (E := tInt) (L1 := []) tInt_own (els_cons (E := tInt) (L1 := []) tInt_own els_nil))) hm) ?_
  let I2 : It := iOwn (tSl tInt 3) [.slice (some ⟨p19, 0, none⟩) 2 2] [(-1), 3]
  refine WM_callW (χ := Unit) (val := fun x => .int .i64 ((spec_l1PickInt_m x0 G16.2 [(-1), 3]).1)) (js := fun x => (iBox p7 115 [.slice A2 x0.length c3, .int .i64 ((((spec_l1PickInt_m x0 G16.2 [(-1), 3]).2).i : Nat) : Int), .int .i64 ((spec_l1PickInt_m x0 G16.2 [(-1), 3]).2).h] :: I2 :: [I1])) (cl_fn cb86 rfl) (fun W hm => spec_l1PickInt_c w.heap.size w [I1] W p7 _ x0 G16.2 r5 _ [(-1), 3] s_0 (Nat.le_of_ble_eq_true rfl) (by first | decide | exact Nat.succ_pos _) (hm.pick [1, 0, 2] (by decide))) (Wd_none rfl) (by decide) (fun z21 => ?_)
  obtain ⟨G22, hG22⟩ : ∃ G, G = (spec_l1PickInt_m x0 G16.2 [(-1), 3]) := ⟨_, rfl⟩
  rw [← hG22]
  refine wa (nt' (sr (wm (wm (wm (wm ?_))))))
  refine WM_callW (χ := Unit) (val := fun x => .int .i64 ((spec_l1Below_m x0 G22.2 3).1)) (js := fun x => (iBox p7 115 [.slice A2 x0.length c3, .int .i64 ((((spec_l1Below_m x0 G22.2 3).2).i : Nat) : Int), .int .i64 ((spec_l1Below_m x0 G22.2 3).2).h] :: [I2, I1])) (cl_fn cb67 rfl) (fun W hm => spec_l1Below_c w.heap.size w [I2, I1] W p7 _ x0 G22.2 r5 3 s_0 hm) (Wd_none rfl) (by decide) (fun z23 => ?_)
  have hb := spec_l1Below_rng x0 G22.2 3
  refine wa (wa (wa (wa (nt' (CM_ret ?_)))))
  have he24 := (show spec_l14Draw_m x0 = (G9.1, G22.1, (spec_l1Below_m x0 G22.2 3).1) from by subst hG9 hG16 hG22; exact cond_t g18 (rfl))
  refine QM_r4 rfl (RR_tmp rfl) (RR_tmp rfl) (RR_tmp rfl) (RR_tmp rfl) (fun W hm => ⟨(p7, .slice A10 G9.1.length c11), ?_, ?_⟩)
  ·first | rw [he24] | rfl
   try rfl
  ·rw [he24]; exact (hm.pick [2] (by decide))
 ·
  refine CM_condF rfl g18 ?_
  refine CM_skip (QM_then (sr (wm (wm (wm (wm ?_))))))
  refine WM_callW (χ := Unit) (val := fun x => .int .i64 ((spec_l1Below_m x0 G16.2 3).1)) (js := fun x => (iBox p7 115 [.slice A2 x0.length c3, .int .i64 ((((spec_l1Below_m x0 G16.2 3).2).i : Nat) : Int), .int .i64 ((spec_l1Below_m x0 G16.2 3).2).h] :: [I1])) (cl_fn cb67 rfl) (fun W hm => spec_l1Below_c w.heap.size w [I1] W p7 _ x0 G16.2 r5 3 s_0 hm) (Wd_none rfl) (by decide) (fun z25 => ?_)
  have hb := spec_l1Below_rng x0 G16.2 3
  refine wa (wa (wa (wa (nt' (CM_ret ?_)))))
  have he26 := (show spec_l14Draw_m x0 = (G9.1, (spec_l1Below_m x0 G9.2 3).1, (spec_l1Below_m x0 G16.2 3).1) from by subst hG9 hG16; exact cond_f g18 (rfl))
  refine QM_r4 rfl (RR_tmp rfl) (RR_tmp rfl) (RR_tmp rfl) (RR_tmp rfl) (fun W hm => ⟨(p7, .slice A10 G9.1.length c11), ?_, ?_⟩)
  ·first | rw [he26] | rfl
   try rfl
  ·rw [he26]; exact (hm.pick [1] (by decide))

def spec_DrawGroupShared_m (x0 : (List Int)) : ((List DAnnotated) × Int × Int) :=
 ((spec_l14Draw_m x0).1, (spec_l14Draw_m x0).2.1, (spec_l14Draw_m x0).2.2)
theorem cb41 : Cb Tryd.prog 41 := ⟨f41, _, func41, rfl, by decide⟩
theorem spec_DrawGroupShared_c (w : World) (z0 : Value) (x0 : (List Int)) (r_0 : rdS tU8 w w.heap.size z0 x0) (s_0 : x0.length ≤ 68719476736) :
  Calls Tryd.prog 41 #[z0] w fun e w' => ∃ v : Value, e = .returned (.tuple #[v, .int .i64 ((spec_DrawGroupShared_m x0).2.1), .int .i64 ((spec_DrawGroupShared_m x0).2.2)]) ∧ Mem w.heap.size w [iOwn (tSl tyAnnotated 72) [v] (spec_DrawGroupShared_m x0).1] w' := by
 obtain ⟨m1, A2, c3, rfl, q4, r5⟩ := rdS_op r_0
 have l6 : x0.length ≤ 68719476736 := s_0
 refine ce1 (L := [(0, .slice A2 x0.length c3)]) (N := 19) func41 ?_
 refine sr (wa (wa (wa (nt' (sr (wm ?_))))))
 refine WM_call (χ := Nat × Value) (val := fun x => .tuple #[.pointer (some ⟨x.1, 0, none⟩), x.2, .int .i64 ((spec_l14Draw_m x0).2.1), .int .i64 ((spec_l14Draw_m x0).2.2)]) (js := fun x => [iOwn (tSl tyAnnotated 72) [x.2] ((spec_l14Draw_m x0).1)]) (cl_fn cb70 rfl) (fun W hm => spec_l14Draw_c W _ x0 (hm.rdS0 r5) s_0) (Wd_none rfl) (by decide) (fun x => ?_)
 obtain ⟨z7, z8⟩ := x
 refine WM_form (n := 0) rfl ?_
 rintro A9 c10 rfl m11
 refine wm ?_
 refine wv (fun W hm => rv_extract rfl rfl) ?_
 refine wv (fun W hm => rv_extract rfl rfl) ?_
 refine wv (fun W hm => rv_extract rfl rfl) ?_
 refine wv (fun W hm => rv_extract rfl rfl) ?_
 refine wa (wa (wa (wa (nt' (sr (wm (wm (wm (wa (wa (wa (nt' (CM_ret ?_)))))))))))))
 have he13 := (show spec_DrawGroupShared_m x0 = ((spec_l14Draw_m x0).1, (spec_l14Draw_m x0).2.1, (spec_l14Draw_m x0).2.2) from rfl)
 refine QM_r3 rfl (RR_tmp rfl) (RR_tmp rfl) (RR_tmp rfl) (fun W hm => ⟨.slice A9 ((spec_l14Draw_m x0).1).length c10, ?_, ?_⟩)
 ·first | rw [he13] | rfl
  try rfl
 ·rw [he13]; exact hm

def impl_within_m (x0 : Int) (x1 : Int) (x2 : Int) : Bool :=
 cond (decide (x1 ≤ x0)) (decide (x0 ≤ x2)) false
theorem cb50 : Cb Tryd.prog 50 := ⟨f50, _, func50, rfl, by decide⟩
theorem impl_within_c (w : World) (x0 : Int) (x1 : Int) (x2 : Int) :
  Calls Tryd.prog 50 #[.int .i64 x0, .int .i64 x1, .int .i64 x2] w fun e w' => e = .returned (.bool (impl_within_m x0 x1 x2)) ∧ Below w.heap.size w w' := by
 refine ce3 (L := [(0, .int .i64 x0), (1, .int .i64 x1), (2, .int .i64 x2)]) (N := 15) func50 ?_
 refine sr (wa (nt' (sr (wm (wm ?_)))))
 refine wv (fun W hm => rv_geq rfl rfl) ?_
 refine wm ?_
 by_cases h1 : x1 ≤ x0
 ·have g2 := decide_eq_true h1
  refine wg vmv g2 ?_
  refine wg vmv g2 ?_
  refine wg (fun W hm => rv_leq rfl rfl) g2 ?_
  refine wv (vpT g2) ?_
  refine wa (nt' (CM_ret ?_))
  exact rtb (h := cond_t g2 (rfl))
 ·have g2 := decide_eq_false h1
  refine ws g2 ?_
  refine ws g2 ?_
  refine ws g2 ?_
  refine wv (vpF g2) ?_
  refine wa (nt' (CM_ret ?_))
  exact rtb (h := cond_f g2 (rfl))

theorem impl_within_fact {x a b : Int} (h : impl_within_m x a b = true) : a ≤ x ∧ x ≤ b := by
  unfold impl_within_m at h
  by_cases h1 : a ≤ x
  · rw [decide_eq_true h1] at h
    exact ⟨h1, of_decide_eq_true h⟩
  · rw [decide_eq_false h1] at h
    cases h
theorem impl_within_iff (x a b : Int) : impl_within_m x a b = decide (a ≤ x ∧ x ≤ b) := by
  unfold impl_within_m
  by_cases h1 : a ≤ x
  · by_cases h2 : x ≤ b
    · simp [h1, h2]
    · simp [h1, h2]
  · simp [h1]

def impl_isField_m (x0 : Int) : Bool :=
 (impl_within_m x0 0 2)
theorem cb71 : Cb Tryd.prog 71 := ⟨f71, _, func71, rfl, by decide⟩
theorem impl_isField_c (w : World) (x0 : Int) :
  Calls Tryd.prog 71 #[.int .i64 x0] w fun e w' => e = .returned (.bool (impl_isField_m x0)) ∧ Below w.heap.size w w' := by
 refine ce1 (L := [(0, .int .i64 x0)]) (N := 5) func71 ?_
 refine sr (wa (nt' (sr (wm ?_))))
 refine wcv (cl_fn cb50 rfl) (fun W hm => impl_within_c W x0 0 2) ?_
 refine wa (nt' (CM_ret ?_))
 exact rtb (h := rfl)

def impl_IsRow_b1 (x0 : DRow) (k9 : Nat) : Bool ⊕ (Unit) :=
 cond (impl_within_m (gt x0.Values k9) 0 99) (Sum.inr ()) (Sum.inl false)
def impl_IsRow_m (x0 : DRow) : Bool :=
 Sum.elim id (fun (s : Unit) => cond (impl_within_m x0.Id 0 999) (((x0.Values.length : Nat) : Int) == 3) false) (rng (R := Bool) (fun k (_ : Unit) => impl_IsRow_b1 x0 k) (x0.Values.length - 0) 0 ())
theorem cb72 : Cb Tryd.prog 72 := ⟨f72, _, func72, rfl, by decide⟩
theorem impl_IsRow_c (w : World) (z0 : List Value) (x0 : DRow) (r_0 : tyRow.rd w w.heap.size z0 x0) :
  Calls Tryd.prog 72 #[.agg z0.toArray] w fun e w' => e = .returned (.bool (impl_IsRow_m x0)) ∧ Below w.heap.size w w' := by
 obtain ⟨v1, rfl, r2⟩ := tyRow_rd r_0
 obtain ⟨m3, A4, c5, rfl, q6, r7⟩ := rdS_op r2
 refine ce1 (L := [(0, .agg #[.int .i64 x0.Id, .slice A4 x0.Values.length c5])]) (N := 25) func72 ?_
 refine sr ?_
 refine WM_box rfl (Wd_none rfl) (by decide) (fun p8 => ?_)
 refine wa (nt' (CM_seq (sr ?_)))
 refine wv (vf underlying43 rfl type28) ?_
 refine wv (vl 0 1 underlying28) ?_
 refine wv (vlen underlying28) ?_
 refine wm (nt' (CM_block ?_))
 let F1 := fun k (_ : Unit) => impl_IsRow_b1 x0 k
 let R2 := rng (R := Bool) F1
 let I3 : It := iBox p8 43 [.int .i64 x0.Id, .slice A4 x0.Values.length c5]
 refine CM_loop (σ := Nat × (Unit) × (Unit)) (fun s => [(1, .pointer (some (⟨p8, 0, none⟩ : Addr))), (6, .slice A4 x0.Values.length c5), (7, .int .i64 ((x0.Values.length : Nat) : Int)), (8, .int .i64 ((s.1 : Nat) : Int))]) (fun s => [I3]) (fun s => s.1 ≤ x0.Values.length ∧ R2 (x0.Values.length - s.1) s.1 s.2.1 = R2 (x0.Values.length - 0) 0 ()) (fun s => x0.Values.length - s.1) (0, (), ()) sl4 (fun W hm => hm) ⟨(by omega), rfl⟩ ?_
 rintro ⟨k9, ⟨⟩, ⟨⟩⟩ H12
 obtain ⟨hk10, hF11⟩ : k9 ≤ x0.Values.length ∧ R2 (x0.Values.length - k9) k9 () = R2 (x0.Values.length - 0) 0 () := H12
 show CM Tryd.prog 25 _ _ _ _ [(1, .pointer (some (⟨p8, 0, none⟩ : Addr))), (6, .slice A4 x0.Values.length c5), (7, .int .i64 ((x0.Values.length : Nat) : Int)), (8, .int .i64 ((k9 : Nat) : Int))] [I3]
 refine sr ?_
 refine wv vlss ?_
 refine nt' (CM_seq ?_)
 by_cases hl13 : k9 < x0.Values.length
 ·have g14 := dlT hl13
  refine CM_condT rfl g14 ?_
  refine CM_skip (QM_then (CM_seq (CM_block (sr ?_))))
  obtain ⟨a15, rfl, hb16, he17⟩ := q6 (by omega)
  refine wv (vix 1 k9 underlying28 type3) ?_
  refine wv (fun W hm => rv_load underlying3 rfl rfl ((hm.cell0 (show (a15.add (k9 * 1)).block < w.heap.size from by rw [add_block]; exact hb16.1)).trans (rdS_int he17 k9 (by omega)))) ?_
  refine wa (nt' (sr (wm ?_)))
  refine wcv (cl_fn cb50 rfl) (fun W hm => impl_within_c W (gt x0.Values k9) 0 99) ?_
  refine wv vnot ?_
  refine nt' ?_
  rcases Bool.eq_false_or_eq_true (impl_within_m (gt x0.Values k9) 0 99) with g19 | g19
  ·
   have hw := impl_within_fact g19
   refine CM_condF rfl (nt g19) ?_
   refine CM_skip (QM_block_normal (QM_then (CM_region ?_)))
   refine wv (vadN k9 1 (by omega)) ?_
   refine wm (WM_nil ?_)
   have hn20 := rng_next (R := Bool) (body := F1) (k := k9) (s := ()) (s' := ()) (show k9 < x0.Values.length from by omega) (cond_t g19 (rfl)) hF11
   exact QM_round (k9 + 1, (), ()) sl4 (fun W hm => hm) ⟨(by omega), hn20⟩ (rl (by omega))
  ·
   refine CM_condT rfl (nf g19) ?_
   refine sr (wa (nt' (CM_ret (QM_block_ret (QM_then_ret (QM_then_ret (QM_block_ret (QM_then_ret ?_))))))))
   exact rtb (h := fin_inl (rng_ret (body := F1) (k := k9) (s := ()) (show k9 < x0.Values.length from by omega) (cond_f g19 (rfl)) hF11) rfl)
 ·have g14 := dlF hl13
  refine CM_condF rfl g14 ?_
  refine CM_exit (QM_then_exit (QM_then_exit ?_))
  have hE21 : R2 (x0.Values.length - 0) 0 () = Sum.inr () := rng_end hl13 hF11
  refine QM_block_hit (QM_then (sr ?_))
  refine wv (vf underlying43 rfl type3) ?_
  refine wv (vl 0 0 underlying3) ?_
  refine wcv (cl_fn cb50 rfl) (fun W hm => impl_within_c W x0.Id 0 999) ?_
  refine wm ?_
  rcases Bool.eq_false_or_eq_true (impl_within_m x0.Id 0 999) with g23 | g23
  ·
   have hw := impl_within_fact g23
   refine wg (vf underlying43 rfl type28) g23 ?_
   refine wg (vl 0 1 underlying28) g23 ?_
   refine wg (vlen underlying28) g23 ?_
   refine wg (fun W hm => rv_eql rfl rfl) g23 ?_
   refine wv (vpT g23) ?_
   refine wa (nt' (CM_ret ?_))
   exact rtb (h := fin_inr hE21 (cond_t g23 (rfl)))
  ·
   refine ws g23 ?_
   refine ws g23 ?_
   refine ws g23 ?_
   refine ws g23 ?_
   refine wv (vpF g23) ?_
   refine wa (nt' (CM_ret ?_))
   exact rtb (h := fin_inr hE21 (cond_f g23 (rfl)))

def cmp_isNaN_int_m (x0 : Int) : Bool :=
 (x0 != x0)
theorem cb101 : Cb Tryd.prog 101 := ⟨f101, _, func101, rfl, by decide⟩
theorem cmp_isNaN_int_c (w : World) (x0 : Int) :
  Calls Tryd.prog 101 #[.int .i64 x0] w fun e w' => e = .returned (.bool (cmp_isNaN_int_m x0)) ∧ Below w.heap.size w w' := by
 refine ce1 (L := [(0, .int .i64 x0)]) (N := 6) func101 ?_
 refine sr (wa (nt' (sr (wm (wm ?_)))))
 refine wv vneq ?_
 refine wa (nt' (CM_ret ?_))
 exact rtb (h := rfl)

def cmp_Compare_int_m (x0 : Int) (x1 : Int) : Int :=
 cond (cmp_isNaN_int_m x0) (cond (cmp_isNaN_int_m x1) 0 (-1)) (cond (cmp_isNaN_int_m x1) 1 (cond (decide (x0 < x1)) (-1) (cond (decide (x1 < x0)) 1 0)))
theorem cb91 : Cb Tryd.prog 91 := ⟨f91, _, func91, rfl, by decide⟩
theorem cmp_Compare_int_c (w : World) (x0 : Int) (x1 : Int) :
  Calls Tryd.prog 91 #[.int .i64 x0, .int .i64 x1] w fun e w' => e = .returned (.int .i64 (cmp_Compare_int_m x0 x1)) ∧ Below w.heap.size w w' := by
 refine ce2 (L := [(0, .int .i64 x0), (1, .int .i64 x1)]) (N := 20) func91 ?_
 refine sr (wa (nt' (sr (wm ?_))))
 refine wcv (cl_fn cb101 rfl) (fun W hm => cmp_isNaN_int_c W x0) ?_
 refine wa (nt' (sr (wm ?_)))
 refine wcv (cl_fn cb101 rfl) (fun W hm => cmp_isNaN_int_c W x1) ?_
 refine wa (nt' (CM_seq (sr (wm (nt' ?_)))))
 rcases Bool.eq_false_or_eq_true (cmp_isNaN_int_m x0) with g2 | g2
 ·
  refine CM_condT rfl g2 ?_
  refine CM_seq (sr (wm (nt' ?_)))
  rcases Bool.eq_false_or_eq_true (cmp_isNaN_int_m x1) with g4 | g4
  ·
   refine CM_condT rfl g4 ?_
   refine sr (wa (nt' (CM_ret (QM_then_ret (QM_then_ret ?_)))))
   exact rti (h := cond_t g2 (cond_t g4 (rfl)))
  ·
   refine CM_condF rfl g4 ?_
   refine CM_skip (QM_then (sr (wa (nt' (CM_ret (QM_then_ret ?_))))))
   exact rti (h := cond_t g2 (cond_f g4 (rfl)))
 ·
  refine CM_condF rfl g2 ?_
  refine CM_skip (QM_then (CM_seq (sr (wm (nt' ?_)))))
  rcases Bool.eq_false_or_eq_true (cmp_isNaN_int_m x1) with g6 | g6
  ·
   refine CM_condT rfl g6 ?_
   refine sr (wa (nt' (CM_ret (QM_then_ret ?_))))
   exact rti (h := cond_f g2 (cond_t g6 (rfl)))
  ·
   refine CM_condF rfl g6 ?_
   refine CM_skip (QM_then (CM_seq (sr (wm (wm ?_)))))
   refine wv vlss ?_
   refine nt' ?_
   by_cases h7 : x0 < x1
   ·have g8 := decide_eq_true h7
    refine CM_condT rfl g8 ?_
    refine sr (wa (nt' (CM_ret (QM_then_ret ?_))))
    exact rti (h := cond_f g2 (cond_f g6 (cond_t g8 (rfl))))
   ·have g8 := decide_eq_false h7
    refine CM_condF rfl g8 ?_
    refine CM_skip (QM_then (CM_seq (sr (wm (wm ?_)))))
    refine wv (fun W hm => rv_gtr rfl rfl) ?_
    refine nt' ?_
    by_cases h9 : x1 < x0
    ·have g10 := decide_eq_true h9
     refine CM_condT rfl g10 ?_
     refine sr (wa (nt' (CM_ret (QM_then_ret ?_))))
     exact rti (h := cond_f g2 (cond_f g6 (cond_f g8 (cond_t g10 (rfl)))))
    ·have g10 := decide_eq_false h9
     refine CM_condF rfl g10 ?_
     refine CM_skip (QM_then (sr (wa (nt' (CM_ret ?_)))))
     exact rti (h := cond_f g2 (cond_f g6 (cond_f g8 (cond_f g10 (rfl)))))

def impl_compareGroups_m (x0 : DGroup) (x1 : DGroup) : Int :=
 cond (x0.Query != x1.Query) (cmp_Compare_int_m x0.Query x1.Query) (cmp_Compare_int_m x0.Value x1.Value)
theorem cb74 : Cb Tryd.prog 74 := ⟨f74, _, func74, rfl, by decide⟩
theorem impl_compareGroups_c (w : World) (z0 : List Value) (x0 : DGroup) (z1 : List Value) (x1 : DGroup) (r_0 : tyGroup.rd w w.heap.size z0 x0) (r_1 : tyGroup.rd w w.heap.size z1 x1) :
  Calls Tryd.prog 74 #[.agg z0.toArray, .agg z1.toArray] w fun e w' => e = .returned (.int .i64 (impl_compareGroups_m x0 x1)) ∧ Below w.heap.size w w' := by
 obtain rfl := tyGroup_rd r_0
 obtain rfl := tyGroup_rd r_1
 refine ce2 (L := [(0, .agg #[.int .i64 x0.Query, .int .i64 x0.Value, .int .i64 x0.Count, .int .i64 x0.Sum]), (1, .agg #[.int .i64 x1.Query, .int .i64 x1.Value, .int .i64 x1.Count, .int .i64 x1.Sum])]) (N := 20) func74 ?_
 refine sr ?_
 refine WM_box rfl (Wd_none rfl) (by decide) (fun p1 => ?_)
 refine WM_box rfl (Wd_none rfl) (by decide) (fun p2 => ?_)
 refine wa (nt' (CM_seq (sr ?_)))
 refine wv (vf underlying25 rfl type3) ?_
 refine wv (vl 1 0 underlying3) ?_
 refine wv (vf underlying25 rfl type3) ?_
 refine wv (vl 0 0 underlying3) ?_
 refine wv vneq ?_
 refine nt' ?_
 by_cases h3 : x0.Query = x1.Query
 ·have g4 : (x0.Query != x1.Query) = false := by rw [h3]; exact bne_self_eq_false _
  refine CM_condF rfl g4 ?_
  refine CM_skip (QM_then (sr ?_))
  refine wv (vf underlying25 rfl type3) ?_
  refine wv (vl 1 1 underlying3) ?_
  refine wv (vf underlying25 rfl type3) ?_
  refine wv (vl 0 1 underlying3) ?_
  refine wcv (cl_fn cb91 rfl) (fun W hm => cmp_Compare_int_c W x0.Value x1.Value) ?_
  refine wa (nt' (CM_ret ?_))
  exact rti (h := cond_f g4 (rfl))
 ·have g4 : (x0.Query != x1.Query) = true := bne_iff_ne.2 h3
  refine CM_condT rfl g4 ?_
  refine sr ?_
  refine wv (vf underlying25 rfl type3) ?_
  refine wv (vl 1 0 underlying3) ?_
  refine wv (vf underlying25 rfl type3) ?_
  refine wv (vl 0 0 underlying3) ?_
  refine wcv (cl_fn cb91 rfl) (fun W hm => cmp_Compare_int_c W x0.Query x1.Query) ?_
  refine wa (nt' (CM_ret (QM_then_ret ?_)))
  exact rti (h := cond_t g4 (rfl))

theorem cb123 : Cb Tryd.prog 123 := ⟨f123, _, func123, rfl, by decide⟩
theorem srt73_swr_c {α : Type} [Inhabited α] (K : Ck α) (hK : K.s = 4) (cf : α → α → Int) (fc : FuncId) (B : Nat) (w0 : World) (is : List It) (H : CmpOk Tryd.prog fc K B w0 is cf) (A : Option Addr) (n c : Nat) (hn : n ≤ 68719476736) (a : Nat) (b : Nat) (k : Nat) (xs : List (List Value × α)) (h1 : a + k ≤ n) (h2 : b + k ≤ n) (w : World) (hm : Mem B w0 (iOwn (tSl (tCk K) 25) [.slice A n c] xs :: is) w) :
  Calls Tryd.prog 123 #[.slice A n c, .int .i64 ((a : Nat) : Int), .int .i64 ((b : Nat) : Int), .int .i64 ((k : Nat) : Int), .func (.func fc) #[] #[]] w fun e w' => e = .returned (.tuple #[]) ∧ Mem B w0 (iOwn (tSl (tCk K) 25) [.slice A n c] (swr k a b xs) :: is) w' := by
 refine call_enterW (L := [(0, .slice A n c), (1, .int .i64 ((a : Nat) : Int)), (2, .int .i64 ((b : Nat) : Int)), (3, .int .i64 ((k : Nat) : Int)), (4, .func (.func fc) #[] #[])]) (N := 38) func123 rfl rfl (Nat.le_of_ble_eq_true rfl) (argsL_cons rfl (argsL_cons rfl (argsL_cons rfl (argsL_cons rfl (argsL_cons rfl argsL_nil))))) hm ?_
 refine sr (wa (nt' (CM_block ?_)))
 refine CM_loop (σ := Nat × List (List Value × α)) (fun s => [(0, .slice A n c), (1, .int .i64 ((a : Nat) : Int)), (2, .int .i64 ((b : Nat) : Int)), (3, .int .i64 ((k : Nat) : Int)), (10, .int .i64 ((s.1 : Nat) : Int))]) (fun s => (iOwn (tSl (tCk K) 25) [.slice A n c] s.2 :: is)) (fun s => swr (k - s.1) (a + s.1) (b + s.1) s.2 = swr k a b xs ∧ s.1 ≤ k) (fun s => k - s.1) (0, xs) sl5 (fun W hm => hm) ⟨(show swr (k - 0) (a + 0) (b + 0) xs = swr k a b xs from rfl), (show 0 ≤ k from by omega)⟩ ?_
 rintro ⟨i, d⟩ H1
 obtain ⟨hF, hi⟩ : swr (k - i) (a + i) (b + i) d = swr k a b xs ∧ i ≤ k := H1
 show CM Tryd.prog 38 _ _ _ _ [(0, .slice A n c), (1, .int .i64 ((a : Nat) : Int)), (2, .int .i64 ((b : Nat) : Int)), (3, .int .i64 ((k : Nat) : Int)), (10, .int .i64 ((i : Nat) : Int))] (iOwn (tSl (tCk K) 25) [.slice A n c] d :: is)
 refine CM_seq (sr (wm (wm ?_)))
 refine wv vlss ?_
 refine nt' ?_
 by_cases h2 : ((i : Nat) : Int) < ((k : Nat) : Int)
 ·have g3 := decide_eq_true h2
  refine CM_condT rfl g3 ?_
  refine CM_skip (QM_then (CM_seq (CM_block ?_)))
  refine CM_formO (n := 0) rfl (by omega) ?_
  rintro g5 rfl
  refine CM_ck ?_
  intro hR4
  let I1 : It := iOwn (tSl (tCk K) 25) [.slice (some ⟨g5, 0, none⟩) n c] ((d.set (a + i) (gt d (b + i))).set (b + i) (gt d (a + i)))
  refine CM_cut (σ := Unit) (fun _ => [(0, .slice (some ⟨g5, 0, none⟩) n c), (1, .int .i64 ((a : Nat) : Int)), (2, .int .i64 ((b : Nat) : Int)), (3, .int .i64 ((k : Nat) : Int)), (10, .int .i64 ((i : Nat) : Int))]) (fun _ => (I1 :: is)) (fun _ => True) ?_ ?_
  ·
   refine rb 24 (s := (is)) (fun W hm => (hm).tail) ?_
   refine qt 24 0 1 rfl vmv ?_
   refine qt 24 1 3 rfl vmv ?_
   refine qt 24 2 7 rfl vmv ?_
   refine qt 24 3 15 rfl (vadN a i (by omega)) ?_
   refine qt 24 4 31 rfl vmv ?_
   refine qt 24 5 63 rfl vmv ?_
   refine qt 24 6 127 rfl vmv ?_
   refine qt 24 7 255 rfl (vadN b i (by omega)) ?_
   refine qt 24 8 511 rfl vmv ?_
   refine qt 24 9 1023 rfl vmv ?_
   refine qt 24 10 2047 rfl vmv ?_
   refine qt 24 11 4095 rfl (vadN b i (by omega)) ?_
   refine qt 24 12 8191 rfl (fun W hm => rv_index (sz := K.s) (k := b + i) underlying68 type25 hK.symm rfl rfl (by omega)) ?_
   refine qt 24 14 24575 rfl vmv ?_
   refine qt 24 15 57343 rfl vmv ?_
   refine qt 24 16 122879 rfl vmv ?_
   refine qt 24 17 253951 rfl (vadN a i (by omega)) ?_
   refine qt 24 18 516095 rfl (fun W hm => rv_index (sz := K.s) (k := a + i) underlying68 type25 hK.symm rfl rfl (by omega)) ?_
   refine qa [13, 19] ?_
   refine qc 24 524287 rfl ?_ ?_
   ·
    refine wv (fun W hm => rv_loadCk underlying25 type25 hK.symm rfl hm (by omega)) ?_
    refine qn (fun W hm => (hm).tail) ?_
    refine qo 24 19 1048575 rfl ?_
    refine wv (fun W hm => rv_loadCk underlying25 type25 hK.symm rfl hm (by omega)) ?_
    refine qn (fun W hm => (hm).tail) ?_
    refine qt 24 20 2097151 rfl (fun W hm => rv_index (sz := K.s) (k := a + i) underlying68 type25 hK.symm rfl rfl (by omega)) ?_
    refine qo 24 21 4194303 rfl ?_
    refine WM_setEl (E := tCk K) (e := 25) (u := .agg (gt d (b + i)).1.toArray) (k := (a + i)) (p := g5) (n := n) (xs := d) (eis := []) (js := is) (yv := (gt d (b + i))) (fun W hm => hm) (fun _ _ hs => ⟨hs, rfl, (hR4 (b + i) (by omega))⟩) rfl type25 hK.symm (by omega) rfl rfl (Wd_none rfl) ?_
    refine qn (fun W hm => (hm).tail) ?_
    refine qt 24 22 8388607 rfl (fun W hm => rv_index (sz := K.s) (k := b + i) underlying68 type25 hK.symm rfl rfl (by omega)) ?_
    refine qo 24 23 16777215 rfl ?_
    refine WM_setEl (E := tCk K) (e := 25) (u := .agg (gt d (a + i)).1.toArray) (k := (b + i)) (p := g5) (n := n) (xs := (d.set (a + i) (gt d (b + i)))) (eis := []) (js := is) (yv := (gt d (a + i))) (fun W hm => hm) (fun _ _ hs => ⟨hs, rfl, (hR4 (a + i) (by omega))⟩) rfl type25 hK.symm (by omega) rfl rfl (Wd_none rfl) ?_
    refine qn (fun W hm => (hm).tail) ?_
    refine QB_done (by kernel_rfl) ?_
    exact QM_cut_normal () sl5 (fun W hm => hm) trivial
   refine qc 24 1040383 rfl ?_ ?_
   ·
    refine wv (fun W hm => rv_loadCk underlying25 type25 hK.symm rfl hm (by omega)) ?_
    refine qn (fun W hm => (hm).tail) ?_
    refine qo 24 13 1048575 rfl ?_
    refine wv (fun W hm => rv_loadCk underlying25 type25 hK.symm rfl hm (by omega)) ?_
    refine qn (fun W hm => (hm).tail) ?_
    refine qt 24 20 2097151 rfl (fun W hm => rv_index (sz := K.s) (k := a + i) underlying68 type25 hK.symm rfl rfl (by omega)) ?_
    refine qo 24 21 4194303 rfl ?_
    refine WM_setEl (E := tCk K) (e := 25) (u := .agg (gt d (b + i)).1.toArray) (k := (a + i)) (p := g5) (n := n) (xs := d) (eis := []) (js := is) (yv := (gt d (b + i))) (fun W hm => hm) (fun _ _ hs => ⟨hs, rfl, (hR4 (b + i) (by omega))⟩) rfl type25 hK.symm (by omega) rfl rfl (Wd_none rfl) ?_
    refine qn (fun W hm => (hm).tail) ?_
    refine qt 24 22 8388607 rfl (fun W hm => rv_index (sz := K.s) (k := b + i) underlying68 type25 hK.symm rfl rfl (by omega)) ?_
    refine qo 24 23 16777215 rfl ?_
    refine WM_setEl (E := tCk K) (e := 25) (u := .agg (gt d (a + i)).1.toArray) (k := (b + i)) (p := g5) (n := n) (xs := (d.set (a + i) (gt d (b + i)))) (eis := []) (js := is) (yv := (gt d (a + i))) (fun W hm => hm) (fun _ _ hs => ⟨hs, rfl, (hR4 (a + i) (by omega))⟩) rfl type25 hK.symm (by omega) rfl rfl (Wd_none rfl) ?_
    refine qn (fun W hm => (hm).tail) ?_
    refine QB_done (by kernel_rfl) ?_
    exact QM_cut_normal () sl5 (fun W hm => hm) trivial
   exact QBs_nil
  ·
   rintro ⟨⟩ -
   show QM 38 _ _ _ .normal [(0, .slice (some ⟨g5, 0, none⟩) n c), (1, .int .i64 ((a : Nat) : Int)), (2, .int .i64 ((b : Nat) : Int)), (3, .int .i64 ((k : Nat) : Int)), (10, .int .i64 ((i : Nat) : Int))] (I1 :: is)
   refine QM_block_normal (QM_then (CM_region (wm ?_)))
   refine wv (vadN i 1 (by omega)) ?_
   refine wa (WM_nil ?_)
   exact QM_round (i + 1, ((d.set (a + i) (gt d (b + i))).set (b + i) (gt d (a + i)))) sl5 (fun W hm => hm) ⟨(show swr (k - (i + 1)) (a + (i + 1)) (b + (i + 1)) ((d.set (a + i) (gt d (b + i))).set (b + i) (gt d (a + i))) = swr k a b xs from (swr_step (by omega)).symm.trans hF), (show (i + 1) ≤ k from by omega)⟩ (rl (by omega))
 ·have g3 := decide_eq_false h2
  refine CM_condF rfl g3 ?_
  refine CM_exit (QM_then_exit (QM_then_exit (QM_block_hit ?_)))
  have hE : swr k a b xs = d := ((swr_end (by omega)).symm.trans hF).symm
  exact QM_ret0 rfl (fun W hm => ⟨rfl, by rw [hE]; exact hm⟩)

theorem cb99 : Cb Tryd.prog 99 := ⟨f99, _, func99, rfl, by decide⟩
theorem srt73_ins_c {α : Type} [Inhabited α] (K : Ck α) (hK : K.s = 4) (cf : α → α → Int) (fc : FuncId) (B : Nat) (w0 : World) (is : List It) (H : CmpOk Tryd.prog fc K B w0 is cf) (A : Option Addr) (n c : Nat) (hn : n ≤ 68719476736) (a : Nat) (b : Nat) (xs : List (List Value × α)) (h1 : a ≤ n) (h2 : b ≤ n) (w : World) (hm : Mem B w0 (iOwn (tSl (tCk K) 25) [.slice A n c] xs :: is) w) :
  Calls Tryd.prog 99 #[.slice A n c, .int .i64 ((a : Nat) : Int), .int .i64 ((b : Nat) : Int), .func (.func fc) #[] #[]] w fun e w' => e = .returned (.tuple #[]) ∧ Mem B w0 (iOwn (tSl (tCk K) 25) [.slice A n c] (insL (ltc cf) a (b - a - 1) (a + 1) xs) :: is) w' := by
 refine call_enterW (L := [(0, .slice A n c), (1, .int .i64 ((a : Nat) : Int)), (2, .int .i64 ((b : Nat) : Int)), (3, .func (.func fc) #[] #[])]) (N := 53) func99 rfl rfl (Nat.le_of_ble_eq_true rfl) (argsL_cons rfl (argsL_cons rfl (argsL_cons rfl (argsL_cons rfl argsL_nil)))) hm ?_
 refine sr (wm ?_)
 refine wv (vadN a 1 (by omega)) ?_
 refine wa (nt' (CM_block ?_))
 refine CM_loop (σ := Nat × List (List Value × α)) (fun s => [(0, .slice A n c), (1, .int .i64 ((a : Nat) : Int)), (2, .int .i64 ((b : Nat) : Int)), (3, .func (.func fc) #[] #[]), (8, .int .i64 ((s.1 : Nat) : Int))]) (fun s => (iOwn (tSl (tCk K) 25) [.slice A n c] s.2 :: is)) (fun s => insL (ltc cf) a (b - s.1) s.1 s.2 = insL (ltc cf) a (b - a - 1) (a + 1) xs ∧ a < s.1) (fun s => b - s.1) (a + 1, xs) sl5 (fun W hm => hm) ⟨(show insL (ltc cf) a (b - (a + 1)) (a + 1) xs = insL (ltc cf) a (b - a - 1) (a + 1) xs from by rw [show b - (a + 1) = b - a - 1 by omega]), (show a < (a + 1) from by omega)⟩ ?_
 rintro ⟨i, d⟩ H1
 obtain ⟨hF, hai⟩ : insL (ltc cf) a (b - i) i d = insL (ltc cf) a (b - a - 1) (a + 1) xs ∧ a < i := H1
 show CM Tryd.prog 53 _ _ _ _ [(0, .slice A n c), (1, .int .i64 ((a : Nat) : Int)), (2, .int .i64 ((b : Nat) : Int)), (3, .func (.func fc) #[] #[]), (8, .int .i64 ((i : Nat) : Int))] (iOwn (tSl (tCk K) 25) [.slice A n c] d :: is)
 refine CM_seq (sr (wm (wm ?_)))
 refine wv vlss ?_
 refine nt' ?_
 by_cases h2 : ((i : Nat) : Int) < ((b : Nat) : Int)
 ·have g3 := decide_eq_true h2
  refine CM_condT rfl g3 ?_
  refine CM_skip (QM_then (CM_seq (CM_block (sr (wm (wa (nt' (CM_block ?_))))))))
  refine CM_loop (σ := Nat × List (List Value × α)) (fun s => [(0, .slice A n c), (1, .int .i64 ((a : Nat) : Int)), (2, .int .i64 ((b : Nat) : Int)), (3, .func (.func fc) #[] #[]), (8, .int .i64 ((i : Nat) : Int)), (9, .int .i64 ((s.1 : Nat) : Int))]) (fun s => (iOwn (tSl (tCk K) 25) [.slice A n c] s.2 :: is)) (fun s => ins1 (ltc cf) a s.1 s.2 = ins1 (ltc cf) a i d ∧ s.1 ≤ i ∧ a ≤ s.1) (fun s => s.1) (i, d) sl6 (fun W hm => hm) ⟨(show ins1 (ltc cf) a i d = ins1 (ltc cf) a i d from rfl), (show i ≤ i from by omega), (show a ≤ i from by omega)⟩ ?_
  rintro ⟨j, e⟩ H4
  obtain ⟨hG, hji, haj⟩ : ins1 (ltc cf) a j e = ins1 (ltc cf) a i d ∧ j ≤ i ∧ a ≤ j := H4
  show CM Tryd.prog 53 _ _ _ _ [(0, .slice A n c), (1, .int .i64 ((a : Nat) : Int)), (2, .int .i64 ((b : Nat) : Int)), (3, .func (.func fc) #[] #[]), (8, .int .i64 ((i : Nat) : Int)), (9, .int .i64 ((j : Nat) : Int))] (iOwn (tSl (tCk K) 25) [.slice A n c] e :: is)
  refine CM_seq (CM_seq ?_)
  refine CM_formO (n := 0) rfl (by omega) ?_
  rintro g5 rfl
  refine CM_regionD (by kernel_rfl) (by kernel_rfl) ?_
  refine qm (qm ?_)
  refine qv (fun W hm => rv_gtr rfl rfl) ?_
  refine qm ?_
  by_cases h6 : ((a : Nat) : Int) < ((j : Nat) : Int)
  ·have g7 := decide_eq_true h6
   refine qg vmv g7 ?_
   refine qg vmv g7 ?_
   refine qg vmv g7 ?_
   refine qg (fun W hm => rv_index (sz := K.s) (k := j) underlying68 type25 hK.symm rfl rfl (by omega)) g7 ?_
   refine qg (fun W hm => rv_loadCk underlying25 type25 hK.symm rfl hm (by omega)) g7 ?_
   refine qg vmv g7 ?_
   refine qg vmv g7 ?_
   refine qg (fun W hm => rv_subN (p := j) (q := 1) rfl rfl (by omega) (by omega)) g7 ?_
   refine qg (fun W hm => rv_index (sz := K.s) (k := j - 1) underlying68 type25 hK.symm rfl rfl (by omega)) g7 ?_
   refine qg (fun W hm => rv_loadCk underlying25 type25 hK.symm rfl hm (by omega)) g7 ?_
   refine QR_callV (cl_val (first := []) (caps := []) (vs := [.agg (gt e j).1.toArray, .agg (gt e (j - 1)).1.toArray]) (args := [.agg (gt e j).1.toArray, .agg (gt e (j - 1)).1.toArray]) H.cb rfl rfl rfl) (fun W hm => H.go W (gt e j) (gt e (j - 1)) hm.tail (hm.ck (by omega)).1 (hm.ck (by omega)).1) (Wd_some rfl rfl rfl (bw g7 rfl)) (by decide) ?_
   refine qg vlss g7 ?_
   refine qv (vpT g7) ?_
   refine nq' ?_
   by_cases h8 : (cf (gt e j).2 (gt e (j - 1)).2) < 0
   ·have g9 := decide_eq_true h8
    refine CM_condT rfl g9 ?_
    refine CM_skip (QM_then (CM_seq (CM_block (CM_ck ?_))))
    intro hR10
    let I1 : It := iOwn (tSl (tCk K) 25) [.slice (some ⟨g5, 0, none⟩) n c] ((e.set j (gt e (j - 1))).set (j - 1) (gt e j))
    refine CM_cut (σ := Unit) (fun _ => [(0, .slice (some ⟨g5, 0, none⟩) n c), (1, .int .i64 ((a : Nat) : Int)), (2, .int .i64 ((b : Nat) : Int)), (3, .func (.func fc) #[] #[]), (8, .int .i64 ((i : Nat) : Int)), (9, .int .i64 ((j : Nat) : Int))]) (fun _ => (I1 :: is)) (fun _ => True) ?_ ?_
    ·
     refine rb 18 (s := (is)) (fun W hm => (hm).tail) ?_
     refine qt 18 0 1 rfl vmv ?_
     refine qt 18 1 3 rfl vmv ?_
     refine qt 18 2 7 rfl vmv ?_
     refine qt 18 3 15 rfl vmv ?_
     refine qt 18 4 31 rfl (fun W hm => rv_subN (p := j) (q := 1) rfl rfl (by omega) (by omega)) ?_
     refine qt 18 5 63 rfl vmv ?_
     refine qt 18 6 127 rfl vmv ?_
     refine qt 18 7 255 rfl (fun W hm => rv_subN (p := j) (q := 1) rfl rfl (by omega) (by omega)) ?_
     refine qt 18 8 511 rfl (fun W hm => rv_index (sz := K.s) (k := j - 1) underlying68 type25 hK.symm rfl rfl (by omega)) ?_
     refine qt 18 10 1535 rfl vmv ?_
     refine qt 18 11 3583 rfl vmv ?_
     refine qt 18 12 7679 rfl (fun W hm => rv_index (sz := K.s) (k := j) underlying68 type25 hK.symm rfl rfl (by omega)) ?_
     refine qa [9, 13] ?_
     refine qc 18 8191 rfl ?_ ?_
     ·
      refine wv (fun W hm => rv_loadCk underlying25 type25 hK.symm rfl hm (by omega)) ?_
      refine qn (fun W hm => (hm).tail) ?_
      refine qo 18 13 16383 rfl ?_
      refine wv (fun W hm => rv_loadCk underlying25 type25 hK.symm rfl hm (by omega)) ?_
      refine qn (fun W hm => (hm).tail) ?_
      refine qt 18 14 32767 rfl (fun W hm => rv_index (sz := K.s) (k := j) underlying68 type25 hK.symm rfl rfl (by omega)) ?_
      refine qo 18 15 65535 rfl ?_
      refine WM_setEl (E := tCk K) (e := 25) (u := .agg (gt e (j - 1)).1.toArray) (k := j) (p := g5) (n := n) (xs := e) (eis := []) (js := is) (yv := (gt e (j - 1))) (fun W hm => hm) (fun _ _ hs => ⟨hs, rfl, (hR10 (j - 1) (by omega))⟩) rfl type25 hK.symm (by omega) rfl rfl (Wd_none rfl) ?_
      refine qn (fun W hm => (hm).tail) ?_
      refine qt 18 16 131071 rfl (fun W hm => rv_index (sz := K.s) (k := j - 1) underlying68 type25 hK.symm rfl rfl (by omega)) ?_
      refine qo 18 17 262143 rfl ?_
      refine WM_setEl (E := tCk K) (e := 25) (u := .agg (gt e j).1.toArray) (k := (j - 1)) (p := g5) (n := n) (xs := (e.set j (gt e (j - 1)))) (eis := []) (js := is) (yv := (gt e j)) (fun W hm => hm) (fun _ _ hs => ⟨hs, rfl, (hR10 j (by omega))⟩) rfl type25 hK.symm (by omega) rfl rfl (Wd_none rfl) ?_
      refine qn (fun W hm => (hm).tail) ?_
      refine QB_done (by kernel_rfl) ?_
      exact QM_cut_normal () sl6 (fun W hm => hm) trivial
     refine qc 18 15871 rfl ?_ ?_
     ·
      refine wv (fun W hm => rv_loadCk underlying25 type25 hK.symm rfl hm (by omega)) ?_
      refine qn (fun W hm => (hm).tail) ?_
      refine qo 18 9 16383 rfl ?_
      refine wv (fun W hm => rv_loadCk underlying25 type25 hK.symm rfl hm (by omega)) ?_
      refine qn (fun W hm => (hm).tail) ?_
      refine qt 18 14 32767 rfl (fun W hm => rv_index (sz := K.s) (k := j) underlying68 type25 hK.symm rfl rfl (by omega)) ?_
      refine qo 18 15 65535 rfl ?_
      refine WM_setEl (E := tCk K) (e := 25) (u := .agg (gt e (j - 1)).1.toArray) (k := j) (p := g5) (n := n) (xs := e) (eis := []) (js := is) (yv := (gt e (j - 1))) (fun W hm => hm) (fun _ _ hs => ⟨hs, rfl, (hR10 (j - 1) (by omega))⟩) rfl type25 hK.symm (by omega) rfl rfl (Wd_none rfl) ?_
      refine qn (fun W hm => (hm).tail) ?_
      refine qt 18 16 131071 rfl (fun W hm => rv_index (sz := K.s) (k := j - 1) underlying68 type25 hK.symm rfl rfl (by omega)) ?_
      refine qo 18 17 262143 rfl ?_
      refine WM_setEl (E := tCk K) (e := 25) (u := .agg (gt e j).1.toArray) (k := (j - 1)) (p := g5) (n := n) (xs := (e.set j (gt e (j - 1)))) (eis := []) (js := is) (yv := (gt e j)) (fun W hm => hm) (fun _ _ hs => ⟨hs, rfl, (hR10 j (by omega))⟩) rfl type25 hK.symm (by omega) rfl rfl (Wd_none rfl) ?_
      refine qn (fun W hm => (hm).tail) ?_
      refine QB_done (by kernel_rfl) ?_
      exact QM_cut_normal () sl6 (fun W hm => hm) trivial
     exact QBs_nil
    ·
     rintro ⟨⟩ -
     show QM 53 _ _ _ .normal [(0, .slice (some ⟨g5, 0, none⟩) n c), (1, .int .i64 ((a : Nat) : Int)), (2, .int .i64 ((b : Nat) : Int)), (3, .func (.func fc) #[] #[]), (8, .int .i64 ((i : Nat) : Int)), (9, .int .i64 ((j : Nat) : Int))] (I1 :: is)
     refine QM_block_normal (QM_then (CM_region (wm ?_)))
     refine wv (fun W hm => rv_subN (p := j) (q := 1) rfl rfl (by omega) (by omega)) ?_
     refine wa (WM_nil ?_)
     exact QM_round (j - 1, ((e.set j (gt e (j - 1))).set (j - 1) (gt e j))) sl6 (fun W hm => hm) ⟨(show ins1 (ltc cf) a (j - 1) ((e.set j (gt e (j - 1))).set (j - 1) (gt e j)) = ins1 (ltc cf) a i d from (ins1_t (by omega) (show decide (cf (gt e j).2 (gt e (j - 1)).2 < 0) = true from decide_eq_true (by omega))).symm.trans hG), (show (j - 1) ≤ i from by omega), (show a ≤ (j - 1) from by omega)⟩ (show (j - 1) < j from by omega)
   ·have g9 := decide_eq_false h8
    refine CM_condF rfl g9 ?_
    refine CM_exit (QM_then_exit (QM_then_exit (QM_block_hit (QM_block_normal (QM_then (CM_region (wm ?_)))))))
    refine wv (vadN i 1 (by omega)) ?_
    refine wa (WM_nil ?_)
    exact QM_round (i + 1, e) sl5 (fun W hm => hm) ⟨(show insL (ltc cf) a (b - (i + 1)) (i + 1) e = insL (ltc cf) a (b - a - 1) (a + 1) xs from (congrArg (insL (ltc cf) a (b - (i + 1)) (i + 1)) ((ins1_f (by rintro ⟨q1, q2⟩; have q3 := of_decide_eq_true (p := cf (gt e j).2 (gt e (j - 1)).2 < 0) q2; omega)).symm.trans hG)).trans ((insL_step (by omega)).symm.trans hF)), (show a < (i + 1) from by omega)⟩ (rl (by omega))
  ·have g7 := decide_eq_false h6
   refine qs g7 ?_
   refine qs g7 ?_
   refine qs g7 ?_
   refine qs g7 ?_
   refine qs g7 ?_
   refine qs g7 ?_
   refine qs g7 ?_
   refine qs g7 ?_
   refine qs g7 ?_
   refine qs g7 ?_
   refine qs g7 ?_
   refine qs g7 ?_
   refine qv (vpF g7) ?_
   refine nq' ?_
   refine CM_condF rfl rfl ?_
   refine CM_exit (QM_then_exit (QM_then_exit (QM_block_hit (QM_block_normal (QM_then (CM_region (wm ?_)))))))
   refine wv (vadN i 1 (by omega)) ?_
   refine wa (WM_nil ?_)
   exact QM_round (i + 1, e) sl5 (fun W hm => hm) ⟨(show insL (ltc cf) a (b - (i + 1)) (i + 1) e = insL (ltc cf) a (b - a - 1) (a + 1) xs from (congrArg (insL (ltc cf) a (b - (i + 1)) (i + 1)) ((ins1_f (by rintro ⟨q1, q2⟩; have q3 := of_decide_eq_true (p := cf (gt e j).2 (gt e (j - 1)).2 < 0) q2; omega)).symm.trans hG)).trans ((insL_step (by omega)).symm.trans hF)), (show a < (i + 1) from by omega)⟩ (rl (by omega))
 ·have g3 := decide_eq_false h2
  refine CM_condF rfl g3 ?_
  refine CM_exit (QM_then_exit (QM_then_exit (QM_block_hit ?_)))
  have hE : insL (ltc cf) a (b - a - 1) (a + 1) xs = d := ((insL_end (by omega)).symm.trans hF).symm
  exact QM_ret0 rfl (fun W hm => ⟨rfl, by rw [hE]; exact hm⟩)

theorem cb112 : Cb Tryd.prog 112 := ⟨f112, _, func112, rfl, by decide⟩
theorem srt73_rot_c {α : Type} [Inhabited α] (K : Ck α) (hK : K.s = 4) (cf : α → α → Int) (fc : FuncId) (B : Nat) (w0 : World) (is : List It) (H : CmpOk Tryd.prog fc K B w0 is cf) (A : Option Addr) (n c : Nat) (hn : n ≤ 68719476736) (a : Nat) (m : Nat) (b : Nat) (xs : List (List Value × α)) (h1 : a < m) (h2 : m < b) (h3 : b ≤ n) (w : World) (hm : Mem B w0 (iOwn (tSl (tCk K) 25) [.slice A n c] xs :: is) w) :
  Calls Tryd.prog 112 #[.slice A n c, .int .i64 ((a : Nat) : Int), .int .i64 ((m : Nat) : Int), .int .i64 ((b : Nat) : Int), .func (.func fc) #[] #[]] w fun e w' => e = .returned (.tuple #[]) ∧ Mem B w0 (iOwn (tSl (tCk K) 25) [.slice A n c] (rot (b - a) m (m - a) (b - m) xs) :: is) w' := by
 refine call_enterW (L := [(0, .slice A n c), (1, .int .i64 ((a : Nat) : Int)), (2, .int .i64 ((m : Nat) : Int)), (3, .int .i64 ((b : Nat) : Int)), (4, .func (.func fc) #[] #[])]) (N := 58) func112 rfl rfl (Nat.le_of_ble_eq_true rfl) (argsL_cons rfl (argsL_cons rfl (argsL_cons rfl (argsL_cons rfl (argsL_cons rfl argsL_nil))))) hm ?_
 refine sr (wm (wm ?_))
 refine wv (fun W hm => rv_subN (p := m) (q := a) rfl rfl (by omega) (by omega)) ?_
 refine wa (nt' (sr (wm (wm ?_))))
 refine wv (fun W hm => rv_subN (p := b) (q := m) rfl rfl (by omega) (by omega)) ?_
 refine wa (nt' (CM_seq (CM_block ?_)))
 refine CM_loop (σ := Nat × Nat × Nat × List (List Value × α)) (fun s => [(0, .slice A n c), (2, .int .i64 ((m : Nat) : Int)), (4, .func (.func fc) #[] #[]), (10, .int .i64 ((s.1 : Nat) : Int)), (11, .int .i64 ((s.2.1 : Nat) : Int))]) (fun s => (iOwn (tSl (tCk K) 25) [.slice A n c] s.2.2.2 :: is)) (fun s => rot s.2.2.1 m s.1 s.2.1 s.2.2.2 = rot (b - a) m (m - a) (b - m) xs ∧ s.1 + s.2.1 ≤ s.2.2.1 ∧ 0 < s.1 ∧ 0 < s.2.1 ∧ a + s.1 ≤ m ∧ m + s.2.1 ≤ b) (fun s => s.1 + s.2.1) (m - a, b - m, b - a, xs) sl5 (fun W hm => hm) ⟨(show rot (b - a) m (m - a) (b - m) xs = rot (b - a) m (m - a) (b - m) xs from rfl), (show (m - a) + (b - m) ≤ (b - a) from by omega), (show 0 < (m - a) from by omega), (show 0 < (b - m) from by omega), (show a + (m - a) ≤ m from by omega), (show m + (b - m) ≤ b from by omega)⟩ ?_
 rintro ⟨i, j, f, d⟩ H1
 obtain ⟨hF, hf5, hf6, hf7, hf8, hf9⟩ : rot f m i j d = rot (b - a) m (m - a) (b - m) xs ∧ i + j ≤ f ∧ 0 < i ∧ 0 < j ∧ a + i ≤ m ∧ m + j ≤ b := H1
 show CM Tryd.prog 58 _ _ _ _ [(0, .slice A n c), (2, .int .i64 ((m : Nat) : Int)), (4, .func (.func fc) #[] #[]), (10, .int .i64 ((i : Nat) : Int)), (11, .int .i64 ((j : Nat) : Int))] (iOwn (tSl (tCk K) 25) [.slice A n c] d :: is)
 refine CM_seq (sr (wm (wm ?_)))
 refine wv vneq ?_
 refine nt' ?_
 by_cases h2 : ((i : Nat) : Int) = ((j : Nat) : Int)
 ·have g3 : (((i : Nat) : Int) != ((j : Nat) : Int)) = false := by rw [h2]; exact bne_self_eq_false _
  refine CM_condF rfl g3 ?_
  refine CM_exit (QM_then_exit (QM_then_exit (QM_block_hit (QM_then (CM_region (wm (wm (wm ?_))))))))
  refine wv (fun W hm => rv_subN (p := m) (q := i) rfl rfl (by omega) (by omega)) ?_
  refine wm (wm (wm ?_))
  refine WM_callW (χ := Unit) (val := fun _ => .tuple #[]) (js := fun _ => (iOwn (tSl (tCk K) 25) [.slice A n c] (swr i (m - i) m d) :: is)) (cl_fn cb123 rfl) (fun W hm => (srt73_swr_c K hK cf fc B w0 is H A n c hn (m - i) m i d (by omega) (by omega) W hm).mono (fun _ _ h => ⟨(), h.1, h.2⟩)) (Wd_none rfl) (by decide) (fun _ => ?_)
  refine WM_nil ?_
  have hE : rot (b - a) m (m - a) (b - m) xs = (swr i (m - i) m d) := ((rot_eq (by omega) hf5 hf6).symm.trans hF).symm
  exact QM_ret0 rfl (fun W hm => ⟨rfl, by rw [hE]; exact hm⟩)
 ·have g3 : (((i : Nat) : Int) != ((j : Nat) : Int)) = true := bne_iff_ne.2 h2
  refine CM_condT rfl g3 ?_
  refine CM_skip (QM_then (CM_block (sr (wm (wm ?_)))))
  refine wv (fun W hm => rv_gtr rfl rfl) ?_
  refine nt' ?_
  by_cases h4 : ((j : Nat) : Int) < ((i : Nat) : Int)
  ·have g5 := decide_eq_true h4
   refine CM_condT rfl g5 ?_
   refine sr (wm (wm (wm ?_)))
   refine wv (fun W hm => rv_subN (p := m) (q := i) rfl rfl (by omega) (by omega)) ?_
   refine wm (wm (wm ?_))
   refine WM_callW (χ := Unit) (val := fun _ => .tuple #[]) (js := fun _ => (iOwn (tSl (tCk K) 25) [.slice A n c] (swr j (m - i) m d) :: is)) (cl_fn cb123 rfl) (fun W hm => (srt73_swr_c K hK cf fc B w0 is H A n c hn (m - i) m j d (by omega) (by omega) W hm).mono (fun _ _ h => ⟨(), h.1, h.2⟩)) (Wd_none rfl) (by decide) (fun _ => ?_)
   refine nt' (CM_region (wm (wm ?_)))
   refine wv (fun W hm => rv_subN (p := i) (q := j) rfl rfl (by omega) (by omega)) ?_
   refine wa (WM_nil (QM_block_normal ?_))
   exact QM_round (i - j, j, f - 1, (swr j (m - i) m d)) sl5 (fun W hm => hm) ⟨(show rot (f - 1) m (i - j) j (swr j (m - i) m d) = rot (b - a) m (m - a) (b - m) xs from (rot_gt (by omega) hf5).symm.trans hF), (show (i - j) + j ≤ (f - 1) from by omega), (show 0 < (i - j) from by omega), (show 0 < j from by omega), (show a + (i - j) ≤ m from by omega), (show m + j ≤ b from by omega)⟩ (show (i - j) + j < i + j from by omega)
  ·have g5 := decide_eq_false h4
   refine CM_condF rfl g5 ?_
   refine sr (wm (wm (wm ?_)))
   refine wv (fun W hm => rv_subN (p := m) (q := i) rfl rfl (by omega) (by omega)) ?_
   refine wm (wm ?_)
   refine wv (vadN m j (by omega)) ?_
   refine wm ?_
   refine wv (fun W hm => rv_subN (p := m + j) (q := i) rfl rfl (by omega) (by omega)) ?_
   refine wm (wm ?_)
   refine WM_callW (χ := Unit) (val := fun _ => .tuple #[]) (js := fun _ => (iOwn (tSl (tCk K) 25) [.slice A n c] (swr i (m - i) (m + j - i) d) :: is)) (cl_fn cb123 rfl) (fun W hm => (srt73_swr_c K hK cf fc B w0 is H A n c hn (m - i) (m + j - i) i d (by omega) (by omega) W hm).mono (fun _ _ h => ⟨(), h.1, h.2⟩)) (Wd_none rfl) (by decide) (fun _ => ?_)
   refine nt' (CM_region (wm (wm ?_)))
   refine wv (fun W hm => rv_subN (p := j) (q := i) rfl rfl (by omega) (by omega)) ?_
   refine wa (WM_nil (QM_block_normal ?_))
   exact QM_round (i, j - i, f - 1, (swr i (m - i) (m + j - i) d)) sl5 (fun W hm => hm) ⟨(show rot (f - 1) m i (j - i) (swr i (m - i) (m + j - i) d) = rot (b - a) m (m - a) (b - m) xs from (rot_lt (by omega) hf5).symm.trans hF), (show i + (j - i) ≤ (f - 1) from by omega), (show 0 < i from by omega), (show 0 < (j - i) from by omega), (show a + i ≤ m from by omega), (show m + (j - i) ≤ b from by omega)⟩ (show i + (j - i) < i + j from by omega)

theorem cb100 : Cb Tryd.prog 100 := ⟨f100, _, func100, rfl, by decide⟩
theorem srt73_symm_c {α : Type} [Inhabited α] (K : Ck α) (hK : K.s = 4) (cf : α → α → Int) (fc : FuncId) (B : Nat) (w0 : World) (is : List It) (H : CmpOk Tryd.prog fc K B w0 is cf) (A : Option Addr) (n c : Nat) (hn : n ≤ 68719476736) :
  ∀ (f : Nat) (a : Nat) (m : Nat) (b : Nat) (xs : List (List Value × α)) (h1 : b - a ≤ f) (h2 : a < m) (h3 : m < b) (h4 : b ≤ n) (w : World) (hm : Mem B w0 (iOwn (tSl (tCk K) 25) [.slice A n c] xs :: is) w),
  Calls Tryd.prog 100 #[.slice A n c, .int .i64 ((a : Nat) : Int), .int .i64 ((m : Nat) : Int), .int .i64 ((b : Nat) : Int), .func (.func fc) #[] #[]] w fun e w' => e = .returned (.tuple #[]) ∧ Mem B w0 (iOwn (tSl (tCk K) 25) [.slice A n c] (symm (ltc cf) f a m b xs) :: is) w' := by
 intro f
 revert A
 induction f with
 | zero => intro A a m b xs h1 h2 h3 h4 w hm; exact absurd h1 (by omega)
 | succ f ih =>
 intro A a m b xs h1 h2 h3 h4 w hm
 replace ih := ih A
 refine call_enterW (L := [(0, .slice A n c), (1, .int .i64 ((a : Nat) : Int)), (2, .int .i64 ((m : Nat) : Int)), (3, .int .i64 ((b : Nat) : Int)), (4, .func (.func fc) #[] #[])]) (N := 220) func100 rfl rfl (Nat.le_of_ble_eq_true rfl) (argsL_cons rfl (argsL_cons rfl (argsL_cons rfl (argsL_cons rfl (argsL_cons rfl argsL_nil))))) hm ?_
 refine CM_seq (sr (wm (wm ?_)))
 refine wv (fun W hm => rv_subN (p := m) (q := a) rfl rfl (by omega) (by omega)) ?_
 refine wv (fun W hm => rv_eql rfl rfl) ?_
 refine nt' ?_
 by_cases h1 : ((m - a : Nat) : Int) = 1
 ·have g2 := beq_iff_eq.2 h1
  refine CM_condT rfl g2 ?_
  refine sr (wm (wa (nt' (sr (wm (wa (nt' (CM_seq (CM_block ?_)))))))))
  refine CM_loop (σ := Nat × Nat × Nat) (fun s => [(0, .slice A n c), (1, .int .i64 ((a : Nat) : Int)), (4, .func (.func fc) #[] #[]), (10, .int .i64 ((s.1 : Nat) : Int)), (11, .int .i64 ((s.2.1 : Nat) : Int))]) (fun s => (iOwn (tSl (tCk K) 25) [.slice A n c] xs :: is)) (fun s => bsr (fun h => ltc cf (gt xs h) (gt xs a)) s.2.2 s.1 s.2.1 = bsr (fun h => ltc cf (gt xs h) (gt xs a)) (b - m) m b ∧ s.2.1 ≤ s.2.2 + s.1 ∧ m ≤ s.1 ∧ s.1 ≤ s.2.1 ∧ s.2.1 ≤ b) (fun s => s.2.1 - s.1) (m, b, b - m) sl5 (fun W hm => hm) ⟨(show bsr (fun h => ltc cf (gt xs h) (gt xs a)) (b - m) m b = bsr (fun h => ltc cf (gt xs h) (gt xs a)) (b - m) m b from rfl), (show b ≤ (b - m) + m from by omega), (show m ≤ m from by omega), (show m ≤ b from by omega), (show b ≤ b from by omega)⟩ ?_
  rintro ⟨i, j, f0⟩ H3
  obtain ⟨hB, hf5, hf6, hf7, hf8⟩ : bsr (fun h => ltc cf (gt xs h) (gt xs a)) f0 i j = bsr (fun h => ltc cf (gt xs h) (gt xs a)) (b - m) m b ∧ j ≤ f0 + i ∧ m ≤ i ∧ i ≤ j ∧ j ≤ b := H3
  show CM Tryd.prog 220 _ _ _ _ [(0, .slice A n c), (1, .int .i64 ((a : Nat) : Int)), (4, .func (.func fc) #[] #[]), (10, .int .i64 ((i : Nat) : Int)), (11, .int .i64 ((j : Nat) : Int))] (iOwn (tSl (tCk K) 25) [.slice A n c] xs :: is)
  refine CM_seq (sr (wm (wm ?_)))
  refine wv vlss ?_
  refine nt' ?_
  by_cases h4 : ((i : Nat) : Int) < ((j : Nat) : Int)
  ·have g5 := decide_eq_true h4
   refine CM_condT rfl g5 ?_
   refine CM_skip (QM_then (CM_block (sr (wm (wm ?_)))))
   refine wv (vadN i j (by omega)) ?_
   refine wv (fun W hm => rv_convIU (p := i + j) underlying3 underlying122 rfl (by omega)) ?_
   refine wv (fun W hm => rv_half rfl) ?_
   refine wv (fun W hm => rv_convUI (p := (i + j) / 2) underlying122 underlying3 rfl (by omega)) ?_
   refine wa (nt' (CM_seq ?_))
   refine CM_formO (n := 0) rfl (by omega) ?_
   rintro g6 rfl
   refine CM_regionD (by kernel_rfl) (by kernel_rfl) ?_
   refine qm (qm (qm ?_))
   refine qv (fun W hm => rv_index (sz := K.s) (k := (i + j) / 2) underlying68 type25 hK.symm rfl rfl (by omega)) ?_
   refine qv (fun W hm => rv_loadCk underlying25 type25 hK.symm rfl hm (by omega)) ?_
   refine qm (qm ?_)
   refine qv (fun W hm => rv_index (sz := K.s) (k := a) underlying68 type25 hK.symm rfl rfl (by omega)) ?_
   refine qv (fun W hm => rv_loadCk underlying25 type25 hK.symm rfl hm (by omega)) ?_
   refine QR_callV (cl_val (first := []) (caps := []) (vs := [.agg (gt xs ((i + j) / 2)).1.toArray, .agg (gt xs a).1.toArray]) (args := [.agg (gt xs ((i + j) / 2)).1.toArray, .agg (gt xs a).1.toArray]) H.cb rfl rfl rfl) (fun W hm => H.go W (gt xs ((i + j) / 2)) (gt xs a) hm.tail (hm.ck (by omega)).1 (hm.ck (by omega)).1) (Wd_none rfl) (by decide) ?_
   refine qv vlss ?_
   refine nq' ?_
   by_cases h7 : (cf (gt xs ((i + j) / 2)).2 (gt xs a).2) < 0
   ·have g8 := decide_eq_true h7
    refine CM_condT rfl g8 ?_
    refine CM_region (wm ?_)
    refine wv (fun W hm => rv_addN (p := (i + j) / 2) (q := 1) rfl rfl (by omega)) ?_
    refine wa (WM_nil (QM_block_normal ?_))
    exact QM_round ((i + j) / 2 + 1, j, f0 - 1) sl5 (fun W hm => hm) ⟨(show bsr (fun h => ltc cf (gt xs h) (gt xs a)) (f0 - 1) ((i + j) / 2 + 1) j = bsr (fun h => ltc cf (gt xs h) (gt xs a)) (b - m) m b from (bsr_t (by omega) hf5 (show decide (cf (gt xs ((i + j) / 2)).2 (gt xs a).2 < 0) = true from decide_eq_true (by omega))).symm.trans hB), (show j ≤ (f0 - 1) + ((i + j) / 2 + 1) from by omega), (show m ≤ ((i + j) / 2 + 1) from by omega), (show ((i + j) / 2 + 1) ≤ j from by omega), (show j ≤ b from by omega)⟩ (show j - ((i + j) / 2 + 1) < j - i from by omega)
   ·have g8 := decide_eq_false h7
    refine CM_condF rfl g8 ?_
    refine CM_region (wm (wa (WM_nil (QM_block_normal ?_))))
    exact QM_round (i, (i + j) / 2, f0 - 1) sl5 (fun W hm => hm) ⟨(show bsr (fun h => ltc cf (gt xs h) (gt xs a)) (f0 - 1) i ((i + j) / 2) = bsr (fun h => ltc cf (gt xs h) (gt xs a)) (b - m) m b from (bsr_f (by omega) hf5 (show decide (cf (gt xs ((i + j) / 2)).2 (gt xs a).2 < 0) = false from decide_eq_false (by omega))).symm.trans hB), (show ((i + j) / 2) ≤ (f0 - 1) + i from by omega), (show m ≤ i from by omega), (show i ≤ ((i + j) / 2) from by omega), (show ((i + j) / 2) ≤ b from by omega)⟩ (show ((i + j) / 2) - i < j - i from by omega)
  ·have g5 := decide_eq_false h4
   refine CM_condF rfl g5 ?_
   refine CM_exit (QM_then_exit (QM_then_exit ?_))
   have hA : bsr (fun h => ltc cf (gt xs h) (gt xs a)) (b - m) m b = i := hB.symm.trans (bsr_e (by omega))
   refine QM_block_hit (QM_then (CM_seq (sr (wm (wa (nt' (CM_block ?_)))))))
   refine CM_loop (σ := Nat × List (List Value × α)) (fun s => [(0, .slice A n c), (10, .int .i64 ((i : Nat) : Int)), (13, .int .i64 ((s.1 : Nat) : Int))]) (fun s => (iOwn (tSl (tCk K) 25) [.slice A n c] s.2 :: is)) (fun s => mvU (i - 1 - s.1) s.1 s.2 = mvU (i - 1 - a) a xs ∧ a ≤ s.1) (fun s => i - 1 - s.1) (a, xs) sl3 (fun W hm => hm) ⟨(show mvU (i - 1 - a) a xs = mvU (i - 1 - a) a xs from rfl), (show a ≤ a from by omega)⟩ ?_
   rintro ⟨k, d⟩ H9
   obtain ⟨hU, hf9⟩ : mvU (i - 1 - k) k d = mvU (i - 1 - a) a xs ∧ a ≤ k := H9
   show CM Tryd.prog 220 _ _ _ _ [(0, .slice A n c), (10, .int .i64 ((i : Nat) : Int)), (13, .int .i64 ((k : Nat) : Int))] (iOwn (tSl (tCk K) 25) [.slice A n c] d :: is)
   refine CM_seq (sr (wm (wm ?_)))
   refine wv (fun W hm => rv_subN (p := i) (q := 1) rfl rfl (by omega) (by omega)) ?_
   refine wv vlss ?_
   refine nt' ?_
   by_cases h10 : ((k : Nat) : Int) < ((i - 1 : Nat) : Int)
   ·have g11 := decide_eq_true h10
    refine CM_condT rfl g11 ?_
    refine CM_skip (QM_then (CM_seq (CM_block ?_)))
    refine CM_formO (n := 0) rfl (by omega) ?_
    rintro g13 rfl
    refine CM_ck ?_
    intro hR12
    let I1 : It := iOwn (tSl (tCk K) 25) [.slice (some ⟨g13, 0, none⟩) n c] ((d.set k (gt d (k + 1))).set (k + 1) (gt d k))
    refine CM_cut (σ := Unit) (fun _ => [(0, .slice (some ⟨g13, 0, none⟩) n c), (10, .int .i64 ((i : Nat) : Int)), (13, .int .i64 ((k : Nat) : Int))]) (fun _ => (I1 :: is)) (fun _ => True) ?_ ?_
    ·
     refine rb 18 (s := (is)) (fun W hm => (hm).tail) ?_
     refine qt 18 0 1 rfl vmv ?_
     refine qt 18 1 3 rfl vmv ?_
     refine qt 18 2 7 rfl vmv ?_
     refine qt 18 3 15 rfl vmv ?_
     refine qt 18 4 31 rfl (vadN k 1 (by omega)) ?_
     refine qt 18 5 63 rfl vmv ?_
     refine qt 18 6 127 rfl vmv ?_
     refine qt 18 7 255 rfl (vadN k 1 (by omega)) ?_
     refine qt 18 8 511 rfl (fun W hm => rv_index (sz := K.s) (k := k + 1) underlying68 type25 hK.symm rfl rfl (by omega)) ?_
     refine qt 18 10 1535 rfl vmv ?_
     refine qt 18 11 3583 rfl vmv ?_
     refine qt 18 12 7679 rfl (fun W hm => rv_index (sz := K.s) (k := k) underlying68 type25 hK.symm rfl rfl (by omega)) ?_
     refine qa [9, 13] ?_
     refine qc 18 8191 rfl ?_ ?_
     ·
      refine wv (fun W hm => rv_loadCk underlying25 type25 hK.symm rfl hm (by omega)) ?_
      refine qn (fun W hm => (hm).tail) ?_
      refine qo 18 13 16383 rfl ?_
      refine wv (fun W hm => rv_loadCk underlying25 type25 hK.symm rfl hm (by omega)) ?_
      refine qn (fun W hm => (hm).tail) ?_
      refine qt 18 14 32767 rfl (fun W hm => rv_index (sz := K.s) (k := k) underlying68 type25 hK.symm rfl rfl (by omega)) ?_
      refine qo 18 15 65535 rfl ?_
      refine WM_setEl (E := tCk K) (e := 25) (u := .agg (gt d (k + 1)).1.toArray) (k := k) (p := g13) (n := n) (xs := d) (eis := []) (js := is) (yv := (gt d (k + 1))) (fun W hm => hm) (fun _ _ hs => ⟨hs, rfl, (hR12 (k + 1) (by omega))⟩) rfl type25 hK.symm (by omega) rfl rfl (Wd_none rfl) ?_
      refine qn (fun W hm => (hm).tail) ?_
      refine qt 18 16 131071 rfl (fun W hm => rv_index (sz := K.s) (k := k + 1) underlying68 type25 hK.symm rfl rfl (by omega)) ?_
      refine qo 18 17 262143 rfl ?_
      refine WM_setEl (E := tCk K) (e := 25) (u := .agg (gt d k).1.toArray) (k := (k + 1)) (p := g13) (n := n) (xs := (d.set k (gt d (k + 1)))) (eis := []) (js := is) (yv := (gt d k)) (fun W hm => hm) (fun _ _ hs => ⟨hs, rfl, (hR12 k (by omega))⟩) rfl type25 hK.symm (by omega) rfl rfl (Wd_none rfl) ?_
      refine qn (fun W hm => (hm).tail) ?_
      refine QB_done (by kernel_rfl) ?_
      exact QM_cut_normal () sl3 (fun W hm => hm) trivial
     refine qc 18 15871 rfl ?_ ?_
     ·
      refine wv (fun W hm => rv_loadCk underlying25 type25 hK.symm rfl hm (by omega)) ?_
      refine qn (fun W hm => (hm).tail) ?_
      refine qo 18 9 16383 rfl ?_
      refine wv (fun W hm => rv_loadCk underlying25 type25 hK.symm rfl hm (by omega)) ?_
      refine qn (fun W hm => (hm).tail) ?_
      refine qt 18 14 32767 rfl (fun W hm => rv_index (sz := K.s) (k := k) underlying68 type25 hK.symm rfl rfl (by omega)) ?_
      refine qo 18 15 65535 rfl ?_
      refine WM_setEl (E := tCk K) (e := 25) (u := .agg (gt d (k + 1)).1.toArray) (k := k) (p := g13) (n := n) (xs := d) (eis := []) (js := is) (yv := (gt d (k + 1))) (fun W hm => hm) (fun _ _ hs => ⟨hs, rfl, (hR12 (k + 1) (by omega))⟩) rfl type25 hK.symm (by omega) rfl rfl (Wd_none rfl) ?_
      refine qn (fun W hm => (hm).tail) ?_
      refine qt 18 16 131071 rfl (fun W hm => rv_index (sz := K.s) (k := k + 1) underlying68 type25 hK.symm rfl rfl (by omega)) ?_
      refine qo 18 17 262143 rfl ?_
      refine WM_setEl (E := tCk K) (e := 25) (u := .agg (gt d k).1.toArray) (k := (k + 1)) (p := g13) (n := n) (xs := (d.set k (gt d (k + 1)))) (eis := []) (js := is) (yv := (gt d k)) (fun W hm => hm) (fun _ _ hs => ⟨hs, rfl, (hR12 k (by omega))⟩) rfl type25 hK.symm (by omega) rfl rfl (Wd_none rfl) ?_
      refine qn (fun W hm => (hm).tail) ?_
      refine QB_done (by kernel_rfl) ?_
      exact QM_cut_normal () sl3 (fun W hm => hm) trivial
     exact QBs_nil
    ·
     rintro ⟨⟩ -
     show QM 220 _ _ _ .normal [(0, .slice (some ⟨g13, 0, none⟩) n c), (10, .int .i64 ((i : Nat) : Int)), (13, .int .i64 ((k : Nat) : Int))] (I1 :: is)
     refine QM_block_normal (QM_then (CM_region (wm ?_)))
     refine wv (vadN k 1 (by omega)) ?_
     refine wa (WM_nil ?_)
     exact QM_round (k + 1, ((d.set k (gt d (k + 1))).set (k + 1) (gt d k))) sl3 (fun W hm => hm) ⟨(show mvU (i - 1 - (k + 1)) (k + 1) ((d.set k (gt d (k + 1))).set (k + 1) (gt d k)) = mvU (i - 1 - a) a xs from (mvU_step (by omega)).symm.trans hU), (show a ≤ (k + 1) from by omega)⟩ (rl (by omega))
   ·have g11 := decide_eq_false h10
    refine CM_condF rfl g11 ?_
    refine CM_exit (QM_then_exit (QM_then_exit (QM_block_hit (QM_then (CM_ret (QM_then_ret ?_))))))
    have hE : symm (ltc cf) (f + 1) a m b xs = d := (symm_a (by omega)).trans (by rw [hA]; exact ((mvU_end (by omega)).symm.trans hU).symm)
    exact QM_ret0r rfl (fun W hm => ⟨rfl, by rw [hE]; exact hm⟩)
 ·have g2 := beq_eq_false_iff_ne.2 h1
  refine CM_condF rfl g2 ?_
  refine CM_skip (QM_then (CM_seq (sr (wm (wm ?_)))))
  refine wv (fun W hm => rv_subN (p := b) (q := m) rfl rfl (by omega) (by omega)) ?_
  refine wv (fun W hm => rv_eql rfl rfl) ?_
  refine nt' ?_
  by_cases h14 : ((b - m : Nat) : Int) = 1
  ·have g15 := beq_iff_eq.2 h14
   refine CM_condT rfl g15 ?_
   refine sr (wm (wa (nt' (sr (wm (wa (nt' (CM_seq (CM_block ?_)))))))))
   refine CM_loop (σ := Nat × Nat × Nat) (fun s => [(0, .slice A n c), (2, .int .i64 ((m : Nat) : Int)), (4, .func (.func fc) #[] #[]), (14, .int .i64 ((s.1 : Nat) : Int)), (15, .int .i64 ((s.2.1 : Nat) : Int))]) (fun s => (iOwn (tSl (tCk K) 25) [.slice A n c] xs :: is)) (fun s => bsr (fun h => !ltc cf (gt xs m) (gt xs h)) s.2.2 s.1 s.2.1 = bsr (fun h => !ltc cf (gt xs m) (gt xs h)) (m - a) a m ∧ s.2.1 ≤ s.2.2 + s.1 ∧ a ≤ s.1 ∧ s.1 ≤ s.2.1 ∧ s.2.1 ≤ m) (fun s => s.2.1 - s.1) (a, m, m - a) sl5 (fun W hm => hm) ⟨(show bsr (fun h => !ltc cf (gt xs m) (gt xs h)) (m - a) a m = bsr (fun h => !ltc cf (gt xs m) (gt xs h)) (m - a) a m from rfl), (show m ≤ (m - a) + a from by omega), (show a ≤ a from by omega), (show a ≤ m from by omega), (show m ≤ m from by omega)⟩ ?_
   rintro ⟨i, j, f0⟩ H16
   obtain ⟨hB, hf5, hf6, hf7, hf8⟩ : bsr (fun h => !ltc cf (gt xs m) (gt xs h)) f0 i j = bsr (fun h => !ltc cf (gt xs m) (gt xs h)) (m - a) a m ∧ j ≤ f0 + i ∧ a ≤ i ∧ i ≤ j ∧ j ≤ m := H16
   show CM Tryd.prog 220 _ _ _ _ [(0, .slice A n c), (2, .int .i64 ((m : Nat) : Int)), (4, .func (.func fc) #[] #[]), (14, .int .i64 ((i : Nat) : Int)), (15, .int .i64 ((j : Nat) : Int))] (iOwn (tSl (tCk K) 25) [.slice A n c] xs :: is)
   refine CM_seq (sr (wm (wm ?_)))
   refine wv vlss ?_
   refine nt' ?_
   by_cases h17 : ((i : Nat) : Int) < ((j : Nat) : Int)
   ·have g18 := decide_eq_true h17
    refine CM_condT rfl g18 ?_
    refine CM_skip (QM_then (CM_block (sr (wm (wm ?_)))))
    refine wv (vadN i j (by omega)) ?_
    refine wv (fun W hm => rv_convIU (p := i + j) underlying3 underlying122 rfl (by omega)) ?_
    refine wv (fun W hm => rv_half rfl) ?_
    refine wv (fun W hm => rv_convUI (p := (i + j) / 2) underlying122 underlying3 rfl (by omega)) ?_
    refine wa (nt' (CM_seq ?_))
    refine CM_formO (n := 0) rfl (by omega) ?_
    rintro g19 rfl
    refine CM_regionD (by kernel_rfl) (by kernel_rfl) ?_
    refine qm (qm (qm ?_))
    refine qv (fun W hm => rv_index (sz := K.s) (k := m) underlying68 type25 hK.symm rfl rfl (by omega)) ?_
    refine qv (fun W hm => rv_loadCk underlying25 type25 hK.symm rfl hm (by omega)) ?_
    refine qm (qm ?_)
    refine qv (fun W hm => rv_index (sz := K.s) (k := (i + j) / 2) underlying68 type25 hK.symm rfl rfl (by omega)) ?_
    refine qv (fun W hm => rv_loadCk underlying25 type25 hK.symm rfl hm (by omega)) ?_
    refine QR_callV (cl_val (first := []) (caps := []) (vs := [.agg (gt xs m).1.toArray, .agg (gt xs ((i + j) / 2)).1.toArray]) (args := [.agg (gt xs m).1.toArray, .agg (gt xs ((i + j) / 2)).1.toArray]) H.cb rfl rfl rfl) (fun W hm => H.go W (gt xs m) (gt xs ((i + j) / 2)) hm.tail (hm.ck (by omega)).1 (hm.ck (by omega)).1) (Wd_none rfl) (by decide) ?_
    refine qv vlss ?_
    refine qv vnot ?_
    refine nq' ?_
    by_cases h20 : (cf (gt xs m).2 (gt xs ((i + j) / 2)).2) < 0
    ·have g21 := decide_eq_true h20
     refine CM_condF rfl (nt g21) ?_
     refine CM_region (wm (wa (WM_nil (QM_block_normal ?_))))
     exact QM_round (i, (i + j) / 2, f0 - 1) sl5 (fun W hm => hm) ⟨(show bsr (fun h => !ltc cf (gt xs m) (gt xs h)) (f0 - 1) i ((i + j) / 2) = bsr (fun h => !ltc cf (gt xs m) (gt xs h)) (m - a) a m from (bsr_f (by omega) hf5 (show (!decide (cf (gt xs m).2 (gt xs ((i + j) / 2)).2 < 0)) = false from by rw [decide_eq_true (show cf (gt xs m).2 (gt xs ((i + j) / 2)).2 < 0 by omega)]; rfl)).symm.trans hB), (show ((i + j) / 2) ≤ (f0 - 1) + i from by omega), (show a ≤ i from by omega), (show i ≤ ((i + j) / 2) from by omega), (show ((i + j) / 2) ≤ m from by omega)⟩ (show ((i + j) / 2) - i < j - i from by omega)
    ·have g21 := decide_eq_false h20
     refine CM_condT rfl (nf g21) ?_
     refine CM_region (wm ?_)
     refine wv (fun W hm => rv_addN (p := (i + j) / 2) (q := 1) rfl rfl (by omega)) ?_
     refine wa (WM_nil (QM_block_normal ?_))
     exact QM_round ((i + j) / 2 + 1, j, f0 - 1) sl5 (fun W hm => hm) ⟨(show bsr (fun h => !ltc cf (gt xs m) (gt xs h)) (f0 - 1) ((i + j) / 2 + 1) j = bsr (fun h => !ltc cf (gt xs m) (gt xs h)) (m - a) a m from (bsr_t (by omega) hf5 (show (!decide (cf (gt xs m).2 (gt xs ((i + j) / 2)).2 < 0)) = true from by rw [decide_eq_false (show ¬ cf (gt xs m).2 (gt xs ((i + j) / 2)).2 < 0 by omega)]; rfl)).symm.trans hB), (show j ≤ (f0 - 1) + ((i + j) / 2 + 1) from by omega), (show a ≤ ((i + j) / 2 + 1) from by omega), (show ((i + j) / 2 + 1) ≤ j from by omega), (show j ≤ m from by omega)⟩ (show j - ((i + j) / 2 + 1) < j - i from by omega)
   ·have g18 := decide_eq_false h17
    refine CM_condF rfl g18 ?_
    refine CM_exit (QM_then_exit (QM_then_exit ?_))
    have hA : bsr (fun h => !ltc cf (gt xs m) (gt xs h)) (m - a) a m = i := hB.symm.trans (bsr_e (by omega))
    refine QM_block_hit (QM_then (CM_seq (sr (wm (wa (nt' (CM_block ?_)))))))
    refine CM_loop (σ := Nat × List (List Value × α)) (fun s => [(0, .slice A n c), (14, .int .i64 ((i : Nat) : Int)), (17, .int .i64 ((s.1 : Nat) : Int))]) (fun s => (iOwn (tSl (tCk K) 25) [.slice A n c] s.2 :: is)) (fun s => mvD (s.1 - i) s.1 s.2 = mvD (m - i) m xs ∧ s.1 ≤ m) (fun s => s.1) (m, xs) sl3 (fun W hm => hm) ⟨(show mvD (m - i) m xs = mvD (m - i) m xs from rfl), (show m ≤ m from by omega)⟩ ?_
    rintro ⟨k, d⟩ H22
    obtain ⟨hU, hf9⟩ : mvD (k - i) k d = mvD (m - i) m xs ∧ k ≤ m := H22
    show CM Tryd.prog 220 _ _ _ _ [(0, .slice A n c), (14, .int .i64 ((i : Nat) : Int)), (17, .int .i64 ((k : Nat) : Int))] (iOwn (tSl (tCk K) 25) [.slice A n c] d :: is)
    refine CM_seq (sr (wm (wm ?_)))
    refine wv (fun W hm => rv_gtr rfl rfl) ?_
    refine nt' ?_
    by_cases h23 : ((i : Nat) : Int) < ((k : Nat) : Int)
    ·have g24 := decide_eq_true h23
     refine CM_condT rfl g24 ?_
     refine CM_skip (QM_then (CM_seq (CM_block ?_)))
     refine CM_formO (n := 0) rfl (by omega) ?_
     rintro g26 rfl
     refine CM_ck ?_
     intro hR25
     let I2 : It := iOwn (tSl (tCk K) 25) [.slice (some ⟨g26, 0, none⟩) n c] ((d.set k (gt d (k - 1))).set (k - 1) (gt d k))
     refine CM_cut (σ := Unit) (fun _ => [(0, .slice (some ⟨g26, 0, none⟩) n c), (14, .int .i64 ((i : Nat) : Int)), (17, .int .i64 ((k : Nat) : Int))]) (fun _ => (I2 :: is)) (fun _ => True) ?_ ?_
     ·
      refine rb 18 (s := (is)) (fun W hm => (hm).tail) ?_
      refine qt 18 0 1 rfl vmv ?_
      refine qt 18 1 3 rfl vmv ?_
      refine qt 18 2 7 rfl vmv ?_
      refine qt 18 3 15 rfl vmv ?_
      refine qt 18 4 31 rfl (fun W hm => rv_subN (p := k) (q := 1) rfl rfl (by omega) (by omega)) ?_
      refine qt 18 5 63 rfl vmv ?_
      refine qt 18 6 127 rfl vmv ?_
      refine qt 18 7 255 rfl (fun W hm => rv_subN (p := k) (q := 1) rfl rfl (by omega) (by omega)) ?_
      refine qt 18 8 511 rfl (fun W hm => rv_index (sz := K.s) (k := k - 1) underlying68 type25 hK.symm rfl rfl (by omega)) ?_
      refine qt 18 10 1535 rfl vmv ?_
      refine qt 18 11 3583 rfl vmv ?_
      refine qt 18 12 7679 rfl (fun W hm => rv_index (sz := K.s) (k := k) underlying68 type25 hK.symm rfl rfl (by omega)) ?_
      refine qa [9, 13] ?_
      refine qc 18 8191 rfl ?_ ?_
      ·
       refine wv (fun W hm => rv_loadCk underlying25 type25 hK.symm rfl hm (by omega)) ?_
       refine qn (fun W hm => (hm).tail) ?_
       refine qo 18 13 16383 rfl ?_
       refine wv (fun W hm => rv_loadCk underlying25 type25 hK.symm rfl hm (by omega)) ?_
       refine qn (fun W hm => (hm).tail) ?_
       refine qt 18 14 32767 rfl (fun W hm => rv_index (sz := K.s) (k := k) underlying68 type25 hK.symm rfl rfl (by omega)) ?_
       refine qo 18 15 65535 rfl ?_
       refine WM_setEl (E := tCk K) (e := 25) (u := .agg (gt d (k - 1)).1.toArray) (k := k) (p := g26) (n := n) (xs := d) (eis := []) (js := is) (yv := (gt d (k - 1))) (fun W hm => hm) (fun _ _ hs => ⟨hs, rfl, (hR25 (k - 1) (by omega))⟩) rfl type25 hK.symm (by omega) rfl rfl (Wd_none rfl) ?_
       refine qn (fun W hm => (hm).tail) ?_
       refine qt 18 16 131071 rfl (fun W hm => rv_index (sz := K.s) (k := k - 1) underlying68 type25 hK.symm rfl rfl (by omega)) ?_
       refine qo 18 17 262143 rfl ?_
       refine WM_setEl (E := tCk K) (e := 25) (u := .agg (gt d k).1.toArray) (k := (k - 1)) (p := g26) (n := n) (xs := (d.set k (gt d (k - 1)))) (eis := []) (js := is) (yv := (gt d k)) (fun W hm => hm) (fun _ _ hs => ⟨hs, rfl, (hR25 k (by omega))⟩) rfl type25 hK.symm (by omega) rfl rfl (Wd_none rfl) ?_
       refine qn (fun W hm => (hm).tail) ?_
       refine QB_done (by kernel_rfl) ?_
       exact QM_cut_normal () sl3 (fun W hm => hm) trivial
      refine qc 18 15871 rfl ?_ ?_
      ·
       refine wv (fun W hm => rv_loadCk underlying25 type25 hK.symm rfl hm (by omega)) ?_
       refine qn (fun W hm => (hm).tail) ?_
       refine qo 18 9 16383 rfl ?_
       refine wv (fun W hm => rv_loadCk underlying25 type25 hK.symm rfl hm (by omega)) ?_
       refine qn (fun W hm => (hm).tail) ?_
       refine qt 18 14 32767 rfl (fun W hm => rv_index (sz := K.s) (k := k) underlying68 type25 hK.symm rfl rfl (by omega)) ?_
       refine qo 18 15 65535 rfl ?_
       refine WM_setEl (E := tCk K) (e := 25) (u := .agg (gt d (k - 1)).1.toArray) (k := k) (p := g26) (n := n) (xs := d) (eis := []) (js := is) (yv := (gt d (k - 1))) (fun W hm => hm) (fun _ _ hs => ⟨hs, rfl, (hR25 (k - 1) (by omega))⟩) rfl type25 hK.symm (by omega) rfl rfl (Wd_none rfl) ?_
       refine qn (fun W hm => (hm).tail) ?_
       refine qt 18 16 131071 rfl (fun W hm => rv_index (sz := K.s) (k := k - 1) underlying68 type25 hK.symm rfl rfl (by omega)) ?_
       refine qo 18 17 262143 rfl ?_
       refine WM_setEl (E := tCk K) (e := 25) (u := .agg (gt d k).1.toArray) (k := (k - 1)) (p := g26) (n := n) (xs := (d.set k (gt d (k - 1)))) (eis := []) (js := is) (yv := (gt d k)) (fun W hm => hm) (fun _ _ hs => ⟨hs, rfl, (hR25 k (by omega))⟩) rfl type25 hK.symm (by omega) rfl rfl (Wd_none rfl) ?_
       refine qn (fun W hm => (hm).tail) ?_
       refine QB_done (by kernel_rfl) ?_
       exact QM_cut_normal () sl3 (fun W hm => hm) trivial
      exact QBs_nil
     ·
      rintro ⟨⟩ -
      show QM 220 _ _ _ .normal [(0, .slice (some ⟨g26, 0, none⟩) n c), (14, .int .i64 ((i : Nat) : Int)), (17, .int .i64 ((k : Nat) : Int))] (I2 :: is)
      refine QM_block_normal (QM_then (CM_region (wm ?_)))
      refine wv (fun W hm => rv_subN (p := k) (q := 1) rfl rfl (by omega) (by omega)) ?_
      refine wa (WM_nil ?_)
      exact QM_round (k - 1, ((d.set k (gt d (k - 1))).set (k - 1) (gt d k))) sl3 (fun W hm => hm) ⟨(show mvD ((k - 1) - i) (k - 1) ((d.set k (gt d (k - 1))).set (k - 1) (gt d k)) = mvD (m - i) m xs from (mvD_step (by omega)).symm.trans hU), (show (k - 1) ≤ m from by omega)⟩ (show (k - 1) < k from by omega)
    ·have g24 := decide_eq_false h23
     refine CM_condF rfl g24 ?_
     refine CM_exit (QM_then_exit (QM_then_exit (QM_block_hit (QM_then (CM_ret (QM_then_ret ?_))))))
     have hE : symm (ltc cf) (f + 1) a m b xs = d := (symm_b (by omega) (by omega)).trans (by rw [hA]; exact ((mvD_end (by omega)).symm.trans hU).symm)
     exact QM_ret0r rfl (fun W hm => ⟨rfl, by rw [hE]; exact hm⟩)
  ·have g15 := beq_eq_false_iff_ne.2 h14
   refine CM_condF rfl g15 ?_
   refine CM_skip (QM_then (sr (wm (wm ?_))))
   refine wv (vadN a b (by omega)) ?_
   refine wv (fun W hm => rv_convIU (p := a + b) underlying3 underlying122 rfl (by omega)) ?_
   refine wv (fun W hm => rv_half rfl) ?_
   refine wv (fun W hm => rv_convUI (p := (a + b) / 2) underlying122 underlying3 rfl (by omega)) ?_
   refine wa (nt' (sr (wm (wm ?_))))
   refine wv (fun W hm => rv_addN (p := (a + b) / 2) (q := m) rfl rfl (by omega)) ?_
   refine wa (nt' (sr (wa (wa (nt' (CM_seq (sr (wm (wm ?_)))))))))
   refine wv (fun W hm => rv_gtr rfl rfl) ?_
   refine nt' ?_
   refine CM_cut (σ := Nat × Nat) (fun s => [(0, .slice A n c), (1, .int .i64 ((a : Nat) : Int)), (2, .int .i64 ((m : Nat) : Int)), (3, .int .i64 ((b : Nat) : Int)), (4, .func (.func fc) #[] #[]), (18, .int .i64 (((a + b) / 2 : Nat) : Int)), (19, .int .i64 (((a + b) / 2 + m : Nat) : Int)), (20, .int .i64 ((s.1 : Nat) : Int)), (21, .int .i64 ((s.2 : Nat) : Int))]) (fun _ => (iOwn (tSl (tCk K) 25) [.slice A n c] xs :: is)) (fun s => s.1 = cond (decide ((a + b) / 2 < m)) ((a + b) / 2 + m - b) a ∧ s.2 = cond (decide ((a + b) / 2 < m)) ((a + b) / 2) m ∧ (((a + b) / 2 < m ∧ s.1 = (a + b) / 2 + m - b ∧ s.2 = (a + b) / 2) ∨ (m ≤ (a + b) / 2 ∧ s.1 = a ∧ s.2 = m))) ?_ ?_
   ·
    by_cases h27 : (((a + b) / 2 : Nat) : Int) < ((m : Nat) : Int)
    ·have g28 := decide_eq_true h27
     refine CM_condT rfl g28 ?_
     refine sr (wm (wm ?_))
     refine wv (fun W hm => rv_subN (p := (a + b) / 2 + m) (q := b) rfl rfl (by omega) (by omega)) ?_
     refine wa (nt' (CM_region (wm (wa (WM_nil ?_)))))
     exact QM_cut_normal ((a + b) / 2 + m - b, (a + b) / 2) sl9 (fun W hm => hm) ⟨by rw [decide_eq_true (show (a + b) / 2 < m by omega)]; rfl, by rw [decide_eq_true (show (a + b) / 2 < m by omega)]; rfl, .inl ⟨by omega, rfl, rfl⟩⟩
    ·have g28 := decide_eq_false h27
     refine CM_condF rfl g28 ?_
     refine sr (wm (wa (nt' (CM_region (wm (wa (WM_nil ?_)))))))
     exact QM_cut_normal (a, m) sl9 (fun W hm => hm) ⟨by rw [decide_eq_false (show ¬ (a + b) / 2 < m by omega)]; rfl, by rw [decide_eq_false (show ¬ (a + b) / 2 < m by omega)]; rfl, .inr ⟨by omega, rfl, rfl⟩⟩
   ·
    rintro ⟨s0, r0⟩ ⟨hs0, hr0, hs⟩
    show QM 220 _ _ _ .normal [(0, .slice A n c), (1, .int .i64 ((a : Nat) : Int)), (2, .int .i64 ((m : Nat) : Int)), (3, .int .i64 ((b : Nat) : Int)), (4, .func (.func fc) #[] #[]), (18, .int .i64 (((a + b) / 2 : Nat) : Int)), (19, .int .i64 (((a + b) / 2 + m : Nat) : Int)), (20, .int .i64 ((s0 : Nat) : Int)), (21, .int .i64 ((r0 : Nat) : Int))] (iOwn (tSl (tCk K) 25) [.slice A n c] xs :: is)
    refine QM_then (sr (wm ?_))
    refine wv (fun W hm => rv_subN (p := (a + b) / 2 + m) (q := 1) rfl rfl (by omega) (by omega)) ?_
    refine wa (nt' (CM_seq (CM_block ?_)))
    refine CM_loop (σ := Nat × Nat × Nat) (fun s => [(0, .slice A n c), (1, .int .i64 ((a : Nat) : Int)), (2, .int .i64 ((m : Nat) : Int)), (3, .int .i64 ((b : Nat) : Int)), (4, .func (.func fc) #[] #[]), (18, .int .i64 (((a + b) / 2 : Nat) : Int)), (19, .int .i64 (((a + b) / 2 + m : Nat) : Int)), (20, .int .i64 ((s.1 : Nat) : Int)), (21, .int .i64 ((s.2.1 : Nat) : Int)), (22, .int .i64 (((a + b) / 2 + m - 1 : Nat) : Int))]) (fun s => (iOwn (tSl (tCk K) 25) [.slice A n c] xs :: is)) (fun s => bsr (fun c => !ltc cf (gt xs ((a + b) / 2 + m - 1 - c)) (gt xs c)) s.2.2 s.1 s.2.1 = bsr (fun c => !ltc cf (gt xs ((a + b) / 2 + m - 1 - c)) (gt xs c)) (r0 - s0) s0 r0 ∧ s.2.1 ≤ s.2.2 + s.1 ∧ s0 ≤ s.1 ∧ s.1 ≤ s.2.1 ∧ s.2.1 ≤ r0) (fun s => s.2.1 - s.1) (s0, r0, r0 - s0) sl10 (fun W hm => hm) ⟨(show bsr (fun c => !ltc cf (gt xs ((a + b) / 2 + m - 1 - c)) (gt xs c)) (r0 - s0) s0 r0 = bsr (fun c => !ltc cf (gt xs ((a + b) / 2 + m - 1 - c)) (gt xs c)) (r0 - s0) s0 r0 from rfl), (show r0 ≤ (r0 - s0) + s0 from by omega), (show s0 ≤ s0 from by omega), (show s0 ≤ r0 from by omega), (show r0 ≤ r0 from by omega)⟩ ?_
    rintro ⟨i, j, f0⟩ H29
    obtain ⟨hB, hf5, hf6, hf7, hf8⟩ : bsr (fun c => !ltc cf (gt xs ((a + b) / 2 + m - 1 - c)) (gt xs c)) f0 i j = bsr (fun c => !ltc cf (gt xs ((a + b) / 2 + m - 1 - c)) (gt xs c)) (r0 - s0) s0 r0 ∧ j ≤ f0 + i ∧ s0 ≤ i ∧ i ≤ j ∧ j ≤ r0 := H29
    show CM Tryd.prog 220 _ _ _ _ [(0, .slice A n c), (1, .int .i64 ((a : Nat) : Int)), (2, .int .i64 ((m : Nat) : Int)), (3, .int .i64 ((b : Nat) : Int)), (4, .func (.func fc) #[] #[]), (18, .int .i64 (((a + b) / 2 : Nat) : Int)), (19, .int .i64 (((a + b) / 2 + m : Nat) : Int)), (20, .int .i64 ((i : Nat) : Int)), (21, .int .i64 ((j : Nat) : Int)), (22, .int .i64 (((a + b) / 2 + m - 1 : Nat) : Int))] (iOwn (tSl (tCk K) 25) [.slice A n c] xs :: is)
    refine CM_seq (sr (wm (wm ?_)))
    refine wv vlss ?_
    refine nt' ?_
    by_cases h30 : ((i : Nat) : Int) < ((j : Nat) : Int)
    ·have g31 := decide_eq_true h30
     refine CM_condT rfl g31 ?_
     refine CM_skip (QM_then (CM_block (sr (wm (wm ?_)))))
     refine wv (vadN i j (by omega)) ?_
     refine wv (fun W hm => rv_convIU (p := i + j) underlying3 underlying122 rfl (by omega)) ?_
     refine wv (fun W hm => rv_half rfl) ?_
     refine wv (fun W hm => rv_convUI (p := (i + j) / 2) underlying122 underlying3 rfl (by omega)) ?_
     refine wa (nt' (CM_seq ?_))
     refine CM_formO (n := 0) rfl (by omega) ?_
     rintro g32 rfl
     refine CM_regionD (by kernel_rfl) (by kernel_rfl) ?_
     refine qm (qm (qm (qm ?_)))
     refine qv (fun W hm => rv_subN (p := (a + b) / 2 + m - 1) (q := (i + j) / 2) rfl rfl (by omega) (by omega)) ?_
     refine qv (fun W hm => rv_index (sz := K.s) (k := (a + b) / 2 + m - 1 - ((i + j) / 2)) underlying68 type25 hK.symm rfl rfl (by omega)) ?_
     refine qv (fun W hm => rv_loadCk underlying25 type25 hK.symm rfl hm (by omega)) ?_
     refine qm (qm ?_)
     refine qv (fun W hm => rv_index (sz := K.s) (k := (i + j) / 2) underlying68 type25 hK.symm rfl rfl (by omega)) ?_
     refine qv (fun W hm => rv_loadCk underlying25 type25 hK.symm rfl hm (by omega)) ?_
     refine QR_callV (cl_val (first := []) (caps := []) (vs := [.agg (gt xs ((a + b) / 2 + m - 1 - ((i + j) / 2))).1.toArray, .agg (gt xs ((i + j) / 2)).1.toArray]) (args := [.agg (gt xs ((a + b) / 2 + m - 1 - ((i + j) / 2))).1.toArray, .agg (gt xs ((i + j) / 2)).1.toArray]) H.cb rfl rfl rfl) (fun W hm => H.go W (gt xs ((a + b) / 2 + m - 1 - ((i + j) / 2))) (gt xs ((i + j) / 2)) hm.tail (hm.ck (by omega)).1 (hm.ck (by omega)).1) (Wd_none rfl) (by decide) ?_
     refine qv vlss ?_
     refine qv vnot ?_
     refine nq' ?_
     by_cases h33 : (cf (gt xs ((a + b) / 2 + m - 1 - ((i + j) / 2))).2 (gt xs ((i + j) / 2)).2) < 0
     ·have g34 := decide_eq_true h33
      refine CM_condF rfl (nt g34) ?_
      refine CM_region (wm (wa (WM_nil (QM_block_normal ?_))))
      exact QM_round (i, (i + j) / 2, f0 - 1) sl10 (fun W hm => hm) ⟨(show bsr (fun c => !ltc cf (gt xs ((a + b) / 2 + m - 1 - c)) (gt xs c)) (f0 - 1) i ((i + j) / 2) = bsr (fun c => !ltc cf (gt xs ((a + b) / 2 + m - 1 - c)) (gt xs c)) (r0 - s0) s0 r0 from (bsr_f (by omega) hf5 (show (!decide (cf (gt xs ((a + b) / 2 + m - 1 - ((i + j) / 2))).2 (gt xs ((i + j) / 2)).2 < 0)) = false from by rw [decide_eq_true (show cf (gt xs ((a + b) / 2 + m - 1 - ((i + j) / 2))).2 (gt xs ((i + j) / 2)).2 < 0 by omega)]; rfl)).symm.trans hB), (show ((i + j) / 2) ≤ (f0 - 1) + i from by omega), (show s0 ≤ i from by omega), (show i ≤ ((i + j) / 2) from by omega), (show ((i + j) / 2) ≤ r0 from by omega)⟩ (show ((i + j) / 2) - i < j - i from by omega)
     ·have g34 := decide_eq_false h33
      refine CM_condT rfl (nf g34) ?_
      refine CM_region (wm ?_)
      refine wv (fun W hm => rv_addN (p := (i + j) / 2) (q := 1) rfl rfl (by omega)) ?_
      refine wa (WM_nil (QM_block_normal ?_))
      exact QM_round ((i + j) / 2 + 1, j, f0 - 1) sl10 (fun W hm => hm) ⟨(show bsr (fun c => !ltc cf (gt xs ((a + b) / 2 + m - 1 - c)) (gt xs c)) (f0 - 1) ((i + j) / 2 + 1) j = bsr (fun c => !ltc cf (gt xs ((a + b) / 2 + m - 1 - c)) (gt xs c)) (r0 - s0) s0 r0 from (bsr_t (by omega) hf5 (show (!decide (cf (gt xs ((a + b) / 2 + m - 1 - ((i + j) / 2))).2 (gt xs ((i + j) / 2)).2 < 0)) = true from by rw [decide_eq_false (show ¬ cf (gt xs ((a + b) / 2 + m - 1 - ((i + j) / 2))).2 (gt xs ((i + j) / 2)).2 < 0 by omega)]; rfl)).symm.trans hB), (show j ≤ (f0 - 1) + ((i + j) / 2 + 1) from by omega), (show s0 ≤ ((i + j) / 2 + 1) from by omega), (show ((i + j) / 2 + 1) ≤ j from by omega), (show j ≤ r0 from by omega)⟩ (show j - ((i + j) / 2 + 1) < j - i from by omega)
    ·have g31 := decide_eq_false h30
     refine CM_condF rfl g31 ?_
     refine CM_exit (QM_then_exit (QM_then_exit ?_))
     have hA : bsr (fun c => !ltc cf (gt xs ((a + b) / 2 + m - 1 - c)) (gt xs c)) (r0 - s0) s0 r0 = i := hB.symm.trans (bsr_e (by omega))
     refine QM_block_hit (QM_then (sr (wm (wm ?_))))
     refine wv (fun W hm => rv_subN (p := (a + b) / 2 + m) (q := i) rfl rfl (by omega) (by omega)) ?_
     refine wa (nt' (CM_seq (sr (wm (wm ?_)))))
     refine wv vlss ?_
     refine wm ?_
     by_cases h35 : ((i : Nat) : Int) < ((m : Nat) : Int)
     ·have g36 := decide_eq_true h35
      refine wg vmv g36 ?_
      refine wg vmv g36 ?_
      refine wg vlss g36 ?_
      refine wv (vpT g36) ?_
      refine nt' ?_
      by_cases h37 : ((m : Nat) : Int) < (((a + b) / 2 + m - i : Nat) : Int)
      ·have g38 := decide_eq_true h37
       refine CM_condT rfl g38 ?_
       refine CM_region (wm (wm (wm (wm (wm ?_)))))
       refine WM_callW (χ := Unit) (val := fun _ => .tuple #[]) (js := fun _ => (iOwn (tSl (tCk K) 25) [.slice A n c] (rot ((a + b) / 2 + m - i - i) m (m - i) ((a + b) / 2 + m - i - m) xs) :: is)) (cl_fn cb112 rfl) (fun W hm => (srt73_rot_c K hK cf fc B w0 is H A n c hn i m ((a + b) / 2 + m - i) xs (by omega) (by omega) (by omega) W hm).mono (fun _ _ h => ⟨(), h.1, h.2⟩)) (Wd_none rfl) (by decide) (fun _ => ?_)
       refine nt' (CM_seq (sr (wm (wm ?_))))
       refine wv vlss ?_
       refine wm ?_
       by_cases h39 : ((a : Nat) : Int) < ((i : Nat) : Int)
       ·have g40 := decide_eq_true h39
        refine wg vmv g40 ?_
        refine wg vmv g40 ?_
        refine wg vlss g40 ?_
        refine wv (vpT g40) ?_
        refine nt' ?_
        have g41 : (decide (((i : Nat) : Int) < (((a + b) / 2 : Nat) : Int))) = true := decide_eq_true (by omega)
        refine CM_condT rfl g41 ?_
        refine CM_region (wm (wm (wm (wm (wm ?_)))))
        refine WM_callW (χ := Unit) (val := fun _ => .tuple #[]) (js := fun _ => (iOwn (tSl (tCk K) 25) [.slice A n c] (symm (ltc cf) f a i ((a + b) / 2) (rot ((a + b) / 2 + m - i - i) m (m - i) ((a + b) / 2 + m - i - m) xs)) :: is)) (cl_fn cb100 rfl) (fun W hm => (ih a i ((a + b) / 2) (rot ((a + b) / 2 + m - i - i) m (m - i) ((a + b) / 2 + m - i - m) xs) (by omega) (by omega) (by omega) (by omega) W hm).mono (fun _ _ h => ⟨(), h.1, h.2⟩)) (Wd_none rfl) (by decide) (fun _ => ?_)
        refine nt' (sr (wm (wm ?_)))
        refine wv vlss ?_
        refine wm ?_
        have g42 : (decide ((((a + b) / 2 : Nat) : Int) < (((a + b) / 2 + m - i : Nat) : Int))) = true := decide_eq_true (by omega)
        refine wg vmv g42 ?_
        refine wg vmv g42 ?_
        refine wg vlss g42 ?_
        refine wv (vpT g42) ?_
        refine nt' ?_
        by_cases h43 : (((a + b) / 2 + m - i : Nat) : Int) < ((b : Nat) : Int)
        ·have g44 := decide_eq_true h43
         refine CM_condT rfl g44 ?_
         refine CM_region (wm (wm (wm (wm (wm ?_)))))
         refine WM_callW (χ := Unit) (val := fun _ => .tuple #[]) (js := fun _ => (iOwn (tSl (tCk K) 25) [.slice A n c] (symm (ltc cf) f ((a + b) / 2) ((a + b) / 2 + m - i) b (symm (ltc cf) f a i ((a + b) / 2) (rot ((a + b) / 2 + m - i - i) m (m - i) ((a + b) / 2 + m - i - m) xs))) :: is)) (cl_fn cb100 rfl) (fun W hm => (ih ((a + b) / 2) ((a + b) / 2 + m - i) b (symm (ltc cf) f a i ((a + b) / 2) (rot ((a + b) / 2 + m - i - i) m (m - i) ((a + b) / 2 + m - i - m) xs)) (by omega) (by omega) (by omega) (by omega) W hm).mono (fun _ _ h => ⟨(), h.1, h.2⟩)) (Wd_none rfl) (by decide) (fun _ => ?_)
         refine WM_nil ?_
         have hE : symm (ltc cf) (f + 1) a m b xs = (symm (ltc cf) f ((a + b) / 2) ((a + b) / 2 + m - i) b (symm (ltc cf) f a i ((a + b) / 2) (rot ((a + b) / 2 + m - i - i) m (m - i) ((a + b) / 2 + m - i - m) xs))) := symm_c (x1 := (rot ((a + b) / 2 + m - i - i) m (m - i) ((a + b) / 2 + m - i - m) xs)) (x2 := (symm (ltc cf) f a i ((a + b) / 2) (rot ((a + b) / 2 + m - i - i) m (m - i) ((a + b) / 2 + m - i - m) xs))) (x3 := (symm (ltc cf) f ((a + b) / 2) ((a + b) / 2 + m - i) b (symm (ltc cf) f a i ((a + b) / 2) (rot ((a + b) / 2 + m - i - i) m (m - i) ((a + b) / 2 + m - i - m) xs)))) (mid := (a + b) / 2) (n := (a + b) / 2 + m) (s0 := s0) (r0 := r0) (st := i) (en := (a + b) / 2 + m - i) (by omega) (by omega) rfl rfl hs0 hr0 hA.symm rfl ((cond_and_t (by omega) (by omega)).symm) ((cond_and_t (by omega) (by omega)).symm) ((cond_and_t (by omega) (by omega)).symm)
         exact QM_ret0 rfl (fun W hm => ⟨rfl, by rw [hE]; exact hm⟩)
        ·have g44 := decide_eq_false h43
         refine CM_condF rfl g44 ?_
         refine CM_skip ?_
         have hE : symm (ltc cf) (f + 1) a m b xs = (symm (ltc cf) f a i ((a + b) / 2) (rot ((a + b) / 2 + m - i - i) m (m - i) ((a + b) / 2 + m - i - m) xs)) := symm_c (x1 := (rot ((a + b) / 2 + m - i - i) m (m - i) ((a + b) / 2 + m - i - m) xs)) (x2 := (symm (ltc cf) f a i ((a + b) / 2) (rot ((a + b) / 2 + m - i - i) m (m - i) ((a + b) / 2 + m - i - m) xs))) (x3 := (symm (ltc cf) f a i ((a + b) / 2) (rot ((a + b) / 2 + m - i - i) m (m - i) ((a + b) / 2 + m - i - m) xs))) (mid := (a + b) / 2) (n := (a + b) / 2 + m) (s0 := s0) (r0 := r0) (st := i) (en := (a + b) / 2 + m - i) (by omega) (by omega) rfl rfl hs0 hr0 hA.symm rfl ((cond_and_t (by omega) (by omega)).symm) ((cond_and_t (by omega) (by omega)).symm) ((cond_and_f (by omega)).symm)
         exact QM_ret0 rfl (fun W hm => ⟨rfl, by rw [hE]; exact hm⟩)
       ·have g40 := decide_eq_false h39
        refine ws g40 ?_
        refine ws g40 ?_
        refine ws g40 ?_
        refine wv (vpF g40) ?_
        refine nt' ?_
        refine CM_condF rfl rfl ?_
        refine CM_skip (QM_then (sr (wm (wm ?_))))
        refine wv vlss ?_
        refine wm ?_
        have g45 : (decide ((((a + b) / 2 : Nat) : Int) < (((a + b) / 2 + m - i : Nat) : Int))) = true := decide_eq_true (by omega)
        refine wg vmv g45 ?_
        refine wg vmv g45 ?_
        refine wg vlss g45 ?_
        refine wv (vpT g45) ?_
        refine nt' ?_
        by_cases h46 : (((a + b) / 2 + m - i : Nat) : Int) < ((b : Nat) : Int)
        ·have g47 := decide_eq_true h46
         refine CM_condT rfl g47 ?_
         refine CM_region (wm (wm (wm (wm (wm ?_)))))
         refine WM_callW (χ := Unit) (val := fun _ => .tuple #[]) (js := fun _ => (iOwn (tSl (tCk K) 25) [.slice A n c] (symm (ltc cf) f ((a + b) / 2) ((a + b) / 2 + m - i) b (rot ((a + b) / 2 + m - i - i) m (m - i) ((a + b) / 2 + m - i - m) xs)) :: is)) (cl_fn cb100 rfl) (fun W hm => (ih ((a + b) / 2) ((a + b) / 2 + m - i) b (rot ((a + b) / 2 + m - i - i) m (m - i) ((a + b) / 2 + m - i - m) xs) (by omega) (by omega) (by omega) (by omega) W hm).mono (fun _ _ h => ⟨(), h.1, h.2⟩)) (Wd_none rfl) (by decide) (fun _ => ?_)
         refine WM_nil ?_
         have hE : symm (ltc cf) (f + 1) a m b xs = (symm (ltc cf) f ((a + b) / 2) ((a + b) / 2 + m - i) b (rot ((a + b) / 2 + m - i - i) m (m - i) ((a + b) / 2 + m - i - m) xs)) := symm_c (x1 := (rot ((a + b) / 2 + m - i - i) m (m - i) ((a + b) / 2 + m - i - m) xs)) (x2 := (rot ((a + b) / 2 + m - i - i) m (m - i) ((a + b) / 2 + m - i - m) xs)) (x3 := (symm (ltc cf) f ((a + b) / 2) ((a + b) / 2 + m - i) b (rot ((a + b) / 2 + m - i - i) m (m - i) ((a + b) / 2 + m - i - m) xs))) (mid := (a + b) / 2) (n := (a + b) / 2 + m) (s0 := s0) (r0 := r0) (st := i) (en := (a + b) / 2 + m - i) (by omega) (by omega) rfl rfl hs0 hr0 hA.symm rfl ((cond_and_t (by omega) (by omega)).symm) ((cond_and_f (by omega)).symm) ((cond_and_t (by omega) (by omega)).symm)
         exact QM_ret0 rfl (fun W hm => ⟨rfl, by rw [hE]; exact hm⟩)
        ·have g47 := decide_eq_false h46
         refine CM_condF rfl g47 ?_
         refine CM_skip ?_
         have hE : symm (ltc cf) (f + 1) a m b xs = (rot ((a + b) / 2 + m - i - i) m (m - i) ((a + b) / 2 + m - i - m) xs) := symm_c (x1 := (rot ((a + b) / 2 + m - i - i) m (m - i) ((a + b) / 2 + m - i - m) xs)) (x2 := (rot ((a + b) / 2 + m - i - i) m (m - i) ((a + b) / 2 + m - i - m) xs)) (x3 := (rot ((a + b) / 2 + m - i - i) m (m - i) ((a + b) / 2 + m - i - m) xs)) (mid := (a + b) / 2) (n := (a + b) / 2 + m) (s0 := s0) (r0 := r0) (st := i) (en := (a + b) / 2 + m - i) (by omega) (by omega) rfl rfl hs0 hr0 hA.symm rfl ((cond_and_t (by omega) (by omega)).symm) ((cond_and_f (by omega)).symm) ((cond_and_f (by omega)).symm)
         exact QM_ret0 rfl (fun W hm => ⟨rfl, by rw [hE]; exact hm⟩)
      ·have g38 := decide_eq_false h37
       refine CM_condF rfl g38 ?_
       refine CM_skip (QM_then (CM_seq (sr (wm (wm ?_)))))
       refine wv vlss ?_
       refine wm ?_
       by_cases h48 : ((a : Nat) : Int) < ((i : Nat) : Int)
       ·have g49 := decide_eq_true h48
        refine wg vmv g49 ?_
        refine wg vmv g49 ?_
        refine wg vlss g49 ?_
        refine wv (vpT g49) ?_
        refine nt' ?_
        have g50 : (decide (((i : Nat) : Int) < (((a + b) / 2 : Nat) : Int))) = false := decide_eq_false (by omega)
        refine CM_condF rfl g50 ?_
        refine CM_skip (QM_then (sr (wm (wm ?_))))
        refine wv vlss ?_
        refine wm ?_
        have g51 : (decide ((((a + b) / 2 : Nat) : Int) < (((a + b) / 2 + m - i : Nat) : Int))) = true := decide_eq_true (by omega)
        refine wg vmv g51 ?_
        refine wg vmv g51 ?_
        refine wg vlss g51 ?_
        refine wv (vpT g51) ?_
        refine nt' ?_
        by_cases h52 : (((a + b) / 2 + m - i : Nat) : Int) < ((b : Nat) : Int)
        ·have g53 := decide_eq_true h52
         refine CM_condT rfl g53 ?_
         refine CM_region (wm (wm (wm (wm (wm ?_)))))
         refine WM_callW (χ := Unit) (val := fun _ => .tuple #[]) (js := fun _ => (iOwn (tSl (tCk K) 25) [.slice A n c] (symm (ltc cf) f ((a + b) / 2) ((a + b) / 2 + m - i) b xs) :: is)) (cl_fn cb100 rfl) (fun W hm => (ih ((a + b) / 2) ((a + b) / 2 + m - i) b xs (by omega) (by omega) (by omega) (by omega) W hm).mono (fun _ _ h => ⟨(), h.1, h.2⟩)) (Wd_none rfl) (by decide) (fun _ => ?_)
         refine WM_nil ?_
         have hE : symm (ltc cf) (f + 1) a m b xs = (symm (ltc cf) f ((a + b) / 2) ((a + b) / 2 + m - i) b xs) := symm_c (x1 := xs) (x2 := xs) (x3 := (symm (ltc cf) f ((a + b) / 2) ((a + b) / 2 + m - i) b xs)) (mid := (a + b) / 2) (n := (a + b) / 2 + m) (s0 := s0) (r0 := r0) (st := i) (en := (a + b) / 2 + m - i) (by omega) (by omega) rfl rfl hs0 hr0 hA.symm rfl ((cond_and_f (by omega)).symm) ((cond_and_f (by omega)).symm) ((cond_and_t (by omega) (by omega)).symm)
         exact QM_ret0 rfl (fun W hm => ⟨rfl, by rw [hE]; exact hm⟩)
        ·have g53 := decide_eq_false h52
         refine CM_condF rfl g53 ?_
         refine CM_skip ?_
         have hE : symm (ltc cf) (f + 1) a m b xs = xs := symm_c (x1 := xs) (x2 := xs) (x3 := xs) (mid := (a + b) / 2) (n := (a + b) / 2 + m) (s0 := s0) (r0 := r0) (st := i) (en := (a + b) / 2 + m - i) (by omega) (by omega) rfl rfl hs0 hr0 hA.symm rfl ((cond_and_f (by omega)).symm) ((cond_and_f (by omega)).symm) ((cond_and_f (by omega)).symm)
         exact QM_ret0 rfl (fun W hm => ⟨rfl, by rw [hE]; exact hm⟩)
       ·have g49 := decide_eq_false h48
        refine ws g49 ?_
        refine ws g49 ?_
        refine ws g49 ?_
        refine wv (vpF g49) ?_
        refine nt' ?_
        refine CM_condF rfl rfl ?_
        refine CM_skip (QM_then (sr (wm (wm ?_))))
        refine wv vlss ?_
        refine wm ?_
        have g54 : (decide ((((a + b) / 2 : Nat) : Int) < (((a + b) / 2 + m - i : Nat) : Int))) = true := decide_eq_true (by omega)
        refine wg vmv g54 ?_
        refine wg vmv g54 ?_
        refine wg vlss g54 ?_
        refine wv (vpT g54) ?_
        refine nt' ?_
        by_cases h55 : (((a + b) / 2 + m - i : Nat) : Int) < ((b : Nat) : Int)
        ·have g56 := decide_eq_true h55
         refine CM_condT rfl g56 ?_
         refine CM_region (wm (wm (wm (wm (wm ?_)))))
         refine WM_callW (χ := Unit) (val := fun _ => .tuple #[]) (js := fun _ => (iOwn (tSl (tCk K) 25) [.slice A n c] (symm (ltc cf) f ((a + b) / 2) ((a + b) / 2 + m - i) b xs) :: is)) (cl_fn cb100 rfl) (fun W hm => (ih ((a + b) / 2) ((a + b) / 2 + m - i) b xs (by omega) (by omega) (by omega) (by omega) W hm).mono (fun _ _ h => ⟨(), h.1, h.2⟩)) (Wd_none rfl) (by decide) (fun _ => ?_)
         refine WM_nil ?_
         have hE : symm (ltc cf) (f + 1) a m b xs = (symm (ltc cf) f ((a + b) / 2) ((a + b) / 2 + m - i) b xs) := symm_c (x1 := xs) (x2 := xs) (x3 := (symm (ltc cf) f ((a + b) / 2) ((a + b) / 2 + m - i) b xs)) (mid := (a + b) / 2) (n := (a + b) / 2 + m) (s0 := s0) (r0 := r0) (st := i) (en := (a + b) / 2 + m - i) (by omega) (by omega) rfl rfl hs0 hr0 hA.symm rfl ((cond_and_f (by omega)).symm) ((cond_and_f (by omega)).symm) ((cond_and_t (by omega) (by omega)).symm)
         exact QM_ret0 rfl (fun W hm => ⟨rfl, by rw [hE]; exact hm⟩)
        ·have g56 := decide_eq_false h55
         refine CM_condF rfl g56 ?_
         refine CM_skip ?_
         have hE : symm (ltc cf) (f + 1) a m b xs = xs := symm_c (x1 := xs) (x2 := xs) (x3 := xs) (mid := (a + b) / 2) (n := (a + b) / 2 + m) (s0 := s0) (r0 := r0) (st := i) (en := (a + b) / 2 + m - i) (by omega) (by omega) rfl rfl hs0 hr0 hA.symm rfl ((cond_and_f (by omega)).symm) ((cond_and_f (by omega)).symm) ((cond_and_f (by omega)).symm)
         exact QM_ret0 rfl (fun W hm => ⟨rfl, by rw [hE]; exact hm⟩)
     ·have g36 := decide_eq_false h35
      refine ws g36 ?_
      refine ws g36 ?_
      refine ws g36 ?_
      refine wv (vpF g36) ?_
      refine nt' ?_
      refine CM_condF rfl rfl ?_
      refine CM_skip (QM_then (CM_seq (sr (wm (wm ?_)))))
      refine wv vlss ?_
      refine wm ?_
      by_cases h57 : ((a : Nat) : Int) < ((i : Nat) : Int)
      ·have g58 := decide_eq_true h57
       refine wg vmv g58 ?_
       refine wg vmv g58 ?_
       refine wg vlss g58 ?_
       refine wv (vpT g58) ?_
       refine nt' ?_
       by_cases h59 : ((i : Nat) : Int) < (((a + b) / 2 : Nat) : Int)
       ·have g60 := decide_eq_true h59
        refine CM_condT rfl g60 ?_
        refine CM_region (wm (wm (wm (wm (wm ?_)))))
        refine WM_callW (χ := Unit) (val := fun _ => .tuple #[]) (js := fun _ => (iOwn (tSl (tCk K) 25) [.slice A n c] (symm (ltc cf) f a i ((a + b) / 2) xs) :: is)) (cl_fn cb100 rfl) (fun W hm => (ih a i ((a + b) / 2) xs (by omega) (by omega) (by omega) (by omega) W hm).mono (fun _ _ h => ⟨(), h.1, h.2⟩)) (Wd_none rfl) (by decide) (fun _ => ?_)
        refine nt' (sr (wm (wm ?_)))
        refine wv vlss ?_
        refine wm ?_
        have g61 : (decide ((((a + b) / 2 : Nat) : Int) < (((a + b) / 2 + m - i : Nat) : Int))) = false := decide_eq_false (by omega)
        refine ws g61 ?_
        refine ws g61 ?_
        refine ws g61 ?_
        refine wv (vpF g61) ?_
        refine nt' ?_
        refine CM_condF rfl rfl ?_
        refine CM_skip ?_
        have hE : symm (ltc cf) (f + 1) a m b xs = (symm (ltc cf) f a i ((a + b) / 2) xs) := symm_c (x1 := xs) (x2 := (symm (ltc cf) f a i ((a + b) / 2) xs)) (x3 := (symm (ltc cf) f a i ((a + b) / 2) xs)) (mid := (a + b) / 2) (n := (a + b) / 2 + m) (s0 := s0) (r0 := r0) (st := i) (en := (a + b) / 2 + m - i) (by omega) (by omega) rfl rfl hs0 hr0 hA.symm rfl ((cond_and_f (by omega)).symm) ((cond_and_t (by omega) (by omega)).symm) ((cond_and_f (by omega)).symm)
        exact QM_ret0 rfl (fun W hm => ⟨rfl, by rw [hE]; exact hm⟩)
       ·have g60 := decide_eq_false h59
        refine CM_condF rfl g60 ?_
        refine CM_skip (QM_then (sr (wm (wm ?_))))
        refine wv vlss ?_
        refine wm ?_
        have g62 : (decide ((((a + b) / 2 : Nat) : Int) < (((a + b) / 2 + m - i : Nat) : Int))) = false := decide_eq_false (by omega)
        refine ws g62 ?_
        refine ws g62 ?_
        refine ws g62 ?_
        refine wv (vpF g62) ?_
        refine nt' ?_
        refine CM_condF rfl rfl ?_
        refine CM_skip ?_
        have hE : symm (ltc cf) (f + 1) a m b xs = xs := symm_c (x1 := xs) (x2 := xs) (x3 := xs) (mid := (a + b) / 2) (n := (a + b) / 2 + m) (s0 := s0) (r0 := r0) (st := i) (en := (a + b) / 2 + m - i) (by omega) (by omega) rfl rfl hs0 hr0 hA.symm rfl ((cond_and_f (by omega)).symm) ((cond_and_f (by omega)).symm) ((cond_and_f (by omega)).symm)
        exact QM_ret0 rfl (fun W hm => ⟨rfl, by rw [hE]; exact hm⟩)
      ·have g58 := decide_eq_false h57
       refine ws g58 ?_
       refine ws g58 ?_
       refine ws g58 ?_
       refine wv (vpF g58) ?_
       refine nt' ?_
       refine CM_condF rfl rfl ?_
       refine CM_skip (QM_then (sr (wm (wm ?_))))
       refine wv vlss ?_
       refine wm ?_
       have g63 : (decide ((((a + b) / 2 : Nat) : Int) < (((a + b) / 2 + m - i : Nat) : Int))) = false := decide_eq_false (by omega)
       refine ws g63 ?_
       refine ws g63 ?_
       refine ws g63 ?_
       refine wv (vpF g63) ?_
       refine nt' ?_
       refine CM_condF rfl rfl ?_
       refine CM_skip ?_
       have hE : symm (ltc cf) (f + 1) a m b xs = xs := symm_c (x1 := xs) (x2 := xs) (x3 := xs) (mid := (a + b) / 2) (n := (a + b) / 2 + m) (s0 := s0) (r0 := r0) (st := i) (en := (a + b) / 2 + m - i) (by omega) (by omega) rfl rfl hs0 hr0 hA.symm rfl ((cond_and_f (by omega)).symm) ((cond_and_f (by omega)).symm) ((cond_and_f (by omega)).symm)
       exact QM_ret0 rfl (fun W hm => ⟨rfl, by rw [hE]; exact hm⟩)

theorem cb90 : Cb Tryd.prog 90 := ⟨f90, _, func90, rfl, by decide⟩
theorem srt73_stable_c {α : Type} [Inhabited α] (K : Ck α) (hK : K.s = 4) (cf : α → α → Int) (fc : FuncId) (B : Nat) (w0 : World) (is : List It) (H : CmpOk Tryd.prog fc K B w0 is cf) (A : Option Addr) (n c : Nat) (hn : n ≤ 68719476736) (xs : List (List Value × α)) (w : World) (hm : Mem B w0 (iOwn (tSl (tCk K) 25) [.slice A n c] xs :: is) w) :
  Calls Tryd.prog 90 #[.slice A n c, .int .i64 ((n : Nat) : Int), .func (.func fc) #[] #[]] w fun e w' => e = .returned (.tuple #[]) ∧ Mem B w0 (iOwn (tSl (tCk K) 25) [.slice A n c] (mlev (ltc cf) n (n + 1) 20 (blk (ltc cf) n (n + 1) 0 xs)) :: is) w' := by
 refine call_enterW (L := [(0, .slice A n c), (1, .int .i64 ((n : Nat) : Int)), (2, .func (.func fc) #[] #[])]) (N := 63) func90 rfl rfl (Nat.le_of_ble_eq_true rfl) (argsL_cons rfl (argsL_cons rfl (argsL_cons rfl argsL_nil))) hm ?_
 refine sr (wa (nt' (sr (wm (wa (wa (nt' (CM_seq (CM_block ?_)))))))))
 refine CM_loop (σ := Nat × Nat × Nat × List (List Value × α)) (fun s => [(0, .slice A n c), (1, .int .i64 ((n : Nat) : Int)), (2, .func (.func fc) #[] #[]), (6, .int .i64 20), (7, .int .i64 ((s.1 : Nat) : Int)), (8, .int .i64 ((s.2.1 : Nat) : Int))]) (fun s => (iOwn (tSl (tCk K) 25) [.slice A n c] s.2.2.2 :: is)) (fun s => s.2.1 = s.1 + 20 ∧ n ≤ s.2.2.1 + s.1 ∧ s.1 ≤ n ∧ blk (ltc cf) n s.2.2.1 s.1 s.2.2.2 = blk (ltc cf) n (n + 1) 0 xs) (fun s => n - s.1) (0, 20, n + 1, xs) sl6 (fun W hm => hm) ⟨(show 20 = 0 + 20 from by omega), (show n ≤ (n + 1) + 0 from by omega), (show 0 ≤ n from by omega), (show blk (ltc cf) n (n + 1) 0 xs = blk (ltc cf) n (n + 1) 0 xs from rfl)⟩ ?_
 rintro ⟨p, q, f, d⟩ H1
 obtain ⟨hq, hf5, hf6, hF⟩ : q = p + 20 ∧ n ≤ f + p ∧ p ≤ n ∧ blk (ltc cf) n f p d = blk (ltc cf) n (n + 1) 0 xs := H1
 show CM Tryd.prog 63 _ _ _ _ [(0, .slice A n c), (1, .int .i64 ((n : Nat) : Int)), (2, .func (.func fc) #[] #[]), (6, .int .i64 20), (7, .int .i64 ((p : Nat) : Int)), (8, .int .i64 ((q : Nat) : Int))] (iOwn (tSl (tCk K) 25) [.slice A n c] d :: is)
 subst hq
 refine CM_seq (sr (wm (wm ?_)))
 refine wv (fun W hm => rv_leq rfl rfl) ?_
 refine nt' ?_
 by_cases h2 : ((p + 20 : Nat) : Int) ≤ ((n : Nat) : Int)
 ·have g3 := decide_eq_true h2
  refine CM_condT rfl g3 ?_
  refine CM_skip (QM_then (CM_block (sr (wm (wm (wm (wm ?_)))))))
  refine WM_callW (χ := Unit) (val := fun _ => .tuple #[]) (js := fun _ => (iOwn (tSl (tCk K) 25) [.slice A n c] (insL (ltc cf) p (p + 20 - p - 1) (p + 1) d) :: is)) (cl_fn cb99 rfl) (fun W hm => (srt73_ins_c K hK cf fc B w0 is H A n c hn p (p + 20) d (by omega) (by omega) W hm).mono (fun _ _ h => ⟨(), h.1, h.2⟩)) (Wd_none rfl) (by decide) (fun _ => ?_)
  refine nt' (sr (wm (wa (nt' (CM_region (wm (wm ?_)))))))
  refine wv (fun W hm => rv_addN (p := p + 20) (q := 20) rfl rfl (by omega)) ?_
  refine wa (WM_nil (QM_block_normal ?_))
  exact QM_round (p + 20, p + 20 + 20, f - 1, (insL (ltc cf) p (p + 20 - p - 1) (p + 1) d)) sl6 (fun W hm => hm) ⟨(show (p + 20 + 20) = (p + 20) + 20 from by omega), (show n ≤ (f - 1) + (p + 20) from by omega), (show (p + 20) ≤ n from by omega), (show blk (ltc cf) n (f - 1) (p + 20) (insL (ltc cf) p (p + 20 - p - 1) (p + 1) d) = blk (ltc cf) n (n + 1) 0 xs from (blk_step (by omega) (by omega)).symm.trans hF)⟩ (show n - (p + 20) < n - p from by omega)
 ·have g3 := decide_eq_false h2
  refine CM_condF rfl g3 ?_
  refine CM_exit (QM_then_exit (QM_then_exit ?_))
  have hY := (blk_end (lt := ltc cf) (f := f) (xs := d) (show ¬ p + 20 ≤ n by omega)).symm.trans hF
  refine QM_block_hit (QM_then (sr (wm (wm (wm (wm ?_))))))
  refine WM_callW (χ := Unit) (val := fun _ => .tuple #[]) (js := fun _ => (iOwn (tSl (tCk K) 25) [.slice A n c] (insL (ltc cf) p (n - p - 1) (p + 1) d) :: is)) (cl_fn cb99 rfl) (fun W hm => (srt73_ins_c K hK cf fc B w0 is H A n c hn p n d (by omega) (by omega) W hm).mono (fun _ _ h => ⟨(), h.1, h.2⟩)) (Wd_none rfl) (by decide) (fun _ => ?_)
  refine nt' (CM_block ?_)
  refine CM_loop (σ := Nat × Nat × List (List Value × α)) (fun s => [(0, .slice A n c), (1, .int .i64 ((n : Nat) : Int)), (2, .func (.func fc) #[] #[]), (6, .int .i64 ((s.1 : Nat) : Int))]) (fun s => (iOwn (tSl (tCk K) 25) [.slice A n c] s.2.2 :: is)) (fun s => 0 < s.1 ∧ n < s.2.1 + s.1 ∧ mlev (ltc cf) n s.2.1 s.1 s.2.2 = mlev (ltc cf) n (n + 1) 20 (blk (ltc cf) n (n + 1) 0 xs)) (fun s => n - s.1) (20, n + 1, (insL (ltc cf) p (n - p - 1) (p + 1) d)) sl4 (fun W hm => hm) ⟨(show 0 < 20 from by omega), (show n < (n + 1) + 20 from by omega), (show mlev (ltc cf) n (n + 1) 20 (insL (ltc cf) p (n - p - 1) (p + 1) d) = mlev (ltc cf) n (n + 1) 20 (blk (ltc cf) n (n + 1) 0 xs) from by rw [hY])⟩ ?_
  rintro ⟨w, f2, d2⟩ H4
  obtain ⟨hw, hf7, hF2⟩ : 0 < w ∧ n < f2 + w ∧ mlev (ltc cf) n f2 w d2 = mlev (ltc cf) n (n + 1) 20 (blk (ltc cf) n (n + 1) 0 xs) := H4
  show CM Tryd.prog 63 _ _ _ _ [(0, .slice A n c), (1, .int .i64 ((n : Nat) : Int)), (2, .func (.func fc) #[] #[]), (6, .int .i64 ((w : Nat) : Int))] (iOwn (tSl (tCk K) 25) [.slice A n c] d2 :: is)
  refine CM_seq (sr (wm (wm ?_)))
  refine wv vlss ?_
  refine nt' ?_
  by_cases h5 : ((w : Nat) : Int) < ((n : Nat) : Int)
  ·have g6 := decide_eq_true h5
   refine CM_condT rfl g6 ?_
   refine CM_skip (QM_then (CM_block (sr (wm ?_))))
   refine wv (fun W hm => rv_mulN (p := 2) (q := w) rfl rfl (by omega)) ?_
   refine wa (wa (nt' (CM_seq (CM_block ?_))))
   refine CM_loop (σ := Nat × Nat × Nat × List (List Value × α)) (fun s => [(0, .slice A n c), (1, .int .i64 ((n : Nat) : Int)), (2, .func (.func fc) #[] #[]), (6, .int .i64 ((w : Nat) : Int)), (7, .int .i64 ((s.1 : Nat) : Int)), (8, .int .i64 ((s.2.1 : Nat) : Int))]) (fun s => (iOwn (tSl (tCk K) 25) [.slice A n c] s.2.2.2 :: is)) (fun s => s.2.1 = s.1 + 2 * w ∧ n < s.2.2.1 + s.1 ∧ s.1 ≤ n ∧ mrg (ltc cf) n w s.2.2.1 s.1 s.2.2.2 = mrg (ltc cf) n w (n + 1) 0 d2) (fun s => n - s.1) (0, 2 * w, n + 1, d2) sl6 (fun W hm => hm) ⟨(show (2 * w) = 0 + 2 * w from by omega), (show n < (n + 1) + 0 from by omega), (show 0 ≤ n from by omega), (show mrg (ltc cf) n w (n + 1) 0 d2 = mrg (ltc cf) n w (n + 1) 0 d2 from rfl)⟩ ?_
   rintro ⟨p2, q2, f3, d3⟩ H7
   obtain ⟨hq2, hf8, hf9, hF3⟩ : q2 = p2 + 2 * w ∧ n < f3 + p2 ∧ p2 ≤ n ∧ mrg (ltc cf) n w f3 p2 d3 = mrg (ltc cf) n w (n + 1) 0 d2 := H7
   show CM Tryd.prog 63 _ _ _ _ [(0, .slice A n c), (1, .int .i64 ((n : Nat) : Int)), (2, .func (.func fc) #[] #[]), (6, .int .i64 ((w : Nat) : Int)), (7, .int .i64 ((p2 : Nat) : Int)), (8, .int .i64 ((q2 : Nat) : Int))] (iOwn (tSl (tCk K) 25) [.slice A n c] d3 :: is)
   subst hq2
   refine CM_seq (sr (wm (wm ?_)))
   refine wv (fun W hm => rv_leq rfl rfl) ?_
   refine nt' ?_
   by_cases h8 : ((p2 + 2 * w : Nat) : Int) ≤ ((n : Nat) : Int)
   ·have g9 := decide_eq_true h8
    refine CM_condT rfl g9 ?_
    refine CM_skip (QM_then (CM_block (sr (wm (wm (wm (wm ?_)))))))
    refine wv (vadN p2 w (by omega)) ?_
    refine wm (wm ?_)
    refine WM_callW (χ := Unit) (val := fun _ => .tuple #[]) (js := fun _ => (iOwn (tSl (tCk K) 25) [.slice A n c] (symm (ltc cf) (2 * w) p2 (p2 + w) (p2 + 2 * w) d3) :: is)) (cl_fn cb100 rfl) (fun W hm => (srt73_symm_c K hK cf fc B w0 is H A n c hn (2 * w) p2 (p2 + w) (p2 + 2 * w) d3 (by omega) (by omega) (by omega) (by omega) W hm).mono (fun _ _ h => ⟨(), h.1, h.2⟩)) (Wd_none rfl) (by decide) (fun _ => ?_)
    refine nt' (sr (wm (wa (nt' (CM_region (wm (wm ?_)))))))
    refine wv (fun W hm => rv_mulN (p := 2) (q := w) rfl rfl (by omega)) ?_
    refine wv (fun W hm => rv_addN (p := p2 + 2 * w) (q := 2 * w) rfl rfl (by omega)) ?_
    refine wa (WM_nil (QM_block_normal ?_))
    exact QM_round (p2 + 2 * w, p2 + 2 * w + 2 * w, f3 - 1, (symm (ltc cf) (2 * w) p2 (p2 + w) (p2 + 2 * w) d3)) sl6 (fun W hm => hm) ⟨(show (p2 + 2 * w + 2 * w) = (p2 + 2 * w) + 2 * w from by omega), (show n < (f3 - 1) + (p2 + 2 * w) from by omega), (show (p2 + 2 * w) ≤ n from by omega), (show mrg (ltc cf) n w (f3 - 1) (p2 + 2 * w) (symm (ltc cf) (2 * w) p2 (p2 + w) (p2 + 2 * w) d3) = mrg (ltc cf) n w (n + 1) 0 d2 from (mrg_step (by omega) (by omega)).symm.trans hF3)⟩ (show n - (p2 + 2 * w) < n - p2 from by omega)
   ·have g9 := decide_eq_false h8
    refine CM_condF rfl g9 ?_
    refine CM_exit (QM_then_exit (QM_then_exit ?_))
    have hM := (mrg_end (lt := ltc cf) (xs := d3) (show ¬ p2 + 2 * w ≤ n by omega) hf8 hf9).symm.trans hF3
    refine QM_block_hit (QM_then (CM_seq (sr (wm (wm ?_)))))
    refine wv (vadN p2 w (by omega)) ?_
    refine wa (nt' (sr (wm (wm ?_))))
    refine wv vlss ?_
    refine nt' ?_
    by_cases h10 : ((p2 + w : Nat) : Int) < ((n : Nat) : Int)
    ·have g11 := decide_eq_true h10
     refine CM_condT rfl g11 ?_
     refine CM_region (wm (wm (wm (wm (wm ?_)))))
     refine WM_callW (χ := Unit) (val := fun _ => .tuple #[]) (js := fun _ => (iOwn (tSl (tCk K) 25) [.slice A n c] (symm (ltc cf) (n - p2) p2 (p2 + w) n d3) :: is)) (cl_fn cb100 rfl) (fun W hm => (srt73_symm_c K hK cf fc B w0 is H A n c hn (n - p2) p2 (p2 + w) n d3 (by omega) (by omega) (by omega) (by omega) W hm).mono (fun _ _ h => ⟨(), h.1, h.2⟩)) (Wd_none rfl) (by decide) (fun _ => ?_)
     refine nt' (CM_region (wm ?_))
     refine wv (fun W hm => rv_mulN (p := w) (q := 2) rfl rfl (by omega)) ?_
     refine wa (WM_nil (QM_block_normal ?_))
     exact QM_round (w * 2, f2 - 1, (symm (ltc cf) (n - p2) p2 (p2 + w) n d3)) sl4 (fun W hm => hm) ⟨(show 0 < (w * 2) from by omega), (show n < (f2 - 1) + (w * 2) from by omega), (show mlev (ltc cf) n (f2 - 1) (w * 2) (symm (ltc cf) (n - p2) p2 (p2 + w) n d3) = mlev (ltc cf) n (n + 1) 20 (blk (ltc cf) n (n + 1) 0 xs) from (congrArg (mlev (ltc cf) n (f2 - 1) (w * 2)) (by rw [decide_eq_true (show p2 + w < n by omega)] at hM; exact hM)).trans ((mlev_step (by omega) (by omega)).symm.trans hF2))⟩ (show n - (w * 2) < n - w from by omega)
    ·have g11 := decide_eq_false h10
     refine CM_condF rfl g11 ?_
     refine CM_skip (QM_then (CM_region (wm ?_)))
     refine wv (fun W hm => rv_mulN (p := w) (q := 2) rfl rfl (by omega)) ?_
     refine wa (WM_nil (QM_block_normal ?_))
     exact QM_round (w * 2, f2 - 1, d3) sl4 (fun W hm => hm) ⟨(show 0 < (w * 2) from by omega), (show n < (f2 - 1) + (w * 2) from by omega), (show mlev (ltc cf) n (f2 - 1) (w * 2) d3 = mlev (ltc cf) n (n + 1) 20 (blk (ltc cf) n (n + 1) 0 xs) from (congrArg (mlev (ltc cf) n (f2 - 1) (w * 2)) (by rw [decide_eq_false (show ¬ p2 + w < n by omega)] at hM; exact hM)).trans ((mlev_step (by omega) (by omega)).symm.trans hF2))⟩ (show n - (w * 2) < n - w from by omega)
  ·have g6 := decide_eq_false h5
   refine CM_condF rfl g6 ?_
   refine CM_exit (QM_then_exit (QM_then_exit (QM_block_hit ?_)))
   have hE : mlev (ltc cf) n (n + 1) 20 (blk (ltc cf) n (n + 1) 0 xs) = d2 := ((mlev_end (by omega)).symm.trans hF2).symm
   exact QM_ret0 rfl (fun W hm => ⟨rfl, by rw [hE]; exact hm⟩)

theorem cb73 : Cb Tryd.prog 73 := ⟨f73, _, func73, rfl, by decide⟩
theorem srt73_sort_c {α : Type} [Inhabited α] (K : Ck α) (hK : K.s = 4) (cf : α → α → Int) (fc : FuncId) (B : Nat) (w0 : World) (is : List It) (H : CmpOk Tryd.prog fc K B w0 is cf) (A : Option Addr) (n c : Nat) (hn : n ≤ 68719476736) (xs : List (List Value × α)) (w : World) (hm : Mem B w0 (iOwn (tSl (tCk K) 25) [.slice A n c] xs :: is) w) :
  Calls Tryd.prog 73 #[.slice A n c, .func (.func fc) #[] #[]] w fun e w' => e = .returned (.tuple #[]) ∧ Mem B w0 (iOwn (tSl (tCk K) 25) [.slice A n c] (mlev (ltc cf) n (n + 1) 20 (blk (ltc cf) n (n + 1) 0 xs)) :: is) w' := by
 refine call_enterW (L := [(0, .slice A n c), (1, .func (.func fc) #[] #[])]) (N := 9) func73 rfl rfl (Nat.le_of_ble_eq_true rfl) (argsL_cons rfl (argsL_cons rfl argsL_nil)) hm ?_
 refine CM_region (wm (wm ?_))
 refine wv (vlen underlying68) ?_
 refine wm ?_
 refine WM_callW (χ := Unit) (val := fun _ => .tuple #[]) (js := fun _ => (iOwn (tSl (tCk K) 25) [.slice A n c] (mlev (ltc cf) n (n + 1) 20 (blk (ltc cf) n (n + 1) 0 xs)) :: is)) (cl_fn cb90 rfl) (fun W hm => (srt73_stable_c K hK cf fc B w0 is H A n c hn xs W hm).mono (fun _ _ h => ⟨(), h.1, h.2⟩)) (Wd_none rfl) (by decide) (fun _ => ?_)
 refine WM_nil ?_
 have hE : mlev (ltc cf) n (n + 1) 20 (blk (ltc cf) n (n + 1) 0 xs) = (mlev (ltc cf) n (n + 1) 20 (blk (ltc cf) n (n + 1) 0 xs)) := rfl
 exact QM_ret0 rfl (fun W hm => ⟨rfl, by rw [hE]; exact hm⟩)

end Go.Proofs.YtcjelfdpekbbkaaDoor
