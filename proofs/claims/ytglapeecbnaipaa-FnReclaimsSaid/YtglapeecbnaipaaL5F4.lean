/-
  Contracts of functions, printed by a program of ours.
-/
import Derived.Test.YtglapeecbnaipaaL5F3
namespace Go.Proofs.Ytglapeecbnaipaa
open Go.RowKit
set_option maxRecDepth 100000
set_option maxHeartbeats 4000000
open _root_.Go.Proofs.Try
def okI (now : Int) (seen : List DVersion) (v : DVersion) : Bool := spec_l7Version_m v now && seen.all fun w => !(v.Id == w.Id && impl_meetInTime_m v w)
theorem seenF_append (ok : List DVersion → DVersion → Bool) : ∀ (s t seen : List DVersion), seenF ok seen (s ++ t) = (seenF ok seen s && seenF ok (seen ++ s) t)
  | [], t, seen => by simp [seenF]
  | v :: s, t, seen => by
    show (ok seen v && seenF ok (seen ++ [v]) (s ++ t)) = _
    rw [seenF_append ok s t]
    simp [seenF, Bool.and_assoc]
theorem chkF_seen (ok : List DVersion → DVersion → Bool) : ∀ (l seen : List DVersion), chkF (fun d v => ok d v) (fun d v => d ++ [v]) l seen = cond (seenF ok seen l) (some (seen ++ l)) none
  | [], seen => by simp [chkF, seenF]
  | v :: l, seen => by
    rw [chkF, chkF_seen ok l]
    show _ = cond (ok seen v && seenF ok (seen ++ [v]) l) _ _
    cases ok seen v <;> simp
theorem impl_Store_b34 (x : DStore) (i j : Nat) (d : List DVersion) : rng (R := Bool) (fun k (_ : Unit) => impl_IsStore_b3 x i j d k) (d.length - 0) 0 () = cond (d.all fun w => !((gt (gt x.Segments i) j).Id == w.Id && impl_meetInTime_m (gt (gt x.Segments i) j) w)) (.inr ()) (.inl false) :=
  rng_allB fun k _ => by
    unfold impl_IsStore_b3
    cases (gt (gt x.Segments i) j).Id == (gt d k).Id <;> cases impl_meetInTime_m (gt (gt x.Segments i) j) (gt d k) <;> rfl
theorem impl_Store_b2 (x : DStore) (i j : Nat) (d : List DVersion) : impl_IsStore_b2 x i j d = cond (okI x.Now d (gt (gt x.Segments i) j)) (.inr (d ++ [gt (gt x.Segments i) j])) (.inl false) := by
  have h4 : (fun k (_ : Unit) => impl_IsStore_b4 x i j d k) = fun k (_ : Unit) => impl_IsStore_b3 x i j d k := rfl
  unfold impl_IsStore_b2 okI
  rw [h4, impl_Store_b34, Version_eq, impl_within_iff, impl_within_iff]
  have hr : impl_IsRow_m (impl_rowOf_m (gt (gt x.Segments i) j)) = spec_IsRow_m (⟨(gt (gt x.Segments i) j).Id, (gt (gt x.Segments i) j).Values⟩ : DRow) := rfl
  rw [hr]
  have hn : ((gt (gt x.Segments i) j).Died != (-1)) = !((gt (gt x.Segments i) j).Died == (-1)) := rfl
  rw [hn]
  cases spec_IsRow_m (⟨(gt (gt x.Segments i) j).Id, (gt (gt x.Segments i) j).Values⟩ : DRow) <;> cases decide (0 ≤ (gt (gt x.Segments i) j).Born ∧ (gt (gt x.Segments i) j).Born ≤ x.Now) <;> cases (gt (gt x.Segments i) j).Died == (-1) <;>
    cases decide (IntKind.i64.wrap ((gt (gt x.Segments i) j).Born + 1) ≤ (gt (gt x.Segments i) j).Died ∧ (gt (gt x.Segments i) j).Died ≤ x.Now) <;> cases (d.all fun w => !((gt (gt x.Segments i) j).Id == w.Id && impl_meetInTime_m (gt (gt x.Segments i) j) w)) <;> rfl
theorem impl_Store_b1 (x : DStore) (i : Nat) (d : List DVersion) : impl_IsStore_b1 x i d = cond (decide ((gt x.Segments i).length ≤ 4) && seenF (okI x.Now) d (gt x.Segments i)) (.inr (d ++ gt x.Segments i)) (.inl false) := by
  unfold impl_IsStore_b1
  rw [rng_chk (xs := gt x.Segments i) (r := false) (c := fun d v => okI x.Now d v) (f := fun d v => d ++ [v]) (fun j s _ => impl_Store_b2 x i j s), chkF_seen]
  by_cases h : (gt x.Segments i).length ≤ 4
  · rw [decide_eq_true h, decide_eq_false (show ¬ 4 < ((gt x.Segments i).length : Int) by omega)]
    cases seenF (okI x.Now) d (gt x.Segments i) <;> rfl
  · rw [decide_eq_false h, decide_eq_true (show 4 < ((gt x.Segments i).length : Int) by omega)]
    rfl
theorem chkF_segs (ok : List DVersion → DVersion → Bool) : ∀ (l : List (List DVersion)) (d : List DVersion), chkF (fun d s => decide (s.length ≤ 4) && seenF ok d s) (fun d s => d ++ s) l d = cond (l.all (fun s => decide (s.length ≤ 4)) && seenF ok d l.flatten) (some (d ++ l.flatten)) none
  | [], d => by simp [chkF, seenF]
  | s :: l, d => by
    rw [chkF, chkF_segs ok l, List.flatten_cons, seenF_append, List.all_cons]
    cases decide (s.length ≤ 4) <;> cases seenF ok d s <;> cases l.all (fun s => decide (s.length ≤ 4)) <;> simp
theorem impl_IsStore_form (x : DStore) : impl_IsStore_m x = storeB (okI x.Now) x := by
  unfold impl_IsStore_m storeB
  rw [rng_chk (xs := x.Segments) (r := false) (c := fun d s => decide (s.length ≤ 4) && seenF (okI x.Now) d s) (f := fun d s => d ++ s) (fun j s _ => impl_Store_b1 x j s), chkF_segs, impl_within_iff, impl_within_iff]
  cases decide (1 ≤ (x.Segments.length : Int) ∧ (x.Segments.length : Int) ≤ 8) <;> cases decide (0 ≤ x.Now ∧ x.Now ≤ 100000) <;> cases x.Segments.all (fun s => decide (s.length ≤ 4)) <;> cases seenF (okI x.Now) [] x.Segments.flatten <;> rfl
theorem storeB_hq {ok : List DVersion → DVersion → Bool} {x : DStore} (h : storeB ok x = true) : (x.Segments.map List.length).sum ≤ 68719476736 := by
  unfold storeB at h
  simp only [Bool.and_eq_true, decide_eq_true_eq, List.all_eq_true] at h
  have h1 := sum_le_mul (w := List.length) (c := 4) (xs := x.Segments) fun j hj => h.1.2 _ (gt_mem hj)
  omega
def segR (vis : DVersion → Bool) (s : List DVersion) : List DRow := (s.filter vis).map fun v => (⟨v.Id, v.Values⟩ : DRow)
theorem segR_len (vis : DVersion → Bool) (s : List DVersion) : (segR vis s).length ≤ s.length := by
  unfold segR
  rw [List.length_map]
  exact List.length_filter_le _ _
theorem segR_sm {B : Nat} {vis : DVersion → Bool} {s : List DVersion} (h : ∀ y ∈ s, smVersion B y) : ∀ y ∈ segR vis s, smRow B y := fun y hy => by
  unfold segR at hy
  obtain ⟨v, hv, rfl⟩ := List.mem_map.1 hy
  exact h v (List.mem_filter.1 hv).1
theorem segRows_form (x : DStore) (i : Nat) (t : Int) : impl_segmentRows_m x ((i : Nat) : Int) t = segR (fun v => impl_IsVisible_m v t) (gt x.Segments i) := by
  unfold impl_segmentRows_m
  rw [Int.toNat_natCast]
  rw [rng_fold (xs := gt x.Segments i) (f := fun d v => cond (impl_IsVisible_m v t) (d ++ [(⟨v.Id, v.Values⟩ : DRow)]) d) (b := fun k s => impl_segmentRows_b1 x ((i : Nat) : Int) t k s) (fun j s _ => by unfold impl_segmentRows_b1; rw [Int.toNat_natCast]; cases impl_IsVisible_m (gt (gt x.Segments i) j) t <;> rfl), foldl_filterMap]
  rfl
theorem segRows_len (x : DStore) (i : Nat) (t : Int) : (impl_segmentRows_m x ((i : Nat) : Int) t).length ≤ (gt x.Segments i).length := by
  rw [segRows_form]; exact segR_len _ _
theorem segRows_sm {B : Nat} {x : DStore} {i : Nat} (h : smStore B x) (hi : i < x.Segments.length) (t : Int) : ∀ y ∈ impl_segmentRows_m x ((i : Nat) : Int) t, smRow B y := by
  rw [segRows_form]
  exact segR_sm (h.2 _ (gt_mem hi)).2
def impl_RowsAt_b1 (x0 : DStore) (x1 : Int) (k14 : Nat) (d15 : (List DRow)) : (List DRow) ⊕ ((List DRow)) :=
 Sum.inr (d15 ++ (impl_segmentRows_m x0 ((k14 : Nat) : Int) x1))
def impl_RowsAt_m (x0 : DStore) (x1 : Int) : (List DRow) :=
 cond (impl_IsStore_m x0) (Sum.elim id (fun (s : (List DRow)) => (impl_SortRows_m s)) (rng (R := (List DRow)) (fun k (s : (List DRow)) => impl_RowsAt_b1 x0 x1 k s) (x0.Segments.length - 0) 0 [])) []
theorem cb14 : Cb Try.prog 14 := ⟨f14, _, func14, rfl, by decide⟩
theorem impl_RowsAt_c (w : World) (z0 : List Value) (x0 : DStore) (x1 : Int) (r_0 : tyStore.rd w w.heap.size z0 x0) (s_0 : smStore 68719476736 x0) :
  Calls Try.prog 14 #[.agg z0.toArray, .int .i64 x1] w fun e w' => ∃ v : Value, e = .returned (v) ∧ Mem w.heap.size w [iOwn (tSl tyRow 29) [v] (impl_RowsAt_m x0 x1)] w' := by
 obtain ⟨v1, rfl, r2⟩ := tyStore_rd r_0
 obtain ⟨m3, A4, c5, rfl, q6, r7⟩ := rdS_op r2
 have l8 : x0.Segments.length ≤ 68719476736 := s_0.1
 refine ce2 (L := [(0, .agg #[.slice A4 x0.Segments.length c5, .int .i64 x0.Now]), (1, .int .i64 x1)]) (N := 27) func14 ?_
 refine sr ?_
 refine WM_box rfl (Wd_none rfl) (by decide) (fun p9 => ?_)
 refine wa (nt' (sr ?_))
 refine WM_build0 (E := tyRow) underlying39 type29 (Wd_none rfl) (by decide) (fun p10 => ?_)
 refine wa (nt' (CM_seq (sr ?_)))
 refine wv (fun W hm => rv_loadN (cs := [.slice A4 x0.Segments.length c5, .int .i64 x0.Now]) underlying26 type26 rfl rfl (hm.boxCells (n := 1) rfl)) ?_
 refine wcv (cl_fn cb11 rfl) (fun W hm => impl_IsStore_c W _ x0 (tyStore_mk (x := x0) (hm.rdS0 r7)) s_0) ?_
 refine wv vnot ?_
 refine nt' ?_
 rcases Bool.eq_false_or_eq_true (impl_IsStore_m x0) with g13 | g13
 ·
  have HQ := storeB_hq (ok := okI x0.Now) (by rw [← impl_IsStore_form]; exact g13)
  refine CM_condF rfl (nt g13) ?_
  refine CM_skip (QM_then (CM_seq (sr ?_)))
  refine wv (vf underlying26 rfl type24) ?_
  refine wv (vl 1 0 underlying24) ?_
  refine wv (vlen underlying24) ?_
  refine wm (nt' (CM_block ?_))
  let F1 := fun k (s : (List DRow)) => impl_RowsAt_b1 x0 x1 k s
  let R2 := rng (R := (List DRow)) F1
  let I3 : It := iBox p9 26 [.slice A4 x0.Segments.length c5, .int .i64 x0.Now]
  refine CM_loop (σ := Nat × ((List DRow)) × (Option Addr × Nat)) (fun s => [(1, .int .i64 x1), (2, .pointer (some (⟨p9, 0, none⟩ : Addr))), (5, .slice s.2.2.1 s.2.1.length s.2.2.2), (14, .int .i64 ((x0.Segments.length : Nat) : Int)), (15, .int .i64 ((s.1 : Nat) : Int))]) (fun s => [iOwn (tSl tyRow 29) [.slice s.2.2.1 s.2.1.length s.2.2.2] s.2.1, I3]) (fun s => s.1 ≤ x0.Segments.length ∧ R2 (x0.Segments.length - s.1) s.1 s.2.1 = R2 (x0.Segments.length - 0) 0 [] ∧ s.2.1.length ≤ ((x0.Segments.take s.1).map List.length).sum ∧ ∀ y ∈ s.2.1, smRow 68719476736 y) (fun s => x0.Segments.length - s.1) (0, [], ((some ⟨p10, 0, none⟩), 0)) sl5 (fun W hm => hm) ⟨(by omega), rfl, Nat.zero_le _, fun _ h => by cases h⟩ ?_
  rintro ⟨k14, d15, ⟨A16, c17⟩⟩ H20
  obtain ⟨hk18, hF19, hi21, hi22⟩ : k14 ≤ x0.Segments.length ∧ R2 (x0.Segments.length - k14) k14 d15 = R2 (x0.Segments.length - 0) 0 [] ∧ d15.length ≤ ((x0.Segments.take k14).map List.length).sum ∧ ∀ y ∈ d15, smRow 68719476736 y := H20
  show CM Try.prog 27 _ _ _ _ [(1, .int .i64 x1), (2, .pointer (some (⟨p9, 0, none⟩ : Addr))), (5, .slice A16 d15.length c17), (14, .int .i64 ((x0.Segments.length : Nat) : Int)), (15, .int .i64 ((k14 : Nat) : Int))] [iOwn (tSl tyRow 29) [.slice A16 d15.length c17] d15, I3]
  refine sr ?_
  refine wv vlss ?_
  refine nt' (CM_seq ?_)
  by_cases hl23 : k14 < x0.Segments.length
  ·have g24 := dlT hl23
   have hq1 := sum_take_succ (w := List.length) (xs := x0.Segments) (j := k14) (by omega)
   have hq2 := sum_take_le (w := List.length) (xs := x0.Segments) (k14 + 1)
   have hq3 := segRows_len x0 k14 x1
   refine CM_condT rfl g24 ?_
   refine CM_skip (QM_then (CM_seq (CM_block (sr (wm (wa (nt' (CM_region (wm ?_)))))))))
   refine wv (fun W hm => rv_loadN (cs := [.slice A4 x0.Segments.length c5, .int .i64 x0.Now]) underlying26 type26 rfl rfl (hm.boxCells (n := 1) rfl)) ?_
   refine wm (wm ?_)
   refine wcl (tSl tyRow 29) (impl_segmentRows_m x0 ((k14 : Nat) : Int) x1) (cl_fn cb55 rfl) (fun W hm => impl_segmentRows_c W _ x0 ((k14 : Nat) : Int) x1 (tyStore_mk (x := x0) (hm.rdS0 r7)) s_0 (⟨by omega, by omega⟩)) (fun z25 => ?_)
   refine WM_form (n := 0) rfl ?_
   rintro A26 c27 rfl m28
   refine WM_appendM (E := tyRow) (e := 29) (v := .slice A16 d15.length c17) (u := .slice A26 (impl_segmentRows_m x0 ((k14 : Nat) : Int) x1).length c27) (xs := d15) (ys := (impl_segmentRows_m x0 ((k14 : Nat) : Int) x1)) (js := [I3]) (pk [1, 0, 2]) underlying39 type29 rfl rfl rfl (Nat.le_of_ble_eq_true rfl) rfl rfl (show (d15.length + (impl_segmentRows_m x0 ((k14 : Nat) : Int) x1).length) * 32 ≤ 140737488355328 from by first | omega | (simp only [List.length_append, List.length_cons, List.length_nil, List.length_take, List.length_drop] at *; omega)) (show d15.length + (impl_segmentRows_m x0 ((k14 : Nat) : Int) x1).length ≤ 9223372036854775807 from by first | omega | (simp only [List.length_append, List.length_cons, List.length_nil, List.length_take, List.length_drop] at *; omega)) (Wd_none rfl) (by decide) (fun v30 => ?_)
   refine WM_form (n := 0) rfl ?_
   rintro A31 c32 rfl m33
   refine wa (WM_nil (QM_block_normal (QM_then (CM_region ?_))))
   refine wv (vadN k14 1 (by omega)) ?_
   refine wm (WM_nil ?_)
   have hn35 := rng_next (R := (List DRow)) (body := F1) (k := k14) (s := d15) (s' := (d15 ++ (impl_segmentRows_m x0 ((k14 : Nat) : Int) x1))) (show k14 < x0.Segments.length from by omega) (rfl) hF19
   exact QM_round (k14 + 1, (d15 ++ (impl_segmentRows_m x0 ((k14 : Nat) : Int) x1)), (A31, c32)) sl5 (fun W hm => hm) ⟨(by omega), hn35, (show (d15 ++ (impl_segmentRows_m x0 ((k14 : Nat) : Int) x1)).length ≤ ((x0.Segments.take (k14 + 1)).map List.length).sum from by rw [List.length_append]; omega), (show ∀ y ∈ (d15 ++ (impl_segmentRows_m x0 ((k14 : Nat) : Int) x1)), smRow 68719476736 y from by intro y hy; rcases List.mem_append.1 hy with hy | hy; exact hi22 y hy; exact segRows_sm s_0 (by omega) x1 y hy)⟩ (rl (by omega))
  ·have g24 := dlF hl23
   refine CM_condF rfl g24 ?_
   refine CM_exit (QM_then_exit (QM_then_exit ?_))
   have hE36 : R2 (x0.Segments.length - 0) 0 [] = Sum.inr d15 := rng_end hl23 hF19
   have hq4 := sum_take_le (w := List.length) (xs := x0.Segments) k14
   have hsm : d15.length ≤ 68719476736 ∧ ∀ y ∈ d15, smRow 68719476736 y := ⟨by omega, hi22⟩
   refine QM_block_hit (QM_then (sr (wm ?_)))
   refine wcl (tSl tyRow 29) (impl_SortRows_m d15) (cl_fn cb20 rfl) (fun W hm => impl_SortRows_c W _ d15 (hm.rdSI (n := 0) rfl) hsm) (fun z37 => ?_)
   refine WM_form (n := 0) rfl ?_
   rintro A38 c39 rfl m40
   refine wa (nt' (CM_ret ?_))
   have he42 := (show impl_RowsAt_m x0 x1 = (impl_SortRows_m d15) from cond_t g13 (fin_inr hE36 (rfl)))
   refine QM_r1 rfl (RR_tmp rfl) (fun W hm => ⟨.slice A38 (impl_SortRows_m d15).length c39, ?_, ?_⟩)
   ·first | rw [he42] | rfl
   ·rw [he42]; exact (hm.pick [0] (by decide))
 ·
  refine CM_condT rfl (nf g13) ?_
  refine sr (wm (wa (nt' (CM_ret (QM_then_ret ?_)))))
  have he43 := (show impl_RowsAt_m x0 x1 = [] from cond_f g13 (rfl))
  refine QM_r1 rfl (RR_tmp rfl) (fun W hm => ⟨.slice (some ⟨p10, 0, none⟩) 0 0, ?_, ?_⟩)
  ·first | rw [he43] | rfl
  ·rw [he43]; exact (hm.pick [0] (by decide))

def spec_l7Rows_b1 (x0 : (List DVersion)) (x1 : Int) (k9 : Nat) (d10 : (List DRow)) : (List DRow) ⊕ ((List DRow)) :=
 cond (spec_IsVisible_m (gt x0 k9) x1) (Sum.inr (d10 ++ [(⟨(gt x0 k9).Id, (gt x0 k9).Values⟩ : DRow)])) (Sum.inr d10)
def spec_l7Rows_m (x0 : (List DVersion)) (x1 : Int) : (List DRow) :=
 Sum.elim id (fun (s : (List DRow)) => s) (rng (R := (List DRow)) (fun k (s : (List DRow)) => spec_l7Rows_b1 x0 x1 k s) (x0.length - 0) 0 [])
theorem cb57 : Cb Try.prog 57 := ⟨f57, _, func57, rfl, by decide⟩
theorem spec_l7Rows_c (w : World) (z0 : Value) (x0 : (List DVersion)) (x1 : Int) (r_0 : rdS tyVersion w w.heap.size z0 x0) (s_0 : (x0.length ≤ 68719476736 ∧ ∀ y ∈ x0, smVersion 68719476736 y)) :
  Calls Try.prog 57 #[z0, .int .i64 x1] w fun e w' => ∃ v : Value, e = .returned (v) ∧ Mem w.heap.size w [iOwn (tSl tyRow 29) [v] (spec_l7Rows_m x0 x1)] w' := by
 obtain ⟨m1, A2, c3, rfl, q4, r5⟩ := rdS_op r_0
 have l6 : x0.length ≤ 68719476736 := s_0.1
 refine ce2 (L := [(0, .slice A2 x0.length c3), (1, .int .i64 x1)]) (N := 37) func57 ?_
 refine sr (wa (nt' (sr ?_)))
 refine WM_build0 (E := tyRow) underlying39 type29 (Wd_none rfl) (by decide) (fun p7 => ?_)
 refine wa (nt' (CM_seq (sr (wa (nt' (CM_block ?_))))))
 let F1 := fun k (s : (List DRow)) => spec_l7Rows_b1 x0 x1 k s
 let R2 := rng (R := (List DRow)) F1
 refine CM_loop (σ := Nat × ((List DRow)) × (Option Addr × Nat)) (fun s => [(0, .slice A2 x0.length c3), (1, .int .i64 x1), (5, .slice s.2.2.1 s.2.1.length s.2.2.2), (6, .int .i64 ((s.1 : Nat) : Int))]) (fun s => [iOwn (tSl tyRow 29) [.slice s.2.2.1 s.2.1.length s.2.2.2] s.2.1]) (fun s => s.1 ≤ x0.length ∧ R2 (x0.length - s.1) s.1 s.2.1 = R2 (x0.length - 0) 0 [] ∧ s.2.1.length ≤ 0 + s.1) (fun s => x0.length - s.1) (0, [], ((some ⟨p7, 0, none⟩), 0)) sl4 (fun W hm => hm) ⟨(by omega), rfl, Nat.le_refl _⟩ ?_
 rintro ⟨k9, d10, ⟨A11, c12⟩⟩ H15
 obtain ⟨hk13, hF14, hi16⟩ : k9 ≤ x0.length ∧ R2 (x0.length - k9) k9 d10 = R2 (x0.length - 0) 0 [] ∧ d10.length ≤ 0 + k9 := H15
 let I4 : It := iOwn (tSl tyRow 29) [.slice A11 d10.length c12] d10
 show CM Try.prog 37 _ _ _ _ [(0, .slice A2 x0.length c3), (1, .int .i64 x1), (5, .slice A11 d10.length c12), (6, .int .i64 ((k9 : Nat) : Int))] [I4]
 refine CM_seq (sr (wm (wm ?_)))
 refine wv (vlen underlying72) ?_
 refine wv vlss ?_
 refine nt' ?_
 by_cases hl17 : k9 < x0.length
 ·have g18 := dlT hl17
  refine CM_condT rfl g18 ?_
  refine CM_skip (QM_then (CM_seq (CM_block (sr (wm (wm ?_))))))
  obtain ⟨a19, rfl, hb20, he21⟩ := q4 (by omega)
  refine wv (vix 4 k9 underlying72 type51) ?_
  obtain ⟨_, e25, hc22⟩ := he21 k9 _ (gt_some (show k9 < x0.length from by omega))
  obtain ⟨v23, rfl, r24⟩ := tyVersion_rd e25
  have l26 : ((gt x0 k9).Values).length ≤ 68719476736 := (s_0.2 _ (gt_mem (show k9 < x0.length from by omega)))
  obtain ⟨m27, A28, c29, rfl, q30, r31⟩ := rdS_op r24
  refine wv (fun W hm => rv_loadN (cs := [.int .i64 ((gt x0 k9).Id), .slice A28 ((gt x0 k9).Values).length c29, .int .i64 ((gt x0 k9).Born), .int .i64 ((gt x0 k9).Died)]) underlying51 type51 rfl rfl (hm.elCells (show (a19.add (k9 * 4)).block < w.heap.size from by rw [add_block]; exact hb20.1) hc22)) ?_
  refine wm ?_
  refine wcv (cl_fn cb27 rfl) (fun W hm => spec_IsVisible_c W _ (gt x0 k9) x1 (tyVersion_mk (x := (gt x0 k9)) (hm.rdS0 r31))) ?_
  refine nt' ?_
  rcases Bool.eq_false_or_eq_true (spec_IsVisible_m (gt x0 k9) x1) with g33 | g33
  ·
   refine CM_condT rfl g33 ?_
   refine rb 17 (s := []) (pk []) ?_
   refine qt 17 0 1 rfl vmv ?_
   refine qt 17 1 3 rfl vmv ?_
   refine qt 17 2 7 rfl vmv ?_
   refine qt 17 3 15 rfl (vix 4 k9 underlying72 type51) ?_
   refine qt 17 4 31 rfl (vf underlying51 rfl type3) ?_
   refine qt 17 5 63 rfl (fun W hm => rv_load underlying3 rfl rfl ((hm.cell0 (show ((a19.add (k9 * 4)).add 0).block < w.heap.size from by rw [add_block, add_block]; exact hb20.1)).trans (hc22 0 _ rfl))) ?_
   refine qt 17 7 191 rfl vmv ?_
   refine qt 17 8 447 rfl vmv ?_
   refine qt 17 9 959 rfl (vix 4 k9 underlying72 type51) ?_
   refine qt 17 10 1983 rfl (vf underlying51 rfl type27) ?_
   refine qt 17 11 4031 rfl (fun W hm => rv_load underlying27 rfl rfl ((hm.cell0 (show ((a19.add (k9 * 4)).add 1).block < w.heap.size from by rw [add_block, add_block]; exact hb20.1)).trans (hc22 1 _ rfl))) ?_
   refine qo 17 6 4095 rfl ?_
   refine WM_build0 (E := tInt) underlying27 type3 (Wd_none rfl) (by decide) (fun p34 => ?_)
   refine qn (pk []) ?_
   refine qo 17 12 8191 rfl ?_
   refine apR tInt tInt 3 (.slice (some ⟨p34, 0, none⟩) 0 0) [] ((gt x0 k9).Values) [I4] (fun W hm => hm) (fun W hm => src_flat flat_int (hm.rdS0 r31)) underlying27 type3 (show (0 + ((gt x0 k9).Values).length) * 8 ≤ 140737488355328 from by omega) (fun v36 => ?_)
   refine WM_form (n := 0) rfl ?_
   rintro A37 c38 rfl m39
   refine qn (pk []) ?_
   let K3 : List Value := [.int .i64 ((gt x0 k9).Id), .slice A37 ((gt x0 k9).Values).length c38]
   refine qt 17 13 16383 rfl (fun W hm => rv_build (cs := K3) rfl (by kernel_rfl)) ?_
   refine qo 17 14 32767 rfl ?_
   refine WM_build (cs := K3) underlying39 type29 rfl (by decide) (by decide) rfl (by kernel_rfl) (Wd_none rfl) (by decide) (fun p41 => ?_)
   refine qn (pk []) ?_
   refine qo 17 15 65535 rfl ?_
   refine ap1 tyRow 29 (.slice A11 d10.length c12) d10 (⟨(gt x0 k9).Id, (gt x0 k9).Values⟩ : DRow) [iOwn (tSl tInt 3) [.slice A37 ((gt x0 k9).Values).length c38] ((gt x0 k9).Values)] [] K3 (pk [0, 2, 1]) (fun _ _ hs => Els.single (tyRow_join (x := (⟨(gt x0 k9).Id, (gt x0 k9).Values⟩ : DRow)) hs)) underlying39 type29 (show (d10.length + 1) * 32 ≤ 140737488355328 from by omega) (fun v42 => ?_)
   refine WM_form (n := 0) rfl ?_
   rintro A43 c44 rfl m45
   refine qn (pk []) ?_
   refine qt 17 16 131071 rfl (fun W hm => rv_assign rfl) ?_
   refine QB_done (by kernel_rfl) ?_
   refine QM_block_normal (QM_then (CM_region (wm ?_)))
   refine wv (vadN k9 1 (by omega)) ?_
   refine wa (WM_nil ?_)
   have hn47 := rng_next (R := (List DRow)) (body := F1) (k := k9) (s := d10) (s' := (d10 ++ [(⟨(gt x0 k9).Id, (gt x0 k9).Values⟩ : DRow)])) (show k9 < x0.length from by omega) (cond_t g33 (rfl)) hF14
   exact QM_round (k9 + 1, (d10 ++ [(⟨(gt x0 k9).Id, (gt x0 k9).Values⟩ : DRow)]), (A43, c44)) sl4 (fun W hm => hm) ⟨(by omega), hn47, (show (d10 ++ [(⟨(gt x0 k9).Id, (gt x0 k9).Values⟩ : DRow)]).length ≤ 0 + (k9 + 1) from by first | omega | (simp only [List.length_append, List.length_cons, List.length_nil] at *; omega))⟩ (rl (by omega))
  ·
   refine CM_condF rfl g33 ?_
   refine CM_skip (QM_block_normal (QM_then (CM_region (wm ?_))))
   refine wv (vadN k9 1 (by omega)) ?_
   refine wa (WM_nil ?_)
   have hn48 := rng_next (R := (List DRow)) (body := F1) (k := k9) (s := d10) (s' := d10) (show k9 < x0.length from by omega) (cond_f g33 (rfl)) hF14
   exact QM_round (k9 + 1, d10, (A11, c12)) sl4 (fun W hm => hm) ⟨(by omega), hn48, (show d10.length ≤ 0 + (k9 + 1) from by first | omega | (simp only [List.length_append, List.length_cons, List.length_nil] at *; omega))⟩ (rl (by omega))
 ·have g18 := dlF hl17
  refine CM_condF rfl g18 ?_
  refine CM_exit (QM_then_exit (QM_then_exit ?_))
  have hE49 : R2 (x0.length - 0) 0 [] = Sum.inr d10 := rng_end hl17 hF14
  refine QM_block_hit (QM_then (sr (wm (wa (nt' (CM_ret ?_))))))
  have he50 := (show spec_l7Rows_m x0 x1 = d10 from fin_inr hE49 (rfl))
  refine QM_r1 rfl (RR_tmp rfl) (fun W hm => ⟨.slice A11 d10.length c12, ?_, ?_⟩)
  ·first | rw [he50] | rfl
  ·rw [he50]; exact hm

def spec_l3LessInts_b1 (x0 : (List Int)) (x1 : (List Int)) (k11 : Nat) : Bool ⊕ ((Unit) ⊕ (Unit)) :=
 cond (decide (((k11 : Nat) : Int) < ((x1.length : Nat) : Int))) (cond ((gt x0 k11) != (gt x1 k11)) (Sum.inl (decide ((gt x0 k11) < (gt x1 k11)))) (Sum.inr (Sum.inr ()))) (Sum.inr (Sum.inl ()))
def spec_l3LessInts_m (x0 : (List Int)) (x1 : (List Int)) : Bool :=
 Sum.elim id (fun (s : Unit) => (decide (((x0.length : Nat) : Int) < ((x1.length : Nat) : Int)))) (rngb (R := Bool) (fun k (_ : Unit) => spec_l3LessInts_b1 x0 x1 k) (x0.length - 0) 0 ())
theorem cb87 : Cb Try.prog 87 := ⟨f87, _, func87, rfl, by decide⟩
theorem spec_l3LessInts_c (w : World) (z0 : Value) (x0 : (List Int)) (z1 : Value) (x1 : (List Int)) (r_0 : rdS tInt w w.heap.size z0 x0) (r_1 : rdS tInt w w.heap.size z1 x1) :
  Calls Try.prog 87 #[z0, z1] w fun e w' => e = .returned (.bool (spec_l3LessInts_m x0 x1)) ∧ Below w.heap.size w w' := by
 obtain ⟨m1, A2, c3, rfl, q4, r5⟩ := rdS_op r_0
 obtain ⟨m6, A7, c8, rfl, q9, r10⟩ := rdS_op r_1
 refine ce2 (L := [(0, .slice A2 x0.length c3), (1, .slice A7 x1.length c8)]) (N := 41) func87 ?_
 refine sr (wa (nt' (CM_seq (sr (wa (nt' ?_))))))
 let F1 := fun k (_ : Unit) => spec_l3LessInts_b1 x0 x1 k
 let R2 := rngb (R := Bool) F1
 refine CM_cut (σ := (Unit) × (Unit)) (fun s => [(0, .slice A2 x0.length c3), (1, .slice A7 x1.length c8)]) (fun s => []) (fun s => R2 (x0.length - 0) 0 () = Sum.inr s.1) ?_ ?_
 ·
  refine CM_block ?_
  refine CM_loop (σ := Nat × (Unit) × (Unit)) (fun s => [(0, .slice A2 x0.length c3), (1, .slice A7 x1.length c8), (5, .int .i64 ((s.1 : Nat) : Int))]) (fun s => []) (fun s => s.1 ≤ x0.length ∧ R2 (x0.length - s.1) s.1 s.2.1 = R2 (x0.length - 0) 0 ()) (fun s => x0.length - s.1) (0, (), ()) sl3 (fun W hm => hm) ⟨(by omega), rfl⟩ ?_
  rintro ⟨k11, ⟨⟩, ⟨⟩⟩ H14
  obtain ⟨hk12, hF13⟩ : k11 ≤ x0.length ∧ R2 (x0.length - k11) k11 () = R2 (x0.length - 0) 0 () := H14
  show CM Try.prog 41 _ _ _ _ [(0, .slice A2 x0.length c3), (1, .slice A7 x1.length c8), (5, .int .i64 ((k11 : Nat) : Int))] []
  refine CM_seq (sr (wm (wm ?_)))
  refine wv (vlen underlying27) ?_
  refine wv vlss ?_
  refine wm ?_
  by_cases hl15 : k11 < x0.length
  ·have g16 := dlT hl15
   refine wg vmv g16 ?_
   refine wg vmv g16 ?_
   refine wg (vlen underlying27) g16 ?_
   refine wg vlss g16 ?_
   refine wv (vpT g16) ?_
   refine nt' ?_
   by_cases h17 : ((k11 : Nat) : Int) < ((x1.length : Nat) : Int)
   ·have g18 := decide_eq_true h17
    refine CM_condT rfl g18 ?_
    refine CM_skip (QM_then (CM_seq (CM_block (CM_seq ?_))))
    refine CM_regionD (by kernel_rfl) (by kernel_rfl) ?_
    refine qm (qm ?_)
    obtain ⟨a19, rfl, hb20, he21⟩ := q4 (by omega)
    refine qv (vix 1 k11 underlying27 type3) ?_
    refine qv (fun W hm => rv_load underlying3 rfl rfl ((hm.cell0 (show (a19.add (k11 * 1)).block < w.heap.size from by rw [add_block]; exact hb20.1)).trans (rdS_int he21 k11 (by omega)))) ?_
    refine qm (qm ?_)
    obtain ⟨a22, rfl, hb23, he24⟩ := q9 (by omega)
    refine qv (vix 1 k11 underlying27 type3) ?_
    refine qv (fun W hm => rv_load underlying3 rfl rfl ((hm.cell0 (show (a22.add (k11 * 1)).block < w.heap.size from by rw [add_block]; exact hb23.1)).trans (rdS_int he24 k11 (by omega)))) ?_
    refine qv vneq ?_
    refine nq' ?_
    by_cases h25 : (gt x0 k11) = (gt x1 k11)
    ·have g26 : ((gt x0 k11) != (gt x1 k11)) = false := by rw [h25]; exact bne_self_eq_false _
     refine CM_condF rfl g26 ?_
     refine CM_skip (QM_block_normal (QM_then (CM_region (wm ?_))))
     refine wv (vadN k11 1 (by omega)) ?_
     refine wa (WM_nil ?_)
     have hn27 := rngb_next (R := Bool) (body := F1) (k := k11) (s := ()) (s' := ()) (show k11 < x0.length from by omega) (cond_t g18 (cond_f g26 (rfl))) hF13
     exact QM_round (k11 + 1, (), ()) sl3 (fun W hm => hm) ⟨(by omega), hn27⟩ (rl (by omega))
    ·have g26 : ((gt x0 k11) != (gt x1 k11)) = true := bne_iff_ne.2 h25
     refine CM_condT rfl g26 ?_
     refine CM_seq ?_
     refine CM_regionD (by kernel_rfl) (by kernel_rfl) ?_
     refine qm (qm ?_)
     refine qv (vix 1 k11 underlying27 type3) ?_
     refine qv (fun W hm => rv_load underlying3 rfl rfl ((hm.cell0 (show (a19.add (k11 * 1)).block < w.heap.size from by rw [add_block]; exact hb20.1)).trans (rdS_int he21 k11 (by omega)))) ?_
     refine qm (qm ?_)
     refine qv (vix 1 k11 underlying27 type3) ?_
     refine qv (fun W hm => rv_load underlying3 rfl rfl ((hm.cell0 (show (a22.add (k11 * 1)).block < w.heap.size from by rw [add_block]; exact hb23.1)).trans (rdS_int he24 k11 (by omega)))) ?_
     refine qv vlss ?_
     refine qv (fun W hm => rv_assign rfl) ?_
     refine nq' (CM_ret (QM_block_ret (QM_then_ret (QM_then_ret (QM_block_ret (QM_cut_ret (QM_then_ret ?_)))))))
     exact rtb (h := fin_inl (rngb_ret (body := F1) (k := k11) (s := ()) (show k11 < x0.length from by omega) (cond_t g18 (cond_t g26 (rfl))) hF13) rfl)
   ·have g18 := decide_eq_false h17
    refine CM_condF rfl g18 ?_
    refine CM_exit (QM_then_exit (QM_then_exit (QM_block_hit ?_)))
    have hE28 := rngb_brk (R := Bool) (body := F1) (k := k11) (s := ()) (s' := ()) (show k11 < x0.length from by omega) (cond_f g18 (rfl)) hF13
    exact QM_cut_normal ((), ()) sl2 (fun W hm => hm) hE28
  ·have g16 := dlF hl15
   refine ws g16 ?_
   refine ws g16 ?_
   refine ws g16 ?_
   refine ws g16 ?_
   refine wv (vpF g16) ?_
   refine nt' ?_
   refine CM_condF rfl rfl ?_
   refine CM_exit (QM_then_exit (QM_then_exit (QM_block_hit ?_)))
   have hE29 : R2 (x0.length - 0) 0 () = Sum.inr () := rngb_end hl15 hF13
   exact QM_cut_normal ((), ()) sl2 (fun W hm => hm) hE29
 ·
  rintro ⟨⟨⟩, ⟨⟩⟩ H31
  have hE30 : R2 (x0.length - 0) 0 () = Sum.inr () := H31
  show QM 41 _ _ _ .normal [(0, .slice A2 x0.length c3), (1, .slice A7 x1.length c8)] []
  refine QM_then (sr (wm ?_))
  refine wv (vlen underlying27) ?_
  refine wm ?_
  refine wv (vlen underlying27) ?_
  refine wv vlss ?_
  refine wa (nt' (CM_ret ?_))
  exact rtb (h := fin_inr hE30 (rfl))

def spec_l3Less_m (x0 : DRow) (x1 : DRow) : Bool :=
 cond (x0.Id != x1.Id) (decide (x0.Id < x1.Id)) (spec_l3LessInts_m x0.Values x1.Values)
theorem cb75 : Cb Try.prog 75 := ⟨f75, _, func75, rfl, by decide⟩
theorem spec_l3Less_c (w : World) (z0 : List Value) (x0 : DRow) (z1 : List Value) (x1 : DRow) (r_0 : tyRow.rd w w.heap.size z0 x0) (r_1 : tyRow.rd w w.heap.size z1 x1) :
  Calls Try.prog 75 #[.agg z0.toArray, .agg z1.toArray] w fun e w' => e = .returned (.bool (spec_l3Less_m x0 x1)) ∧ Below w.heap.size w w' := by
 obtain ⟨v1, rfl, r2⟩ := tyRow_rd r_0
 obtain ⟨m3, A4, c5, rfl, q6, r7⟩ := rdS_op r2
 obtain ⟨v8, rfl, r9⟩ := tyRow_rd r_1
 obtain ⟨m10, A11, c12, rfl, q13, r14⟩ := rdS_op r9
 refine ce2 (L := [(0, .agg #[.int .i64 x0.Id, .slice A4 x0.Values.length c5]), (1, .agg #[.int .i64 x1.Id, .slice A11 x1.Values.length c12])]) (N := 20) func75 ?_
 refine sr ?_
 refine WM_box rfl (Wd_none rfl) (by decide) (fun p15 => ?_)
 refine WM_box rfl (Wd_none rfl) (by decide) (fun p16 => ?_)
 refine wa (nt' (CM_seq (sr ?_)))
 refine wv (vf underlying29 rfl type3) ?_
 refine wv (vl 1 0 underlying3) ?_
 refine wv (vf underlying29 rfl type3) ?_
 refine wv (vl 0 0 underlying3) ?_
 refine wv vneq ?_
 refine nt' ?_
 by_cases h17 : x0.Id = x1.Id
 ·have g18 : (x0.Id != x1.Id) = false := by rw [h17]; exact bne_self_eq_false _
  refine CM_condF rfl g18 ?_
  refine CM_skip (QM_then (sr ?_))
  refine wv (vf underlying29 rfl type27) ?_
  refine wv (vl 1 1 underlying27) ?_
  refine wv (vf underlying29 rfl type27) ?_
  refine wv (vl 0 1 underlying27) ?_
  refine wcv (cl_fn cb87 rfl) (fun W hm => spec_l3LessInts_c W _ x0.Values _ x1.Values (hm.rdS0 r7) (hm.rdS0 r14)) ?_
  refine wa (nt' (CM_ret ?_))
  exact rtb (h := cond_f g18 (rfl))
 ·have g18 : (x0.Id != x1.Id) = true := bne_iff_ne.2 h17
  refine CM_condT rfl g18 ?_
  refine sr ?_
  refine wv (vf underlying29 rfl type3) ?_
  refine wv (vl 1 0 underlying3) ?_
  refine wv (vf underlying29 rfl type3) ?_
  refine wv (vl 0 0 underlying3) ?_
  refine wv vlss ?_
  refine wa (nt' (CM_ret (QM_then_ret ?_)))
  exact rtb (h := cond_t g18 (rfl))

def spec_l3Copy_m (x0 : DRow) : DRow :=
 x0
theorem cb76 : Cb Try.prog 76 := ⟨f76, _, func76, rfl, by decide⟩
theorem spec_l3Copy_c (w : World) (z0 : List Value) (x0 : DRow) (r_0 : tyRow.rd w w.heap.size z0 x0) (s_0 : smRow 68719476736 x0) :
  Calls Try.prog 76 #[.agg z0.toArray] w fun e w' => ∃ v : List Value, e = .returned (.agg v.toArray) ∧ Mem w.heap.size w [iOwn tyRow v (spec_l3Copy_m x0)] w' := by
 obtain ⟨v1, rfl, r2⟩ := tyRow_rd r_0
 obtain ⟨m3, A4, c5, rfl, q6, r7⟩ := rdS_op r2
 have l8 : x0.Values.length ≤ 68719476736 := s_0
 refine ce1 (L := [(0, .agg #[.int .i64 x0.Id, .slice A4 x0.Values.length c5])]) (N := 10) func76 ?_
 refine sr ?_
 refine WM_box rfl (Wd_none rfl) (by decide) (fun p9 => ?_)
 refine WM_alloc type29 rfl (Wd_none rfl) (by decide) (fun p10 => ?_)
 refine nt' (CM_seq ?_)
 let I1 : It := iBox p9 29 [.int .i64 x0.Id, .slice A4 x0.Values.length c5]
 refine rd2 8 [7] (s := [I1]) (s2 := [iBox p10 29 [.int .i64 0, .slice none 0 0], I1]) (pk [1]) (fun W hm => hm) ?_
 refine qtD 8 0 1 rfl (vf underlying29 rfl type3) ?_
 refine qtD 8 1 3 rfl (vl 1 0 underlying3) ?_
 refine qtD 8 3 11 rfl (vf underlying29 rfl type27) ?_
 refine qtD 8 4 27 rfl (vl 1 1 underlying27) ?_
 refine qoD 8 2 31 rfl ?_
 refine WM_build0 (E := tInt) underlying27 type3 (Wd_none rfl) (by decide) (fun p11 => ?_)
 refine qnD (pk [2]) (pk [1, 2]) ?_
 refine qoD 8 5 63 rfl ?_
 refine apR tInt tInt 3 (.slice (some ⟨p11, 0, none⟩) 0 0) [] x0.Values [iBox p10 29 [.int .i64 0, .slice none 0 0], I1] (fun W hm => hm) (fun W hm => src_flat flat_int (hm.rdS0 r7)) underlying27 type3 (show (0 + x0.Values.length) * 8 ≤ 140737488355328 from by omega) (fun v13 => ?_)
 refine WM_form (n := 0) rfl ?_
 rintro A14 c15 rfl m16
 refine qnD (pk [2]) (pk [1, 2]) ?_
 refine qtD 8 6 127 rfl (fun W hm => rv_build (cs := [.int .i64 x0.Id, .slice A14 x0.Values.length c15]) rfl (by kernel_rfl)) ?_
 refine qoD 8 7 255 rfl ?_
 let I2 : It := iOwn (tSl tInt 3) [.slice A14 x0.Values.length c15] x0.Values
 refine sb 0 [.int .i64 x0.Id, .slice A14 x0.Values.length c15] [I2, I1] (pk [1, 0, 2]) type29 ?_
 refine qxD (pk [2]) ?_
 refine QB_done (by kernel_rfl) ?_
 refine QM_then (CM_ret ?_)
 have he18 := (show spec_l3Copy_m x0 = x0 from rfl)
 refine QM_r1 rfl (RR_cell (n := 0) rfl rfl underlying29 type29 rfl) (fun W hm => ⟨[.int .i64 x0.Id, .slice A14 x0.Values.length c15], ?_, ?_⟩)
 ·first | rw [he18] | rfl
 ·rw [he18]; exact Mem.join (is := [I2]) (js := []) (fun _ _ hs => tyRow_join (x := x0) hs) (hm.pick [1] (by decide))
theorem spec_l3Copy_eq (x0 : DRow) : spec_l3Copy_m x0 = x0 := by
 rfl
theorem spec_l3Copy_c2 (w : World) (z0 : List Value) (x0 : DRow) (r_0 : tyRow.rd w w.heap.size z0 x0) (s_0 : smRow 68719476736 x0) :
  Calls Try.prog 76 #[.agg z0.toArray] w fun e w' => ∃ v : List Value, e = .returned (.agg v.toArray) ∧ Mem w.heap.size w [iOwn tyRow v x0] w' := by
 have h := spec_l3Copy_c w z0 x0 r_0 s_0
 rw [spec_l3Copy_eq] at h
 exact h

def spec_SortRows_b2 (x0 : (List DRow)) (k9 : Nat) (d10 : (List DRow)) (k19 : Nat) (s20 : Nat) : (List DRow) ⊕ ((Nat) ⊕ (Nat)) :=
 cond (decide (0 < ((s20 : Nat) : Int))) (cond (spec_l3Less_m (gt x0 k9) (gt d10 (s20 - 1))) (Sum.inr (Sum.inr (s20 - 1))) (Sum.inr (Sum.inl s20))) (Sum.inr (Sum.inl s20))
def spec_SortRows_b1 (x0 : (List DRow)) (k9 : Nat) (d10 : (List DRow)) : (List DRow) ⊕ ((List DRow)) :=
 Sum.elim Sum.inl (fun (s : Nat) => Sum.inr ((List.take s d10 ++ [(gt x0 k9)]) ++ List.drop s d10)) (rngb (R := (List DRow)) (fun k (s : Nat) => spec_SortRows_b2 x0 k9 d10 k s) (d10.length + 1 - 0) 0 d10.length)
def spec_SortRows_m (x0 : (List DRow)) : (List DRow) :=
 Sum.elim id (fun (s : (List DRow)) => s) (rng (R := (List DRow)) (fun k (s : (List DRow)) => spec_SortRows_b1 x0 k s) (x0.length - 0) 0 [])
theorem cb56 : Cb Try.prog 56 := ⟨f56, _, func56, rfl, by decide⟩
theorem spec_SortRows_c (w : World) (z0 : Value) (x0 : (List DRow)) (r_0 : rdS tyRow w w.heap.size z0 x0) (s_0 : (x0.length ≤ 68719476736 ∧ ∀ y ∈ x0, smRow 68719476736 y)) :
  Calls Try.prog 56 #[z0] w fun e w' => ∃ v : Value, e = .returned (v) ∧ Mem w.heap.size w [iOwn (tSl tyRow 29) [v] (spec_SortRows_m x0)] w' := by
 obtain ⟨m1, A2, c3, rfl, q4, r5⟩ := rdS_op r_0
 have l6 : x0.length ≤ 68719476736 := s_0.1
 refine ce1 (L := [(0, .slice A2 x0.length c3)]) (N := 51) func56 ?_
 refine sr (wa (nt' (sr ?_)))
 refine WM_build0 (E := tyRow) underlying39 type29 (Wd_none rfl) (by decide) (fun p7 => ?_)
 refine wa (nt' (CM_seq (sr (wa (nt' (CM_block ?_))))))
 let F1 := fun k (s : (List DRow)) => spec_SortRows_b1 x0 k s
 let R3 := rng (R := (List DRow)) F1
 refine CM_loop (σ := Nat × ((List DRow)) × (Option Addr × Nat)) (fun s => [(0, .slice A2 x0.length c3), (3, .slice s.2.2.1 s.2.1.length s.2.2.2), (4, .int .i64 ((s.1 : Nat) : Int))]) (fun s => [iOwn (tSl tyRow 29) [.slice s.2.2.1 s.2.1.length s.2.2.2] s.2.1]) (fun s => s.1 ≤ x0.length ∧ R3 (x0.length - s.1) s.1 s.2.1 = R3 (x0.length - 0) 0 [] ∧ s.2.1.length ≤ 0 + s.1) (fun s => x0.length - s.1) (0, [], ((some ⟨p7, 0, none⟩), 0)) sl3 (fun W hm => hm) ⟨(by omega), rfl, Nat.le_refl _⟩ ?_
 rintro ⟨k9, d10, ⟨A11, c12⟩⟩ H15
 obtain ⟨hk13, hF14, hi16⟩ : k9 ≤ x0.length ∧ R3 (x0.length - k9) k9 d10 = R3 (x0.length - 0) 0 [] ∧ d10.length ≤ 0 + k9 := H15
 let I7 : It := iOwn (tSl tyRow 29) [.slice A11 d10.length c12] d10
 show CM Try.prog 51 _ _ _ _ [(0, .slice A2 x0.length c3), (3, .slice A11 d10.length c12), (4, .int .i64 ((k9 : Nat) : Int))] [I7]
 refine CM_seq (sr (wm (wm ?_)))
 refine wv (vlen underlying39) ?_
 refine wv vlss ?_
 refine nt' ?_
 by_cases hl17 : k9 < x0.length
 ·have g18 := dlT hl17
  refine CM_condT rfl g18 ?_
  refine CM_skip (QM_then (CM_seq (CM_block (sr (wm ?_)))))
  refine wv (vlen underlying39) ?_
  refine wa (nt' (CM_seq ?_))
  let F2 := fun k (s : Nat) => spec_SortRows_b2 x0 k9 d10 k s
  let R4 := rngb (R := (List DRow)) F2
  refine CM_cut (σ := (Nat) × (Unit)) (fun s => [(0, .slice A2 x0.length c3), (3, .slice A11 d10.length c12), (4, .int .i64 ((k9 : Nat) : Int)), (5, .int .i64 ((s.1 : Nat) : Int))]) (fun s => [I7]) (fun s => R4 (d10.length + 1 - 0) 0 d10.length = Sum.inr s.1 ∧ s.1 ≤ d10.length) ?_ ?_
  ·
   refine CM_block ?_
   refine CM_loop (σ := Nat × (Nat) × (Unit)) (fun s => [(0, .slice A2 x0.length c3), (3, .slice A11 d10.length c12), (4, .int .i64 ((k9 : Nat) : Int)), (5, .int .i64 ((s.2.1 : Nat) : Int))]) (fun s => [I7]) (fun s => s.1 + (s.2.1) + 1 ≤ d10.length + 1 ∧ R4 (d10.length + 1 - s.1) s.1 s.2.1 = R4 (d10.length + 1 - 0) 0 d10.length ∧ s.2.1 ≤ d10.length) (fun s => d10.length + 1 - s.1) (0, d10.length, ()) sl4 (fun W hm => hm) ⟨(show 0 + (d10.length) + 1 ≤ d10.length + 1 from by omega), rfl, (show d10.length ≤ d10.length from by omega)⟩ ?_
   rintro ⟨k19, s20, ⟨⟩⟩ H23
   obtain ⟨hk21, hF22, hi24⟩ : k19 + (s20) + 1 ≤ d10.length + 1 ∧ R4 (d10.length + 1 - k19) k19 s20 = R4 (d10.length + 1 - 0) 0 d10.length ∧ s20 ≤ d10.length := H23
   show CM Try.prog 51 _ _ _ _ [(0, .slice A2 x0.length c3), (3, .slice A11 d10.length c12), (4, .int .i64 ((k9 : Nat) : Int)), (5, .int .i64 ((s20 : Nat) : Int))] [I7]
   refine CM_seq (CM_seq ?_)
   by_cases h25 : 0 < ((s20 : Nat) : Int)
   ·have g26 := decide_eq_true h25
    refine CM_formO (n := 0) rfl (by omega) ?_
    rintro g27 rfl
    refine CM_focus (E := tyRow) (e := 29) (A := (some ⟨g27, 0, none⟩)) (n := d10.length) (c := c12) (xs := d10) (k := (s20 - 1)) (js := []) (by omega) (fun W hm => hm) (fun ck28 => ?_)
    refine CM_split (γ := Value) (js := fun g => [iOwn (tSl tInt 3) [g] ((gt d10 (s20 - 1)).Values)]) (C := fun g => ck28 = [.int .i64 ((gt d10 (s20 - 1)).Id), g]) (fun _ _ h => tyRow_split h) ?_
    rintro v29 rfl
    refine CM_form (n := 0) rfl ?_
    rintro A30 c31 rfl m32
    refine CM_regionD (by kernel_rfl) (by kernel_rfl) ?_
    refine qm ?_
    refine qv (fun W hm => rv_gtr rfl rfl) ?_
    refine qm ?_
    refine qg vmv g26 ?_
    refine qg vmv g26 ?_
    obtain ⟨a34, rfl, hb35, he36⟩ := q4 (by omega)
    refine qg (vix 2 k9 underlying39 type29) g26 ?_
    obtain ⟨_, e40, hc37⟩ := he36 k9 _ (gt_some (show k9 < x0.length from by omega))
    obtain ⟨v38, rfl, r39⟩ := tyRow_rd e40
    have l41 : ((gt x0 k9).Values).length ≤ 68719476736 := (s_0.2 _ (gt_mem (show k9 < x0.length from by omega)))
    obtain ⟨m42, A43, c44, rfl, q45, r46⟩ := rdS_op r39
    refine qg (fun W hm => rv_loadN (cs := [.int .i64 ((gt x0 k9).Id), .slice A43 ((gt x0 k9).Values).length c44]) underlying29 type29 rfl rfl (hm.elCells (show (a34.add (k9 * 2)).block < w.heap.size from by rw [add_block]; exact hb35.1) hc37)) g26 ?_
    refine qg vmv g26 ?_
    refine qg vmv g26 ?_
    refine qg (fun W hm => rv_subN (p := s20) (q := 1) rfl rfl (by omega) (by omega)) g26 ?_
    refine qg (fun W hm => rv_index (sz := 2) (k := s20 - 1) underlying39 type29 rfl rfl rfl (by omega)) g26 ?_
    let K5 : List Value := [.int .i64 ((gt d10 (s20 - 1)).Id), .slice A30 ((gt d10 (s20 - 1)).Values).length c31]
    refine qg (fun W hm => rv_loadN (cs := K5) underlying29 type29 rfl rfl (hm.focCells (i := 1) rfl rfl)) g26 ?_
    refine QR_callV (cl_fn cb75 rfl) (fun W hm => spec_l3Less_c W _ (gt x0 k9) _ (gt d10 (s20 - 1)) (tyRow_mk (x := (gt x0 k9)) (hm.rdS0 r46)) (tyRow_mk (x := (gt d10 (s20 - 1))) (hm.rdSI (n := 0) rfl))) (Wd_some rfl rfl rfl (bw g26 rfl)) (by decide) ?_
    refine qv (vpT g26) ?_
    refine nq' ?_
    rcases Bool.eq_false_or_eq_true (spec_l3Less_m (gt x0 k9) (gt d10 (s20 - 1))) with g48 | g48
    ·
     refine CM_condT rfl g48 ?_
     refine CM_skip (QM_then (CM_block (CM_region (wm ?_))))
     refine wv (fun W hm => rv_subN (p := s20) (q := 1) rfl rfl (by omega) (by omega)) ?_
     refine wa (WM_nil (QM_block_normal ?_))
     refine QM_items (fun W hm => Mem.unfocus0 (Mem.join (is := [iOwn (tSl tInt 3) [.slice A30 ((gt d10 (s20 - 1)).Values).length c31] ((gt d10 (s20 - 1)).Values)]) (js := (iFoc tyRow 29 (some ⟨g27, 0, none⟩) d10.length c12 d10 (s20 - 1) K5 :: [])) (fun _ _ hs => tyRow_join (x := (gt d10 (s20 - 1))) hs) hm)) ?_
     have hn49 := rngb_next (R := (List DRow)) (body := F2) (k := k19) (s := s20) (s' := s20 - 1) (show k19 < d10.length + 1 from by omega) (cond_t g26 (cond_t g48 (rfl))) hF22
     exact QM_round (k19 + 1, s20 - 1, ()) sl4 (fun W hm => hm) ⟨(show (k19 + 1) + ((s20 - 1)) + 1 ≤ d10.length + 1 from by omega), hn49, (show (s20 - 1) ≤ d10.length from by first | omega | (simp only [List.length_append, List.length_cons, List.length_nil] at *; omega))⟩ (show d10.length + 1 - (k19 + 1) < d10.length + 1 - k19 from by omega)
    ·
     refine CM_condF rfl g48 ?_
     refine CM_exit (QM_then_exit (QM_then_exit (QM_block_hit ?_)))
     refine QM_items (fun W hm => Mem.unfocus0 (Mem.join (is := [iOwn (tSl tInt 3) [.slice A30 ((gt d10 (s20 - 1)).Values).length c31] ((gt d10 (s20 - 1)).Values)]) (js := (iFoc tyRow 29 (some ⟨g27, 0, none⟩) d10.length c12 d10 (s20 - 1) K5 :: [])) (fun _ _ hs => tyRow_join (x := (gt d10 (s20 - 1))) hs) hm)) ?_
     have hE50 := rngb_brk (R := (List DRow)) (body := F2) (k := k19) (s := s20) (s' := s20) (show k19 < d10.length + 1 from by omega) (cond_t g26 (cond_f g48 (rfl))) hF22
     exact QM_cut_normal (s20, ()) sl4 (fun W hm => hm) ⟨hE50, (show s20 ≤ d10.length from by first | omega | (simp only [List.length_append, List.length_cons, List.length_nil] at *; omega))⟩
   ·have g26 := decide_eq_false h25
    refine CM_regionD (by kernel_rfl) (by kernel_rfl) ?_
    refine qm ?_
    refine qv (fun W hm => rv_gtr rfl rfl) ?_
    refine qm ?_
    refine qs g26 ?_
    refine qs g26 ?_
    refine qs g26 ?_
    refine qs g26 ?_
    refine qs g26 ?_
    refine qs g26 ?_
    refine qs g26 ?_
    refine qs g26 ?_
    refine qs g26 ?_
    refine qs g26 ?_
    refine qv (vpF g26) ?_
    refine nq' ?_
    refine CM_condF rfl rfl ?_
    refine CM_exit (QM_then_exit (QM_then_exit (QM_block_hit ?_)))
    have hE51 := rngb_brk (R := (List DRow)) (body := F2) (k := k19) (s := s20) (s' := s20) (show k19 < d10.length + 1 from by omega) (cond_f g26 (rfl)) hF22
    exact QM_cut_normal (s20, ()) sl4 (fun W hm => hm) ⟨hE51, (show s20 ≤ d10.length from by first | omega | (simp only [List.length_append, List.length_cons, List.length_nil] at *; omega))⟩
  ·
   rintro ⟨s20, ⟨⟩⟩ H53
   obtain ⟨hE52, hx54⟩ : R4 (d10.length + 1 - 0) 0 d10.length = Sum.inr s20 ∧ s20 ≤ d10.length := H53
   show QM 51 _ _ _ .normal [(0, .slice A2 x0.length c3), (3, .slice A11 d10.length c12), (4, .int .i64 ((k9 : Nat) : Int)), (5, .int .i64 ((s20 : Nat) : Int))] [I7]
   refine QM_then (sr ?_)
   refine WM_build0 (E := tyRow) underlying39 type29 (Wd_none rfl) (by decide) (fun p55 => ?_)
   refine wm (wm ?_)
   refine WM_toCk (E := tyRow) (e := 29) (v := .slice A11 d10.length c12) (xs := d10) (js := [iOwn (tSl tyRow 29) [.slice (some ⟨p55, 0, none⟩) 0 0] []]) (pk [1, 0]) (fun ps57 hps58 => ?_)
   have hl59 : ps57.length = d10.length := by rw [← hps58, List.length_map]
   refine wv (fun W hm => rv_sliceHi (k := s20) underlying39 type29 rfl rfl (by have := rdS_cap (hm.rdSI (n := 0) rfl); omega)) ?_
   refine WM_items (fun W hm => Mem.emptyAs (E := tyRow) (F := (tCk (ckA tyRow))) rfl (hm.pick [2, 0, 1] (by decide))) ?_
   refine apR (tCk (ckA tyRow)) (tCk (ckA tyRow)) 29 (.slice (some ⟨p55, 0, none⟩) 0 0) [] (List.take s20 ps57) [iOwn (tSl (tCk (ckA tyRow)) 29) [.slice A11 d10.length c12] ps57, iCk tyRow ps57] (fun W hm => hm) (fun W hm => src_flat flat_ck (rdS_take (k := s20) (by omega) (hm.rdSI (n := 1) rfl))) underlying39 type29 (show ([].length + (List.take s20 ps57).length) * 32 ≤ 140737488355328 from by first | omega | (simp only [List.length_append, List.length_cons, List.length_nil, List.length_take, List.length_drop] at *; omega)) (fun v60 => ?_)
   refine WM_form (n := 0) rfl ?_
   rintro A61 c62 rfl m63
   refine wa (nt' (sr (wm (wm (wm ?_)))))
   obtain ⟨a65, rfl, hb66, he67⟩ := q4 (by omega)
   refine wv (vix 2 k9 underlying39 type29) ?_
   obtain ⟨_, e71, hc68⟩ := he67 k9 _ (gt_some (show k9 < x0.length from by omega))
   obtain ⟨v69, rfl, r70⟩ := tyRow_rd e71
   have l72 : ((gt x0 k9).Values).length ≤ 68719476736 := (s_0.2 _ (gt_mem (show k9 < x0.length from by omega)))
   obtain ⟨m73, A74, c75, rfl, q76, r77⟩ := rdS_op r70
   refine wv (fun W hm => rv_loadN (cs := [.int .i64 ((gt x0 k9).Id), .slice A74 ((gt x0 k9).Values).length c75]) underlying29 type29 rfl rfl (hm.elCells (show (a65.add (k9 * 2)).block < w.heap.size from by rw [add_block]; exact hb66.1) hc68)) ?_
   refine wcs tyRow (gt x0 k9) (cl_fn cb76 rfl) (fun W hm => spec_l3Copy_c2 W _ (gt x0 k9) (tyRow_mk (x := (gt x0 k9)) (hm.rdS0 r77)) (s_0.2 _ (gt_mem (show k9 < x0.length from by omega)))) (fun z78 => ?_)
   refine tyRow_sp ?_
   rintro v79 rfl
   refine WM_form (n := 0) rfl ?_
   rintro A80 c81 rfl m82
   let K6 : List Value := [.int .i64 ((gt x0 k9).Id), .slice A80 ((gt x0 k9).Values).length c81]
   refine WM_build (cs := K6) underlying39 type29 rfl (by decide) (by decide) rfl (by kernel_rfl) (Wd_none rfl) (by decide) (fun p84 => ?_)
   let I8 : It := iOwn (tSl tInt 3) [.slice A80 ((gt x0 k9).Values).length c81] ((gt x0 k9).Values)
   refine ap1 (tCk (ckA tyRow)) 29 (.slice A61 (List.take s20 ps57).length c62) (List.take s20 ps57) ((K6, (gt x0 k9)) : List Value × DRow) [] [I8, iOwn (tSl (tCk (ckA tyRow)) 29) [.slice A11 d10.length c12] ps57, iCk tyRow ps57] K6 (pk [0, 2, 1, 3, 4]) (fun _ _ hs => by cases (Sep.nil hs); exact (els_ck1 rfl rfl)) underlying39 type29 (show ((List.take s20 ps57).length + 1) * 32 ≤ 140737488355328 from by first | omega | (simp only [List.length_append, List.length_cons, List.length_nil, List.length_take, List.length_drop] at *; omega)) (fun v85 => ?_)
   refine WM_form (n := 0) rfl ?_
   rintro A86 c87 rfl m88
   refine wa (nt' (CM_region (wm (wm (wm ?_)))))
   refine wv (fun W hm => rv_sliceLo (k := s20) (s := 2) underlying39 type29 rfl rfl rfl (by omega)) ?_
   refine apR (tCk (ckA tyRow)) (tCk (ckA tyRow)) 29 (.slice A86 ((List.take s20 ps57) ++ [((K6, (gt x0 k9)) : List Value × DRow)]).length c87) ((List.take s20 ps57) ++ [((K6, (gt x0 k9)) : List Value × DRow)]) (List.drop s20 ps57) [I8, iOwn (tSl (tCk (ckA tyRow)) 29) [.slice A11 d10.length c12] ps57, iCk tyRow ps57] (fun W hm => hm) (fun W hm => src_flat flat_ck (rdS_drop (k := s20) (by omega) (hm.rdSI (n := 2) rfl))) underlying39 type29 (show (((List.take s20 ps57) ++ [((K6, (gt x0 k9)) : List Value × DRow)]).length + (List.drop s20 ps57).length) * 32 ≤ 140737488355328 from by first | omega | (simp only [List.length_append, List.length_cons, List.length_nil, List.length_take, List.length_drop] at *; omega)) (fun v90 => ?_)
   refine WM_form (n := 0) rfl ?_
   rintro A91 c92 rfl m93
   refine wa (WM_nil (QM_block_normal (QM_then (CM_region (wm ?_)))))
   refine wv (vadN k9 1 (by omega)) ?_
   refine wa (WM_nil ?_)
   refine QM_items (fun W hm => Mem.ckInsert hps58 (Mem.join (is := [I8]) (js := (iOwn (tSl (tCk (ckA tyRow)) 29) [.slice A91 (((List.take s20 ps57) ++ [((K6, (gt x0 k9)) : List Value × DRow)]) ++ (List.drop s20 ps57)).length c92] (((List.take s20 ps57) ++ [((K6, (gt x0 k9)) : List Value × DRow)]) ++ (List.drop s20 ps57)) :: iCk tyRow ps57 :: [iOwn (tSl (tCk (ckA tyRow)) 29) [.slice A11 d10.length c12] ps57])) (fun _ _ hs => tyRow_join (x := (gt x0 k9)) hs) (hm.pick [1, 0, 3, 2] (by decide)))) ?_
   have hl95 : (((List.take s20 ps57) ++ [((K6, (gt x0 k9)) : List Value × DRow)]) ++ (List.drop s20 ps57)).length = ((List.take s20 d10 ++ [(gt x0 k9)]) ++ List.drop s20 d10).length := by rw [← hps58]; simp only [List.length_append, List.length_take, List.length_drop, List.length_map, List.length_cons, List.length_nil]
   rw [hl95]
   have hn96 := rng_next (R := (List DRow)) (body := F1) (k := k9) (s := d10) (s' := ((List.take s20 d10 ++ [(gt x0 k9)]) ++ List.drop s20 d10)) (show k9 < x0.length from by omega) (fin_inr hE52 (rfl)) hF14
   exact QM_round (k9 + 1, ((List.take s20 d10 ++ [(gt x0 k9)]) ++ List.drop s20 d10), (A91, c92)) sl3 (pk [0]) ⟨(by omega), hn96, (show ((List.take s20 d10 ++ [(gt x0 k9)]) ++ List.drop s20 d10).length ≤ 0 + (k9 + 1) from by first | omega | (simp only [List.length_append, List.length_cons, List.length_nil, List.length_take, List.length_drop] at *; omega))⟩ (rl (by omega))
 ·have g18 := dlF hl17
  refine CM_condF rfl g18 ?_
  refine CM_exit (QM_then_exit (QM_then_exit ?_))
  have hE97 : R3 (x0.length - 0) 0 [] = Sum.inr d10 := rng_end hl17 hF14
  refine QM_block_hit (QM_then (sr (wm (wa (nt' (CM_ret ?_))))))
  have he98 := (show spec_SortRows_m x0 = d10 from fin_inr hE97 (rfl))
  refine QM_r1 rfl (RR_tmp rfl) (fun W hm => ⟨.slice A11 d10.length c12, ?_, ?_⟩)
  ·first | rw [he98] | rfl
  ·rw [he98]; exact hm

theorem spec_l7Rows_form (l : List DVersion) (t : Int) : spec_l7Rows_m l t = segR (fun v => spec_IsVisible_m v t) l := by
  unfold spec_l7Rows_m
  rw [rng_fold (xs := l) (f := fun d v => cond (spec_IsVisible_m v t) (d ++ [(⟨v.Id, v.Values⟩ : DRow)]) d) (b := fun k s => spec_l7Rows_b1 l t k s) (fun j s _ => by unfold spec_l7Rows_b1; cases spec_IsVisible_m (gt l j) t <;> rfl), foldl_filterMap]
  rfl
theorem l7All_sm {B : Nat} {x : DStore} (h : smStore B x) (hq : (x.Segments.map List.length).sum ≤ B) : (spec_l7All_m x).length ≤ B ∧ ∀ y ∈ spec_l7All_m x, smVersion B y := by
  rw [l7All_form, List.length_flatten]
  refine ⟨hq, fun y hy => ?_⟩
  obtain ⟨s, hs, hy⟩ := List.mem_flatten.1 hy
  exact (h.2 s hs).2 y hy
theorem l7Rows_sm {B : Nat} {l : List DVersion} (h : l.length ≤ B ∧ ∀ y ∈ l, smVersion B y) (t : Int) : (spec_l7Rows_m l t).length ≤ B ∧ ∀ y ∈ spec_l7Rows_m l t, smRow B y := by
  rw [spec_l7Rows_form]
  exact ⟨Nat.le_trans (segR_len _ _) h.1, segR_sm h.2⟩
def spec_RowsAt_m (x0 : DStore) (x1 : Int) : (List DRow) :=
 cond (spec_IsStore_m x0) (spec_SortRows_m (spec_l7Rows_m (spec_l7All_m x0) x1)) []
theorem cb15 : Cb Try.prog 15 := ⟨f15, _, func15, rfl, by decide⟩
theorem spec_RowsAt_c (w : World) (z0 : List Value) (x0 : DStore) (x1 : Int) (r_0 : tyStore.rd w w.heap.size z0 x0) (s_0 : smStore 68719476736 x0) :
  Calls Try.prog 15 #[.agg z0.toArray, .int .i64 x1] w fun e w' => ∃ v : Value, e = .returned (v) ∧ Mem w.heap.size w [iOwn (tSl tyRow 29) [v] (spec_RowsAt_m x0 x1)] w' := by
 obtain ⟨v1, rfl, r2⟩ := tyStore_rd r_0
 obtain ⟨m3, A4, c5, rfl, q6, r7⟩ := rdS_op r2
 have l8 : x0.Segments.length ≤ 68719476736 := s_0.1
 refine ce2 (L := [(0, .agg #[.slice A4 x0.Segments.length c5, .int .i64 x0.Now]), (1, .int .i64 x1)]) (N := 14) func15 ?_
 refine sr ?_
 refine WM_box rfl (Wd_none rfl) (by decide) (fun p9 => ?_)
 refine wa (nt' (CM_seq (sr ?_)))
 refine wv (fun W hm => rv_loadN (cs := [.slice A4 x0.Segments.length c5, .int .i64 x0.Now]) underlying26 type26 rfl rfl (hm.boxCells (n := 0) rfl)) ?_
 refine wcv (cl_fn cb12 rfl) (fun W hm => spec_IsStore_c W _ x0 (tyStore_mk (x := x0) (hm.rdS0 r7)) s_0) ?_
 refine wv vnot ?_
 refine nt' ?_
 rcases Bool.eq_false_or_eq_true (spec_IsStore_m x0) with g11 | g11
 ·
  have HQ := storeB_hq (ok := okS x0.Now) (by rw [← spec_IsStore_form]; exact g11)
  refine CM_condF rfl (nt g11) ?_
  refine CM_skip (QM_then (sr ?_))
  refine wv (fun W hm => rv_loadN (cs := [.slice A4 x0.Segments.length c5, .int .i64 x0.Now]) underlying26 type26 rfl rfl (hm.boxCells (n := 0) rfl)) ?_
  let I1 : It := iBox p9 26 [.slice A4 x0.Segments.length c5, .int .i64 x0.Now]
  refine WM_callW (χ := Value) (val := fun x => x) (js := fun x => (iOwn (tSl (tBor tyVersion w w.heap.size) 51) [x] (spec_l7All_m x0) :: [I1])) (cl_fn cb51 rfl) (fun W hm => spec_l7All_c w.heap.size w [I1] W _ x0 (tyStore_mk r7) s_0 (HQ) hm) (Wd_none rfl) (by decide) (fun v12 => ?_)
  refine WM_form (n := 0) rfl ?_
  rintro A13 c14 rfl m15
  refine wm ?_
  refine wcl (tSl tyRow 29) (spec_l7Rows_m (spec_l7All_m x0) x1) (cl_fn cb57 rfl) (fun W hm => spec_l7Rows_c W _ (spec_l7All_m x0) x1 (hm.unbor (hm.rdSI (n := 0) rfl)) (l7All_sm s_0 HQ)) (fun z17 => ?_)
  refine WM_form (n := 0) rfl ?_
  rintro A18 c19 rfl m20
  refine wcl (tSl tyRow 29) (spec_SortRows_m (spec_l7Rows_m (spec_l7All_m x0) x1)) (cl_fn cb56 rfl) (fun W hm => spec_SortRows_c W _ (spec_l7Rows_m (spec_l7All_m x0) x1) (hm.rdSI (n := 0) rfl) (l7Rows_sm (l7All_sm s_0 HQ) x1)) (fun z22 => ?_)
  refine WM_form (n := 0) rfl ?_
  rintro A23 c24 rfl m25
  refine wa (nt' (CM_ret ?_))
  have he27 := (show spec_RowsAt_m x0 x1 = (spec_SortRows_m (spec_l7Rows_m (spec_l7All_m x0) x1)) from cond_t g11 (rfl))
  refine QM_r1 rfl (RR_tmp rfl) (fun W hm => ⟨.slice A23 (spec_SortRows_m (spec_l7Rows_m (spec_l7All_m x0) x1)).length c24, ?_, ?_⟩)
  ·first | rw [he27] | rfl
  ·rw [he27]; exact (hm.pick [0] (by decide))
 ·
  refine CM_condT rfl (nf g11) ?_
  refine sr ?_
  refine WM_build0 (E := tyRow) underlying39 type29 (Wd_none rfl) (by decide) (fun p28 => ?_)
  refine wa (nt' (CM_ret (QM_then_ret ?_)))
  have he30 := (show spec_RowsAt_m x0 x1 = [] from cond_f g11 (rfl))
  refine QM_r1 rfl (RR_tmp rfl) (fun W hm => ⟨.slice (some ⟨p28, 0, none⟩) 0 0, ?_, ?_⟩)
  ·first | rw [he30] | rfl
  ·rw [he30]; exact (hm.pick [0] (by decide))

def spec_l3Same_m (x0 : DRow) (x1 : DRow) : Bool :=
 cond (x0.Id == x1.Id) (spec_l2Ints_m x0.Values x1.Values) false
theorem cb54 : Cb Try.prog 54 := ⟨f54, _, func54, rfl, by decide⟩
theorem spec_l3Same_c (w : World) (z0 : List Value) (x0 : DRow) (z1 : List Value) (x1 : DRow) (r_0 : tyRow.rd w w.heap.size z0 x0) (r_1 : tyRow.rd w w.heap.size z1 x1) :
  Calls Try.prog 54 #[.agg z0.toArray, .agg z1.toArray] w fun e w' => e = .returned (.bool (spec_l3Same_m x0 x1)) ∧ Below w.heap.size w w' := by
 obtain ⟨v1, rfl, r2⟩ := tyRow_rd r_0
 obtain ⟨m3, A4, c5, rfl, q6, r7⟩ := rdS_op r2
 obtain ⟨v8, rfl, r9⟩ := tyRow_rd r_1
 obtain ⟨m10, A11, c12, rfl, q13, r14⟩ := rdS_op r9
 refine ce2 (L := [(0, .agg #[.int .i64 x0.Id, .slice A4 x0.Values.length c5]), (1, .agg #[.int .i64 x1.Id, .slice A11 x1.Values.length c12])]) (N := 17) func54 ?_
 refine sr ?_
 refine WM_box rfl (Wd_none rfl) (by decide) (fun p15 => ?_)
 refine WM_box rfl (Wd_none rfl) (by decide) (fun p16 => ?_)
 refine wa (nt' (sr ?_))
 refine wv (vf underlying29 rfl type3) ?_
 refine wv (vl 1 0 underlying3) ?_
 refine wv (vf underlying29 rfl type3) ?_
 refine wv (vl 0 0 underlying3) ?_
 refine wv (fun W hm => rv_eql rfl rfl) ?_
 refine wm ?_
 by_cases h17 : x0.Id = x1.Id
 ·have g18 := beq_iff_eq.2 h17
  refine wg (vf underlying29 rfl type27) g18 ?_
  refine wg (vl 1 1 underlying27) g18 ?_
  refine wg (vf underlying29 rfl type27) g18 ?_
  refine wg (vl 0 1 underlying27) g18 ?_
  refine WM_callV (cl_fn cb74 rfl) (fun W hm => spec_l2Ints_c W _ x0.Values _ x1.Values (hm.rdS0 r7) (hm.rdS0 r14)) (Wd_some rfl rfl rfl (bw g18 rfl)) (by decide) ?_
  refine wv (vpT g18) ?_
  refine wa (nt' (CM_ret ?_))
  exact rtb (h := cond_t g18 (rfl))
 ·have g18 := beq_eq_false_iff_ne.2 h17
  refine ws g18 ?_
  refine ws g18 ?_
  refine ws g18 ?_
  refine ws g18 ?_
  refine ws g18 ?_
  refine wv (vpF g18) ?_
  refine wa (nt' (CM_ret ?_))
  exact rtb (h := cond_f g18 (rfl))

def spec_EqualRows_b1 (x0 : (List DRow)) (x1 : (List DRow)) (k13 : Nat) : Bool ⊕ (Unit) :=
 cond (spec_l3Same_m (gt x0 k13) (gt x1 k13)) (Sum.inr ()) (Sum.inl false)
def spec_EqualRows_m (x0 : (List DRow)) (x1 : (List DRow)) : Bool :=
 cond (((x0.length : Nat) : Int) != ((x1.length : Nat) : Int)) false (Sum.elim id (fun (s : Unit) => true) (rng (R := Bool) (fun k (_ : Unit) => spec_EqualRows_b1 x0 x1 k) (x0.length - 0) 0 ()))
theorem cb13 : Cb Try.prog 13 := ⟨f13, _, func13, rfl, by decide⟩
theorem spec_EqualRows_c (w : World) (z0 : Value) (x0 : (List DRow)) (z1 : Value) (x1 : (List DRow)) (r_0 : rdS tyRow w w.heap.size z0 x0) (r_1 : rdS tyRow w w.heap.size z1 x1) :
  Calls Try.prog 13 #[z0, z1] w fun e w' => e = .returned (.bool (spec_EqualRows_m x0 x1)) ∧ Below w.heap.size w w' := by
 obtain ⟨m1, A2, c3, rfl, q4, r5⟩ := rdS_op r_0
 obtain ⟨m6, A7, c8, rfl, q9, r10⟩ := rdS_op r_1
 refine ce2 (L := [(0, .slice A2 x0.length c3), (1, .slice A7 x1.length c8)]) (N := 27) func13 ?_
 refine sr (wa (nt' (CM_seq (sr (wm ?_)))))
 refine wv (vlen underlying39) ?_
 refine wm ?_
 refine wv (vlen underlying39) ?_
 refine wv vneq ?_
 refine nt' ?_
 by_cases h11 : ((x0.length : Nat) : Int) = ((x1.length : Nat) : Int)
 ·have g12 : (((x0.length : Nat) : Int) != ((x1.length : Nat) : Int)) = false := by rw [h11]; exact bne_self_eq_false _
  refine CM_condF rfl g12 ?_
  refine CM_skip (QM_then (CM_seq (sr (wa (nt' (CM_block ?_))))))
  let F1 := fun k (_ : Unit) => spec_EqualRows_b1 x0 x1 k
  let R2 := rng (R := Bool) F1
  refine CM_loop (σ := Nat × (Unit) × (Unit)) (fun s => [(0, .slice A2 x0.length c3), (1, .slice A7 x1.length c8), (5, .int .i64 ((s.1 : Nat) : Int))]) (fun s => []) (fun s => s.1 ≤ x0.length ∧ R2 (x0.length - s.1) s.1 s.2.1 = R2 (x0.length - 0) 0 ()) (fun s => x0.length - s.1) (0, (), ()) sl3 (fun W hm => hm) ⟨(by omega), rfl⟩ ?_
  rintro ⟨k13, ⟨⟩, ⟨⟩⟩ H16
  obtain ⟨hk14, hF15⟩ : k13 ≤ x0.length ∧ R2 (x0.length - k13) k13 () = R2 (x0.length - 0) 0 () := H16
  show CM Try.prog 27 _ _ _ _ [(0, .slice A2 x0.length c3), (1, .slice A7 x1.length c8), (5, .int .i64 ((k13 : Nat) : Int))] []
  refine CM_seq (sr (wm (wm ?_)))
  refine wv (vlen underlying39) ?_
  refine wv vlss ?_
  refine nt' ?_
  by_cases hl17 : k13 < x0.length
  ·have g18 := dlT hl17
   refine CM_condT rfl g18 ?_
   refine CM_skip (QM_then (CM_seq (CM_block (CM_seq ?_))))
   refine CM_regionD (by kernel_rfl) (by kernel_rfl) ?_
   refine qm (qm ?_)
   obtain ⟨a19, rfl, hb20, he21⟩ := q4 (by omega)
   refine qv (vix 2 k13 underlying39 type29) ?_
   obtain ⟨_, e25, hc22⟩ := he21 k13 _ (gt_some (show k13 < x0.length from by omega))
   obtain ⟨v23, rfl, r24⟩ := tyRow_rd e25
   obtain ⟨m26, A27, c28, rfl, q29, r30⟩ := rdS_op r24
   refine qv (fun W hm => rv_loadN (cs := [.int .i64 ((gt x0 k13).Id), .slice A27 ((gt x0 k13).Values).length c28]) underlying29 type29 rfl rfl (hm.elCells (show (a19.add (k13 * 2)).block < w.heap.size from by rw [add_block]; exact hb20.1) hc22)) ?_
   refine qm (qm ?_)
   obtain ⟨a31, rfl, hb32, he33⟩ := q9 (by omega)
   refine qv (vix 2 k13 underlying39 type29) ?_
   obtain ⟨_, e37, hc34⟩ := he33 k13 _ (gt_some (show k13 < x1.length from by omega))
   obtain ⟨v35, rfl, r36⟩ := tyRow_rd e37
   obtain ⟨m38, A39, c40, rfl, q41, r42⟩ := rdS_op r36
   refine qv (fun W hm => rv_loadN (cs := [.int .i64 ((gt x1 k13).Id), .slice A39 ((gt x1 k13).Values).length c40]) underlying29 type29 rfl rfl (hm.elCells (show (a31.add (k13 * 2)).block < w.heap.size from by rw [add_block]; exact hb32.1) hc34)) ?_
   refine QR_callV (cl_fn cb54 rfl) (fun W hm => spec_l3Same_c W _ (gt x0 k13) _ (gt x1 k13) (tyRow_mk (x := (gt x0 k13)) (hm.rdS0 r30)) (tyRow_mk (x := (gt x1 k13)) (hm.rdS0 r42))) (Wd_none rfl) (by decide) ?_
   refine qv vnot ?_
   refine nq' ?_
   rcases Bool.eq_false_or_eq_true (spec_l3Same_m (gt x0 k13) (gt x1 k13)) with g44 | g44
   ·
    refine CM_condF rfl (nt g44) ?_
    refine CM_skip (QM_block_normal (QM_then (CM_region (wm ?_))))
    refine wv (vadN k13 1 (by omega)) ?_
    refine wa (WM_nil ?_)
    have hn45 := rng_next (R := Bool) (body := F1) (k := k13) (s := ()) (s' := ()) (show k13 < x0.length from by omega) (cond_t g44 (rfl)) hF15
    exact QM_round (k13 + 1, (), ()) sl3 (fun W hm => hm) ⟨(by omega), hn45⟩ (rl (by omega))
   ·
    refine CM_condT rfl (nf g44) ?_
    refine sr (wa (nt' (CM_ret (QM_block_ret (QM_then_ret (QM_then_ret (QM_block_ret (QM_then_ret ?_))))))))
    exact rtb (h := cond_f g12 (fin_inl (rng_ret (body := F1) (k := k13) (s := ()) (show k13 < x0.length from by omega) (cond_f g44 (rfl)) hF15) rfl))
  ·have g18 := dlF hl17
   refine CM_condF rfl g18 ?_
   refine CM_exit (QM_then_exit (QM_then_exit ?_))
   have hE46 : R2 (x0.length - 0) 0 () = Sum.inr () := rng_end hl17 hF15
   refine QM_block_hit (QM_then (sr (wa (nt' (CM_ret ?_)))))
   exact rtb (h := cond_f g12 (fin_inr hE46 (rfl)))
 ·have g12 : (((x0.length : Nat) : Int) != ((x1.length : Nat) : Int)) = true := bne_iff_ne.2 h11
  refine CM_condT rfl g12 ?_
  refine sr (wa (nt' (CM_ret (QM_then_ret ?_))))
  exact rtb (h := cond_t g12 (rfl))

def spec_l8Any_m (x0b : List Int) (x0 : Dl1Cur) (x1 : DStore) : (DUpdate × Dl1Cur) :=
 cond ((spec_l1Below_m x0b ((spec_l8Update_m x0b x0 x1).2) 8).1 == 0) ((⟨(spec_l1Below_m x0b (spec_l1Below_m x0b ((spec_l8Update_m x0b x0 x1).2) 8).2 5).1, ((spec_l8Update_m x0b x0 x1).1).Row, ((spec_l8Update_m x0b x0 x1).1).Field, ((spec_l8Update_m x0b x0 x1).1).Value⟩ : DUpdate), ((spec_l1Below_m x0b (spec_l1Below_m x0b ((spec_l8Update_m x0b x0 x1).2) 8).2 5).2)) (cond ((spec_l1Below_m x0b ((spec_l8Update_m x0b x0 x1).2) 8).1 == 1) ((⟨((spec_l8Update_m x0b x0 x1).1).Kind, ((spec_l8Update_m x0b x0 x1).1).Row, ((spec_l8Update_m x0b x0 x1).1).Field, (spec_l1PickInt_m x0b (spec_l1Below_m x0b ((spec_l8Update_m x0b x0 x1).2) 8).2 [(-1), 0, 99, 100]).1⟩ : DUpdate), (spec_l1PickInt_m x0b (spec_l1Below_m x0b ((spec_l8Update_m x0b x0 x1).2) 8).2 [(-1), 0, 99, 100]).2) (cond ((spec_l1Below_m x0b ((spec_l8Update_m x0b x0 x1).2) 8).1 == 2) ((⟨((spec_l8Update_m x0b x0 x1).1).Kind, (⟨(spec_l1PickInt_m x0b (spec_l1Below_m x0b ((spec_l8Update_m x0b x0 x1).2) 8).2 [(-1), 999, 1000]).1, ((spec_l8Update_m x0b x0 x1).1).Row.Values⟩ : DRow), ((spec_l8Update_m x0b x0 x1).1).Field, ((spec_l8Update_m x0b x0 x1).1).Value⟩ : DUpdate), (spec_l1PickInt_m x0b (spec_l1Below_m x0b ((spec_l8Update_m x0b x0 x1).2) 8).2 [(-1), 999, 1000]).2) (((spec_l8Update_m x0b x0 x1).1), (spec_l1Below_m x0b ((spec_l8Update_m x0b x0 x1).2) 8).2)))
theorem cb36 : Cb Try.prog 36 := ⟨f36, _, func36, rfl, by decide⟩
theorem spec_l8Any_c (B : Nat) (w0 : World) (is : List It) (w : World) (p : Nat) (z0 : Value) (x0b : List Int) (x0 : Dl1Cur) (r_0 : rdS tU8 w0 B z0 x0b) (z1 : List Value) (x1 : DStore) (s_0 : x0b.length ≤ 68719476736) (s_1 : smStore 68719476736 x1) (HQ : (x1.Segments.map List.length).sum ≤ 68719476736) (hm : Mem B w0 (iBox p 91 [z0, .int .i64 ((x0.i : Nat) : Int), .int .i64 x0.h] :: iOwn tyStore z1 x1 :: is) w) :
  Calls Try.prog 36 #[.pointer (some ⟨p, 0, none⟩), .agg z1.toArray] w fun e w' => ∃ x : List Value, e = .returned (.agg x.toArray) ∧ Mem B w0 (iOwn tyUpdate x ((spec_l8Any_m x0b x0 x1).1) :: iBox p 91 [z0, .int .i64 ((((spec_l8Any_m x0b x0 x1).2).i : Nat) : Int), .int .i64 ((spec_l8Any_m x0b x0 x1).2).h] :: iOwn tyStore z1 x1 :: is) w' := by
 obtain ⟨m1, A2, c3, rfl, q4, r5⟩ := rdS_op r_0
 refine call_enterW (L := [(0, .pointer (some ⟨p, 0, none⟩)), (1, .agg z1.toArray)]) (N := 30) func36 rfl rfl (Nat.le_of_ble_eq_true rfl) (argsL_cons rfl (argsL_cons rfl argsL_nil)) hm ?_
 let K1 : List Value := [.slice A2 x0b.length c3, .int .i64 ((x0.i : Nat) : Int), .int .i64 x0.h]
 refine CM_items (js := (iOwn tyStore z1 x1 :: iBox p 91 K1 :: is)) (fun W hm => (hm.front (n := 1) rfl)) ?_
 refine CM_split (γ := Value) (js := fun g => [iOwn (tSl (tSl tyVersion 51) 72) [g] x1.Segments]) (C := fun g => z1 = [g, .int .i64 x1.Now]) (fun _ _ h => tyStore_split h) ?_
 rintro v6 rfl
 refine CM_form (n := 0) rfl ?_
 rintro A7 c8 rfl m9
 have l11 : x0b.length ≤ 68719476736 := s_0
 have l12 : x1.Segments.length ≤ 68719476736 := s_1.1
 refine sr ?_
 refine WM_box rfl (Wd_none rfl) (by decide) (fun p13 => ?_)
 refine WM_alloc type31 rfl (Wd_none rfl) (by decide) (fun p14 => ?_)
 refine nt' (sr (wm ?_))
 refine wv (fun W hm => rv_loadN (cs := [.slice A7 x1.Segments.length c8, .int .i64 x1.Now]) underlying26 type26 rfl rfl (hm.boxCells (n := 1) rfl)) ?_
 let K2 : List Value := [.int .i64 0, .int .i64 0, .slice none 0 0, .int .i64 0, .int .i64 0]
 let I12 : It := iOwn tyStore [.slice A7 x1.Segments.length c8, .int .i64 x1.Now] x1
 let I13 : It := iBox p13 26 [.slice A7 x1.Segments.length c8, .int .i64 x1.Now]
 let I14 : It := iOwn (tSl (tSl tyVersion 51) 72) [.slice A7 x1.Segments.length c8] x1.Segments
 refine WM_items (js := (I12 :: (iBox p14 31 K2 :: I13 :: iBox p 91 K1 :: is))) (fun W hm => Mem.join (is := [I14]) (js := (iBox p14 31 K2 :: I13 :: iBox p 91 K1 :: is)) (fun _ _ hs => tyStore_join (x := x1) hs) (hm.front (n := 2) rfl)) ?_
 refine WM_callW (χ := List Value) (val := fun x => .agg x.toArray) (js := fun x => (iOwn tyUpdate x ((spec_l8Update_m x0b x0 x1).1) :: iBox p 91 [.slice A2 x0b.length c3, .int .i64 ((((spec_l8Update_m x0b x0 x1).2).i : Nat) : Int), .int .i64 ((spec_l8Update_m x0b x0 x1).2).h] :: I12 :: (iBox p14 31 K2 :: I13 :: is))) (cl_fn cb70 rfl) (fun W hm => spec_l8Update_c B w0 (iBox p14 31 K2 :: I13 :: is) W p _ x0b x0 r5 _ x1 s_0 s_1 (HQ) ((hm.front (n := 0) rfl).front (n := 3) rfl)) (Wd_none rfl) (by decide) (fun z15 => ?_)
 refine tyUpdate_sp ?_
 rintro v16 rfl
 refine WM_form (n := 0) rfl ?_
 rintro A17 c18 rfl m19
 let K3 : List Value := [.slice A17 (((spec_l8Update_m x0b x0 x1).1).Row.Values).length c18]
 let I15 : It := iOwn (tSl tInt 3) K3 (((spec_l8Update_m x0b x0 x1).1).Row.Values)
 refine WM_items (js := (I12 :: I15 :: iBox p 91 [.slice A2 x0b.length c3, .int .i64 ((((spec_l8Update_m x0b x0 x1).2).i : Nat) : Int), .int .i64 (((spec_l8Update_m x0b x0 x1).2).h)] :: iBox p14 31 K2 :: I13 :: is)) (fun W hm => (hm.front (n := 2) rfl)) ?_
 refine tyStore_sp ?_
 rintro v22 h21
 simp +zetaDelta only [List.cons.injEq] at h21
 obtain ⟨rfl, -, -⟩ := h21
 refine WM_alloc type31 rfl (Wd_none rfl) (by decide) (fun p23 => ?_)
 let K4 : List Value := [.int .i64 (((spec_l8Update_m x0b x0 x1).1).Kind), .int .i64 (((spec_l8Update_m x0b x0 x1).1).Row.Id), .slice A17 (((spec_l8Update_m x0b x0 x1).1).Row.Values).length c18, .int .i64 (((spec_l8Update_m x0b x0 x1).1).Field), .int .i64 (((spec_l8Update_m x0b x0 x1).1).Value)]
 refine WM_storeBox (p := p23) (o := 0) (cs' := K4) (fun w hm => hm.front (n := 0) rfl) type31 rfl (Nat.le_of_ble_eq_true rfl) rfl rfl rfl rfl (Wd_none rfl) ?_
 refine nt' (CM_seq (sr (wm ?_)))
 refine WM_callW (χ := Unit) (val := fun x => .int .i64 ((spec_l1Below_m x0b ((spec_l8Update_m x0b x0 x1).2) 8).1)) (js := fun x => (iBox p 91 [.slice A2 x0b.length c3, .int .i64 ((((spec_l1Below_m x0b ((spec_l8Update_m x0b x0 x1).2) 8).2).i : Nat) : Int), .int .i64 ((spec_l1Below_m x0b ((spec_l8Update_m x0b x0 x1).2) 8).2).h] :: (iBox p23 31 K4 :: I14 :: I15 :: iBox p14 31 K2 :: I13 :: is))) (cl_fn cb58 rfl) (fun W hm => spec_l1Below_c B w0 (iBox p23 31 K4 :: I14 :: I15 :: iBox p14 31 K2 :: I13 :: is) W p _ x0b ((spec_l8Update_m x0b x0 x1).2) r5 8 s_0 (hm.front (n := 3) rfl)) (Wd_none rfl) (by decide) (fun z24 => ?_)
 have hb := spec_l1Below_rng x0b ((spec_l8Update_m x0b x0 x1).2) 8
 obtain ⟨G25, hG25⟩ : ∃ G, G = (spec_l1Below_m x0b ((spec_l8Update_m x0b x0 x1).2) 8) := ⟨_, rfl⟩
 rw [← hG25]
 rw [← hG25] at hb
 refine nt' (CM_block (sr ?_))
 refine wv (fun W hm => rv_eql rfl rfl) ?_
 refine wa (nt' ?_)
 by_cases h26 : G25.1 = 0
 ·have g27 := beq_iff_eq.2 h26
  refine CM_condT rfl g27 ?_
  refine CM_region (wm ?_)
  refine WM_callW (χ := Unit) (val := fun x => .int .i64 ((spec_l1Below_m x0b G25.2 5).1)) (js := fun x => (iBox p 91 [.slice A2 x0b.length c3, .int .i64 ((((spec_l1Below_m x0b G25.2 5).2).i : Nat) : Int), .int .i64 ((spec_l1Below_m x0b G25.2 5).2).h] :: (iBox p23 31 K4 :: I14 :: I15 :: iBox p14 31 K2 :: I13 :: is))) (cl_fn cb58 rfl) (fun W hm => spec_l1Below_c B w0 (iBox p23 31 K4 :: I14 :: I15 :: iBox p14 31 K2 :: I13 :: is) W p _ x0b G25.2 r5 5 s_0 (hm.front (n := 0) rfl)) (Wd_none rfl) (by decide) (fun z28 => ?_)
  have hb := spec_l1Below_rng x0b G25.2 5
  refine wv (vf underlying31 rfl type3) ?_
  let K5 : List Value := [.int .i64 ((spec_l1Below_m x0b G25.2 5).1), .int .i64 (((spec_l8Update_m x0b x0 x1).1).Row.Id), .slice A17 (((spec_l8Update_m x0b x0 x1).1).Row.Values).length c18, .int .i64 (((spec_l8Update_m x0b x0 x1).1).Field), .int .i64 (((spec_l8Update_m x0b x0 x1).1).Value)]
  refine WM_storeBox (p := p23) (o := 0) (cs' := K5) (fun w hm => hm.front (n := 1) rfl) type3 rfl (Nat.le_of_ble_eq_true rfl) rfl rfl rfl rfl (Wd_none rfl) ?_
  refine WM_nil (QM_block_normal (QM_then (sr ?_)))
  refine wv (fun W hm => rv_loadN (cs := K5) underlying31 type31 rfl rfl (hm.boxCells (n := 0) rfl)) ?_
  refine WM_storeBox (p := p14) (o := 0) (cs' := K5) (fun w hm => hm.front (n := 4) rfl) type31 rfl (Nat.le_of_ble_eq_true rfl) rfl rfl rfl rfl (Wd_none rfl) ?_
  refine nt' (CM_ret ?_)
  let K6 : List Value := [.slice A2 x0b.length c3, .int .i64 ((((spec_l1Below_m x0b G25.2 5).2).i : Nat) : Int), .int .i64 (((spec_l1Below_m x0b G25.2 5).2).h)]
  refine QM_items (js := (I12 :: (iBox p14 31 K5 :: iBox p23 31 K5 :: iBox p 91 K6 :: I15 :: I13 :: is))) (fun W hm => Mem.join (is := [I14]) (js := (iBox p14 31 K5 :: iBox p23 31 K5 :: iBox p 91 K6 :: I15 :: I13 :: is)) (fun _ _ hs => tyStore_join (x := x1) hs) (hm.front (n := 3) rfl)) ?_
  refine QM_items (js := (iOwn tyUpdate K5 (⟨(spec_l1Below_m x0b G25.2 5).1, ((spec_l8Update_m x0b x0 x1).1).Row, ((spec_l8Update_m x0b x0 x1).1).Field, ((spec_l8Update_m x0b x0 x1).1).Value⟩ : DUpdate) :: (I12 :: iBox p14 31 K5 :: iBox p23 31 K5 :: iBox p 91 K6 :: I13 :: is))) (fun W hm => Mem.join (is := [I15]) (js := (I12 :: iBox p14 31 K5 :: iBox p23 31 K5 :: iBox p 91 K6 :: I13 :: is)) (fun _ _ hs => tyUpdate_join (x := (⟨(spec_l1Below_m x0b G25.2 5).1, ((spec_l8Update_m x0b x0 x1).1).Row, ((spec_l8Update_m x0b x0 x1).1).Field, ((spec_l8Update_m x0b x0 x1).1).Value⟩ : DUpdate)) hs) (hm.front (n := 4) rfl)) ?_
  have he29 := (show spec_l8Any_m x0b x0 x1 = ((⟨(spec_l1Below_m x0b G25.2 5).1, ((spec_l8Update_m x0b x0 x1).1).Row, ((spec_l8Update_m x0b x0 x1).1).Field, ((spec_l8Update_m x0b x0 x1).1).Value⟩ : DUpdate), ((spec_l1Below_m x0b G25.2 5).2)) from by subst hG25; exact cond_t g27 (rfl))
  refine QM_r1 rfl (RR_cell (n := 2) rfl rfl underlying31 type31 rfl) (fun W hm => ⟨K5, ?_, ?_⟩)
  ·first | rw [he29] | rfl
  ·rw [he29]; exact ((((((hm.front (n := 1) rfl).front (n := 4) rfl).front (n := 2) rfl).front (n := 3) rfl).tail.front (n := 3) rfl).tail.front (n := 3) rfl).tail
 ·have g27 := beq_eq_false_iff_ne.2 h26
  refine CM_condF rfl g27 ?_
  refine sr ?_
  refine wv (fun W hm => rv_eql rfl rfl) ?_
  refine wa (nt' ?_)
  by_cases h30 : G25.1 = 1
  ·have g31 := beq_iff_eq.2 h30
   refine CM_condT rfl g31 ?_
   refine CM_region (wm ?_)
   refine WM_build (cs := [.int .i64 (-1), .int .i64 0, .int .i64 99, .int .i64 100]) underlying27 type3 rfl (by decide) (by decide) rfl (by kernel_rfl) (Wd_none rfl) (by decide) (fun p32 => ?_)
   refine WM_items (fun W hm => Mem.litOwn (E := tInt) (xs := [(-1), 0, 99, 100]) rfl (show 4 ≤ maxLen from by decide) (fun _ => (els_cons (E := tInt) (L1 := []) tInt_own (els_cons (E := tInt) (L1 := []) tInt_own (els_cons (E := tInt) (L1 := []) tInt_own (els_cons (E := tInt) (L1 := []) tInt_own els_nil))))) (hm.front (n := 0) rfl)) ?_
   let I16 : It := iOwn (tSl tInt 3) [.slice (some ⟨p32, 0, none⟩) 4 4] [(-1), 0, 99, 100]
   refine WM_callW (χ := Unit) (val := fun x => .int .i64 ((spec_l1PickInt_m x0b G25.2 [(-1), 0, 99, 100]).1)) (js := fun x => (iBox p 91 [.slice A2 x0b.length c3, .int .i64 ((((spec_l1PickInt_m x0b G25.2 [(-1), 0, 99, 100]).2).i : Nat) : Int), .int .i64 ((spec_l1PickInt_m x0b G25.2 [(-1), 0, 99, 100]).2).h] :: I16 :: (iBox p23 31 K4 :: I14 :: I15 :: iBox p14 31 K2 :: I13 :: is))) (cl_fn cb66 rfl) (fun W hm => spec_l1PickInt_c B w0 (iBox p23 31 K4 :: I14 :: I15 :: iBox p14 31 K2 :: I13 :: is) W p _ x0b G25.2 r5 _ [(-1), 0, 99, 100] s_0 (Nat.le_of_ble_eq_true rfl) (by decide) ((hm.front (n := 0) rfl).front (n := 1) rfl)) (Wd_none rfl) (by decide) (fun z34 => ?_)
   obtain ⟨G35, hG35⟩ : ∃ G, G = (spec_l1PickInt_m x0b G25.2 [(-1), 0, 99, 100]) := ⟨_, rfl⟩
   rw [← hG35]
   refine wv (vf underlying31 rfl type3) ?_
   let K7 : List Value := [.int .i64 (((spec_l8Update_m x0b x0 x1).1).Kind), .int .i64 (((spec_l8Update_m x0b x0 x1).1).Row.Id), .slice A17 (((spec_l8Update_m x0b x0 x1).1).Row.Values).length c18, .int .i64 (((spec_l8Update_m x0b x0 x1).1).Field), .int .i64 G35.1]
   refine WM_storeBox (p := p23) (o := 4) (cs' := K7) (fun w hm => hm.front (n := 2) rfl) type3 rfl (Nat.le_of_ble_eq_true rfl) rfl rfl rfl rfl (Wd_none rfl) ?_
   refine WM_nil (QM_block_normal (QM_then (sr ?_)))
   refine wv (fun W hm => rv_loadN (cs := K7) underlying31 type31 rfl rfl (hm.boxCells (n := 0) rfl)) ?_
   refine WM_storeBox (p := p14) (o := 0) (cs' := K7) (fun w hm => hm.front (n := 5) rfl) type31 rfl (Nat.le_of_ble_eq_true rfl) rfl rfl rfl rfl (Wd_none rfl) ?_
   refine nt' (CM_ret ?_)
   let K8 : List Value := [.slice A2 x0b.length c3, .int .i64 ((G35.2.i : Nat) : Int), .int .i64 G35.2.h]
   refine QM_items (js := (I12 :: (iBox p14 31 K7 :: iBox p23 31 K7 :: iBox p 91 K8 :: I16 :: I15 :: I13 :: is))) (fun W hm => Mem.join (is := [I14]) (js := (iBox p14 31 K7 :: iBox p23 31 K7 :: iBox p 91 K8 :: I16 :: I15 :: I13 :: is)) (fun _ _ hs => tyStore_join (x := x1) hs) (hm.front (n := 4) rfl)) ?_
   refine QM_items (js := (iOwn tyUpdate K7 (⟨((spec_l8Update_m x0b x0 x1).1).Kind, ((spec_l8Update_m x0b x0 x1).1).Row, ((spec_l8Update_m x0b x0 x1).1).Field, G35.1⟩ : DUpdate) :: (I12 :: iBox p14 31 K7 :: iBox p23 31 K7 :: iBox p 91 K8 :: I16 :: I13 :: is))) (fun W hm => Mem.join (is := [I15]) (js := (I12 :: iBox p14 31 K7 :: iBox p23 31 K7 :: iBox p 91 K8 :: I16 :: I13 :: is)) (fun _ _ hs => tyUpdate_join (x := (⟨((spec_l8Update_m x0b x0 x1).1).Kind, ((spec_l8Update_m x0b x0 x1).1).Row, ((spec_l8Update_m x0b x0 x1).1).Field, G35.1⟩ : DUpdate)) hs) (hm.front (n := 5) rfl)) ?_
   have he36 := (show spec_l8Any_m x0b x0 x1 = ((⟨((spec_l8Update_m x0b x0 x1).1).Kind, ((spec_l8Update_m x0b x0 x1).1).Row, ((spec_l8Update_m x0b x0 x1).1).Field, G35.1⟩ : DUpdate), G35.2) from by subst hG25 hG35; exact cond_f g27 (cond_t g31 (rfl)))
   refine QM_r1 rfl (RR_cell (n := 2) rfl rfl underlying31 type31 rfl) (fun W hm => ⟨K7, ?_, ?_⟩)
   ·first | rw [he36] | rfl
   ·rw [he36]; exact (((((((hm.front (n := 1) rfl).front (n := 4) rfl).front (n := 2) rfl).front (n := 3) rfl).tail.front (n := 3) rfl).tail.front (n := 3) rfl).tail.front (n := 3) rfl).tail
  ·have g31 := beq_eq_false_iff_ne.2 h30
   refine CM_condF rfl g31 ?_
   refine sr ?_
   refine wv (fun W hm => rv_eql rfl rfl) ?_
   refine wa (nt' ?_)
   by_cases h37 : G25.1 = 2
   ·have g38 := beq_iff_eq.2 h37
    refine CM_condT rfl g38 ?_
    refine CM_region (wm ?_)
    refine WM_build (cs := [.int .i64 (-1), .int .i64 999, .int .i64 1000]) underlying27 type3 rfl (by decide) (by decide) rfl (by kernel_rfl) (Wd_none rfl) (by decide) (fun p39 => ?_)
    refine WM_items (fun W hm => Mem.litOwn (E := tInt) (xs := [(-1), 999, 1000]) rfl (show 3 ≤ maxLen from by decide) (fun _ => (els_cons (E := tInt) (L1 := []) tInt_own (els_cons (E := tInt) (L1 := []) tInt_own (els_cons (E := tInt) (L1 := []) tInt_own els_nil)))) (hm.front (n := 0) rfl)) ?_
    let I17 : It := iOwn (tSl tInt 3) [.slice (some ⟨p39, 0, none⟩) 3 3] [(-1), 999, 1000]
    refine WM_callW (χ := Unit) (val := fun x => .int .i64 ((spec_l1PickInt_m x0b G25.2 [(-1), 999, 1000]).1)) (js := fun x => (iBox p 91 [.slice A2 x0b.length c3, .int .i64 ((((spec_l1PickInt_m x0b G25.2 [(-1), 999, 1000]).2).i : Nat) : Int), .int .i64 ((spec_l1PickInt_m x0b G25.2 [(-1), 999, 1000]).2).h] :: I17 :: (iBox p23 31 K4 :: I14 :: I15 :: iBox p14 31 K2 :: I13 :: is))) (cl_fn cb66 rfl) (fun W hm => spec_l1PickInt_c B w0 (iBox p23 31 K4 :: I14 :: I15 :: iBox p14 31 K2 :: I13 :: is) W p _ x0b G25.2 r5 _ [(-1), 999, 1000] s_0 (Nat.le_of_ble_eq_true rfl) (by decide) ((hm.front (n := 0) rfl).front (n := 1) rfl)) (Wd_none rfl) (by decide) (fun z41 => ?_)
    obtain ⟨G42, hG42⟩ : ∃ G, G = (spec_l1PickInt_m x0b G25.2 [(-1), 999, 1000]) := ⟨_, rfl⟩
    rw [← hG42]
    refine wv (vf underlying31 rfl type29) ?_
    refine wv (fun W hm => rv_fieldA (o := 1) underlying29 rfl type3 (by decide) rfl rfl) ?_
    let K9 : List Value := [.int .i64 (((spec_l8Update_m x0b x0 x1).1).Kind), .int .i64 G42.1, .slice A17 (((spec_l8Update_m x0b x0 x1).1).Row.Values).length c18, .int .i64 (((spec_l8Update_m x0b x0 x1).1).Field), .int .i64 (((spec_l8Update_m x0b x0 x1).1).Value)]
    refine WM_storeBox (p := p23) (o := 1) (cs' := K9) (fun w hm => hm.front (n := 2) rfl) type3 rfl (Nat.le_of_ble_eq_true rfl) rfl rfl rfl rfl (Wd_none rfl) ?_
    refine WM_nil (QM_block_normal (QM_then (sr ?_)))
    refine wv (fun W hm => rv_loadN (cs := K9) underlying31 type31 rfl rfl (hm.boxCells (n := 0) rfl)) ?_
    refine WM_storeBox (p := p14) (o := 0) (cs' := K9) (fun w hm => hm.front (n := 5) rfl) type31 rfl (Nat.le_of_ble_eq_true rfl) rfl rfl rfl rfl (Wd_none rfl) ?_
    refine nt' (CM_ret ?_)
    let K10 : List Value := [.slice A2 x0b.length c3, .int .i64 ((G42.2.i : Nat) : Int), .int .i64 G42.2.h]
    refine QM_items (js := (I12 :: (iBox p14 31 K9 :: iBox p23 31 K9 :: iBox p 91 K10 :: I17 :: I15 :: I13 :: is))) (fun W hm => Mem.join (is := [I14]) (js := (iBox p14 31 K9 :: iBox p23 31 K9 :: iBox p 91 K10 :: I17 :: I15 :: I13 :: is)) (fun _ _ hs => tyStore_join (x := x1) hs) (hm.front (n := 4) rfl)) ?_
    refine QM_items (js := (iOwn tyUpdate K9 (⟨((spec_l8Update_m x0b x0 x1).1).Kind, (⟨G42.1, ((spec_l8Update_m x0b x0 x1).1).Row.Values⟩ : DRow), ((spec_l8Update_m x0b x0 x1).1).Field, ((spec_l8Update_m x0b x0 x1).1).Value⟩ : DUpdate) :: (I12 :: iBox p14 31 K9 :: iBox p23 31 K9 :: iBox p 91 K10 :: I17 :: I13 :: is))) (fun W hm => Mem.join (is := [I15]) (js := (I12 :: iBox p14 31 K9 :: iBox p23 31 K9 :: iBox p 91 K10 :: I17 :: I13 :: is)) (fun _ _ hs => tyUpdate_join (x := (⟨((spec_l8Update_m x0b x0 x1).1).Kind, (⟨G42.1, ((spec_l8Update_m x0b x0 x1).1).Row.Values⟩ : DRow), ((spec_l8Update_m x0b x0 x1).1).Field, ((spec_l8Update_m x0b x0 x1).1).Value⟩ : DUpdate)) hs) (hm.front (n := 5) rfl)) ?_
    have he43 := (show spec_l8Any_m x0b x0 x1 = ((⟨((spec_l8Update_m x0b x0 x1).1).Kind, (⟨G42.1, ((spec_l8Update_m x0b x0 x1).1).Row.Values⟩ : DRow), ((spec_l8Update_m x0b x0 x1).1).Field, ((spec_l8Update_m x0b x0 x1).1).Value⟩ : DUpdate), G42.2) from by subst hG25 hG42; exact cond_f g27 (cond_f g31 (cond_t g38 (rfl))))
    refine QM_r1 rfl (RR_cell (n := 2) rfl rfl underlying31 type31 rfl) (fun W hm => ⟨K9, ?_, ?_⟩)
    ·first | rw [he43] | rfl
    ·rw [he43]; exact (((((((hm.front (n := 1) rfl).front (n := 4) rfl).front (n := 2) rfl).front (n := 3) rfl).tail.front (n := 3) rfl).tail.front (n := 3) rfl).tail.front (n := 3) rfl).tail
   ·have g38 := beq_eq_false_iff_ne.2 h37
    refine CM_condF rfl g38 ?_
    refine CM_skip (QM_block_normal (QM_then (sr ?_)))
    refine wv (fun W hm => rv_loadN (cs := K4) underlying31 type31 rfl rfl (hm.boxCells (n := 1) rfl)) ?_
    refine WM_storeBox (p := p14) (o := 0) (cs' := K4) (fun w hm => hm.front (n := 4) rfl) type31 rfl (Nat.le_of_ble_eq_true rfl) rfl rfl rfl rfl (Wd_none rfl) ?_
    refine nt' (CM_ret ?_)
    let K11 : List Value := [.slice A2 x0b.length c3, .int .i64 ((G25.2.i : Nat) : Int), .int .i64 G25.2.h]
    refine QM_items (js := (I12 :: (iBox p14 31 K4 :: iBox p 91 K11 :: iBox p23 31 K4 :: I15 :: I13 :: is))) (fun W hm => Mem.join (is := [I14]) (js := (iBox p14 31 K4 :: iBox p 91 K11 :: iBox p23 31 K4 :: I15 :: I13 :: is)) (fun _ _ hs => tyStore_join (x := x1) hs) (hm.front (n := 3) rfl)) ?_
    refine QM_items (js := (iOwn tyUpdate K4 ((spec_l8Update_m x0b x0 x1).1) :: (I12 :: iBox p14 31 K4 :: iBox p 91 K11 :: iBox p23 31 K4 :: I13 :: is))) (fun W hm => Mem.join (is := [I15]) (js := (I12 :: iBox p14 31 K4 :: iBox p 91 K11 :: iBox p23 31 K4 :: I13 :: is)) (fun _ _ hs => tyUpdate_join (x := ((spec_l8Update_m x0b x0 x1).1)) hs) (hm.front (n := 4) rfl)) ?_
    have he44 := (show spec_l8Any_m x0b x0 x1 = (((spec_l8Update_m x0b x0 x1).1), G25.2) from by subst hG25; exact cond_f g27 (cond_f g31 (cond_f g38 (rfl))))
    refine QM_r1 rfl (RR_cell (n := 2) rfl rfl underlying31 type31 rfl) (fun W hm => ⟨K4, ?_, ?_⟩)
    ·first | rw [he44] | rfl
    ·rw [he44]; exact ((((((hm.front (n := 1) rfl).front (n := 3) rfl).front (n := 2) rfl).front (n := 3) rfl).tail.front (n := 3) rfl).tail.front (n := 3) rfl).tail

def spec_l8Updates_b1 (x0b : List Int) (x1 : DStore) (k18 : Nat) (d19 : (List DUpdate)) (s22 : Int) (s23 : Nat) (s24 : Int) : ((List DUpdate) × Dl1Cur) ⊕ (((List DUpdate) × Int × Nat × Int) ⊕ ((List DUpdate) × Int × Nat × Int)) :=
 cond (decide (0 < s22)) (Sum.inr (Sum.inr ((d19 ++ [(spec_l8Any_m x0b (⟨s23, s24⟩ : Dl1Cur) x1).1]), (IntKind.i64.wrap (s22 - 1)), (spec_l8Any_m x0b (⟨s23, s24⟩ : Dl1Cur) x1).2.i, (spec_l8Any_m x0b (⟨s23, s24⟩ : Dl1Cur) x1).2.h))) (Sum.inr (Sum.inl (d19, s22, s23, s24)))
def spec_l8Updates_m (x0b : List Int) (x0 : Dl1Cur) (x1 : DStore) (x2 : Int) : ((List DUpdate) × Dl1Cur) :=
 Sum.elim id (fun (s : (List DUpdate) × Int × Nat × Int) => (s.1, (⟨s.2.2.1, s.2.2.2⟩ : Dl1Cur))) (rngb (R := ((List DUpdate) × Dl1Cur)) (fun k (s : (List DUpdate) × Int × Nat × Int) => spec_l8Updates_b1 x0b x1 k s.1 s.2.1 s.2.2.1 s.2.2.2) (((spec_l1Below_m x0b x0 (IntKind.i64.wrap (x2 + 1))).1).toNat + 1 - 0) 0 ([], (spec_l1Below_m x0b x0 (IntKind.i64.wrap (x2 + 1))).1, (spec_l1Below_m x0b x0 (IntKind.i64.wrap (x2 + 1))).2.i, (spec_l1Below_m x0b x0 (IntKind.i64.wrap (x2 + 1))).2.h))
theorem cb68 : Cb Try.prog 68 := ⟨f68, _, func68, rfl, by decide⟩
theorem spec_l8Updates_c (B : Nat) (w0 : World) (is : List It) (w : World) (p : Nat) (z0 : Value) (x0b : List Int) (x0 : Dl1Cur) (r_0 : rdS tU8 w0 B z0 x0b) (z1 : List Value) (x1 : DStore) (x2 : Int) (s_0 : x0b.length ≤ 68719476736) (s_1 : smStore 68719476736 x1) (HQ : (x1.Segments.map List.length).sum ≤ 68719476736) (hx2 : 0 ≤ x2 ∧ x2 ≤ 100) (hm : Mem B w0 (iBox p 91 [z0, .int .i64 ((x0.i : Nat) : Int), .int .i64 x0.h] :: iOwn tyStore z1 x1 :: is) w) :
  Calls Try.prog 68 #[.pointer (some ⟨p, 0, none⟩), .agg z1.toArray, .int .i64 x2] w fun e w' => ∃ x : Value, e = .returned (x) ∧ Mem B w0 (iOwn (tSl tyUpdate 31) [x] ((spec_l8Updates_m x0b x0 x1 x2).1) :: iBox p 91 [z0, .int .i64 ((((spec_l8Updates_m x0b x0 x1 x2).2).i : Nat) : Int), .int .i64 ((spec_l8Updates_m x0b x0 x1 x2).2).h] :: iOwn tyStore z1 x1 :: is) w' := by
 obtain ⟨m1, A2, c3, rfl, q4, r5⟩ := rdS_op r_0
 refine call_enterW (L := [(0, .pointer (some ⟨p, 0, none⟩)), (1, .agg z1.toArray), (2, .int .i64 x2)]) (N := 25) func68 rfl rfl (Nat.le_of_ble_eq_true rfl) (argsL_cons rfl (argsL_cons rfl (argsL_cons rfl argsL_nil))) hm ?_
 refine CM_items (js := (iOwn tyStore z1 x1 :: iBox p 91 [.slice A2 x0b.length c3, .int .i64 ((x0.i : Nat) : Int), .int .i64 x0.h] :: is)) (fun W hm => (hm.front (n := 1) rfl)) ?_
 refine CM_split (γ := Value) (js := fun g => [iOwn (tSl (tSl tyVersion 51) 72) [g] x1.Segments]) (C := fun g => z1 = [g, .int .i64 x1.Now]) (fun _ _ h => tyStore_split h) ?_
 rintro v6 rfl
 refine CM_form (n := 0) rfl ?_
 rintro A7 c8 rfl m9
 have l11 : x0b.length ≤ 68719476736 := s_0
 have l12 : x1.Segments.length ≤ 68719476736 := s_1.1
 refine sr ?_
 refine WM_box rfl (Wd_none rfl) (by decide) (fun p13 => ?_)
 refine wa (nt' (sr ?_))
 refine WM_build0 (E := tyUpdate) underlying59 type31 (Wd_none rfl) (by decide) (fun p14 => ?_)
 refine wa (nt' (CM_seq (sr (wm (wm ?_)))))
 refine wv vadd ?_
 let I7 : It := iOwn (tSl tyUpdate 31) [.slice (some ⟨p14, 0, none⟩) 0 0] []
 let I8 : It := iBox p13 26 [.slice A7 x1.Segments.length c8, .int .i64 x1.Now]
 let I9 : It := iOwn (tSl (tSl tyVersion 51) 72) [.slice A7 x1.Segments.length c8] x1.Segments
 refine WM_callW (χ := Unit) (val := fun x => .int .i64 ((spec_l1Below_m x0b x0 (IntKind.i64.wrap (x2 + 1))).1)) (js := fun x => (iBox p 91 [.slice A2 x0b.length c3, .int .i64 ((((spec_l1Below_m x0b x0 (IntKind.i64.wrap (x2 + 1))).2).i : Nat) : Int), .int .i64 ((spec_l1Below_m x0b x0 (IntKind.i64.wrap (x2 + 1))).2).h] :: (I7 :: I8 :: I9 :: is))) (cl_fn cb58 rfl) (fun W hm => spec_l1Below_c B w0 (I7 :: I8 :: I9 :: is) W p _ x0b x0 r5 (IntKind.i64.wrap (x2 + 1)) s_0 (hm.front (n := 3) rfl)) (Wd_none rfl) (by decide) (fun z16 => ?_)
 have hb := spec_l1Below_rng x0b x0 (IntKind.i64.wrap (x2 + 1))
 obtain ⟨G17, hG17⟩ : ∃ G, G = (spec_l1Below_m x0b x0 (IntKind.i64.wrap (x2 + 1))) := ⟨_, rfl⟩
 rw [← hG17]
 rw [← hG17] at hb
 refine wa (nt' ?_)
 have hw2 := wrap_id (n := x2 + 1) (by omega) (by omega)
 let F1 := fun k (s : (List DUpdate) × Int × Nat × Int) => spec_l8Updates_b1 x0b x1 k s.1 s.2.1 s.2.2.1 s.2.2.2
 let R2 := rngb (R := ((List DUpdate) × Dl1Cur)) F1
 refine CM_cut (σ := ((List DUpdate) × Int × Nat × Int) × (Option Addr × Nat)) (fun s => [(7, .slice s.2.1 s.1.1.length s.2.2)]) (fun s => (iBox p 91 [.slice A2 x0b.length c3, .int .i64 ((s.1.2.2.1 : Nat) : Int), .int .i64 s.1.2.2.2] :: iOwn (tSl tyUpdate 31) [.slice s.2.1 s.1.1.length s.2.2] s.1.1 :: I8 :: I9 :: is)) (fun s => R2 ((G17.1).toNat + 1 - 0) 0 ([], G17.1, G17.2.i, G17.2.h) = Sum.inr s.1) ?_ ?_
 ·
  refine CM_block ?_
  refine CM_loop (σ := Nat × ((List DUpdate) × Int × Nat × Int) × (Option Addr × Nat)) (fun s => [(0, .pointer (some (⟨p, 0, none⟩ : Addr))), (4, .pointer (some (⟨p13, 0, none⟩ : Addr))), (7, .slice s.2.2.1 s.2.1.1.length s.2.2.2), (8, .int .i64 s.2.1.2.1)]) (fun s => (iBox p 91 [.slice A2 x0b.length c3, .int .i64 ((s.2.1.2.2.1 : Nat) : Int), .int .i64 s.2.1.2.2.2] :: iOwn (tSl tyUpdate 31) [.slice s.2.2.1 s.2.1.1.length s.2.2.2] s.2.1.1 :: I8 :: I9 :: is)) (fun s => s.1 + ((s.2.1.2.1).toNat) + 1 ≤ (G17.1).toNat + 1 ∧ R2 ((G17.1).toNat + 1 - s.1) s.1 s.2.1 = R2 ((G17.1).toNat + 1 - 0) 0 ([], G17.1, G17.2.i, G17.2.h) ∧ s.2.1.1.length ≤ 0 + s.1 ∧ 0 ≤ s.2.1.2.1 ∧ s.2.1.2.1 ≤ 101) (fun s => (G17.1).toNat + 1 - s.1) (0, ([], G17.1, G17.2.i, G17.2.h), ((some ⟨p14, 0, none⟩), 0)) sl4 (fun W hm => hm) ⟨(show 0 + ((G17.1).toNat) + 1 ≤ (G17.1).toNat + 1 from by omega), rfl, Nat.le_refl _, (show 0 ≤ G17.1 from by omega), (show G17.1 ≤ 101 from by omega)⟩ ?_
  rintro ⟨k18, ⟨d19, s22, s23, s24⟩, ⟨A20, c21⟩⟩ H27
  obtain ⟨hk25, hF26, hi28, hi29, hi30⟩ : k18 + ((s22).toNat) + 1 ≤ (G17.1).toNat + 1 ∧ R2 ((G17.1).toNat + 1 - k18) k18 (d19, s22, s23, s24) = R2 ((G17.1).toNat + 1 - 0) 0 ([], G17.1, G17.2.i, G17.2.h) ∧ d19.length ≤ 0 + k18 ∧ 0 ≤ s22 ∧ s22 ≤ 101 := H27
  let K3 : List Value := [.slice A2 x0b.length c3, .int .i64 ((s23 : Nat) : Int), .int .i64 s24]
  let I10 : It := iOwn (tSl tyUpdate 31) [.slice A20 d19.length c21] d19
  show CM Try.prog 25 _ _ _ _ [(0, .pointer (some (⟨p, 0, none⟩ : Addr))), (4, .pointer (some (⟨p13, 0, none⟩ : Addr))), (7, .slice A20 d19.length c21), (8, .int .i64 s22)] (iBox p 91 K3 :: I10 :: I8 :: I9 :: is)
  have hw1 := wrap_id (n := s22 - 1) (by omega) (by omega)
  have hw2 := wrap_id (n := x2 + 1) (by omega) (by omega)
  refine CM_seq (sr (wm ?_))
  refine wv (fun W hm => rv_gtr rfl rfl) ?_
  refine nt' ?_
  by_cases h31 : 0 < s22
  ·have g32 := decide_eq_true h31
   refine CM_condT rfl g32 ?_
   refine CM_skip (QM_then (CM_seq (CM_block (CM_region (wm (wm ?_))))))
   refine wv (fun W hm => rv_loadN (cs := [.slice A7 x1.Segments.length c8, .int .i64 x1.Now]) underlying26 type26 rfl rfl (hm.boxCells (n := 2) rfl)) ?_
   let I11 : It := iOwn tyStore [.slice A7 x1.Segments.length c8, .int .i64 x1.Now] x1
   refine WM_items (js := (I11 :: (iBox p 91 K3 :: I10 :: I8 :: is))) (fun W hm => Mem.join (is := [I9]) (js := (iBox p 91 K3 :: I10 :: I8 :: is)) (fun _ _ hs => tyStore_join (x := x1) hs) (hm.front (n := 3) rfl)) ?_
   refine WM_callW (χ := List Value) (val := fun x => .agg x.toArray) (js := fun x => (iOwn tyUpdate x ((spec_l8Any_m x0b (⟨s23, s24⟩ : Dl1Cur) x1).1) :: iBox p 91 [.slice A2 x0b.length c3, .int .i64 ((((spec_l8Any_m x0b (⟨s23, s24⟩ : Dl1Cur) x1).2).i : Nat) : Int), .int .i64 ((spec_l8Any_m x0b (⟨s23, s24⟩ : Dl1Cur) x1).2).h] :: I11 :: (I10 :: I8 :: is))) (cl_fn cb36 rfl) (fun W hm => spec_l8Any_c B w0 (I10 :: I8 :: is) W p _ x0b (⟨s23, s24⟩ : Dl1Cur) r5 _ x1 s_0 s_1 (HQ) ((hm.front (n := 0) rfl).front (n := 1) rfl)) (Wd_none rfl) (by decide) (fun z33 => ?_)
   obtain ⟨G34, hG34⟩ : ∃ G, G = (spec_l8Any_m x0b (⟨s23, s24⟩ : Dl1Cur) x1) := ⟨_, rfl⟩
   rw [← hG34]
   refine tyUpdate_sp ?_
   rintro v35 rfl
   refine WM_form (n := 0) rfl ?_
   rintro A36 c37 rfl m38
   let K4 : List Value := [.slice A2 x0b.length c3, .int .i64 ((G34.2.i : Nat) : Int), .int .i64 G34.2.h]
   let I12 : It := iOwn (tSl tInt 3) [.slice A36 G34.1.Row.Values.length c37] G34.1.Row.Values
   refine WM_items (js := (I11 :: I12 :: iBox p 91 K4 :: I10 :: I8 :: is)) (fun W hm => (hm.front (n := 2) rfl)) ?_
   refine tyStore_sp ?_
   rintro v41 h40
   simp +zetaDelta only [List.cons.injEq] at h40
   obtain ⟨rfl, -, -⟩ := h40
   let K5 : List Value := [.int .i64 G34.1.Kind, .int .i64 G34.1.Row.Id, .slice A36 G34.1.Row.Values.length c37, .int .i64 G34.1.Field, .int .i64 G34.1.Value]
   refine WM_build (cs := K5) underlying59 type31 rfl (by decide) (by decide) rfl (by kernel_rfl) (Wd_none rfl) (by decide) (fun p42 => ?_)
   refine ap1 tyUpdate 31 (.slice A20 d19.length c21) d19 G34.1 [I12] (I9 :: iBox p 91 K4 :: I8 :: is) K5 (fun W hm => (((hm.front (n := 2) rfl).front (n := 4) rfl).front (n := 2) rfl)) (fun _ _ hs => Els.single (tyUpdate_join (x := G34.1) hs)) underlying59 type31 (show (d19.length + 1) * 56 ≤ 140737488355328 from by omega) (fun v43 => ?_)
   refine WM_form (n := 0) rfl ?_
   rintro A44 c45 rfl m46
   refine wa (WM_nil (QM_block_normal (QM_then (CM_region (wm ?_)))))
   refine wv (fun W hm => rv_sub rfl rfl) ?_
   refine wa (WM_nil ?_)
   have hn48 := rngb_next (R := ((List DUpdate) × Dl1Cur)) (body := F1) (k := k18) (s := (d19, s22, s23, s24)) (s' := ((d19 ++ [G34.1]), (IntKind.i64.wrap (s22 - 1)), G34.2.i, G34.2.h)) (show k18 < (G17.1).toNat + 1 from by omega) (by subst hG17 hG34; exact cond_t g32 (rfl)) hF26
   exact QM_round (k18 + 1, ((d19 ++ [G34.1]), (IntKind.i64.wrap (s22 - 1)), G34.2.i, G34.2.h), (A44, c45)) sl4 (fun W hm => ((((hm.front (n := 1) rfl).front (n := 3) rfl).front (n := 2) rfl).front (n := 3) rfl)) ⟨(show (k18 + 1) + (((IntKind.i64.wrap (s22 - 1))).toNat) + 1 ≤ (G17.1).toNat + 1 from by omega), hn48, (show (d19 ++ [G34.1]).length ≤ 0 + (k18 + 1) from by first | omega | (simp only [List.length_append, List.length_cons, List.length_nil] at *; omega)), (show 0 ≤ (IntKind.i64.wrap (s22 - 1)) from by first | omega | (simp only [List.length_append, List.length_cons, List.length_nil] at *; omega)), (show (IntKind.i64.wrap (s22 - 1)) ≤ 101 from by first | omega | (simp only [List.length_append, List.length_cons, List.length_nil] at *; omega))⟩ (show (G17.1).toNat + 1 - (k18 + 1) < (G17.1).toNat + 1 - k18 from by omega)
  ·have g32 := decide_eq_false h31
   refine CM_condF rfl g32 ?_
   refine CM_exit (QM_then_exit (QM_then_exit (QM_block_hit ?_)))
   have hE49 := rngb_brk (R := ((List DUpdate) × Dl1Cur)) (body := F1) (k := k18) (s := (d19, s22, s23, s24)) (s' := (d19, s22, s23, s24)) (show k18 < (G17.1).toNat + 1 from by omega) (by subst hG17; exact cond_f g32 (rfl)) hF26
   exact QM_cut_normal ((d19, s22, s23, s24), (A20, c21)) (subL_cons rfl subL_nil) (fun W hm => hm) hE49
 ·
  rintro ⟨⟨d19, s22, s23, s24⟩, ⟨A20, c21⟩⟩ H51
  have hE50 : R2 ((G17.1).toNat + 1 - 0) 0 ([], G17.1, G17.2.i, G17.2.h) = Sum.inr (d19, s22, s23, s24) := H51
  let K6 : List Value := [.slice A2 x0b.length c3, .int .i64 ((s23 : Nat) : Int), .int .i64 s24]
  let I13 : It := iOwn (tSl tyUpdate 31) [.slice A20 d19.length c21] d19
  show QM 25 _ _ _ .normal [(7, .slice A20 d19.length c21)] (iBox p 91 K6 :: I13 :: I8 :: I9 :: is)
  refine QM_then (sr (wm (wa (nt' (CM_ret ?_)))))
  refine QM_items (js := (iOwn tyStore [.slice A7 x1.Segments.length c8, .int .i64 x1.Now] x1 :: (iBox p 91 K6 :: I13 :: I8 :: is))) (fun W hm => Mem.join (is := [I9]) (js := (iBox p 91 K6 :: I13 :: I8 :: is)) (fun _ _ hs => tyStore_join (x := x1) hs) (hm.front (n := 3) rfl)) ?_
  have he52 := (show spec_l8Updates_m x0b x0 x1 x2 = (d19, (⟨s23, s24⟩ : Dl1Cur)) from by subst hG17; exact fin_inr hE50 (rfl))
  refine QM_r1 rfl (RR_tmp rfl) (fun W hm => ⟨.slice A20 d19.length c21, ?_, ?_⟩)
  ·first | rw [he52] | rfl
  ·rw [he52]; exact ((((hm.front (n := 0) rfl).front (n := 1) rfl).front (n := 2) rfl).front (n := 3) rfl).tail

def spec_DrawApplyUpdates_m (x0 : (List Int)) : (DStore × (List DUpdate)) :=
 ((spec_l7Any_m x0 (spec_l1New_m x0)).1, (spec_l8Updates_m x0 (spec_l7Any_m x0 (spec_l1New_m x0)).2 (spec_l7Any_m x0 (spec_l1New_m x0)).1 5).1)
theorem cb31 : Cb Try.prog 31 := ⟨f31, _, func31, rfl, by decide⟩
theorem spec_DrawApplyUpdates_c (w : World) (z0 : Value) (x0 : (List Int)) (r_0 : rdS tU8 w w.heap.size z0 x0) (s_0 : x0.length ≤ 68719476736) :
  Calls Try.prog 31 #[z0] w fun e w' => ∃ v : List Value × Value, e = .returned (.tuple #[.agg v.1.toArray, v.2]) ∧ Mem w.heap.size w [iOwn tyStore v.1 (spec_DrawApplyUpdates_m x0).1, iOwn (tSl tyUpdate 31) [v.2] (spec_DrawApplyUpdates_m x0).2] w' := by
 obtain ⟨m1, A2, c3, rfl, q4, r5⟩ := rdS_op r_0
 have l6 : x0.length ≤ 68719476736 := s_0
 refine ce1 (L := [(0, .slice A2 x0.length c3)]) (N := 14) func31 ?_
 refine sr ?_
 refine WM_alloc type26 rfl (Wd_none rfl) (by decide) (fun p7 => ?_)
 refine wa (nt' (sr (wm ?_)))
 refine WM_call (χ := Nat) (val := fun p => .pointer (some ⟨p, 0, none⟩)) (js := fun p => [iBox p 91 [.slice A2 x0.length c3, .int .i64 (((spec_l1New_m x0).i : Nat) : Int), .int .i64 ((spec_l1New_m x0).h)]]) (cl_fn cb34 rfl) (fun W hm => spec_l1New_c W _ x0 (hm.rdS0 r5) s_0) (Wd_none rfl) (by decide) (fun p8 => ?_)
 refine wa (nt' (sr (wm ?_)))
 refine WM_callW (χ := List Value) (val := fun x => .agg x.toArray) (js := fun x => (iOwn tyStore x ((spec_l7Any_m x0 (spec_l1New_m x0)).1) :: iBox p8 91 [.slice A2 x0.length c3, .int .i64 ((((spec_l7Any_m x0 (spec_l1New_m x0)).2).i : Nat) : Int), .int .i64 ((spec_l7Any_m x0 (spec_l1New_m x0)).2).h] :: [iBox p7 26 [.slice none 0 0, .int .i64 0]])) (cl_fn cb35 rfl) (fun W hm => spec_l7Any_c w.heap.size w [iBox p7 26 [.slice none 0 0, .int .i64 0]] W p8 _ x0 (spec_l1New_m x0) r5 s_0 hm) (Wd_none rfl) (by decide) (fun z9 => ?_)
 have hsd := spec_l7Any_stD x0 (spec_l1New_m x0)
 have HQ := stD_hq hsd
 have hsd2 := hsd.2.1
 obtain ⟨G10, hG10⟩ : ∃ G, G = (spec_l7Any_m x0 (spec_l1New_m x0)) := ⟨_, rfl⟩
 rw [← hG10]
 rw [← hG10] at hsd
 rw [← hG10] at HQ
 rw [← hG10] at hsd2
 refine tyStore_sp ?_
 rintro v11 rfl
 refine WM_form (n := 0) rfl ?_
 rintro A12 c13 rfl m14
 refine WM_alloc type26 rfl (Wd_none rfl) (by decide) (fun p16 => ?_)
 let K1 : List Value := [.slice A2 x0.length c3, .int .i64 ((G10.2.i : Nat) : Int), .int .i64 G10.2.h]
 let I3 : It := iOwn (tSl (tSl tyVersion 51) 72) [.slice A12 G10.1.Segments.length c13] G10.1.Segments
 refine sb 0 [.slice A12 G10.1.Segments.length c13, .int .i64 G10.1.Now] [I3, iBox p8 91 K1, iBox p7 26 [.slice none 0 0, .int .i64 0]] (fun W hm => hm) type26 ?_
 refine nt' (CM_seq ?_)
 let I4 : It := iBox p16 26 [.slice A12 G10.1.Segments.length c13, .int .i64 G10.1.Now]
 refine rb 6 (s := [I4]) (pk [0]) ?_
 refine qt 6 0 1 rfl (fun W hm => rv_loadN (cs := [.slice A12 G10.1.Segments.length c13, .int .i64 G10.1.Now]) underlying26 type26 rfl rfl (hm.boxCells (n := 0) rfl)) ?_
 refine qt 6 1 3 rfl vmv ?_
 refine qt 6 2 7 rfl (fun W hm => rv_loadN (cs := [.slice A12 G10.1.Segments.length c13, .int .i64 G10.1.Now]) underlying26 type26 rfl rfl (hm.boxCells (n := 0) rfl)) ?_
 refine qo 6 3 15 rfl ?_
 let I5 : It := iOwn tyStore [.slice A12 G10.1.Segments.length c13, .int .i64 G10.1.Now] G10.1
 refine WM_items (js := (I5 :: [I4, iBox p8 91 K1, iBox p7 26 [.slice none 0 0, .int .i64 0]])) (fun W hm => Mem.join (is := [I3]) (js := [I4, iBox p8 91 K1, iBox p7 26 [.slice none 0 0, .int .i64 0]]) (fun _ _ hs => tyStore_join (x := G10.1) hs) (hm.pick [1, 0, 2, 3] (by decide))) ?_
 refine WM_callW (χ := Value) (val := fun x => x) (js := fun x => (iOwn (tSl tyUpdate 31) [x] ((spec_l8Updates_m x0 G10.2 G10.1 5).1) :: iBox p8 91 [.slice A2 x0.length c3, .int .i64 ((((spec_l8Updates_m x0 G10.2 G10.1 5).2).i : Nat) : Int), .int .i64 ((spec_l8Updates_m x0 G10.2 G10.1 5).2).h] :: I5 :: [I4, iBox p7 26 [.slice none 0 0, .int .i64 0]])) (cl_fn cb68 rfl) (fun W hm => spec_l8Updates_c w.heap.size w [I4, iBox p7 26 [.slice none 0 0, .int .i64 0]] W p8 _ x0 G10.2 r5 _ G10.1 5 s_0 (stD_sm hsd) (HQ) (⟨by omega, by omega⟩) (hm.pick [2, 0, 1, 3] (by decide))) (Wd_none rfl) (by decide) (fun z17 => ?_)
 obtain ⟨G18, hG18⟩ : ∃ G, G = (spec_l8Updates_m x0 G10.2 G10.1 5) := ⟨_, rfl⟩
 rw [← hG18]
 refine WM_form (n := 0) rfl ?_
 rintro A19 c20 rfl m21
 let K2 : List Value := [.slice A2 x0.length c3, .int .i64 ((G18.2.i : Nat) : Int), .int .i64 G18.2.h]
 let I6 : It := iOwn (tSl tyUpdate 31) [.slice A19 G18.1.length c20] G18.1
 refine WM_items (js := [I5, I6, iBox p8 91 K2, I4, iBox p7 26 [.slice none 0 0, .int .i64 0]]) (pk [2, 0, 1, 3, 4]) ?_
 refine tyStore_sp ?_
 rintro v24 h23
 simp +zetaDelta only [List.cons.injEq] at h23
 obtain ⟨rfl, -, -⟩ := h23
 refine qn (pk [3]) ?_
 refine qo 6 4 31 rfl ?_
 refine sb 0 [.slice A12 G10.1.Segments.length c13, .int .i64 G10.1.Now] [I3, I6, iBox p8 91 K2, I4] (pk [4, 0, 1, 2, 3]) type26 ?_
 refine qn (pk [4]) ?_
 refine qt 6 5 63 rfl (fun W hm => rv_assign rfl) ?_
 refine QB_done (by kernel_rfl) ?_
 refine QM_then (CM_ret ?_)
 have he25 := (show spec_DrawApplyUpdates_m x0 = (G10.1, G18.1) from by subst hG10 hG18; exact rfl)
 let I7 : It := iBox p7 26 [.slice A12 G10.1.Segments.length c13, .int .i64 G10.1.Now]
 refine QM_items (js := (I5 :: [I7, I6, iBox p8 91 K2, I4])) (fun W hm => Mem.join (is := [I3]) (js := [I7, I6, iBox p8 91 K2, I4]) (fun _ _ hs => tyStore_join (x := G10.1) hs) (hm.pick [1, 0, 2, 3, 4] (by decide))) ?_
 refine QM_r2 rfl (RR_cell (n := 1) rfl rfl underlying26 type26 rfl) (RR_tmp rfl) (fun W hm => ⟨([.slice A12 G10.1.Segments.length c13, .int .i64 G10.1.Now], .slice A19 G18.1.length c20), ?_, ?_⟩)
 ·first | rw [he25] | rfl
  try rfl
 ·rw [he25]; exact (hm.pick [0, 2] (by decide))

def impl_isField_m (x0 : Int) : Bool :=
 (impl_within_m x0 0 2)
theorem cb71 : Cb Try.prog 71 := ⟨f71, _, func71, rfl, by decide⟩
theorem impl_isField_c (w : World) (x0 : Int) :
  Calls Try.prog 71 #[.int .i64 x0] w fun e w' => e = .returned (.bool (impl_isField_m x0)) ∧ Below w.heap.size w w' := by
 refine ce1 (L := [(0, .int .i64 x0)]) (N := 5) func71 ?_
 refine sr (wa (nt' (sr (wm ?_))))
 refine wcv (cl_fn cb46 rfl) (fun W hm => impl_within_c W x0 0 2) ?_
 refine wa (nt' (CM_ret ?_))
 exact rtb (h := rfl)

def impl_IsUpdate_m (x0 : DUpdate) : Bool :=
 cond (impl_within_m x0.Row.Id 0 999) (cond (x0.Kind == 1) (cond (impl_IsRow_m x0.Row) (cond (x0.Field == 0) (x0.Value == 0) false) false) (cond (x0.Kind == 2) (cond (((x0.Row.Values.length : Nat) : Int) == 0) (cond (x0.Field == 0) (x0.Value == 0) false) false) (cond (x0.Kind == 3) (cond (((x0.Row.Values.length : Nat) : Int) == 0) (cond (impl_isField_m x0.Field) (impl_within_m x0.Value 0 99) false) false) false))) (cond (x0.Kind == 1) (cond (impl_IsRow_m x0.Row) (cond (x0.Field == 0) (x0.Value == 0) false) false) (cond (x0.Kind == 2) false (cond (x0.Kind == 3) false false)))
theorem cb38 : Cb Try.prog 38 := ⟨f38, _, func38, rfl, by decide⟩
theorem impl_IsUpdate_c (w : World) (z0 : List Value) (x0 : DUpdate) (r_0 : tyUpdate.rd w w.heap.size z0 x0) :
  Calls Try.prog 38 #[.agg z0.toArray] w fun e w' => e = .returned (.bool (impl_IsUpdate_m x0)) ∧ Below w.heap.size w w' := by
 obtain ⟨v1, rfl, r2⟩ := tyUpdate_rd r_0
 obtain ⟨m3, A4, c5, rfl, q6, r7⟩ := rdS_op r2
 refine ce1 (L := [(0, .agg #[.int .i64 x0.Kind, .int .i64 x0.Row.Id, .slice A4 x0.Row.Values.length c5, .int .i64 x0.Field, .int .i64 x0.Value])]) (N := 58) func38 ?_
 refine sr ?_
 refine WM_box rfl (Wd_none rfl) (by decide) (fun p8 => ?_)
 refine wa (nt' (sr ?_))
 refine wv (vf underlying31 rfl type29) ?_
 refine wv (fun W hm => rv_fieldA (o := 1) underlying29 rfl type3 (by decide) rfl rfl) ?_
 refine wv (vl 0 1 underlying3) ?_
 refine wcv (cl_fn cb46 rfl) (fun W hm => impl_within_c W x0.Row.Id 0 999) ?_
 refine wm ?_
 rcases Bool.eq_false_or_eq_true (impl_within_m x0.Row.Id 0 999) with g10 | g10
 ·
  have hw := impl_within_fact g10
  refine wg (vf underlying31 rfl type29) g10 ?_
  refine wg (fun W hm => rv_fieldA (o := 2) underlying29 rfl type27 (by decide) rfl rfl) g10 ?_
  refine wg (vl 0 2 underlying27) g10 ?_
  refine wg (vlen underlying27) g10 ?_
  refine wg (fun W hm => rv_eql rfl rfl) g10 ?_
  refine wv (vpT g10) ?_
  refine wa (nt' (CM_seq (sr ?_)))
  refine wv (vf underlying31 rfl type3) ?_
  refine wv (vl 0 0 underlying3) ?_
  refine nt' (CM_block (sr ?_))
  refine wv (fun W hm => rv_eql rfl rfl) ?_
  refine wa (nt' ?_)
  by_cases h11 : x0.Kind = 1
  ·have g12 := beq_iff_eq.2 h11
   refine CM_condT rfl g12 ?_
   refine sr ?_
   refine wv (vf underlying31 rfl type29) ?_
   refine wv (fun W hm => rv_loadN (cs := [.int .i64 x0.Row.Id, .slice A4 x0.Row.Values.length c5]) underlying29 type29 rfl rfl (hm.boxPart (n := 0) rfl rfl)) ?_
   refine wcv (cl_fn cb47 rfl) (fun W hm => impl_IsRow_c W _ x0.Row (tyRow_mk (x := x0.Row) (hm.rdS0 r7))) ?_
   refine wm ?_
   rcases Bool.eq_false_or_eq_true (impl_IsRow_m x0.Row) with g14 | g14
   ·
    refine wg (vf underlying31 rfl type3) g14 ?_
    refine wg (vl 0 3 underlying3) g14 ?_
    refine wg (fun W hm => rv_eql rfl rfl) g14 ?_
    refine wv (vpT g14) ?_
    refine wm ?_
    by_cases h15 : x0.Field = 0
    ·have g16 := beq_iff_eq.2 h15
     refine wg (vf underlying31 rfl type3) g16 ?_
     refine wg (vl 0 4 underlying3) g16 ?_
     refine wg (fun W hm => rv_eql rfl rfl) g16 ?_
     refine wv (vpT g16) ?_
     refine wa (nt' (CM_ret (QM_block_ret (QM_then_ret ?_))))
     exact rtb (h := cond_t g10 (cond_t g12 (cond_t g14 (cond_t g16 (rfl)))))
    ·have g16 := beq_eq_false_iff_ne.2 h15
     refine ws g16 ?_
     refine ws g16 ?_
     refine ws g16 ?_
     refine wv (vpF g16) ?_
     refine wa (nt' (CM_ret (QM_block_ret (QM_then_ret ?_))))
     exact rtb (h := cond_t g10 (cond_t g12 (cond_t g14 (cond_f g16 (rfl)))))
   ·
    refine ws g14 ?_
    refine ws g14 ?_
    refine ws g14 ?_
    refine wv (vpF g14) ?_
    refine wm ?_
    refine wk ?_
    refine wk ?_
    refine wk ?_
    refine wv (vpF rfl) ?_
    refine wa (nt' (CM_ret (QM_block_ret (QM_then_ret ?_))))
    exact rtb (h := cond_t g10 (cond_t g12 (cond_f g14 (rfl))))
  ·have g12 := beq_eq_false_iff_ne.2 h11
   refine CM_condF rfl g12 ?_
   refine sr ?_
   refine wv (fun W hm => rv_eql rfl rfl) ?_
   refine wa (nt' ?_)
   by_cases h17 : x0.Kind = 2
   ·have g18 := beq_iff_eq.2 h17
    refine CM_condT rfl g18 ?_
    refine sr (wm (wm ?_))
    by_cases h19 : ((x0.Row.Values.length : Nat) : Int) = 0
    ·have g20 := beq_iff_eq.2 h19
     refine wg (vf underlying31 rfl type3) g20 ?_
     refine wg (vl 0 3 underlying3) g20 ?_
     refine wg (fun W hm => rv_eql rfl rfl) g20 ?_
     refine wv (vpT g20) ?_
     refine wm ?_
     by_cases h21 : x0.Field = 0
     ·have g22 := beq_iff_eq.2 h21
      refine wg (vf underlying31 rfl type3) g22 ?_
      refine wg (vl 0 4 underlying3) g22 ?_
      refine wg (fun W hm => rv_eql rfl rfl) g22 ?_
      refine wv (vpT g22) ?_
      refine wa (nt' (CM_ret (QM_block_ret (QM_then_ret ?_))))
      exact rtb (h := cond_t g10 (cond_f g12 (cond_t g18 (cond_t g20 (cond_t g22 (rfl))))))
     ·have g22 := beq_eq_false_iff_ne.2 h21
      refine ws g22 ?_
      refine ws g22 ?_
      refine ws g22 ?_
      refine wv (vpF g22) ?_
      refine wa (nt' (CM_ret (QM_block_ret (QM_then_ret ?_))))
      exact rtb (h := cond_t g10 (cond_f g12 (cond_t g18 (cond_t g20 (cond_f g22 (rfl))))))
    ·have g20 := beq_eq_false_iff_ne.2 h19
     refine ws g20 ?_
     refine ws g20 ?_
     refine ws g20 ?_
     refine wv (vpF g20) ?_
     refine wm ?_
     refine wk ?_
     refine wk ?_
     refine wk ?_
     refine wv (vpF rfl) ?_
     refine wa (nt' (CM_ret (QM_block_ret (QM_then_ret ?_))))
     exact rtb (h := cond_t g10 (cond_f g12 (cond_t g18 (cond_f g20 (rfl)))))
   ·have g18 := beq_eq_false_iff_ne.2 h17
    refine CM_condF rfl g18 ?_
    refine sr ?_
    refine wv (fun W hm => rv_eql rfl rfl) ?_
    refine wa (nt' ?_)
    by_cases h23 : x0.Kind = 3
    ·have g24 := beq_iff_eq.2 h23
     refine CM_condT rfl g24 ?_
     refine sr (wm (wm ?_))
     by_cases h25 : ((x0.Row.Values.length : Nat) : Int) = 0
     ·have g26 := beq_iff_eq.2 h25
      refine wg (vf underlying31 rfl type3) g26 ?_
      refine wg (vl 0 3 underlying3) g26 ?_
      refine WM_callV (cl_fn cb71 rfl) (fun W hm => impl_isField_c W x0.Field) (Wd_some rfl rfl rfl (bw g26 rfl)) (by decide) ?_
      refine wv (vpT g26) ?_
      refine wm ?_
      rcases Bool.eq_false_or_eq_true (impl_isField_m x0.Field) with g28 | g28
      ·
       refine wg (vf underlying31 rfl type3) g28 ?_
       refine wg (vl 0 4 underlying3) g28 ?_
       refine WM_callV (cl_fn cb46 rfl) (fun W hm => impl_within_c W x0.Value 0 99) (Wd_some rfl rfl rfl (bw g28 rfl)) (by decide) ?_
       refine wv (vpT g28) ?_
       refine wa (nt' (CM_ret (QM_block_ret (QM_then_ret ?_))))
       exact rtb (h := cond_t g10 (cond_f g12 (cond_f g18 (cond_t g24 (cond_t g26 (cond_t g28 (rfl)))))))
      ·
       refine ws g28 ?_
       refine ws g28 ?_
       refine ws g28 ?_
       refine wv (vpF g28) ?_
       refine wa (nt' (CM_ret (QM_block_ret (QM_then_ret ?_))))
       exact rtb (h := cond_t g10 (cond_f g12 (cond_f g18 (cond_t g24 (cond_t g26 (cond_f g28 (rfl)))))))
     ·have g26 := beq_eq_false_iff_ne.2 h25
      refine ws g26 ?_
      refine ws g26 ?_
      refine ws g26 ?_
      refine wv (vpF g26) ?_
      refine wm ?_
      refine wk ?_
      refine wk ?_
      refine wk ?_
      refine wv (vpF rfl) ?_
      refine wa (nt' (CM_ret (QM_block_ret (QM_then_ret ?_))))
      exact rtb (h := cond_t g10 (cond_f g12 (cond_f g18 (cond_t g24 (cond_f g26 (rfl))))))
    ·have g24 := beq_eq_false_iff_ne.2 h23
     refine CM_condF rfl g24 ?_
     refine CM_skip (QM_block_normal (QM_then (sr (wa (nt' (CM_ret ?_))))))
     exact rtb (h := cond_t g10 (cond_f g12 (cond_f g18 (cond_f g24 (rfl)))))
 ·
  refine ws g10 ?_
  refine ws g10 ?_
  refine ws g10 ?_
  refine ws g10 ?_
  refine ws g10 ?_
  refine wv (vpF g10) ?_
  refine wa (nt' (CM_seq (sr ?_)))
  refine wv (vf underlying31 rfl type3) ?_
  refine wv (vl 0 0 underlying3) ?_
  refine nt' (CM_block (sr ?_))
  refine wv (fun W hm => rv_eql rfl rfl) ?_
  refine wa (nt' ?_)
  by_cases h29 : x0.Kind = 1
  ·have g30 := beq_iff_eq.2 h29
   refine CM_condT rfl g30 ?_
   refine sr ?_
   refine wv (vf underlying31 rfl type29) ?_
   refine wv (fun W hm => rv_loadN (cs := [.int .i64 x0.Row.Id, .slice A4 x0.Row.Values.length c5]) underlying29 type29 rfl rfl (hm.boxPart (n := 0) rfl rfl)) ?_
   refine wcv (cl_fn cb47 rfl) (fun W hm => impl_IsRow_c W _ x0.Row (tyRow_mk (x := x0.Row) (hm.rdS0 r7))) ?_
   refine wm ?_
   rcases Bool.eq_false_or_eq_true (impl_IsRow_m x0.Row) with g32 | g32
   ·
    refine wg (vf underlying31 rfl type3) g32 ?_
    refine wg (vl 0 3 underlying3) g32 ?_
    refine wg (fun W hm => rv_eql rfl rfl) g32 ?_
    refine wv (vpT g32) ?_
    refine wm ?_
    by_cases h33 : x0.Field = 0
    ·have g34 := beq_iff_eq.2 h33
     refine wg (vf underlying31 rfl type3) g34 ?_
     refine wg (vl 0 4 underlying3) g34 ?_
     refine wg (fun W hm => rv_eql rfl rfl) g34 ?_
     refine wv (vpT g34) ?_
     refine wa (nt' (CM_ret (QM_block_ret (QM_then_ret ?_))))
     exact rtb (h := cond_f g10 (cond_t g30 (cond_t g32 (cond_t g34 (rfl)))))
    ·have g34 := beq_eq_false_iff_ne.2 h33
     refine ws g34 ?_
     refine ws g34 ?_
     refine ws g34 ?_
     refine wv (vpF g34) ?_
     refine wa (nt' (CM_ret (QM_block_ret (QM_then_ret ?_))))
     exact rtb (h := cond_f g10 (cond_t g30 (cond_t g32 (cond_f g34 (rfl)))))
   ·
    refine ws g32 ?_
    refine ws g32 ?_
    refine ws g32 ?_
    refine wv (vpF g32) ?_
    refine wm ?_
    refine wk ?_
    refine wk ?_
    refine wk ?_
    refine wv (vpF rfl) ?_
    refine wa (nt' (CM_ret (QM_block_ret (QM_then_ret ?_))))
    exact rtb (h := cond_f g10 (cond_t g30 (cond_f g32 (rfl))))
  ·have g30 := beq_eq_false_iff_ne.2 h29
   refine CM_condF rfl g30 ?_
   refine sr ?_
   refine wv (fun W hm => rv_eql rfl rfl) ?_
   refine wa (nt' ?_)
   by_cases h35 : x0.Kind = 2
   ·have g36 := beq_iff_eq.2 h35
    refine CM_condT rfl g36 ?_
    refine sr (wm (wm ?_))
    refine wk ?_
    refine wk ?_
    refine wk ?_
    refine wv (vpF rfl) ?_
    refine wm ?_
    refine wk ?_
    refine wk ?_
    refine wk ?_
    refine wv (vpF rfl) ?_
    refine wa (nt' (CM_ret (QM_block_ret (QM_then_ret ?_))))
    exact rtb (h := cond_f g10 (cond_f g30 (cond_t g36 (rfl))))
   ·have g36 := beq_eq_false_iff_ne.2 h35
    refine CM_condF rfl g36 ?_
    refine sr ?_
    refine wv (fun W hm => rv_eql rfl rfl) ?_
    refine wa (nt' ?_)
    by_cases h37 : x0.Kind = 3
    ·have g38 := beq_iff_eq.2 h37
     refine CM_condT rfl g38 ?_
     refine sr (wm (wm ?_))
     refine wk ?_
     refine wk ?_
     refine wk ?_
     refine wv (vpF rfl) ?_
     refine wm ?_
     refine wk ?_
     refine wk ?_
     refine wk ?_
     refine wv (vpF rfl) ?_
     refine wa (nt' (CM_ret (QM_block_ret (QM_then_ret ?_))))
     exact rtb (h := cond_f g10 (cond_f g30 (cond_f g36 (cond_t g38 (rfl)))))
    ·have g38 := beq_eq_false_iff_ne.2 h37
     refine CM_condF rfl g38 ?_
     refine CM_skip (QM_block_normal (QM_then (sr (wa (nt' (CM_ret ?_))))))
     exact rtb (h := cond_f g10 (cond_f g30 (cond_f g36 (cond_f g38 (rfl)))))

def impl_findAlive_b2 (x0 : DStore) (x1 : Int) (k9 : Nat) (k27 : Nat) : (Int × Int) ⊕ (Unit) :=
 cond (((gt (gt x0.Segments k9) k27).Id) == x1) (cond (((gt (gt x0.Segments k9) k27).Died) == (-1)) (Sum.inl (((k9 : Nat) : Int), ((k27 : Nat) : Int))) (Sum.inr ())) (Sum.inr ())
def impl_findAlive_b1 (x0 : DStore) (x1 : Int) (k9 : Nat) : (Int × Int) ⊕ (Unit) :=
 Sum.elim Sum.inl (fun (s : Unit) => Sum.inr ()) (rng (R := (Int × Int)) (fun k (_ : Unit) => impl_findAlive_b2 x0 x1 k9 k) (((gt x0.Segments k9)).length - 0) 0 ())
def impl_findAlive_m (x0 : DStore) (x1 : Int) : (Int × Int) :=
 Sum.elim id (fun (s : Unit) => ((-1), (-1))) (rng (R := (Int × Int)) (fun k (_ : Unit) => impl_findAlive_b1 x0 x1 k) (x0.Segments.length - 0) 0 ())
theorem cb39 : Cb Try.prog 39 := ⟨f39, _, func39, rfl, by decide⟩
theorem impl_findAlive_c (w : World) (z0 : List Value) (x0 : DStore) (x1 : Int) (r_0 : tyStore.rd w w.heap.size z0 x0) :
  Calls Try.prog 39 #[.agg z0.toArray, .int .i64 x1] w fun e w' => e = .returned (.tuple #[.int .i64 ((impl_findAlive_m x0 x1).1), .int .i64 ((impl_findAlive_m x0 x1).2)]) ∧ Below w.heap.size w w' := by
 obtain ⟨v1, rfl, r2⟩ := tyStore_rd r_0
 obtain ⟨m3, A4, c5, rfl, q6, r7⟩ := rdS_op r2
 refine ce2 (L := [(0, .agg #[.slice A4 x0.Segments.length c5, .int .i64 x0.Now]), (1, .int .i64 x1)]) (N := 38) func39 ?_
 refine sr ?_
 refine WM_box rfl (Wd_none rfl) (by decide) (fun p8 => ?_)
 refine wa (wa (nt' (CM_seq (sr ?_))))
 refine wv (vf underlying26 rfl type24) ?_
 refine wv (vl 0 0 underlying24) ?_
 refine wv (vlen underlying24) ?_
 refine wm (nt' (CM_block ?_))
 let F1 := fun k (_ : Unit) => impl_findAlive_b1 x0 x1 k
 let R3 := rng (R := (Int × Int)) F1
 let I6 : It := iBox p8 26 [.slice A4 x0.Segments.length c5, .int .i64 x0.Now]
 refine CM_loop (σ := Nat × (Unit) × (Unit)) (fun s => [(1, .int .i64 x1), (11, .slice A4 x0.Segments.length c5), (12, .int .i64 ((x0.Segments.length : Nat) : Int)), (13, .int .i64 ((s.1 : Nat) : Int))]) (fun s => [I6]) (fun s => s.1 ≤ x0.Segments.length ∧ R3 (x0.Segments.length - s.1) s.1 s.2.1 = R3 (x0.Segments.length - 0) 0 ()) (fun s => x0.Segments.length - s.1) (0, (), ()) sl4 (fun W hm => hm) ⟨(by omega), rfl⟩ ?_
 rintro ⟨k9, ⟨⟩, ⟨⟩⟩ H12
 obtain ⟨hk10, hF11⟩ : k9 ≤ x0.Segments.length ∧ R3 (x0.Segments.length - k9) k9 () = R3 (x0.Segments.length - 0) 0 () := H12
 show CM Try.prog 38 _ _ _ _ [(1, .int .i64 x1), (11, .slice A4 x0.Segments.length c5), (12, .int .i64 ((x0.Segments.length : Nat) : Int)), (13, .int .i64 ((k9 : Nat) : Int))] [I6]
 refine sr ?_
 refine wv vlss ?_
 refine nt' (CM_seq ?_)
 by_cases hl13 : k9 < x0.Segments.length
 ·have g14 := dlT hl13
  refine CM_condT rfl g14 ?_
  refine CM_skip (QM_then (CM_seq (CM_block (sr (wm ?_)))))
  obtain ⟨a15, rfl, hb16, he17⟩ := q6 (by omega)
  refine wv (vix 1 k9 underlying24 type72) ?_
  obtain ⟨_, e19, hc18⟩ := he17 k9 _ (gt_some (show k9 < x0.Segments.length from by omega))
  obtain ⟨v20, rfl, r21⟩ := e19
  obtain ⟨m22, A23, c24, rfl, q25, r26⟩ := rdS_op r21
  refine wv (fun W hm => rv_load underlying72 rfl rfl ((hm.cell0 (show (a15.add (k9 * 1)).block < w.heap.size from by rw [add_block]; exact hb16.1)).trans (hc18 0 _ rfl))) ?_
  refine wa (wa (nt' (sr (wm ?_))))
  refine wv (vlen underlying72) ?_
  refine wm (nt' (CM_block ?_))
  let F2 := fun k (_ : Unit) => impl_findAlive_b2 x0 x1 k9 k
  let R4 := rng (R := (Int × Int)) F2
  let I7 : It := iBox p8 26 [.slice (some a15) x0.Segments.length c5, .int .i64 x0.Now]
  refine CM_loop (σ := Nat × (Unit) × (Unit)) (fun s => [(1, .int .i64 x1), (6, .int .i64 ((k9 : Nat) : Int)), (11, .slice (some a15) x0.Segments.length c5), (12, .int .i64 ((x0.Segments.length : Nat) : Int)), (13, .int .i64 ((k9 : Nat) : Int)), (18, .slice A23 ((gt x0.Segments k9)).length c24), (19, .int .i64 ((((gt x0.Segments k9)).length : Nat) : Int)), (20, .int .i64 ((s.1 : Nat) : Int))]) (fun s => [I7]) (fun s => s.1 ≤ ((gt x0.Segments k9)).length ∧ R4 (((gt x0.Segments k9)).length - s.1) s.1 s.2.1 = R4 (((gt x0.Segments k9)).length - 0) 0 ()) (fun s => ((gt x0.Segments k9)).length - s.1) (0, (), ()) sl8 (fun W hm => hm) ⟨(by omega), rfl⟩ ?_
  rintro ⟨k27, ⟨⟩, ⟨⟩⟩ H30
  obtain ⟨hk28, hF29⟩ : k27 ≤ ((gt x0.Segments k9)).length ∧ R4 (((gt x0.Segments k9)).length - k27) k27 () = R4 (((gt x0.Segments k9)).length - 0) 0 () := H30
  show CM Try.prog 38 _ _ _ _ [(1, .int .i64 x1), (6, .int .i64 ((k9 : Nat) : Int)), (11, .slice (some a15) x0.Segments.length c5), (12, .int .i64 ((x0.Segments.length : Nat) : Int)), (13, .int .i64 ((k9 : Nat) : Int)), (18, .slice A23 ((gt x0.Segments k9)).length c24), (19, .int .i64 ((((gt x0.Segments k9)).length : Nat) : Int)), (20, .int .i64 ((k27 : Nat) : Int))] [I7]
  refine sr ?_
  refine wv vlss ?_
  refine nt' (CM_seq ?_)
  by_cases hl31 : k27 < ((gt x0.Segments k9)).length
  ·have g32 := dlT hl31
   refine CM_condT rfl g32 ?_
   refine CM_skip (QM_then (CM_seq (CM_block (sr (wm ?_)))))
   obtain ⟨a33, rfl, hb34, he35⟩ := q25 (by omega)
   refine wv (vix 4 k27 underlying72 type51) ?_
   obtain ⟨_, e39, hc36⟩ := he35 k27 _ (gt_some (show k27 < ((gt x0.Segments k9)).length from by omega))
   obtain ⟨v37, rfl, r38⟩ := tyVersion_rd e39
   obtain ⟨m40, A41, c42, rfl, q43, r44⟩ := rdS_op r38
   let K5 : List Value := [.int .i64 ((gt (gt x0.Segments k9) k27).Id), .slice A41 ((gt (gt x0.Segments k9) k27).Values).length c42, .int .i64 ((gt (gt x0.Segments k9) k27).Born), .int .i64 ((gt (gt x0.Segments k9) k27).Died)]
   refine wv (fun W hm => rv_loadN (cs := K5) underlying51 type51 rfl rfl (hm.elCells (show (a33.add (k27 * 4)).block < w.heap.size from by rw [add_block]; exact hb34.1) hc36)) ?_
   refine WM_alloc type51 rfl (Wd_none rfl) (by decide) (fun p45 => ?_)
   refine wa ?_
   refine sb 0 K5 [I7] (fun W hm => hm) type51 ?_
   refine nt' (sr ?_)
   refine wv (vf underlying51 rfl type3) ?_
   refine wv (vl 0 0 underlying3) ?_
   refine wm ?_
   refine wv (fun W hm => rv_eql rfl rfl) ?_
   refine wm ?_
   by_cases h46 : ((gt (gt x0.Segments k9) k27).Id) = x1
   ·have g47 := beq_iff_eq.2 h46
    refine wg (vf underlying51 rfl type3) g47 ?_
    refine wg (vl 0 3 underlying3) g47 ?_
    refine wg (fun W hm => rv_eql rfl rfl) g47 ?_
    refine wv (vpT g47) ?_
    refine nt' ?_
    by_cases h48 : ((gt (gt x0.Segments k9) k27).Died) = (-1)
    ·have g49 := beq_iff_eq.2 h48
     refine CM_condT rfl g49 ?_
     refine sr (wm (wm (wa (wa (nt' (CM_ret (QM_block_ret (QM_then_ret (QM_then_ret (QM_block_ret (QM_block_ret (QM_then_ret (QM_then_ret (QM_block_ret (QM_then_ret ?_)))))))))))))))
     have he50 := (show impl_findAlive_m x0 x1 = (((k9 : Nat) : Int), ((k27 : Nat) : Int)) from fin_inl (rng_ret (body := F1) (k := k9) (s := ()) (show k9 < x0.Segments.length from by omega) (fin_inl (rng_ret (body := F2) (k := k27) (s := ()) (show k27 < ((gt x0.Segments k9)).length from by omega) (cond_t g47 (cond_t g49 (rfl))) hF29) rfl) hF11) rfl)
     exact QM_r2 rfl (RR_tmp rfl) (RR_tmp rfl) (fun W hm => ⟨by rw [he50], hm.below⟩)
    ·have g49 := beq_eq_false_iff_ne.2 h48
     refine CM_condF rfl g49 ?_
     refine CM_skip (QM_block_normal (QM_then (CM_region ?_)))
     refine wv (vadN k27 1 (by omega)) ?_
     refine wm (WM_nil ?_)
     have hn51 := rng_next (R := (Int × Int)) (body := F2) (k := k27) (s := ()) (s' := ()) (show k27 < ((gt x0.Segments k9)).length from by omega) (cond_t g47 (cond_f g49 (rfl))) hF29
     exact QM_round (k27 + 1, (), ()) sl8 (pk [1]) ⟨(by omega), hn51⟩ (show ((gt x0.Segments k9)).length - (k27 + 1) < ((gt x0.Segments k9)).length - k27 from by omega)
   ·have g47 := beq_eq_false_iff_ne.2 h46
    refine ws g47 ?_
    refine ws g47 ?_
    refine ws g47 ?_
    refine wv (vpF g47) ?_
    refine nt' ?_
    refine CM_condF rfl rfl ?_
    refine CM_skip (QM_block_normal (QM_then (CM_region ?_)))
    refine wv (vadN k27 1 (by omega)) ?_
    refine wm (WM_nil ?_)
    have hn52 := rng_next (R := (Int × Int)) (body := F2) (k := k27) (s := ()) (s' := ()) (show k27 < ((gt x0.Segments k9)).length from by omega) (cond_f g47 (rfl)) hF29
    exact QM_round (k27 + 1, (), ()) sl8 (pk [1]) ⟨(by omega), hn52⟩ (show ((gt x0.Segments k9)).length - (k27 + 1) < ((gt x0.Segments k9)).length - k27 from by omega)
  ·have g32 := dlF hl31
   refine CM_condF rfl g32 ?_
   refine CM_exit (QM_then_exit (QM_then_exit ?_))
   have hE53 : R4 (((gt x0.Segments k9)).length - 0) 0 () = Sum.inr () := rng_end hl31 hF29
   refine QM_block_hit (QM_block_normal (QM_then (CM_region ?_)))
   refine wv (vadN k9 1 (by omega)) ?_
   refine wm (WM_nil ?_)
   have hn54 := rng_next (R := (Int × Int)) (body := F1) (k := k9) (s := ()) (s' := ()) (show k9 < x0.Segments.length from by omega) (fin_inr hE53 (rfl)) hF11
   exact QM_round (k9 + 1, (), ()) sl4 (fun W hm => hm) ⟨(by omega), hn54⟩ (rl (by omega))
 ·have g14 := dlF hl13
  refine CM_condF rfl g14 ?_
  refine CM_exit (QM_then_exit (QM_then_exit ?_))
  have hE55 : R3 (x0.Segments.length - 0) 0 () = Sum.inr () := rng_end hl13 hF11
  refine QM_block_hit (QM_then (sr (wa (wa (nt' (CM_ret ?_))))))
  have he56 := (show impl_findAlive_m x0 x1 = ((-1), (-1)) from fin_inr hE55 (rfl))
  exact QM_r2 rfl (RR_tmp rfl) (RR_tmp rfl) (fun W hm => ⟨by rw [he56], hm.below⟩)

theorem within_same (x a b : Int) : impl_within_m x a b = spec_l1In_m x a b := rfl
theorem IsRow_same (x : DRow) : impl_IsRow_m x = spec_IsRow_m x := rfl
theorem isField_same (x : Int) : impl_isField_m x = spec_l1In_m x 0 2 := rfl
theorem IsUpdate_same (x : DUpdate) : impl_IsUpdate_m x = spec_IsUpdate_m x := by
  unfold impl_IsUpdate_m spec_IsUpdate_m
  rw [IsRow_same, within_same, within_same, isField_same]
  cases spec_l1In_m x.Row.Id 0 999 <;> cases h1 : x.Kind == 1 <;> cases x.Kind == 2 <;> cases x.Kind == 3 <;> cases spec_IsRow_m x.Row <;> cases (((x.Row.Values.length : Nat) : Int) == 0) <;> rfl
theorem Version_ord {v : DVersion} {now : Int} (hn : now ≤ 100000) (h : spec_l7Version_m v now = true) : 0 ≤ v.Born ∧ v.Born ≤ now ∧ (v.Died = -1 ∨ (v.Born + 1 ≤ v.Died ∧ v.Died ≤ now)) := by
  rw [Version_eq] at h
  simp only [Bool.and_eq_true, Bool.or_eq_true, decide_eq_true_eq, beq_iff_eq] at h
  obtain ⟨⟨_, h1, h2⟩, h3⟩ := h
  rw [wrap_id (by omega) (by omega)] at h3
  exact ⟨h1, h2, h3⟩
theorem Visible_eq (v : DVersion) (t : Int) : impl_IsVisible_m v t = decide (v.Born ≤ t ∧ (v.Died = -1 ∨ t < v.Died)) := by
  unfold impl_IsVisible_m
  by_cases h1 : v.Born ≤ t <;> by_cases h2 : v.Died = -1 <;> by_cases h3 : t < v.Died <;> simp [h1, h2, h3]
theorem Apart_eq (v w : DVersion) : spec_l7Apart_m v w = decide (v.Id ≠ w.Id ∨ (v.Died ≠ -1 ∧ v.Died ≤ w.Born) ∨ (w.Died ≠ -1 ∧ w.Died ≤ v.Born)) := by
  unfold spec_l7Apart_m
  by_cases h1 : v.Id = w.Id <;> by_cases h2 : v.Died = -1 <;> by_cases h3 : w.Died = -1 <;> by_cases h4 : v.Died ≤ w.Born <;> simp [h1, h2, h3, h4] <;> (try rw [h2] at h4) <;> (try simp_all) <;> (try rfl)
theorem apart_meet {v w : DVersion} {now : Int} (hn : now ≤ 100000) (hv : spec_l7Version_m v now = true) (hw : spec_l7Version_m w now = true) : spec_l7Apart_m v w = !(v.Id == w.Id && impl_meetInTime_m v w) := by
  obtain ⟨a1, a2, a3⟩ := Version_ord hn hv
  obtain ⟨b1, b2, b3⟩ := Version_ord hn hw
  have hm : impl_meetInTime_m v w = decide ((v.Born ≤ w.Born ∧ (v.Died = -1 ∨ w.Born < v.Died)) ∨ (w.Born ≤ v.Born ∧ (w.Died = -1 ∨ v.Born < w.Died))) := by
    unfold impl_meetInTime_m
    rw [Visible_eq, Visible_eq]
    by_cases h1 : (v.Born ≤ w.Born ∧ (v.Died = -1 ∨ w.Born < v.Died)) <;> by_cases h2 : (w.Born ≤ v.Born ∧ (w.Died = -1 ∨ v.Born < w.Died)) <;> simp [h1, h2]
  rw [hm, Apart_eq]
  have hb : (v.Id == w.Id) = decide (v.Id = w.Id) := by by_cases h : v.Id = w.Id <;> simp [h]
  rw [hb, ← Bool.decide_and, ← decide_not]
  apply decide_eq_decide.2
  omega
theorem seenF_same {now : Int} (hn : now ≤ 100000) : ∀ (l seen : List DVersion), (∀ w ∈ seen, spec_l7Version_m w now = true) → seenF (okI now) seen l = seenF (okS now) seen l
  | [], _, _ => rfl
  | v :: l, seen, hs => by
    show (okI now seen v && seenF (okI now) (seen ++ [v]) l) = (okS now seen v && seenF (okS now) (seen ++ [v]) l)
    unfold okI okS
    cases hv : spec_l7Version_m v now with
    | false => rfl
    | true =>
      have e : (seen.all fun w => !(v.Id == w.Id && impl_meetInTime_m v w)) = seen.all fun w => spec_l7Apart_m v w := by
        rw [Bool.eq_iff_iff, List.all_eq_true, List.all_eq_true]
        exact ⟨fun h w hw => by rw [apart_meet hn hv (hs w hw)]; exact h w hw, fun h w hw => by rw [← apart_meet hn hv (hs w hw)]; exact h w hw⟩
      have ih := seenF_same hn l (seen ++ [v]) (fun w hw => by
        rcases List.mem_append.1 hw with h | h
        · exact hs w h
        · rw [List.mem_singleton.1 h]; exact hv)
      unfold okI okS at ih
      rw [e, ih]
theorem IsStore_same (x : DStore) : impl_IsStore_m x = spec_IsStore_m x := by
  rw [impl_IsStore_form, spec_IsStore_form]
  unfold storeB
  by_cases h : 0 ≤ x.Now ∧ x.Now ≤ 100000
  · rw [seenF_same h.2 _ [] (fun w hw => by cases hw)]
  · rw [decide_eq_false h, Bool.and_false, Bool.false_and]
    rfl
theorem impl_Find_fact {x : DStore} (h : impl_IsStore_m x = true) (id : Int) : (impl_findAlive_m x id).1 < 0 ∨ (0 ≤ (impl_findAlive_m x id).1 ∧ (impl_findAlive_m x id).1.toNat < x.Segments.length ∧ 0 ≤ (impl_findAlive_m x id).2 ∧ (impl_findAlive_m x id).2.toNat < (gt x.Segments (impl_findAlive_m x id).1.toNat).length ∧ (gt (gt x.Segments (impl_findAlive_m x id).1.toNat) (impl_findAlive_m x id).2.toNat).Values.length = 3 ∧ (impl_findAlive_m x id).1 < (x.Segments.length : Int) ∧ (impl_findAlive_m x id).2 < ((gt x.Segments (impl_findAlive_m x id).1.toNat).length : Int)) := spec_Find_fact (by rw [← IsStore_same]; exact h) id
theorem impl_Update_fact {u : DUpdate} (h : impl_IsUpdate_m u = true) : (u.Kind = 1 ∨ u.Kind = 2 ∨ u.Kind = 3) ∧ (u.Kind = 3 → 0 ≤ u.Field ∧ u.Field ≤ 2) ∧ (u.Kind = 1 → u.Row.Values.length = 3) ∧ (u.Kind ≠ 1 → u.Row.Values.length = 0) := spec_Update_fact (by rw [← IsUpdate_same]; exact h)
abbrev impl_ApplyUpdate_v1 (x0 : DStore) (x1 : DUpdate) : (List DVersion) :=
 ((gt x0.Segments (((impl_findAlive_m x0 x1.Row.Id).1).toNat)).set (((impl_findAlive_m x0 x1.Row.Id).2).toNat) (⟨(gt (gt x0.Segments (((impl_findAlive_m x0 x1.Row.Id).1).toNat)) (((impl_findAlive_m x0 x1.Row.Id).2).toNat)).Id, (gt (gt x0.Segments (((impl_findAlive_m x0 x1.Row.Id).1).toNat)) (((impl_findAlive_m x0 x1.Row.Id).2).toNat)).Values, (gt (gt x0.Segments (((impl_findAlive_m x0 x1.Row.Id).1).toNat)) (((impl_findAlive_m x0 x1.Row.Id).2).toNat)).Born, (IntKind.i64.wrap (x0.Now + 1))⟩ : DVersion))
abbrev impl_ApplyUpdate_v2 (x0 : DStore) (x1 : DUpdate) (k95 : Nat) : (List DVersion) :=
 ((gt (x0.Segments.set (((impl_findAlive_m x0 x1.Row.Id).1).toNat) (impl_ApplyUpdate_v1 x0 x1)) k95) ++ [(⟨x1.Row.Id, (((gt (gt x0.Segments (((impl_findAlive_m x0 x1.Row.Id).1).toNat)) (((impl_findAlive_m x0 x1.Row.Id).2).toNat)).Values).set (x1.Field.toNat) x1.Value), (IntKind.i64.wrap (x0.Now + 1)), (-1)⟩ : DVersion)])
def impl_ApplyUpdate_b1 (x0 : DStore) (x1 : DUpdate) (k95 : Nat) : (DStore × Bool) ⊕ (Unit) :=
 cond (decide ((((gt (x0.Segments.set (((impl_findAlive_m x0 x1.Row.Id).1).toNat) (impl_ApplyUpdate_v1 x0 x1)) k95).length : Nat) : Int) < 4)) (Sum.inl ((⟨((x0.Segments.set (((impl_findAlive_m x0 x1.Row.Id).1).toNat) (impl_ApplyUpdate_v1 x0 x1)).set k95 (impl_ApplyUpdate_v2 x0 x1 k95)), (IntKind.i64.wrap (x0.Now + 1))⟩ : DStore), true)) (Sum.inr ())
abbrev impl_ApplyUpdate_v3 (x0 : DStore) (x1 : DUpdate) (k128 : Nat) : (List DVersion) :=
 ((gt (x0.Segments.set (((impl_findAlive_m x0 x1.Row.Id).1).toNat) (impl_ApplyUpdate_v1 x0 x1)) k128) ++ [(⟨x1.Row.Id, ((gt (gt x0.Segments (((impl_findAlive_m x0 x1.Row.Id).1).toNat)) (((impl_findAlive_m x0 x1.Row.Id).2).toNat)).Values), (IntKind.i64.wrap (x0.Now + 1)), (-1)⟩ : DVersion)])
def impl_ApplyUpdate_b2 (x0 : DStore) (x1 : DUpdate) (k128 : Nat) : (DStore × Bool) ⊕ (Unit) :=
 cond (decide ((((gt (x0.Segments.set (((impl_findAlive_m x0 x1.Row.Id).1).toNat) (impl_ApplyUpdate_v1 x0 x1)) k128).length : Nat) : Int) < 4)) (Sum.inl ((⟨((x0.Segments.set (((impl_findAlive_m x0 x1.Row.Id).1).toNat) (impl_ApplyUpdate_v1 x0 x1)).set k128 (impl_ApplyUpdate_v3 x0 x1 k128)), (IntKind.i64.wrap (x0.Now + 1))⟩ : DStore), true)) (Sum.inr ())
def impl_ApplyUpdate_b3 (x0 : DStore) (x1 : DUpdate) (k164 : Nat) : (DStore × Bool) ⊕ (Unit) :=
 cond (decide ((((gt x0.Segments k164).length : Nat) : Int) < 4)) (Sum.inl ((⟨(x0.Segments.set k164 ((gt x0.Segments k164) ++ [(⟨x1.Row.Id, (x1.Row.Values.set (x1.Field.toNat) x1.Value), (IntKind.i64.wrap (x0.Now + 1)), (-1)⟩ : DVersion)])), (IntKind.i64.wrap (x0.Now + 1))⟩ : DStore), true)) (Sum.inr ())
def impl_ApplyUpdate_b4 (x0 : DStore) (x1 : DUpdate) (k198 : Nat) : (DStore × Bool) ⊕ (Unit) :=
 cond (decide ((((gt x0.Segments k198).length : Nat) : Int) < 4)) (Sum.inl ((⟨(x0.Segments.set k198 ((gt x0.Segments k198) ++ [(⟨x1.Row.Id, x1.Row.Values, (IntKind.i64.wrap (x0.Now + 1)), (-1)⟩ : DVersion)])), (IntKind.i64.wrap (x0.Now + 1))⟩ : DStore), true)) (Sum.inr ())
def impl_ApplyUpdate_m (x0 : DStore) (x1 : DUpdate) : (DStore × Bool) :=
 cond (impl_IsStore_m x0) (cond (impl_IsUpdate_m x1) (cond (x0.Now == 100000) (x0, false) (cond ((decide (0 ≤ ((impl_findAlive_m x0 x1.Row.Id).1))) == (x1.Kind == 1)) (x0, false) (cond (decide (0 ≤ ((impl_findAlive_m x0 x1.Row.Id).1))) (cond (x1.Kind == 3) (cond (x1.Kind == 2) ((⟨(x0.Segments.set (((impl_findAlive_m x0 x1.Row.Id).1).toNat) (impl_ApplyUpdate_v1 x0 x1)), (IntKind.i64.wrap (x0.Now + 1))⟩ : DStore), true) (Sum.elim id (fun (s : Unit) => (x0, false)) (rng (R := (DStore × Bool)) (fun k (_ : Unit) => impl_ApplyUpdate_b1 x0 x1 k) (x0.Segments.length - 0) 0 ()))) (cond (x1.Kind == 2) ((⟨(x0.Segments.set (((impl_findAlive_m x0 x1.Row.Id).1).toNat) (impl_ApplyUpdate_v1 x0 x1)), (IntKind.i64.wrap (x0.Now + 1))⟩ : DStore), true) (Sum.elim id (fun (s : Unit) => (x0, false)) (rng (R := (DStore × Bool)) (fun k (_ : Unit) => impl_ApplyUpdate_b2 x0 x1 k) (x0.Segments.length - 0) 0 ())))) (cond (x1.Kind == 3) (cond (x1.Kind == 2) ((⟨x0.Segments, (IntKind.i64.wrap (x0.Now + 1))⟩ : DStore), true) (Sum.elim id (fun (s : Unit) => (x0, false)) (rng (R := (DStore × Bool)) (fun k (_ : Unit) => impl_ApplyUpdate_b3 x0 x1 k) (x0.Segments.length - 0) 0 ()))) (cond (x1.Kind == 2) ((⟨x0.Segments, (IntKind.i64.wrap (x0.Now + 1))⟩ : DStore), true) (Sum.elim id (fun (s : Unit) => (x0, false)) (rng (R := (DStore × Bool)) (fun k (_ : Unit) => impl_ApplyUpdate_b4 x0 x1 k) (x0.Segments.length - 0) 0 ()))))))) (x0, false)) (x0, false)
theorem cb8 : Cb Try.prog 8 := ⟨f8, _, func8, rfl, by decide⟩
theorem impl_ApplyUpdate_c (w : World) (z0 : List Value) (x0 : DStore) (z1 : List Value) (x1 : DUpdate) (r_0 : tyStore.rd w w.heap.size z0 x0) (r_1 : tyUpdate.rd w w.heap.size z1 x1) (s_0 : smStore 68719476736 x0) (s_1 : smUpdate 68719476736 x1) :
  Calls Try.prog 8 #[.agg z0.toArray, .agg z1.toArray] w fun e w' => ∃ v : List Value, e = .returned (.tuple #[.agg v.toArray, .bool ((impl_ApplyUpdate_m x0 x1).2)]) ∧ Mem w.heap.size w [iOwn tyStore v (impl_ApplyUpdate_m x0 x1).1] w' := by
 obtain ⟨v1, rfl, r2⟩ := tyStore_rd r_0
 obtain ⟨m3, A4, c5, rfl, q6, r7⟩ := rdS_op r2
 obtain ⟨v8, rfl, r9⟩ := tyUpdate_rd r_1
 obtain ⟨m10, A11, c12, rfl, q13, r14⟩ := rdS_op r9
 have l15 : x0.Segments.length ≤ 68719476736 := s_0.1
 have l16 : x1.Row.Values.length ≤ 68719476736 := s_1
 refine ce2 (L := [(0, .agg #[.slice A4 x0.Segments.length c5, .int .i64 x0.Now]), (1, .agg #[.int .i64 x1.Kind, .int .i64 x1.Row.Id, .slice A11 x1.Row.Values.length c12, .int .i64 x1.Field, .int .i64 x1.Value])]) (N := 115) func8 ?_
 refine sr ?_
 refine WM_box rfl (Wd_none rfl) (by decide) (fun p17 => ?_)
 refine WM_box rfl (Wd_none rfl) (by decide) (fun p18 => ?_)
 refine WM_alloc type26 rfl (Wd_none rfl) (by decide) (fun p19 => ?_)
 refine wa (nt' (sr ?_))
 refine wv (fun W hm => rv_loadN (cs := [.slice A4 x0.Segments.length c5, .int .i64 x0.Now]) underlying26 type26 rfl rfl (hm.boxCells (n := 2) rfl)) ?_
 refine wcs tyStore x0 (cl_fn cb37 rfl) (fun W hm => impl_copyStore_c2 W _ x0 (tyStore_mk (x := x0) (hm.rdS0 r7)) s_0) (fun z20 => ?_)
 refine tyStore_sp ?_
 rintro v21 rfl
 refine WM_form (n := 0) rfl ?_
 rintro A22 c23 rfl m24
 refine WM_alloc type26 rfl (Wd_none rfl) (by decide) (fun p26 => ?_)
 let K9 : List Value := [.int .i64 x1.Kind, .int .i64 x1.Row.Id, .slice A11 x1.Row.Values.length c12, .int .i64 x1.Field, .int .i64 x1.Value]
 let I29 : It := iOwn (tSl (tSl tyVersion 51) 72) [.slice A22 x0.Segments.length c23] x0.Segments
 let I30 : It := iBox p17 26 [.slice A4 x0.Segments.length c5, .int .i64 x0.Now]
 refine sb 0 [.slice A22 x0.Segments.length c23, .int .i64 x0.Now] [I29, iBox p19 26 [.slice none 0 0, .int .i64 0], iBox p18 31 K9, I30] (fun W hm => hm) type26 ?_
 refine nt' (CM_seq (sr ?_))
 refine wv (fun W hm => rv_loadN (cs := [.slice A4 x0.Segments.length c5, .int .i64 x0.Now]) underlying26 type26 rfl rfl (hm.boxCells (n := 4) rfl)) ?_
 refine wcv (cl_fn cb11 rfl) (fun W hm => impl_IsStore_c W _ x0 (tyStore_mk (x := x0) (hm.rdS0 r7)) s_0) ?_
 refine wv vnot ?_
 refine wm ?_
 rcases Bool.eq_false_or_eq_true (impl_IsStore_m x0) with g28 | g28
 ·
  have hst := g28
  refine wg (fun W hm => rv_loadN (cs := K9) underlying31 type31 rfl rfl (hm.boxCells (n := 3) rfl)) (nt g28) ?_
  refine WM_callV (cl_fn cb38 rfl) (fun W hm => impl_IsUpdate_c W _ x1 (tyUpdate_mk (x := x1) (hm.rdS0 r14))) (Wd_some rfl rfl rfl (bw (nt g28) rfl)) (by decide) ?_
  refine wg vnot (nt g28) ?_
  refine wv (vpF (nt g28)) ?_
  refine wm ?_
  rcases Bool.eq_false_or_eq_true (impl_IsUpdate_m x1) with g30 | g30
  ·
   obtain ⟨hu1, hu2, hu3, hu4⟩ := impl_Update_fact g30
   refine wg (vf underlying26 rfl type3) (nt g30) ?_
   refine wg (vl 4 1 underlying3) (nt g30) ?_
   refine wg (fun W hm => rv_eql rfl rfl) (nt g30) ?_
   refine wv (vpF (nt g30)) ?_
   refine nt' ?_
   by_cases h31 : x0.Now = 100000
   ·have g32 := beq_iff_eq.2 h31
    refine CM_condT rfl g32 ?_
    refine sr ?_
    refine wv (fun W hm => rv_loadN (cs := [.slice A22 x0.Segments.length c23, .int .i64 x0.Now]) underlying26 type26 rfl rfl (hm.boxCells (n := 0) rfl)) ?_
    refine sb 0 [.slice A22 x0.Segments.length c23, .int .i64 x0.Now] [iBox p26 26 [.slice A22 x0.Segments.length c23, .int .i64 x0.Now], I29, iBox p18 31 K9, I30] (pk [2, 0, 1, 3, 4]) type26 ?_
    refine wa (nt' (CM_ret (QM_then_ret ?_)))
    have he33 := (show impl_ApplyUpdate_m x0 x1 = (x0, false) from cond_t g28 (cond_t g30 (cond_t g32 (rfl))))
    refine QM_r2 rfl (RR_cell (n := 0) rfl rfl underlying26 type26 rfl) (RR_tmp rfl) (fun W hm => ⟨[.slice A22 x0.Segments.length c23, .int .i64 x0.Now], ?_, ?_⟩)
    ·first | rw [he33] | rfl
     try rfl
    ·rw [he33]; exact Mem.join (is := [I29]) (js := []) (fun _ _ hs => tyStore_join (x := x0) hs) (hm.pick [2] (by decide))
   ·have g32 := beq_eq_false_iff_ne.2 h31
    refine CM_condF rfl g32 ?_
    refine CM_skip (QM_then (sr ?_))
    refine wv (fun W hm => rv_loadN (cs := [.slice A4 x0.Segments.length c5, .int .i64 x0.Now]) underlying26 type26 rfl rfl (hm.boxCells (n := 4) rfl)) ?_
    refine wv (vf underlying31 rfl type29) ?_
    refine wv (fun W hm => rv_fieldA (o := 1) underlying29 rfl type3 (by decide) rfl rfl) ?_
    refine wv (vl 3 1 underlying3) ?_
    refine wcv (cl_fn cb39 rfl) (fun W hm => impl_findAlive_c W _ x0 x1.Row.Id (tyStore_mk (x := x0) (hm.rdS0 r7))) ?_
    have hf := impl_Find_fact (x := x0) hst x1.Row.Id
    refine wm ?_
    refine wv (fun W hm => rv_extract rfl rfl) ?_
    refine wv (fun W hm => rv_extract rfl rfl) ?_
    refine wa (wa (nt' (CM_seq (sr (wm ?_)))))
    refine wv (fun W hm => rv_geq rfl rfl) ?_
    refine wv (vf underlying31 rfl type3) ?_
    refine wv (vl 3 0 underlying3) ?_
    refine wv (fun W hm => rv_eql rfl rfl) ?_
    refine wv (fun W hm => rv_eqlB underlying4 rfl rfl) ?_
    refine nt' ?_
    rcases Bool.eq_false_or_eq_true ((decide (0 ≤ ((impl_findAlive_m x0 x1.Row.Id).1))) == (x1.Kind == 1)) with g35 | g35
    ·
     refine CM_condT rfl g35 ?_
     refine sr ?_
     refine wv (fun W hm => rv_loadN (cs := [.slice A22 x0.Segments.length c23, .int .i64 x0.Now]) underlying26 type26 rfl rfl (hm.boxCells (n := 0) rfl)) ?_
     refine sb 0 [.slice A22 x0.Segments.length c23, .int .i64 x0.Now] [iBox p26 26 [.slice A22 x0.Segments.length c23, .int .i64 x0.Now], I29, iBox p18 31 K9, I30] (pk [2, 0, 1, 3, 4]) type26 ?_
     refine wa (nt' (CM_ret (QM_then_ret ?_)))
     have he36 := (show impl_ApplyUpdate_m x0 x1 = (x0, false) from cond_t g28 (cond_t g30 (cond_f g32 (cond_t g35 (rfl)))))
     refine QM_r2 rfl (RR_cell (n := 0) rfl rfl underlying26 type26 rfl) (RR_tmp rfl) (fun W hm => ⟨[.slice A22 x0.Segments.length c23, .int .i64 x0.Now], ?_, ?_⟩)
     ·first | rw [he36] | rfl
      try rfl
     ·rw [he36]; exact Mem.join (is := [I29]) (js := []) (fun _ _ hs => tyStore_join (x := x0) hs) (hm.pick [2] (by decide))
    ·
     have hne := beq_dec g35
     refine CM_condF rfl g35 ?_
     refine CM_skip (QM_then (sr ?_))
     refine wv (vf underlying26 rfl type3) ?_
     refine wv (vl 0 1 underlying3) ?_
     refine wv vadd ?_
     refine wv (vf underlying26 rfl type3) ?_
     let K10 : List Value := [.slice A22 x0.Segments.length c23, .int .i64 (IntKind.i64.wrap (x0.Now + 1))]
     refine sb 1 K10 [I29, iBox p19 26 [.slice none 0 0, .int .i64 0], iBox p18 31 K9, I30] (fun W hm => hm) type3 ?_
     refine nt' (sr ?_)
     refine wv (vf underlying31 rfl type29) ?_
     refine wv (fun W hm => rv_fieldA (o := 2) underlying29 rfl type27 (by decide) rfl rfl) ?_
     refine wv (vl 3 2 underlying27) ?_
     refine wcl (tSl tInt 3) x1.Row.Values (cl_fn cb40 rfl) (fun W hm => impl_copyInts_c2 W _ x1.Row.Values (hm.rdS0 r14) s_1) (fun z37 => ?_)
     refine WM_form (n := 0) rfl ?_
     rintro A38 c39 rfl m40
     refine wa (nt' (CM_seq (sr (wm ?_))))
     refine wv (fun W hm => rv_geq rfl rfl) ?_
     refine nt' ?_
     by_cases h42 : 0 ≤ ((impl_findAlive_m x0 x1.Row.Id).1)
     ·have g43 := decide_eq_true h42
      obtain ⟨hf1, hf2, hf3, hf4, hf5, hf6, hf7⟩ := hf.resolve_left (by omega); clear hf
      refine CM_condT rfl g43 ?_
      refine CM_seq ?_
      refine CM_formO (n := 2) rfl (by omega) ?_
      rintro g44 rfl
      let K11 : List Value := [.slice (some ⟨g44, 0, none⟩) x0.Segments.length c23, .int .i64 (IntKind.i64.wrap (x0.Now + 1))]
      let I31 : It := iOwn (tSl tInt 3) [.slice A38 x1.Row.Values.length c39] x1.Row.Values
      refine CM_focus (E := (tSl tyVersion 51)) (e := 72) (A := (some ⟨g44, 0, none⟩)) (n := x0.Segments.length) (c := c23) (xs := x0.Segments) (k := (((impl_findAlive_m x0 x1.Row.Id).1).toNat)) (js := [I31, iBox p26 26 K11, iBox p19 26 [.slice none 0 0, .int .i64 0], iBox p18 31 K9, I30]) (by omega) (pk [2, 0, 1, 3, 4, 5]) (fun ck45 => ?_)
      refine CM_split (γ := Value) (js := fun g => [iOwn (tSl tyVersion 51) [g] (gt x0.Segments (((impl_findAlive_m x0 x1.Row.Id).1).toNat))]) (C := fun g => ck45 = [g]) (fun _ _ h => tSl_split h) ?_
      rintro v46 rfl
      refine CM_form (n := 0) rfl ?_
      rintro A47 c48 rfl m49
      refine CM_formO (n := 0) rfl (by omega) ?_
      rintro g51 rfl
      let K12 : List Value := [.slice (some ⟨g51, 0, none⟩) (gt x0.Segments (((impl_findAlive_m x0 x1.Row.Id).1).toNat)).length c48]
      refine rb 11 (s := [iFoc (tSl tyVersion 51) 72 (some ⟨g44, 0, none⟩) x0.Segments.length c23 x0.Segments (((impl_findAlive_m x0 x1.Row.Id).1).toNat) K12, I31, iBox p26 26 K11, iBox p19 26 [.slice none 0 0, .int .i64 0], iBox p18 31 K9, I30]) (pk [1, 2, 3, 4, 5, 6]) ?_
      refine qt 11 0 1 rfl (vf underlying26 rfl type24) ?_
      refine qt 11 1 3 rfl (vl 2 0 underlying24) ?_
      refine qt 11 2 7 rfl vmv ?_
      refine qt 11 3 15 rfl (fun W hm => rv_indexI (sz := 1) (k := (impl_findAlive_m x0 x1.Row.Id).1) underlying24 type72 rfl rfl rfl (by omega) (by omega)) ?_
      refine qt 11 4 31 rfl (fun W hm => rv_load underlying72 rfl rfl (hm.focInt (i := 0) rfl rfl)) ?_
      refine qt 11 5 63 rfl vmv ?_
      refine qt 11 6 127 rfl (vf underlying26 rfl type3) ?_
      refine qt 11 7 255 rfl (vl 2 1 underlying3) ?_
      refine qt 11 8 511 rfl (fun W hm => rv_indexI (sz := 4) (k := (impl_findAlive_m x0 x1.Row.Id).2) underlying72 type51 rfl rfl rfl (by omega) (by omega)) ?_
      refine qt 11 9 1023 rfl (vf underlying51 rfl type3) ?_
      refine qo 11 10 2047 rfl ?_
      refine WM_focus (E := tyVersion) (e := 51) (A := (some ⟨g51, 0, none⟩)) (n := (gt x0.Segments (((impl_findAlive_m x0 x1.Row.Id).1).toNat)).length) (c := c48) (xs := (gt x0.Segments (((impl_findAlive_m x0 x1.Row.Id).1).toNat))) (k := (((impl_findAlive_m x0 x1.Row.Id).2).toNat)) (js := [iFoc (tSl tyVersion 51) 72 (some ⟨g44, 0, none⟩) x0.Segments.length c23 x0.Segments (((impl_findAlive_m x0 x1.Row.Id).1).toNat) K12, I31, iBox p26 26 K11, iBox p19 26 [.slice none 0 0, .int .i64 0], iBox p18 31 K9, I30]) (by omega) (fun W hm => hm) (fun ck52 => ?_)
      refine tyVersion_sp ?_
      rintro v53 rfl
      refine WM_form (n := 0) rfl ?_
      rintro A54 c55 rfl m56
      let K13 : List Value := [.int .i64 ((gt (gt x0.Segments (((impl_findAlive_m x0 x1.Row.Id).1).toNat)) (((impl_findAlive_m x0 x1.Row.Id).2).toNat)).Id), .slice A54 ((gt (gt x0.Segments (((impl_findAlive_m x0 x1.Row.Id).1).toNat)) (((impl_findAlive_m x0 x1.Row.Id).2).toNat)).Values).length c55, .int .i64 ((gt (gt x0.Segments (((impl_findAlive_m x0 x1.Row.Id).1).toNat)) (((impl_findAlive_m x0 x1.Row.Id).2).toNat)).Born), .int .i64 (IntKind.i64.wrap (x0.Now + 1))]
      let K14 : List Value := [.slice A54 ((gt (gt x0.Segments (((impl_findAlive_m x0 x1.Row.Id).1).toNat)) (((impl_findAlive_m x0 x1.Row.Id).2).toNat)).Values).length c55]
      let I32 : It := iOwn (tSl tInt 3) K14 ((gt (gt x0.Segments (((impl_findAlive_m x0 x1.Row.Id).1).toNat)) (((impl_findAlive_m x0 x1.Row.Id).2).toNat)).Values)
      refine sf 3 4 K13 [I32, iFoc (tSl tyVersion 51) 72 (some ⟨g44, 0, none⟩) x0.Segments.length c23 x0.Segments (((impl_findAlive_m x0 x1.Row.Id).1).toNat) K12, I31, iBox p26 26 K11, iBox p19 26 [.slice none 0 0, .int .i64 0], iBox p18 31 K9, I30] (pk [1, 0, 2, 3, 4, 5, 6, 7]) type3 ?_
      refine qn (pk [2, 3, 4, 5, 6, 7]) ?_
      refine QB_done (by kernel_rfl) ?_
      refine QM_then (CM_region ?_)
      refine wv (vf underlying26 rfl type24) ?_
      refine wv (vl 7 0 underlying24) ?_
      refine wm ?_
      obtain ⟨a58, rfl, hb59, he60⟩ := q6 (by omega)
      refine wv (fun W hm => rv_indexI (sz := 1) (k := (impl_findAlive_m x0 x1.Row.Id).1) underlying24 type72 rfl rfl rfl (by omega) (by omega)) ?_
      obtain ⟨_, e62, hc61⟩ := he60 (((impl_findAlive_m x0 x1.Row.Id).1).toNat) _ (gt_some (show (((impl_findAlive_m x0 x1.Row.Id).1).toNat) < x0.Segments.length from by omega))
      have l63 : (gt x0.Segments (((impl_findAlive_m x0 x1.Row.Id).1).toNat)).length ≤ 68719476736 := (s_0.2 _ (gt_mem (show (((impl_findAlive_m x0 x1.Row.Id).1).toNat) < x0.Segments.length from by omega))).1
      obtain ⟨v64, rfl, r65⟩ := e62
      obtain ⟨m66, A67, c68, rfl, q69, r70⟩ := rdS_op r65
      refine wv (fun W hm => rv_load underlying72 rfl rfl ((hm.cell0 (show (a58.add ((((impl_findAlive_m x0 x1.Row.Id).1).toNat) * 1)).block < w.heap.size from by rw [add_block]; exact hb59.1)).trans (hc61 0 _ rfl))) ?_
      refine wm ?_
      obtain ⟨a71, rfl, hb72, he73⟩ := q69 (by omega)
      refine wv (fun W hm => rv_indexI (sz := 4) (k := (impl_findAlive_m x0 x1.Row.Id).2) underlying72 type51 rfl rfl rfl (by omega) (by omega)) ?_
      refine wv (vf underlying51 rfl type27) ?_
      obtain ⟨_, e77, hc74⟩ := he73 (((impl_findAlive_m x0 x1.Row.Id).2).toNat) _ (gt_some (show (((impl_findAlive_m x0 x1.Row.Id).2).toNat) < ((gt x0.Segments (((impl_findAlive_m x0 x1.Row.Id).1).toNat))).length from by omega))
      obtain ⟨v75, rfl, r76⟩ := tyVersion_rd e77
      have l78 : ((gt (gt x0.Segments (((impl_findAlive_m x0 x1.Row.Id).1).toNat)) (((impl_findAlive_m x0 x1.Row.Id).2).toNat)).Values).length ≤ 68719476736 := ((s_0.2 _ (gt_mem (show (((impl_findAlive_m x0 x1.Row.Id).1).toNat) < x0.Segments.length from by omega))).2 _ (gt_mem (show (((impl_findAlive_m x0 x1.Row.Id).2).toNat) < ((gt x0.Segments (((impl_findAlive_m x0 x1.Row.Id).1).toNat))).length from by omega)))
      obtain ⟨m79, A80, c81, rfl, q82, r83⟩ := rdS_op r76
      refine wv (fun W hm => rv_load underlying27 rfl rfl ((hm.cell0 (show ((a71.add ((((impl_findAlive_m x0 x1.Row.Id).2).toNat) * 4)).add 1).block < w.heap.size from by rw [add_block, add_block]; exact hb72.1)).trans (hc74 1 _ rfl))) ?_
      refine wcl (tSl tInt 3) ((gt (gt x0.Segments (((impl_findAlive_m x0 x1.Row.Id).1).toNat)) (((impl_findAlive_m x0 x1.Row.Id).2).toNat)).Values) (cl_fn cb40 rfl) (fun W hm => impl_copyInts_c2 W _ ((gt (gt x0.Segments (((impl_findAlive_m x0 x1.Row.Id).1).toNat)) (((impl_findAlive_m x0 x1.Row.Id).2).toNat)).Values) (hm.rdS0 r83) ((s_0.2 _ (gt_mem (show (((impl_findAlive_m x0 x1.Row.Id).1).toNat) < x0.Segments.length from by omega))).2 _ (gt_mem (show (((impl_findAlive_m x0 x1.Row.Id).2).toNat) < ((gt x0.Segments (((impl_findAlive_m x0 x1.Row.Id).1).toNat))).length from by omega)))) (fun z84 => ?_)
      refine WM_form (n := 0) rfl ?_
      rintro A85 c86 rfl m87
      refine wa (nt' (CM_seq (sr ?_)))
      refine wv (vf underlying31 rfl type3) ?_
      refine wv (vl 7 0 underlying3) ?_
      refine wv (fun W hm => rv_eql rfl rfl) ?_
      refine nt' ?_
      by_cases h89 : x1.Kind = 3
      ·have g90 := beq_iff_eq.2 h89
       obtain ⟨hu5, hu6⟩ := hu2 (by assumption)
       refine CM_condT rfl g90 ?_
       refine CM_region (wm ?_)
       refine wv (vf underlying31 rfl type3) ?_
       refine wv (vl 7 3 underlying3) ?_
       refine wv (vf underlying31 rfl type3) ?_
       refine wv (vl 7 4 underlying3) ?_
       refine WM_formO (n := 0) rfl (by omega) ?_
       rintro g91 rfl
       refine wv (fun W hm => rv_indexI (sz := 1) (k := x1.Field) underlying27 type3 rfl rfl rfl (by omega) (by omega)) ?_
       let I33 : It := iBox p17 26 [.slice (some a58) x0.Segments.length c5, .int .i64 x0.Now]
       refine WM_setEl (E := tInt) (e := 3) (u := .int .i64 x1.Value) (k := (x1.Field.toNat)) (p := g91) (n := ((gt (gt x0.Segments (((impl_findAlive_m x0 x1.Row.Id).1).toNat)) (((impl_findAlive_m x0 x1.Row.Id).2).toNat)).Values).length) (xs := ((gt (gt x0.Segments (((impl_findAlive_m x0 x1.Row.Id).1).toNat)) (((impl_findAlive_m x0 x1.Row.Id).2).toNat)).Values)) (eis := []) (js := [iFoc tyVersion 51 (some ⟨g51, 0, none⟩) ((gt x0.Segments (((impl_findAlive_m x0 x1.Row.Id).1).toNat)).length) c48 (gt x0.Segments (((impl_findAlive_m x0 x1.Row.Id).1).toNat)) (((impl_findAlive_m x0 x1.Row.Id).2).toNat) K13, I32, iFoc (tSl tyVersion 51) 72 (some ⟨g44, 0, none⟩) x0.Segments.length c23 x0.Segments (((impl_findAlive_m x0 x1.Row.Id).1).toNat) K12, I31, iBox p26 26 K11, iBox p19 26 [.slice none 0 0, .int .i64 0], iBox p18 31 K9, I33]) (yv := x1.Value) (fun W hm => hm) (fun _ _ hs => (Sep.nil hs ▸ tInt_own)) rfl type3 rfl (by omega) rfl rfl (Wd_none rfl) ?_
       refine nt' (CM_seq (sr ?_))
       refine wv (vf underlying31 rfl type3) ?_
       refine wv (vl 7 0 underlying3) ?_
       refine wv (fun W hm => rv_eql rfl rfl) ?_
       refine nt' ?_
       by_cases h92 : x1.Kind = 2
       ·have g93 := beq_iff_eq.2 h92
        refine CM_condT rfl g93 ?_
        refine CM_seq ?_
        refine CM_items (pk [1, 2, 3, 5, 6]) ?_
        refine CM_region ?_
        refine wv (fun W hm => rv_loadN (cs := K11) underlying26 type26 rfl rfl (hm.boxCells (n := 3) rfl)) ?_
        refine sb 0 K11 [iFoc tyVersion 51 (some ⟨g51, 0, none⟩) ((gt x0.Segments (((impl_findAlive_m x0 x1.Row.Id).1).toNat)).length) c48 (gt x0.Segments (((impl_findAlive_m x0 x1.Row.Id).1).toNat)) (((impl_findAlive_m x0 x1.Row.Id).2).toNat) K13, I32, iFoc (tSl tyVersion 51) 72 (some ⟨g44, 0, none⟩) x0.Segments.length c23 x0.Segments (((impl_findAlive_m x0 x1.Row.Id).1).toNat) K12, iBox p26 26 K11] (pk [4, 0, 1, 2, 3]) type26 ?_
        refine wa (nt' (CM_ret (QM_then_ret ?_)))
        refine QM_items (fun W hm => Mem.unfocus (Mem.join (is := [I32]) (js := (iFoc tyVersion 51 (some ⟨g51, 0, none⟩) ((gt x0.Segments (((impl_findAlive_m x0 x1.Row.Id).1).toNat)).length) c48 (gt x0.Segments (((impl_findAlive_m x0 x1.Row.Id).1).toNat)) (((impl_findAlive_m x0 x1.Row.Id).2).toNat) K13 :: [iBox p19 26 K11, iFoc (tSl tyVersion 51) 72 (some ⟨g44, 0, none⟩) x0.Segments.length c23 x0.Segments (((impl_findAlive_m x0 x1.Row.Id).1).toNat) K12, iBox p26 26 K11])) (fun _ _ hs => tyVersion_join (x := (⟨(gt (gt x0.Segments (((impl_findAlive_m x0 x1.Row.Id).1).toNat)) (((impl_findAlive_m x0 x1.Row.Id).2).toNat)).Id, (gt (gt x0.Segments (((impl_findAlive_m x0 x1.Row.Id).1).toNat)) (((impl_findAlive_m x0 x1.Row.Id).2).toNat)).Values, (gt (gt x0.Segments (((impl_findAlive_m x0 x1.Row.Id).1).toNat)) (((impl_findAlive_m x0 x1.Row.Id).2).toNat)).Born, (IntKind.i64.wrap (x0.Now + 1))⟩ : DVersion)) hs) (hm.pick [2, 1, 0, 3, 4] (by decide)))) ?_
        refine QM_items (fun W hm => Mem.unfocus (Mem.join (is := [iOwn (tSl tyVersion 51) K12 (impl_ApplyUpdate_v1 x0 x1)]) (js := (iFoc (tSl tyVersion 51) 72 (some ⟨g44, 0, none⟩) x0.Segments.length c23 x0.Segments (((impl_findAlive_m x0 x1.Row.Id).1).toNat) K12 :: [iBox p19 26 K11, iBox p26 26 K11])) (fun _ _ hs => Sep.one hs) (hm.pick [0, 2, 1, 3] (by decide)))) ?_
        have he94 := (show impl_ApplyUpdate_m x0 x1 = ((⟨(x0.Segments.set (((impl_findAlive_m x0 x1.Row.Id).1).toNat) (impl_ApplyUpdate_v1 x0 x1)), (IntKind.i64.wrap (x0.Now + 1))⟩ : DStore), true) from cond_t g28 (cond_t g30 (cond_f g32 (cond_f g35 (cond_t g43 (cond_t g90 (cond_t g93 (rfl))))))))
        refine QM_r2 rfl (RR_cell (n := 1) rfl rfl underlying26 type26 rfl) (RR_tmp rfl) (fun W hm => ⟨K11, ?_, ?_⟩)
        ·first | rw [he94] | rfl
         try rfl
        ·rw [he94]; exact Mem.join (is := [iOwn (tSl (tSl tyVersion 51) 72) [.slice (some ⟨g44, 0, none⟩) x0.Segments.length c23] (x0.Segments.set (((impl_findAlive_m x0 x1.Row.Id).1).toNat) (impl_ApplyUpdate_v1 x0 x1))]) (js := []) (fun _ _ hs => tyStore_join (x := (⟨(x0.Segments.set (((impl_findAlive_m x0 x1.Row.Id).1).toNat) (impl_ApplyUpdate_v1 x0 x1)), (IntKind.i64.wrap (x0.Now + 1))⟩ : DStore)) hs) (hm.pick [0] (by decide))
       ·have g93 := beq_eq_false_iff_ne.2 h92
        refine CM_condF rfl g93 ?_
        refine CM_skip (QM_then (CM_seq (sr ?_)))
        refine wv (vf underlying26 rfl type24) ?_
        refine wv (vl 5 0 underlying24) ?_
        refine wv (vlen underlying24) ?_
        refine wm (nt' (CM_block ?_))
        let K15 : List Value := [.slice (some ⟨g91, 0, none⟩) ((gt (gt x0.Segments (((impl_findAlive_m x0 x1.Row.Id).1).toNat)) (((impl_findAlive_m x0 x1.Row.Id).2).toNat)).Values).length c86]
        let I34 : It := iOwn (tSl tInt 3) K15 (((gt (gt x0.Segments (((impl_findAlive_m x0 x1.Row.Id).1).toNat)) (((impl_findAlive_m x0 x1.Row.Id).2).toNat)).Values).set (x1.Field.toNat) x1.Value)
        refine CM_items (fun W hm => Mem.unfocus (Mem.join (is := [I32]) (js := (iFoc tyVersion 51 (some ⟨g51, 0, none⟩) ((gt x0.Segments (((impl_findAlive_m x0 x1.Row.Id).1).toNat)).length) c48 (gt x0.Segments (((impl_findAlive_m x0 x1.Row.Id).1).toNat)) (((impl_findAlive_m x0 x1.Row.Id).2).toNat) K13 :: [I34, iFoc (tSl tyVersion 51) 72 (some ⟨g44, 0, none⟩) x0.Segments.length c23 x0.Segments (((impl_findAlive_m x0 x1.Row.Id).1).toNat) K12, I31, iBox p26 26 K11, iBox p19 26 [.slice none 0 0, .int .i64 0], iBox p18 31 K9, I33])) (fun _ _ hs => tyVersion_join (x := (⟨(gt (gt x0.Segments (((impl_findAlive_m x0 x1.Row.Id).1).toNat)) (((impl_findAlive_m x0 x1.Row.Id).2).toNat)).Id, (gt (gt x0.Segments (((impl_findAlive_m x0 x1.Row.Id).1).toNat)) (((impl_findAlive_m x0 x1.Row.Id).2).toNat)).Values, (gt (gt x0.Segments (((impl_findAlive_m x0 x1.Row.Id).1).toNat)) (((impl_findAlive_m x0 x1.Row.Id).2).toNat)).Born, (IntKind.i64.wrap (x0.Now + 1))⟩ : DVersion)) hs) (hm.pick [2, 1, 0, 3, 4, 5, 6, 7, 8] (by decide)))) ?_
        refine CM_items (fun W hm => Mem.unfocus (Mem.join (is := [iOwn (tSl tyVersion 51) K12 (impl_ApplyUpdate_v1 x0 x1)]) (js := (iFoc (tSl tyVersion 51) 72 (some ⟨g44, 0, none⟩) x0.Segments.length c23 x0.Segments (((impl_findAlive_m x0 x1.Row.Id).1).toNat) K12 :: [I34, I31, iBox p26 26 K11, iBox p19 26 [.slice none 0 0, .int .i64 0], iBox p18 31 K9, I33])) (fun _ _ hs => Sep.one hs) (hm.pick [0, 2, 1, 3, 4, 5, 6, 7] (by decide)))) ?_
        let F1 := fun k (_ : Unit) => impl_ApplyUpdate_b1 x0 x1 k
        let R5 := rng (R := (DStore × Bool)) F1
        let I35 : It := iOwn (tSl (tSl tyVersion 51) 72) [.slice (some ⟨g44, 0, none⟩) x0.Segments.length c23] (x0.Segments.set (((impl_findAlive_m x0 x1.Row.Id).1).toNat) (impl_ApplyUpdate_v1 x0 x1))
        refine CM_loop (σ := Nat × (Unit) × (Unit)) (fun s => [(2, .pointer (some (⟨p17, 0, none⟩ : Addr))), (3, .pointer (some (⟨p18, 0, none⟩ : Addr))), (4, .pointer (some (⟨p19, 0, none⟩ : Addr))), (6, .pointer (some (⟨p26, 0, none⟩ : Addr))), (9, .slice (some ⟨g91, 0, none⟩) ((gt (gt x0.Segments (((impl_findAlive_m x0 x1.Row.Id).1).toNat)) (((impl_findAlive_m x0 x1.Row.Id).2).toNat)).Values).length c86), (87, .slice (some ⟨g44, 0, none⟩) x0.Segments.length c23), (88, .int .i64 ((x0.Segments.length : Nat) : Int)), (89, .int .i64 ((s.1 : Nat) : Int))]) (fun s => [I35, I34, I31, iBox p26 26 K11, iBox p19 26 [.slice none 0 0, .int .i64 0], iBox p18 31 K9, I33]) (fun s => s.1 ≤ x0.Segments.length ∧ R5 (x0.Segments.length - s.1) s.1 s.2.1 = R5 (x0.Segments.length - 0) 0 ()) (fun s => x0.Segments.length - s.1) (0, (), ()) sl8 (fun W hm => hm) ⟨(by omega), rfl⟩ ?_
        rintro ⟨k95, ⟨⟩, ⟨⟩⟩ H98
        obtain ⟨hk96, hF97⟩ : k95 ≤ x0.Segments.length ∧ R5 (x0.Segments.length - k95) k95 () = R5 (x0.Segments.length - 0) 0 () := H98
        show CM Try.prog 115 _ _ _ _ [(2, .pointer (some (⟨p17, 0, none⟩ : Addr))), (3, .pointer (some (⟨p18, 0, none⟩ : Addr))), (4, .pointer (some (⟨p19, 0, none⟩ : Addr))), (6, .pointer (some (⟨p26, 0, none⟩ : Addr))), (9, .slice (some ⟨g91, 0, none⟩) ((gt (gt x0.Segments (((impl_findAlive_m x0 x1.Row.Id).1).toNat)) (((impl_findAlive_m x0 x1.Row.Id).2).toNat)).Values).length c86), (87, .slice (some ⟨g44, 0, none⟩) x0.Segments.length c23), (88, .int .i64 ((x0.Segments.length : Nat) : Int)), (89, .int .i64 ((k95 : Nat) : Int))] [I35, I34, I31, iBox p26 26 K11, iBox p19 26 [.slice none 0 0, .int .i64 0], iBox p18 31 K9, I33]
        refine sr ?_
        refine wv vlss ?_
        refine nt' (CM_seq ?_)
        by_cases hl99 : k95 < x0.Segments.length
        ·have g100 := dlT hl99
         refine CM_condT rfl g100 ?_
         refine CM_skip (QM_then (CM_seq (CM_block (sr (wm ?_)))))
         refine wv (vix 1 k95 underlying24 type72) ?_
         refine WM_focus (E := (tSl tyVersion 51)) (e := 72) (A := (some ⟨g44, 0, none⟩)) (n := x0.Segments.length) (c := c23) (xs := (x0.Segments.set (((impl_findAlive_m x0 x1.Row.Id).1).toNat) (impl_ApplyUpdate_v1 x0 x1))) (k := k95) (js := [I34, I31, iBox p26 26 K11, iBox p19 26 [.slice none 0 0, .int .i64 0], iBox p18 31 K9, I33]) (by omega) (fun W hm => hm) (fun ck101 => ?_)
         refine WM_split (γ := Value) (js := fun g => [iOwn (tSl tyVersion 51) [g] (gt (x0.Segments.set (((impl_findAlive_m x0 x1.Row.Id).1).toNat) (impl_ApplyUpdate_v1 x0 x1)) k95)]) (C := fun g => ck101 = [g]) (fun _ _ h => tSl_split h) ?_
         rintro v102 rfl
         refine WM_form (n := 0) rfl ?_
         rintro A103 c104 rfl m105
         refine wv (fun W hm => rv_load underlying72 rfl rfl (hm.focInt (i := 1) rfl rfl)) ?_
         refine wa (wa (nt' (sr (wm ?_))))
         refine wv (vlen underlying72) ?_
         refine wv vlss ?_
         refine nt' ?_
         by_cases h107 : (((gt (x0.Segments.set (((impl_findAlive_m x0 x1.Row.Id).1).toNat) (impl_ApplyUpdate_v1 x0 x1)) k95).length : Nat) : Int) < 4
         ·have g108 := decide_eq_true h107
          refine CM_condT rfl g108 ?_
          refine CM_seq ?_
          let K16 : List Value := [.slice A103 (gt (x0.Segments.set (((impl_findAlive_m x0 x1.Row.Id).1).toNat) (impl_ApplyUpdate_v1 x0 x1)) k95).length c104]
          refine rd2 15 [14] (s := [I31, iBox p26 26 K11, iBox p19 26 [.slice none 0 0, .int .i64 0], iBox p18 31 K9, I33]) (s2 := [iFoc (tSl tyVersion 51) 72 (some ⟨g44, 0, none⟩) x0.Segments.length c23 (x0.Segments.set (((impl_findAlive_m x0 x1.Row.Id).1).toNat) (impl_ApplyUpdate_v1 x0 x1)) k95 K16, I31, iBox p26 26 K11, iBox p19 26 [.slice none 0 0, .int .i64 0], iBox p18 31 K9, I33]) (pk [3, 4, 5, 6, 7]) (pk [1, 3, 4, 5, 6, 7]) ?_
          refine qtD 15 0 1 rfl (vf underlying26 rfl type24) ?_
          refine qtD 15 1 3 rfl (vl 2 0 underlying24) ?_
          refine qtD 15 2 7 rfl vmv ?_
          refine qtD 15 3 15 rfl vmv ?_
          refine qtD 15 4 31 rfl (vf underlying31 rfl type29) ?_
          refine qtD 15 5 63 rfl (fun W hm => rv_fieldA (o := 1) underlying29 rfl type3 (by decide) rfl rfl) ?_
          refine qtD 15 6 127 rfl (vl 4 1 underlying3) ?_
          refine qtD 15 7 255 rfl vmv ?_
          refine qtD 15 8 511 rfl (vf underlying26 rfl type3) ?_
          refine qtD 15 9 1023 rfl (vl 2 1 underlying3) ?_
          let K17 : List Value := [.int .i64 x1.Row.Id, .slice (some ⟨g91, 0, none⟩) ((gt (gt x0.Segments (((impl_findAlive_m x0 x1.Row.Id).1).toNat)) (((impl_findAlive_m x0 x1.Row.Id).2).toNat)).Values).length c86, .int .i64 (IntKind.i64.wrap (x0.Now + 1)), .int .i64 (-1)]
          refine qtD 15 10 2047 rfl (fun W hm => rv_build (cs := K17) rfl (by kernel_rfl)) ?_
          refine qoD 15 11 4095 rfl ?_
          refine WM_build (cs := K17) underlying72 type51 rfl (by decide) (by decide) rfl (by kernel_rfl) (Wd_none rfl) (by decide) (fun p109 => ?_)
          refine qnD (pk [4, 5, 6, 7, 8]) (pk [2, 4, 5, 6, 7, 8]) ?_
          refine qoD 15 12 8191 rfl ?_
          refine ap1 tyVersion 51 (.slice A103 (gt (x0.Segments.set (((impl_findAlive_m x0 x1.Row.Id).1).toNat) (impl_ApplyUpdate_v1 x0 x1)) k95).length c104) (gt (x0.Segments.set (((impl_findAlive_m x0 x1.Row.Id).1).toNat) (impl_ApplyUpdate_v1 x0 x1)) k95) (⟨x1.Row.Id, (((gt (gt x0.Segments (((impl_findAlive_m x0 x1.Row.Id).1).toNat)) (((impl_findAlive_m x0 x1.Row.Id).2).toNat)).Values).set (x1.Field.toNat) x1.Value), (IntKind.i64.wrap (x0.Now + 1)), (-1)⟩ : DVersion) [I34] [iFoc (tSl tyVersion 51) 72 (some ⟨g44, 0, none⟩) x0.Segments.length c23 (x0.Segments.set (((impl_findAlive_m x0 x1.Row.Id).1).toNat) (impl_ApplyUpdate_v1 x0 x1)) k95 K16, I31, iBox p26 26 K11, iBox p19 26 [.slice none 0 0, .int .i64 0], iBox p18 31 K9, I33] K17 (pk [0, 1, 3, 2, 4, 5, 6, 7, 8]) (fun _ _ hs => Els.single (tyVersion_join (x := (⟨x1.Row.Id, (((gt (gt x0.Segments (((impl_findAlive_m x0 x1.Row.Id).1).toNat)) (((impl_findAlive_m x0 x1.Row.Id).2).toNat)).Values).set (x1.Field.toNat) x1.Value), (IntKind.i64.wrap (x0.Now + 1)), (-1)⟩ : DVersion)) hs)) underlying72 type51 (show ((gt (x0.Segments.set (((impl_findAlive_m x0 x1.Row.Id).1).toNat) (impl_ApplyUpdate_v1 x0 x1)) k95).length + 1) * 48 ≤ 140737488355328 from by first | omega | (have hx := gtset_len (xs := x0.Segments) (i := (impl_findAlive_m x0 x1.Row.Id).1.toNat) (y := impl_ApplyUpdate_v1 x0 x1) List.length_set k95; omega)) (fun v110 => ?_)
          refine WM_form (n := 0) rfl ?_
          rintro A111 c112 rfl m113
          refine qnD (pk [2, 3, 4, 5, 6]) (pk [1, 2, 3, 4, 5, 6]) ?_
          refine qtD 15 13 16383 rfl (vix 1 k95 underlying24 type72) ?_
          refine qoD 15 14 32767 rfl ?_
          let I36 : It := iOwn (tSl tyVersion 51) [.slice A111 (impl_ApplyUpdate_v2 x0 x1 k95).length c112] (impl_ApplyUpdate_v2 x0 x1 k95)
          refine sf 0 1 [.slice A111 (impl_ApplyUpdate_v2 x0 x1 k95).length c112] [I36, I31, iBox p26 26 K11, iBox p19 26 [.slice none 0 0, .int .i64 0], iBox p18 31 K9, I33] (pk [1, 0, 2, 3, 4, 5, 6]) type72 ?_
          refine qxD (pk [2, 3, 4, 5, 6]) ?_
          refine QB_done (by kernel_rfl) ?_
          refine QM_then (sr ?_)
          refine wv (fun W hm => rv_loadN (cs := K11) underlying26 type26 rfl rfl (hm.boxCells (n := 3) rfl)) ?_
          refine sb 0 K11 [iFoc (tSl tyVersion 51) 72 (some ⟨g44, 0, none⟩) x0.Segments.length c23 (x0.Segments.set (((impl_findAlive_m x0 x1.Row.Id).1).toNat) (impl_ApplyUpdate_v1 x0 x1)) k95 [.slice A111 (impl_ApplyUpdate_v2 x0 x1 k95).length c112], I36, I31, iBox p26 26 K11, iBox p18 31 K9, I33] (pk [4, 0, 1, 2, 3, 5, 6]) type26 ?_
          refine wa (nt' (CM_ret (QM_block_ret (QM_then_ret (QM_then_ret (QM_block_ret (QM_then_ret ?_)))))))
          refine QM_items (fun W hm => Mem.unfocus (Mem.join (is := [I36]) (js := (iFoc (tSl tyVersion 51) 72 (some ⟨g44, 0, none⟩) x0.Segments.length c23 (x0.Segments.set (((impl_findAlive_m x0 x1.Row.Id).1).toNat) (impl_ApplyUpdate_v1 x0 x1)) k95 [.slice A111 (impl_ApplyUpdate_v2 x0 x1 k95).length c112] :: [iBox p19 26 K11, I31, iBox p26 26 K11, iBox p18 31 K9, I33])) (fun _ _ hs => Sep.one hs) (hm.pick [2, 1, 0, 3, 4, 5, 6] (by decide)))) ?_
          have he115 := (show impl_ApplyUpdate_m x0 x1 = ((⟨((x0.Segments.set (((impl_findAlive_m x0 x1.Row.Id).1).toNat) (impl_ApplyUpdate_v1 x0 x1)).set k95 (impl_ApplyUpdate_v2 x0 x1 k95)), (IntKind.i64.wrap (x0.Now + 1))⟩ : DStore), true) from cond_t g28 (cond_t g30 (cond_f g32 (cond_f g35 (cond_t g43 (cond_t g90 (cond_f g93 (fin_inl (rng_ret (body := F1) (k := k95) (s := ()) (show k95 < x0.Segments.length from by omega) (cond_t g108 (rfl)) hF97) rfl))))))))
          refine QM_r2 rfl (RR_cell (n := 1) rfl rfl underlying26 type26 rfl) (RR_tmp rfl) (fun W hm => ⟨K11, ?_, ?_⟩)
          ·first | rw [he115] | rfl
           try rfl
          ·rw [he115]; exact Mem.join (is := [iOwn (tSl (tSl tyVersion 51) 72) [.slice (some ⟨g44, 0, none⟩) x0.Segments.length c23] ((x0.Segments.set (((impl_findAlive_m x0 x1.Row.Id).1).toNat) (impl_ApplyUpdate_v1 x0 x1)).set k95 (impl_ApplyUpdate_v2 x0 x1 k95))]) (js := []) (fun _ _ hs => tyStore_join (x := (⟨((x0.Segments.set (((impl_findAlive_m x0 x1.Row.Id).1).toNat) (impl_ApplyUpdate_v1 x0 x1)).set k95 (impl_ApplyUpdate_v2 x0 x1 k95)), (IntKind.i64.wrap (x0.Now + 1))⟩ : DStore)) hs) (hm.pick [0] (by decide))
         ·have g108 := decide_eq_false h107
          refine CM_condF rfl g108 ?_
          refine CM_skip (QM_block_normal (QM_then (CM_region ?_)))
          refine wv (vadN k95 1 (by omega)) ?_
          refine wm (WM_nil ?_)
          let K18 : List Value := [.slice A103 (gt (x0.Segments.set (((impl_findAlive_m x0 x1.Row.Id).1).toNat) (impl_ApplyUpdate_v1 x0 x1)) k95).length c104]
          refine QM_items (fun W hm => Mem.unfocus0 (Mem.join (is := [iOwn (tSl tyVersion 51) K18 (gt (x0.Segments.set (((impl_findAlive_m x0 x1.Row.Id).1).toNat) (impl_ApplyUpdate_v1 x0 x1)) k95)]) (js := (iFoc (tSl tyVersion 51) 72 (some ⟨g44, 0, none⟩) x0.Segments.length c23 (x0.Segments.set (((impl_findAlive_m x0 x1.Row.Id).1).toNat) (impl_ApplyUpdate_v1 x0 x1)) k95 K18 :: [I34, I31, iBox p26 26 K11, iBox p19 26 [.slice none 0 0, .int .i64 0], iBox p18 31 K9, I33])) (fun _ _ hs => Sep.one hs) hm)) ?_
          have hn116 := rng_next (R := (DStore × Bool)) (body := F1) (k := k95) (s := ()) (s' := ()) (show k95 < x0.Segments.length from by omega) (cond_f g108 (rfl)) hF97
          exact QM_round (k95 + 1, (), ()) sl8 (fun W hm => hm) ⟨(by omega), hn116⟩ (rl (by omega))
        ·have g100 := dlF hl99
         refine CM_condF rfl g100 ?_
         refine CM_exit (QM_then_exit (QM_then_exit ?_))
         have hE117 : R5 (x0.Segments.length - 0) 0 () = Sum.inr () := rng_end hl99 hF97
         refine QM_block_hit (QM_then (CM_seq ?_))
         refine CM_items (pk [4, 6]) ?_
         refine CM_region ?_
         refine wv (fun W hm => rv_loadN (cs := [.slice (some a58) x0.Segments.length c5, .int .i64 x0.Now]) underlying26 type26 rfl rfl (hm.boxCells (n := 1) rfl)) ?_
         refine wcs tyStore x0 (cl_fn cb37 rfl) (fun W hm => impl_copyStore_c2 W _ x0 (tyStore_mk (x := x0) (hm.rdS0 r7)) s_0) (fun z118 => ?_)
         refine tyStore_sp ?_
         rintro v119 rfl
         refine WM_form (n := 0) rfl ?_
         rintro A120 c121 rfl m122
         let I37 : It := iOwn (tSl (tSl tyVersion 51) 72) [.slice A120 x0.Segments.length c121] x0.Segments
         refine sb 0 [.slice A120 x0.Segments.length c121, .int .i64 x0.Now] [I37, I33] (pk [1, 0, 2]) type26 ?_
         refine wa (nt' (CM_ret ?_))
         have he124 := (show impl_ApplyUpdate_m x0 x1 = (x0, false) from cond_t g28 (cond_t g30 (cond_f g32 (cond_f g35 (cond_t g43 (cond_t g90 (cond_f g93 (fin_inr hE117 (rfl)))))))))
         refine QM_r2 rfl (RR_cell (n := 0) rfl rfl underlying26 type26 rfl) (RR_tmp rfl) (fun W hm => ⟨[.slice A120 x0.Segments.length c121, .int .i64 x0.Now], ?_, ?_⟩)
         ·first | rw [he124] | rfl
          try rfl
         ·rw [he124]; exact Mem.join (is := [I37]) (js := []) (fun _ _ hs => tyStore_join (x := x0) hs) (hm.pick [1] (by decide))
      ·have g90 := beq_eq_false_iff_ne.2 h89
       refine CM_condF rfl g90 ?_
       refine CM_skip (QM_then (CM_seq (sr ?_)))
       refine wv (vf underlying31 rfl type3) ?_
       refine wv (vl 7 0 underlying3) ?_
       refine wv (fun W hm => rv_eql rfl rfl) ?_
       refine nt' ?_
       by_cases h125 : x1.Kind = 2
       ·have g126 := beq_iff_eq.2 h125
        refine CM_condT rfl g126 ?_
        refine CM_seq ?_
        refine CM_items (pk [1, 2, 3, 5, 6]) ?_
        refine CM_region ?_
        refine wv (fun W hm => rv_loadN (cs := K11) underlying26 type26 rfl rfl (hm.boxCells (n := 3) rfl)) ?_
        refine sb 0 K11 [iFoc tyVersion 51 (some ⟨g51, 0, none⟩) ((gt x0.Segments (((impl_findAlive_m x0 x1.Row.Id).1).toNat)).length) c48 (gt x0.Segments (((impl_findAlive_m x0 x1.Row.Id).1).toNat)) (((impl_findAlive_m x0 x1.Row.Id).2).toNat) K13, I32, iFoc (tSl tyVersion 51) 72 (some ⟨g44, 0, none⟩) x0.Segments.length c23 x0.Segments (((impl_findAlive_m x0 x1.Row.Id).1).toNat) K12, iBox p26 26 K11] (pk [4, 0, 1, 2, 3]) type26 ?_
        refine wa (nt' (CM_ret (QM_then_ret ?_)))
        refine QM_items (fun W hm => Mem.unfocus (Mem.join (is := [I32]) (js := (iFoc tyVersion 51 (some ⟨g51, 0, none⟩) ((gt x0.Segments (((impl_findAlive_m x0 x1.Row.Id).1).toNat)).length) c48 (gt x0.Segments (((impl_findAlive_m x0 x1.Row.Id).1).toNat)) (((impl_findAlive_m x0 x1.Row.Id).2).toNat) K13 :: [iBox p19 26 K11, iFoc (tSl tyVersion 51) 72 (some ⟨g44, 0, none⟩) x0.Segments.length c23 x0.Segments (((impl_findAlive_m x0 x1.Row.Id).1).toNat) K12, iBox p26 26 K11])) (fun _ _ hs => tyVersion_join (x := (⟨(gt (gt x0.Segments (((impl_findAlive_m x0 x1.Row.Id).1).toNat)) (((impl_findAlive_m x0 x1.Row.Id).2).toNat)).Id, (gt (gt x0.Segments (((impl_findAlive_m x0 x1.Row.Id).1).toNat)) (((impl_findAlive_m x0 x1.Row.Id).2).toNat)).Values, (gt (gt x0.Segments (((impl_findAlive_m x0 x1.Row.Id).1).toNat)) (((impl_findAlive_m x0 x1.Row.Id).2).toNat)).Born, (IntKind.i64.wrap (x0.Now + 1))⟩ : DVersion)) hs) (hm.pick [2, 1, 0, 3, 4] (by decide)))) ?_
        refine QM_items (fun W hm => Mem.unfocus (Mem.join (is := [iOwn (tSl tyVersion 51) K12 (impl_ApplyUpdate_v1 x0 x1)]) (js := (iFoc (tSl tyVersion 51) 72 (some ⟨g44, 0, none⟩) x0.Segments.length c23 x0.Segments (((impl_findAlive_m x0 x1.Row.Id).1).toNat) K12 :: [iBox p19 26 K11, iBox p26 26 K11])) (fun _ _ hs => Sep.one hs) (hm.pick [0, 2, 1, 3] (by decide)))) ?_
        have he127 := (show impl_ApplyUpdate_m x0 x1 = ((⟨(x0.Segments.set (((impl_findAlive_m x0 x1.Row.Id).1).toNat) (impl_ApplyUpdate_v1 x0 x1)), (IntKind.i64.wrap (x0.Now + 1))⟩ : DStore), true) from cond_t g28 (cond_t g30 (cond_f g32 (cond_f g35 (cond_t g43 (cond_f g90 (cond_t g126 (rfl))))))))
        refine QM_r2 rfl (RR_cell (n := 1) rfl rfl underlying26 type26 rfl) (RR_tmp rfl) (fun W hm => ⟨K11, ?_, ?_⟩)
        ·first | rw [he127] | rfl
         try rfl
        ·rw [he127]; exact Mem.join (is := [iOwn (tSl (tSl tyVersion 51) 72) [.slice (some ⟨g44, 0, none⟩) x0.Segments.length c23] (x0.Segments.set (((impl_findAlive_m x0 x1.Row.Id).1).toNat) (impl_ApplyUpdate_v1 x0 x1))]) (js := []) (fun _ _ hs => tyStore_join (x := (⟨(x0.Segments.set (((impl_findAlive_m x0 x1.Row.Id).1).toNat) (impl_ApplyUpdate_v1 x0 x1)), (IntKind.i64.wrap (x0.Now + 1))⟩ : DStore)) hs) (hm.pick [0] (by decide))
       ·have g126 := beq_eq_false_iff_ne.2 h125
        refine CM_condF rfl g126 ?_
        refine CM_skip (QM_then (CM_seq (sr ?_)))
        refine wv (vf underlying26 rfl type24) ?_
        refine wv (vl 5 0 underlying24) ?_
        refine wv (vlen underlying24) ?_
        refine wm (nt' (CM_block ?_))
        let K19 : List Value := [.slice A85 ((gt (gt x0.Segments (((impl_findAlive_m x0 x1.Row.Id).1).toNat)) (((impl_findAlive_m x0 x1.Row.Id).2).toNat)).Values).length c86]
        let I38 : It := iOwn (tSl tInt 3) K19 ((gt (gt x0.Segments (((impl_findAlive_m x0 x1.Row.Id).1).toNat)) (((impl_findAlive_m x0 x1.Row.Id).2).toNat)).Values)
        let I39 : It := iBox p17 26 [.slice (some a58) x0.Segments.length c5, .int .i64 x0.Now]
        refine CM_items (fun W hm => Mem.unfocus (Mem.join (is := [I32]) (js := (iFoc tyVersion 51 (some ⟨g51, 0, none⟩) ((gt x0.Segments (((impl_findAlive_m x0 x1.Row.Id).1).toNat)).length) c48 (gt x0.Segments (((impl_findAlive_m x0 x1.Row.Id).1).toNat)) (((impl_findAlive_m x0 x1.Row.Id).2).toNat) K13 :: [I38, iFoc (tSl tyVersion 51) 72 (some ⟨g44, 0, none⟩) x0.Segments.length c23 x0.Segments (((impl_findAlive_m x0 x1.Row.Id).1).toNat) K12, I31, iBox p26 26 K11, iBox p19 26 [.slice none 0 0, .int .i64 0], iBox p18 31 K9, I39])) (fun _ _ hs => tyVersion_join (x := (⟨(gt (gt x0.Segments (((impl_findAlive_m x0 x1.Row.Id).1).toNat)) (((impl_findAlive_m x0 x1.Row.Id).2).toNat)).Id, (gt (gt x0.Segments (((impl_findAlive_m x0 x1.Row.Id).1).toNat)) (((impl_findAlive_m x0 x1.Row.Id).2).toNat)).Values, (gt (gt x0.Segments (((impl_findAlive_m x0 x1.Row.Id).1).toNat)) (((impl_findAlive_m x0 x1.Row.Id).2).toNat)).Born, (IntKind.i64.wrap (x0.Now + 1))⟩ : DVersion)) hs) (hm.pick [2, 1, 0, 3, 4, 5, 6, 7, 8] (by decide)))) ?_
        refine CM_items (fun W hm => Mem.unfocus (Mem.join (is := [iOwn (tSl tyVersion 51) K12 (impl_ApplyUpdate_v1 x0 x1)]) (js := (iFoc (tSl tyVersion 51) 72 (some ⟨g44, 0, none⟩) x0.Segments.length c23 x0.Segments (((impl_findAlive_m x0 x1.Row.Id).1).toNat) K12 :: [I38, I31, iBox p26 26 K11, iBox p19 26 [.slice none 0 0, .int .i64 0], iBox p18 31 K9, I39])) (fun _ _ hs => Sep.one hs) (hm.pick [0, 2, 1, 3, 4, 5, 6, 7] (by decide)))) ?_
        let F2 := fun k (_ : Unit) => impl_ApplyUpdate_b2 x0 x1 k
        let R6 := rng (R := (DStore × Bool)) F2
        let I40 : It := iOwn (tSl (tSl tyVersion 51) 72) [.slice (some ⟨g44, 0, none⟩) x0.Segments.length c23] (x0.Segments.set (((impl_findAlive_m x0 x1.Row.Id).1).toNat) (impl_ApplyUpdate_v1 x0 x1))
        refine CM_loop (σ := Nat × (Unit) × (Unit)) (fun s => [(2, .pointer (some (⟨p17, 0, none⟩ : Addr))), (3, .pointer (some (⟨p18, 0, none⟩ : Addr))), (4, .pointer (some (⟨p19, 0, none⟩ : Addr))), (6, .pointer (some (⟨p26, 0, none⟩ : Addr))), (9, .slice A85 ((gt (gt x0.Segments (((impl_findAlive_m x0 x1.Row.Id).1).toNat)) (((impl_findAlive_m x0 x1.Row.Id).2).toNat)).Values).length c86), (87, .slice (some ⟨g44, 0, none⟩) x0.Segments.length c23), (88, .int .i64 ((x0.Segments.length : Nat) : Int)), (89, .int .i64 ((s.1 : Nat) : Int))]) (fun s => [I40, I38, I31, iBox p26 26 K11, iBox p19 26 [.slice none 0 0, .int .i64 0], iBox p18 31 K9, I39]) (fun s => s.1 ≤ x0.Segments.length ∧ R6 (x0.Segments.length - s.1) s.1 s.2.1 = R6 (x0.Segments.length - 0) 0 ()) (fun s => x0.Segments.length - s.1) (0, (), ()) sl8 (fun W hm => hm) ⟨(by omega), rfl⟩ ?_
        rintro ⟨k128, ⟨⟩, ⟨⟩⟩ H131
        obtain ⟨hk129, hF130⟩ : k128 ≤ x0.Segments.length ∧ R6 (x0.Segments.length - k128) k128 () = R6 (x0.Segments.length - 0) 0 () := H131
        show CM Try.prog 115 _ _ _ _ [(2, .pointer (some (⟨p17, 0, none⟩ : Addr))), (3, .pointer (some (⟨p18, 0, none⟩ : Addr))), (4, .pointer (some (⟨p19, 0, none⟩ : Addr))), (6, .pointer (some (⟨p26, 0, none⟩ : Addr))), (9, .slice A85 ((gt (gt x0.Segments (((impl_findAlive_m x0 x1.Row.Id).1).toNat)) (((impl_findAlive_m x0 x1.Row.Id).2).toNat)).Values).length c86), (87, .slice (some ⟨g44, 0, none⟩) x0.Segments.length c23), (88, .int .i64 ((x0.Segments.length : Nat) : Int)), (89, .int .i64 ((k128 : Nat) : Int))] [I40, I38, I31, iBox p26 26 K11, iBox p19 26 [.slice none 0 0, .int .i64 0], iBox p18 31 K9, I39]
        refine sr ?_
        refine wv vlss ?_
        refine nt' (CM_seq ?_)
        by_cases hl132 : k128 < x0.Segments.length
        ·have g133 := dlT hl132
         refine CM_condT rfl g133 ?_
         refine CM_skip (QM_then (CM_seq (CM_block (sr (wm ?_)))))
         refine wv (vix 1 k128 underlying24 type72) ?_
         refine WM_focus (E := (tSl tyVersion 51)) (e := 72) (A := (some ⟨g44, 0, none⟩)) (n := x0.Segments.length) (c := c23) (xs := (x0.Segments.set (((impl_findAlive_m x0 x1.Row.Id).1).toNat) (impl_ApplyUpdate_v1 x0 x1))) (k := k128) (js := [I38, I31, iBox p26 26 K11, iBox p19 26 [.slice none 0 0, .int .i64 0], iBox p18 31 K9, I39]) (by omega) (fun W hm => hm) (fun ck134 => ?_)
         refine WM_split (γ := Value) (js := fun g => [iOwn (tSl tyVersion 51) [g] (gt (x0.Segments.set (((impl_findAlive_m x0 x1.Row.Id).1).toNat) (impl_ApplyUpdate_v1 x0 x1)) k128)]) (C := fun g => ck134 = [g]) (fun _ _ h => tSl_split h) ?_
         rintro v135 rfl
         refine WM_form (n := 0) rfl ?_
         rintro A136 c137 rfl m138
         refine wv (fun W hm => rv_load underlying72 rfl rfl (hm.focInt (i := 1) rfl rfl)) ?_
         refine wa (wa (nt' (sr (wm ?_))))
         refine wv (vlen underlying72) ?_
         refine wv vlss ?_
         refine nt' ?_
         by_cases h140 : (((gt (x0.Segments.set (((impl_findAlive_m x0 x1.Row.Id).1).toNat) (impl_ApplyUpdate_v1 x0 x1)) k128).length : Nat) : Int) < 4
         ·have g141 := decide_eq_true h140
          refine CM_condT rfl g141 ?_
          refine CM_seq ?_
          let K20 : List Value := [.slice A136 (gt (x0.Segments.set (((impl_findAlive_m x0 x1.Row.Id).1).toNat) (impl_ApplyUpdate_v1 x0 x1)) k128).length c137]
          refine rd2 15 [14] (s := [I31, iBox p26 26 K11, iBox p19 26 [.slice none 0 0, .int .i64 0], iBox p18 31 K9, I39]) (s2 := [iFoc (tSl tyVersion 51) 72 (some ⟨g44, 0, none⟩) x0.Segments.length c23 (x0.Segments.set (((impl_findAlive_m x0 x1.Row.Id).1).toNat) (impl_ApplyUpdate_v1 x0 x1)) k128 K20, I31, iBox p26 26 K11, iBox p19 26 [.slice none 0 0, .int .i64 0], iBox p18 31 K9, I39]) (pk [3, 4, 5, 6, 7]) (pk [1, 3, 4, 5, 6, 7]) ?_
          refine qtD 15 0 1 rfl (vf underlying26 rfl type24) ?_
          refine qtD 15 1 3 rfl (vl 2 0 underlying24) ?_
          refine qtD 15 2 7 rfl vmv ?_
          refine qtD 15 3 15 rfl vmv ?_
          refine qtD 15 4 31 rfl (vf underlying31 rfl type29) ?_
          refine qtD 15 5 63 rfl (fun W hm => rv_fieldA (o := 1) underlying29 rfl type3 (by decide) rfl rfl) ?_
          refine qtD 15 6 127 rfl (vl 4 1 underlying3) ?_
          refine qtD 15 7 255 rfl vmv ?_
          refine qtD 15 8 511 rfl (vf underlying26 rfl type3) ?_
          refine qtD 15 9 1023 rfl (vl 2 1 underlying3) ?_
          let K21 : List Value := [.int .i64 x1.Row.Id, .slice A85 ((gt (gt x0.Segments (((impl_findAlive_m x0 x1.Row.Id).1).toNat)) (((impl_findAlive_m x0 x1.Row.Id).2).toNat)).Values).length c86, .int .i64 (IntKind.i64.wrap (x0.Now + 1)), .int .i64 (-1)]
          refine qtD 15 10 2047 rfl (fun W hm => rv_build (cs := K21) rfl (by kernel_rfl)) ?_
          refine qoD 15 11 4095 rfl ?_
          refine WM_build (cs := K21) underlying72 type51 rfl (by decide) (by decide) rfl (by kernel_rfl) (Wd_none rfl) (by decide) (fun p142 => ?_)
          refine qnD (pk [4, 5, 6, 7, 8]) (pk [2, 4, 5, 6, 7, 8]) ?_
          refine qoD 15 12 8191 rfl ?_
          refine ap1 tyVersion 51 (.slice A136 (gt (x0.Segments.set (((impl_findAlive_m x0 x1.Row.Id).1).toNat) (impl_ApplyUpdate_v1 x0 x1)) k128).length c137) (gt (x0.Segments.set (((impl_findAlive_m x0 x1.Row.Id).1).toNat) (impl_ApplyUpdate_v1 x0 x1)) k128) (⟨x1.Row.Id, ((gt (gt x0.Segments (((impl_findAlive_m x0 x1.Row.Id).1).toNat)) (((impl_findAlive_m x0 x1.Row.Id).2).toNat)).Values), (IntKind.i64.wrap (x0.Now + 1)), (-1)⟩ : DVersion) [I38] [iFoc (tSl tyVersion 51) 72 (some ⟨g44, 0, none⟩) x0.Segments.length c23 (x0.Segments.set (((impl_findAlive_m x0 x1.Row.Id).1).toNat) (impl_ApplyUpdate_v1 x0 x1)) k128 K20, I31, iBox p26 26 K11, iBox p19 26 [.slice none 0 0, .int .i64 0], iBox p18 31 K9, I39] K21 (pk [0, 1, 3, 2, 4, 5, 6, 7, 8]) (fun _ _ hs => Els.single (tyVersion_join (x := (⟨x1.Row.Id, ((gt (gt x0.Segments (((impl_findAlive_m x0 x1.Row.Id).1).toNat)) (((impl_findAlive_m x0 x1.Row.Id).2).toNat)).Values), (IntKind.i64.wrap (x0.Now + 1)), (-1)⟩ : DVersion)) hs)) underlying72 type51 (show ((gt (x0.Segments.set (((impl_findAlive_m x0 x1.Row.Id).1).toNat) (impl_ApplyUpdate_v1 x0 x1)) k128).length + 1) * 48 ≤ 140737488355328 from by first | omega | (have hx := gtset_len (xs := x0.Segments) (i := (impl_findAlive_m x0 x1.Row.Id).1.toNat) (y := impl_ApplyUpdate_v1 x0 x1) List.length_set k128; omega)) (fun v143 => ?_)
          refine WM_form (n := 0) rfl ?_
          rintro A144 c145 rfl m146
          refine qnD (pk [2, 3, 4, 5, 6]) (pk [1, 2, 3, 4, 5, 6]) ?_
          refine qtD 15 13 16383 rfl (vix 1 k128 underlying24 type72) ?_
          refine qoD 15 14 32767 rfl ?_
          let I41 : It := iOwn (tSl tyVersion 51) [.slice A144 (impl_ApplyUpdate_v3 x0 x1 k128).length c145] (impl_ApplyUpdate_v3 x0 x1 k128)
          refine sf 0 1 [.slice A144 (impl_ApplyUpdate_v3 x0 x1 k128).length c145] [I41, I31, iBox p26 26 K11, iBox p19 26 [.slice none 0 0, .int .i64 0], iBox p18 31 K9, I39] (pk [1, 0, 2, 3, 4, 5, 6]) type72 ?_
          refine qxD (pk [2, 3, 4, 5, 6]) ?_
          refine QB_done (by kernel_rfl) ?_
          refine QM_then (sr ?_)
          refine wv (fun W hm => rv_loadN (cs := K11) underlying26 type26 rfl rfl (hm.boxCells (n := 3) rfl)) ?_
          refine sb 0 K11 [iFoc (tSl tyVersion 51) 72 (some ⟨g44, 0, none⟩) x0.Segments.length c23 (x0.Segments.set (((impl_findAlive_m x0 x1.Row.Id).1).toNat) (impl_ApplyUpdate_v1 x0 x1)) k128 [.slice A144 (impl_ApplyUpdate_v3 x0 x1 k128).length c145], I41, I31, iBox p26 26 K11, iBox p18 31 K9, I39] (pk [4, 0, 1, 2, 3, 5, 6]) type26 ?_
          refine wa (nt' (CM_ret (QM_block_ret (QM_then_ret (QM_then_ret (QM_block_ret (QM_then_ret ?_)))))))
          refine QM_items (fun W hm => Mem.unfocus (Mem.join (is := [I41]) (js := (iFoc (tSl tyVersion 51) 72 (some ⟨g44, 0, none⟩) x0.Segments.length c23 (x0.Segments.set (((impl_findAlive_m x0 x1.Row.Id).1).toNat) (impl_ApplyUpdate_v1 x0 x1)) k128 [.slice A144 (impl_ApplyUpdate_v3 x0 x1 k128).length c145] :: [iBox p19 26 K11, I31, iBox p26 26 K11, iBox p18 31 K9, I39])) (fun _ _ hs => Sep.one hs) (hm.pick [2, 1, 0, 3, 4, 5, 6] (by decide)))) ?_
          have he148 := (show impl_ApplyUpdate_m x0 x1 = ((⟨((x0.Segments.set (((impl_findAlive_m x0 x1.Row.Id).1).toNat) (impl_ApplyUpdate_v1 x0 x1)).set k128 (impl_ApplyUpdate_v3 x0 x1 k128)), (IntKind.i64.wrap (x0.Now + 1))⟩ : DStore), true) from cond_t g28 (cond_t g30 (cond_f g32 (cond_f g35 (cond_t g43 (cond_f g90 (cond_f g126 (fin_inl (rng_ret (body := F2) (k := k128) (s := ()) (show k128 < x0.Segments.length from by omega) (cond_t g141 (rfl)) hF130) rfl))))))))
          refine QM_r2 rfl (RR_cell (n := 1) rfl rfl underlying26 type26 rfl) (RR_tmp rfl) (fun W hm => ⟨K11, ?_, ?_⟩)
          ·first | rw [he148] | rfl
           try rfl
          ·rw [he148]; exact Mem.join (is := [iOwn (tSl (tSl tyVersion 51) 72) [.slice (some ⟨g44, 0, none⟩) x0.Segments.length c23] ((x0.Segments.set (((impl_findAlive_m x0 x1.Row.Id).1).toNat) (impl_ApplyUpdate_v1 x0 x1)).set k128 (impl_ApplyUpdate_v3 x0 x1 k128))]) (js := []) (fun _ _ hs => tyStore_join (x := (⟨((x0.Segments.set (((impl_findAlive_m x0 x1.Row.Id).1).toNat) (impl_ApplyUpdate_v1 x0 x1)).set k128 (impl_ApplyUpdate_v3 x0 x1 k128)), (IntKind.i64.wrap (x0.Now + 1))⟩ : DStore)) hs) (hm.pick [0] (by decide))
         ·have g141 := decide_eq_false h140
          refine CM_condF rfl g141 ?_
          refine CM_skip (QM_block_normal (QM_then (CM_region ?_)))
          refine wv (vadN k128 1 (by omega)) ?_
          refine wm (WM_nil ?_)
          let K22 : List Value := [.slice A136 (gt (x0.Segments.set (((impl_findAlive_m x0 x1.Row.Id).1).toNat) (impl_ApplyUpdate_v1 x0 x1)) k128).length c137]
          refine QM_items (fun W hm => Mem.unfocus0 (Mem.join (is := [iOwn (tSl tyVersion 51) K22 (gt (x0.Segments.set (((impl_findAlive_m x0 x1.Row.Id).1).toNat) (impl_ApplyUpdate_v1 x0 x1)) k128)]) (js := (iFoc (tSl tyVersion 51) 72 (some ⟨g44, 0, none⟩) x0.Segments.length c23 (x0.Segments.set (((impl_findAlive_m x0 x1.Row.Id).1).toNat) (impl_ApplyUpdate_v1 x0 x1)) k128 K22 :: [I38, I31, iBox p26 26 K11, iBox p19 26 [.slice none 0 0, .int .i64 0], iBox p18 31 K9, I39])) (fun _ _ hs => Sep.one hs) hm)) ?_
          have hn149 := rng_next (R := (DStore × Bool)) (body := F2) (k := k128) (s := ()) (s' := ()) (show k128 < x0.Segments.length from by omega) (cond_f g141 (rfl)) hF130
          exact QM_round (k128 + 1, (), ()) sl8 (fun W hm => hm) ⟨(by omega), hn149⟩ (rl (by omega))
        ·have g133 := dlF hl132
         refine CM_condF rfl g133 ?_
         refine CM_exit (QM_then_exit (QM_then_exit ?_))
         have hE150 : R6 (x0.Segments.length - 0) 0 () = Sum.inr () := rng_end hl132 hF130
         refine QM_block_hit (QM_then (CM_seq ?_))
         refine CM_items (pk [4, 6]) ?_
         refine CM_region ?_
         refine wv (fun W hm => rv_loadN (cs := [.slice (some a58) x0.Segments.length c5, .int .i64 x0.Now]) underlying26 type26 rfl rfl (hm.boxCells (n := 1) rfl)) ?_
         refine wcs tyStore x0 (cl_fn cb37 rfl) (fun W hm => impl_copyStore_c2 W _ x0 (tyStore_mk (x := x0) (hm.rdS0 r7)) s_0) (fun z151 => ?_)
         refine tyStore_sp ?_
         rintro v152 rfl
         refine WM_form (n := 0) rfl ?_
         rintro A153 c154 rfl m155
         let I42 : It := iOwn (tSl (tSl tyVersion 51) 72) [.slice A153 x0.Segments.length c154] x0.Segments
         refine sb 0 [.slice A153 x0.Segments.length c154, .int .i64 x0.Now] [I42, I39] (pk [1, 0, 2]) type26 ?_
         refine wa (nt' (CM_ret ?_))
         have he157 := (show impl_ApplyUpdate_m x0 x1 = (x0, false) from cond_t g28 (cond_t g30 (cond_f g32 (cond_f g35 (cond_t g43 (cond_f g90 (cond_f g126 (fin_inr hE150 (rfl)))))))))
         refine QM_r2 rfl (RR_cell (n := 0) rfl rfl underlying26 type26 rfl) (RR_tmp rfl) (fun W hm => ⟨[.slice A153 x0.Segments.length c154, .int .i64 x0.Now], ?_, ?_⟩)
         ·first | rw [he157] | rfl
          try rfl
         ·rw [he157]; exact Mem.join (is := [I42]) (js := []) (fun _ _ hs => tyStore_join (x := x0) hs) (hm.pick [1] (by decide))
     ·have g43 := decide_eq_false h42
      refine CM_condF rfl g43 ?_
      refine CM_skip (QM_then (CM_seq (sr ?_)))
      refine wv (vf underlying31 rfl type3) ?_
      refine wv (vl 4 0 underlying3) ?_
      refine wv (fun W hm => rv_eql rfl rfl) ?_
      refine nt' ?_
      by_cases h158 : x1.Kind = 3
      ·have g159 := beq_iff_eq.2 h158
       obtain ⟨hu5, hu6⟩ := hu2 (by assumption)
       refine CM_condT rfl g159 ?_
       refine CM_region (wm ?_)
       refine wv (vf underlying31 rfl type3) ?_
       refine wv (vl 4 3 underlying3) ?_
       refine wv (vf underlying31 rfl type3) ?_
       refine wv (vl 4 4 underlying3) ?_
       refine WM_formO (n := 0) rfl (by omega) ?_
       rintro g160 rfl
       refine wv (fun W hm => rv_indexI (sz := 1) (k := x1.Field) underlying27 type3 rfl rfl rfl (by omega) (by omega)) ?_
       refine WM_setEl (E := tInt) (e := 3) (u := .int .i64 x1.Value) (k := (x1.Field.toNat)) (p := g160) (n := x1.Row.Values.length) (xs := x1.Row.Values) (eis := []) (js := [iBox p26 26 K10, I29, iBox p19 26 [.slice none 0 0, .int .i64 0], iBox p18 31 K9, I30]) (yv := x1.Value) (fun W hm => hm) (fun _ _ hs => (Sep.nil hs ▸ tInt_own)) rfl type3 rfl (by omega) rfl rfl (Wd_none rfl) ?_
       refine nt' (CM_seq (sr ?_))
       refine wv (vf underlying31 rfl type3) ?_
       refine wv (vl 4 0 underlying3) ?_
       refine wv (fun W hm => rv_eql rfl rfl) ?_
       refine nt' ?_
       by_cases h161 : x1.Kind = 2
       ·have g162 := beq_iff_eq.2 h161
        refine CM_condT rfl g162 ?_
        refine CM_seq ?_
        refine CM_items (pk [1, 2, 3]) ?_
        refine CM_region ?_
        refine wv (fun W hm => rv_loadN (cs := K10) underlying26 type26 rfl rfl (hm.boxCells (n := 0) rfl)) ?_
        refine sb 0 K10 [iBox p26 26 K10, I29] (pk [2, 0, 1]) type26 ?_
        refine wa (nt' (CM_ret (QM_then_ret ?_)))
        have he163 := (show impl_ApplyUpdate_m x0 x1 = ((⟨x0.Segments, (IntKind.i64.wrap (x0.Now + 1))⟩ : DStore), true) from cond_t g28 (cond_t g30 (cond_f g32 (cond_f g35 (cond_f g43 (cond_t g159 (cond_t g162 (rfl))))))))
        refine QM_r2 rfl (RR_cell (n := 0) rfl rfl underlying26 type26 rfl) (RR_tmp rfl) (fun W hm => ⟨K10, ?_, ?_⟩)
        ·first | rw [he163] | rfl
         try rfl
        ·rw [he163]; exact Mem.join (is := [I29]) (js := []) (fun _ _ hs => tyStore_join (x := (⟨x0.Segments, (IntKind.i64.wrap (x0.Now + 1))⟩ : DStore)) hs) (hm.pick [2] (by decide))
       ·have g162 := beq_eq_false_iff_ne.2 h161
        refine CM_condF rfl g162 ?_
        refine CM_skip (QM_then (CM_seq (sr ?_)))
        refine wv (vf underlying26 rfl type24) ?_
        refine wv (vl 1 0 underlying24) ?_
        refine wv (vlen underlying24) ?_
        refine wm (nt' (CM_block ?_))
        let F3 := fun k (_ : Unit) => impl_ApplyUpdate_b3 x0 x1 k
        let R7 := rng (R := (DStore × Bool)) F3
        let I43 : It := iOwn (tSl tInt 3) [.slice (some ⟨g160, 0, none⟩) x1.Row.Values.length c39] (x1.Row.Values.set (x1.Field.toNat) x1.Value)
        refine CM_loop (σ := Nat × (Unit) × (Unit)) (fun s => [(2, .pointer (some (⟨p17, 0, none⟩ : Addr))), (3, .pointer (some (⟨p18, 0, none⟩ : Addr))), (4, .pointer (some (⟨p19, 0, none⟩ : Addr))), (6, .pointer (some (⟨p26, 0, none⟩ : Addr))), (9, .slice (some ⟨g160, 0, none⟩) x1.Row.Values.length c39), (87, .slice A22 x0.Segments.length c23), (88, .int .i64 ((x0.Segments.length : Nat) : Int)), (89, .int .i64 ((s.1 : Nat) : Int))]) (fun s => [I43, iBox p26 26 K10, I29, iBox p19 26 [.slice none 0 0, .int .i64 0], iBox p18 31 K9, I30]) (fun s => s.1 ≤ x0.Segments.length ∧ R7 (x0.Segments.length - s.1) s.1 s.2.1 = R7 (x0.Segments.length - 0) 0 ()) (fun s => x0.Segments.length - s.1) (0, (), ()) sl8 (fun W hm => hm) ⟨(by omega), rfl⟩ ?_
        rintro ⟨k164, ⟨⟩, ⟨⟩⟩ H167
        obtain ⟨hk165, hF166⟩ : k164 ≤ x0.Segments.length ∧ R7 (x0.Segments.length - k164) k164 () = R7 (x0.Segments.length - 0) 0 () := H167
        show CM Try.prog 115 _ _ _ _ [(2, .pointer (some (⟨p17, 0, none⟩ : Addr))), (3, .pointer (some (⟨p18, 0, none⟩ : Addr))), (4, .pointer (some (⟨p19, 0, none⟩ : Addr))), (6, .pointer (some (⟨p26, 0, none⟩ : Addr))), (9, .slice (some ⟨g160, 0, none⟩) x1.Row.Values.length c39), (87, .slice A22 x0.Segments.length c23), (88, .int .i64 ((x0.Segments.length : Nat) : Int)), (89, .int .i64 ((k164 : Nat) : Int))] [I43, iBox p26 26 K10, I29, iBox p19 26 [.slice none 0 0, .int .i64 0], iBox p18 31 K9, I30]
        refine sr ?_
        refine wv vlss ?_
        refine nt' (CM_seq ?_)
        by_cases hl168 : k164 < x0.Segments.length
        ·have g169 := dlT hl168
         refine CM_condT rfl g169 ?_
         refine CM_skip (QM_then (CM_seq (CM_block (sr (wm ?_)))))
         refine WM_formO (n := 2) rfl (by omega) ?_
         rintro g170 rfl
         refine wv (vix 1 k164 underlying24 type72) ?_
         let K23 : List Value := [.slice (some ⟨g170, 0, none⟩) x0.Segments.length c23, .int .i64 (IntKind.i64.wrap (x0.Now + 1))]
         refine WM_focus (E := (tSl tyVersion 51)) (e := 72) (A := (some ⟨g170, 0, none⟩)) (n := x0.Segments.length) (c := c23) (xs := x0.Segments) (k := k164) (js := [I43, iBox p26 26 K23, iBox p19 26 [.slice none 0 0, .int .i64 0], iBox p18 31 K9, I30]) (by omega) (pk [2, 0, 1, 3, 4, 5]) (fun ck171 => ?_)
         refine WM_split (γ := Value) (js := fun g => [iOwn (tSl tyVersion 51) [g] (gt x0.Segments k164)]) (C := fun g => ck171 = [g]) (fun _ _ h => tSl_split h) ?_
         rintro v172 rfl
         refine WM_form (n := 0) rfl ?_
         rintro A173 c174 rfl m175
         refine wv (fun W hm => rv_load underlying72 rfl rfl (hm.focInt (i := 1) rfl rfl)) ?_
         refine wa (wa (nt' (sr (wm ?_))))
         refine wv (vlen underlying72) ?_
         refine wv vlss ?_
         refine nt' ?_
         by_cases h177 : (((gt x0.Segments k164).length : Nat) : Int) < 4
         ·have g178 := decide_eq_true h177
          refine CM_condT rfl g178 ?_
          refine CM_seq ?_
          refine rd2 15 [14] (s := [iBox p26 26 K23, iBox p19 26 [.slice none 0 0, .int .i64 0], iBox p18 31 K9, I30]) (s2 := [iFoc (tSl tyVersion 51) 72 (some ⟨g170, 0, none⟩) x0.Segments.length c23 x0.Segments k164 [.slice A173 (gt x0.Segments k164).length c174], iBox p26 26 K23, iBox p19 26 [.slice none 0 0, .int .i64 0], iBox p18 31 K9, I30]) (pk [3, 4, 5, 6]) (pk [1, 3, 4, 5, 6]) ?_
          refine qtD 15 0 1 rfl (vf underlying26 rfl type24) ?_
          refine qtD 15 1 3 rfl (vl 1 0 underlying24) ?_
          refine qtD 15 2 7 rfl vmv ?_
          refine qtD 15 3 15 rfl vmv ?_
          refine qtD 15 4 31 rfl (vf underlying31 rfl type29) ?_
          refine qtD 15 5 63 rfl (fun W hm => rv_fieldA (o := 1) underlying29 rfl type3 (by decide) rfl rfl) ?_
          refine qtD 15 6 127 rfl (vl 3 1 underlying3) ?_
          refine qtD 15 7 255 rfl vmv ?_
          refine qtD 15 8 511 rfl (vf underlying26 rfl type3) ?_
          refine qtD 15 9 1023 rfl (vl 1 1 underlying3) ?_
          let K24 : List Value := [.int .i64 x1.Row.Id, .slice (some ⟨g160, 0, none⟩) x1.Row.Values.length c39, .int .i64 (IntKind.i64.wrap (x0.Now + 1)), .int .i64 (-1)]
          refine qtD 15 10 2047 rfl (fun W hm => rv_build (cs := K24) rfl (by kernel_rfl)) ?_
          refine qoD 15 11 4095 rfl ?_
          refine WM_build (cs := K24) underlying72 type51 rfl (by decide) (by decide) rfl (by kernel_rfl) (Wd_none rfl) (by decide) (fun p179 => ?_)
          refine qnD (pk [4, 5, 6, 7]) (pk [2, 4, 5, 6, 7]) ?_
          refine qoD 15 12 8191 rfl ?_
          refine ap1 tyVersion 51 (.slice A173 (gt x0.Segments k164).length c174) (gt x0.Segments k164) (⟨x1.Row.Id, (x1.Row.Values.set (x1.Field.toNat) x1.Value), (IntKind.i64.wrap (x0.Now + 1)), (-1)⟩ : DVersion) [I43] [iFoc (tSl tyVersion 51) 72 (some ⟨g170, 0, none⟩) x0.Segments.length c23 x0.Segments k164 [.slice A173 (gt x0.Segments k164).length c174], iBox p26 26 K23, iBox p19 26 [.slice none 0 0, .int .i64 0], iBox p18 31 K9, I30] K24 (pk [0, 1, 3, 2, 4, 5, 6, 7]) (fun _ _ hs => Els.single (tyVersion_join (x := (⟨x1.Row.Id, (x1.Row.Values.set (x1.Field.toNat) x1.Value), (IntKind.i64.wrap (x0.Now + 1)), (-1)⟩ : DVersion)) hs)) underlying72 type51 (show ((gt x0.Segments k164).length + 1) * 48 ≤ 140737488355328 from by first | omega | (have hx := gtset_len (xs := x0.Segments) (i := (impl_findAlive_m x0 x1.Row.Id).1.toNat) (y := impl_ApplyUpdate_v1 x0 x1) List.length_set k164; omega)) (fun v180 => ?_)
          refine WM_form (n := 0) rfl ?_
          rintro A181 c182 rfl m183
          refine qnD (pk [2, 3, 4, 5]) (pk [1, 2, 3, 4, 5]) ?_
          refine qtD 15 13 16383 rfl (vix 1 k164 underlying24 type72) ?_
          refine qoD 15 14 32767 rfl ?_
          let K25 : List Value := [.slice A181 ((gt x0.Segments k164) ++ [(⟨x1.Row.Id, (x1.Row.Values.set (x1.Field.toNat) x1.Value), (IntKind.i64.wrap (x0.Now + 1)), (-1)⟩ : DVersion)]).length c182]
          let I44 : It := iOwn (tSl tyVersion 51) K25 ((gt x0.Segments k164) ++ [(⟨x1.Row.Id, (x1.Row.Values.set (x1.Field.toNat) x1.Value), (IntKind.i64.wrap (x0.Now + 1)), (-1)⟩ : DVersion)])
          refine sf 0 1 K25 [I44, iBox p26 26 K23, iBox p19 26 [.slice none 0 0, .int .i64 0], iBox p18 31 K9, I30] (pk [1, 0, 2, 3, 4, 5]) type72 ?_
          refine qxD (pk [2, 3, 4, 5]) ?_
          refine QB_done (by kernel_rfl) ?_
          refine QM_then (sr ?_)
          refine wv (fun W hm => rv_loadN (cs := K23) underlying26 type26 rfl rfl (hm.boxCells (n := 2) rfl)) ?_
          refine sb 0 K23 [iFoc (tSl tyVersion 51) 72 (some ⟨g170, 0, none⟩) x0.Segments.length c23 x0.Segments k164 K25, I44, iBox p26 26 K23, iBox p18 31 K9, I30] (pk [3, 0, 1, 2, 4, 5]) type26 ?_
          refine wa (nt' (CM_ret (QM_block_ret (QM_then_ret (QM_then_ret (QM_block_ret (QM_then_ret ?_)))))))
          refine QM_items (fun W hm => Mem.unfocus (Mem.join (is := [I44]) (js := (iFoc (tSl tyVersion 51) 72 (some ⟨g170, 0, none⟩) x0.Segments.length c23 x0.Segments k164 K25 :: [iBox p19 26 K23, iBox p26 26 K23, iBox p18 31 K9, I30])) (fun _ _ hs => Sep.one hs) (hm.pick [2, 1, 0, 3, 4, 5] (by decide)))) ?_
          have he185 := (show impl_ApplyUpdate_m x0 x1 = ((⟨(x0.Segments.set k164 ((gt x0.Segments k164) ++ [(⟨x1.Row.Id, (x1.Row.Values.set (x1.Field.toNat) x1.Value), (IntKind.i64.wrap (x0.Now + 1)), (-1)⟩ : DVersion)])), (IntKind.i64.wrap (x0.Now + 1))⟩ : DStore), true) from cond_t g28 (cond_t g30 (cond_f g32 (cond_f g35 (cond_f g43 (cond_t g159 (cond_f g162 (fin_inl (rng_ret (body := F3) (k := k164) (s := ()) (show k164 < x0.Segments.length from by omega) (cond_t g178 (rfl)) hF166) rfl))))))))
          refine QM_r2 rfl (RR_cell (n := 1) rfl rfl underlying26 type26 rfl) (RR_tmp rfl) (fun W hm => ⟨K23, ?_, ?_⟩)
          ·first | rw [he185] | rfl
           try rfl
          ·rw [he185]; exact Mem.join (is := [iOwn (tSl (tSl tyVersion 51) 72) [.slice (some ⟨g170, 0, none⟩) x0.Segments.length c23] (x0.Segments.set k164 ((gt x0.Segments k164) ++ [(⟨x1.Row.Id, (x1.Row.Values.set (x1.Field.toNat) x1.Value), (IntKind.i64.wrap (x0.Now + 1)), (-1)⟩ : DVersion)]))]) (js := []) (fun _ _ hs => tyStore_join (x := (⟨(x0.Segments.set k164 ((gt x0.Segments k164) ++ [(⟨x1.Row.Id, (x1.Row.Values.set (x1.Field.toNat) x1.Value), (IntKind.i64.wrap (x0.Now + 1)), (-1)⟩ : DVersion)])), (IntKind.i64.wrap (x0.Now + 1))⟩ : DStore)) hs) (hm.pick [0] (by decide))
         ·have g178 := decide_eq_false h177
          refine CM_condF rfl g178 ?_
          refine CM_skip (QM_block_normal (QM_then (CM_region ?_)))
          refine wv (vadN k164 1 (by omega)) ?_
          refine wm (WM_nil ?_)
          refine QM_items (fun W hm => Mem.unfocus0 (Mem.join (is := [iOwn (tSl tyVersion 51) [.slice A173 (gt x0.Segments k164).length c174] (gt x0.Segments k164)]) (js := (iFoc (tSl tyVersion 51) 72 (some ⟨g170, 0, none⟩) x0.Segments.length c23 x0.Segments k164 [.slice A173 (gt x0.Segments k164).length c174] :: [I43, iBox p26 26 K23, iBox p19 26 [.slice none 0 0, .int .i64 0], iBox p18 31 K9, I30])) (fun _ _ hs => Sep.one hs) hm)) ?_
          have hn186 := rng_next (R := (DStore × Bool)) (body := F3) (k := k164) (s := ()) (s' := ()) (show k164 < x0.Segments.length from by omega) (cond_f g178 (rfl)) hF166
          exact QM_round (k164 + 1, (), ()) sl8 (pk [1, 2, 0, 3, 4, 5]) ⟨(by omega), hn186⟩ (rl (by omega))
        ·have g169 := dlF hl168
         refine CM_condF rfl g169 ?_
         refine CM_exit (QM_then_exit (QM_then_exit ?_))
         have hE187 : R7 (x0.Segments.length - 0) 0 () = Sum.inr () := rng_end hl168 hF166
         refine QM_block_hit (QM_then (CM_seq ?_))
         refine CM_items (pk [3, 5]) ?_
         refine CM_region ?_
         refine wv (fun W hm => rv_loadN (cs := [.slice A4 x0.Segments.length c5, .int .i64 x0.Now]) underlying26 type26 rfl rfl (hm.boxCells (n := 1) rfl)) ?_
         refine wcs tyStore x0 (cl_fn cb37 rfl) (fun W hm => impl_copyStore_c2 W _ x0 (tyStore_mk (x := x0) (hm.rdS0 r7)) s_0) (fun z188 => ?_)
         refine tyStore_sp ?_
         rintro v189 rfl
         refine WM_form (n := 0) rfl ?_
         rintro A190 c191 rfl m192
         let I45 : It := iOwn (tSl (tSl tyVersion 51) 72) [.slice A190 x0.Segments.length c191] x0.Segments
         refine sb 0 [.slice A190 x0.Segments.length c191, .int .i64 x0.Now] [I45, I30] (pk [1, 0, 2]) type26 ?_
         refine wa (nt' (CM_ret ?_))
         have he194 := (show impl_ApplyUpdate_m x0 x1 = (x0, false) from cond_t g28 (cond_t g30 (cond_f g32 (cond_f g35 (cond_f g43 (cond_t g159 (cond_f g162 (fin_inr hE187 (rfl)))))))))
         refine QM_r2 rfl (RR_cell (n := 0) rfl rfl underlying26 type26 rfl) (RR_tmp rfl) (fun W hm => ⟨[.slice A190 x0.Segments.length c191, .int .i64 x0.Now], ?_, ?_⟩)
         ·first | rw [he194] | rfl
          try rfl
         ·rw [he194]; exact Mem.join (is := [I45]) (js := []) (fun _ _ hs => tyStore_join (x := x0) hs) (hm.pick [1] (by decide))
      ·have g159 := beq_eq_false_iff_ne.2 h158
       refine CM_condF rfl g159 ?_
       refine CM_skip (QM_then (CM_seq (sr ?_)))
       refine wv (vf underlying31 rfl type3) ?_
       refine wv (vl 4 0 underlying3) ?_
       refine wv (fun W hm => rv_eql rfl rfl) ?_
       refine nt' ?_
       by_cases h195 : x1.Kind = 2
       ·have g196 := beq_iff_eq.2 h195
        refine CM_condT rfl g196 ?_
        refine CM_seq ?_
        refine CM_items (pk [1, 2, 3]) ?_
        refine CM_region ?_
        refine wv (fun W hm => rv_loadN (cs := K10) underlying26 type26 rfl rfl (hm.boxCells (n := 0) rfl)) ?_
        refine sb 0 K10 [iBox p26 26 K10, I29] (pk [2, 0, 1]) type26 ?_
        refine wa (nt' (CM_ret (QM_then_ret ?_)))
        have he197 := (show impl_ApplyUpdate_m x0 x1 = ((⟨x0.Segments, (IntKind.i64.wrap (x0.Now + 1))⟩ : DStore), true) from cond_t g28 (cond_t g30 (cond_f g32 (cond_f g35 (cond_f g43 (cond_f g159 (cond_t g196 (rfl))))))))
        refine QM_r2 rfl (RR_cell (n := 0) rfl rfl underlying26 type26 rfl) (RR_tmp rfl) (fun W hm => ⟨K10, ?_, ?_⟩)
        ·first | rw [he197] | rfl
         try rfl
        ·rw [he197]; exact Mem.join (is := [I29]) (js := []) (fun _ _ hs => tyStore_join (x := (⟨x0.Segments, (IntKind.i64.wrap (x0.Now + 1))⟩ : DStore)) hs) (hm.pick [2] (by decide))
       ·have g196 := beq_eq_false_iff_ne.2 h195
        refine CM_condF rfl g196 ?_
        refine CM_skip (QM_then (CM_seq (sr ?_)))
        refine wv (vf underlying26 rfl type24) ?_
        refine wv (vl 1 0 underlying24) ?_
        refine wv (vlen underlying24) ?_
        refine wm (nt' (CM_block ?_))
        let F4 := fun k (_ : Unit) => impl_ApplyUpdate_b4 x0 x1 k
        let R8 := rng (R := (DStore × Bool)) F4
        let I46 : It := iOwn (tSl tInt 3) [.slice A38 x1.Row.Values.length c39] x1.Row.Values
        refine CM_loop (σ := Nat × (Unit) × (Unit)) (fun s => [(2, .pointer (some (⟨p17, 0, none⟩ : Addr))), (3, .pointer (some (⟨p18, 0, none⟩ : Addr))), (4, .pointer (some (⟨p19, 0, none⟩ : Addr))), (6, .pointer (some (⟨p26, 0, none⟩ : Addr))), (9, .slice A38 x1.Row.Values.length c39), (87, .slice A22 x0.Segments.length c23), (88, .int .i64 ((x0.Segments.length : Nat) : Int)), (89, .int .i64 ((s.1 : Nat) : Int))]) (fun s => [I46, iBox p26 26 K10, I29, iBox p19 26 [.slice none 0 0, .int .i64 0], iBox p18 31 K9, I30]) (fun s => s.1 ≤ x0.Segments.length ∧ R8 (x0.Segments.length - s.1) s.1 s.2.1 = R8 (x0.Segments.length - 0) 0 ()) (fun s => x0.Segments.length - s.1) (0, (), ()) sl8 (fun W hm => hm) ⟨(by omega), rfl⟩ ?_
        rintro ⟨k198, ⟨⟩, ⟨⟩⟩ H201
        obtain ⟨hk199, hF200⟩ : k198 ≤ x0.Segments.length ∧ R8 (x0.Segments.length - k198) k198 () = R8 (x0.Segments.length - 0) 0 () := H201
        show CM Try.prog 115 _ _ _ _ [(2, .pointer (some (⟨p17, 0, none⟩ : Addr))), (3, .pointer (some (⟨p18, 0, none⟩ : Addr))), (4, .pointer (some (⟨p19, 0, none⟩ : Addr))), (6, .pointer (some (⟨p26, 0, none⟩ : Addr))), (9, .slice A38 x1.Row.Values.length c39), (87, .slice A22 x0.Segments.length c23), (88, .int .i64 ((x0.Segments.length : Nat) : Int)), (89, .int .i64 ((k198 : Nat) : Int))] [I46, iBox p26 26 K10, I29, iBox p19 26 [.slice none 0 0, .int .i64 0], iBox p18 31 K9, I30]
        refine sr ?_
        refine wv vlss ?_
        refine nt' (CM_seq ?_)
        by_cases hl202 : k198 < x0.Segments.length
        ·have g203 := dlT hl202
         refine CM_condT rfl g203 ?_
         refine CM_skip (QM_then (CM_seq (CM_block (sr (wm ?_)))))
         refine WM_formO (n := 2) rfl (by omega) ?_
         rintro g204 rfl
         refine wv (vix 1 k198 underlying24 type72) ?_
         let K26 : List Value := [.slice (some ⟨g204, 0, none⟩) x0.Segments.length c23, .int .i64 (IntKind.i64.wrap (x0.Now + 1))]
         refine WM_focus (E := (tSl tyVersion 51)) (e := 72) (A := (some ⟨g204, 0, none⟩)) (n := x0.Segments.length) (c := c23) (xs := x0.Segments) (k := k198) (js := [I46, iBox p26 26 K26, iBox p19 26 [.slice none 0 0, .int .i64 0], iBox p18 31 K9, I30]) (by omega) (pk [2, 0, 1, 3, 4, 5]) (fun ck205 => ?_)
         refine WM_split (γ := Value) (js := fun g => [iOwn (tSl tyVersion 51) [g] (gt x0.Segments k198)]) (C := fun g => ck205 = [g]) (fun _ _ h => tSl_split h) ?_
         rintro v206 rfl
         refine WM_form (n := 0) rfl ?_
         rintro A207 c208 rfl m209
         refine wv (fun W hm => rv_load underlying72 rfl rfl (hm.focInt (i := 1) rfl rfl)) ?_
         refine wa (wa (nt' (sr (wm ?_))))
         refine wv (vlen underlying72) ?_
         refine wv vlss ?_
         refine nt' ?_
         by_cases h211 : (((gt x0.Segments k198).length : Nat) : Int) < 4
         ·have g212 := decide_eq_true h211
          refine CM_condT rfl g212 ?_
          refine CM_seq ?_
          refine rd2 15 [14] (s := [iBox p26 26 K26, iBox p19 26 [.slice none 0 0, .int .i64 0], iBox p18 31 K9, I30]) (s2 := [iFoc (tSl tyVersion 51) 72 (some ⟨g204, 0, none⟩) x0.Segments.length c23 x0.Segments k198 [.slice A207 (gt x0.Segments k198).length c208], iBox p26 26 K26, iBox p19 26 [.slice none 0 0, .int .i64 0], iBox p18 31 K9, I30]) (pk [3, 4, 5, 6]) (pk [1, 3, 4, 5, 6]) ?_
          refine qtD 15 0 1 rfl (vf underlying26 rfl type24) ?_
          refine qtD 15 1 3 rfl (vl 1 0 underlying24) ?_
          refine qtD 15 2 7 rfl vmv ?_
          refine qtD 15 3 15 rfl vmv ?_
          refine qtD 15 4 31 rfl (vf underlying31 rfl type29) ?_
          refine qtD 15 5 63 rfl (fun W hm => rv_fieldA (o := 1) underlying29 rfl type3 (by decide) rfl rfl) ?_
          refine qtD 15 6 127 rfl (vl 3 1 underlying3) ?_
          refine qtD 15 7 255 rfl vmv ?_
          refine qtD 15 8 511 rfl (vf underlying26 rfl type3) ?_
          refine qtD 15 9 1023 rfl (vl 1 1 underlying3) ?_
          let K27 : List Value := [.int .i64 x1.Row.Id, .slice A38 x1.Row.Values.length c39, .int .i64 (IntKind.i64.wrap (x0.Now + 1)), .int .i64 (-1)]
          refine qtD 15 10 2047 rfl (fun W hm => rv_build (cs := K27) rfl (by kernel_rfl)) ?_
          refine qoD 15 11 4095 rfl ?_
          refine WM_build (cs := K27) underlying72 type51 rfl (by decide) (by decide) rfl (by kernel_rfl) (Wd_none rfl) (by decide) (fun p213 => ?_)
          refine qnD (pk [4, 5, 6, 7]) (pk [2, 4, 5, 6, 7]) ?_
          refine qoD 15 12 8191 rfl ?_
          refine ap1 tyVersion 51 (.slice A207 (gt x0.Segments k198).length c208) (gt x0.Segments k198) (⟨x1.Row.Id, x1.Row.Values, (IntKind.i64.wrap (x0.Now + 1)), (-1)⟩ : DVersion) [I46] [iFoc (tSl tyVersion 51) 72 (some ⟨g204, 0, none⟩) x0.Segments.length c23 x0.Segments k198 [.slice A207 (gt x0.Segments k198).length c208], iBox p26 26 K26, iBox p19 26 [.slice none 0 0, .int .i64 0], iBox p18 31 K9, I30] K27 (pk [0, 1, 3, 2, 4, 5, 6, 7]) (fun _ _ hs => Els.single (tyVersion_join (x := (⟨x1.Row.Id, x1.Row.Values, (IntKind.i64.wrap (x0.Now + 1)), (-1)⟩ : DVersion)) hs)) underlying72 type51 (show ((gt x0.Segments k198).length + 1) * 48 ≤ 140737488355328 from by first | omega | (have hx := gtset_len (xs := x0.Segments) (i := (impl_findAlive_m x0 x1.Row.Id).1.toNat) (y := impl_ApplyUpdate_v1 x0 x1) List.length_set k198; omega)) (fun v214 => ?_)
          refine WM_form (n := 0) rfl ?_
          rintro A215 c216 rfl m217
          refine qnD (pk [2, 3, 4, 5]) (pk [1, 2, 3, 4, 5]) ?_
          refine qtD 15 13 16383 rfl (vix 1 k198 underlying24 type72) ?_
          refine qoD 15 14 32767 rfl ?_
          let K28 : List Value := [.slice A215 ((gt x0.Segments k198) ++ [(⟨x1.Row.Id, x1.Row.Values, (IntKind.i64.wrap (x0.Now + 1)), (-1)⟩ : DVersion)]).length c216]
          let I47 : It := iOwn (tSl tyVersion 51) K28 ((gt x0.Segments k198) ++ [(⟨x1.Row.Id, x1.Row.Values, (IntKind.i64.wrap (x0.Now + 1)), (-1)⟩ : DVersion)])
          refine sf 0 1 K28 [I47, iBox p26 26 K26, iBox p19 26 [.slice none 0 0, .int .i64 0], iBox p18 31 K9, I30] (pk [1, 0, 2, 3, 4, 5]) type72 ?_
          refine qxD (pk [2, 3, 4, 5]) ?_
          refine QB_done (by kernel_rfl) ?_
          refine QM_then (sr ?_)
          refine wv (fun W hm => rv_loadN (cs := K26) underlying26 type26 rfl rfl (hm.boxCells (n := 2) rfl)) ?_
          refine sb 0 K26 [iFoc (tSl tyVersion 51) 72 (some ⟨g204, 0, none⟩) x0.Segments.length c23 x0.Segments k198 K28, I47, iBox p26 26 K26, iBox p18 31 K9, I30] (pk [3, 0, 1, 2, 4, 5]) type26 ?_
          refine wa (nt' (CM_ret (QM_block_ret (QM_then_ret (QM_then_ret (QM_block_ret (QM_then_ret ?_)))))))
          refine QM_items (fun W hm => Mem.unfocus (Mem.join (is := [I47]) (js := (iFoc (tSl tyVersion 51) 72 (some ⟨g204, 0, none⟩) x0.Segments.length c23 x0.Segments k198 K28 :: [iBox p19 26 K26, iBox p26 26 K26, iBox p18 31 K9, I30])) (fun _ _ hs => Sep.one hs) (hm.pick [2, 1, 0, 3, 4, 5] (by decide)))) ?_
          have he219 := (show impl_ApplyUpdate_m x0 x1 = ((⟨(x0.Segments.set k198 ((gt x0.Segments k198) ++ [(⟨x1.Row.Id, x1.Row.Values, (IntKind.i64.wrap (x0.Now + 1)), (-1)⟩ : DVersion)])), (IntKind.i64.wrap (x0.Now + 1))⟩ : DStore), true) from cond_t g28 (cond_t g30 (cond_f g32 (cond_f g35 (cond_f g43 (cond_f g159 (cond_f g196 (fin_inl (rng_ret (body := F4) (k := k198) (s := ()) (show k198 < x0.Segments.length from by omega) (cond_t g212 (rfl)) hF200) rfl))))))))
          refine QM_r2 rfl (RR_cell (n := 1) rfl rfl underlying26 type26 rfl) (RR_tmp rfl) (fun W hm => ⟨K26, ?_, ?_⟩)
          ·first | rw [he219] | rfl
           try rfl
          ·rw [he219]; exact Mem.join (is := [iOwn (tSl (tSl tyVersion 51) 72) [.slice (some ⟨g204, 0, none⟩) x0.Segments.length c23] (x0.Segments.set k198 ((gt x0.Segments k198) ++ [(⟨x1.Row.Id, x1.Row.Values, (IntKind.i64.wrap (x0.Now + 1)), (-1)⟩ : DVersion)]))]) (js := []) (fun _ _ hs => tyStore_join (x := (⟨(x0.Segments.set k198 ((gt x0.Segments k198) ++ [(⟨x1.Row.Id, x1.Row.Values, (IntKind.i64.wrap (x0.Now + 1)), (-1)⟩ : DVersion)])), (IntKind.i64.wrap (x0.Now + 1))⟩ : DStore)) hs) (hm.pick [0] (by decide))
         ·have g212 := decide_eq_false h211
          refine CM_condF rfl g212 ?_
          refine CM_skip (QM_block_normal (QM_then (CM_region ?_)))
          refine wv (vadN k198 1 (by omega)) ?_
          refine wm (WM_nil ?_)
          refine QM_items (fun W hm => Mem.unfocus0 (Mem.join (is := [iOwn (tSl tyVersion 51) [.slice A207 (gt x0.Segments k198).length c208] (gt x0.Segments k198)]) (js := (iFoc (tSl tyVersion 51) 72 (some ⟨g204, 0, none⟩) x0.Segments.length c23 x0.Segments k198 [.slice A207 (gt x0.Segments k198).length c208] :: [I46, iBox p26 26 K26, iBox p19 26 [.slice none 0 0, .int .i64 0], iBox p18 31 K9, I30])) (fun _ _ hs => Sep.one hs) hm)) ?_
          have hn220 := rng_next (R := (DStore × Bool)) (body := F4) (k := k198) (s := ()) (s' := ()) (show k198 < x0.Segments.length from by omega) (cond_f g212 (rfl)) hF200
          exact QM_round (k198 + 1, (), ()) sl8 (pk [1, 2, 0, 3, 4, 5]) ⟨(by omega), hn220⟩ (rl (by omega))
        ·have g203 := dlF hl202
         refine CM_condF rfl g203 ?_
         refine CM_exit (QM_then_exit (QM_then_exit ?_))
         have hE221 : R8 (x0.Segments.length - 0) 0 () = Sum.inr () := rng_end hl202 hF200
         refine QM_block_hit (QM_then (CM_seq ?_))
         refine CM_items (pk [3, 5]) ?_
         refine CM_region ?_
         refine wv (fun W hm => rv_loadN (cs := [.slice A4 x0.Segments.length c5, .int .i64 x0.Now]) underlying26 type26 rfl rfl (hm.boxCells (n := 1) rfl)) ?_
         refine wcs tyStore x0 (cl_fn cb37 rfl) (fun W hm => impl_copyStore_c2 W _ x0 (tyStore_mk (x := x0) (hm.rdS0 r7)) s_0) (fun z222 => ?_)
         refine tyStore_sp ?_
         rintro v223 rfl
         refine WM_form (n := 0) rfl ?_
         rintro A224 c225 rfl m226
         let I48 : It := iOwn (tSl (tSl tyVersion 51) 72) [.slice A224 x0.Segments.length c225] x0.Segments
         refine sb 0 [.slice A224 x0.Segments.length c225, .int .i64 x0.Now] [I48, I30] (pk [1, 0, 2]) type26 ?_
         refine wa (nt' (CM_ret ?_))
         have he228 := (show impl_ApplyUpdate_m x0 x1 = (x0, false) from cond_t g28 (cond_t g30 (cond_f g32 (cond_f g35 (cond_f g43 (cond_f g159 (cond_f g196 (fin_inr hE221 (rfl)))))))))
         refine QM_r2 rfl (RR_cell (n := 0) rfl rfl underlying26 type26 rfl) (RR_tmp rfl) (fun W hm => ⟨[.slice A224 x0.Segments.length c225, .int .i64 x0.Now], ?_, ?_⟩)
         ·first | rw [he228] | rfl
          try rfl
         ·rw [he228]; exact Mem.join (is := [I48]) (js := []) (fun _ _ hs => tyStore_join (x := x0) hs) (hm.pick [1] (by decide))
  ·
   refine ws (nf g30) ?_
   refine ws (nf g30) ?_
   refine ws (nf g30) ?_
   refine wv (vpT (nf g30)) ?_
   refine nt' ?_
   refine CM_condT rfl rfl ?_
   refine sr ?_
   refine wv (fun W hm => rv_loadN (cs := [.slice A22 x0.Segments.length c23, .int .i64 x0.Now]) underlying26 type26 rfl rfl (hm.boxCells (n := 0) rfl)) ?_
   refine sb 0 [.slice A22 x0.Segments.length c23, .int .i64 x0.Now] [iBox p26 26 [.slice A22 x0.Segments.length c23, .int .i64 x0.Now], I29, iBox p18 31 K9, I30] (pk [2, 0, 1, 3, 4]) type26 ?_
   refine wa (nt' (CM_ret (QM_then_ret ?_)))
   have he229 := (show impl_ApplyUpdate_m x0 x1 = (x0, false) from cond_t g28 (cond_f g30 (rfl)))
   refine QM_r2 rfl (RR_cell (n := 0) rfl rfl underlying26 type26 rfl) (RR_tmp rfl) (fun W hm => ⟨[.slice A22 x0.Segments.length c23, .int .i64 x0.Now], ?_, ?_⟩)
   ·first | rw [he229] | rfl
    try rfl
   ·rw [he229]; exact Mem.join (is := [I29]) (js := []) (fun _ _ hs => tyStore_join (x := x0) hs) (hm.pick [2] (by decide))
 ·
  refine ws (nf g28) ?_
  refine ws (nf g28) ?_
  refine ws (nf g28) ?_
  refine wv (vpT (nf g28)) ?_
  refine wm ?_
  refine wk ?_
  refine wk ?_
  refine wk ?_
  refine wv (vpT rfl) ?_
  refine nt' ?_
  refine CM_condT rfl rfl ?_
  refine sr ?_
  refine wv (fun W hm => rv_loadN (cs := [.slice A22 x0.Segments.length c23, .int .i64 x0.Now]) underlying26 type26 rfl rfl (hm.boxCells (n := 0) rfl)) ?_
  refine sb 0 [.slice A22 x0.Segments.length c23, .int .i64 x0.Now] [iBox p26 26 [.slice A22 x0.Segments.length c23, .int .i64 x0.Now], I29, iBox p18 31 K9, I30] (pk [2, 0, 1, 3, 4]) type26 ?_
  refine wa (nt' (CM_ret (QM_then_ret ?_)))
  have he230 := (show impl_ApplyUpdate_m x0 x1 = (x0, false) from cond_f g28 (rfl))
  refine QM_r2 rfl (RR_cell (n := 0) rfl rfl underlying26 type26 rfl) (RR_tmp rfl) (fun W hm => ⟨[.slice A22 x0.Segments.length c23, .int .i64 x0.Now], ?_, ?_⟩)
  ·first | rw [he230] | rfl
   try rfl
  ·rw [he230]; exact Mem.join (is := [I29]) (js := []) (fun _ _ hs => tyStore_join (x := x0) hs) (hm.pick [2] (by decide))

theorem Room_cases (x : DStore) : (rng (R := Int) (fun k (_ : Unit) => spec_l8Room_b1 x k) (x.Segments.length - 0) 0 () = .inr () ∧ spec_l8Room_m x < 0) ∨ (rng (R := Int) (fun k (_ : Unit) => spec_l8Room_b1 x k) (x.Segments.length - 0) 0 () = .inl (spec_l8Room_m x) ∧ ¬ spec_l8Room_m x < 0) := by
  have hr := spec_Room_fact x
  unfold spec_l8Room_m at hr ⊢
  cases h : rng (R := Int) (fun k (_ : Unit) => spec_l8Room_b1 x k) (x.Segments.length - 0) 0 () with
  | inr s => exact .inl ⟨rfl, by show (-1 : Int) < 0; decide⟩
  | inl r =>
    refine .inr ⟨rfl, ?_⟩
    rw [h] at hr
    have hr' : r < 0 ∨ (0 ≤ r ∧ r.toNat < x.Segments.length ∧ (gt x.Segments r.toNat).length < 4) := hr
    show ¬ r < 0
    rcases hr' with h1 | h1
    · exfalso
      rcases rng_find (P := fun r : Int => 0 ≤ r) (n := x.Segments.length) (b := fun k (_ : Unit) => spec_l8Room_b1 x k) (fun j hj => by
        show (∃ r, spec_l8Room_b1 x j = .inl r ∧ _) ∨ spec_l8Room_b1 x j = .inr ()
        unfold spec_l8Room_b1
        cases decide (((gt x.Segments j).length : Int) < 4) with
        | true => exact .inl ⟨_, rfl, by omega⟩
        | false => exact .inr rfl) (x.Segments.length - 0) 0 (by omega) with ⟨q, e1, e2⟩ | e1
      · rw [h] at e1; cases e1; omega
      · rw [h] at e1; cases e1
    · omega
theorem Room_loop (x : DStore) {segs : List (List DVersion)} (hl : ∀ j, (gt segs j).length = (gt x.Segments j).length) {F : Nat → DStore × Bool} {b : Nat → Unit → (DStore × Bool) ⊕ Unit} (hb : ∀ j, b j () = cond (decide ((((gt segs j).length : Nat) : Int) < 4)) (.inl (F j)) (.inr ())) {y : DStore × Bool} :
    Sum.elim id (fun (_ : Unit) => y) (rng b (x.Segments.length - 0) 0 ()) = cond (decide (spec_l8Room_m x < 0)) y (F (spec_l8Room_m x).toNat) := by
  rw [rng_idx (c := fun j => decide ((((gt segs j).length : Nat) : Int) < 4)) (F := F) (b' := fun k (_ : Unit) => spec_l8Room_b1 x k) hb (fun j => by unfold spec_l8Room_b1; rw [hl])]
  rcases Room_cases x with ⟨h1, h2⟩ | ⟨h1, h2⟩
  · rw [h1, decide_eq_true h2]; rfl
  · rw [h1, decide_eq_false h2]; rfl
theorem ApplyUpdate_same (x : DStore) (u : DUpdate) : impl_ApplyUpdate_m x u = spec_ApplyUpdate_m x u := by
  unfold impl_ApplyUpdate_m spec_ApplyUpdate_m
  rw [IsStore_same, IsUpdate_same]
  cases hs : spec_IsStore_m x with
  | false => rfl
  | true =>
  cases hu : spec_IsUpdate_m u with
  | false => rfl
  | true =>
    obtain ⟨_, hn, _, _⟩ := spec_Store_vers hs
    obtain ⟨hk, _, _, _⟩ := spec_Update_fact hu
    have e0 : impl_findAlive_m x u.Row.Id = spec_l8Find_m x u.Row.Id := rfl
    have e1 : (x.Now == 100000) = decide (100000 ≤ x.Now) := by
      by_cases h : x.Now = 100000
      · rw [beq_iff_eq.2 h, decide_eq_true (by omega)]
      · rw [beq_eq_false_iff_ne.2 h, decide_eq_false (by omega)]
    rw [e0, e1]
    cases decide (100000 ≤ x.Now) with
    | true => rfl
    | false =>
    by_cases hr : (spec_l8Find_m x u.Row.Id).1 < 0
    · rw [decide_eq_true hr, decide_eq_false (show ¬ 0 ≤ (spec_l8Find_m x u.Row.Id).1 by omega)]
      by_cases k1 : u.Kind = 1
      · rw [beq_iff_eq.2 k1, beq_eq_false_iff_ne.2 (show ¬ u.Kind = 3 by omega), beq_eq_false_iff_ne.2 (show ¬ u.Kind = 2 by omega), bne_iff_ne.2 (show u.Kind ≠ 2 by omega)]
        exact Room_loop x (segs := x.Segments) (fun _ => rfl) (b := fun k (_ : Unit) => impl_ApplyUpdate_b4 x u k) (fun j => rfl)
      · rw [beq_eq_false_iff_ne.2 k1]; rfl
    · rw [decide_eq_false hr, decide_eq_true (show 0 ≤ (spec_l8Find_m x u.Row.Id).1 by omega)]
      have hl : ∀ j, (gt (x.Segments.set (impl_findAlive_m x u.Row.Id).1.toNat (impl_ApplyUpdate_v1 x u)) j).length = (gt x.Segments j).length := fun j => gtset_len List.length_set j
      rcases hk with k1 | k2 | k3
      · rw [beq_iff_eq.2 k1]; rfl
      · rw [beq_iff_eq.2 k2, beq_eq_false_iff_ne.2 (show ¬ u.Kind = 1 by omega), beq_eq_false_iff_ne.2 (show ¬ u.Kind = 3 by omega), show (u.Kind != 2) = false from by rw [k2]; rfl]
        rfl
      · rw [beq_iff_eq.2 k3, beq_eq_false_iff_ne.2 (show ¬ u.Kind = 1 by omega), beq_eq_false_iff_ne.2 (show ¬ u.Kind = 2 by omega), bne_iff_ne.2 (show u.Kind ≠ 2 by omega)]
        exact Room_loop x hl (b := fun k (_ : Unit) => impl_ApplyUpdate_b1 x u k) (fun j => rfl)
theorem smP_store {s : List (List DVersion)} {now : Int} (hl : s.length ≤ 8) (h : ∀ z ∈ s, smP 5 z) : smStore 68719476736 ⟨s, now⟩ :=
  ⟨by show s.length ≤ _; omega, fun z hz => ⟨by have := (h z hz).1; omega, fun v hv => by have := (h z hz).2 v hv; show v.Values.length ≤ _; omega⟩⟩
theorem spec_ApplyUpdate_sm {x : DStore} (h : smStore 68719476736 x) (u : DUpdate) : smStore 68719476736 (spec_ApplyUpdate_m x u).1 := by
  rcases spec_ApplyUpdate_key x u with e | ⟨e1, e2⟩
  · rw [e]; exact h
  · exact smP_store (now := (spec_ApplyUpdate_m x u).1.Now) e1 e2
theorem impl_ApplyUpdate_sm {x : DStore} (h : smStore 68719476736 x) (u : DUpdate) : smStore 68719476736 (impl_ApplyUpdate_m x u).1 := by
  rw [ApplyUpdate_same]; exact spec_ApplyUpdate_sm h u
def impl_ApplyUpdates_b1 (x1 : (List DUpdate)) (k24 : Nat) (s25 : Int) (d27 : (List (List DVersion))) (s30 : Int) : (DStore × Int) ⊕ (Int × (List (List DVersion)) × Int) :=
 cond ((impl_ApplyUpdate_m (⟨d27, s30⟩ : DStore) (gt x1 k24)).2) (Sum.inr ((IntKind.i64.wrap (s25 + 1)), ((impl_ApplyUpdate_m (⟨d27, s30⟩ : DStore) (gt x1 k24)).1).Segments, ((impl_ApplyUpdate_m (⟨d27, s30⟩ : DStore) (gt x1 k24)).1).Now)) (Sum.inr (s25, ((impl_ApplyUpdate_m (⟨d27, s30⟩ : DStore) (gt x1 k24)).1).Segments, ((impl_ApplyUpdate_m (⟨d27, s30⟩ : DStore) (gt x1 k24)).1).Now))
def impl_ApplyUpdates_m (x0 : DStore) (x1 : (List DUpdate)) : (DStore × Int) :=
 Sum.elim id (fun (s : Int × (List (List DVersion)) × Int) => ((⟨s.2.1, s.2.2⟩ : DStore), s.1)) (rng (R := (DStore × Int)) (fun k (s : Int × (List (List DVersion)) × Int) => impl_ApplyUpdates_b1 x1 k s.1 s.2.1 s.2.2) (x1.length - 0) 0 (0, x0.Segments, x0.Now))
theorem cb32 : Cb Try.prog 32 := ⟨f32, _, func32, rfl, by decide⟩
theorem impl_ApplyUpdates_c (w : World) (z0 : List Value) (x0 : DStore) (z1 : Value) (x1 : (List DUpdate)) (r_0 : tyStore.rd w w.heap.size z0 x0) (r_1 : rdS tyUpdate w w.heap.size z1 x1) (s_0 : smStore 68719476736 x0) (s_1 : (x1.length ≤ 68719476736 ∧ ∀ y ∈ x1, smUpdate 68719476736 y)) :
  Calls Try.prog 32 #[.agg z0.toArray, z1] w fun e w' => ∃ v : List Value, e = .returned (.tuple #[.agg v.toArray, .int .i64 ((impl_ApplyUpdates_m x0 x1).2)]) ∧ Mem w.heap.size w [iOwn tyStore v (impl_ApplyUpdates_m x0 x1).1] w' := by
 obtain ⟨v1, rfl, r2⟩ := tyStore_rd r_0
 obtain ⟨m3, A4, c5, rfl, q6, r7⟩ := rdS_op r2
 obtain ⟨m8, A9, c10, rfl, q11, r12⟩ := rdS_op r_1
 have l13 : x0.Segments.length ≤ 68719476736 := s_0.1
 have l14 : x1.length ≤ 68719476736 := s_1.1
 refine ce2 (L := [(0, .agg #[.slice A4 x0.Segments.length c5, .int .i64 x0.Now]), (1, .slice A9 x1.length c10)]) (N := 33) func32 ?_
 refine sr ?_
 refine WM_box rfl (Wd_none rfl) (by decide) (fun p15 => ?_)
 refine WM_alloc type26 rfl (Wd_none rfl) (by decide) (fun p16 => ?_)
 refine wa (nt' (sr ?_))
 refine wv (fun W hm => rv_loadN (cs := [.slice A4 x0.Segments.length c5, .int .i64 x0.Now]) underlying26 type26 rfl rfl (hm.boxCells (n := 1) rfl)) ?_
 refine wcs tyStore x0 (cl_fn cb37 rfl) (fun W hm => impl_copyStore_c2 W _ x0 (tyStore_mk (x := x0) (hm.rdS0 r7)) s_0) (fun z17 => ?_)
 refine tyStore_sp ?_
 rintro v18 rfl
 refine WM_form (n := 0) rfl ?_
 rintro A19 c20 rfl m21
 refine WM_alloc type26 rfl (Wd_none rfl) (by decide) (fun p23 => ?_)
 let I6 : It := iBox p15 26 [.slice A4 x0.Segments.length c5, .int .i64 x0.Now]
 refine sb 0 [.slice A19 x0.Segments.length c20, .int .i64 x0.Now] [iOwn (tSl (tSl tyVersion 51) 72) [.slice A19 x0.Segments.length c20] x0.Segments, iBox p16 26 [.slice none 0 0, .int .i64 0], I6] (fun W hm => hm) type26 ?_
 refine nt' (sr (wa (nt' (CM_seq (sr (wm ?_))))))
 refine wv (vlen underlying59) ?_
 refine wm (nt' (CM_block ?_))
 let F1 := fun k (s : Int × (List (List DVersion)) × Int) => impl_ApplyUpdates_b1 x1 k s.1 s.2.1 s.2.2
 let R2 := rng (R := (DStore × Int)) F1
 refine CM_loop (σ := Nat × (Int × (List (List DVersion)) × Int) × (Option Addr × Nat)) (fun s => [(4, .pointer (some (⟨p16, 0, none⟩ : Addr))), (6, .pointer (some (⟨p23, 0, none⟩ : Addr))), (7, .int .i64 s.2.1.1), (14, .slice A9 x1.length c10), (15, .int .i64 ((x1.length : Nat) : Int)), (16, .int .i64 ((s.1 : Nat) : Int))]) (fun s => [iBox p23 26 [.slice s.2.2.1 s.2.1.2.1.length s.2.2.2, .int .i64 s.2.1.2.2], iOwn (tSl (tSl tyVersion 51) 72) [.slice s.2.2.1 s.2.1.2.1.length s.2.2.2] s.2.1.2.1, iBox p16 26 [.slice none 0 0, .int .i64 0], I6]) (fun s => s.1 ≤ x1.length ∧ R2 (x1.length - s.1) s.1 s.2.1 = R2 (x1.length - 0) 0 (0, x0.Segments, x0.Now) ∧ smStore 68719476736 (⟨s.2.1.2.1, s.2.1.2.2⟩ : DStore)) (fun s => x1.length - s.1) (0, (0, x0.Segments, x0.Now), (A19, c20)) sl6 (fun W hm => hm) ⟨(by omega), rfl, s_0⟩ ?_
 rintro ⟨k24, ⟨s25, d27, s30⟩, ⟨A28, c29⟩⟩ H33
 obtain ⟨hk31, hF32, hi34⟩ : k24 ≤ x1.length ∧ R2 (x1.length - k24) k24 (s25, d27, s30) = R2 (x1.length - 0) 0 (0, x0.Segments, x0.Now) ∧ smStore 68719476736 (⟨d27, s30⟩ : DStore) := H33
 let I7 : It := iBox p23 26 [.slice A28 d27.length c29, .int .i64 s30]
 let I8 : It := iOwn (tSl (tSl tyVersion 51) 72) [.slice A28 d27.length c29] d27
 show CM Try.prog 33 _ _ _ _ [(4, .pointer (some (⟨p16, 0, none⟩ : Addr))), (6, .pointer (some (⟨p23, 0, none⟩ : Addr))), (7, .int .i64 s25), (14, .slice A9 x1.length c10), (15, .int .i64 ((x1.length : Nat) : Int)), (16, .int .i64 ((k24 : Nat) : Int))] [I7, I8, iBox p16 26 [.slice none 0 0, .int .i64 0], I6]
 refine sr ?_
 refine wv vlss ?_
 refine nt' (CM_seq ?_)
 by_cases hl35 : k24 < x1.length
 ·have g36 := dlT hl35
  have hsm := hi34
  refine CM_condT rfl g36 ?_
  refine CM_skip (QM_then (CM_seq (CM_block (sr ?_))))
  obtain ⟨a37, rfl, hb38, he39⟩ := q11 (by omega)
  refine wv (vix 5 k24 underlying59 type31) ?_
  obtain ⟨_, e43, hc40⟩ := he39 k24 _ (gt_some (show k24 < x1.length from by omega))
  obtain ⟨v41, rfl, r42⟩ := tyUpdate_rd e43
  have l44 : ((gt x1 k24).Row.Values).length ≤ 68719476736 := (s_1.2 _ (gt_mem (show k24 < x1.length from by omega)))
  obtain ⟨m45, A46, c47, rfl, q48, r49⟩ := rdS_op r42
  let K3 : List Value := [.int .i64 ((gt x1 k24).Kind), .int .i64 ((gt x1 k24).Row.Id), .slice A46 ((gt x1 k24).Row.Values).length c47, .int .i64 ((gt x1 k24).Field), .int .i64 ((gt x1 k24).Value)]
  refine wv (fun W hm => rv_loadN (cs := K3) underlying31 type31 rfl rfl (hm.elCells (show (a37.add (k24 * 5)).block < w.heap.size from by rw [add_block]; exact hb38.1) hc40)) ?_
  refine WM_alloc type31 rfl (Wd_none rfl) (by decide) (fun p50 => ?_)
  refine sb 0 K3 [I7, I8, iBox p16 26 [.slice none 0 0, .int .i64 0], I6] (fun W hm => hm) type31 ?_
  refine nt' (sr ?_)
  refine wv (fun W hm => rv_loadN (cs := [.slice A28 d27.length c29, .int .i64 s30]) underlying26 type26 rfl rfl (hm.boxCells (n := 1) rfl)) ?_
  refine wv (fun W hm => rv_loadN (cs := K3) underlying31 type31 rfl rfl (hm.boxCells (n := 0) rfl)) ?_
  refine WM_call (χ := List Value) (val := fun x => .tuple #[.agg x.toArray, .bool ((impl_ApplyUpdate_m (⟨d27, s30⟩ : DStore) (gt x1 k24)).2)]) (js := fun x => [iOwn tyStore x ((impl_ApplyUpdate_m (⟨d27, s30⟩ : DStore) (gt x1 k24)).1)]) (cl_fn cb8 rfl) (fun W hm => impl_ApplyUpdate_c W _ (⟨d27, s30⟩ : DStore) _ (gt x1 k24) (tyStore_mk (x := (⟨d27, s30⟩ : DStore)) (hm.rdSI (n := 2) rfl)) (tyUpdate_mk (x := (gt x1 k24)) (hm.rdS0 r49)) hsm (s_1.2 _ (gt_mem (show k24 < x1.length from by omega)))) (Wd_none rfl) (by decide) (fun z51 => ?_)
  refine tyStore_sp ?_
  rintro v52 rfl
  refine WM_form (n := 0) rfl ?_
  rintro A53 c54 rfl m55
  refine wm ?_
  refine wv (fun W hm => rv_extract rfl rfl) ?_
  refine wv (fun W hm => rv_extract rfl rfl) ?_
  refine WM_alloc type26 rfl (Wd_none rfl) (by decide) (fun p57 => ?_)
  let K4 : List Value := [.slice A53 (((impl_ApplyUpdate_m (⟨d27, s30⟩ : DStore) (gt x1 k24)).1).Segments).length c54, .int .i64 (((impl_ApplyUpdate_m (⟨d27, s30⟩ : DStore) (gt x1 k24)).1).Now)]
  let K5 : List Value := [.slice A53 (((impl_ApplyUpdate_m (⟨d27, s30⟩ : DStore) (gt x1 k24)).1).Segments).length c54]
  let I9 : It := iOwn (tSl (tSl tyVersion 51) 72) K5 (((impl_ApplyUpdate_m (⟨d27, s30⟩ : DStore) (gt x1 k24)).1).Segments)
  refine sb 0 K4 [I9, iBox p50 31 K3, I7, I8, iBox p16 26 [.slice none 0 0, .int .i64 0], I6] (fun W hm => hm) type26 ?_
  refine wa (nt' (sr ?_))
  refine wv (fun W hm => rv_loadN (cs := K4) underlying26 type26 rfl rfl (hm.boxCells (n := 0) rfl)) ?_
  refine sb 0 K4 [iBox p57 26 K4, I9, iBox p50 31 K3, I8, iBox p16 26 [.slice none 0 0, .int .i64 0], I6] (pk [3, 0, 1, 2, 4, 5, 6]) type26 ?_
  refine nt' (sr (wm (nt' ?_)))
  rcases Bool.eq_false_or_eq_true ((impl_ApplyUpdate_m (⟨d27, s30⟩ : DStore) (gt x1 k24)).2) with g59 | g59
  ·
   refine CM_condT rfl g59 ?_
   refine CM_region (wm ?_)
   refine wv vadd ?_
   refine wa (WM_nil (QM_block_normal (QM_then (CM_region ?_))))
   refine wv (vadN k24 1 (by omega)) ?_
   refine wm (WM_nil ?_)
   have hn60 := rng_next (R := (DStore × Int)) (body := F1) (k := k24) (s := (s25, d27, s30)) (s' := ((IntKind.i64.wrap (s25 + 1)), ((impl_ApplyUpdate_m (⟨d27, s30⟩ : DStore) (gt x1 k24)).1).Segments, ((impl_ApplyUpdate_m (⟨d27, s30⟩ : DStore) (gt x1 k24)).1).Now)) (show k24 < x1.length from by omega) (cond_t g59 (rfl)) hF32
   exact QM_round (k24 + 1, ((IntKind.i64.wrap (s25 + 1)), ((impl_ApplyUpdate_m (⟨d27, s30⟩ : DStore) (gt x1 k24)).1).Segments, ((impl_ApplyUpdate_m (⟨d27, s30⟩ : DStore) (gt x1 k24)).1).Now), (A53, c54)) sl6 (pk [0, 2, 5, 6]) ⟨(by omega), hn60, (show smStore 68719476736 (⟨(((impl_ApplyUpdate_m (⟨d27, s30⟩ : DStore) (gt x1 k24)).1).Segments), (((impl_ApplyUpdate_m (⟨d27, s30⟩ : DStore) (gt x1 k24)).1).Now)⟩ : DStore) from by exact impl_ApplyUpdate_sm hi34 _)⟩ (rl (by omega))
  ·
   refine CM_condF rfl g59 ?_
   refine CM_skip (QM_block_normal (QM_then (CM_region ?_)))
   refine wv (vadN k24 1 (by omega)) ?_
   refine wm (WM_nil ?_)
   have hn61 := rng_next (R := (DStore × Int)) (body := F1) (k := k24) (s := (s25, d27, s30)) (s' := (s25, ((impl_ApplyUpdate_m (⟨d27, s30⟩ : DStore) (gt x1 k24)).1).Segments, ((impl_ApplyUpdate_m (⟨d27, s30⟩ : DStore) (gt x1 k24)).1).Now)) (show k24 < x1.length from by omega) (cond_f g59 (rfl)) hF32
   exact QM_round (k24 + 1, (s25, ((impl_ApplyUpdate_m (⟨d27, s30⟩ : DStore) (gt x1 k24)).1).Segments, ((impl_ApplyUpdate_m (⟨d27, s30⟩ : DStore) (gt x1 k24)).1).Now), (A53, c54)) sl6 (pk [0, 2, 5, 6]) ⟨(by omega), hn61, (show smStore 68719476736 (⟨(((impl_ApplyUpdate_m (⟨d27, s30⟩ : DStore) (gt x1 k24)).1).Segments), (((impl_ApplyUpdate_m (⟨d27, s30⟩ : DStore) (gt x1 k24)).1).Now)⟩ : DStore) from by exact impl_ApplyUpdate_sm hi34 _)⟩ (rl (by omega))
 ·have g36 := dlF hl35
  refine CM_condF rfl g36 ?_
  refine CM_exit (QM_then_exit (QM_then_exit ?_))
  have hE62 : R2 (x1.length - 0) 0 (0, x0.Segments, x0.Now) = Sum.inr (s25, d27, s30) := rng_end hl35 hF32
  refine QM_block_hit (QM_then (sr ?_))
  refine wv (fun W hm => rv_loadN (cs := [.slice A28 d27.length c29, .int .i64 s30]) underlying26 type26 rfl rfl (hm.boxCells (n := 0) rfl)) ?_
  refine wm ?_
  refine sb 0 [.slice A28 d27.length c29, .int .i64 s30] [I7, I8, I6] (pk [2, 0, 1, 3]) type26 ?_
  refine wa (nt' (CM_ret ?_))
  have he63 := (show impl_ApplyUpdates_m x0 x1 = ((⟨d27, s30⟩ : DStore), s25) from fin_inr hE62 (rfl))
  refine QM_r2 rfl (RR_cell (n := 0) rfl rfl underlying26 type26 rfl) (RR_tmp rfl) (fun W hm => ⟨[.slice A28 d27.length c29, .int .i64 s30], ?_, ?_⟩)
  ·first | rw [he63] | rfl
   try rfl
  ·rw [he63]; exact Mem.join (is := [I8]) (js := []) (fun _ _ hs => tyStore_join (x := (⟨d27, s30⟩ : DStore)) hs) (hm.pick [2] (by decide))

end Go.Proofs.Ytglapeecbnaipaa
