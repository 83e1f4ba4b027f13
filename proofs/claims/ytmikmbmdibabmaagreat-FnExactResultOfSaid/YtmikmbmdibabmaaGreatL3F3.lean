/-
  Contracts of functions, printed by a program of ours.
-/
import Derived.Test.YtmikmbmdibabmaaGreatL3F2
namespace Go.Proofs.YtmikmbmdibabmaaGreat
open Go.RowKit
set_option maxRecDepth 100000
set_option maxHeartbeats 4000000
open _root_.Go.Proofs.Tryz
def impl_IsRow_b1 (x0 : DRow) (k9 : Nat) : Bool ⊕ (Unit) :=
 cond (impl_within_m (gt x0.Values k9) 0 99) (Sum.inr ()) (Sum.inl false)
def impl_IsRow_m (x0 : DRow) : Bool :=
 Sum.elim id (fun (s : Unit) => cond (impl_within_m x0.Id 0 999) (((x0.Values.length : Nat) : Int) == 3) false) (rng (R := Bool) (fun k (_ : Unit) => impl_IsRow_b1 x0 k) (x0.Values.length - 0) 0 ())
theorem cb178 : Cb Tryz.prog 178 := ⟨f178, _, func178, rfl, by decide⟩
theorem impl_IsRow_c (w : World) (z0 : List Value) (x0 : DRow) (r_0 : tyRow.rd w w.heap.size z0 x0) :
  Calls Tryz.prog 178 #[.agg z0.toArray] w fun e w' => e = .returned (.bool (impl_IsRow_m x0)) ∧ Below w.heap.size w w' := by
 obtain ⟨v1, rfl, r2⟩ := tyRow_rd r_0
 have r7 := r2
 obtain ⟨m3, A4, c5, rfl, q6⟩ := r2
 refine ce1 (L := [(0, .agg #[.int .i64 x0.Id, .slice A4 x0.Values.length c5])]) (N := 25) func178 ?_
 refine sr ?_
 refine WM_box rfl (Wd_none rfl) (by decide) (fun p8 => ?_)
 refine wa (nt' (CM_seq (sr ?_)))
 refine wv (vf underlying73 rfl type25) ?_
 refine wv (vl 0 1 underlying25) ?_
 refine wv (vlen underlying25) ?_
 refine wm (nt' (CM_block ?_))
 let F1 := fun k (_ : Unit) => impl_IsRow_b1 x0 k
 let R2 := rng (R := Bool) F1
 let I3 : It := iBox p8 73 [.int .i64 x0.Id, .slice A4 x0.Values.length c5]
 refine CM_loop (σ := Nat × (Unit) × (Unit)) (fun s => [(1, .pointer (some (⟨p8, 0, none⟩ : Addr))), (6, .slice A4 x0.Values.length c5), (7, .int .i64 ((x0.Values.length : Nat) : Int)), (8, .int .i64 ((s.1 : Nat) : Int))]) (fun s => [I3]) (fun s => s.1 ≤ x0.Values.length ∧ R2 (x0.Values.length - s.1) s.1 s.2.1 = R2 (x0.Values.length - 0) 0 ()) (fun s => x0.Values.length - s.1) (0, (), ()) sl4 (fun W hm => hm) ⟨(by omega), rfl⟩ ?_
 rintro ⟨k9, ⟨⟩, ⟨⟩⟩ H12
 obtain ⟨hk10, hF11⟩ : k9 ≤ x0.Values.length ∧ R2 (x0.Values.length - k9) k9 () = R2 (x0.Values.length - 0) 0 () := H12
 show CM Tryz.prog 25 _ _ _ _ [(1, .pointer (some (⟨p8, 0, none⟩ : Addr))), (6, .slice A4 x0.Values.length c5), (7, .int .i64 ((x0.Values.length : Nat) : Int)), (8, .int .i64 ((k9 : Nat) : Int))] [I3]
 refine sr ?_
 refine wv vlss ?_
 refine nt' (CM_seq ?_)
 by_cases hl13 : k9 < x0.Values.length
 ·have g14 : (decide (((k9 : Nat) : Int) < ((x0.Values.length : Nat) : Int))) = true := decide_eq_true (by omega)
  refine CM_condT rfl g14 ?_
  refine CM_skip (QM_then (CM_seq (CM_block (sr ?_))))
  obtain ⟨a15, rfl, hb16, he17⟩ := q6 (by omega)
  refine wv (vix 1 k9 underlying25 type3) ?_
  refine wv (fun W hm => rv_load underlying3 rfl rfl ((hm.cell0 (show (a15.add (k9 * 1)).block < w.heap.size from by rw [add_block]; exact hb16.1)).trans (rdS_int he17 k9 (by omega)))) ?_
  refine wa (nt' (sr (wm ?_)))
  refine wcv (cl_fn cb118 rfl) (fun W hm => impl_within_c W (gt x0.Values k9) 0 99) ?_
  refine wv vnot ?_
  refine nt' ?_
  rcases Bool.eq_false_or_eq_true (impl_within_m (gt x0.Values k9) 0 99) with g19 | g19
  ·
   have hw := impl_within_fact g19
   refine CM_condF rfl (nt g19) ?_
   refine CM_skip (QM_block_normal (QM_then (CM_region ?_)))
   refine wv (vadN k9 1 (by omega)) ?_
   refine wm (WM_nil ?_)
   have hn20 := rng_next (R := Bool) (body := F1) (k := k9) (s := ()) (s' := ()) (show k9 < x0.Values.length from by omega) (show impl_IsRow_b1 x0 k9 = Sum.inr () from by unfold impl_IsRow_b1; exact cond_t g19 (rfl)) hF11
   exact QM_round (k9 + 1, (), ()) sl4 (fun W hm => hm) ⟨(by omega), hn20⟩ (rl (by omega))
  ·
   refine CM_condT rfl (nf g19) ?_
   refine sr (wa (nt' (CM_ret (QM_block_ret (QM_then_ret (QM_then_ret (QM_block_ret (QM_then_ret ?_))))))))
   exact rtb (h := by unfold impl_IsRow_m; exact fin_inl (rng_ret (body := F1) (k := k9) (s := ()) (show k9 < x0.Values.length from by omega) (show impl_IsRow_b1 x0 k9 = Sum.inl false from by unfold impl_IsRow_b1; exact cond_f g19 (rfl)) hF11) rfl)
 ·have g14 : (decide (((k9 : Nat) : Int) < ((x0.Values.length : Nat) : Int))) = false := decide_eq_false (by omega)
  refine CM_condF rfl g14 ?_
  refine CM_exit (QM_then_exit (QM_then_exit ?_))
  have hE21 : R2 (x0.Values.length - 0) 0 () = Sum.inr () := rng_end hl13 hF11
  refine QM_block_hit (QM_then (sr ?_))
  refine wv (vf underlying73 rfl type3) ?_
  refine wv (vl 0 0 underlying3) ?_
  refine wcv (cl_fn cb118 rfl) (fun W hm => impl_within_c W x0.Id 0 999) ?_
  refine wm ?_
  rcases Bool.eq_false_or_eq_true (impl_within_m x0.Id 0 999) with g23 | g23
  ·
   have hw := impl_within_fact g23
   refine wg (vf underlying73 rfl type25) g23 ?_
   refine wg (vl 0 1 underlying25) g23 ?_
   refine wg (vlen underlying25) g23 ?_
   refine wg (fun W hm => rv_eql rfl rfl) g23 ?_
   refine wv (vpT g23) ?_
   refine wa (nt' (CM_ret ?_))
   exact rtb (h := by unfold impl_IsRow_m; exact fin_inr hE21 (cond_t g23 (rfl)))
  ·
   refine ws g23 ?_
   refine ws g23 ?_
   refine ws g23 ?_
   refine ws g23 ?_
   refine wv (vpF g23) ?_
   refine wa (nt' (CM_ret ?_))
   exact rtb (h := by unfold impl_IsRow_m; exact fin_inr hE21 (cond_f g23 (rfl)))

def impl_IsVisible_m (x0 : DVersion) (x1 : Int) : Bool :=
 cond (decide (x0.Born ≤ x1)) (cond (x0.Died == (-1)) true (decide (x1 < x0.Died))) false
theorem cb176 : Cb Tryz.prog 176 := ⟨f176, _, func176, rfl, by decide⟩
theorem impl_IsVisible_c (w : World) (z0 : List Value) (x0 : DVersion) (x1 : Int) (r_0 : tyVersion.rd w w.heap.size z0 x0) :
  Calls Tryz.prog 176 #[.agg z0.toArray, .int .i64 x1] w fun e w' => e = .returned (.bool (impl_IsVisible_m x0 x1)) ∧ Below w.heap.size w w' := by
 obtain ⟨v1, rfl, r2⟩ := tyVersion_rd r_0
 have r7 := r2
 obtain ⟨m3, A4, c5, rfl, q6⟩ := r2
 refine ce2 (L := [(0, .agg #[.int .i64 x0.Id, .slice A4 x0.Values.length c5, .int .i64 x0.Born, .int .i64 x0.Died]), (1, .int .i64 x1)]) (N := 20) func176 ?_
 refine sr ?_
 refine WM_box rfl (Wd_none rfl) (by decide) (fun p8 => ?_)
 refine wa (nt' (sr ?_))
 refine wv (vf underlying191 rfl type3) ?_
 refine wv (vl 0 2 underlying3) ?_
 refine wm ?_
 refine wv (fun W hm => rv_leq rfl rfl) ?_
 refine wm ?_
 by_cases h9 : x0.Born ≤ x1
 ·have g10 : (decide (x0.Born ≤ x1)) = true := decide_eq_true h9
  refine wg (vf underlying191 rfl type3) g10 ?_
  refine wg (vl 0 3 underlying3) g10 ?_
  refine wg (fun W hm => rv_eql rfl rfl) g10 ?_
  refine wg vmv g10 ?_
  by_cases h11 : x0.Died = (-1)
  ·have g12 : (x0.Died == (-1)) = true := beq_iff_eq.2 h11
   refine ws g12 ?_
   refine ws g12 ?_
   refine ws g12 ?_
   refine ws g12 ?_
   refine wg (vpT g12) g10 ?_
   refine wv (vpT g10) ?_
   refine wa (nt' (CM_ret ?_))
   exact rtb (h := by unfold impl_IsVisible_m; exact cond_t g10 (cond_t g12 (rfl)))
  ·have g12 : (x0.Died == (-1)) = false := beq_eq_false_iff_ne.2 h11
   refine wg (vf underlying191 rfl type3) g12 ?_
   refine wg (vl 0 3 underlying3) g12 ?_
   refine wg vmv g12 ?_
   refine wg (fun W hm => rv_gtr rfl rfl) g12 ?_
   refine wg (vpF g12) g10 ?_
   refine wv (vpT g10) ?_
   refine wa (nt' (CM_ret ?_))
   exact rtb (h := by unfold impl_IsVisible_m; exact cond_t g10 (cond_f g12 (rfl)))
 ·have g10 : (decide (x0.Born ≤ x1)) = false := decide_eq_false h9
  refine ws g10 ?_
  refine ws g10 ?_
  refine ws g10 ?_
  refine ws g10 ?_
  refine wu ?_
  refine wu ?_
  refine wu ?_
  refine wu ?_
  refine ws g10 ?_
  refine wv (vpF g10) ?_
  refine wa (nt' (CM_ret ?_))
  exact rtb (h := by unfold impl_IsVisible_m; exact cond_f g10 (rfl))

def impl_meetInTime_m (x0 : DVersion) (x1 : DVersion) : Bool :=
 cond (impl_IsVisible_m x0 x1.Born) true (impl_IsVisible_m x1 x0.Born)
theorem cb184 : Cb Tryz.prog 184 := ⟨f184, _, func184, rfl, by decide⟩
theorem impl_meetInTime_c (w : World) (z0 : List Value) (x0 : DVersion) (z1 : List Value) (x1 : DVersion) (r_0 : tyVersion.rd w w.heap.size z0 x0) (r_1 : tyVersion.rd w w.heap.size z1 x1) :
  Calls Tryz.prog 184 #[.agg z0.toArray, .agg z1.toArray] w fun e w' => e = .returned (.bool (impl_meetInTime_m x0 x1)) ∧ Below w.heap.size w w' := by
 obtain ⟨v1, rfl, r2⟩ := tyVersion_rd r_0
 have r7 := r2
 obtain ⟨m3, A4, c5, rfl, q6⟩ := r2
 obtain ⟨v8, rfl, r9⟩ := tyVersion_rd r_1
 have r14 := r9
 obtain ⟨m10, A11, c12, rfl, q13⟩ := r9
 refine ce2 (L := [(0, .agg #[.int .i64 x0.Id, .slice A4 x0.Values.length c5, .int .i64 x0.Born, .int .i64 x0.Died]), (1, .agg #[.int .i64 x1.Id, .slice A11 x1.Values.length c12, .int .i64 x1.Born, .int .i64 x1.Died])]) (N := 15) func184 ?_
 refine sr ?_
 refine WM_box rfl (Wd_none rfl) (by decide) (fun p15 => ?_)
 refine WM_box rfl (Wd_none rfl) (by decide) (fun p16 => ?_)
 refine wa (nt' (sr ?_))
 refine wv (fun W hm => rv_loadN (cs := [.int .i64 x0.Id, .slice A4 x0.Values.length c5, .int .i64 x0.Born, .int .i64 x0.Died]) underlying191 type191 rfl rfl (hm.boxCells (n := 1) rfl)) ?_
 refine wv (vf underlying191 rfl type3) ?_
 refine wv (vl 0 2 underlying3) ?_
 refine wcv (cl_fn cb176 rfl) (fun W hm => impl_IsVisible_c W _ x0 x1.Born (tyVersion_mk (x := x0) (hm.rdS0 r7))) ?_
 refine wm ?_
 rcases Bool.eq_false_or_eq_true (impl_IsVisible_m x0 x1.Born) with g18 | g18
 ·
  refine ws g18 ?_
  refine ws g18 ?_
  refine ws g18 ?_
  refine ws g18 ?_
  refine wv (vpT g18) ?_
  refine wa (nt' (CM_ret ?_))
  exact rtb (h := by unfold impl_meetInTime_m; exact cond_t g18 (rfl))
 ·
  refine wg (fun W hm => rv_loadN (cs := [.int .i64 x1.Id, .slice A11 x1.Values.length c12, .int .i64 x1.Born, .int .i64 x1.Died]) underlying191 type191 rfl rfl (hm.boxCells (n := 0) rfl)) g18 ?_
  refine wg (vf underlying191 rfl type3) g18 ?_
  refine wg (vl 1 2 underlying3) g18 ?_
  refine WM_callV (cl_fn cb176 rfl) (fun W hm => impl_IsVisible_c W _ x1 x0.Born (tyVersion_mk (x := x1) (hm.rdS0 r14))) (Wd_some rfl rfl rfl (bw g18 rfl)) (by decide) ?_
  refine wv (vpF g18) ?_
  refine wa (nt' (CM_ret ?_))
  exact rtb (h := by unfold impl_meetInTime_m; exact cond_f g18 (rfl))

def impl_IsStore_b3 (x0 : DStore) (k16 : Nat) (k41 : Nat) (d42 : (List DVersion)) (k77 : Nat) : Bool ⊕ (Unit) :=
 cond (((gt (gt x0.Segments k16) k41).Id) == ((gt d42 k77).Id)) (cond (impl_meetInTime_m (gt (gt x0.Segments k16) k41) (gt d42 k77)) (Sum.inl false) (Sum.inr ())) (Sum.inr ())
def impl_IsStore_b4 (x0 : DStore) (k16 : Nat) (k41 : Nat) (d42 : (List DVersion)) (k112 : Nat) : Bool ⊕ (Unit) :=
 cond (((gt (gt x0.Segments k16) k41).Id) == ((gt d42 k112).Id)) (cond (impl_meetInTime_m (gt (gt x0.Segments k16) k41) (gt d42 k112)) (Sum.inl false) (Sum.inr ())) (Sum.inr ())
def impl_IsStore_b2 (x0 : DStore) (k16 : Nat) (k41 : Nat) (d42 : (List DVersion)) : Bool ⊕ ((List DVersion)) :=
 cond (impl_IsRow_m (impl_rowOf_m (gt (gt x0.Segments k16) k41))) (cond (impl_within_m ((gt (gt x0.Segments k16) k41).Born) 0 x0.Now) (cond (((gt (gt x0.Segments k16) k41).Died) != (-1)) (cond (impl_within_m ((gt (gt x0.Segments k16) k41).Died) (IntKind.i64.wrap (((gt (gt x0.Segments k16) k41).Born) + 1)) x0.Now) (Sum.elim Sum.inl (fun (s : Unit) => Sum.inr (d42 ++ [(gt (gt x0.Segments k16) k41)])) (rng (R := Bool) (fun k (_ : Unit) => impl_IsStore_b4 x0 k16 k41 d42 k) (d42.length - 0) 0 ())) (Sum.inl false)) (Sum.elim Sum.inl (fun (s : Unit) => Sum.inr (d42 ++ [(gt (gt x0.Segments k16) k41)])) (rng (R := Bool) (fun k (_ : Unit) => impl_IsStore_b3 x0 k16 k41 d42 k) (d42.length - 0) 0 ()))) (Sum.inl false)) (Sum.inl false)
def impl_IsStore_b1 (x0 : DStore) (k16 : Nat) (d17 : (List DVersion)) : Bool ⊕ ((List DVersion)) :=
 cond (decide (4 < ((((gt x0.Segments k16)).length : Nat) : Int))) (Sum.inl false) (Sum.elim Sum.inl (fun (s : (List DVersion)) => Sum.inr s) (rng (R := Bool) (fun k (s : (List DVersion)) => impl_IsStore_b2 x0 k16 k s) (((gt x0.Segments k16)).length - 0) 0 d17))
def impl_IsStore_m (x0 : DStore) : Bool :=
 cond (impl_within_m ((x0.Segments.length : Nat) : Int) 1 8) (cond (impl_within_m x0.Now 0 100000) (Sum.elim id (fun (s : (List DVersion)) => true) (rng (R := Bool) (fun k (s : (List DVersion)) => impl_IsStore_b1 x0 k s) (x0.Segments.length - 0) 0 [])) false) false
theorem cb117 : Cb Tryz.prog 117 := ⟨f117, _, func117, rfl, by decide⟩
theorem impl_IsStore_c (w : World) (z0 : List Value) (x0 : DStore) (r_0 : tyStore.rd w w.heap.size z0 x0) (s_0 : smStore 68719476736 x0) :
  Calls Tryz.prog 117 #[.agg z0.toArray] w fun e w' => e = .returned (.bool (impl_IsStore_m x0)) ∧ Below w.heap.size w w' := by
 obtain ⟨v1, rfl, r2⟩ := tyStore_rd r_0
 have r7 := r2
 obtain ⟨m3, A4, c5, rfl, q6⟩ := r2
 have l8 : x0.Segments.length ≤ 68719476736 := s_0.1
 refine ce1 (L := [(0, .agg #[.slice A4 x0.Segments.length c5, .int .i64 x0.Now])]) (N := 89) func117 ?_
 refine sr ?_
 refine WM_box rfl (Wd_none rfl) (by decide) (fun p9 => ?_)
 refine wa (nt' (CM_seq (sr ?_)))
 refine wv (vf underlying42 rfl type40) ?_
 refine wv (vl 0 0 underlying40) ?_
 refine wv (vlen underlying40) ?_
 refine wcv (cl_fn cb118 rfl) (fun W hm => impl_within_c W ((x0.Segments.length : Nat) : Int) 1 8) ?_
 refine wv vnot ?_
 refine wm ?_
 rcases Bool.eq_false_or_eq_true (impl_within_m ((x0.Segments.length : Nat) : Int) 1 8) with g11 | g11
 ·
  have hw := impl_within_fact g11
  refine wg (vf underlying42 rfl type3) (nt g11) ?_
  refine wg (vl 0 1 underlying3) (nt g11) ?_
  refine WM_callV (cl_fn cb118 rfl) (fun W hm => impl_within_c W x0.Now 0 100000) (Wd_some rfl rfl rfl (bw (nt g11) rfl)) (by decide) ?_
  refine wg vnot (nt g11) ?_
  refine wv (vpF (nt g11)) ?_
  refine nt' ?_
  rcases Bool.eq_false_or_eq_true (impl_within_m x0.Now 0 100000) with g13 | g13
  ·
   have hw := impl_within_fact g13
   refine CM_condF rfl (nt g13) ?_
   refine CM_skip (QM_then (sr ?_))
   refine WM_build0 (E := (tBor tyVersion w w.heap.size)) underlying131 type191 (Wd_none rfl) (by decide) (fun p14 => ?_)
   refine wa (nt' (CM_seq (sr ?_)))
   refine wv (vf underlying42 rfl type40) ?_
   refine wv (vl 1 0 underlying40) ?_
   refine wv (vlen underlying40) ?_
   refine wm (nt' (CM_block ?_))
   let F1 := fun k (s : (List DVersion)) => impl_IsStore_b1 x0 k s
   let R5 := rng (R := Bool) F1
   let I14 : It := iBox p9 42 [.slice A4 x0.Segments.length c5, .int .i64 x0.Now]
   refine CM_loop (σ := Nat × ((List DVersion)) × (Option Addr × Nat)) (fun s => [(1, .pointer (some (⟨p9, 0, none⟩ : Addr))), (3, .slice s.2.2.1 s.2.1.length s.2.2.2), (23, .slice A4 x0.Segments.length c5), (24, .int .i64 ((x0.Segments.length : Nat) : Int)), (25, .int .i64 ((s.1 : Nat) : Int))]) (fun s => [iOwn (tSl (tBor tyVersion w w.heap.size) 191) [.slice s.2.2.1 s.2.1.length s.2.2.2] s.2.1, I14]) (fun s => s.1 ≤ x0.Segments.length ∧ R5 (x0.Segments.length - s.1) s.1 s.2.1 = R5 (x0.Segments.length - 0) 0 [] ∧ s.2.1.length ≤ 0 + 4 * s.1) (fun s => x0.Segments.length - s.1) (0, [], ((some ⟨p14, 0, none⟩), 0)) sl5 (fun W hm => hm) ⟨(by omega), rfl, Nat.le_refl _⟩ ?_
   rintro ⟨k16, d17, ⟨A18, c19⟩⟩ H22
   obtain ⟨hk20, hF21, hi23⟩ : k16 ≤ x0.Segments.length ∧ R5 (x0.Segments.length - k16) k16 d17 = R5 (x0.Segments.length - 0) 0 [] ∧ d17.length ≤ 0 + 4 * k16 := H22
   show CM Tryz.prog 89 _ _ _ _ [(1, .pointer (some (⟨p9, 0, none⟩ : Addr))), (3, .slice A18 d17.length c19), (23, .slice A4 x0.Segments.length c5), (24, .int .i64 ((x0.Segments.length : Nat) : Int)), (25, .int .i64 ((k16 : Nat) : Int))] [iOwn (tSl (tBor tyVersion w w.heap.size) 191) [.slice A18 d17.length c19] d17, I14]
   refine sr ?_
   refine wv vlss ?_
   refine nt' (CM_seq ?_)
   by_cases hl24 : k16 < x0.Segments.length
   ·have g25 : (decide (((k16 : Nat) : Int) < ((x0.Segments.length : Nat) : Int))) = true := decide_eq_true (by omega)
    refine CM_condT rfl g25 ?_
    refine CM_skip (QM_then (CM_seq (CM_block (sr ?_))))
    obtain ⟨a26, rfl, hb27, he28⟩ := q6 (by omega)
    refine wv (vix 1 k16 underlying40 type131) ?_
    obtain ⟨_, e30, hc29⟩ := he28 k16 _ (gt_some (show k16 < x0.Segments.length from by omega))
    have l31 : (gt x0.Segments k16).length ≤ 68719476736 := (s_0.2 _ (gt_mem (show k16 < x0.Segments.length from by omega))).1
    obtain ⟨v32, rfl, r33⟩ := e30
    have r38 := r33
    obtain ⟨m34, A35, c36, rfl, q37⟩ := r33
    refine wv (fun W hm => rv_load underlying131 rfl rfl ((hm.cell0 (show (a26.add (k16 * 1)).block < w.heap.size from by rw [add_block]; exact hb27.1)).trans (hc29 0 _ rfl))) ?_
    refine wa (nt' (CM_seq (sr (wm ?_))))
    refine wv (vlen underlying131) ?_
    refine wv (fun W hm => rv_gtr rfl rfl) ?_
    refine nt' ?_
    by_cases h39 : 4 < ((((gt x0.Segments k16)).length : Nat) : Int)
    ·have g40 : (decide (4 < ((((gt x0.Segments k16)).length : Nat) : Int))) = true := decide_eq_true h39
     refine CM_condT rfl g40 ?_
     refine sr (wa (nt' (CM_ret (QM_then_ret (QM_block_ret (QM_then_ret (QM_then_ret (QM_block_ret (QM_then_ret ?_)))))))))
     exact rtb (h := by unfold impl_IsStore_m; exact cond_t g11 (cond_t g13 (fin_inl (rng_ret (body := F1) (k := k16) (s := d17) (show k16 < x0.Segments.length from by omega) (show impl_IsStore_b1 x0 k16 d17 = Sum.inl false from by unfold impl_IsStore_b1; exact cond_t g40 (rfl)) hF21) rfl)))
    ·have g40 : (decide (4 < ((((gt x0.Segments k16)).length : Nat) : Int))) = false := decide_eq_false h39
     refine CM_condF rfl g40 ?_
     refine CM_skip (QM_then (sr (wm ?_)))
     refine wv (vlen underlying131) ?_
     refine wm (nt' (CM_block ?_))
     let F2 := fun k (s : (List DVersion)) => impl_IsStore_b2 x0 k16 k s
     let R6 := rng (R := Bool) F2
     let I15 : It := iBox p9 42 [.slice (some a26) x0.Segments.length c5, .int .i64 x0.Now]
     refine CM_loop (σ := Nat × ((List DVersion)) × (Option Addr × Nat)) (fun s => [(1, .pointer (some (⟨p9, 0, none⟩ : Addr))), (3, .slice s.2.2.1 s.2.1.length s.2.2.2), (23, .slice (some a26) x0.Segments.length c5), (24, .int .i64 ((x0.Segments.length : Nat) : Int)), (25, .int .i64 ((k16 : Nat) : Int)), (32, .slice A35 ((gt x0.Segments k16)).length c36), (33, .int .i64 ((((gt x0.Segments k16)).length : Nat) : Int)), (34, .int .i64 ((s.1 : Nat) : Int))]) (fun s => [iOwn (tSl (tBor tyVersion w w.heap.size) 191) [.slice s.2.2.1 s.2.1.length s.2.2.2] s.2.1, I15]) (fun s => s.1 ≤ ((gt x0.Segments k16)).length ∧ R6 (((gt x0.Segments k16)).length - s.1) s.1 s.2.1 = R6 (((gt x0.Segments k16)).length - 0) 0 d17 ∧ s.2.1.length ≤ d17.length + s.1) (fun s => ((gt x0.Segments k16)).length - s.1) (0, d17, (A18, c19)) sl8 (fun W hm => hm) ⟨(by omega), rfl, Nat.le_refl _⟩ ?_
     rintro ⟨k41, d42, ⟨A43, c44⟩⟩ H47
     obtain ⟨hk45, hF46, hi48⟩ : k41 ≤ ((gt x0.Segments k16)).length ∧ R6 (((gt x0.Segments k16)).length - k41) k41 d42 = R6 (((gt x0.Segments k16)).length - 0) 0 d17 ∧ d42.length ≤ d17.length + k41 := H47
     let I16 : It := iOwn (tSl (tBor tyVersion w w.heap.size) 191) [.slice A43 d42.length c44] d42
     show CM Tryz.prog 89 _ _ _ _ [(1, .pointer (some (⟨p9, 0, none⟩ : Addr))), (3, .slice A43 d42.length c44), (23, .slice (some a26) x0.Segments.length c5), (24, .int .i64 ((x0.Segments.length : Nat) : Int)), (25, .int .i64 ((k16 : Nat) : Int)), (32, .slice A35 ((gt x0.Segments k16)).length c36), (33, .int .i64 ((((gt x0.Segments k16)).length : Nat) : Int)), (34, .int .i64 ((k41 : Nat) : Int))] [I16, I15]
     refine sr ?_
     refine wv vlss ?_
     refine nt' (CM_seq ?_)
     by_cases hl49 : k41 < ((gt x0.Segments k16)).length
     ·have g50 : (decide (((k41 : Nat) : Int) < ((((gt x0.Segments k16)).length : Nat) : Int))) = true := decide_eq_true (by omega)
      refine CM_condT rfl g50 ?_
      refine CM_skip (QM_then (CM_seq (CM_block (sr ?_))))
      obtain ⟨a51, rfl, hb52, he53⟩ := q37 (by omega)
      refine wv (vix 4 k41 underlying131 type191) ?_
      obtain ⟨_, e57, hc54⟩ := he53 k41 _ (gt_some (show k41 < ((gt x0.Segments k16)).length from by omega))
      obtain ⟨v55, rfl, r56⟩ := tyVersion_rd e57
      have l58 : ((gt (gt x0.Segments k16) k41).Values).length ≤ 68719476736 := ((s_0.2 _ (gt_mem (show k16 < x0.Segments.length from by omega))).2 _ (gt_mem (show k41 < ((gt x0.Segments k16)).length from by omega)))
      have r63 := r56
      obtain ⟨m59, A60, c61, rfl, q62⟩ := r56
      let K9 : List Value := [.int .i64 ((gt (gt x0.Segments k16) k41).Id), .slice A60 ((gt (gt x0.Segments k16) k41).Values).length c61, .int .i64 ((gt (gt x0.Segments k16) k41).Born), .int .i64 ((gt (gt x0.Segments k16) k41).Died)]
      refine wv (fun W hm => rv_loadN (cs := K9) underlying191 type191 rfl rfl (hm.elCells (show (a51.add (k41 * 4)).block < w.heap.size from by rw [add_block]; exact hb52.1) hc54)) ?_
      refine WM_alloc type191 rfl (Wd_none rfl) (by decide) (fun p64 => ?_)
      refine sb 0 K9 [I16, I15] (fun W hm => hm) type191 ?_
      refine nt' (CM_seq (sr ?_))
      refine wv (fun W hm => rv_loadN (cs := K9) underlying191 type191 rfl rfl (hm.boxCells (n := 0) rfl)) ?_
      refine wcs tyRow (impl_rowOf_m (gt (gt x0.Segments k16) k41)) (cl_fn cb177 rfl) (fun W hm => impl_rowOf_c W _ (gt (gt x0.Segments k16) k41) (tyVersion_mk (x := (gt (gt x0.Segments k16) k41)) (hm.rdS0 r63)) ((s_0.2 _ (gt_mem (show k16 < x0.Segments.length from by omega))).2 _ (gt_mem (show k41 < ((gt x0.Segments k16)).length from by omega)))) (fun z65 => ?_)
      refine tyRow_sp ?_
      rintro v66 rfl
      refine WM_form (n := 0) rfl ?_
      rintro A67 c68 rfl m69
      refine wcv (cl_fn cb178 rfl) (fun W hm => impl_IsRow_c W _ (impl_rowOf_m (gt (gt x0.Segments k16) k41)) (tyRow_mk (x := (impl_rowOf_m (gt (gt x0.Segments k16) k41))) (hm.rdSI (n := 0) rfl))) ?_
      refine wv vnot ?_
      refine wm ?_
      rcases Bool.eq_false_or_eq_true (impl_IsRow_m (impl_rowOf_m (gt (gt x0.Segments k16) k41))) with g72 | g72
      ·
       refine wg (vf underlying191 rfl type3) (nt g72) ?_
       refine wg (vl 1 2 underlying3) (nt g72) ?_
       refine wg (vf underlying42 rfl type3) (nt g72) ?_
       refine wg (vl 3 1 underlying3) (nt g72) ?_
       refine WM_callV (cl_fn cb118 rfl) (fun W hm => impl_within_c W ((gt (gt x0.Segments k16) k41).Born) 0 x0.Now) (Wd_some rfl rfl rfl (bw (nt g72) rfl)) (by decide) ?_
       refine wg vnot (nt g72) ?_
       refine wv (vpF (nt g72)) ?_
       refine wm ?_
       rcases Bool.eq_false_or_eq_true (impl_within_m ((gt (gt x0.Segments k16) k41).Born) 0 x0.Now) with g74 | g74
       ·
        have hw := impl_within_fact g74
        refine wg (vf underlying191 rfl type3) (nt g74) ?_
        refine wg (vl 1 3 underlying3) (nt g74) ?_
        refine wg vneq (nt g74) ?_
        refine wg vmv (nt g74) ?_
        by_cases h75 : ((gt (gt x0.Segments k16) k41).Died) = (-1)
        ·have g76 : (((gt (gt x0.Segments k16) k41).Died) != (-1)) = false := by rw [h75]; exact bne_self_eq_false _
         refine ws g76 ?_
         refine ws g76 ?_
         refine ws g76 ?_
         refine ws g76 ?_
         refine ws g76 ?_
         refine ws g76 ?_
         refine ws g76 ?_
         refine ws g76 ?_
         refine ws g76 ?_
         refine wg (vpF g76) (nt g74) ?_
         refine wv (vpF (nt g74)) ?_
         refine nt' ?_
         refine CM_condF rfl rfl ?_
         refine CM_skip (QM_then (CM_seq (sr (wm ?_))))
         refine wv (vlen underlying131) ?_
         refine wm (nt' (CM_block ?_))
         let F3 := fun k (_ : Unit) => impl_IsStore_b3 x0 k16 k41 d42 k
         let R7 := rng (R := Bool) F3
         let K10 : List Value := [.slice A67 ((impl_rowOf_m (gt (gt x0.Segments k16) k41)).Values).length c68]
         let I17 : It := iOwn (tSl tInt 3) K10 ((impl_rowOf_m (gt (gt x0.Segments k16) k41)).Values)
         refine CM_loop (σ := Nat × (Unit) × (Unit)) (fun s => [(1, .pointer (some (⟨p9, 0, none⟩ : Addr))), (3, .slice A43 d42.length c44), (7, .pointer (some (⟨p64, 0, none⟩ : Addr))), (23, .slice (some a26) x0.Segments.length c5), (24, .int .i64 ((x0.Segments.length : Nat) : Int)), (25, .int .i64 ((k16 : Nat) : Int)), (32, .slice (some a51) ((gt x0.Segments k16)).length c36), (33, .int .i64 ((((gt x0.Segments k16)).length : Nat) : Int)), (34, .int .i64 ((k41 : Nat) : Int)), (66, .slice A43 d42.length c44), (67, .int .i64 ((d42.length : Nat) : Int)), (68, .int .i64 ((s.1 : Nat) : Int))]) (fun s => [I17, iBox p64 191 K9, I16, I15]) (fun s => s.1 ≤ d42.length ∧ R7 (d42.length - s.1) s.1 s.2.1 = R7 (d42.length - 0) 0 ()) (fun s => d42.length - s.1) (0, (), ()) sl12 (fun W hm => hm) ⟨(by omega), rfl⟩ ?_
         rintro ⟨k77, ⟨⟩, ⟨⟩⟩ H80
         obtain ⟨hk78, hF79⟩ : k77 ≤ d42.length ∧ R7 (d42.length - k77) k77 () = R7 (d42.length - 0) 0 () := H80
         show CM Tryz.prog 89 _ _ _ _ [(1, .pointer (some (⟨p9, 0, none⟩ : Addr))), (3, .slice A43 d42.length c44), (7, .pointer (some (⟨p64, 0, none⟩ : Addr))), (23, .slice (some a26) x0.Segments.length c5), (24, .int .i64 ((x0.Segments.length : Nat) : Int)), (25, .int .i64 ((k16 : Nat) : Int)), (32, .slice (some a51) ((gt x0.Segments k16)).length c36), (33, .int .i64 ((((gt x0.Segments k16)).length : Nat) : Int)), (34, .int .i64 ((k41 : Nat) : Int)), (66, .slice A43 d42.length c44), (67, .int .i64 ((d42.length : Nat) : Int)), (68, .int .i64 ((k77 : Nat) : Int))] [I17, iBox p64 191 K9, I16, I15]
         refine sr ?_
         refine wv vlss ?_
         refine nt' (CM_seq ?_)
         by_cases hl81 : k77 < d42.length
         ·have g82 : (decide (((k77 : Nat) : Int) < ((d42.length : Nat) : Int))) = true := decide_eq_true (by omega)
          refine CM_condT rfl g82 ?_
          refine CM_skip (QM_then (CM_seq (CM_block (sr ?_))))
          refine WM_formO (n := 2) rfl (by omega) ?_
          rintro g83 rfl
          refine wv (vix 4 k77 underlying131 type191) ?_
          refine WM_expose (T := tyVersion) (wb := w) (Bb := w.heap.size) (e := 191) (g := g83) (n := d42.length) (c := c44) (xs := d42) (js := [I17, iBox p64 191 K9, I15]) (pk [2, 0, 1, 3]) ?_
          rintro ck84 rk85
          obtain ⟨_, e86, hc87⟩ := rk85.get (j := k77) (by omega)
          obtain ⟨v88, rfl, r89⟩ := tyVersion_rd e86
          have r94 := r89
          obtain ⟨m90, A91, c92, rfl, q93⟩ := r89
          let K11 : List Value := [.int .i64 ((gt d42 k77).Id), .slice A91 ((gt d42 k77).Values).length c92, .int .i64 ((gt d42 k77).Born), .int .i64 ((gt d42 k77).Died)]
          refine wv (fun W hm => rv_loadN (cs := K11) underlying191 type191 rfl rfl (hm.rowCells (i := 0) rfl hc87)) ?_
          refine WM_alloc type191 rfl (Wd_none rfl) (by decide) (fun p95 => ?_)
          refine sb 0 K11 [iBox g83 191 ck84, I17, iBox p64 191 K9, I15] (fun W hm => hm) type191 ?_
          refine nt' (sr ?_)
          refine wv (vf underlying191 rfl type3) ?_
          refine wv (vl 3 0 underlying3) ?_
          refine wv (vf underlying191 rfl type3) ?_
          refine wv (vl 0 0 underlying3) ?_
          refine wv (fun W hm => rv_eql rfl rfl) ?_
          refine wm ?_
          by_cases h96 : ((gt (gt x0.Segments k16) k41).Id) = ((gt d42 k77).Id)
          ·have g97 : (((gt (gt x0.Segments k16) k41).Id) == ((gt d42 k77).Id)) = true := beq_iff_eq.2 h96
           refine wg (fun W hm => rv_loadN (cs := K9) underlying191 type191 rfl rfl (hm.boxCells (n := 3) rfl)) g97 ?_
           refine wg (fun W hm => rv_loadN (cs := K11) underlying191 type191 rfl rfl (hm.boxCells (n := 0) rfl)) g97 ?_
           refine WM_callV (cl_fn cb184 rfl) (fun W hm => impl_meetInTime_c W _ (gt (gt x0.Segments k16) k41) _ (gt d42 k77) (tyVersion_mk (x := (gt (gt x0.Segments k16) k41)) (hm.rdS0 r63)) (tyVersion_mk (x := (gt d42 k77)) (hm.rdS0 r94))) (Wd_some rfl rfl rfl (bw g97 rfl)) (by decide) ?_
           refine wv (vpT g97) ?_
           refine nt' ?_
           rcases Bool.eq_false_or_eq_true (impl_meetInTime_m (gt (gt x0.Segments k16) k41) (gt d42 k77)) with g99 | g99
           ·
            refine CM_condT rfl g99 ?_
            refine sr (wa (nt' (CM_ret (QM_block_ret (QM_then_ret (QM_then_ret (QM_block_ret (QM_then_ret (QM_block_ret (QM_then_ret (QM_then_ret (QM_block_ret (QM_block_ret (QM_then_ret (QM_then_ret (QM_block_ret (QM_then_ret ?_)))))))))))))))))
            refine QM_items (fun W hm => Mem.hide rk85 (hm.pick [1, 0, 2, 3, 4] (by decide))) ?_
            exact rtb (h := by unfold impl_IsStore_m; exact cond_t g11 (cond_t g13 (fin_inl (rng_ret (body := F1) (k := k16) (s := d17) (show k16 < x0.Segments.length from by omega) (show impl_IsStore_b1 x0 k16 d17 = Sum.inl false from by unfold impl_IsStore_b1; exact cond_f g40 (fin_inl (rng_ret (body := F2) (k := k41) (s := d42) (show k41 < ((gt x0.Segments k16)).length from by omega) (show impl_IsStore_b2 x0 k16 k41 d42 = Sum.inl false from by unfold impl_IsStore_b2; exact cond_t g72 (cond_t g74 (cond_f g76 (fin_inl (rng_ret (body := F3) (k := k77) (s := ()) (show k77 < d42.length from by omega) (show impl_IsStore_b3 x0 k16 k41 d42 k77 = Sum.inl false from by unfold impl_IsStore_b3; exact cond_t g97 (cond_t g99 (rfl))) hF79) rfl)))) hF46) rfl)) hF21) rfl)))
           ·
            refine CM_condF rfl g99 ?_
            refine CM_skip (QM_block_normal (QM_then (CM_region ?_)))
            refine wv (vadN k77 1 (by omega)) ?_
            refine wm (WM_nil ?_)
            refine QM_items (fun W hm => Mem.hide rk85 (hm.pick [1, 0, 2, 3, 4] (by decide))) ?_
            have hn100 := rng_next (R := Bool) (body := F3) (k := k77) (s := ()) (s' := ()) (show k77 < d42.length from by omega) (show impl_IsStore_b3 x0 k16 k41 d42 k77 = Sum.inr () from by unfold impl_IsStore_b3; exact cond_t g97 (cond_f g99 (rfl))) hF79
            exact QM_round (k77 + 1, (), ()) sl12 (pk [2, 3, 0, 4]) ⟨(by omega), hn100⟩ (rl (by omega))
          ·have g97 : (((gt (gt x0.Segments k16) k41).Id) == ((gt d42 k77).Id)) = false := beq_eq_false_iff_ne.2 h96
           refine ws g97 ?_
           refine ws g97 ?_
           refine ws g97 ?_
           refine wv (vpF g97) ?_
           refine nt' ?_
           refine CM_condF rfl rfl ?_
           refine CM_skip (QM_block_normal (QM_then (CM_region ?_)))
           refine wv (vadN k77 1 (by omega)) ?_
           refine wm (WM_nil ?_)
           refine QM_items (fun W hm => Mem.hide rk85 (hm.pick [1, 0, 2, 3, 4] (by decide))) ?_
           have hn101 := rng_next (R := Bool) (body := F3) (k := k77) (s := ()) (s' := ()) (show k77 < d42.length from by omega) (show impl_IsStore_b3 x0 k16 k41 d42 k77 = Sum.inr () from by unfold impl_IsStore_b3; exact cond_f g97 (rfl)) hF79
           exact QM_round (k77 + 1, (), ()) sl12 (pk [2, 3, 0, 4]) ⟨(by omega), hn101⟩ (rl (by omega))
         ·have g82 : (decide (((k77 : Nat) : Int) < ((d42.length : Nat) : Int))) = false := decide_eq_false (by omega)
          refine CM_condF rfl g82 ?_
          refine CM_exit (QM_then_exit (QM_then_exit ?_))
          have hE102 : R7 (d42.length - 0) 0 () = Sum.inr () := rng_end hl81 hF79
          refine QM_block_hit (QM_then (CM_region (wm ?_)))
          refine wv (fun W hm => rv_loadN (cs := K9) underlying191 type191 rfl rfl (hm.boxCells (n := 1) rfl)) ?_
          refine WM_build (cs := K9) underlying131 type191 rfl (by decide) (by decide) rfl (by kernel_rfl) (Wd_none rfl) (by decide) (fun p103 => ?_)
          refine ap1 (tBor tyVersion w w.heap.size) 191 (.slice A43 d42.length c44) d42 (gt (gt x0.Segments k16) k41) [] [I17, iBox p64 191 K9, I15] K9 (pk [0, 3, 1, 2, 4]) (fun _ _ hs => by cases (Sep.nil hs); exact (els_cons (E := (tBor tyVersion w w.heap.size)) (L1 := []) ⟨rfl, (tyVersion_mk r63)⟩ els_nil)) underlying131 type191 (show (d42.length + 1) * 48 ≤ 140737488355328 from by omega) (fun v104 => ?_)
          refine WM_form (n := 0) rfl ?_
          rintro A105 c106 rfl m107
          refine wa (WM_nil (QM_block_normal (QM_then (CM_region ?_))))
          refine wv (vadN k41 1 (by omega)) ?_
          refine wm (WM_nil ?_)
          have hn109 := rng_next (R := Bool) (body := F2) (k := k41) (s := d42) (s' := (d42 ++ [(gt (gt x0.Segments k16) k41)])) (show k41 < ((gt x0.Segments k16)).length from by omega) (show impl_IsStore_b2 x0 k16 k41 d42 = Sum.inr (d42 ++ [(gt (gt x0.Segments k16) k41)]) from by unfold impl_IsStore_b2; exact cond_t g72 (cond_t g74 (cond_f g76 (fin_inr hE102 (rfl))))) hF46
          exact QM_round (k41 + 1, (d42 ++ [(gt (gt x0.Segments k16) k41)]), (A105, c106)) sl8 (pk [0, 3]) ⟨(by omega), hn109, (show (d42 ++ [(gt (gt x0.Segments k16) k41)]).length ≤ d17.length + (k41 + 1) from by first | omega | (simp only [List.length_append, List.length_cons, List.length_nil] at *; omega))⟩ (show ((gt x0.Segments k16)).length - (k41 + 1) < ((gt x0.Segments k16)).length - k41 from by omega)
        ·have g76 : (((gt (gt x0.Segments k16) k41).Died) != (-1)) = true := bne_iff_ne.2 h75
         refine wg (vf underlying191 rfl type3) g76 ?_
         refine wg (vl 1 3 underlying3) g76 ?_
         refine wg (vf underlying191 rfl type3) g76 ?_
         refine wg (vl 1 2 underlying3) g76 ?_
         refine wg vadd g76 ?_
         refine wg (vf underlying42 rfl type3) g76 ?_
         refine wg (vl 3 1 underlying3) g76 ?_
         refine WM_callV (cl_fn cb118 rfl) (fun W hm => impl_within_c W ((gt (gt x0.Segments k16) k41).Died) (IntKind.i64.wrap (((gt (gt x0.Segments k16) k41).Born) + 1)) x0.Now) (Wd_some rfl rfl rfl (bw g76 rfl)) (by decide) ?_
         refine wg vnot g76 ?_
         refine wg (vpT g76) (nt g74) ?_
         refine wv (vpF (nt g74)) ?_
         refine nt' ?_
         rcases Bool.eq_false_or_eq_true (impl_within_m ((gt (gt x0.Segments k16) k41).Died) (IntKind.i64.wrap (((gt (gt x0.Segments k16) k41).Born) + 1)) x0.Now) with g111 | g111
         ·
          have hw := impl_within_fact g111
          refine CM_condF rfl (nt g111) ?_
          refine CM_skip (QM_then (CM_seq (sr (wm ?_))))
          refine wv (vlen underlying131) ?_
          refine wm (nt' (CM_block ?_))
          let F4 := fun k (_ : Unit) => impl_IsStore_b4 x0 k16 k41 d42 k
          let R8 := rng (R := Bool) F4
          let K12 : List Value := [.slice A67 ((impl_rowOf_m (gt (gt x0.Segments k16) k41)).Values).length c68]
          let I18 : It := iOwn (tSl tInt 3) K12 ((impl_rowOf_m (gt (gt x0.Segments k16) k41)).Values)
          refine CM_loop (σ := Nat × (Unit) × (Unit)) (fun s => [(1, .pointer (some (⟨p9, 0, none⟩ : Addr))), (3, .slice A43 d42.length c44), (7, .pointer (some (⟨p64, 0, none⟩ : Addr))), (23, .slice (some a26) x0.Segments.length c5), (24, .int .i64 ((x0.Segments.length : Nat) : Int)), (25, .int .i64 ((k16 : Nat) : Int)), (32, .slice (some a51) ((gt x0.Segments k16)).length c36), (33, .int .i64 ((((gt x0.Segments k16)).length : Nat) : Int)), (34, .int .i64 ((k41 : Nat) : Int)), (66, .slice A43 d42.length c44), (67, .int .i64 ((d42.length : Nat) : Int)), (68, .int .i64 ((s.1 : Nat) : Int))]) (fun s => [I18, iBox p64 191 K9, I16, I15]) (fun s => s.1 ≤ d42.length ∧ R8 (d42.length - s.1) s.1 s.2.1 = R8 (d42.length - 0) 0 ()) (fun s => d42.length - s.1) (0, (), ()) sl12 (fun W hm => hm) ⟨(by omega), rfl⟩ ?_
          rintro ⟨k112, ⟨⟩, ⟨⟩⟩ H115
          obtain ⟨hk113, hF114⟩ : k112 ≤ d42.length ∧ R8 (d42.length - k112) k112 () = R8 (d42.length - 0) 0 () := H115
          show CM Tryz.prog 89 _ _ _ _ [(1, .pointer (some (⟨p9, 0, none⟩ : Addr))), (3, .slice A43 d42.length c44), (7, .pointer (some (⟨p64, 0, none⟩ : Addr))), (23, .slice (some a26) x0.Segments.length c5), (24, .int .i64 ((x0.Segments.length : Nat) : Int)), (25, .int .i64 ((k16 : Nat) : Int)), (32, .slice (some a51) ((gt x0.Segments k16)).length c36), (33, .int .i64 ((((gt x0.Segments k16)).length : Nat) : Int)), (34, .int .i64 ((k41 : Nat) : Int)), (66, .slice A43 d42.length c44), (67, .int .i64 ((d42.length : Nat) : Int)), (68, .int .i64 ((k112 : Nat) : Int))] [I18, iBox p64 191 K9, I16, I15]
          refine sr ?_
          refine wv vlss ?_
          refine nt' (CM_seq ?_)
          by_cases hl116 : k112 < d42.length
          ·have g117 : (decide (((k112 : Nat) : Int) < ((d42.length : Nat) : Int))) = true := decide_eq_true (by omega)
           refine CM_condT rfl g117 ?_
           refine CM_skip (QM_then (CM_seq (CM_block (sr ?_))))
           refine WM_formO (n := 2) rfl (by omega) ?_
           rintro g118 rfl
           refine wv (vix 4 k112 underlying131 type191) ?_
           refine WM_expose (T := tyVersion) (wb := w) (Bb := w.heap.size) (e := 191) (g := g118) (n := d42.length) (c := c44) (xs := d42) (js := [I18, iBox p64 191 K9, I15]) (pk [2, 0, 1, 3]) ?_
           rintro ck119 rk120
           obtain ⟨_, e121, hc122⟩ := rk120.get (j := k112) (by omega)
           obtain ⟨v123, rfl, r124⟩ := tyVersion_rd e121
           have r129 := r124
           obtain ⟨m125, A126, c127, rfl, q128⟩ := r124
           let K13 : List Value := [.int .i64 ((gt d42 k112).Id), .slice A126 ((gt d42 k112).Values).length c127, .int .i64 ((gt d42 k112).Born), .int .i64 ((gt d42 k112).Died)]
           refine wv (fun W hm => rv_loadN (cs := K13) underlying191 type191 rfl rfl (hm.rowCells (i := 0) rfl hc122)) ?_
           refine WM_alloc type191 rfl (Wd_none rfl) (by decide) (fun p130 => ?_)
           refine sb 0 K13 [iBox g118 191 ck119, I18, iBox p64 191 K9, I15] (fun W hm => hm) type191 ?_
           refine nt' (sr ?_)
           refine wv (vf underlying191 rfl type3) ?_
           refine wv (vl 3 0 underlying3) ?_
           refine wv (vf underlying191 rfl type3) ?_
           refine wv (vl 0 0 underlying3) ?_
           refine wv (fun W hm => rv_eql rfl rfl) ?_
           refine wm ?_
           by_cases h131 : ((gt (gt x0.Segments k16) k41).Id) = ((gt d42 k112).Id)
           ·have g132 : (((gt (gt x0.Segments k16) k41).Id) == ((gt d42 k112).Id)) = true := beq_iff_eq.2 h131
            refine wg (fun W hm => rv_loadN (cs := K9) underlying191 type191 rfl rfl (hm.boxCells (n := 3) rfl)) g132 ?_
            refine wg (fun W hm => rv_loadN (cs := K13) underlying191 type191 rfl rfl (hm.boxCells (n := 0) rfl)) g132 ?_
            refine WM_callV (cl_fn cb184 rfl) (fun W hm => impl_meetInTime_c W _ (gt (gt x0.Segments k16) k41) _ (gt d42 k112) (tyVersion_mk (x := (gt (gt x0.Segments k16) k41)) (hm.rdS0 r63)) (tyVersion_mk (x := (gt d42 k112)) (hm.rdS0 r129))) (Wd_some rfl rfl rfl (bw g132 rfl)) (by decide) ?_
            refine wv (vpT g132) ?_
            refine nt' ?_
            rcases Bool.eq_false_or_eq_true (impl_meetInTime_m (gt (gt x0.Segments k16) k41) (gt d42 k112)) with g134 | g134
            ·
             refine CM_condT rfl g134 ?_
             refine sr (wa (nt' (CM_ret (QM_block_ret (QM_then_ret (QM_then_ret (QM_block_ret (QM_then_ret (QM_block_ret (QM_then_ret (QM_then_ret (QM_block_ret (QM_block_ret (QM_then_ret (QM_then_ret (QM_block_ret (QM_then_ret ?_)))))))))))))))))
             refine QM_items (fun W hm => Mem.hide rk120 (hm.pick [1, 0, 2, 3, 4] (by decide))) ?_
             exact rtb (h := by unfold impl_IsStore_m; exact cond_t g11 (cond_t g13 (fin_inl (rng_ret (body := F1) (k := k16) (s := d17) (show k16 < x0.Segments.length from by omega) (show impl_IsStore_b1 x0 k16 d17 = Sum.inl false from by unfold impl_IsStore_b1; exact cond_f g40 (fin_inl (rng_ret (body := F2) (k := k41) (s := d42) (show k41 < ((gt x0.Segments k16)).length from by omega) (show impl_IsStore_b2 x0 k16 k41 d42 = Sum.inl false from by unfold impl_IsStore_b2; exact cond_t g72 (cond_t g74 (cond_t g76 (cond_t g111 (fin_inl (rng_ret (body := F4) (k := k112) (s := ()) (show k112 < d42.length from by omega) (show impl_IsStore_b4 x0 k16 k41 d42 k112 = Sum.inl false from by unfold impl_IsStore_b4; exact cond_t g132 (cond_t g134 (rfl))) hF114) rfl))))) hF46) rfl)) hF21) rfl)))
            ·
             refine CM_condF rfl g134 ?_
             refine CM_skip (QM_block_normal (QM_then (CM_region ?_)))
             refine wv (vadN k112 1 (by omega)) ?_
             refine wm (WM_nil ?_)
             refine QM_items (fun W hm => Mem.hide rk120 (hm.pick [1, 0, 2, 3, 4] (by decide))) ?_
             have hn135 := rng_next (R := Bool) (body := F4) (k := k112) (s := ()) (s' := ()) (show k112 < d42.length from by omega) (show impl_IsStore_b4 x0 k16 k41 d42 k112 = Sum.inr () from by unfold impl_IsStore_b4; exact cond_t g132 (cond_f g134 (rfl))) hF114
             exact QM_round (k112 + 1, (), ()) sl12 (pk [2, 3, 0, 4]) ⟨(by omega), hn135⟩ (rl (by omega))
           ·have g132 : (((gt (gt x0.Segments k16) k41).Id) == ((gt d42 k112).Id)) = false := beq_eq_false_iff_ne.2 h131
            refine ws g132 ?_
            refine ws g132 ?_
            refine ws g132 ?_
            refine wv (vpF g132) ?_
            refine nt' ?_
            refine CM_condF rfl rfl ?_
            refine CM_skip (QM_block_normal (QM_then (CM_region ?_)))
            refine wv (vadN k112 1 (by omega)) ?_
            refine wm (WM_nil ?_)
            refine QM_items (fun W hm => Mem.hide rk120 (hm.pick [1, 0, 2, 3, 4] (by decide))) ?_
            have hn136 := rng_next (R := Bool) (body := F4) (k := k112) (s := ()) (s' := ()) (show k112 < d42.length from by omega) (show impl_IsStore_b4 x0 k16 k41 d42 k112 = Sum.inr () from by unfold impl_IsStore_b4; exact cond_f g132 (rfl)) hF114
            exact QM_round (k112 + 1, (), ()) sl12 (pk [2, 3, 0, 4]) ⟨(by omega), hn136⟩ (rl (by omega))
          ·have g117 : (decide (((k112 : Nat) : Int) < ((d42.length : Nat) : Int))) = false := decide_eq_false (by omega)
           refine CM_condF rfl g117 ?_
           refine CM_exit (QM_then_exit (QM_then_exit ?_))
           have hE137 : R8 (d42.length - 0) 0 () = Sum.inr () := rng_end hl116 hF114
           refine QM_block_hit (QM_then (CM_region (wm ?_)))
           refine wv (fun W hm => rv_loadN (cs := K9) underlying191 type191 rfl rfl (hm.boxCells (n := 1) rfl)) ?_
           refine WM_build (cs := K9) underlying131 type191 rfl (by decide) (by decide) rfl (by kernel_rfl) (Wd_none rfl) (by decide) (fun p138 => ?_)
           refine ap1 (tBor tyVersion w w.heap.size) 191 (.slice A43 d42.length c44) d42 (gt (gt x0.Segments k16) k41) [] [I18, iBox p64 191 K9, I15] K9 (pk [0, 3, 1, 2, 4]) (fun _ _ hs => by cases (Sep.nil hs); exact (els_cons (E := (tBor tyVersion w w.heap.size)) (L1 := []) ⟨rfl, (tyVersion_mk r63)⟩ els_nil)) underlying131 type191 (show (d42.length + 1) * 48 ≤ 140737488355328 from by omega) (fun v139 => ?_)
           refine WM_form (n := 0) rfl ?_
           rintro A140 c141 rfl m142
           refine wa (WM_nil (QM_block_normal (QM_then (CM_region ?_))))
           refine wv (vadN k41 1 (by omega)) ?_
           refine wm (WM_nil ?_)
           have hn144 := rng_next (R := Bool) (body := F2) (k := k41) (s := d42) (s' := (d42 ++ [(gt (gt x0.Segments k16) k41)])) (show k41 < ((gt x0.Segments k16)).length from by omega) (show impl_IsStore_b2 x0 k16 k41 d42 = Sum.inr (d42 ++ [(gt (gt x0.Segments k16) k41)]) from by unfold impl_IsStore_b2; exact cond_t g72 (cond_t g74 (cond_t g76 (cond_t g111 (fin_inr hE137 (rfl)))))) hF46
           exact QM_round (k41 + 1, (d42 ++ [(gt (gt x0.Segments k16) k41)]), (A140, c141)) sl8 (pk [0, 3]) ⟨(by omega), hn144, (show (d42 ++ [(gt (gt x0.Segments k16) k41)]).length ≤ d17.length + (k41 + 1) from by first | omega | (simp only [List.length_append, List.length_cons, List.length_nil] at *; omega))⟩ (show ((gt x0.Segments k16)).length - (k41 + 1) < ((gt x0.Segments k16)).length - k41 from by omega)
         ·
          refine CM_condT rfl (nf g111) ?_
          refine sr (wa (nt' (CM_ret (QM_then_ret (QM_block_ret (QM_then_ret (QM_then_ret (QM_block_ret (QM_block_ret (QM_then_ret (QM_then_ret (QM_block_ret (QM_then_ret ?_)))))))))))))
          exact rtb (h := by unfold impl_IsStore_m; exact cond_t g11 (cond_t g13 (fin_inl (rng_ret (body := F1) (k := k16) (s := d17) (show k16 < x0.Segments.length from by omega) (show impl_IsStore_b1 x0 k16 d17 = Sum.inl false from by unfold impl_IsStore_b1; exact cond_f g40 (fin_inl (rng_ret (body := F2) (k := k41) (s := d42) (show k41 < ((gt x0.Segments k16)).length from by omega) (show impl_IsStore_b2 x0 k16 k41 d42 = Sum.inl false from by unfold impl_IsStore_b2; exact cond_t g72 (cond_t g74 (cond_t g76 (cond_f g111 (rfl))))) hF46) rfl)) hF21) rfl)))
       ·
        refine ws (nf g74) ?_
        refine ws (nf g74) ?_
        refine ws (nf g74) ?_
        refine ws (nf g74) ?_
        refine wu ?_
        refine wu ?_
        refine wu ?_
        refine wu ?_
        refine wu ?_
        refine wu ?_
        refine wu ?_
        refine wu ?_
        refine wu ?_
        refine ws (nf g74) ?_
        refine wv (vpT (nf g74)) ?_
        refine nt' ?_
        refine CM_condT rfl rfl ?_
        refine sr (wa (nt' (CM_ret (QM_then_ret (QM_block_ret (QM_then_ret (QM_then_ret (QM_block_ret (QM_block_ret (QM_then_ret (QM_then_ret (QM_block_ret (QM_then_ret ?_)))))))))))))
        exact rtb (h := by unfold impl_IsStore_m; exact cond_t g11 (cond_t g13 (fin_inl (rng_ret (body := F1) (k := k16) (s := d17) (show k16 < x0.Segments.length from by omega) (show impl_IsStore_b1 x0 k16 d17 = Sum.inl false from by unfold impl_IsStore_b1; exact cond_f g40 (fin_inl (rng_ret (body := F2) (k := k41) (s := d42) (show k41 < ((gt x0.Segments k16)).length from by omega) (show impl_IsStore_b2 x0 k16 k41 d42 = Sum.inl false from by unfold impl_IsStore_b2; exact cond_t g72 (cond_f g74 (rfl))) hF46) rfl)) hF21) rfl)))
      ·
       refine ws (nf g72) ?_
       refine ws (nf g72) ?_
       refine ws (nf g72) ?_
       refine ws (nf g72) ?_
       refine ws (nf g72) ?_
       refine ws (nf g72) ?_
       refine wv (vpT (nf g72)) ?_
       refine wm ?_
       refine wk ?_
       refine wk ?_
       refine wk ?_
       refine wk ?_
       refine wu ?_
       refine wu ?_
       refine wu ?_
       refine wu ?_
       refine wu ?_
       refine wu ?_
       refine wu ?_
       refine wu ?_
       refine wu ?_
       refine wk ?_
       refine wv (vpT rfl) ?_
       refine nt' ?_
       refine CM_condT rfl rfl ?_
       refine sr (wa (nt' (CM_ret (QM_then_ret (QM_block_ret (QM_then_ret (QM_then_ret (QM_block_ret (QM_block_ret (QM_then_ret (QM_then_ret (QM_block_ret (QM_then_ret ?_)))))))))))))
       exact rtb (h := by unfold impl_IsStore_m; exact cond_t g11 (cond_t g13 (fin_inl (rng_ret (body := F1) (k := k16) (s := d17) (show k16 < x0.Segments.length from by omega) (show impl_IsStore_b1 x0 k16 d17 = Sum.inl false from by unfold impl_IsStore_b1; exact cond_f g40 (fin_inl (rng_ret (body := F2) (k := k41) (s := d42) (show k41 < ((gt x0.Segments k16)).length from by omega) (show impl_IsStore_b2 x0 k16 k41 d42 = Sum.inl false from by unfold impl_IsStore_b2; exact cond_f g72 (rfl)) hF46) rfl)) hF21) rfl)))
     ·have g50 : (decide (((k41 : Nat) : Int) < ((((gt x0.Segments k16)).length : Nat) : Int))) = false := decide_eq_false (by omega)
      refine CM_condF rfl g50 ?_
      refine CM_exit (QM_then_exit (QM_then_exit ?_))
      have hE145 : R6 (((gt x0.Segments k16)).length - 0) 0 d17 = Sum.inr d42 := rng_end hl49 hF46
      refine QM_block_hit (QM_block_normal (QM_then (CM_region ?_)))
      refine wv (vadN k16 1 (by omega)) ?_
      refine wm (WM_nil ?_)
      have hn146 := rng_next (R := Bool) (body := F1) (k := k16) (s := d17) (s' := d42) (show k16 < x0.Segments.length from by omega) (show impl_IsStore_b1 x0 k16 d17 = Sum.inr d42 from by unfold impl_IsStore_b1; exact cond_f g40 (fin_inr hE145 (rfl))) hF21
      exact QM_round (k16 + 1, d42, (A43, c44)) sl5 (fun W hm => hm) ⟨(by omega), hn146, (show d42.length ≤ 0 + 4 * (k16 + 1) from by first | omega | (simp only [List.length_append, List.length_cons, List.length_nil] at *; omega))⟩ (rl (by omega))
   ·have g25 : (decide (((k16 : Nat) : Int) < ((x0.Segments.length : Nat) : Int))) = false := decide_eq_false (by omega)
    refine CM_condF rfl g25 ?_
    refine CM_exit (QM_then_exit (QM_then_exit ?_))
    have hE147 : R5 (x0.Segments.length - 0) 0 [] = Sum.inr d17 := rng_end hl24 hF21
    refine QM_block_hit (QM_then (sr (wa (nt' (CM_ret ?_)))))
    exact rtb (h := by unfold impl_IsStore_m; exact cond_t g11 (cond_t g13 (fin_inr hE147 (rfl))))
  ·
   refine CM_condT rfl (nf g13) ?_
   refine sr (wa (nt' (CM_ret (QM_then_ret ?_))))
   exact rtb (h := by unfold impl_IsStore_m; exact cond_t g11 (cond_f g13 (rfl)))
 ·
  refine ws (nf g11) ?_
  refine ws (nf g11) ?_
  refine ws (nf g11) ?_
  refine ws (nf g11) ?_
  refine wv (vpT (nf g11)) ?_
  refine nt' ?_
  refine CM_condT rfl rfl ?_
  refine sr (wa (nt' (CM_ret (QM_then_ret ?_))))
  exact rtb (h := by unfold impl_IsStore_m; exact cond_f g11 (rfl))

def impl_hasInt_b1 (x0 : (List Int)) (x1 : Int) (k6 : Nat) : Bool ⊕ (Unit) :=
 cond ((gt x0 k6) == x1) (Sum.inl true) (Sum.inr ())
def impl_hasInt_m (x0 : (List Int)) (x1 : Int) : Bool :=
 Sum.elim id (fun (s : Unit) => false) (rng (R := Bool) (fun k (_ : Unit) => impl_hasInt_b1 x0 x1 k) (x0.length - 0) 0 ())
theorem cb108 : Cb Tryz.prog 108 := ⟨f108, _, func108, rfl, by decide⟩
theorem impl_hasInt_c (w : World) (z0 : Value) (x0 : (List Int)) (x1 : Int) (r_0 : rdS tInt w w.heap.size z0 x0) :
  Calls Tryz.prog 108 #[z0, .int .i64 x1] w fun e w' => e = .returned (.bool (impl_hasInt_m x0 x1)) ∧ Below w.heap.size w w' := by
 have r5 := r_0
 obtain ⟨m1, A2, c3, rfl, q4⟩ := r_0
 refine ce2 (L := [(0, .slice A2 x0.length c3), (1, .int .i64 x1)]) (N := 17) func108 ?_
 refine sr (wa (nt' (CM_seq (sr (wm ?_)))))
 refine wv (vlen underlying25) ?_
 refine wm (nt' (CM_block ?_))
 let F1 := fun k (_ : Unit) => impl_hasInt_b1 x0 x1 k
 let R2 := rng (R := Bool) F1
 refine CM_loop (σ := Nat × (Unit) × (Unit)) (fun s => [(1, .int .i64 x1), (7, .slice A2 x0.length c3), (8, .int .i64 ((x0.length : Nat) : Int)), (9, .int .i64 ((s.1 : Nat) : Int))]) (fun s => []) (fun s => s.1 ≤ x0.length ∧ R2 (x0.length - s.1) s.1 s.2.1 = R2 (x0.length - 0) 0 ()) (fun s => x0.length - s.1) (0, (), ()) sl4 (fun W hm => hm) ⟨(by omega), rfl⟩ ?_
 rintro ⟨k6, ⟨⟩, ⟨⟩⟩ H9
 obtain ⟨hk7, hF8⟩ : k6 ≤ x0.length ∧ R2 (x0.length - k6) k6 () = R2 (x0.length - 0) 0 () := H9
 show CM Tryz.prog 17 _ _ _ _ [(1, .int .i64 x1), (7, .slice A2 x0.length c3), (8, .int .i64 ((x0.length : Nat) : Int)), (9, .int .i64 ((k6 : Nat) : Int))] []
 refine sr ?_
 refine wv vlss ?_
 refine nt' (CM_seq ?_)
 by_cases hl10 : k6 < x0.length
 ·have g11 : (decide (((k6 : Nat) : Int) < ((x0.length : Nat) : Int))) = true := decide_eq_true (by omega)
  refine CM_condT rfl g11 ?_
  refine CM_skip (QM_then (CM_seq (CM_block (sr ?_))))
  obtain ⟨a12, rfl, hb13, he14⟩ := q4 (by omega)
  refine wv (vix 1 k6 underlying25 type3) ?_
  refine wv (fun W hm => rv_load underlying3 rfl rfl ((hm.cell0 (show (a12.add (k6 * 1)).block < w.heap.size from by rw [add_block]; exact hb13.1)).trans (rdS_int he14 k6 (by omega)))) ?_
  refine wa (nt' (sr (wm (wm ?_))))
  refine wv (fun W hm => rv_eql rfl rfl) ?_
  refine nt' ?_
  by_cases h15 : (gt x0 k6) = x1
  ·have g16 : ((gt x0 k6) == x1) = true := beq_iff_eq.2 h15
   refine CM_condT rfl g16 ?_
   refine sr (wa (nt' (CM_ret (QM_block_ret (QM_then_ret (QM_then_ret (QM_block_ret (QM_then_ret ?_))))))))
   exact rtb (h := by unfold impl_hasInt_m; exact fin_inl (rng_ret (body := F1) (k := k6) (s := ()) (show k6 < x0.length from by omega) (show impl_hasInt_b1 x0 x1 k6 = Sum.inl true from by unfold impl_hasInt_b1; exact cond_t g16 (rfl)) hF8) rfl)
  ·have g16 : ((gt x0 k6) == x1) = false := beq_eq_false_iff_ne.2 h15
   refine CM_condF rfl g16 ?_
   refine CM_skip (QM_block_normal (QM_then (CM_region ?_)))
   refine wv (vadN k6 1 (by omega)) ?_
   refine wm (WM_nil ?_)
   have hn17 := rng_next (R := Bool) (body := F1) (k := k6) (s := ()) (s' := ()) (show k6 < x0.length from by omega) (show impl_hasInt_b1 x0 x1 k6 = Sum.inr () from by unfold impl_hasInt_b1; exact cond_f g16 (rfl)) hF8
   exact QM_round (k6 + 1, (), ()) sl4 (fun W hm => hm) ⟨(by omega), hn17⟩ (rl (by omega))
 ·have g11 : (decide (((k6 : Nat) : Int) < ((x0.length : Nat) : Int))) = false := decide_eq_false (by omega)
  refine CM_condF rfl g11 ?_
  refine CM_exit (QM_then_exit (QM_then_exit ?_))
  have hE18 : R2 (x0.length - 0) 0 () = Sum.inr () := rng_end hl10 hF8
  refine QM_block_hit (QM_then (sr (wa (nt' (CM_ret ?_)))))
  exact rtb (h := by unfold impl_hasInt_m; exact fin_inr hE18 (rfl))

def impl_isOrder_b1 (x0 : (List Int)) (k6 : Nat) : Bool ⊕ (Unit) :=
 cond (impl_hasInt_m x0 ((k6 : Nat) : Int)) (Sum.inr ()) (Sum.inl false)
def impl_isOrder_m (x0 : (List Int)) : Bool :=
 Sum.elim id (fun (s : Unit) => (((x0.length : Nat) : Int) == 3)) (rng (R := Bool) (fun k (_ : Unit) => impl_isOrder_b1 x0 k) (3 - 0) 0 ())
theorem cb119 : Cb Tryz.prog 119 := ⟨f119, _, func119, rfl, by decide⟩
theorem impl_isOrder_c (w : World) (z0 : Value) (x0 : (List Int)) (r_0 : rdS tInt w w.heap.size z0 x0) :
  Calls Tryz.prog 119 #[z0] w fun e w' => e = .returned (.bool (impl_isOrder_m x0)) ∧ Below w.heap.size w w' := by
 have r5 := r_0
 obtain ⟨m1, A2, c3, rfl, q4⟩ := r_0
 refine ce1 (L := [(0, .slice A2 x0.length c3)]) (N := 15) func119 ?_
 refine sr (wa (nt' (CM_seq (sr (wa (nt' (CM_block ?_)))))))
 let F1 := fun k (_ : Unit) => impl_isOrder_b1 x0 k
 let R2 := rng (R := Bool) F1
 refine CM_loop (σ := Nat × (Unit) × (Unit)) (fun s => [(0, .slice A2 x0.length c3), (3, .int .i64 ((s.1 : Nat) : Int))]) (fun s => []) (fun s => s.1 ≤ 3 ∧ R2 (3 - s.1) s.1 s.2.1 = R2 (3 - 0) 0 ()) (fun s => 3 - s.1) (0, (), ()) sl2 (fun W hm => hm) ⟨(by omega), rfl⟩ ?_
 rintro ⟨k6, ⟨⟩, ⟨⟩⟩ H9
 obtain ⟨hk7, hF8⟩ : k6 ≤ 3 ∧ R2 (3 - k6) k6 () = R2 (3 - 0) 0 () := H9
 show CM Tryz.prog 15 _ _ _ _ [(0, .slice A2 x0.length c3), (3, .int .i64 ((k6 : Nat) : Int))] []
 refine CM_seq (sr (wm ?_))
 refine wv vlss ?_
 refine nt' ?_
 by_cases hl10 : k6 < 3
 ·have g11 : (decide (((k6 : Nat) : Int) < 3)) = true := decide_eq_true (by omega)
  refine CM_condT rfl g11 ?_
  refine CM_skip (QM_then (CM_seq (CM_block (sr (wm (wm ?_))))))
  refine wcv (cl_fn cb108 rfl) (fun W hm => impl_hasInt_c W _ x0 ((k6 : Nat) : Int) (hm.rdS0 r5)) ?_
  refine wv vnot ?_
  refine nt' ?_
  rcases Bool.eq_false_or_eq_true (impl_hasInt_m x0 ((k6 : Nat) : Int)) with g13 | g13
  ·
   refine CM_condF rfl (nt g13) ?_
   refine CM_skip (QM_block_normal (QM_then (CM_region (wm ?_))))
   refine wv (vadN k6 1 (by omega)) ?_
   refine wa (WM_nil ?_)
   have hn14 := rng_next (R := Bool) (body := F1) (k := k6) (s := ()) (s' := ()) (show k6 < 3 from by omega) (show impl_isOrder_b1 x0 k6 = Sum.inr () from by unfold impl_isOrder_b1; exact cond_t g13 (rfl)) hF8
   exact QM_round (k6 + 1, (), ()) sl2 (fun W hm => hm) ⟨(by omega), hn14⟩ (rl (by omega))
  ·
   refine CM_condT rfl (nf g13) ?_
   refine sr (wa (nt' (CM_ret (QM_block_ret (QM_then_ret (QM_then_ret (QM_block_ret (QM_then_ret ?_))))))))
   exact rtb (h := by unfold impl_isOrder_m; exact fin_inl (rng_ret (body := F1) (k := k6) (s := ()) (show k6 < 3 from by omega) (show impl_isOrder_b1 x0 k6 = Sum.inl false from by unfold impl_isOrder_b1; exact cond_f g13 (rfl)) hF8) rfl)
 ·have g11 : (decide (((k6 : Nat) : Int) < 3)) = false := decide_eq_false (by omega)
  refine CM_condF rfl g11 ?_
  refine CM_exit (QM_then_exit (QM_then_exit ?_))
  have hE15 : R2 (3 - 0) 0 () = Sum.inr () := rng_end hl10 hF8
  refine QM_block_hit (QM_then (sr (wm ?_)))
  refine wv (vlen underlying25) ?_
  refine wv (fun W hm => rv_eql rfl rfl) ?_
  refine wa (nt' (CM_ret ?_))
  exact rtb (h := by unfold impl_isOrder_m; exact fin_inr hE15 (rfl))

def impl_isField_m (x0 : Int) : Bool :=
 (impl_within_m x0 0 2)
theorem cb186 : Cb Tryz.prog 186 := ⟨f186, _, func186, rfl, by decide⟩
theorem impl_isField_c (w : World) (x0 : Int) :
  Calls Tryz.prog 186 #[.int .i64 x0] w fun e w' => e = .returned (.bool (impl_isField_m x0)) ∧ Below w.heap.size w w' := by
 refine ce1 (L := [(0, .int .i64 x0)]) (N := 5) func186 ?_
 refine sr (wa (nt' (sr (wm ?_))))
 refine wcv (cl_fn cb118 rfl) (fun W hm => impl_within_c W x0 0 2) ?_
 refine wa (nt' (CM_ret ?_))
 exact rtb (h := by unfold impl_isField_m; exact rfl)

def impl_IsCond_m (x0 : DCond) : Bool :=
 cond (impl_isField_m x0.Field) (cond (decide (0 ≤ x0.Low)) (cond (decide (x0.Low ≤ x0.High)) (decide (x0.High ≤ 99)) false) false) false
theorem cb185 : Cb Tryz.prog 185 := ⟨f185, _, func185, rfl, by decide⟩
theorem impl_IsCond_c (w : World) (z0 : List Value) (x0 : DCond) (r_0 : tyCond.rd w w.heap.size z0 x0) :
  Calls Tryz.prog 185 #[.agg z0.toArray] w fun e w' => e = .returned (.bool (impl_IsCond_m x0)) ∧ Below w.heap.size w w' := by
 obtain rfl := tyCond_rd r_0
 refine ce1 (L := [(0, .agg #[.int .i64 x0.Field, .int .i64 x0.Low, .int .i64 x0.High])]) (N := 23) func185 ?_
 refine sr ?_
 refine WM_box rfl (Wd_none rfl) (by decide) (fun p1 => ?_)
 refine wa (nt' (sr ?_))
 refine wv (vf underlying201 rfl type3) ?_
 refine wv (vl 0 0 underlying3) ?_
 refine wcv (cl_fn cb186 rfl) (fun W hm => impl_isField_c W x0.Field) ?_
 refine wm ?_
 rcases Bool.eq_false_or_eq_true (impl_isField_m x0.Field) with g3 | g3
 ·
  refine wg (vf underlying201 rfl type3) g3 ?_
  refine wg (vl 0 1 underlying3) g3 ?_
  refine wg (fun W hm => rv_geq rfl rfl) g3 ?_
  refine wv (vpT g3) ?_
  refine wm ?_
  by_cases h4 : 0 ≤ x0.Low
  ·have g5 : (decide (0 ≤ x0.Low)) = true := decide_eq_true h4
   refine wg (vf underlying201 rfl type3) g5 ?_
   refine wg (vl 0 1 underlying3) g5 ?_
   refine wg (vf underlying201 rfl type3) g5 ?_
   refine wg (vl 0 2 underlying3) g5 ?_
   refine wg (fun W hm => rv_leq rfl rfl) g5 ?_
   refine wv (vpT g5) ?_
   refine wm ?_
   by_cases h6 : x0.Low ≤ x0.High
   ·have g7 : (decide (x0.Low ≤ x0.High)) = true := decide_eq_true h6
    refine wg (vf underlying201 rfl type3) g7 ?_
    refine wg (vl 0 2 underlying3) g7 ?_
    refine wg (fun W hm => rv_leq rfl rfl) g7 ?_
    refine wv (vpT g7) ?_
    refine wa (nt' (CM_ret ?_))
    exact rtb (h := by unfold impl_IsCond_m; exact cond_t g3 (cond_t g5 (cond_t g7 (rfl))))
   ·have g7 : (decide (x0.Low ≤ x0.High)) = false := decide_eq_false h6
    refine ws g7 ?_
    refine ws g7 ?_
    refine ws g7 ?_
    refine wv (vpF g7) ?_
    refine wa (nt' (CM_ret ?_))
    exact rtb (h := by unfold impl_IsCond_m; exact cond_t g3 (cond_t g5 (cond_f g7 (rfl))))
  ·have g5 : (decide (0 ≤ x0.Low)) = false := decide_eq_false h4
   refine ws g5 ?_
   refine ws g5 ?_
   refine ws g5 ?_
   refine ws g5 ?_
   refine ws g5 ?_
   refine wv (vpF g5) ?_
   refine wm ?_
   refine wk ?_
   refine wk ?_
   refine wk ?_
   refine wv (vpF rfl) ?_
   refine wa (nt' (CM_ret ?_))
   exact rtb (h := by unfold impl_IsCond_m; exact cond_t g3 (cond_f g5 (rfl)))
 ·
  refine ws g3 ?_
  refine ws g3 ?_
  refine ws g3 ?_
  refine wv (vpF g3) ?_
  refine wm ?_
  refine wk ?_
  refine wk ?_
  refine wk ?_
  refine wk ?_
  refine wk ?_
  refine wv (vpF rfl) ?_
  refine wm ?_
  refine wk ?_
  refine wk ?_
  refine wk ?_
  refine wv (vpF rfl) ?_
  refine wa (nt' (CM_ret ?_))
  exact rtb (h := by unfold impl_IsCond_m; exact cond_f g3 (rfl))

def impl_IsQuery_b2 (x0 : DQuery) (k45 : Nat) : Bool ⊕ (Unit) :=
 cond (impl_isField_m (gt x0.Out k45)) (Sum.inr ()) (Sum.inl false)
def impl_IsQuery_b1 (x0 : DQuery) (k22 : Nat) : Bool ⊕ (Unit) :=
 cond (impl_IsCond_m (gt x0.Conds k22)) (cond (decide (0 < ((k22 : Nat) : Int))) (cond (decide (((gt x0.Conds k22).Field) ≤ ((gt x0.Conds (k22 - 1)).Field))) (Sum.inl false) (Sum.inr ())) (Sum.inr ())) (Sum.inl false)
def impl_IsQuery_m (x0 : DQuery) : Bool :=
 cond (impl_within_m x0.Id 0 23) (cond (impl_within_m x0.Tenant 0 3) (cond (decide (3 < ((x0.Conds.length : Nat) : Int))) false (Sum.elim id (fun (s1_ : Unit) => Sum.elim id (fun (s : Unit) => (impl_within_m ((x0.Out.length : Nat) : Int) 1 3)) (rng (R := Bool) (fun k (_ : Unit) => impl_IsQuery_b2 x0 k) (x0.Out.length - 0) 0 ())) (rng (R := Bool) (fun k (_ : Unit) => impl_IsQuery_b1 x0 k) (x0.Conds.length - 0) 0 ()))) false) false
theorem cb121 : Cb Tryz.prog 121 := ⟨f121, _, func121, rfl, by decide⟩
theorem impl_IsQuery_c (w : World) (z0 : List Value) (x0 : DQuery) (r_0 : tyQuery.rd w w.heap.size z0 x0) :
  Calls Tryz.prog 121 #[.agg z0.toArray] w fun e w' => e = .returned (.bool (impl_IsQuery_m x0)) ∧ Below w.heap.size w w' := by
 obtain ⟨v1, v3, rfl, r2, r4⟩ := tyQuery_rd r_0
 have r9 := r2
 obtain ⟨m5, A6, c7, rfl, q8⟩ := r2
 have r14 := r4
 obtain ⟨m10, A11, c12, rfl, q13⟩ := r4
 refine ce1 (L := [(0, .agg #[.int .i64 x0.Id, .int .i64 x0.Tenant, .slice A6 x0.Conds.length c7, .slice A11 x0.Out.length c12])]) (N := 66) func121 ?_
 refine sr ?_
 refine WM_box rfl (Wd_none rfl) (by decide) (fun p15 => ?_)
 refine wa (nt' (CM_seq (sr ?_)))
 refine wv (vf underlying34 rfl type3) ?_
 refine wv (vl 0 0 underlying3) ?_
 refine wcv (cl_fn cb118 rfl) (fun W hm => impl_within_c W x0.Id 0 23) ?_
 refine wv vnot ?_
 refine wm ?_
 rcases Bool.eq_false_or_eq_true (impl_within_m x0.Id 0 23) with g17 | g17
 ·
  have hw := impl_within_fact g17
  refine wg (vf underlying34 rfl type3) (nt g17) ?_
  refine wg (vl 0 1 underlying3) (nt g17) ?_
  refine WM_callV (cl_fn cb118 rfl) (fun W hm => impl_within_c W x0.Tenant 0 3) (Wd_some rfl rfl rfl (bw (nt g17) rfl)) (by decide) ?_
  refine wg vnot (nt g17) ?_
  refine wv (vpF (nt g17)) ?_
  refine wm ?_
  rcases Bool.eq_false_or_eq_true (impl_within_m x0.Tenant 0 3) with g19 | g19
  ·
   have hw := impl_within_fact g19
   refine wg (vf underlying34 rfl type32) (nt g19) ?_
   refine wg (vl 0 2 underlying32) (nt g19) ?_
   refine wg (vlen underlying32) (nt g19) ?_
   refine wg (fun W hm => rv_gtr rfl rfl) (nt g19) ?_
   refine wv (vpF (nt g19)) ?_
   refine nt' ?_
   by_cases h20 : 3 < ((x0.Conds.length : Nat) : Int)
   ·have g21 : (decide (3 < ((x0.Conds.length : Nat) : Int))) = true := decide_eq_true h20
    refine CM_condT rfl g21 ?_
    refine sr (wa (nt' (CM_ret (QM_then_ret ?_))))
    exact rtb (h := by unfold impl_IsQuery_m; exact cond_t g17 (cond_t g19 (cond_t g21 (rfl))))
   ·have g21 : (decide (3 < ((x0.Conds.length : Nat) : Int))) = false := decide_eq_false h20
    refine CM_condF rfl g21 ?_
    refine CM_skip (QM_then (CM_seq (sr ?_)))
    refine wv (vf underlying34 rfl type32) ?_
    refine wv (vl 0 2 underlying32) ?_
    refine wv (vlen underlying32) ?_
    refine wm (nt' (CM_block ?_))
    let F1 := fun k (_ : Unit) => impl_IsQuery_b1 x0 k
    let R3 := rng (R := Bool) F1
    let K5 : List Value := [.int .i64 x0.Id, .int .i64 x0.Tenant, .slice A6 x0.Conds.length c7, .slice A11 x0.Out.length c12]
    refine CM_loop (σ := Nat × (Unit) × (Unit)) (fun s => [(1, .pointer (some (⟨p15, 0, none⟩ : Addr))), (24, .slice A6 x0.Conds.length c7), (25, .int .i64 ((x0.Conds.length : Nat) : Int)), (26, .int .i64 ((s.1 : Nat) : Int))]) (fun s => [iBox p15 34 K5]) (fun s => s.1 ≤ x0.Conds.length ∧ R3 (x0.Conds.length - s.1) s.1 s.2.1 = R3 (x0.Conds.length - 0) 0 ()) (fun s => x0.Conds.length - s.1) (0, (), ()) sl4 (fun W hm => hm) ⟨(by omega), rfl⟩ ?_
    rintro ⟨k22, ⟨⟩, ⟨⟩⟩ H25
    obtain ⟨hk23, hF24⟩ : k22 ≤ x0.Conds.length ∧ R3 (x0.Conds.length - k22) k22 () = R3 (x0.Conds.length - 0) 0 () := H25
    show CM Tryz.prog 66 _ _ _ _ [(1, .pointer (some (⟨p15, 0, none⟩ : Addr))), (24, .slice A6 x0.Conds.length c7), (25, .int .i64 ((x0.Conds.length : Nat) : Int)), (26, .int .i64 ((k22 : Nat) : Int))] [iBox p15 34 K5]
    refine sr ?_
    refine wv vlss ?_
    refine nt' (CM_seq ?_)
    by_cases hl26 : k22 < x0.Conds.length
    ·have g27 : (decide (((k22 : Nat) : Int) < ((x0.Conds.length : Nat) : Int))) = true := decide_eq_true (by omega)
     refine CM_condT rfl g27 ?_
     refine CM_skip (QM_then (CM_seq (CM_block (sr (wm ?_)))))
     obtain ⟨a28, rfl, hb29, he30⟩ := q8 (by omega)
     refine wv (vix 3 k22 underlying32 type201) ?_
     obtain ⟨_, e32, hc31⟩ := he30 k22 _ (gt_some (show k22 < x0.Conds.length from by omega))
     obtain rfl := tyCond_rd e32
     let K6 : List Value := [.int .i64 ((gt x0.Conds k22).Field), .int .i64 ((gt x0.Conds k22).Low), .int .i64 ((gt x0.Conds k22).High)]
     refine wv (fun W hm => rv_loadN (cs := K6) underlying201 type201 rfl rfl (hm.elCells (show (a28.add (k22 * 3)).block < w.heap.size from by rw [add_block]; exact hb29.1) hc31)) ?_
     refine WM_alloc type201 rfl (Wd_none rfl) (by decide) (fun p33 => ?_)
     refine wa ?_
     refine sb 0 K6 [iBox p15 34 [.int .i64 x0.Id, .int .i64 x0.Tenant, .slice (some a28) x0.Conds.length c7, .slice A11 x0.Out.length c12]] (fun W hm => hm) type201 ?_
     refine nt' (CM_seq ?_)
     refine CM_regionD (by kernel_rfl) (by kernel_rfl) ?_
     refine qv (fun W hm => rv_loadN (cs := K6) underlying201 type201 rfl rfl (hm.boxCells (n := 0) rfl)) ?_
     refine QR_callV (cl_fn cb185 rfl) (fun W hm => impl_IsCond_c W _ (gt x0.Conds k22) (tyCond_mk (x := (gt x0.Conds k22)))) (Wd_none rfl) (by decide) ?_
     refine qv vnot ?_
     refine qm ?_
     rcases Bool.eq_false_or_eq_true (impl_IsCond_m (gt x0.Conds k22)) with g35 | g35
     ·
      refine qg vmv (nt g35) ?_
      refine qg (fun W hm => rv_gtr rfl rfl) (nt g35) ?_
      refine qg vmv (nt g35) ?_
      by_cases h36 : 0 < ((k22 : Nat) : Int)
      ·have g37 : (decide (0 < ((k22 : Nat) : Int))) = true := decide_eq_true h36
       refine qg (vf underlying34 rfl type32) g37 ?_
       refine qg (vl 1 2 underlying32) g37 ?_
       refine qg vmv g37 ?_
       refine qg (fun W hm => rv_subN (p := k22) (q := 1) rfl rfl (by omega) (by omega)) g37 ?_
       refine qg (fun W hm => rv_index (sz := 3) (k := k22 - 1) underlying32 type201 rfl rfl rfl (by omega)) g37 ?_
       refine qg (vf underlying201 rfl type3) g37 ?_
       obtain ⟨_, e39, hc38⟩ := he30 (k22 - 1) _ (gt_some (show (k22 - 1) < x0.Conds.length from by omega))
       obtain rfl := tyCond_rd e39
       refine qg (fun W hm => rv_load underlying3 rfl rfl ((hm.cell0 (show ((a28.add ((k22 - 1) * 3)).add 0).block < w.heap.size from by rw [add_block, add_block]; exact hb29.1)).trans (hc38 0 _ rfl))) g37 ?_
       refine qg (vf underlying201 rfl type3) g37 ?_
       refine qg (vl 0 0 underlying3) g37 ?_
       refine qg (fun W hm => rv_geq rfl rfl) g37 ?_
       refine qg (vpT g37) (nt g35) ?_
       refine qv (vpF (nt g35)) ?_
       refine nq' ?_
       by_cases h40 : ((gt x0.Conds k22).Field) ≤ ((gt x0.Conds (k22 - 1)).Field)
       ·have g41 : (decide (((gt x0.Conds k22).Field) ≤ ((gt x0.Conds (k22 - 1)).Field))) = true := decide_eq_true h40
        refine CM_condT rfl g41 ?_
        refine sr (wa (nt' (CM_ret (QM_block_ret (QM_then_ret (QM_then_ret (QM_block_ret (QM_then_ret ?_))))))))
        exact rtb (h := by unfold impl_IsQuery_m; exact cond_t g17 (cond_t g19 (cond_f g21 (fin_inl (rng_ret (body := F1) (k := k22) (s := ()) (show k22 < x0.Conds.length from by omega) (show impl_IsQuery_b1 x0 k22 = Sum.inl false from by unfold impl_IsQuery_b1; exact cond_t g35 (cond_t g37 (cond_t g41 (rfl)))) hF24) rfl))))
       ·have g41 : (decide (((gt x0.Conds k22).Field) ≤ ((gt x0.Conds (k22 - 1)).Field))) = false := decide_eq_false h40
        refine CM_condF rfl g41 ?_
        refine CM_skip (QM_block_normal (QM_then (CM_region ?_)))
        refine wv (vadN k22 1 (by omega)) ?_
        refine wm (WM_nil ?_)
        have hn42 := rng_next (R := Bool) (body := F1) (k := k22) (s := ()) (s' := ()) (show k22 < x0.Conds.length from by omega) (show impl_IsQuery_b1 x0 k22 = Sum.inr () from by unfold impl_IsQuery_b1; exact cond_t g35 (cond_t g37 (cond_f g41 (rfl)))) hF24
        exact QM_round (k22 + 1, (), ()) sl4 (pk [1]) ⟨(by omega), hn42⟩ (rl (by omega))
      ·have g37 : (decide (0 < ((k22 : Nat) : Int))) = false := decide_eq_false h36
       refine qs g37 ?_
       refine qs g37 ?_
       refine qs g37 ?_
       refine qs g37 ?_
       refine qs g37 ?_
       refine qs g37 ?_
       refine qs g37 ?_
       refine qs g37 ?_
       refine qs g37 ?_
       refine qs g37 ?_
       refine qg (vpF g37) (nt g35) ?_
       refine qv (vpF (nt g35)) ?_
       refine nq' ?_
       refine CM_condF rfl rfl ?_
       refine CM_skip (QM_block_normal (QM_then (CM_region ?_)))
       refine wv (vadN k22 1 (by omega)) ?_
       refine wm (WM_nil ?_)
       have hn43 := rng_next (R := Bool) (body := F1) (k := k22) (s := ()) (s' := ()) (show k22 < x0.Conds.length from by omega) (show impl_IsQuery_b1 x0 k22 = Sum.inr () from by unfold impl_IsQuery_b1; exact cond_t g35 (cond_f g37 (rfl))) hF24
       exact QM_round (k22 + 1, (), ()) sl4 (pk [1]) ⟨(by omega), hn43⟩ (rl (by omega))
     ·
      refine qs (nf g35) ?_
      refine qs (nf g35) ?_
      refine qs (nf g35) ?_
      refine qu ?_
      refine qu ?_
      refine qu ?_
      refine qu ?_
      refine qu ?_
      refine qu ?_
      refine qu ?_
      refine qu ?_
      refine qu ?_
      refine qu ?_
      refine qs (nf g35) ?_
      refine qv (vpT (nf g35)) ?_
      refine nq' ?_
      refine CM_condT rfl rfl ?_
      refine sr (wa (nt' (CM_ret (QM_block_ret (QM_then_ret (QM_then_ret (QM_block_ret (QM_then_ret ?_))))))))
      exact rtb (h := by unfold impl_IsQuery_m; exact cond_t g17 (cond_t g19 (cond_f g21 (fin_inl (rng_ret (body := F1) (k := k22) (s := ()) (show k22 < x0.Conds.length from by omega) (show impl_IsQuery_b1 x0 k22 = Sum.inl false from by unfold impl_IsQuery_b1; exact cond_f g35 (rfl)) hF24) rfl))))
    ·have g27 : (decide (((k22 : Nat) : Int) < ((x0.Conds.length : Nat) : Int))) = false := decide_eq_false (by omega)
     refine CM_condF rfl g27 ?_
     refine CM_exit (QM_then_exit (QM_then_exit ?_))
     have hE44 : R3 (x0.Conds.length - 0) 0 () = Sum.inr () := rng_end hl26 hF24
     refine QM_block_hit (QM_then (CM_seq (sr ?_)))
     refine wv (vf underlying34 rfl type25) ?_
     refine wv (vl 0 3 underlying25) ?_
     refine wv (vlen underlying25) ?_
     refine wm (nt' (CM_block ?_))
     let F2 := fun k (_ : Unit) => impl_IsQuery_b2 x0 k
     let R4 := rng (R := Bool) F2
     refine CM_loop (σ := Nat × (Unit) × (Unit)) (fun s => [(1, .pointer (some (⟨p15, 0, none⟩ : Addr))), (52, .slice A11 x0.Out.length c12), (53, .int .i64 ((x0.Out.length : Nat) : Int)), (54, .int .i64 ((s.1 : Nat) : Int))]) (fun s => [iBox p15 34 K5]) (fun s => s.1 ≤ x0.Out.length ∧ R4 (x0.Out.length - s.1) s.1 s.2.1 = R4 (x0.Out.length - 0) 0 ()) (fun s => x0.Out.length - s.1) (0, (), ()) sl4 (fun W hm => hm) ⟨(by omega), rfl⟩ ?_
     rintro ⟨k45, ⟨⟩, ⟨⟩⟩ H48
     obtain ⟨hk46, hF47⟩ : k45 ≤ x0.Out.length ∧ R4 (x0.Out.length - k45) k45 () = R4 (x0.Out.length - 0) 0 () := H48
     show CM Tryz.prog 66 _ _ _ _ [(1, .pointer (some (⟨p15, 0, none⟩ : Addr))), (52, .slice A11 x0.Out.length c12), (53, .int .i64 ((x0.Out.length : Nat) : Int)), (54, .int .i64 ((k45 : Nat) : Int))] [iBox p15 34 K5]
     refine sr ?_
     refine wv vlss ?_
     refine nt' (CM_seq ?_)
     by_cases hl49 : k45 < x0.Out.length
     ·have g50 : (decide (((k45 : Nat) : Int) < ((x0.Out.length : Nat) : Int))) = true := decide_eq_true (by omega)
      refine CM_condT rfl g50 ?_
      refine CM_skip (QM_then (CM_seq (CM_block (sr ?_))))
      obtain ⟨a51, rfl, hb52, he53⟩ := q13 (by omega)
      refine wv (vix 1 k45 underlying25 type3) ?_
      refine wv (fun W hm => rv_load underlying3 rfl rfl ((hm.cell0 (show (a51.add (k45 * 1)).block < w.heap.size from by rw [add_block]; exact hb52.1)).trans (rdS_int he53 k45 (by omega)))) ?_
      refine wa (nt' (sr (wm ?_)))
      refine wcv (cl_fn cb186 rfl) (fun W hm => impl_isField_c W (gt x0.Out k45)) ?_
      refine wv vnot ?_
      refine nt' ?_
      rcases Bool.eq_false_or_eq_true (impl_isField_m (gt x0.Out k45)) with g55 | g55
      ·
       refine CM_condF rfl (nt g55) ?_
       refine CM_skip (QM_block_normal (QM_then (CM_region ?_)))
       refine wv (vadN k45 1 (by omega)) ?_
       refine wm (WM_nil ?_)
       have hn56 := rng_next (R := Bool) (body := F2) (k := k45) (s := ()) (s' := ()) (show k45 < x0.Out.length from by omega) (show impl_IsQuery_b2 x0 k45 = Sum.inr () from by unfold impl_IsQuery_b2; exact cond_t g55 (rfl)) hF47
       exact QM_round (k45 + 1, (), ()) sl4 (fun W hm => hm) ⟨(by omega), hn56⟩ (rl (by omega))
      ·
       refine CM_condT rfl (nf g55) ?_
       refine sr (wa (nt' (CM_ret (QM_block_ret (QM_then_ret (QM_then_ret (QM_block_ret (QM_then_ret ?_))))))))
       exact rtb (h := by unfold impl_IsQuery_m; exact cond_t g17 (cond_t g19 (cond_f g21 (fin_inr hE44 (fin_inl (rng_ret (body := F2) (k := k45) (s := ()) (show k45 < x0.Out.length from by omega) (show impl_IsQuery_b2 x0 k45 = Sum.inl false from by unfold impl_IsQuery_b2; exact cond_f g55 (rfl)) hF47) rfl)))))
     ·have g50 : (decide (((k45 : Nat) : Int) < ((x0.Out.length : Nat) : Int))) = false := decide_eq_false (by omega)
      refine CM_condF rfl g50 ?_
      refine CM_exit (QM_then_exit (QM_then_exit ?_))
      have hE57 : R4 (x0.Out.length - 0) 0 () = Sum.inr () := rng_end hl49 hF47
      refine QM_block_hit (QM_then (sr ?_))
      refine wv (vf underlying34 rfl type25) ?_
      refine wv (vl 0 3 underlying25) ?_
      refine wv (vlen underlying25) ?_
      refine wcv (cl_fn cb118 rfl) (fun W hm => impl_within_c W ((x0.Out.length : Nat) : Int) 1 3) ?_
      refine wa (nt' (CM_ret ?_))
      exact rtb (h := by unfold impl_IsQuery_m; exact cond_t g17 (cond_t g19 (cond_f g21 (fin_inr hE44 (fin_inr hE57 (rfl))))))
  ·
   refine ws (nf g19) ?_
   refine ws (nf g19) ?_
   refine ws (nf g19) ?_
   refine ws (nf g19) ?_
   refine wv (vpT (nf g19)) ?_
   refine nt' ?_
   refine CM_condT rfl rfl ?_
   refine sr (wa (nt' (CM_ret (QM_then_ret ?_))))
   exact rtb (h := by unfold impl_IsQuery_m; exact cond_t g17 (cond_f g19 (rfl)))
 ·
  refine ws (nf g17) ?_
  refine ws (nf g17) ?_
  refine ws (nf g17) ?_
  refine ws (nf g17) ?_
  refine wv (vpT (nf g17)) ?_
  refine wm ?_
  refine wk ?_
  refine wk ?_
  refine wk ?_
  refine wk ?_
  refine wv (vpT rfl) ?_
  refine nt' ?_
  refine CM_condT rfl rfl ?_
  refine sr (wa (nt' (CM_ret (QM_then_ret ?_))))
  exact rtb (h := by unfold impl_IsQuery_m; exact cond_f g17 (rfl))

def impl_allRows_b1 (x0 : (List DRow)) (k6 : Nat) : Bool ⊕ (Unit) :=
 cond (impl_IsRow_m (gt x0 k6)) (Sum.inr ()) (Sum.inl false)
def impl_allRows_m (x0 : (List DRow)) : Bool :=
 Sum.elim id (fun (s : Unit) => true) (rng (R := Bool) (fun k (_ : Unit) => impl_allRows_b1 x0 k) (x0.length - 0) 0 ())
theorem cb187 : Cb Tryz.prog 187 := ⟨f187, _, func187, rfl, by decide⟩
theorem impl_allRows_c (w : World) (z0 : Value) (x0 : (List DRow)) (r_0 : rdS tyRow w w.heap.size z0 x0) :
  Calls Tryz.prog 187 #[z0] w fun e w' => e = .returned (.bool (impl_allRows_m x0)) ∧ Below w.heap.size w w' := by
 have r5 := r_0
 obtain ⟨m1, A2, c3, rfl, q4⟩ := r_0
 refine ce1 (L := [(0, .slice A2 x0.length c3)]) (N := 15) func187 ?_
 refine sr (wa (nt' (CM_seq (sr (wm ?_)))))
 refine wv (vlen underlying35) ?_
 refine wm (nt' (CM_block ?_))
 let F1 := fun k (_ : Unit) => impl_allRows_b1 x0 k
 let R2 := rng (R := Bool) F1
 refine CM_loop (σ := Nat × (Unit) × (Unit)) (fun s => [(5, .slice A2 x0.length c3), (6, .int .i64 ((x0.length : Nat) : Int)), (7, .int .i64 ((s.1 : Nat) : Int))]) (fun s => []) (fun s => s.1 ≤ x0.length ∧ R2 (x0.length - s.1) s.1 s.2.1 = R2 (x0.length - 0) 0 ()) (fun s => x0.length - s.1) (0, (), ()) sl3 (fun W hm => hm) ⟨(by omega), rfl⟩ ?_
 rintro ⟨k6, ⟨⟩, ⟨⟩⟩ H9
 obtain ⟨hk7, hF8⟩ : k6 ≤ x0.length ∧ R2 (x0.length - k6) k6 () = R2 (x0.length - 0) 0 () := H9
 show CM Tryz.prog 15 _ _ _ _ [(5, .slice A2 x0.length c3), (6, .int .i64 ((x0.length : Nat) : Int)), (7, .int .i64 ((k6 : Nat) : Int))] []
 refine sr ?_
 refine wv vlss ?_
 refine nt' (CM_seq ?_)
 by_cases hl10 : k6 < x0.length
 ·have g11 : (decide (((k6 : Nat) : Int) < ((x0.length : Nat) : Int))) = true := decide_eq_true (by omega)
  refine CM_condT rfl g11 ?_
  refine CM_skip (QM_then (CM_seq (CM_block (sr ?_))))
  obtain ⟨a12, rfl, hb13, he14⟩ := q4 (by omega)
  refine wv (vix 2 k6 underlying35 type73) ?_
  obtain ⟨_, e18, hc15⟩ := he14 k6 _ (gt_some (show k6 < x0.length from by omega))
  obtain ⟨v16, rfl, r17⟩ := tyRow_rd e18
  have r23 := r17
  obtain ⟨m19, A20, c21, rfl, q22⟩ := r17
  let K3 : List Value := [.int .i64 ((gt x0 k6).Id), .slice A20 ((gt x0 k6).Values).length c21]
  refine wv (fun W hm => rv_loadN (cs := K3) underlying73 type73 rfl rfl (hm.elCells (show (a12.add (k6 * 2)).block < w.heap.size from by rw [add_block]; exact hb13.1) hc15)) ?_
  refine WM_alloc type73 rfl (Wd_none rfl) (by decide) (fun p24 => ?_)
  refine sb 0 K3 [] (fun W hm => hm) type73 ?_
  refine nt' (sr ?_)
  refine wv (fun W hm => rv_loadN (cs := K3) underlying73 type73 rfl rfl (hm.boxCells (n := 0) rfl)) ?_
  refine wcv (cl_fn cb178 rfl) (fun W hm => impl_IsRow_c W _ (gt x0 k6) (tyRow_mk (x := (gt x0 k6)) (hm.rdS0 r23))) ?_
  refine wv vnot ?_
  refine nt' ?_
  rcases Bool.eq_false_or_eq_true (impl_IsRow_m (gt x0 k6)) with g26 | g26
  ·
   refine CM_condF rfl (nt g26) ?_
   refine CM_skip (QM_block_normal (QM_then (CM_region ?_)))
   refine wv (vadN k6 1 (by omega)) ?_
   refine wm (WM_nil ?_)
   have hn27 := rng_next (R := Bool) (body := F1) (k := k6) (s := ()) (s' := ()) (show k6 < x0.length from by omega) (show impl_allRows_b1 x0 k6 = Sum.inr () from by unfold impl_allRows_b1; exact cond_t g26 (rfl)) hF8
   exact QM_round (k6 + 1, (), ()) sl3 (pk []) ⟨(by omega), hn27⟩ (rl (by omega))
  ·
   refine CM_condT rfl (nf g26) ?_
   refine sr (wa (nt' (CM_ret (QM_block_ret (QM_then_ret (QM_then_ret (QM_block_ret (QM_then_ret ?_))))))))
   exact rtb (h := by unfold impl_allRows_m; exact fin_inl (rng_ret (body := F1) (k := k6) (s := ()) (show k6 < x0.length from by omega) (show impl_allRows_b1 x0 k6 = Sum.inl false from by unfold impl_allRows_b1; exact cond_f g26 (rfl)) hF8) rfl)
 ·have g11 : (decide (((k6 : Nat) : Int) < ((x0.length : Nat) : Int))) = false := decide_eq_false (by omega)
  refine CM_condF rfl g11 ?_
  refine CM_exit (QM_then_exit (QM_then_exit ?_))
  have hE28 : R2 (x0.length - 0) 0 () = Sum.inr () := rng_end hl10 hF8
  refine QM_block_hit (QM_then (sr (wa (nt' (CM_ret ?_)))))
  exact rtb (h := by unfold impl_allRows_m; exact fin_inr hE28 (rfl))

def impl_resultOk_m (x0 : (List DRow)) : Bool :=
 cond (decide (((x0.length : Nat) : Int) ≤ 1000)) (impl_allRows_m x0) false
theorem cb122 : Cb Tryz.prog 122 := ⟨f122, _, func122, rfl, by decide⟩
theorem impl_resultOk_c (w : World) (z0 : Value) (x0 : (List DRow)) (r_0 : rdS tyRow w w.heap.size z0 x0) :
  Calls Tryz.prog 122 #[z0] w fun e w' => e = .returned (.bool (impl_resultOk_m x0)) ∧ Below w.heap.size w w' := by
 have r5 := r_0
 obtain ⟨m1, A2, c3, rfl, q4⟩ := r_0
 refine ce1 (L := [(0, .slice A2 x0.length c3)]) (N := 10) func122 ?_
 refine sr (wa (nt' (sr (wm ?_))))
 refine wv (vlen underlying35) ?_
 refine wv (fun W hm => rv_leq rfl rfl) ?_
 refine wm ?_
 by_cases h6 : ((x0.length : Nat) : Int) ≤ 1000
 ·have g7 : (decide (((x0.length : Nat) : Int) ≤ 1000)) = true := decide_eq_true h6
  refine wg vmv g7 ?_
  refine WM_callV (cl_fn cb187 rfl) (fun W hm => impl_allRows_c W _ x0 (hm.rdS0 r5)) (Wd_some rfl rfl rfl (bw g7 rfl)) (by decide) ?_
  refine wv (vpT g7) ?_
  refine wa (nt' (CM_ret ?_))
  exact rtb (h := by unfold impl_resultOk_m; exact cond_t g7 (rfl))
 ·have g7 : (decide (((x0.length : Nat) : Int) ≤ 1000)) = false := decide_eq_false h6
  refine ws g7 ?_
  refine ws g7 ?_
  refine wv (vpF g7) ?_
  refine wa (nt' (CM_ret ?_))
  exact rtb (h := by unfold impl_resultOk_m; exact cond_f g7 (rfl))

def impl_activeOk_b1 (x0 : DStore) (x1 : DActive) (k38 : Nat) : Bool ⊕ (Unit) :=
 cond (impl_within_m (gt x1.Todo k38) 0 (IntKind.i64.wrap (((x0.Segments.length : Nat) : Int) - 1))) (cond (decide (0 < ((k38 : Nat) : Int))) (cond (decide ((gt x1.Todo k38) ≤ (gt x1.Todo (k38 - 1)))) (Sum.inl false) (Sum.inr ())) (Sum.inr ())) (Sum.inl false)
def impl_activeOk_m (x0 : DStore) (x1 : DActive) : Bool :=
 Sum.elim id (fun (s : Unit) => cond (decide (0 < ((x1.Todo.length : Nat) : Int))) (cond (impl_IsQuery_m x1.Query) (cond (impl_within_m x1.Time 0 x0.Now) (cond (impl_within_m x1.Age 0 100000) (cond (impl_within_m x1.Sent 0 1000) (cond (impl_within_m x1.Cap 0 32) (impl_resultOk_m x1.Rows) false) false) false) false) false) false) (rng (R := Bool) (fun k (_ : Unit) => impl_activeOk_b1 x0 x1 k) (x1.Todo.length - 0) 0 ())
theorem cb120 : Cb Tryz.prog 120 := ⟨f120, _, func120, rfl, by decide⟩
theorem impl_activeOk_c (w : World) (z0 : List Value) (x0 : DStore) (z1 : List Value) (x1 : DActive) (r_0 : tyStore.rd w w.heap.size z0 x0) (r_1 : tyActive.rd w w.heap.size z1 x1) :
  Calls Tryz.prog 120 #[.agg z0.toArray, .agg z1.toArray] w fun e w' => e = .returned (.bool (impl_activeOk_m x0 x1)) ∧ Below w.heap.size w w' := by
 obtain ⟨v1, rfl, r2⟩ := tyStore_rd r_0
 have r7 := r2
 obtain ⟨m3, A4, c5, rfl, q6⟩ := r2
 obtain ⟨v8, v10, v12, v14, rfl, r9, r11, r13, r15⟩ := tyActive_rd r_1
 have r20 := r9
 obtain ⟨m16, A17, c18, rfl, q19⟩ := r9
 have r25 := r11
 obtain ⟨m21, A22, c23, rfl, q24⟩ := r11
 have r30 := r13
 obtain ⟨m26, A27, c28, rfl, q29⟩ := r13
 have r35 := r15
 obtain ⟨m31, A32, c33, rfl, q34⟩ := r15
 refine ce2 (L := [(0, .agg #[.slice A4 x0.Segments.length c5, .int .i64 x0.Now]), (1, .agg #[.int .i64 x1.Query.Id, .int .i64 x1.Query.Tenant, .slice A17 x1.Query.Conds.length c18, .slice A22 x1.Query.Out.length c23, .int .i64 x1.Time, .slice A27 x1.Todo.length c28, .int .i64 x1.Age, .int .i64 x1.Sent, .int .i64 x1.Cap, .slice A32 x1.Rows.length c33])]) (N := 73) func120 ?_
 refine sr ?_
 refine WM_box rfl (Wd_none rfl) (by decide) (fun p36 => ?_)
 refine WM_box rfl (Wd_none rfl) (by decide) (fun p37 => ?_)
 refine wa (nt' (CM_seq (sr ?_)))
 refine wv (vf underlying64 rfl type25) ?_
 refine wv (vl 0 5 underlying25) ?_
 refine wv (vlen underlying25) ?_
 refine wm (nt' (CM_block ?_))
 let F1 := fun k (_ : Unit) => impl_activeOk_b1 x0 x1 k
 let R2 := rng (R := Bool) F1
 let K3 : List Value := [.int .i64 x1.Query.Id, .int .i64 x1.Query.Tenant, .slice A17 x1.Query.Conds.length c18, .slice A22 x1.Query.Out.length c23, .int .i64 x1.Time, .slice A27 x1.Todo.length c28, .int .i64 x1.Age, .int .i64 x1.Sent, .int .i64 x1.Cap, .slice A32 x1.Rows.length c33]
 let I4 : It := iBox p36 42 [.slice A4 x0.Segments.length c5, .int .i64 x0.Now]
 refine CM_loop (σ := Nat × (Unit) × (Unit)) (fun s => [(2, .pointer (some (⟨p36, 0, none⟩ : Addr))), (3, .pointer (some (⟨p37, 0, none⟩ : Addr))), (8, .slice A27 x1.Todo.length c28), (9, .int .i64 ((x1.Todo.length : Nat) : Int)), (10, .int .i64 ((s.1 : Nat) : Int))]) (fun s => [iBox p37 64 K3, I4]) (fun s => s.1 ≤ x1.Todo.length ∧ R2 (x1.Todo.length - s.1) s.1 s.2.1 = R2 (x1.Todo.length - 0) 0 ()) (fun s => x1.Todo.length - s.1) (0, (), ()) sl5 (fun W hm => hm) ⟨(by omega), rfl⟩ ?_
 rintro ⟨k38, ⟨⟩, ⟨⟩⟩ H41
 obtain ⟨hk39, hF40⟩ : k38 ≤ x1.Todo.length ∧ R2 (x1.Todo.length - k38) k38 () = R2 (x1.Todo.length - 0) 0 () := H41
 show CM Tryz.prog 73 _ _ _ _ [(2, .pointer (some (⟨p36, 0, none⟩ : Addr))), (3, .pointer (some (⟨p37, 0, none⟩ : Addr))), (8, .slice A27 x1.Todo.length c28), (9, .int .i64 ((x1.Todo.length : Nat) : Int)), (10, .int .i64 ((k38 : Nat) : Int))] [iBox p37 64 K3, I4]
 refine sr ?_
 refine wv vlss ?_
 refine nt' (CM_seq ?_)
 by_cases hl42 : k38 < x1.Todo.length
 ·have g43 : (decide (((k38 : Nat) : Int) < ((x1.Todo.length : Nat) : Int))) = true := decide_eq_true (by omega)
  refine CM_condT rfl g43 ?_
  refine CM_skip (QM_then (CM_seq (CM_block (sr (wm ?_)))))
  obtain ⟨a44, rfl, hb45, he46⟩ := q29 (by omega)
  refine wv (vix 1 k38 underlying25 type3) ?_
  refine wv (fun W hm => rv_load underlying3 rfl rfl ((hm.cell0 (show (a44.add (k38 * 1)).block < w.heap.size from by rw [add_block]; exact hb45.1)).trans (rdS_int he46 k38 (by omega)))) ?_
  refine wa (wa (nt' (sr (wm ?_))))
  refine wv (vf underlying42 rfl type40) ?_
  refine wv (vl 1 0 underlying40) ?_
  refine wv (vlen underlying40) ?_
  refine wv (fun W hm => rv_sub rfl rfl) ?_
  refine wcv (cl_fn cb118 rfl) (fun W hm => impl_within_c W (gt x1.Todo k38) 0 (IntKind.i64.wrap (((x0.Segments.length : Nat) : Int) - 1))) ?_
  refine wv vnot ?_
  refine wm ?_
  rcases Bool.eq_false_or_eq_true (impl_within_m (gt x1.Todo k38) 0 (IntKind.i64.wrap (((x0.Segments.length : Nat) : Int) - 1))) with g48 | g48
  ·
   have hw := impl_within_fact g48
   rw [wrap_pred (by omega)] at hw
   refine wg vmv (nt g48) ?_
   refine wg (fun W hm => rv_gtr rfl rfl) (nt g48) ?_
   refine wg vmv (nt g48) ?_
   by_cases h49 : 0 < ((k38 : Nat) : Int)
   ·have g50 : (decide (0 < ((k38 : Nat) : Int))) = true := decide_eq_true h49
    refine wg (vf underlying64 rfl type25) g50 ?_
    refine wg (vl 0 5 underlying25) g50 ?_
    refine wg vmv g50 ?_
    refine wg (fun W hm => rv_subN (p := k38) (q := 1) rfl rfl (by omega) (by omega)) g50 ?_
    refine wg (fun W hm => rv_index (sz := 1) (k := k38 - 1) underlying25 type3 rfl rfl rfl (by omega)) g50 ?_
    refine wg (fun W hm => rv_load underlying3 rfl rfl ((hm.cell0 (show (a44.add ((k38 - 1) * 1)).block < w.heap.size from by rw [add_block]; exact hb45.1)).trans (rdS_int he46 (k38 - 1) (by omega)))) g50 ?_
    refine wg vmv g50 ?_
    refine wg (fun W hm => rv_geq rfl rfl) g50 ?_
    refine wg (vpT g50) (nt g48) ?_
    refine wv (vpF (nt g48)) ?_
    refine nt' ?_
    by_cases h51 : (gt x1.Todo k38) ≤ (gt x1.Todo (k38 - 1))
    ·have g52 : (decide ((gt x1.Todo k38) ≤ (gt x1.Todo (k38 - 1)))) = true := decide_eq_true h51
     refine CM_condT rfl g52 ?_
     refine sr (wa (nt' (CM_ret (QM_block_ret (QM_then_ret (QM_then_ret (QM_block_ret (QM_then_ret ?_))))))))
     exact rtb (h := by unfold impl_activeOk_m; exact fin_inl (rng_ret (body := F1) (k := k38) (s := ()) (show k38 < x1.Todo.length from by omega) (show impl_activeOk_b1 x0 x1 k38 = Sum.inl false from by unfold impl_activeOk_b1; exact cond_t g48 (cond_t g50 (cond_t g52 (rfl)))) hF40) rfl)
    ·have g52 : (decide ((gt x1.Todo k38) ≤ (gt x1.Todo (k38 - 1)))) = false := decide_eq_false h51
     refine CM_condF rfl g52 ?_
     refine CM_skip (QM_block_normal (QM_then (CM_region ?_)))
     refine wv (vadN k38 1 (by omega)) ?_
     refine wm (WM_nil ?_)
     have hn53 := rng_next (R := Bool) (body := F1) (k := k38) (s := ()) (s' := ()) (show k38 < x1.Todo.length from by omega) (show impl_activeOk_b1 x0 x1 k38 = Sum.inr () from by unfold impl_activeOk_b1; exact cond_t g48 (cond_t g50 (cond_f g52 (rfl)))) hF40
     exact QM_round (k38 + 1, (), ()) sl5 (fun W hm => hm) ⟨(by omega), hn53⟩ (rl (by omega))
   ·have g50 : (decide (0 < ((k38 : Nat) : Int))) = false := decide_eq_false h49
    refine ws g50 ?_
    refine ws g50 ?_
    refine ws g50 ?_
    refine ws g50 ?_
    refine ws g50 ?_
    refine ws g50 ?_
    refine ws g50 ?_
    refine ws g50 ?_
    refine wg (vpF g50) (nt g48) ?_
    refine wv (vpF (nt g48)) ?_
    refine nt' ?_
    refine CM_condF rfl rfl ?_
    refine CM_skip (QM_block_normal (QM_then (CM_region ?_)))
    refine wv (vadN k38 1 (by omega)) ?_
    refine wm (WM_nil ?_)
    have hn54 := rng_next (R := Bool) (body := F1) (k := k38) (s := ()) (s' := ()) (show k38 < x1.Todo.length from by omega) (show impl_activeOk_b1 x0 x1 k38 = Sum.inr () from by unfold impl_activeOk_b1; exact cond_t g48 (cond_f g50 (rfl))) hF40
    exact QM_round (k38 + 1, (), ()) sl5 (fun W hm => hm) ⟨(by omega), hn54⟩ (rl (by omega))
  ·
   refine ws (nf g48) ?_
   refine ws (nf g48) ?_
   refine ws (nf g48) ?_
   refine wu ?_
   refine wu ?_
   refine wu ?_
   refine wu ?_
   refine wu ?_
   refine wu ?_
   refine wu ?_
   refine wu ?_
   refine ws (nf g48) ?_
   refine wv (vpT (nf g48)) ?_
   refine nt' ?_
   refine CM_condT rfl rfl ?_
   refine sr (wa (nt' (CM_ret (QM_block_ret (QM_then_ret (QM_then_ret (QM_block_ret (QM_then_ret ?_))))))))
   exact rtb (h := by unfold impl_activeOk_m; exact fin_inl (rng_ret (body := F1) (k := k38) (s := ()) (show k38 < x1.Todo.length from by omega) (show impl_activeOk_b1 x0 x1 k38 = Sum.inl false from by unfold impl_activeOk_b1; exact cond_f g48 (rfl)) hF40) rfl)
 ·have g43 : (decide (((k38 : Nat) : Int) < ((x1.Todo.length : Nat) : Int))) = false := decide_eq_false (by omega)
  refine CM_condF rfl g43 ?_
  refine CM_exit (QM_then_exit (QM_then_exit ?_))
  have hE55 : R2 (x1.Todo.length - 0) 0 () = Sum.inr () := rng_end hl42 hF40
  refine QM_block_hit (QM_then (sr ?_))
  refine wv (vf underlying64 rfl type25) ?_
  refine wv (vl 0 5 underlying25) ?_
  refine wv (vlen underlying25) ?_
  refine wv (fun W hm => rv_gtr rfl rfl) ?_
  refine wm ?_
  by_cases h56 : 0 < ((x1.Todo.length : Nat) : Int)
  ·have g57 : (decide (0 < ((x1.Todo.length : Nat) : Int))) = true := decide_eq_true h56
   refine wg (vf underlying64 rfl type34) g57 ?_
   refine wg (fun W hm => rv_loadN (cs := [.int .i64 x1.Query.Id, .int .i64 x1.Query.Tenant, .slice A17 x1.Query.Conds.length c18, .slice A22 x1.Query.Out.length c23]) underlying34 type34 rfl rfl (hm.boxPart (n := 0) rfl rfl)) g57 ?_
   refine WM_callV (cl_fn cb121 rfl) (fun W hm => impl_IsQuery_c W _ x1.Query (tyQuery_mk (x := x1.Query) (hm.rdS0 r20) (hm.rdS0 r25))) (Wd_some rfl rfl rfl (bw g57 rfl)) (by decide) ?_
   refine wv (vpT g57) ?_
   refine wm ?_
   rcases Bool.eq_false_or_eq_true (impl_IsQuery_m x1.Query) with g59 | g59
   ·
    refine wg (vf underlying64 rfl type3) g59 ?_
    refine wg (vl 0 4 underlying3) g59 ?_
    refine wg (vf underlying42 rfl type3) g59 ?_
    refine wg (vl 1 1 underlying3) g59 ?_
    refine WM_callV (cl_fn cb118 rfl) (fun W hm => impl_within_c W x1.Time 0 x0.Now) (Wd_some rfl rfl rfl (bw g59 rfl)) (by decide) ?_
    refine wv (vpT g59) ?_
    refine wm ?_
    rcases Bool.eq_false_or_eq_true (impl_within_m x1.Time 0 x0.Now) with g61 | g61
    ·
     have hw := impl_within_fact g61
     refine wg (vf underlying64 rfl type3) g61 ?_
     refine wg (vl 0 6 underlying3) g61 ?_
     refine WM_callV (cl_fn cb118 rfl) (fun W hm => impl_within_c W x1.Age 0 100000) (Wd_some rfl rfl rfl (bw g61 rfl)) (by decide) ?_
     refine wv (vpT g61) ?_
     refine wm ?_
     rcases Bool.eq_false_or_eq_true (impl_within_m x1.Age 0 100000) with g63 | g63
     ·
      have hw := impl_within_fact g63
      refine wg (vf underlying64 rfl type3) g63 ?_
      refine wg (vl 0 7 underlying3) g63 ?_
      refine WM_callV (cl_fn cb118 rfl) (fun W hm => impl_within_c W x1.Sent 0 1000) (Wd_some rfl rfl rfl (bw g63 rfl)) (by decide) ?_
      refine wv (vpT g63) ?_
      refine wm ?_
      rcases Bool.eq_false_or_eq_true (impl_within_m x1.Sent 0 1000) with g65 | g65
      ·
       have hw := impl_within_fact g65
       refine wg (vf underlying64 rfl type3) g65 ?_
       refine wg (vl 0 8 underlying3) g65 ?_
       refine WM_callV (cl_fn cb118 rfl) (fun W hm => impl_within_c W x1.Cap 0 32) (Wd_some rfl rfl rfl (bw g65 rfl)) (by decide) ?_
       refine wv (vpT g65) ?_
       refine wm ?_
       rcases Bool.eq_false_or_eq_true (impl_within_m x1.Cap 0 32) with g67 | g67
       ·
        have hw := impl_within_fact g67
        refine wg (vf underlying64 rfl type35) g67 ?_
        refine wg (vl 0 9 underlying35) g67 ?_
        refine WM_callV (cl_fn cb122 rfl) (fun W hm => impl_resultOk_c W _ x1.Rows (hm.rdS0 r35)) (Wd_some rfl rfl rfl (bw g67 rfl)) (by decide) ?_
        refine wv (vpT g67) ?_
        refine wa (nt' (CM_ret ?_))
        exact rtb (h := by unfold impl_activeOk_m; exact fin_inr hE55 (cond_t g57 (cond_t g59 (cond_t g61 (cond_t g63 (cond_t g65 (cond_t g67 (rfl))))))))
       ·
        refine ws g67 ?_
        refine ws g67 ?_
        refine ws g67 ?_
        refine wv (vpF g67) ?_
        refine wa (nt' (CM_ret ?_))
        exact rtb (h := by unfold impl_activeOk_m; exact fin_inr hE55 (cond_t g57 (cond_t g59 (cond_t g61 (cond_t g63 (cond_t g65 (cond_f g67 (rfl))))))))
      ·
       refine ws g65 ?_
       refine ws g65 ?_
       refine ws g65 ?_
       refine wv (vpF g65) ?_
       refine wm ?_
       refine wk ?_
       refine wk ?_
       refine wk ?_
       refine wv (vpF rfl) ?_
       refine wa (nt' (CM_ret ?_))
       exact rtb (h := by unfold impl_activeOk_m; exact fin_inr hE55 (cond_t g57 (cond_t g59 (cond_t g61 (cond_t g63 (cond_f g65 (rfl)))))))
     ·
      refine ws g63 ?_
      refine ws g63 ?_
      refine ws g63 ?_
      refine wv (vpF g63) ?_
      refine wm ?_
      refine wk ?_
      refine wk ?_
      refine wk ?_
      refine wv (vpF rfl) ?_
      refine wm ?_
      refine wk ?_
      refine wk ?_
      refine wk ?_
      refine wv (vpF rfl) ?_
      refine wa (nt' (CM_ret ?_))
      exact rtb (h := by unfold impl_activeOk_m; exact fin_inr hE55 (cond_t g57 (cond_t g59 (cond_t g61 (cond_f g63 (rfl))))))
    ·
     refine ws g61 ?_
     refine ws g61 ?_
     refine ws g61 ?_
     refine wv (vpF g61) ?_
     refine wm ?_
     refine wk ?_
     refine wk ?_
     refine wk ?_
     refine wv (vpF rfl) ?_
     refine wm ?_
     refine wk ?_
     refine wk ?_
     refine wk ?_
     refine wv (vpF rfl) ?_
     refine wm ?_
     refine wk ?_
     refine wk ?_
     refine wk ?_
     refine wv (vpF rfl) ?_
     refine wa (nt' (CM_ret ?_))
     exact rtb (h := by unfold impl_activeOk_m; exact fin_inr hE55 (cond_t g57 (cond_t g59 (cond_f g61 (rfl)))))
   ·
    refine ws g59 ?_
    refine ws g59 ?_
    refine ws g59 ?_
    refine ws g59 ?_
    refine ws g59 ?_
    refine wv (vpF g59) ?_
    refine wm ?_
    refine wk ?_
    refine wk ?_
    refine wk ?_
    refine wv (vpF rfl) ?_
    refine wm ?_
    refine wk ?_
    refine wk ?_
    refine wk ?_
    refine wv (vpF rfl) ?_
    refine wm ?_
    refine wk ?_
    refine wk ?_
    refine wk ?_
    refine wv (vpF rfl) ?_
    refine wm ?_
    refine wk ?_
    refine wk ?_
    refine wk ?_
    refine wv (vpF rfl) ?_
    refine wa (nt' (CM_ret ?_))
    exact rtb (h := by unfold impl_activeOk_m; exact fin_inr hE55 (cond_t g57 (cond_f g59 (rfl))))
  ·have g57 : (decide (0 < ((x1.Todo.length : Nat) : Int))) = false := decide_eq_false h56
   refine ws g57 ?_
   refine ws g57 ?_
   refine ws g57 ?_
   refine wv (vpF g57) ?_
   refine wm ?_
   refine wk ?_
   refine wk ?_
   refine wk ?_
   refine wk ?_
   refine wk ?_
   refine wv (vpF rfl) ?_
   refine wm ?_
   refine wk ?_
   refine wk ?_
   refine wk ?_
   refine wv (vpF rfl) ?_
   refine wm ?_
   refine wk ?_
   refine wk ?_
   refine wk ?_
   refine wv (vpF rfl) ?_
   refine wm ?_
   refine wk ?_
   refine wk ?_
   refine wk ?_
   refine wv (vpF rfl) ?_
   refine wm ?_
   refine wk ?_
   refine wk ?_
   refine wk ?_
   refine wv (vpF rfl) ?_
   refine wa (nt' (CM_ret ?_))
   exact rtb (h := by unfold impl_activeOk_m; exact fin_inr hE55 (cond_f g57 (rfl)))

def impl_IsSet_b1 (x0 : (List Int)) (k6 : Nat) : Bool ⊕ (Unit) :=
 cond (decide ((gt x0 k6) < 0)) (Sum.inl false) (cond (decide (24 ≤ (gt x0 k6))) (Sum.inl false) (cond (decide (0 < ((k6 : Nat) : Int))) (cond (decide ((gt x0 k6) ≤ (gt x0 (k6 - 1)))) (Sum.inl false) (Sum.inr ())) (Sum.inr ())))
def impl_IsSet_m (x0 : (List Int)) : Bool :=
 Sum.elim id (fun (s : Unit) => true) (rng (R := Bool) (fun k (_ : Unit) => impl_IsSet_b1 x0 k) (x0.length - 0) 0 ())
theorem cb188 : Cb Tryz.prog 188 := ⟨f188, _, func188, rfl, by decide⟩
theorem impl_IsSet_c (w : World) (z0 : Value) (x0 : (List Int)) (r_0 : rdS tInt w w.heap.size z0 x0) :
  Calls Tryz.prog 188 #[z0] w fun e w' => e = .returned (.bool (impl_IsSet_m x0)) ∧ Below w.heap.size w w' := by
 have r5 := r_0
 obtain ⟨m1, A2, c3, rfl, q4⟩ := r_0
 refine ce1 (L := [(0, .slice A2 x0.length c3)]) (N := 32) func188 ?_
 refine sr (wa (nt' (CM_seq (sr (wm ?_)))))
 refine wv (vlen underlying25) ?_
 refine wm (nt' (CM_block ?_))
 let F1 := fun k (_ : Unit) => impl_IsSet_b1 x0 k
 let R2 := rng (R := Bool) F1
 refine CM_loop (σ := Nat × (Unit) × (Unit)) (fun s => [(0, .slice A2 x0.length c3), (5, .slice A2 x0.length c3), (6, .int .i64 ((x0.length : Nat) : Int)), (7, .int .i64 ((s.1 : Nat) : Int))]) (fun s => []) (fun s => s.1 ≤ x0.length ∧ R2 (x0.length - s.1) s.1 s.2.1 = R2 (x0.length - 0) 0 ()) (fun s => x0.length - s.1) (0, (), ()) sl4 (fun W hm => hm) ⟨(by omega), rfl⟩ ?_
 rintro ⟨k6, ⟨⟩, ⟨⟩⟩ H9
 obtain ⟨hk7, hF8⟩ : k6 ≤ x0.length ∧ R2 (x0.length - k6) k6 () = R2 (x0.length - 0) 0 () := H9
 show CM Tryz.prog 32 _ _ _ _ [(0, .slice A2 x0.length c3), (5, .slice A2 x0.length c3), (6, .int .i64 ((x0.length : Nat) : Int)), (7, .int .i64 ((k6 : Nat) : Int))] []
 refine sr ?_
 refine wv vlss ?_
 refine nt' (CM_seq ?_)
 by_cases hl10 : k6 < x0.length
 ·have g11 : (decide (((k6 : Nat) : Int) < ((x0.length : Nat) : Int))) = true := decide_eq_true (by omega)
  refine CM_condT rfl g11 ?_
  refine CM_skip (QM_then (CM_seq (CM_block (sr (wm ?_)))))
  obtain ⟨a12, rfl, hb13, he14⟩ := q4 (by omega)
  refine wv (vix 1 k6 underlying25 type3) ?_
  refine wv (fun W hm => rv_load underlying3 rfl rfl ((hm.cell0 (show (a12.add (k6 * 1)).block < w.heap.size from by rw [add_block]; exact hb13.1)).trans (rdS_int he14 k6 (by omega)))) ?_
  refine wa (wa (nt' (sr (wm ?_))))
  refine wv vlss ?_
  refine wm ?_
  by_cases h15 : (gt x0 k6) < 0
  ·have g16 : (decide ((gt x0 k6) < 0)) = true := decide_eq_true h15
   refine ws g16 ?_
   refine ws g16 ?_
   refine wv (vpT g16) ?_
   refine wm ?_
   refine wk ?_
   refine wk ?_
   refine wk ?_
   refine wu ?_
   refine wu ?_
   refine wu ?_
   refine wu ?_
   refine wu ?_
   refine wu ?_
   refine wu ?_
   refine wk ?_
   refine wv (vpT rfl) ?_
   refine nt' ?_
   refine CM_condT rfl rfl ?_
   refine sr (wa (nt' (CM_ret (QM_block_ret (QM_then_ret (QM_then_ret (QM_block_ret (QM_then_ret ?_))))))))
   exact rtb (h := by unfold impl_IsSet_m; exact fin_inl (rng_ret (body := F1) (k := k6) (s := ()) (show k6 < x0.length from by omega) (show impl_IsSet_b1 x0 k6 = Sum.inl false from by unfold impl_IsSet_b1; exact cond_t g16 (rfl)) hF8) rfl)
  ·have g16 : (decide ((gt x0 k6) < 0)) = false := decide_eq_false h15
   refine wg vmv g16 ?_
   refine wg (fun W hm => rv_geq rfl rfl) g16 ?_
   refine wv (vpF g16) ?_
   refine wm ?_
   by_cases h17 : 24 ≤ (gt x0 k6)
   ·have g18 : (decide (24 ≤ (gt x0 k6))) = true := decide_eq_true h17
    refine ws g18 ?_
    refine ws g18 ?_
    refine ws g18 ?_
    refine wu ?_
    refine wu ?_
    refine wu ?_
    refine wu ?_
    refine wu ?_
    refine wu ?_
    refine wu ?_
    refine ws g18 ?_
    refine wv (vpT g18) ?_
    refine nt' ?_
    refine CM_condT rfl rfl ?_
    refine sr (wa (nt' (CM_ret (QM_block_ret (QM_then_ret (QM_then_ret (QM_block_ret (QM_then_ret ?_))))))))
    exact rtb (h := by unfold impl_IsSet_m; exact fin_inl (rng_ret (body := F1) (k := k6) (s := ()) (show k6 < x0.length from by omega) (show impl_IsSet_b1 x0 k6 = Sum.inl false from by unfold impl_IsSet_b1; exact cond_f g16 (cond_t g18 (rfl))) hF8) rfl)
   ·have g18 : (decide (24 ≤ (gt x0 k6))) = false := decide_eq_false h17
    refine wg vmv g18 ?_
    refine wg (fun W hm => rv_gtr rfl rfl) g18 ?_
    refine wg vmv g18 ?_
    by_cases h19 : 0 < ((k6 : Nat) : Int)
    ·have g20 : (decide (0 < ((k6 : Nat) : Int))) = true := decide_eq_true h19
     refine wg vmv g20 ?_
     refine wg vmv g20 ?_
     refine wg (fun W hm => rv_subN (p := k6) (q := 1) rfl rfl (by omega) (by omega)) g20 ?_
     refine wg (fun W hm => rv_index (sz := 1) (k := k6 - 1) underlying25 type3 rfl rfl rfl (by omega)) g20 ?_
     refine wg (fun W hm => rv_load underlying3 rfl rfl ((hm.cell0 (show (a12.add ((k6 - 1) * 1)).block < w.heap.size from by rw [add_block]; exact hb13.1)).trans (rdS_int he14 (k6 - 1) (by omega)))) g20 ?_
     refine wg vmv g20 ?_
     refine wg (fun W hm => rv_geq rfl rfl) g20 ?_
     refine wg (vpT g20) g18 ?_
     refine wv (vpF g18) ?_
     refine nt' ?_
     by_cases h21 : (gt x0 k6) ≤ (gt x0 (k6 - 1))
     ·have g22 : (decide ((gt x0 k6) ≤ (gt x0 (k6 - 1)))) = true := decide_eq_true h21
      refine CM_condT rfl g22 ?_
      refine sr (wa (nt' (CM_ret (QM_block_ret (QM_then_ret (QM_then_ret (QM_block_ret (QM_then_ret ?_))))))))
      exact rtb (h := by unfold impl_IsSet_m; exact fin_inl (rng_ret (body := F1) (k := k6) (s := ()) (show k6 < x0.length from by omega) (show impl_IsSet_b1 x0 k6 = Sum.inl false from by unfold impl_IsSet_b1; exact cond_f g16 (cond_f g18 (cond_t g20 (cond_t g22 (rfl))))) hF8) rfl)
     ·have g22 : (decide ((gt x0 k6) ≤ (gt x0 (k6 - 1)))) = false := decide_eq_false h21
      refine CM_condF rfl g22 ?_
      refine CM_skip (QM_block_normal (QM_then (CM_region ?_)))
      refine wv (vadN k6 1 (by omega)) ?_
      refine wm (WM_nil ?_)
      have hn23 := rng_next (R := Bool) (body := F1) (k := k6) (s := ()) (s' := ()) (show k6 < x0.length from by omega) (show impl_IsSet_b1 x0 k6 = Sum.inr () from by unfold impl_IsSet_b1; exact cond_f g16 (cond_f g18 (cond_t g20 (cond_f g22 (rfl))))) hF8
      exact QM_round (k6 + 1, (), ()) sl4 (fun W hm => hm) ⟨(by omega), hn23⟩ (rl (by omega))
    ·have g20 : (decide (0 < ((k6 : Nat) : Int))) = false := decide_eq_false h19
     refine ws g20 ?_
     refine ws g20 ?_
     refine ws g20 ?_
     refine ws g20 ?_
     refine ws g20 ?_
     refine ws g20 ?_
     refine ws g20 ?_
     refine wg (vpF g20) g18 ?_
     refine wv (vpF g18) ?_
     refine nt' ?_
     refine CM_condF rfl rfl ?_
     refine CM_skip (QM_block_normal (QM_then (CM_region ?_)))
     refine wv (vadN k6 1 (by omega)) ?_
     refine wm (WM_nil ?_)
     have hn24 := rng_next (R := Bool) (body := F1) (k := k6) (s := ()) (s' := ()) (show k6 < x0.length from by omega) (show impl_IsSet_b1 x0 k6 = Sum.inr () from by unfold impl_IsSet_b1; exact cond_f g16 (cond_f g18 (cond_f g20 (rfl)))) hF8
     exact QM_round (k6 + 1, (), ()) sl4 (fun W hm => hm) ⟨(by omega), hn24⟩ (rl (by omega))
 ·have g11 : (decide (((k6 : Nat) : Int) < ((x0.length : Nat) : Int))) = false := decide_eq_false (by omega)
  refine CM_condF rfl g11 ?_
  refine CM_exit (QM_then_exit (QM_then_exit ?_))
  have hE25 : R2 (x0.length - 0) 0 () = Sum.inr () := rng_end hl10 hF8
  refine QM_block_hit (QM_then (sr (wa (nt' (CM_ret ?_)))))
  exact rtb (h := by unfold impl_IsSet_m; exact fin_inr hE25 (rfl))

def impl_IsCharge_b1 (x0 : DCharge) (k31 : Nat) : Bool ⊕ (Unit) :=
 cond (impl_within_m (gt x0.Tenants k31) 0 3) (cond (impl_within_m (gt x0.Rows k31) 0 x0.Base) (Sum.inr ()) (Sum.inl false)) (Sum.inl false)
def impl_IsCharge_m (x0 : DCharge) : Bool :=
 cond (impl_IsSet_m x0.Ids) (cond (impl_within_m ((x0.Ids.length : Nat) : Int) 1 8) (cond (((x0.Tenants.length : Nat) : Int) != ((x0.Ids.length : Nat) : Int)) false (cond (((x0.Rows.length : Nat) : Int) != ((x0.Ids.length : Nat) : Int)) false (Sum.elim id (fun (s : Unit) => cond (impl_within_m x0.Segment 0 7) (impl_within_m x0.Base 0 4) false) (rng (R := Bool) (fun k (_ : Unit) => impl_IsCharge_b1 x0 k) (x0.Ids.length - 0) 0 ())))) false) false
theorem cb123 : Cb Tryz.prog 123 := ⟨f123, _, func123, rfl, by decide⟩
theorem impl_IsCharge_c (w : World) (z0 : List Value) (x0 : DCharge) (r_0 : tyCharge.rd w w.heap.size z0 x0) :
  Calls Tryz.prog 123 #[.agg z0.toArray] w fun e w' => e = .returned (.bool (impl_IsCharge_m x0)) ∧ Below w.heap.size w w' := by
 obtain ⟨v1, v3, v5, rfl, r2, r4, r6⟩ := tyCharge_rd r_0
 have r11 := r2
 obtain ⟨m7, A8, c9, rfl, q10⟩ := r2
 have r16 := r4
 obtain ⟨m12, A13, c14, rfl, q15⟩ := r4
 have r21 := r6
 obtain ⟨m17, A18, c19, rfl, q20⟩ := r6
 refine ce1 (L := [(0, .agg #[.int .i64 x0.Segment, .int .i64 x0.Base, .slice A8 x0.Ids.length c9, .slice A13 x0.Tenants.length c14, .slice A18 x0.Rows.length c19])]) (N := 64) func123 ?_
 refine sr ?_
 refine WM_box rfl (Wd_none rfl) (by decide) (fun p22 => ?_)
 refine wa (nt' (sr ?_))
 refine wv (vf underlying133 rfl type25) ?_
 refine wv (vl 0 2 underlying25) ?_
 refine wv (vlen underlying25) ?_
 refine wa (nt' (CM_seq (sr ?_)))
 refine wv (vf underlying133 rfl type25) ?_
 refine wv (vl 0 2 underlying25) ?_
 refine wcv (cl_fn cb188 rfl) (fun W hm => impl_IsSet_c W _ x0.Ids (hm.rdS0 r11)) ?_
 refine wv vnot ?_
 refine wm ?_
 rcases Bool.eq_false_or_eq_true (impl_IsSet_m x0.Ids) with g24 | g24
 ·
  refine wg vmv (nt g24) ?_
  refine WM_callV (cl_fn cb118 rfl) (fun W hm => impl_within_c W ((x0.Ids.length : Nat) : Int) 1 8) (Wd_some rfl rfl rfl (bw (nt g24) rfl)) (by decide) ?_
  refine wg vnot (nt g24) ?_
  refine wv (vpF (nt g24)) ?_
  refine wm ?_
  rcases Bool.eq_false_or_eq_true (impl_within_m ((x0.Ids.length : Nat) : Int) 1 8) with g26 | g26
  ·
   have hw := impl_within_fact g26
   refine wg (vf underlying133 rfl type25) (nt g26) ?_
   refine wg (vl 0 3 underlying25) (nt g26) ?_
   refine wg (vlen underlying25) (nt g26) ?_
   refine wg vmv (nt g26) ?_
   refine wg vneq (nt g26) ?_
   refine wv (vpF (nt g26)) ?_
   refine wm ?_
   by_cases h27 : ((x0.Tenants.length : Nat) : Int) = ((x0.Ids.length : Nat) : Int)
   ·have g28 : (((x0.Tenants.length : Nat) : Int) != ((x0.Ids.length : Nat) : Int)) = false := by rw [h27]; exact bne_self_eq_false _
    refine wg (vf underlying133 rfl type25) g28 ?_
    refine wg (vl 0 4 underlying25) g28 ?_
    refine wg (vlen underlying25) g28 ?_
    refine wg vmv g28 ?_
    refine wg vneq g28 ?_
    refine wv (vpF g28) ?_
    refine nt' ?_
    by_cases h29 : ((x0.Rows.length : Nat) : Int) = ((x0.Ids.length : Nat) : Int)
    ·have g30 : (((x0.Rows.length : Nat) : Int) != ((x0.Ids.length : Nat) : Int)) = false := by rw [h29]; exact bne_self_eq_false _
     refine CM_condF rfl g30 ?_
     refine CM_skip (QM_then (CM_seq (sr ?_)))
     refine wv (vf underlying133 rfl type25) ?_
     refine wv (vl 0 2 underlying25) ?_
     refine wv (vlen underlying25) ?_
     refine wm (nt' (CM_block ?_))
     let F1 := fun k (_ : Unit) => impl_IsCharge_b1 x0 k
     let R2 := rng (R := Bool) F1
     let K3 : List Value := [.int .i64 x0.Segment, .int .i64 x0.Base, .slice A8 x0.Ids.length c9, .slice A13 x0.Tenants.length c14, .slice A18 x0.Rows.length c19]
     refine CM_loop (σ := Nat × (Unit) × (Unit)) (fun s => [(1, .pointer (some (⟨p22, 0, none⟩ : Addr))), (33, .int .i64 ((x0.Ids.length : Nat) : Int)), (34, .int .i64 ((s.1 : Nat) : Int))]) (fun s => [iBox p22 133 K3]) (fun s => s.1 ≤ x0.Ids.length ∧ R2 (x0.Ids.length - s.1) s.1 s.2.1 = R2 (x0.Ids.length - 0) 0 ()) (fun s => x0.Ids.length - s.1) (0, (), ()) sl3 (fun W hm => hm) ⟨(by omega), rfl⟩ ?_
     rintro ⟨k31, ⟨⟩, ⟨⟩⟩ H34
     obtain ⟨hk32, hF33⟩ : k31 ≤ x0.Ids.length ∧ R2 (x0.Ids.length - k31) k31 () = R2 (x0.Ids.length - 0) 0 () := H34
     show CM Tryz.prog 64 _ _ _ _ [(1, .pointer (some (⟨p22, 0, none⟩ : Addr))), (33, .int .i64 ((x0.Ids.length : Nat) : Int)), (34, .int .i64 ((k31 : Nat) : Int))] [iBox p22 133 K3]
     refine sr ?_
     refine wv vlss ?_
     refine nt' (CM_seq ?_)
     by_cases hl35 : k31 < x0.Ids.length
     ·have g36 : (decide (((k31 : Nat) : Int) < ((x0.Ids.length : Nat) : Int))) = true := decide_eq_true (by omega)
      refine CM_condT rfl g36 ?_
      refine CM_skip (QM_then (CM_seq (CM_block (sr (wm (wa (nt' (CM_seq ?_))))))))
      refine CM_regionD (by kernel_rfl) (by kernel_rfl) ?_
      refine qv (vf underlying133 rfl type25) ?_
      refine qv (vl 0 3 underlying25) ?_
      refine qm ?_
      obtain ⟨a37, rfl, hb38, he39⟩ := q15 (by omega)
      refine qv (vix 1 k31 underlying25 type3) ?_
      refine qv (fun W hm => rv_load underlying3 rfl rfl ((hm.cell0 (show (a37.add (k31 * 1)).block < w.heap.size from by rw [add_block]; exact hb38.1)).trans (rdS_int he39 k31 (by omega)))) ?_
      refine QR_callV (cl_fn cb118 rfl) (fun W hm => impl_within_c W (gt x0.Tenants k31) 0 3) (Wd_none rfl) (by decide) ?_
      refine qv vnot ?_
      refine qm ?_
      rcases Bool.eq_false_or_eq_true (impl_within_m (gt x0.Tenants k31) 0 3) with g41 | g41
      ·
       have hw := impl_within_fact g41
       refine qg (vf underlying133 rfl type25) (nt g41) ?_
       refine qg (vl 0 4 underlying25) (nt g41) ?_
       refine qg vmv (nt g41) ?_
       obtain ⟨a42, rfl, hb43, he44⟩ := q20 (by omega)
       refine qg (vix 1 k31 underlying25 type3) (nt g41) ?_
       refine qg (fun W hm => rv_load underlying3 rfl rfl ((hm.cell0 (show (a42.add (k31 * 1)).block < w.heap.size from by rw [add_block]; exact hb43.1)).trans (rdS_int he44 k31 (by omega)))) (nt g41) ?_
       refine qg (vf underlying133 rfl type3) (nt g41) ?_
       refine qg (vl 0 1 underlying3) (nt g41) ?_
       refine QR_callV (cl_fn cb118 rfl) (fun W hm => impl_within_c W (gt x0.Rows k31) 0 x0.Base) (Wd_some rfl rfl rfl (bw (nt g41) rfl)) (by decide) ?_
       refine qg vnot (nt g41) ?_
       refine qv (vpF (nt g41)) ?_
       refine nq' ?_
       rcases Bool.eq_false_or_eq_true (impl_within_m (gt x0.Rows k31) 0 x0.Base) with g46 | g46
       ·
        have hw := impl_within_fact g46
        refine CM_condF rfl (nt g46) ?_
        refine CM_skip (QM_block_normal (QM_then (CM_region ?_)))
        refine wv (vadN k31 1 (by omega)) ?_
        refine wm (WM_nil ?_)
        have hn47 := rng_next (R := Bool) (body := F1) (k := k31) (s := ()) (s' := ()) (show k31 < x0.Ids.length from by omega) (show impl_IsCharge_b1 x0 k31 = Sum.inr () from by unfold impl_IsCharge_b1; exact cond_t g41 (cond_t g46 (rfl))) hF33
        exact QM_round (k31 + 1, (), ()) sl3 (fun W hm => hm) ⟨(by omega), hn47⟩ (rl (by omega))
       ·
        refine CM_condT rfl (nf g46) ?_
        refine sr (wa (nt' (CM_ret (QM_block_ret (QM_then_ret (QM_then_ret (QM_block_ret (QM_then_ret ?_))))))))
        exact rtb (h := by unfold impl_IsCharge_m; exact cond_t g24 (cond_t g26 (cond_f g28 (cond_f g30 (fin_inl (rng_ret (body := F1) (k := k31) (s := ()) (show k31 < x0.Ids.length from by omega) (show impl_IsCharge_b1 x0 k31 = Sum.inl false from by unfold impl_IsCharge_b1; exact cond_t g41 (cond_f g46 (rfl))) hF33) rfl)))))
      ·
       refine qs (nf g41) ?_
       refine qs (nf g41) ?_
       refine qs (nf g41) ?_
       refine qs (nf g41) ?_
       refine qs (nf g41) ?_
       refine qs (nf g41) ?_
       refine qs (nf g41) ?_
       refine qs (nf g41) ?_
       refine qs (nf g41) ?_
       refine qv (vpT (nf g41)) ?_
       refine nq' ?_
       refine CM_condT rfl rfl ?_
       refine sr (wa (nt' (CM_ret (QM_block_ret (QM_then_ret (QM_then_ret (QM_block_ret (QM_then_ret ?_))))))))
       exact rtb (h := by unfold impl_IsCharge_m; exact cond_t g24 (cond_t g26 (cond_f g28 (cond_f g30 (fin_inl (rng_ret (body := F1) (k := k31) (s := ()) (show k31 < x0.Ids.length from by omega) (show impl_IsCharge_b1 x0 k31 = Sum.inl false from by unfold impl_IsCharge_b1; exact cond_f g41 (rfl)) hF33) rfl)))))
     ·have g36 : (decide (((k31 : Nat) : Int) < ((x0.Ids.length : Nat) : Int))) = false := decide_eq_false (by omega)
      refine CM_condF rfl g36 ?_
      refine CM_exit (QM_then_exit (QM_then_exit ?_))
      have hE48 : R2 (x0.Ids.length - 0) 0 () = Sum.inr () := rng_end hl35 hF33
      refine QM_block_hit (QM_then (sr ?_))
      refine wv (vf underlying133 rfl type3) ?_
      refine wv (vl 0 0 underlying3) ?_
      refine wcv (cl_fn cb118 rfl) (fun W hm => impl_within_c W x0.Segment 0 7) ?_
      refine wm ?_
      rcases Bool.eq_false_or_eq_true (impl_within_m x0.Segment 0 7) with g50 | g50
      ·
       have hw := impl_within_fact g50
       refine wg (vf underlying133 rfl type3) g50 ?_
       refine wg (vl 0 1 underlying3) g50 ?_
       refine WM_callV (cl_fn cb118 rfl) (fun W hm => impl_within_c W x0.Base 0 4) (Wd_some rfl rfl rfl (bw g50 rfl)) (by decide) ?_
       refine wv (vpT g50) ?_
       refine wa (nt' (CM_ret ?_))
       exact rtb (h := by unfold impl_IsCharge_m; exact cond_t g24 (cond_t g26 (cond_f g28 (cond_f g30 (fin_inr hE48 (cond_t g50 (rfl)))))))
      ·
       refine ws g50 ?_
       refine ws g50 ?_
       refine ws g50 ?_
       refine wv (vpF g50) ?_
       refine wa (nt' (CM_ret ?_))
       exact rtb (h := by unfold impl_IsCharge_m; exact cond_t g24 (cond_t g26 (cond_f g28 (cond_f g30 (fin_inr hE48 (cond_f g50 (rfl)))))))
    ·have g30 : (((x0.Rows.length : Nat) : Int) != ((x0.Ids.length : Nat) : Int)) = true := bne_iff_ne.2 h29
     refine CM_condT rfl g30 ?_
     refine sr (wa (nt' (CM_ret (QM_then_ret ?_))))
     exact rtb (h := by unfold impl_IsCharge_m; exact cond_t g24 (cond_t g26 (cond_f g28 (cond_t g30 (rfl)))))
   ·have g28 : (((x0.Tenants.length : Nat) : Int) != ((x0.Ids.length : Nat) : Int)) = true := bne_iff_ne.2 h27
    refine ws g28 ?_
    refine ws g28 ?_
    refine ws g28 ?_
    refine ws g28 ?_
    refine ws g28 ?_
    refine wv (vpT g28) ?_
    refine nt' ?_
    refine CM_condT rfl rfl ?_
    refine sr (wa (nt' (CM_ret (QM_then_ret ?_))))
    exact rtb (h := by unfold impl_IsCharge_m; exact cond_t g24 (cond_t g26 (cond_t g28 (rfl))))
  ·
   refine ws (nf g26) ?_
   refine ws (nf g26) ?_
   refine ws (nf g26) ?_
   refine ws (nf g26) ?_
   refine ws (nf g26) ?_
   refine wv (vpT (nf g26)) ?_
   refine wm ?_
   refine wk ?_
   refine wk ?_
   refine wk ?_
   refine wk ?_
   refine wk ?_
   refine wv (vpT rfl) ?_
   refine nt' ?_
   refine CM_condT rfl rfl ?_
   refine sr (wa (nt' (CM_ret (QM_then_ret ?_))))
   exact rtb (h := by unfold impl_IsCharge_m; exact cond_t g24 (cond_f g26 (rfl)))
 ·
  refine ws (nf g24) ?_
  refine ws (nf g24) ?_
  refine ws (nf g24) ?_
  refine wv (vpT (nf g24)) ?_
  refine wm ?_
  refine wk ?_
  refine wk ?_
  refine wk ?_
  refine wk ?_
  refine wk ?_
  refine wv (vpT rfl) ?_
  refine wm ?_
  refine wk ?_
  refine wk ?_
  refine wk ?_
  refine wk ?_
  refine wk ?_
  refine wv (vpT rfl) ?_
  refine nt' ?_
  refine CM_condT rfl rfl ?_
  refine sr (wa (nt' (CM_ret (QM_then_ret ?_))))
  exact rtb (h := by unfold impl_IsCharge_m; exact cond_f g24 (rfl))

theorem impl_IsCharge_fact {x : DCharge} (h : impl_IsCharge_m x = true) : 1 ≤ x.Ids.length ∧ x.Tenants.length = x.Ids.length ∧ x.Rows.length = x.Ids.length := by
  unfold impl_IsCharge_m impl_within_m at h
  cases h1 : impl_IsSet_m x.Ids <;> rw [h1] at h
  · cases h
  by_cases h2 : 1 ≤ ((x.Ids.length : Nat) : Int)
  · by_cases h3 : ((x.Tenants.length : Nat) : Int) = ((x.Ids.length : Nat) : Int)
    · by_cases h4 : ((x.Rows.length : Nat) : Int) = ((x.Ids.length : Nat) : Int)
      · omega
      · rw [bne_iff_ne.2 h4] at h
        revert h
        cases decide (1 ≤ ((x.Ids.length : Nat) : Int)) <;> cases decide (((x.Ids.length : Nat) : Int) ≤ 8) <;> cases (((x.Tenants.length : Nat) : Int) != ((x.Ids.length : Nat) : Int)) <;> intro h <;> cases h
    · rw [bne_iff_ne.2 h3] at h
      revert h
      cases decide (1 ≤ ((x.Ids.length : Nat) : Int)) <;> cases decide (((x.Ids.length : Nat) : Int) ≤ 8) <;> intro h <;> cases h
  · rw [decide_eq_false h2] at h
    cases h

def impl_IsEngine_b3 (x0 : DEngine) (k189 : Nat) : Bool ⊕ (Unit) :=
 cond (impl_IsCharge_m (gt x0.Ledger k189)) (Sum.inr ()) (Sum.inl false)
def impl_IsEngine_b2 (x0 : DEngine) (k143 : Nat) : Bool ⊕ (Unit) :=
 cond (impl_IsQuery_m ((gt x0.Done k143).Query)) (cond (impl_within_m ((gt x0.Done k143).Time) 0 x0.Store.Now) (cond (impl_within_m ((gt x0.Done k143).Steps) 0 100000) (cond (impl_resultOk_m ((gt x0.Done k143).Rows)) (Sum.inr ()) (Sum.inl false)) (Sum.inl false)) (Sum.inl false)) (Sum.inl false)
def impl_IsEngine_b1 (x0 : DEngine) (k56 : Nat) : Bool ⊕ (Unit) :=
 cond (impl_activeOk_m x0.Store (gt x0.Active k56)) (cond (decide (0 < ((k56 : Nat) : Int))) (cond (decide (((gt x0.Active k56).Query.Id) ≤ ((gt x0.Active (k56 - 1)).Query.Id))) (Sum.inl false) (Sum.inr ())) (Sum.inr ())) (Sum.inl false)
def impl_IsEngine_m (x0 : DEngine) : Bool :=
 cond (impl_IsStore_m x0.Store) (cond (impl_within_m x0.Cursor 0 (IntKind.i64.wrap (((x0.Store.Segments.length : Nat) : Int) - 1))) (cond (impl_isOrder_m x0.Order) (cond (impl_within_m x0.Steps 0 100000) (cond (decide (8 < ((x0.Active.length : Nat) : Int))) false (cond (decide (1000 < ((x0.Done.length : Nat) : Int))) false (cond (decide (1000 < ((x0.Ledger.length : Nat) : Int))) false (Sum.elim id (fun (s1_ : Unit) => Sum.elim id (fun (s2_ : Unit) => Sum.elim id (fun (s : Unit) => true) (rng (R := Bool) (fun k (_ : Unit) => impl_IsEngine_b3 x0 k) (x0.Ledger.length - 0) 0 ())) (rng (R := Bool) (fun k (_ : Unit) => impl_IsEngine_b2 x0 k) (x0.Done.length - 0) 0 ())) (rng (R := Bool) (fun k (_ : Unit) => impl_IsEngine_b1 x0 k) (x0.Active.length - 0) 0 ()))))) false) false) false) false
theorem cb32 : Cb Tryz.prog 32 := ⟨f32, _, func32, rfl, by decide⟩
theorem impl_IsEngine_c (w : World) (z0 : List Value) (x0 : DEngine) (r_0 : tyEngine.rd w w.heap.size z0 x0) (s_0 : smEngine 68719476736 x0) :
  Calls Tryz.prog 32 #[.agg z0.toArray] w fun e w' => e = .returned (.bool (impl_IsEngine_m x0)) ∧ Below w.heap.size w w' := by
 obtain ⟨v1, v3, v5, v7, v9, rfl, r2, r4, r6, r8, r10⟩ := tyEngine_rd r_0
 have r15 := r2
 obtain ⟨m11, A12, c13, rfl, q14⟩ := r2
 have r20 := r4
 obtain ⟨m16, A17, c18, rfl, q19⟩ := r4
 have r25 := r6
 obtain ⟨m21, A22, c23, rfl, q24⟩ := r6
 have r30 := r8
 obtain ⟨m26, A27, c28, rfl, q29⟩ := r8
 have r35 := r10
 obtain ⟨m31, A32, c33, rfl, q34⟩ := r10
 have l36 : x0.Store.Segments.length ≤ 68719476736 := s_0.1.1
 have l37 : x0.Order.length ≤ 68719476736 := s_0.2.1
 have l38 : x0.Active.length ≤ 68719476736 := s_0.2.2.1.1
 have l39 : x0.Done.length ≤ 68719476736 := s_0.2.2.2.1.1
 have l40 : x0.Ledger.length ≤ 68719476736 := s_0.2.2.2.2.1
 refine ce1 (L := [(0, .agg #[.slice A12 x0.Store.Segments.length c13, .int .i64 x0.Store.Now, .int .i64 x0.Cursor, .slice A17 x0.Order.length c18, .slice A22 x0.Active.length c23, .slice A27 x0.Done.length c28, .slice A32 x0.Ledger.length c33, .int .i64 x0.Steps])]) (N := 128) func32 ?_
 refine sr ?_
 refine WM_box rfl (Wd_none rfl) (by decide) (fun p41 => ?_)
 refine wa (nt' (CM_seq (sr ?_)))
 refine wv (vf underlying47 rfl type42) ?_
 let K7 : List Value := [.slice A12 x0.Store.Segments.length c13, .int .i64 x0.Store.Now]
 refine wv (fun W hm => rv_loadN (cs := K7) underlying42 type42 rfl rfl (hm.boxPart (n := 0) rfl rfl)) ?_
 refine wcv (cl_fn cb117 rfl) (fun W hm => impl_IsStore_c W _ x0.Store (tyStore_mk (x := x0.Store) (hm.rdS0 r15)) s_0.1) ?_
 refine wv vnot ?_
 refine wm ?_
 rcases Bool.eq_false_or_eq_true (impl_IsStore_m x0.Store) with g43 | g43
 ·
  refine wg (vf underlying47 rfl type3) (nt g43) ?_
  refine wg (vl 0 2 underlying3) (nt g43) ?_
  refine wg (vf underlying47 rfl type42) (nt g43) ?_
  refine wg (fun W hm => rv_fieldA (o := 0) underlying42 rfl type40 (by decide) rfl rfl) (nt g43) ?_
  refine wg (vl 0 0 underlying40) (nt g43) ?_
  refine wg (vlen underlying40) (nt g43) ?_
  refine wg (fun W hm => rv_sub rfl rfl) (nt g43) ?_
  refine WM_callV (cl_fn cb118 rfl) (fun W hm => impl_within_c W x0.Cursor 0 (IntKind.i64.wrap (((x0.Store.Segments.length : Nat) : Int) - 1))) (Wd_some rfl rfl rfl (bw (nt g43) rfl)) (by decide) ?_
  refine wg vnot (nt g43) ?_
  refine wv (vpF (nt g43)) ?_
  refine wm ?_
  rcases Bool.eq_false_or_eq_true (impl_within_m x0.Cursor 0 (IntKind.i64.wrap (((x0.Store.Segments.length : Nat) : Int) - 1))) with g45 | g45
  ·
   have hw := impl_within_fact g45
   rw [wrap_pred (by omega)] at hw
   refine wg (vf underlying47 rfl type25) (nt g45) ?_
   refine wg (vl 0 3 underlying25) (nt g45) ?_
   refine WM_callV (cl_fn cb119 rfl) (fun W hm => impl_isOrder_c W _ x0.Order (hm.rdS0 r20)) (Wd_some rfl rfl rfl (bw (nt g45) rfl)) (by decide) ?_
   refine wg vnot (nt g45) ?_
   refine wv (vpF (nt g45)) ?_
   refine wm ?_
   rcases Bool.eq_false_or_eq_true (impl_isOrder_m x0.Order) with g47 | g47
   ·
    refine wg (vf underlying47 rfl type3) (nt g47) ?_
    refine wg (vl 0 7 underlying3) (nt g47) ?_
    refine WM_callV (cl_fn cb118 rfl) (fun W hm => impl_within_c W x0.Steps 0 100000) (Wd_some rfl rfl rfl (bw (nt g47) rfl)) (by decide) ?_
    refine wg vnot (nt g47) ?_
    refine wv (vpF (nt g47)) ?_
    refine nt' ?_
    rcases Bool.eq_false_or_eq_true (impl_within_m x0.Steps 0 100000) with g49 | g49
    ·
     have hw := impl_within_fact g49
     refine CM_condF rfl (nt g49) ?_
     refine CM_skip (QM_then (CM_seq (sr ?_)))
     refine wv (vf underlying47 rfl type43) ?_
     refine wv (vl 0 4 underlying43) ?_
     refine wv (vlen underlying43) ?_
     refine wv (fun W hm => rv_gtr rfl rfl) ?_
     refine wm ?_
     by_cases h50 : 8 < ((x0.Active.length : Nat) : Int)
     ·have g51 : (decide (8 < ((x0.Active.length : Nat) : Int))) = true := decide_eq_true h50
      refine ws g51 ?_
      refine ws g51 ?_
      refine ws g51 ?_
      refine ws g51 ?_
      refine wv (vpT g51) ?_
      refine wm ?_
      refine wk ?_
      refine wk ?_
      refine wk ?_
      refine wk ?_
      refine wv (vpT rfl) ?_
      refine nt' ?_
      refine CM_condT rfl rfl ?_
      refine sr (wa (nt' (CM_ret (QM_then_ret ?_))))
      exact rtb (h := by unfold impl_IsEngine_m; exact cond_t g43 (cond_t g45 (cond_t g47 (cond_t g49 (cond_t g51 (rfl))))))
     ·have g51 : (decide (8 < ((x0.Active.length : Nat) : Int))) = false := decide_eq_false h50
      refine wg (vf underlying47 rfl type44) g51 ?_
      refine wg (vl 0 5 underlying44) g51 ?_
      refine wg (vlen underlying44) g51 ?_
      refine wg (fun W hm => rv_gtr rfl rfl) g51 ?_
      refine wv (vpF g51) ?_
      refine wm ?_
      by_cases h52 : 1000 < ((x0.Done.length : Nat) : Int)
      ·have g53 : (decide (1000 < ((x0.Done.length : Nat) : Int))) = true := decide_eq_true h52
       refine ws g53 ?_
       refine ws g53 ?_
       refine ws g53 ?_
       refine ws g53 ?_
       refine wv (vpT g53) ?_
       refine nt' ?_
       refine CM_condT rfl rfl ?_
       refine sr (wa (nt' (CM_ret (QM_then_ret ?_))))
       exact rtb (h := by unfold impl_IsEngine_m; exact cond_t g43 (cond_t g45 (cond_t g47 (cond_t g49 (cond_f g51 (cond_t g53 (rfl)))))))
      ·have g53 : (decide (1000 < ((x0.Done.length : Nat) : Int))) = false := decide_eq_false h52
       refine wg (vf underlying47 rfl type45) g53 ?_
       refine wg (vl 0 6 underlying45) g53 ?_
       refine wg (vlen underlying45) g53 ?_
       refine wg (fun W hm => rv_gtr rfl rfl) g53 ?_
       refine wv (vpF g53) ?_
       refine nt' ?_
       by_cases h54 : 1000 < ((x0.Ledger.length : Nat) : Int)
       ·have g55 : (decide (1000 < ((x0.Ledger.length : Nat) : Int))) = true := decide_eq_true h54
        refine CM_condT rfl g55 ?_
        refine sr (wa (nt' (CM_ret (QM_then_ret ?_))))
        exact rtb (h := by unfold impl_IsEngine_m; exact cond_t g43 (cond_t g45 (cond_t g47 (cond_t g49 (cond_f g51 (cond_f g53 (cond_t g55 (rfl))))))))
       ·have g55 : (decide (1000 < ((x0.Ledger.length : Nat) : Int))) = false := decide_eq_false h54
        refine CM_condF rfl g55 ?_
        refine CM_skip (QM_then (CM_seq (sr ?_)))
        refine wv (vf underlying47 rfl type43) ?_
        refine wv (vl 0 4 underlying43) ?_
        refine wv (vlen underlying43) ?_
        refine wm (nt' (CM_block ?_))
        let F1 := fun k (_ : Unit) => impl_IsEngine_b1 x0 k
        let R4 := rng (R := Bool) F1
        let K8 : List Value := [.slice A12 x0.Store.Segments.length c13, .int .i64 x0.Store.Now, .int .i64 x0.Cursor, .slice A17 x0.Order.length c18, .slice A22 x0.Active.length c23, .slice A27 x0.Done.length c28, .slice A32 x0.Ledger.length c33, .int .i64 x0.Steps]
        refine CM_loop (σ := Nat × (Unit) × (Unit)) (fun s => [(1, .pointer (some (⟨p41, 0, none⟩ : Addr))), (53, .slice A22 x0.Active.length c23), (54, .int .i64 ((x0.Active.length : Nat) : Int)), (55, .int .i64 ((s.1 : Nat) : Int))]) (fun s => [iBox p41 47 K8]) (fun s => s.1 ≤ x0.Active.length ∧ R4 (x0.Active.length - s.1) s.1 s.2.1 = R4 (x0.Active.length - 0) 0 ()) (fun s => x0.Active.length - s.1) (0, (), ()) sl4 (fun W hm => hm) ⟨(by omega), rfl⟩ ?_
        rintro ⟨k56, ⟨⟩, ⟨⟩⟩ H59
        obtain ⟨hk57, hF58⟩ : k56 ≤ x0.Active.length ∧ R4 (x0.Active.length - k56) k56 () = R4 (x0.Active.length - 0) 0 () := H59
        show CM Tryz.prog 128 _ _ _ _ [(1, .pointer (some (⟨p41, 0, none⟩ : Addr))), (53, .slice A22 x0.Active.length c23), (54, .int .i64 ((x0.Active.length : Nat) : Int)), (55, .int .i64 ((k56 : Nat) : Int))] [iBox p41 47 K8]
        refine sr ?_
        refine wv vlss ?_
        refine nt' (CM_seq ?_)
        by_cases hl60 : k56 < x0.Active.length
        ·have g61 : (decide (((k56 : Nat) : Int) < ((x0.Active.length : Nat) : Int))) = true := decide_eq_true (by omega)
         refine CM_condT rfl g61 ?_
         refine CM_skip (QM_then (CM_seq (CM_block (sr (wm ?_)))))
         obtain ⟨a62, rfl, hb63, he64⟩ := q24 (by omega)
         refine wv (vix 10 k56 underlying43 type64) ?_
         obtain ⟨_, e74, hc65⟩ := he64 k56 _ (gt_some (show k56 < x0.Active.length from by omega))
         obtain ⟨v66, v68, v70, v72, rfl, r67, r69, r71, r73⟩ := tyActive_rd e74
         have l75 : ((gt x0.Active k56).Query.Conds).length ≤ 68719476736 := (s_0.2.2.1.2 _ (gt_mem (show k56 < x0.Active.length from by omega))).1.1
         have l76 : ((gt x0.Active k56).Query.Out).length ≤ 68719476736 := (s_0.2.2.1.2 _ (gt_mem (show k56 < x0.Active.length from by omega))).1.2
         have l77 : ((gt x0.Active k56).Todo).length ≤ 68719476736 := (s_0.2.2.1.2 _ (gt_mem (show k56 < x0.Active.length from by omega))).2.1
         have l78 : ((gt x0.Active k56).Rows).length ≤ 68719476736 := (s_0.2.2.1.2 _ (gt_mem (show k56 < x0.Active.length from by omega))).2.2.1
         have r83 := r67
         obtain ⟨m79, A80, c81, rfl, q82⟩ := r67
         have r88 := r69
         obtain ⟨m84, A85, c86, rfl, q87⟩ := r69
         have r93 := r71
         obtain ⟨m89, A90, c91, rfl, q92⟩ := r71
         have r98 := r73
         obtain ⟨m94, A95, c96, rfl, q97⟩ := r73
         let K9 : List Value := [.int .i64 ((gt x0.Active k56).Query.Id), .int .i64 ((gt x0.Active k56).Query.Tenant), .slice A80 ((gt x0.Active k56).Query.Conds).length c81, .slice A85 ((gt x0.Active k56).Query.Out).length c86, .int .i64 ((gt x0.Active k56).Time), .slice A90 ((gt x0.Active k56).Todo).length c91, .int .i64 ((gt x0.Active k56).Age), .int .i64 ((gt x0.Active k56).Sent), .int .i64 ((gt x0.Active k56).Cap), .slice A95 ((gt x0.Active k56).Rows).length c96]
         refine wv (fun W hm => rv_loadN (cs := K9) underlying64 type64 rfl rfl (hm.elCells (show (a62.add (k56 * 10)).block < w.heap.size from by rw [add_block]; exact hb63.1) hc65)) ?_
         refine WM_alloc type64 rfl (Wd_none rfl) (by decide) (fun p99 => ?_)
         refine wa ?_
         refine sb 0 K9 [iBox p41 47 [.slice A12 x0.Store.Segments.length c13, .int .i64 x0.Store.Now, .int .i64 x0.Cursor, .slice A17 x0.Order.length c18, .slice (some a62) x0.Active.length c23, .slice A27 x0.Done.length c28, .slice A32 x0.Ledger.length c33, .int .i64 x0.Steps]] (fun W hm => hm) type64 ?_
         refine nt' (CM_seq ?_)
         refine CM_regionD (by kernel_rfl) (by kernel_rfl) ?_
         refine qv (vf underlying47 rfl type42) ?_
         refine qv (fun W hm => rv_loadN (cs := K7) underlying42 type42 rfl rfl (hm.boxPart (n := 1) rfl rfl)) ?_
         refine qv (fun W hm => rv_loadN (cs := K9) underlying64 type64 rfl rfl (hm.boxCells (n := 0) rfl)) ?_
         refine QR_callV (cl_fn cb120 rfl) (fun W hm => impl_activeOk_c W _ x0.Store _ (gt x0.Active k56) (tyStore_mk (x := x0.Store) (hm.rdS0 r15)) (tyActive_mk (x := (gt x0.Active k56)) (hm.rdS0 r83) (hm.rdS0 r88) (hm.rdS0 r93) (hm.rdS0 r98))) (Wd_none rfl) (by decide) ?_
         refine qv vnot ?_
         refine qm ?_
         rcases Bool.eq_false_or_eq_true (impl_activeOk_m x0.Store (gt x0.Active k56)) with g101 | g101
         ·
          refine qg vmv (nt g101) ?_
          refine qg (fun W hm => rv_gtr rfl rfl) (nt g101) ?_
          refine qg vmv (nt g101) ?_
          by_cases h102 : 0 < ((k56 : Nat) : Int)
          ·have g103 : (decide (0 < ((k56 : Nat) : Int))) = true := decide_eq_true h102
           refine qg (vf underlying47 rfl type43) g103 ?_
           refine qg (vl 1 4 underlying43) g103 ?_
           refine qg vmv g103 ?_
           refine qg (fun W hm => rv_subN (p := k56) (q := 1) rfl rfl (by omega) (by omega)) g103 ?_
           refine qg (fun W hm => rv_index (sz := 10) (k := k56 - 1) underlying43 type64 rfl rfl rfl (by omega)) g103 ?_
           refine qg (vf underlying64 rfl type34) g103 ?_
           refine qg (fun W hm => rv_fieldA (o := 0) underlying34 rfl type3 (by decide) rfl rfl) g103 ?_
           obtain ⟨_, e113, hc104⟩ := he64 (k56 - 1) _ (gt_some (show (k56 - 1) < x0.Active.length from by omega))
           obtain ⟨v105, v107, v109, v111, rfl, r106, r108, r110, r112⟩ := tyActive_rd e113
           have l114 : ((gt x0.Active (k56 - 1)).Query.Conds).length ≤ 68719476736 := (s_0.2.2.1.2 _ (gt_mem (show (k56 - 1) < x0.Active.length from by omega))).1.1
           have l115 : ((gt x0.Active (k56 - 1)).Query.Out).length ≤ 68719476736 := (s_0.2.2.1.2 _ (gt_mem (show (k56 - 1) < x0.Active.length from by omega))).1.2
           have l116 : ((gt x0.Active (k56 - 1)).Todo).length ≤ 68719476736 := (s_0.2.2.1.2 _ (gt_mem (show (k56 - 1) < x0.Active.length from by omega))).2.1
           have l117 : ((gt x0.Active (k56 - 1)).Rows).length ≤ 68719476736 := (s_0.2.2.1.2 _ (gt_mem (show (k56 - 1) < x0.Active.length from by omega))).2.2.1
           have r122 := r106
           obtain ⟨m118, A119, c120, rfl, q121⟩ := r106
           have r127 := r108
           obtain ⟨m123, A124, c125, rfl, q126⟩ := r108
           have r132 := r110
           obtain ⟨m128, A129, c130, rfl, q131⟩ := r110
           have r137 := r112
           obtain ⟨m133, A134, c135, rfl, q136⟩ := r112
           refine qg (fun W hm => rv_load underlying3 rfl rfl ((hm.cell0 (show ((a62.add ((k56 - 1) * 10)).add 0).block < w.heap.size from by rw [add_block, add_block]; exact hb63.1)).trans (hc104 0 _ rfl))) g103 ?_
           refine qg (vf underlying64 rfl type34) g103 ?_
           refine qg (fun W hm => rv_fieldA (o := 0) underlying34 rfl type3 (by decide) rfl rfl) g103 ?_
           refine qg (vl 0 0 underlying3) g103 ?_
           refine qg (fun W hm => rv_geq rfl rfl) g103 ?_
           refine qg (vpT g103) (nt g101) ?_
           refine qv (vpF (nt g101)) ?_
           refine nq' ?_
           by_cases h138 : ((gt x0.Active k56).Query.Id) ≤ ((gt x0.Active (k56 - 1)).Query.Id)
           ·have g139 : (decide (((gt x0.Active k56).Query.Id) ≤ ((gt x0.Active (k56 - 1)).Query.Id))) = true := decide_eq_true h138
            refine CM_condT rfl g139 ?_
            refine sr (wa (nt' (CM_ret (QM_block_ret (QM_then_ret (QM_then_ret (QM_block_ret (QM_then_ret ?_))))))))
            exact rtb (h := by unfold impl_IsEngine_m; exact cond_t g43 (cond_t g45 (cond_t g47 (cond_t g49 (cond_f g51 (cond_f g53 (cond_f g55 (fin_inl (rng_ret (body := F1) (k := k56) (s := ()) (show k56 < x0.Active.length from by omega) (show impl_IsEngine_b1 x0 k56 = Sum.inl false from by unfold impl_IsEngine_b1; exact cond_t g101 (cond_t g103 (cond_t g139 (rfl)))) hF58) rfl))))))))
           ·have g139 : (decide (((gt x0.Active k56).Query.Id) ≤ ((gt x0.Active (k56 - 1)).Query.Id))) = false := decide_eq_false h138
            refine CM_condF rfl g139 ?_
            refine CM_skip (QM_block_normal (QM_then (CM_region ?_)))
            refine wv (vadN k56 1 (by omega)) ?_
            refine wm (WM_nil ?_)
            have hn140 := rng_next (R := Bool) (body := F1) (k := k56) (s := ()) (s' := ()) (show k56 < x0.Active.length from by omega) (show impl_IsEngine_b1 x0 k56 = Sum.inr () from by unfold impl_IsEngine_b1; exact cond_t g101 (cond_t g103 (cond_f g139 (rfl)))) hF58
            exact QM_round (k56 + 1, (), ()) sl4 (pk [1]) ⟨(by omega), hn140⟩ (rl (by omega))
          ·have g103 : (decide (0 < ((k56 : Nat) : Int))) = false := decide_eq_false h102
           refine qs g103 ?_
           refine qs g103 ?_
           refine qs g103 ?_
           refine qs g103 ?_
           refine qs g103 ?_
           refine qs g103 ?_
           refine qs g103 ?_
           refine qs g103 ?_
           refine qs g103 ?_
           refine qs g103 ?_
           refine qs g103 ?_
           refine qs g103 ?_
           refine qg (vpF g103) (nt g101) ?_
           refine qv (vpF (nt g101)) ?_
           refine nq' ?_
           refine CM_condF rfl rfl ?_
           refine CM_skip (QM_block_normal (QM_then (CM_region ?_)))
           refine wv (vadN k56 1 (by omega)) ?_
           refine wm (WM_nil ?_)
           have hn141 := rng_next (R := Bool) (body := F1) (k := k56) (s := ()) (s' := ()) (show k56 < x0.Active.length from by omega) (show impl_IsEngine_b1 x0 k56 = Sum.inr () from by unfold impl_IsEngine_b1; exact cond_t g101 (cond_f g103 (rfl))) hF58
           exact QM_round (k56 + 1, (), ()) sl4 (pk [1]) ⟨(by omega), hn141⟩ (rl (by omega))
         ·
          refine qs (nf g101) ?_
          refine qs (nf g101) ?_
          refine qs (nf g101) ?_
          refine qu ?_
          refine qu ?_
          refine qu ?_
          refine qu ?_
          refine qu ?_
          refine qu ?_
          refine qu ?_
          refine qu ?_
          refine qu ?_
          refine qu ?_
          refine qu ?_
          refine qu ?_
          refine qs (nf g101) ?_
          refine qv (vpT (nf g101)) ?_
          refine nq' ?_
          refine CM_condT rfl rfl ?_
          refine sr (wa (nt' (CM_ret (QM_block_ret (QM_then_ret (QM_then_ret (QM_block_ret (QM_then_ret ?_))))))))
          exact rtb (h := by unfold impl_IsEngine_m; exact cond_t g43 (cond_t g45 (cond_t g47 (cond_t g49 (cond_f g51 (cond_f g53 (cond_f g55 (fin_inl (rng_ret (body := F1) (k := k56) (s := ()) (show k56 < x0.Active.length from by omega) (show impl_IsEngine_b1 x0 k56 = Sum.inl false from by unfold impl_IsEngine_b1; exact cond_f g101 (rfl)) hF58) rfl))))))))
        ·have g61 : (decide (((k56 : Nat) : Int) < ((x0.Active.length : Nat) : Int))) = false := decide_eq_false (by omega)
         refine CM_condF rfl g61 ?_
         refine CM_exit (QM_then_exit (QM_then_exit ?_))
         have hE142 : R4 (x0.Active.length - 0) 0 () = Sum.inr () := rng_end hl60 hF58
         refine QM_block_hit (QM_then (CM_seq (sr ?_)))
         refine wv (vf underlying47 rfl type44) ?_
         refine wv (vl 0 5 underlying44) ?_
         refine wv (vlen underlying44) ?_
         refine wm (nt' (CM_block ?_))
         let F2 := fun k (_ : Unit) => impl_IsEngine_b2 x0 k
         let R5 := rng (R := Bool) F2
         refine CM_loop (σ := Nat × (Unit) × (Unit)) (fun s => [(1, .pointer (some (⟨p41, 0, none⟩ : Addr))), (85, .slice A27 x0.Done.length c28), (86, .int .i64 ((x0.Done.length : Nat) : Int)), (87, .int .i64 ((s.1 : Nat) : Int))]) (fun s => [iBox p41 47 K8]) (fun s => s.1 ≤ x0.Done.length ∧ R5 (x0.Done.length - s.1) s.1 s.2.1 = R5 (x0.Done.length - 0) 0 ()) (fun s => x0.Done.length - s.1) (0, (), ()) sl4 (fun W hm => hm) ⟨(by omega), rfl⟩ ?_
         rintro ⟨k143, ⟨⟩, ⟨⟩⟩ H146
         obtain ⟨hk144, hF145⟩ : k143 ≤ x0.Done.length ∧ R5 (x0.Done.length - k143) k143 () = R5 (x0.Done.length - 0) 0 () := H146
         show CM Tryz.prog 128 _ _ _ _ [(1, .pointer (some (⟨p41, 0, none⟩ : Addr))), (85, .slice A27 x0.Done.length c28), (86, .int .i64 ((x0.Done.length : Nat) : Int)), (87, .int .i64 ((k143 : Nat) : Int))] [iBox p41 47 K8]
         refine sr ?_
         refine wv vlss ?_
         refine nt' (CM_seq ?_)
         by_cases hl147 : k143 < x0.Done.length
         ·have g148 : (decide (((k143 : Nat) : Int) < ((x0.Done.length : Nat) : Int))) = true := decide_eq_true (by omega)
          refine CM_condT rfl g148 ?_
          refine CM_skip (QM_then (CM_seq (CM_block (sr ?_))))
          obtain ⟨a149, rfl, hb150, he151⟩ := q29 (by omega)
          refine wv (vix 7 k143 underlying44 type37) ?_
          obtain ⟨_, e159, hc152⟩ := he151 k143 _ (gt_some (show k143 < x0.Done.length from by omega))
          obtain ⟨v153, v155, v157, rfl, r154, r156, r158⟩ := tyFinished_rd e159
          have l160 : ((gt x0.Done k143).Query.Conds).length ≤ 68719476736 := (s_0.2.2.2.1.2 _ (gt_mem (show k143 < x0.Done.length from by omega))).1.1
          have l161 : ((gt x0.Done k143).Query.Out).length ≤ 68719476736 := (s_0.2.2.2.1.2 _ (gt_mem (show k143 < x0.Done.length from by omega))).1.2
          have l162 : ((gt x0.Done k143).Rows).length ≤ 68719476736 := (s_0.2.2.2.1.2 _ (gt_mem (show k143 < x0.Done.length from by omega))).2.1
          have r167 := r154
          obtain ⟨m163, A164, c165, rfl, q166⟩ := r154
          have r172 := r156
          obtain ⟨m168, A169, c170, rfl, q171⟩ := r156
          have r177 := r158
          obtain ⟨m173, A174, c175, rfl, q176⟩ := r158
          let K10 : List Value := [.int .i64 ((gt x0.Done k143).Query.Id), .int .i64 ((gt x0.Done k143).Query.Tenant), .slice A164 ((gt x0.Done k143).Query.Conds).length c165, .slice A169 ((gt x0.Done k143).Query.Out).length c170, .int .i64 ((gt x0.Done k143).Time), .int .i64 ((gt x0.Done k143).Steps), .slice A174 ((gt x0.Done k143).Rows).length c175]
          refine wv (fun W hm => rv_loadN (cs := K10) underlying37 type37 rfl rfl (hm.elCells (show (a149.add (k143 * 7)).block < w.heap.size from by rw [add_block]; exact hb150.1) hc152)) ?_
          refine WM_alloc type37 rfl (Wd_none rfl) (by decide) (fun p178 => ?_)
          refine sb 0 K10 [iBox p41 47 [.slice A12 x0.Store.Segments.length c13, .int .i64 x0.Store.Now, .int .i64 x0.Cursor, .slice A17 x0.Order.length c18, .slice A22 x0.Active.length c23, .slice (some a149) x0.Done.length c28, .slice A32 x0.Ledger.length c33, .int .i64 x0.Steps]] (fun W hm => hm) type37 ?_
          refine nt' (sr ?_)
          refine wv (vf underlying37 rfl type34) ?_
          refine wv (fun W hm => rv_loadN (cs := [.int .i64 ((gt x0.Done k143).Query.Id), .int .i64 ((gt x0.Done k143).Query.Tenant), .slice A164 ((gt x0.Done k143).Query.Conds).length c165, .slice A169 ((gt x0.Done k143).Query.Out).length c170]) underlying34 type34 rfl rfl (hm.boxPart (n := 0) rfl rfl)) ?_
          refine wcv (cl_fn cb121 rfl) (fun W hm => impl_IsQuery_c W _ ((gt x0.Done k143).Query) (tyQuery_mk (x := ((gt x0.Done k143).Query)) (hm.rdS0 r167) (hm.rdS0 r172))) ?_
          refine wv vnot ?_
          refine wm ?_
          rcases Bool.eq_false_or_eq_true (impl_IsQuery_m ((gt x0.Done k143).Query)) with g180 | g180
          ·
           refine wg (vf underlying37 rfl type3) (nt g180) ?_
           refine wg (vl 0 4 underlying3) (nt g180) ?_
           refine wg (vf underlying47 rfl type42) (nt g180) ?_
           refine wg (fun W hm => rv_fieldA (o := 1) underlying42 rfl type3 (by decide) rfl rfl) (nt g180) ?_
           refine wg (vl 1 1 underlying3) (nt g180) ?_
           refine WM_callV (cl_fn cb118 rfl) (fun W hm => impl_within_c W ((gt x0.Done k143).Time) 0 x0.Store.Now) (Wd_some rfl rfl rfl (bw (nt g180) rfl)) (by decide) ?_
           refine wg vnot (nt g180) ?_
           refine wv (vpF (nt g180)) ?_
           refine wm ?_
           rcases Bool.eq_false_or_eq_true (impl_within_m ((gt x0.Done k143).Time) 0 x0.Store.Now) with g182 | g182
           ·
            have hw := impl_within_fact g182
            refine wg (vf underlying37 rfl type3) (nt g182) ?_
            refine wg (vl 0 5 underlying3) (nt g182) ?_
            refine WM_callV (cl_fn cb118 rfl) (fun W hm => impl_within_c W ((gt x0.Done k143).Steps) 0 100000) (Wd_some rfl rfl rfl (bw (nt g182) rfl)) (by decide) ?_
            refine wg vnot (nt g182) ?_
            refine wv (vpF (nt g182)) ?_
            refine wm ?_
            rcases Bool.eq_false_or_eq_true (impl_within_m ((gt x0.Done k143).Steps) 0 100000) with g184 | g184
            ·
             have hw := impl_within_fact g184
             refine wg (vf underlying37 rfl type35) (nt g184) ?_
             refine wg (vl 0 6 underlying35) (nt g184) ?_
             refine WM_callV (cl_fn cb122 rfl) (fun W hm => impl_resultOk_c W _ ((gt x0.Done k143).Rows) (hm.rdS0 r177)) (Wd_some rfl rfl rfl (bw (nt g184) rfl)) (by decide) ?_
             refine wg vnot (nt g184) ?_
             refine wv (vpF (nt g184)) ?_
             refine nt' ?_
             rcases Bool.eq_false_or_eq_true (impl_resultOk_m ((gt x0.Done k143).Rows)) with g186 | g186
             ·
              refine CM_condF rfl (nt g186) ?_
              refine CM_skip (QM_block_normal (QM_then (CM_region ?_)))
              refine wv (vadN k143 1 (by omega)) ?_
              refine wm (WM_nil ?_)
              have hn187 := rng_next (R := Bool) (body := F2) (k := k143) (s := ()) (s' := ()) (show k143 < x0.Done.length from by omega) (show impl_IsEngine_b2 x0 k143 = Sum.inr () from by unfold impl_IsEngine_b2; exact cond_t g180 (cond_t g182 (cond_t g184 (cond_t g186 (rfl))))) hF145
              exact QM_round (k143 + 1, (), ()) sl4 (pk [1]) ⟨(by omega), hn187⟩ (rl (by omega))
             ·
              refine CM_condT rfl (nf g186) ?_
              refine sr (wa (nt' (CM_ret (QM_block_ret (QM_then_ret (QM_then_ret (QM_block_ret (QM_then_ret ?_))))))))
              exact rtb (h := by unfold impl_IsEngine_m; exact cond_t g43 (cond_t g45 (cond_t g47 (cond_t g49 (cond_f g51 (cond_f g53 (cond_f g55 (fin_inr hE142 (fin_inl (rng_ret (body := F2) (k := k143) (s := ()) (show k143 < x0.Done.length from by omega) (show impl_IsEngine_b2 x0 k143 = Sum.inl false from by unfold impl_IsEngine_b2; exact cond_t g180 (cond_t g182 (cond_t g184 (cond_f g186 (rfl))))) hF145) rfl)))))))))
            ·
             refine ws (nf g184) ?_
             refine ws (nf g184) ?_
             refine ws (nf g184) ?_
             refine ws (nf g184) ?_
             refine wv (vpT (nf g184)) ?_
             refine nt' ?_
             refine CM_condT rfl rfl ?_
             refine sr (wa (nt' (CM_ret (QM_block_ret (QM_then_ret (QM_then_ret (QM_block_ret (QM_then_ret ?_))))))))
             exact rtb (h := by unfold impl_IsEngine_m; exact cond_t g43 (cond_t g45 (cond_t g47 (cond_t g49 (cond_f g51 (cond_f g53 (cond_f g55 (fin_inr hE142 (fin_inl (rng_ret (body := F2) (k := k143) (s := ()) (show k143 < x0.Done.length from by omega) (show impl_IsEngine_b2 x0 k143 = Sum.inl false from by unfold impl_IsEngine_b2; exact cond_t g180 (cond_t g182 (cond_f g184 (rfl)))) hF145) rfl)))))))))
           ·
            refine ws (nf g182) ?_
            refine ws (nf g182) ?_
            refine ws (nf g182) ?_
            refine ws (nf g182) ?_
            refine wv (vpT (nf g182)) ?_
            refine wm ?_
            refine wk ?_
            refine wk ?_
            refine wk ?_
            refine wk ?_
            refine wv (vpT rfl) ?_
            refine nt' ?_
            refine CM_condT rfl rfl ?_
            refine sr (wa (nt' (CM_ret (QM_block_ret (QM_then_ret (QM_then_ret (QM_block_ret (QM_then_ret ?_))))))))
            exact rtb (h := by unfold impl_IsEngine_m; exact cond_t g43 (cond_t g45 (cond_t g47 (cond_t g49 (cond_f g51 (cond_f g53 (cond_f g55 (fin_inr hE142 (fin_inl (rng_ret (body := F2) (k := k143) (s := ()) (show k143 < x0.Done.length from by omega) (show impl_IsEngine_b2 x0 k143 = Sum.inl false from by unfold impl_IsEngine_b2; exact cond_t g180 (cond_f g182 (rfl))) hF145) rfl)))))))))
          ·
           refine ws (nf g180) ?_
           refine ws (nf g180) ?_
           refine ws (nf g180) ?_
           refine ws (nf g180) ?_
           refine ws (nf g180) ?_
           refine ws (nf g180) ?_
           refine ws (nf g180) ?_
           refine wv (vpT (nf g180)) ?_
           refine wm ?_
           refine wk ?_
           refine wk ?_
           refine wk ?_
           refine wk ?_
           refine wv (vpT rfl) ?_
           refine wm ?_
           refine wk ?_
           refine wk ?_
           refine wk ?_
           refine wk ?_
           refine wv (vpT rfl) ?_
           refine nt' ?_
           refine CM_condT rfl rfl ?_
           refine sr (wa (nt' (CM_ret (QM_block_ret (QM_then_ret (QM_then_ret (QM_block_ret (QM_then_ret ?_))))))))
           exact rtb (h := by unfold impl_IsEngine_m; exact cond_t g43 (cond_t g45 (cond_t g47 (cond_t g49 (cond_f g51 (cond_f g53 (cond_f g55 (fin_inr hE142 (fin_inl (rng_ret (body := F2) (k := k143) (s := ()) (show k143 < x0.Done.length from by omega) (show impl_IsEngine_b2 x0 k143 = Sum.inl false from by unfold impl_IsEngine_b2; exact cond_f g180 (rfl)) hF145) rfl)))))))))
         ·have g148 : (decide (((k143 : Nat) : Int) < ((x0.Done.length : Nat) : Int))) = false := decide_eq_false (by omega)
          refine CM_condF rfl g148 ?_
          refine CM_exit (QM_then_exit (QM_then_exit ?_))
          have hE188 : R5 (x0.Done.length - 0) 0 () = Sum.inr () := rng_end hl147 hF145
          refine QM_block_hit (QM_then (CM_seq (sr ?_)))
          refine wv (vf underlying47 rfl type45) ?_
          refine wv (vl 0 6 underlying45) ?_
          refine wv (vlen underlying45) ?_
          refine wm (nt' (CM_block ?_))
          let F3 := fun k (_ : Unit) => impl_IsEngine_b3 x0 k
          let R6 := rng (R := Bool) F3
          refine CM_loop (σ := Nat × (Unit) × (Unit)) (fun s => [(118, .slice A32 x0.Ledger.length c33), (119, .int .i64 ((x0.Ledger.length : Nat) : Int)), (120, .int .i64 ((s.1 : Nat) : Int))]) (fun s => [iBox p41 47 K8]) (fun s => s.1 ≤ x0.Ledger.length ∧ R6 (x0.Ledger.length - s.1) s.1 s.2.1 = R6 (x0.Ledger.length - 0) 0 ()) (fun s => x0.Ledger.length - s.1) (0, (), ()) sl3 (fun W hm => hm) ⟨(by omega), rfl⟩ ?_
          rintro ⟨k189, ⟨⟩, ⟨⟩⟩ H192
          obtain ⟨hk190, hF191⟩ : k189 ≤ x0.Ledger.length ∧ R6 (x0.Ledger.length - k189) k189 () = R6 (x0.Ledger.length - 0) 0 () := H192
          show CM Tryz.prog 128 _ _ _ _ [(118, .slice A32 x0.Ledger.length c33), (119, .int .i64 ((x0.Ledger.length : Nat) : Int)), (120, .int .i64 ((k189 : Nat) : Int))] [iBox p41 47 K8]
          refine sr ?_
          refine wv vlss ?_
          refine nt' (CM_seq ?_)
          by_cases hl193 : k189 < x0.Ledger.length
          ·have g194 : (decide (((k189 : Nat) : Int) < ((x0.Ledger.length : Nat) : Int))) = true := decide_eq_true (by omega)
           refine CM_condT rfl g194 ?_
           refine CM_skip (QM_then (CM_seq (CM_block (sr ?_))))
           obtain ⟨a195, rfl, hb196, he197⟩ := q34 (by omega)
           refine wv (vix 5 k189 underlying45 type133) ?_
           obtain ⟨_, e205, hc198⟩ := he197 k189 _ (gt_some (show k189 < x0.Ledger.length from by omega))
           obtain ⟨v199, v201, v203, rfl, r200, r202, r204⟩ := tyCharge_rd e205
           have l206 : ((gt x0.Ledger k189).Ids).length ≤ 68719476736 := (s_0.2.2.2.2.2 _ (gt_mem (show k189 < x0.Ledger.length from by omega))).1
           have l207 : ((gt x0.Ledger k189).Tenants).length ≤ 68719476736 := (s_0.2.2.2.2.2 _ (gt_mem (show k189 < x0.Ledger.length from by omega))).2.1
           have l208 : ((gt x0.Ledger k189).Rows).length ≤ 68719476736 := (s_0.2.2.2.2.2 _ (gt_mem (show k189 < x0.Ledger.length from by omega))).2.2
           have r213 := r200
           obtain ⟨m209, A210, c211, rfl, q212⟩ := r200
           have r218 := r202
           obtain ⟨m214, A215, c216, rfl, q217⟩ := r202
           have r223 := r204
           obtain ⟨m219, A220, c221, rfl, q222⟩ := r204
           let K11 : List Value := [.int .i64 ((gt x0.Ledger k189).Segment), .int .i64 ((gt x0.Ledger k189).Base), .slice A210 ((gt x0.Ledger k189).Ids).length c211, .slice A215 ((gt x0.Ledger k189).Tenants).length c216, .slice A220 ((gt x0.Ledger k189).Rows).length c221]
           refine wv (fun W hm => rv_loadN (cs := K11) underlying133 type133 rfl rfl (hm.elCells (show (a195.add (k189 * 5)).block < w.heap.size from by rw [add_block]; exact hb196.1) hc198)) ?_
           refine WM_alloc type133 rfl (Wd_none rfl) (by decide) (fun p224 => ?_)
           refine sb 0 K11 [iBox p41 47 [.slice A12 x0.Store.Segments.length c13, .int .i64 x0.Store.Now, .int .i64 x0.Cursor, .slice A17 x0.Order.length c18, .slice A22 x0.Active.length c23, .slice A27 x0.Done.length c28, .slice (some a195) x0.Ledger.length c33, .int .i64 x0.Steps]] (fun W hm => hm) type133 ?_
           refine nt' (sr ?_)
           refine wv (fun W hm => rv_loadN (cs := K11) underlying133 type133 rfl rfl (hm.boxCells (n := 0) rfl)) ?_
           refine wcv (cl_fn cb123 rfl) (fun W hm => impl_IsCharge_c W _ (gt x0.Ledger k189) (tyCharge_mk (x := (gt x0.Ledger k189)) (hm.rdS0 r213) (hm.rdS0 r218) (hm.rdS0 r223))) ?_
           refine wv vnot ?_
           refine nt' ?_
           rcases Bool.eq_false_or_eq_true (impl_IsCharge_m (gt x0.Ledger k189)) with g226 | g226
           ·
            refine CM_condF rfl (nt g226) ?_
            refine CM_skip (QM_block_normal (QM_then (CM_region ?_)))
            refine wv (vadN k189 1 (by omega)) ?_
            refine wm (WM_nil ?_)
            have hn227 := rng_next (R := Bool) (body := F3) (k := k189) (s := ()) (s' := ()) (show k189 < x0.Ledger.length from by omega) (show impl_IsEngine_b3 x0 k189 = Sum.inr () from by unfold impl_IsEngine_b3; exact cond_t g226 (rfl)) hF191
            exact QM_round (k189 + 1, (), ()) sl3 (pk [1]) ⟨(by omega), hn227⟩ (rl (by omega))
           ·
            refine CM_condT rfl (nf g226) ?_
            refine sr (wa (nt' (CM_ret (QM_block_ret (QM_then_ret (QM_then_ret (QM_block_ret (QM_then_ret ?_))))))))
            exact rtb (h := by unfold impl_IsEngine_m; exact cond_t g43 (cond_t g45 (cond_t g47 (cond_t g49 (cond_f g51 (cond_f g53 (cond_f g55 (fin_inr hE142 (fin_inr hE188 (fin_inl (rng_ret (body := F3) (k := k189) (s := ()) (show k189 < x0.Ledger.length from by omega) (show impl_IsEngine_b3 x0 k189 = Sum.inl false from by unfold impl_IsEngine_b3; exact cond_f g226 (rfl)) hF191) rfl))))))))))
          ·have g194 : (decide (((k189 : Nat) : Int) < ((x0.Ledger.length : Nat) : Int))) = false := decide_eq_false (by omega)
           refine CM_condF rfl g194 ?_
           refine CM_exit (QM_then_exit (QM_then_exit ?_))
           have hE228 : R6 (x0.Ledger.length - 0) 0 () = Sum.inr () := rng_end hl193 hF191
           refine QM_block_hit (QM_then (sr (wa (nt' (CM_ret ?_)))))
           exact rtb (h := by unfold impl_IsEngine_m; exact cond_t g43 (cond_t g45 (cond_t g47 (cond_t g49 (cond_f g51 (cond_f g53 (cond_f g55 (fin_inr hE142 (fin_inr hE188 (fin_inr hE228 (rfl)))))))))))
    ·
     refine CM_condT rfl (nf g49) ?_
     refine sr (wa (nt' (CM_ret (QM_then_ret ?_))))
     exact rtb (h := by unfold impl_IsEngine_m; exact cond_t g43 (cond_t g45 (cond_t g47 (cond_f g49 (rfl)))))
   ·
    refine ws (nf g47) ?_
    refine ws (nf g47) ?_
    refine ws (nf g47) ?_
    refine ws (nf g47) ?_
    refine wv (vpT (nf g47)) ?_
    refine nt' ?_
    refine CM_condT rfl rfl ?_
    refine sr (wa (nt' (CM_ret (QM_then_ret ?_))))
    exact rtb (h := by unfold impl_IsEngine_m; exact cond_t g43 (cond_t g45 (cond_f g47 (rfl))))
  ·
   refine ws (nf g45) ?_
   refine ws (nf g45) ?_
   refine ws (nf g45) ?_
   refine ws (nf g45) ?_
   refine wv (vpT (nf g45)) ?_
   refine wm ?_
   refine wk ?_
   refine wk ?_
   refine wk ?_
   refine wk ?_
   refine wv (vpT rfl) ?_
   refine nt' ?_
   refine CM_condT rfl rfl ?_
   refine sr (wa (nt' (CM_ret (QM_then_ret ?_))))
   exact rtb (h := by unfold impl_IsEngine_m; exact cond_t g43 (cond_f g45 (rfl)))
 ·
  refine ws (nf g43) ?_
  refine ws (nf g43) ?_
  refine ws (nf g43) ?_
  refine ws (nf g43) ?_
  refine ws (nf g43) ?_
  refine ws (nf g43) ?_
  refine ws (nf g43) ?_
  refine ws (nf g43) ?_
  refine ws (nf g43) ?_
  refine wv (vpT (nf g43)) ?_
  refine wm ?_
  refine wk ?_
  refine wk ?_
  refine wk ?_
  refine wk ?_
  refine wv (vpT rfl) ?_
  refine wm ?_
  refine wk ?_
  refine wk ?_
  refine wk ?_
  refine wk ?_
  refine wv (vpT rfl) ?_
  refine nt' ?_
  refine CM_condT rfl rfl ?_
  refine sr (wa (nt' (CM_ret (QM_then_ret ?_))))
  exact rtb (h := by unfold impl_IsEngine_m; exact cond_f g43 (rfl))

def impl_copyQuery_m (x0 : DQuery) : DQuery :=
 x0
theorem cb126 : Cb Tryz.prog 126 := ⟨f126, _, func126, rfl, by decide⟩
theorem impl_copyQuery_c (w : World) (z0 : List Value) (x0 : DQuery) (r_0 : tyQuery.rd w w.heap.size z0 x0) (s_0 : smQuery 68719476736 x0) :
  Calls Tryz.prog 126 #[.agg z0.toArray] w fun e w' => ∃ v : List Value, e = .returned (.agg v.toArray) ∧ Mem w.heap.size w [iOwn tyQuery v (impl_copyQuery_m x0)] w' := by
 obtain ⟨v1, v3, rfl, r2, r4⟩ := tyQuery_rd r_0
 have r9 := r2
 obtain ⟨m5, A6, c7, rfl, q8⟩ := r2
 have r14 := r4
 obtain ⟨m10, A11, c12, rfl, q13⟩ := r4
 have l15 : x0.Conds.length ≤ 68719476736 := s_0.1
 have l16 : x0.Out.length ≤ 68719476736 := s_0.2
 refine ce1 (L := [(0, .agg #[.int .i64 x0.Id, .int .i64 x0.Tenant, .slice A6 x0.Conds.length c7, .slice A11 x0.Out.length c12])]) (N := 13) func126 ?_
 refine sr ?_
 refine WM_box rfl (Wd_none rfl) (by decide) (fun p17 => ?_)
 refine WM_alloc type34 rfl (Wd_none rfl) (by decide) (fun p18 => ?_)
 refine nt' (sr ?_)
 refine WM_build0 (E := tyCond) underlying32 type201 (Wd_none rfl) (by decide) (fun p19 => ?_)
 refine wv (vf underlying34 rfl type32) ?_
 refine wv (vl 2 2 underlying32) ?_
 let K1 : List Value := [.int .i64 0, .int .i64 0, .slice none 0 0, .slice none 0 0]
 refine apR tyCond tyCond 201 (.slice (some ⟨p19, 0, none⟩) 0 0) [] x0.Conds [iBox p18 34 K1, iBox p17 34 [.int .i64 x0.Id, .int .i64 x0.Tenant, .slice A6 x0.Conds.length c7, .slice A11 x0.Out.length c12]] (fun W hm => hm) (fun W hm => src_flat (flat_map (flat_pair flat_int (flat_pair flat_int flat_int))) (hm.rdS0 r9)) underlying32 type201 (show (0 + x0.Conds.length) * 24 ≤ 140737488355328 from by omega) (fun v21 => ?_)
 refine WM_form (n := 0) rfl ?_
 rintro A22 c23 rfl m24
 refine wv (vf underlying34 rfl type32) ?_
 let I3 : It := iOwn (tSl tyCond 201) [.slice A22 x0.Conds.length c23] x0.Conds
 refine sb 2 [.int .i64 x0.Id, .int .i64 x0.Tenant, .slice A22 x0.Conds.length c23, .slice A11 x0.Out.length c12] [I3, iBox p18 34 K1] (pk [2, 0, 1]) type32 ?_
 refine nt' (sr ?_)
 refine wv (vf underlying34 rfl type25) ?_
 refine wv (vl 0 3 underlying25) ?_
 refine wcl (tSl tInt 3) x0.Out (cl_fn cb136 rfl) (fun W hm => impl_copyInts_c2 W _ x0.Out (hm.rdS0 r14) s_0.2) (fun z26 => ?_)
 refine WM_form (n := 0) rfl ?_
 rintro A27 c28 rfl m29
 refine wv (vf underlying34 rfl type25) ?_
 let K2 : List Value := [.int .i64 x0.Id, .int .i64 x0.Tenant, .slice A22 x0.Conds.length c23, .slice A27 x0.Out.length c28]
 let I4 : It := iOwn (tSl tInt 3) [.slice A27 x0.Out.length c28] x0.Out
 refine sb 3 K2 [I4, I3, iBox p18 34 K1] (pk [1, 0, 2, 3]) type25 ?_
 refine nt' (sr ?_)
 refine wv (fun W hm => rv_loadN (cs := K2) underlying34 type34 rfl rfl (hm.boxCells (n := 0) rfl)) ?_
 refine sb 0 K2 [iBox p17 34 K2, I4, I3] (pk [3, 0, 1, 2]) type34 ?_
 refine nt' (CM_ret ?_)
 refine QM_r1 rfl (RR_cell (n := 0) rfl rfl underlying34 type34 rfl) (fun W hm => ⟨K2, ?_, ?_⟩)
 ·first | rw [(show impl_copyQuery_m x0 = x0 from by unfold impl_copyQuery_m; exact rfl)] | rfl
 ·rw [(show impl_copyQuery_m x0 = x0 from by unfold impl_copyQuery_m; exact rfl)]; exact Mem.join (is := [I3, I4]) (js := []) (fun _ _ hs => tyQuery_join (x := x0) hs) (hm.pick [3, 2] (by decide))
theorem impl_copyQuery_eq (x0 : DQuery) : impl_copyQuery_m x0 = x0 := by
 rfl
theorem impl_copyQuery_c2 (w : World) (z0 : List Value) (x0 : DQuery) (r_0 : tyQuery.rd w w.heap.size z0 x0) (s_0 : smQuery 68719476736 x0) :
  Calls Tryz.prog 126 #[.agg z0.toArray] w fun e w' => ∃ v : List Value, e = .returned (.agg v.toArray) ∧ Mem w.heap.size w [iOwn tyQuery v x0] w' := by
 have h := impl_copyQuery_c w z0 x0 r_0 s_0
 rw [impl_copyQuery_eq] at h
 exact h

def impl_copyRow_m (x0 : DRow) : DRow :=
 x0
theorem cb217 : Cb Tryz.prog 217 := ⟨f217, _, func217, rfl, by decide⟩
theorem impl_copyRow_c (w : World) (z0 : List Value) (x0 : DRow) (r_0 : tyRow.rd w w.heap.size z0 x0) (s_0 : smRow 68719476736 x0) :
  Calls Tryz.prog 217 #[.agg z0.toArray] w fun e w' => ∃ v : List Value, e = .returned (.agg v.toArray) ∧ Mem w.heap.size w [iOwn tyRow v (impl_copyRow_m x0)] w' := by
 obtain ⟨v1, rfl, r2⟩ := tyRow_rd r_0
 have r7 := r2
 obtain ⟨m3, A4, c5, rfl, q6⟩ := r2
 have l8 : x0.Values.length ≤ 68719476736 := s_0
 refine ce1 (L := [(0, .agg #[.int .i64 x0.Id, .slice A4 x0.Values.length c5])]) (N := 9) func217 ?_
 refine sr ?_
 refine WM_box rfl (Wd_none rfl) (by decide) (fun p9 => ?_)
 refine WM_alloc type73 rfl (Wd_none rfl) (by decide) (fun p10 => ?_)
 refine nt' (CM_seq ?_)
 let I1 : It := iBox p9 73 [.int .i64 x0.Id, .slice A4 x0.Values.length c5]
 refine rb 7 (s := [I1]) (pk [1]) ?_
 refine qt 7 0 1 rfl (vf underlying73 rfl type3) ?_
 refine qt 7 1 3 rfl (vl 0 0 underlying3) ?_
 refine qt 7 2 7 rfl (vf underlying73 rfl type25) ?_
 refine qt 7 3 15 rfl (vl 0 1 underlying25) ?_
 refine qo 7 4 31 rfl ?_
 refine wcl (tSl tInt 3) x0.Values (cl_fn cb136 rfl) (fun W hm => impl_copyInts_c2 W _ x0.Values (hm.rdS0 r7) s_0) (fun z11 => ?_)
 refine WM_form (n := 0) rfl ?_
 rintro A12 c13 rfl m14
 refine qn (pk [2]) ?_
 refine qt 7 5 63 rfl (fun W hm => rv_build (cs := [.int .i64 x0.Id, .slice A12 x0.Values.length c13]) rfl (by kernel_rfl)) ?_
 refine qo 7 6 127 rfl ?_
 let I2 : It := iOwn (tSl tInt 3) [.slice A12 x0.Values.length c13] x0.Values
 refine sb 0 [.int .i64 x0.Id, .slice A12 x0.Values.length c13] [I2, I1] (pk [1, 0, 2]) type73 ?_
 refine qn (pk [2]) ?_
 refine QB_done (by kernel_rfl) ?_
 refine QM_then (CM_ret ?_)
 refine QM_r1 rfl (RR_cell (n := 0) rfl rfl underlying73 type73 rfl) (fun W hm => ⟨[.int .i64 x0.Id, .slice A12 x0.Values.length c13], ?_, ?_⟩)
 ·first | rw [(show impl_copyRow_m x0 = x0 from by unfold impl_copyRow_m; exact rfl)] | rfl
 ·rw [(show impl_copyRow_m x0 = x0 from by unfold impl_copyRow_m; exact rfl)]; exact Mem.join (is := [I2]) (js := []) (fun _ _ hs => tyRow_join (x := x0) hs) (hm.pick [1] (by decide))
theorem impl_copyRow_eq (x0 : DRow) : impl_copyRow_m x0 = x0 := by
 rfl
theorem impl_copyRow_c2 (w : World) (z0 : List Value) (x0 : DRow) (r_0 : tyRow.rd w w.heap.size z0 x0) (s_0 : smRow 68719476736 x0) :
  Calls Tryz.prog 217 #[.agg z0.toArray] w fun e w' => ∃ v : List Value, e = .returned (.agg v.toArray) ∧ Mem w.heap.size w [iOwn tyRow v x0] w' := by
 have h := impl_copyRow_c w z0 x0 r_0 s_0
 rw [impl_copyRow_eq] at h
 exact h

def impl_copyRows_b1 (x0 : (List DRow)) (k9 : Nat) (d10 : (List DRow)) : (List DRow) ⊕ ((List DRow)) :=
 Sum.inr (d10 ++ [(gt x0 k9)])
def impl_copyRows_m (x0 : (List DRow)) : (List DRow) :=
 Sum.elim id (fun (s : (List DRow)) => s) (rng (R := (List DRow)) (fun k (s : (List DRow)) => impl_copyRows_b1 x0 k s) (x0.length - 0) 0 [])
theorem cb166 : Cb Tryz.prog 166 := ⟨f166, _, func166, rfl, by decide⟩
theorem impl_copyRows_c (w : World) (z0 : Value) (x0 : (List DRow)) (r_0 : rdS tyRow w w.heap.size z0 x0) (s_0 : (x0.length ≤ 68719476736 ∧ ∀ y ∈ x0, smRow 68719476736 y)) :
  Calls Tryz.prog 166 #[z0] w fun e w' => ∃ v : Value, e = .returned (v) ∧ Mem w.heap.size w [iOwn (tSl tyRow 73) [v] (impl_copyRows_m x0)] w' := by
 have r5 := r_0
 obtain ⟨m1, A2, c3, rfl, q4⟩ := r_0
 have l6 : x0.length ≤ 68719476736 := s_0.1
 refine ce1 (L := [(0, .slice A2 x0.length c3)]) (N := 20) func166 ?_
 refine sr (wa (nt' (sr ?_)))
 refine WM_build0 (E := tyRow) underlying35 type73 (Wd_none rfl) (by decide) (fun p7 => ?_)
 refine wa (nt' (CM_seq (sr (wm ?_))))
 refine wv (vlen underlying35) ?_
 refine wm (nt' (CM_block ?_))
 let F1 := fun k (s : (List DRow)) => impl_copyRows_b1 x0 k s
 let R2 := rng (R := (List DRow)) F1
 refine CM_loop (σ := Nat × ((List DRow)) × (Option Addr × Nat)) (fun s => [(3, .slice s.2.2.1 s.2.1.length s.2.2.2), (7, .slice A2 x0.length c3), (8, .int .i64 ((x0.length : Nat) : Int)), (9, .int .i64 ((s.1 : Nat) : Int))]) (fun s => [iOwn (tSl tyRow 73) [.slice s.2.2.1 s.2.1.length s.2.2.2] s.2.1]) (fun s => s.1 ≤ x0.length ∧ R2 (x0.length - s.1) s.1 s.2.1 = R2 (x0.length - 0) 0 [] ∧ s.2.1.length ≤ 0 + s.1) (fun s => x0.length - s.1) (0, [], ((some ⟨p7, 0, none⟩), 0)) sl4 (fun W hm => hm) ⟨(by omega), rfl, Nat.le_refl _⟩ ?_
 rintro ⟨k9, d10, ⟨A11, c12⟩⟩ H15
 obtain ⟨hk13, hF14, hi16⟩ : k9 ≤ x0.length ∧ R2 (x0.length - k9) k9 d10 = R2 (x0.length - 0) 0 [] ∧ d10.length ≤ 0 + k9 := H15
 let I5 : It := iOwn (tSl tyRow 73) [.slice A11 d10.length c12] d10
 show CM Tryz.prog 20 _ _ _ _ [(3, .slice A11 d10.length c12), (7, .slice A2 x0.length c3), (8, .int .i64 ((x0.length : Nat) : Int)), (9, .int .i64 ((k9 : Nat) : Int))] [I5]
 refine sr ?_
 refine wv vlss ?_
 refine nt' (CM_seq ?_)
 by_cases hl17 : k9 < x0.length
 ·have g18 : (decide (((k9 : Nat) : Int) < ((x0.length : Nat) : Int))) = true := decide_eq_true (by omega)
  refine CM_condT rfl g18 ?_
  refine CM_skip (QM_then (CM_seq (CM_block (sr ?_))))
  obtain ⟨a19, rfl, hb20, he21⟩ := q4 (by omega)
  refine wv (vix 2 k9 underlying35 type73) ?_
  obtain ⟨_, e25, hc22⟩ := he21 k9 _ (gt_some (show k9 < x0.length from by omega))
  obtain ⟨v23, rfl, r24⟩ := tyRow_rd e25
  have l26 : ((gt x0 k9).Values).length ≤ 68719476736 := (s_0.2 _ (gt_mem (show k9 < x0.length from by omega)))
  have r31 := r24
  obtain ⟨m27, A28, c29, rfl, q30⟩ := r24
  let K3 : List Value := [.int .i64 ((gt x0 k9).Id), .slice A28 ((gt x0 k9).Values).length c29]
  refine wv (fun W hm => rv_loadN (cs := K3) underlying73 type73 rfl rfl (hm.elCells (show (a19.add (k9 * 2)).block < w.heap.size from by rw [add_block]; exact hb20.1) hc22)) ?_
  refine WM_alloc type73 rfl (Wd_none rfl) (by decide) (fun p32 => ?_)
  refine sb 0 K3 [I5] (fun W hm => hm) type73 ?_
  refine nt' (CM_region (wm ?_))
  refine wv (fun W hm => rv_loadN (cs := K3) underlying73 type73 rfl rfl (hm.boxCells (n := 0) rfl)) ?_
  refine wcs tyRow (gt x0 k9) (cl_fn cb217 rfl) (fun W hm => impl_copyRow_c2 W _ (gt x0 k9) (tyRow_mk (x := (gt x0 k9)) (hm.rdS0 r31)) (s_0.2 _ (gt_mem (show k9 < x0.length from by omega)))) (fun z33 => ?_)
  refine tyRow_sp ?_
  rintro v34 rfl
  refine WM_form (n := 0) rfl ?_
  rintro A35 c36 rfl m37
  let K4 : List Value := [.int .i64 ((gt x0 k9).Id), .slice A35 ((gt x0 k9).Values).length c36]
  refine WM_build (cs := K4) underlying35 type73 rfl (by decide) (by decide) rfl (by kernel_rfl) (Wd_none rfl) (by decide) (fun p39 => ?_)
  refine ap1 tyRow 73 (.slice A11 d10.length c12) d10 (gt x0 k9) [iOwn (tSl tInt 3) [.slice A35 ((gt x0 k9).Values).length c36] ((gt x0 k9).Values)] [iBox p32 73 K3] K4 (pk [0, 3, 1, 2]) (fun _ _ hs => Els.single (tyRow_join (x := (gt x0 k9)) hs)) underlying35 type73 (show (d10.length + 1) * 32 ≤ 140737488355328 from by omega) (fun v40 => ?_)
  refine WM_form (n := 0) rfl ?_
  rintro A41 c42 rfl m43
  refine wa (WM_nil (QM_block_normal (QM_then (CM_region ?_))))
  refine wv (vadN k9 1 (by omega)) ?_
  refine wm (WM_nil ?_)
  have hn45 := rng_next (R := (List DRow)) (body := F1) (k := k9) (s := d10) (s' := (d10 ++ [(gt x0 k9)])) (show k9 < x0.length from by omega) (show impl_copyRows_b1 x0 k9 d10 = Sum.inr (d10 ++ [(gt x0 k9)]) from by unfold impl_copyRows_b1; exact rfl) hF14
  exact QM_round (k9 + 1, (d10 ++ [(gt x0 k9)]), (A41, c42)) sl4 (pk [0]) ⟨(by omega), hn45, (show (d10 ++ [(gt x0 k9)]).length ≤ 0 + (k9 + 1) from by first | omega | (simp only [List.length_append, List.length_cons, List.length_nil] at *; omega))⟩ (rl (by omega))
 ·have g18 : (decide (((k9 : Nat) : Int) < ((x0.length : Nat) : Int))) = false := decide_eq_false (by omega)
  refine CM_condF rfl g18 ?_
  refine CM_exit (QM_then_exit (QM_then_exit ?_))
  have hE46 : R2 (x0.length - 0) 0 [] = Sum.inr d10 := rng_end hl17 hF14
  refine QM_block_hit (QM_then (sr (wm (wa (nt' (CM_ret ?_))))))
  refine QM_r1 rfl (RR_tmp rfl) (fun W hm => ⟨.slice A11 d10.length c12, ?_, ?_⟩)
  ·first | rw [(show impl_copyRows_m x0 = d10 from by unfold impl_copyRows_m; exact fin_inr hE46 (rfl))] | rfl
  ·rw [(show impl_copyRows_m x0 = d10 from by unfold impl_copyRows_m; exact fin_inr hE46 (rfl))]; exact hm
theorem impl_copyRows_eq (x0 : (List DRow)) : impl_copyRows_m x0 = x0 := by
 unfold impl_copyRows_m; rw [rng_app (xs := x0) (b := fun k s => impl_copyRows_b1 x0 k s) (fun _ _ => rfl)]; rfl
theorem impl_copyRows_c2 (w : World) (z0 : Value) (x0 : (List DRow)) (r_0 : rdS tyRow w w.heap.size z0 x0) (s_0 : (x0.length ≤ 68719476736 ∧ ∀ y ∈ x0, smRow 68719476736 y)) :
  Calls Tryz.prog 166 #[z0] w fun e w' => ∃ v : Value, e = .returned (v) ∧ Mem w.heap.size w [iOwn (tSl tyRow 73) [v] x0] w' := by
 have h := impl_copyRows_c w z0 x0 r_0 s_0
 rw [impl_copyRows_eq] at h
 exact h

def impl_copyFinished_m (x0 : DFinished) : DFinished :=
 x0
theorem cb86 : Cb Tryz.prog 86 := ⟨f86, _, func86, rfl, by decide⟩
theorem impl_copyFinished_c (w : World) (z0 : List Value) (x0 : DFinished) (r_0 : tyFinished.rd w w.heap.size z0 x0) (s_0 : smFinished 68719476736 x0) :
  Calls Tryz.prog 86 #[.agg z0.toArray] w fun e w' => ∃ v : List Value, e = .returned (.agg v.toArray) ∧ Mem w.heap.size w [iOwn tyFinished v (impl_copyFinished_m x0)] w' := by
 obtain ⟨v1, v3, v5, rfl, r2, r4, r6⟩ := tyFinished_rd r_0
 have r11 := r2
 obtain ⟨m7, A8, c9, rfl, q10⟩ := r2
 have r16 := r4
 obtain ⟨m12, A13, c14, rfl, q15⟩ := r4
 have r21 := r6
 obtain ⟨m17, A18, c19, rfl, q20⟩ := r6
 have l22 : x0.Query.Conds.length ≤ 68719476736 := s_0.1.1
 have l23 : x0.Query.Out.length ≤ 68719476736 := s_0.1.2
 have l24 : x0.Rows.length ≤ 68719476736 := s_0.2.1
 refine ce1 (L := [(0, .agg #[.int .i64 x0.Query.Id, .int .i64 x0.Query.Tenant, .slice A8 x0.Query.Conds.length c9, .slice A13 x0.Query.Out.length c14, .int .i64 x0.Time, .int .i64 x0.Steps, .slice A18 x0.Rows.length c19])]) (N := 12) func86 ?_
 refine sr ?_
 refine WM_box rfl (Wd_none rfl) (by decide) (fun p25 => ?_)
 refine WM_alloc type37 rfl (Wd_none rfl) (by decide) (fun p26 => ?_)
 refine nt' (CM_seq ?_)
 let K1 : List Value := [.int .i64 0, .int .i64 0, .slice none 0 0, .slice none 0 0, .int .i64 0, .int .i64 0, .slice none 0 0]
 refine CM_cut (σ := Option Addr × Nat × Option Addr × Nat × Option Addr × Nat) (fun s => [(1, .pointer (some (⟨p25, 0, none⟩ : Addr))), (2, .pointer (some (⟨p26, 0, none⟩ : Addr)))]) (fun s => [iBox p25 37 [.int .i64 x0.Query.Id, .int .i64 x0.Query.Tenant, .slice s.1 x0.Query.Conds.length s.2.1, .slice s.2.2.1 x0.Query.Out.length s.2.2.2.1, .int .i64 x0.Time, .int .i64 x0.Steps, .slice s.2.2.2.2.1 x0.Rows.length s.2.2.2.2.2], iOwn (tSl tyRow 73) [.slice s.2.2.2.2.1 x0.Rows.length s.2.2.2.2.2] x0.Rows, iOwn (tSl tyCond 201) [.slice s.1 x0.Query.Conds.length s.2.1] x0.Query.Conds, iOwn (tSl tInt 3) [.slice s.2.2.1 x0.Query.Out.length s.2.2.2.1] x0.Query.Out, iBox p26 37 K1]) (fun _ => True) ?_ ?_
 ·
  refine rb 10 (s := [iBox p26 37 K1]) (pk [0]) ?_
  refine qt 10 0 1 rfl (vf underlying37 rfl type34) ?_
  refine qt 10 3 9 rfl (vf underlying37 rfl type35) ?_
  refine qa [1, 4] ?_
  refine qc 10 11 rfl ?_ ?_
  ·
   refine wv (fun W hm => rv_loadN (cs := [.int .i64 x0.Query.Id, .int .i64 x0.Query.Tenant, .slice A8 x0.Query.Conds.length c9, .slice A13 x0.Query.Out.length c14]) underlying34 type34 rfl rfl (hm.boxPart (n := 1) rfl rfl)) ?_
   refine qn (pk [0]) ?_
   refine qa [2, 4] ?_
   refine qc 10 15 rfl ?_ ?_
   ·
    refine wcs tyQuery x0.Query (cl_fn cb126 rfl) (fun W hm => impl_copyQuery_c2 W _ x0.Query (tyQuery_mk (x := x0.Query) (hm.rdS0 r11) (hm.rdS0 r16)) s_0.1) (fun z43 => ?_)
    refine tyQuery_sp ?_
    rintro ⟨v44, v45⟩ rfl
    refine WM_form (n := 0) rfl ?_
    rintro A46 c47 rfl m48
    refine WM_form (n := 1) rfl ?_
    rintro A50 c51 rfl m52
    refine qn (pk [2]) ?_
    refine qo 10 4 31 rfl ?_
    refine wv (vl 3 6 underlying35) ?_
    refine qn (pk [2]) ?_
    refine qt 10 6 95 rfl (vf underlying37 rfl type34) ?_
    refine qo 10 5 127 rfl ?_
    refine wcl (tSl tyRow 73) x0.Rows (cl_fn cb166 rfl) (fun W hm => impl_copyRows_c2 W _ x0.Rows (hm.rdS0 r21) s_0.2) (fun z54 => ?_)
    refine WM_form (n := 0) rfl ?_
    rintro A55 c56 rfl m57
    refine qn (pk [3]) ?_
    refine qo 10 7 255 rfl ?_
    let I3 : It := iOwn (tSl tyRow 73) [.slice A55 x0.Rows.length c56] x0.Rows
    let I4 : It := iOwn (tSl tyCond 201) [.slice A46 x0.Query.Conds.length c47] x0.Query.Conds
    let I5 : It := iOwn (tSl tInt 3) [.slice A50 x0.Query.Out.length c51] x0.Query.Out
    refine sb 0 [.int .i64 x0.Query.Id, .int .i64 x0.Query.Tenant, .slice A46 x0.Query.Conds.length c47, .slice A50 x0.Query.Out.length c51, .int .i64 x0.Time, .int .i64 x0.Steps, .slice A18 x0.Rows.length c19] [I3, I4, I5, iBox p26 37 K1] (pk [4, 0, 1, 2, 3]) type34 ?_
    refine qn (pk [4]) ?_
    refine qt 10 8 511 rfl (vf underlying37 rfl type35) ?_
    refine qo 10 9 1023 rfl ?_
    refine sb 6 [.int .i64 x0.Query.Id, .int .i64 x0.Query.Tenant, .slice A46 x0.Query.Conds.length c47, .slice A50 x0.Query.Out.length c51, .int .i64 x0.Time, .int .i64 x0.Steps, .slice A55 x0.Rows.length c56] [I3, I4, I5, iBox p26 37 K1] (fun W hm => hm) type35 ?_
    refine qn (pk [4]) ?_
    refine QB_done (by kernel_rfl) ?_
    exact QM_cut_normal (A46, c47, A50, c51, A55, c56) sl2 (fun W hm => hm) trivial
   refine qc 10 27 rfl ?_ ?_
   ·
    refine wv (vl 1 6 underlying35) ?_
    refine qn (pk [0]) ?_
    refine qo 10 2 31 rfl ?_
    refine wcs tyQuery x0.Query (cl_fn cb126 rfl) (fun W hm => impl_copyQuery_c2 W _ x0.Query (tyQuery_mk (x := x0.Query) (hm.rdS0 r11) (hm.rdS0 r16)) s_0.1) (fun z59 => ?_)
    refine tyQuery_sp ?_
    rintro ⟨v60, v61⟩ rfl
    refine WM_form (n := 0) rfl ?_
    rintro A62 c63 rfl m64
    refine WM_form (n := 1) rfl ?_
    rintro A66 c67 rfl m68
    refine qn (pk [2]) ?_
    refine qt 10 6 95 rfl (vf underlying37 rfl type34) ?_
    refine qo 10 5 127 rfl ?_
    refine wcl (tSl tyRow 73) x0.Rows (cl_fn cb166 rfl) (fun W hm => impl_copyRows_c2 W _ x0.Rows (hm.rdS0 r21) s_0.2) (fun z70 => ?_)
    refine WM_form (n := 0) rfl ?_
    rintro A71 c72 rfl m73
    refine qn (pk [3]) ?_
    refine qo 10 7 255 rfl ?_
    let I6 : It := iOwn (tSl tyRow 73) [.slice A71 x0.Rows.length c72] x0.Rows
    let I7 : It := iOwn (tSl tyCond 201) [.slice A62 x0.Query.Conds.length c63] x0.Query.Conds
    let I8 : It := iOwn (tSl tInt 3) [.slice A66 x0.Query.Out.length c67] x0.Query.Out
    refine sb 0 [.int .i64 x0.Query.Id, .int .i64 x0.Query.Tenant, .slice A62 x0.Query.Conds.length c63, .slice A66 x0.Query.Out.length c67, .int .i64 x0.Time, .int .i64 x0.Steps, .slice A18 x0.Rows.length c19] [I6, I7, I8, iBox p26 37 K1] (pk [4, 0, 1, 2, 3]) type34 ?_
    refine qn (pk [4]) ?_
    refine qt 10 8 511 rfl (vf underlying37 rfl type35) ?_
    refine qo 10 9 1023 rfl ?_
    refine sb 6 [.int .i64 x0.Query.Id, .int .i64 x0.Query.Tenant, .slice A62 x0.Query.Conds.length c63, .slice A66 x0.Query.Out.length c67, .int .i64 x0.Time, .int .i64 x0.Steps, .slice A71 x0.Rows.length c72] [I6, I7, I8, iBox p26 37 K1] (fun W hm => hm) type35 ?_
    refine qn (pk [4]) ?_
    refine QB_done (by kernel_rfl) ?_
    exact QM_cut_normal (A62, c63, A66, c67, A71, c72) sl2 (fun W hm => hm) trivial
   exact QBs_nil
  refine qc 10 25 rfl ?_ ?_
  ·
   refine wv (vl 1 6 underlying35) ?_
   refine qn (pk [0]) ?_
   refine qo 10 1 27 rfl ?_
   refine wv (fun W hm => rv_loadN (cs := [.int .i64 x0.Query.Id, .int .i64 x0.Query.Tenant, .slice A8 x0.Query.Conds.length c9, .slice A13 x0.Query.Out.length c14]) underlying34 type34 rfl rfl (hm.boxPart (n := 1) rfl rfl)) ?_
   refine qn (pk [0]) ?_
   refine qo 10 2 31 rfl ?_
   refine wcs tyQuery x0.Query (cl_fn cb126 rfl) (fun W hm => impl_copyQuery_c2 W _ x0.Query (tyQuery_mk (x := x0.Query) (hm.rdS0 r11) (hm.rdS0 r16)) s_0.1) (fun z75 => ?_)
   refine tyQuery_sp ?_
   rintro ⟨v76, v77⟩ rfl
   refine WM_form (n := 0) rfl ?_
   rintro A78 c79 rfl m80
   refine WM_form (n := 1) rfl ?_
   rintro A82 c83 rfl m84
   refine qn (pk [2]) ?_
   refine qt 10 6 95 rfl (vf underlying37 rfl type34) ?_
   refine qo 10 5 127 rfl ?_
   refine wcl (tSl tyRow 73) x0.Rows (cl_fn cb166 rfl) (fun W hm => impl_copyRows_c2 W _ x0.Rows (hm.rdS0 r21) s_0.2) (fun z86 => ?_)
   refine WM_form (n := 0) rfl ?_
   rintro A87 c88 rfl m89
   refine qn (pk [3]) ?_
   refine qo 10 7 255 rfl ?_
   let I9 : It := iOwn (tSl tyRow 73) [.slice A87 x0.Rows.length c88] x0.Rows
   let I10 : It := iOwn (tSl tyCond 201) [.slice A78 x0.Query.Conds.length c79] x0.Query.Conds
   let I11 : It := iOwn (tSl tInt 3) [.slice A82 x0.Query.Out.length c83] x0.Query.Out
   refine sb 0 [.int .i64 x0.Query.Id, .int .i64 x0.Query.Tenant, .slice A78 x0.Query.Conds.length c79, .slice A82 x0.Query.Out.length c83, .int .i64 x0.Time, .int .i64 x0.Steps, .slice A18 x0.Rows.length c19] [I9, I10, I11, iBox p26 37 K1] (pk [4, 0, 1, 2, 3]) type34 ?_
   refine qn (pk [4]) ?_
   refine qt 10 8 511 rfl (vf underlying37 rfl type35) ?_
   refine qo 10 9 1023 rfl ?_
   refine sb 6 [.int .i64 x0.Query.Id, .int .i64 x0.Query.Tenant, .slice A78 x0.Query.Conds.length c79, .slice A82 x0.Query.Out.length c83, .int .i64 x0.Time, .int .i64 x0.Steps, .slice A87 x0.Rows.length c88] [I9, I10, I11, iBox p26 37 K1] (fun W hm => hm) type35 ?_
   refine qn (pk [4]) ?_
   refine QB_done (by kernel_rfl) ?_
   exact QM_cut_normal (A78, c79, A82, c83, A87, c88) sl2 (fun W hm => hm) trivial
  exact QBs_nil
 ·
  rintro ⟨A30, c31, A34, c35, A39, c40⟩ -
  let K2 : List Value := [.int .i64 x0.Query.Id, .int .i64 x0.Query.Tenant, .slice A30 x0.Query.Conds.length c31, .slice A34 x0.Query.Out.length c35, .int .i64 x0.Time, .int .i64 x0.Steps, .slice A39 x0.Rows.length c40]
  let I12 : It := iOwn (tSl tyRow 73) [.slice A39 x0.Rows.length c40] x0.Rows
  let I13 : It := iOwn (tSl tyCond 201) [.slice A30 x0.Query.Conds.length c31] x0.Query.Conds
  let I14 : It := iOwn (tSl tInt 3) [.slice A34 x0.Query.Out.length c35] x0.Query.Out
  show QM 12 _ _ _ .normal [(1, .pointer (some (⟨p25, 0, none⟩ : Addr))), (2, .pointer (some (⟨p26, 0, none⟩ : Addr)))] [iBox p25 37 K2, I12, I13, I14, iBox p26 37 K1]
  refine QM_len (n := 1) rfl ?_
  intro m91 m92
  refine QM_len (n := 2) rfl ?_
  intro m93 m94
  refine QM_len (n := 3) rfl ?_
  intro m95 m96
  refine QM_then (sr ?_)
  refine wv (fun W hm => rv_loadN (cs := K2) underlying37 type37 rfl rfl (hm.boxCells (n := 0) rfl)) ?_
  refine sb 0 K2 [iBox p25 37 K2, I12, I13, I14] (pk [4, 0, 1, 2, 3]) type37 ?_
  refine nt' (CM_ret ?_)
  refine QM_r1 rfl (RR_cell (n := 0) rfl rfl underlying37 type37 rfl) (fun W hm => ⟨K2, ?_, ?_⟩)
  ·first | rw [(show impl_copyFinished_m x0 = x0 from by unfold impl_copyFinished_m; exact rfl)] | rfl
  ·rw [(show impl_copyFinished_m x0 = x0 from by unfold impl_copyFinished_m; exact rfl)]; exact Mem.join (is := [I13, I14, I12]) (js := []) (fun _ _ hs => tyFinished_join (x := x0) hs) (hm.pick [3, 4, 2] (by decide))
theorem impl_copyFinished_eq (x0 : DFinished) : impl_copyFinished_m x0 = x0 := by
 rfl
theorem impl_copyFinished_c2 (w : World) (z0 : List Value) (x0 : DFinished) (r_0 : tyFinished.rd w w.heap.size z0 x0) (s_0 : smFinished 68719476736 x0) :
  Calls Tryz.prog 86 #[.agg z0.toArray] w fun e w' => ∃ v : List Value, e = .returned (.agg v.toArray) ∧ Mem w.heap.size w [iOwn tyFinished v x0] w' := by
 have h := impl_copyFinished_c w z0 x0 r_0 s_0
 rw [impl_copyFinished_eq] at h
 exact h

def impl_ResultOf_b1 (x0 : DEngine) (x1 : Int) (k45 : Nat) (s46 : Int) : (DFinished × Bool) ⊕ ((Int) ⊕ (Int)) :=
 cond (decide (0 ≤ s46)) (cond (((gt x0.Done (s46.toNat)).Query.Id) == x1) (Sum.inl ((gt x0.Done (s46.toNat)), true)) (Sum.inr (Sum.inr (IntKind.i64.wrap (s46 - 1))))) (Sum.inr (Sum.inl s46))
def impl_ResultOf_m (x0 : DEngine) (x1 : Int) : (DFinished × Bool) :=
 cond (impl_IsEngine_m x0) (Sum.elim id (fun (s : Int) => ((⟨(⟨0, 0, [], []⟩ : DQuery), 0, 0, []⟩ : DFinished), false)) (rngb (R := (DFinished × Bool)) (fun k (s : Int) => impl_ResultOf_b1 x0 x1 k s) (x0.Done.length + 1 - 0) 0 (IntKind.i64.wrap (((x0.Done.length : Nat) : Int) - 1)))) ((⟨(⟨0, 0, [], []⟩ : DQuery), 0, 0, []⟩ : DFinished), false)
theorem cb17 : Cb Tryz.prog 17 := ⟨f17, _, func17, rfl, by decide⟩
theorem impl_ResultOf_c (w : World) (z0 : List Value) (x0 : DEngine) (x1 : Int) (r_0 : tyEngine.rd w w.heap.size z0 x0) (s_0 : smEngine 68719476736 x0) :
  Calls Tryz.prog 17 #[.agg z0.toArray, .int .i64 x1] w fun e w' => ∃ v : List Value, e = .returned (.tuple #[.agg v.toArray, .bool ((impl_ResultOf_m x0 x1).2)]) ∧ Mem w.heap.size w [iOwn tyFinished v (impl_ResultOf_m x0 x1).1] w' := by
 obtain ⟨v1, v3, v5, v7, v9, rfl, r2, r4, r6, r8, r10⟩ := tyEngine_rd r_0
 have r15 := r2
 obtain ⟨m11, A12, c13, rfl, q14⟩ := r2
 have r20 := r4
 obtain ⟨m16, A17, c18, rfl, q19⟩ := r4
 have r25 := r6
 obtain ⟨m21, A22, c23, rfl, q24⟩ := r6
 have r30 := r8
 obtain ⟨m26, A27, c28, rfl, q29⟩ := r8
 have r35 := r10
 obtain ⟨m31, A32, c33, rfl, q34⟩ := r10
 have l36 : x0.Store.Segments.length ≤ 68719476736 := s_0.1.1
 have l37 : x0.Order.length ≤ 68719476736 := s_0.2.1
 have l38 : x0.Active.length ≤ 68719476736 := s_0.2.2.1.1
 have l39 : x0.Done.length ≤ 68719476736 := s_0.2.2.2.1.1
 have l40 : x0.Ledger.length ≤ 68719476736 := s_0.2.2.2.2.1
 refine ce2 (L := [(0, .agg #[.slice A12 x0.Store.Segments.length c13, .int .i64 x0.Store.Now, .int .i64 x0.Cursor, .slice A17 x0.Order.length c18, .slice A22 x0.Active.length c23, .slice A27 x0.Done.length c28, .slice A32 x0.Ledger.length c33, .int .i64 x0.Steps]), (1, .int .i64 x1)]) (N := 35) func17 ?_
 refine sr ?_
 refine WM_box rfl (Wd_none rfl) (by decide) (fun p41 => ?_)
 refine WM_alloc type37 rfl (Wd_none rfl) (by decide) (fun p42 => ?_)
 refine wa (nt' (CM_seq (sr ?_)))
 let K3 : List Value := [.slice A12 x0.Store.Segments.length c13, .int .i64 x0.Store.Now, .int .i64 x0.Cursor, .slice A17 x0.Order.length c18, .slice A22 x0.Active.length c23, .slice A27 x0.Done.length c28, .slice A32 x0.Ledger.length c33, .int .i64 x0.Steps]
 refine wv (fun W hm => rv_loadN (cs := K3) underlying47 type47 rfl rfl (hm.boxCells (n := 1) rfl)) ?_
 refine wcv (cl_fn cb32 rfl) (fun W hm => impl_IsEngine_c W _ x0 (tyEngine_mk (x := x0) (hm.rdS0 r15) (hm.rdS0 r20) (hm.rdS0 r25) (hm.rdS0 r30) (hm.rdS0 r35)) s_0) ?_
 refine wv vnot ?_
 refine nt' ?_
 rcases Bool.eq_false_or_eq_true (impl_IsEngine_m x0) with g44 | g44
 ·
  refine CM_condF rfl (nt g44) ?_
  refine CM_skip (QM_then (CM_seq (sr ?_)))
  refine wv (vf underlying47 rfl type44) ?_
  refine wv (vl 1 5 underlying44) ?_
  refine wv (vlen underlying44) ?_
  refine wv (fun W hm => rv_sub rfl rfl) ?_
  refine wa (nt' ?_)
  have hw0 := wrap_id (n := ((x0.Done.length : Nat) : Int) - 1) (by omega) (by omega)
  let F1 := fun k (s : Int) => impl_ResultOf_b1 x0 x1 k s
  let R2 := rngb (R := (DFinished × Bool)) F1
  let K4 : List Value := [.int .i64 0, .int .i64 0, .slice none 0 0, .slice none 0 0, .int .i64 0, .int .i64 0, .slice none 0 0]
  refine CM_cut (σ := (Int) × (Unit)) (fun s => [(4, .pointer (some (⟨p42, 0, none⟩ : Addr)))]) (fun s => [iBox p42 37 K4, iBox p41 47 K3]) (fun s => R2 (x0.Done.length + 1 - 0) 0 (IntKind.i64.wrap (((x0.Done.length : Nat) : Int) - 1)) = Sum.inr s.1) ?_ ?_
  ·
   refine CM_block ?_
   refine CM_loop (σ := Nat × (Int) × (Unit)) (fun s => [(1, .int .i64 x1), (2, .pointer (some (⟨p41, 0, none⟩ : Addr))), (4, .pointer (some (⟨p42, 0, none⟩ : Addr))), (6, .int .i64 s.2.1)]) (fun s => [iBox p42 37 K4, iBox p41 47 K3]) (fun s => s.1 + (0) + 1 ≤ x0.Done.length + 1 ∧ R2 (x0.Done.length + 1 - s.1) s.1 s.2.1 = R2 (x0.Done.length + 1 - 0) 0 (IntKind.i64.wrap (((x0.Done.length : Nat) : Int) - 1)) ∧ ((s.1 : Nat) : Int) + s.2.1 + 1 = ((x0.Done.length : Nat) : Int) ∧ -1 ≤ s.2.1) (fun s => x0.Done.length + 1 - s.1) (0, (IntKind.i64.wrap (((x0.Done.length : Nat) : Int) - 1)), ()) sl4 (fun W hm => hm) ⟨(show 0 + (0) + 1 ≤ x0.Done.length + 1 from by omega), rfl, (show ((0 : Nat) : Int) + (IntKind.i64.wrap (((x0.Done.length : Nat) : Int) - 1)) + 1 = ((x0.Done.length : Nat) : Int) from by omega), (show -1 ≤ (IntKind.i64.wrap (((x0.Done.length : Nat) : Int) - 1)) from by omega)⟩ ?_
   rintro ⟨k45, s46, ⟨⟩⟩ H49
   obtain ⟨hk47, hF48, hi50, hi51⟩ : k45 + (0) + 1 ≤ x0.Done.length + 1 ∧ R2 (x0.Done.length + 1 - k45) k45 s46 = R2 (x0.Done.length + 1 - 0) 0 (IntKind.i64.wrap (((x0.Done.length : Nat) : Int) - 1)) ∧ ((k45 : Nat) : Int) + s46 + 1 = ((x0.Done.length : Nat) : Int) ∧ -1 ≤ s46 := H49
   show CM Tryz.prog 35 _ _ _ _ [(1, .int .i64 x1), (2, .pointer (some (⟨p41, 0, none⟩ : Addr))), (4, .pointer (some (⟨p42, 0, none⟩ : Addr))), (6, .int .i64 s46)] [iBox p42 37 K4, iBox p41 47 K3]
   have hw1 := wrap_id (n := s46 - 1) (by omega) (by omega)
   refine CM_seq (sr (wm ?_))
   refine wv (fun W hm => rv_geq rfl rfl) ?_
   refine nt' ?_
   by_cases h52 : 0 ≤ s46
   ·have g53 : (decide (0 ≤ s46)) = true := decide_eq_true h52
    have ht := Int.toNat_of_nonneg (of_decide_eq_true g53)
    refine CM_condT rfl g53 ?_
    refine CM_skip (QM_then (CM_seq (CM_block (sr ?_))))
    refine wv (vf underlying47 rfl type44) ?_
    refine wv (vl 1 5 underlying44) ?_
    refine wm ?_
    obtain ⟨a54, rfl, hb55, he56⟩ := q29 (by omega)
    refine wv (fun W hm => rv_indexI (sz := 7) (k := s46) underlying44 type37 rfl rfl rfl (by omega) (by omega)) ?_
    refine wv (vf underlying37 rfl type34) ?_
    refine wv (fun W hm => rv_fieldA (o := 0) underlying34 rfl type3 (by decide) rfl rfl) ?_
    obtain ⟨_, e64, hc57⟩ := he56 (s46.toNat) _ (gt_some (show (s46.toNat) < x0.Done.length from by omega))
    obtain ⟨v58, v60, v62, rfl, r59, r61, r63⟩ := tyFinished_rd e64
    have l65 : ((gt x0.Done (s46.toNat)).Query.Conds).length ≤ 68719476736 := (s_0.2.2.2.1.2 _ (gt_mem (show (s46.toNat) < x0.Done.length from by omega))).1.1
    have l66 : ((gt x0.Done (s46.toNat)).Query.Out).length ≤ 68719476736 := (s_0.2.2.2.1.2 _ (gt_mem (show (s46.toNat) < x0.Done.length from by omega))).1.2
    have l67 : ((gt x0.Done (s46.toNat)).Rows).length ≤ 68719476736 := (s_0.2.2.2.1.2 _ (gt_mem (show (s46.toNat) < x0.Done.length from by omega))).2.1
    have r72 := r59
    obtain ⟨m68, A69, c70, rfl, q71⟩ := r59
    have r77 := r61
    obtain ⟨m73, A74, c75, rfl, q76⟩ := r61
    have r82 := r63
    obtain ⟨m78, A79, c80, rfl, q81⟩ := r63
    refine wv (fun W hm => rv_load underlying3 rfl rfl ((hm.cell0 (show ((a54.add ((s46.toNat) * 7)).add 0).block < w.heap.size from by rw [add_block, add_block]; exact hb55.1)).trans (hc57 0 _ rfl))) ?_
    refine wm ?_
    refine wv (fun W hm => rv_eql rfl rfl) ?_
    refine nt' ?_
    by_cases h83 : ((gt x0.Done (s46.toNat)).Query.Id) = x1
    ·have g84 : (((gt x0.Done (s46.toNat)).Query.Id) == x1) = true := beq_iff_eq.2 h83
     refine CM_condT rfl g84 ?_
     refine sr ?_
     refine wv (vf underlying47 rfl type44) ?_
     refine wv (vl 1 5 underlying44) ?_
     refine wm ?_
     refine wv (fun W hm => rv_indexI (sz := 7) (k := s46) underlying44 type37 rfl rfl rfl (by omega) (by omega)) ?_
     refine wv (fun W hm => rv_loadN (cs := [.int .i64 ((gt x0.Done (s46.toNat)).Query.Id), .int .i64 ((gt x0.Done (s46.toNat)).Query.Tenant), .slice A69 ((gt x0.Done (s46.toNat)).Query.Conds).length c70, .slice A74 ((gt x0.Done (s46.toNat)).Query.Out).length c75, .int .i64 ((gt x0.Done (s46.toNat)).Time), .int .i64 ((gt x0.Done (s46.toNat)).Steps), .slice A79 ((gt x0.Done (s46.toNat)).Rows).length c80]) underlying37 type37 rfl rfl (hm.elCells (show (a54.add ((s46.toNat) * 7)).block < w.heap.size from by rw [add_block]; exact hb55.1) hc57)) ?_
     refine wcs tyFinished (gt x0.Done (s46.toNat)) (cl_fn cb86 rfl) (fun W hm => impl_copyFinished_c2 W _ (gt x0.Done (s46.toNat)) (tyFinished_mk (x := (gt x0.Done (s46.toNat))) (hm.rdS0 r72) (hm.rdS0 r77) (hm.rdS0 r82)) (s_0.2.2.2.1.2 _ (gt_mem (show (s46.toNat) < x0.Done.length from by omega)))) (fun z85 => ?_)
     refine tyFinished_sp ?_
     rintro ⟨v86, v87, v88⟩ rfl
     refine WM_form (n := 0) rfl ?_
     rintro A89 c90 rfl m91
     refine WM_form (n := 1) rfl ?_
     rintro A93 c94 rfl m95
     refine WM_form (n := 2) rfl ?_
     rintro A97 c98 rfl m99
     let K5 : List Value := [.int .i64 ((gt x0.Done (s46.toNat)).Query.Id), .int .i64 ((gt x0.Done (s46.toNat)).Query.Tenant), .slice A89 ((gt x0.Done (s46.toNat)).Query.Conds).length c90, .slice A93 ((gt x0.Done (s46.toNat)).Query.Out).length c94, .int .i64 ((gt x0.Done (s46.toNat)).Time), .int .i64 ((gt x0.Done (s46.toNat)).Steps), .slice A97 ((gt x0.Done (s46.toNat)).Rows).length c98]
     let K6 : List Value := [.slice A89 ((gt x0.Done (s46.toNat)).Query.Conds).length c90]
     let K7 : List Value := [.slice A93 ((gt x0.Done (s46.toNat)).Query.Out).length c94]
     let I9 : It := iOwn (tSl tyCond 201) K6 ((gt x0.Done (s46.toNat)).Query.Conds)
     let I10 : It := iOwn (tSl tInt 3) K7 ((gt x0.Done (s46.toNat)).Query.Out)
     let I11 : It := iOwn (tSl tyRow 73) [.slice A97 ((gt x0.Done (s46.toNat)).Rows).length c98] ((gt x0.Done (s46.toNat)).Rows)
     refine sb 0 K5 [I9, I10, I11, iBox p41 47 [.slice A12 x0.Store.Segments.length c13, .int .i64 x0.Store.Now, .int .i64 x0.Cursor, .slice A17 x0.Order.length c18, .slice A22 x0.Active.length c23, .slice (some a54) x0.Done.length c28, .slice A32 x0.Ledger.length c33, .int .i64 x0.Steps]] (pk [3, 0, 1, 2, 4]) type37 ?_
     refine wa (nt' (CM_ret (QM_block_ret (QM_then_ret (QM_then_ret (QM_block_ret (QM_cut_ret (QM_then_ret ?_))))))))
     refine QM_r2 rfl (RR_cell (n := 0) rfl rfl underlying37 type37 rfl) (RR_tmp rfl) (fun W hm => ⟨K5, ?_, ?_⟩)
     ·first | rw [(show impl_ResultOf_m x0 x1 = ((gt x0.Done (s46.toNat)), true) from by unfold impl_ResultOf_m; exact cond_t g44 (fin_inl (rngb_ret (body := F1) (k := k45) (s := s46) (show k45 < x0.Done.length + 1 from by omega) (show impl_ResultOf_b1 x0 x1 k45 s46 = Sum.inl ((gt x0.Done (s46.toNat)), true) from by unfold impl_ResultOf_b1; exact cond_t g53 (cond_t g84 (rfl))) hF48) rfl))] | rfl
      try rfl
     ·rw [(show impl_ResultOf_m x0 x1 = ((gt x0.Done (s46.toNat)), true) from by unfold impl_ResultOf_m; exact cond_t g44 (fin_inl (rngb_ret (body := F1) (k := k45) (s := s46) (show k45 < x0.Done.length + 1 from by omega) (show impl_ResultOf_b1 x0 x1 k45 s46 = Sum.inl ((gt x0.Done (s46.toNat)), true) from by unfold impl_ResultOf_b1; exact cond_t g53 (cond_t g84 (rfl))) hF48) rfl))]; exact Mem.join (is := [I9, I10, I11]) (js := []) (fun _ _ hs => tyFinished_join (x := (gt x0.Done (s46.toNat))) hs) (hm.pick [1, 2, 3] (by decide))
    ·have g84 : (((gt x0.Done (s46.toNat)).Query.Id) == x1) = false := beq_eq_false_iff_ne.2 h83
     refine CM_condF rfl g84 ?_
     refine CM_skip (QM_block_normal (QM_then (CM_region (wm ?_))))
     refine wv (fun W hm => rv_sub rfl rfl) ?_
     refine wa (WM_nil ?_)
     have hn101 := rngb_next (R := (DFinished × Bool)) (body := F1) (k := k45) (s := s46) (s' := (IntKind.i64.wrap (s46 - 1))) (show k45 < x0.Done.length + 1 from by omega) (show impl_ResultOf_b1 x0 x1 k45 s46 = Sum.inr (Sum.inr (IntKind.i64.wrap (s46 - 1))) from by unfold impl_ResultOf_b1; exact cond_t g53 (cond_f g84 (rfl))) hF48
     exact QM_round (k45 + 1, (IntKind.i64.wrap (s46 - 1)), ()) sl4 (fun W hm => hm) ⟨(show (k45 + 1) + (0) + 1 ≤ x0.Done.length + 1 from by omega), hn101, (show (((k45 + 1) : Nat) : Int) + (IntKind.i64.wrap (s46 - 1)) + 1 = ((x0.Done.length : Nat) : Int) from by first | omega | (simp only [List.length_append, List.length_cons, List.length_nil] at *; omega)), (show -1 ≤ (IntKind.i64.wrap (s46 - 1)) from by first | omega | (simp only [List.length_append, List.length_cons, List.length_nil] at *; omega))⟩ (show x0.Done.length + 1 - (k45 + 1) < x0.Done.length + 1 - k45 from by omega)
   ·have g53 : (decide (0 ≤ s46)) = false := decide_eq_false h52
    refine CM_condF rfl g53 ?_
    refine CM_exit (QM_then_exit (QM_then_exit (QM_block_hit ?_)))
    have hE102 := rngb_brk (R := (DFinished × Bool)) (body := F1) (k := k45) (s := s46) (s' := s46) (show k45 < x0.Done.length + 1 from by omega) (show impl_ResultOf_b1 x0 x1 k45 s46 = Sum.inr (Sum.inl s46) from by unfold impl_ResultOf_b1; exact cond_f g53 (rfl)) hF48
    exact QM_cut_normal (s46, ()) (subL_cons rfl subL_nil) (fun W hm => hm) hE102
  ·
   rintro ⟨s46, ⟨⟩⟩ H104
   have hE103 : R2 (x0.Done.length + 1 - 0) 0 (IntKind.i64.wrap (((x0.Done.length : Nat) : Int) - 1)) = Sum.inr s46 := H104
   show QM 35 _ _ _ .normal [(4, .pointer (some (⟨p42, 0, none⟩ : Addr)))] [iBox p42 37 K4, iBox p41 47 K3]
   refine QM_then (sr ?_)
   refine wv (fun W hm => rv_build (cs := K4) rfl (by kernel_rfl)) ?_
   refine sb 0 K4 [iBox p41 47 K3] (fun W hm => hm) type37 ?_
   refine wa (nt' (CM_ret ?_))
   refine QM_items (fun W hm => hm.addNil (E := tyCond) (e := 201)) ?_
   refine QM_items (fun W hm => hm.addNil (E := tInt) (e := 3)) ?_
   refine QM_items (fun W hm => hm.addNil (E := tyRow) (e := 73)) ?_
   refine QM_r2 rfl (RR_cell (n := 3) rfl rfl underlying37 type37 rfl) (RR_tmp rfl) (fun W hm => ⟨K4, ?_, ?_⟩)
   ·first | rw [(show impl_ResultOf_m x0 x1 = ((⟨(⟨0, 0, [], []⟩ : DQuery), 0, 0, []⟩ : DFinished), false) from by unfold impl_ResultOf_m; exact cond_t g44 (fin_inr hE103 (rfl)))] | rfl
    try rfl
   ·rw [(show impl_ResultOf_m x0 x1 = ((⟨(⟨0, 0, [], []⟩ : DQuery), 0, 0, []⟩ : DFinished), false) from by unfold impl_ResultOf_m; exact cond_t g44 (fin_inr hE103 (rfl)))]; exact Mem.join (is := [iOwn (tSl tyCond 201) [.slice none 0 0] [], iOwn (tSl tInt 3) [.slice none 0 0] [], iOwn (tSl tyRow 73) [.slice none 0 0] []]) (js := []) (fun _ _ hs => tyFinished_join (x := (⟨(⟨0, 0, [], []⟩ : DQuery), 0, 0, []⟩ : DFinished)) hs) (hm.pick [2, 1, 0] (by decide))
 ·
  refine CM_condT rfl (nf g44) ?_
  refine sr ?_
  let K8 : List Value := [.int .i64 0, .int .i64 0, .slice none 0 0, .slice none 0 0, .int .i64 0, .int .i64 0, .slice none 0 0]
  refine wv (fun W hm => rv_build (cs := K8) rfl (by kernel_rfl)) ?_
  refine sb 0 K8 [iBox p41 47 K3] (fun W hm => hm) type37 ?_
  refine wa (nt' (CM_ret (QM_then_ret ?_)))
  refine QM_items (fun W hm => hm.addNil (E := tyCond) (e := 201)) ?_
  refine QM_items (fun W hm => hm.addNil (E := tInt) (e := 3)) ?_
  refine QM_items (fun W hm => hm.addNil (E := tyRow) (e := 73)) ?_
  refine QM_r2 rfl (RR_cell (n := 3) rfl rfl underlying37 type37 rfl) (RR_tmp rfl) (fun W hm => ⟨K8, ?_, ?_⟩)
  ·first | rw [(show impl_ResultOf_m x0 x1 = ((⟨(⟨0, 0, [], []⟩ : DQuery), 0, 0, []⟩ : DFinished), false) from by unfold impl_ResultOf_m; exact cond_f g44 (rfl))] | rfl
   try rfl
  ·rw [(show impl_ResultOf_m x0 x1 = ((⟨(⟨0, 0, [], []⟩ : DQuery), 0, 0, []⟩ : DFinished), false) from by unfold impl_ResultOf_m; exact cond_f g44 (rfl))]; exact Mem.join (is := [iOwn (tSl tyCond 201) [.slice none 0 0] [], iOwn (tSl tInt 3) [.slice none 0 0] [], iOwn (tSl tyRow 73) [.slice none 0 0] []]) (js := []) (fun _ _ hs => tyFinished_join (x := (⟨(⟨0, 0, [], []⟩ : DQuery), 0, 0, []⟩ : DFinished)) hs) (hm.pick [2, 1, 0] (by decide))

def laws_eqCond_m (x0 : DCond) (x1 : DCond) : Bool :=
 cond (x0.Field != x1.Field) false (cond (x0.Low != x1.Low) false (cond (x0.High != x1.High) false true))
theorem cb204 : Cb Tryz.prog 204 := ⟨f204, _, func204, rfl, by decide⟩
theorem laws_eqCond_c (w : World) (z0 : List Value) (x0 : DCond) (z1 : List Value) (x1 : DCond) (r_0 : tyCond.rd w w.heap.size z0 x0) (r_1 : tyCond.rd w w.heap.size z1 x1) :
  Calls Tryz.prog 204 #[.agg z0.toArray, .agg z1.toArray] w fun e w' => e = .returned (.bool (laws_eqCond_m x0 x1)) ∧ Below w.heap.size w w' := by
 obtain rfl := tyCond_rd r_0
 obtain rfl := tyCond_rd r_1
 refine ce2 (L := [(0, .agg #[.int .i64 x0.Field, .int .i64 x0.Low, .int .i64 x0.High]), (1, .agg #[.int .i64 x1.Field, .int .i64 x1.Low, .int .i64 x1.High])]) (N := 20) func204 ?_
 refine sr ?_
 refine WM_box rfl (Wd_none rfl) (by decide) (fun p1 => ?_)
 refine WM_box rfl (Wd_none rfl) (by decide) (fun p2 => ?_)
 refine wa (nt' (CM_seq (sr ?_)))
 refine wv (vf underlying201 rfl type3) ?_
 refine wv (vl 1 0 underlying3) ?_
 refine wv (vf underlying201 rfl type3) ?_
 refine wv (vl 0 0 underlying3) ?_
 refine wv vneq ?_
 refine nt' ?_
 by_cases h3 : x0.Field = x1.Field
 ·have g4 : (x0.Field != x1.Field) = false := by rw [h3]; exact bne_self_eq_false _
  refine CM_condF rfl g4 ?_
  refine CM_skip (QM_then (CM_seq (sr ?_)))
  refine wv (vf underlying201 rfl type3) ?_
  refine wv (vl 1 1 underlying3) ?_
  refine wv (vf underlying201 rfl type3) ?_
  refine wv (vl 0 1 underlying3) ?_
  refine wv vneq ?_
  refine nt' ?_
  by_cases h5 : x0.Low = x1.Low
  ·have g6 : (x0.Low != x1.Low) = false := by rw [h5]; exact bne_self_eq_false _
   refine CM_condF rfl g6 ?_
   refine CM_skip (QM_then (CM_seq (sr ?_)))
   refine wv (vf underlying201 rfl type3) ?_
   refine wv (vl 1 2 underlying3) ?_
   refine wv (vf underlying201 rfl type3) ?_
   refine wv (vl 0 2 underlying3) ?_
   refine wv vneq ?_
   refine nt' ?_
   by_cases h7 : x0.High = x1.High
   ·have g8 : (x0.High != x1.High) = false := by rw [h7]; exact bne_self_eq_false _
    refine CM_condF rfl g8 ?_
    refine CM_skip (QM_then (sr (wa (nt' (CM_ret ?_)))))
    exact rtb (h := by unfold laws_eqCond_m; exact cond_f g4 (cond_f g6 (cond_f g8 (rfl))))
   ·have g8 : (x0.High != x1.High) = true := bne_iff_ne.2 h7
    refine CM_condT rfl g8 ?_
    refine sr (wa (nt' (CM_ret (QM_then_ret ?_))))
    exact rtb (h := by unfold laws_eqCond_m; exact cond_f g4 (cond_f g6 (cond_t g8 (rfl))))
  ·have g6 : (x0.Low != x1.Low) = true := bne_iff_ne.2 h5
   refine CM_condT rfl g6 ?_
   refine sr (wa (nt' (CM_ret (QM_then_ret ?_))))
   exact rtb (h := by unfold laws_eqCond_m; exact cond_f g4 (cond_t g6 (rfl)))
 ·have g4 : (x0.Field != x1.Field) = true := bne_iff_ne.2 h3
  refine CM_condT rfl g4 ?_
  refine sr (wa (nt' (CM_ret (QM_then_ret ?_))))
  exact rtb (h := by unfold laws_eqCond_m; exact cond_t g4 (rfl))

def laws_eqCondS_b1 (x0 : (List DCond)) (x1 : (List DCond)) (k13 : Nat) : Bool ⊕ (Unit) :=
 cond (laws_eqCond_m (gt x0 k13) (gt x1 k13)) (Sum.inr ()) (Sum.inl false)
def laws_eqCondS_m (x0 : (List DCond)) (x1 : (List DCond)) : Bool :=
 cond (((x0.length : Nat) : Int) != ((x1.length : Nat) : Int)) false (Sum.elim id (fun (s : Unit) => true) (rng (R := Bool) (fun k (_ : Unit) => laws_eqCondS_b1 x0 x1 k) (x0.length - 0) 0 ()))
theorem cb145 : Cb Tryz.prog 145 := ⟨f145, _, func145, rfl, by decide⟩
theorem laws_eqCondS_c (w : World) (z0 : Value) (x0 : (List DCond)) (z1 : Value) (x1 : (List DCond)) (r_0 : rdS tyCond w w.heap.size z0 x0) (r_1 : rdS tyCond w w.heap.size z1 x1) :
  Calls Tryz.prog 145 #[z0, z1] w fun e w' => e = .returned (.bool (laws_eqCondS_m x0 x1)) ∧ Below w.heap.size w w' := by
 have r5 := r_0
 obtain ⟨m1, A2, c3, rfl, q4⟩ := r_0
 have r10 := r_1
 obtain ⟨m6, A7, c8, rfl, q9⟩ := r_1
 refine ce2 (L := [(0, .slice A2 x0.length c3), (1, .slice A7 x1.length c8)]) (N := 27) func145 ?_
 refine sr (wa (nt' (CM_seq (sr (wm ?_)))))
 refine wv (vlen underlying32) ?_
 refine wm ?_
 refine wv (vlen underlying32) ?_
 refine wv vneq ?_
 refine nt' ?_
 by_cases h11 : ((x0.length : Nat) : Int) = ((x1.length : Nat) : Int)
 ·have g12 : (((x0.length : Nat) : Int) != ((x1.length : Nat) : Int)) = false := by rw [h11]; exact bne_self_eq_false _
  refine CM_condF rfl g12 ?_
  refine CM_skip (QM_then (CM_seq (sr (wa (nt' (CM_block ?_))))))
  let F1 := fun k (_ : Unit) => laws_eqCondS_b1 x0 x1 k
  let R2 := rng (R := Bool) F1
  refine CM_loop (σ := Nat × (Unit) × (Unit)) (fun s => [(0, .slice A2 x0.length c3), (1, .slice A7 x1.length c8), (5, .int .i64 ((s.1 : Nat) : Int))]) (fun s => []) (fun s => s.1 ≤ x0.length ∧ R2 (x0.length - s.1) s.1 s.2.1 = R2 (x0.length - 0) 0 ()) (fun s => x0.length - s.1) (0, (), ()) sl3 (fun W hm => hm) ⟨(by omega), rfl⟩ ?_
  rintro ⟨k13, ⟨⟩, ⟨⟩⟩ H16
  obtain ⟨hk14, hF15⟩ : k13 ≤ x0.length ∧ R2 (x0.length - k13) k13 () = R2 (x0.length - 0) 0 () := H16
  show CM Tryz.prog 27 _ _ _ _ [(0, .slice A2 x0.length c3), (1, .slice A7 x1.length c8), (5, .int .i64 ((k13 : Nat) : Int))] []
  refine CM_seq (sr (wm (wm ?_)))
  refine wv (vlen underlying32) ?_
  refine wv vlss ?_
  refine nt' ?_
  by_cases hl17 : k13 < x0.length
  ·have g18 : (decide (((k13 : Nat) : Int) < ((x0.length : Nat) : Int))) = true := decide_eq_true (by omega)
   refine CM_condT rfl g18 ?_
   refine CM_skip (QM_then (CM_seq (CM_block (CM_seq ?_))))
   refine CM_regionD (by kernel_rfl) (by kernel_rfl) ?_
   refine qm (qm ?_)
   obtain ⟨a19, rfl, hb20, he21⟩ := q4 (by omega)
   refine qv (vix 3 k13 underlying32 type201) ?_
   obtain ⟨_, e23, hc22⟩ := he21 k13 _ (gt_some (show k13 < x0.length from by omega))
   obtain rfl := tyCond_rd e23
   refine qv (fun W hm => rv_loadN (cs := [.int .i64 ((gt x0 k13).Field), .int .i64 ((gt x0 k13).Low), .int .i64 ((gt x0 k13).High)]) underlying201 type201 rfl rfl (hm.elCells (show (a19.add (k13 * 3)).block < w.heap.size from by rw [add_block]; exact hb20.1) hc22)) ?_
   refine qm (qm ?_)
   obtain ⟨a24, rfl, hb25, he26⟩ := q9 (by omega)
   refine qv (vix 3 k13 underlying32 type201) ?_
   obtain ⟨_, e28, hc27⟩ := he26 k13 _ (gt_some (show k13 < x1.length from by omega))
   obtain rfl := tyCond_rd e28
   refine qv (fun W hm => rv_loadN (cs := [.int .i64 ((gt x1 k13).Field), .int .i64 ((gt x1 k13).Low), .int .i64 ((gt x1 k13).High)]) underlying201 type201 rfl rfl (hm.elCells (show (a24.add (k13 * 3)).block < w.heap.size from by rw [add_block]; exact hb25.1) hc27)) ?_
   refine QR_callV (cl_fn cb204 rfl) (fun W hm => laws_eqCond_c W _ (gt x0 k13) _ (gt x1 k13) (tyCond_mk (x := (gt x0 k13))) (tyCond_mk (x := (gt x1 k13)))) (Wd_none rfl) (by decide) ?_
   refine qv vnot ?_
   refine nq' ?_
   rcases Bool.eq_false_or_eq_true (laws_eqCond_m (gt x0 k13) (gt x1 k13)) with g30 | g30
   ·
    refine CM_condF rfl (nt g30) ?_
    refine CM_skip (QM_block_normal (QM_then (CM_region (wm ?_))))
    refine wv (vadN k13 1 (by omega)) ?_
    refine wa (WM_nil ?_)
    have hn31 := rng_next (R := Bool) (body := F1) (k := k13) (s := ()) (s' := ()) (show k13 < x0.length from by omega) (show laws_eqCondS_b1 x0 x1 k13 = Sum.inr () from by unfold laws_eqCondS_b1; exact cond_t g30 (rfl)) hF15
    exact QM_round (k13 + 1, (), ()) sl3 (fun W hm => hm) ⟨(by omega), hn31⟩ (rl (by omega))
   ·
    refine CM_condT rfl (nf g30) ?_
    refine sr (wa (nt' (CM_ret (QM_block_ret (QM_then_ret (QM_then_ret (QM_block_ret (QM_then_ret ?_))))))))
    exact rtb (h := by unfold laws_eqCondS_m; exact cond_f g12 (fin_inl (rng_ret (body := F1) (k := k13) (s := ()) (show k13 < x0.length from by omega) (show laws_eqCondS_b1 x0 x1 k13 = Sum.inl false from by unfold laws_eqCondS_b1; exact cond_f g30 (rfl)) hF15) rfl))
  ·have g18 : (decide (((k13 : Nat) : Int) < ((x0.length : Nat) : Int))) = false := decide_eq_false (by omega)
   refine CM_condF rfl g18 ?_
   refine CM_exit (QM_then_exit (QM_then_exit ?_))
   have hE32 : R2 (x0.length - 0) 0 () = Sum.inr () := rng_end hl17 hF15
   refine QM_block_hit (QM_then (sr (wa (nt' (CM_ret ?_)))))
   exact rtb (h := by unfold laws_eqCondS_m; exact cond_f g12 (fin_inr hE32 (rfl)))
 ·have g12 : (((x0.length : Nat) : Int) != ((x1.length : Nat) : Int)) = true := bne_iff_ne.2 h11
  refine CM_condT rfl g12 ?_
  refine sr (wa (nt' (CM_ret (QM_then_ret ?_))))
  exact rtb (h := by unfold laws_eqCondS_m; exact cond_t g12 (rfl))

def laws_eqIntS_b1 (x0 : (List Int)) (x1 : (List Int)) (k13 : Nat) : Bool ⊕ (Unit) :=
 cond ((gt x0 k13) != (gt x1 k13)) (Sum.inl false) (Sum.inr ())
def laws_eqIntS_m (x0 : (List Int)) (x1 : (List Int)) : Bool :=
 cond (((x0.length : Nat) : Int) != ((x1.length : Nat) : Int)) false (Sum.elim id (fun (s : Unit) => true) (rng (R := Bool) (fun k (_ : Unit) => laws_eqIntS_b1 x0 x1 k) (x0.length - 0) 0 ()))
theorem cb49 : Cb Tryz.prog 49 := ⟨f49, _, func49, rfl, by decide⟩
theorem laws_eqIntS_c (w : World) (z0 : Value) (x0 : (List Int)) (z1 : Value) (x1 : (List Int)) (r_0 : rdS tInt w w.heap.size z0 x0) (r_1 : rdS tInt w w.heap.size z1 x1) :
  Calls Tryz.prog 49 #[z0, z1] w fun e w' => e = .returned (.bool (laws_eqIntS_m x0 x1)) ∧ Below w.heap.size w w' := by
 have r5 := r_0
 obtain ⟨m1, A2, c3, rfl, q4⟩ := r_0
 have r10 := r_1
 obtain ⟨m6, A7, c8, rfl, q9⟩ := r_1
 refine ce2 (L := [(0, .slice A2 x0.length c3), (1, .slice A7 x1.length c8)]) (N := 26) func49 ?_
 refine sr (wa (nt' (CM_seq (sr (wm ?_)))))
 refine wv (vlen underlying25) ?_
 refine wm ?_
 refine wv (vlen underlying25) ?_
 refine wv vneq ?_
 refine nt' ?_
 by_cases h11 : ((x0.length : Nat) : Int) = ((x1.length : Nat) : Int)
 ·have g12 : (((x0.length : Nat) : Int) != ((x1.length : Nat) : Int)) = false := by rw [h11]; exact bne_self_eq_false _
  refine CM_condF rfl g12 ?_
  refine CM_skip (QM_then (CM_seq (sr (wa (nt' (CM_block ?_))))))
  let F1 := fun k (_ : Unit) => laws_eqIntS_b1 x0 x1 k
  let R2 := rng (R := Bool) F1
  refine CM_loop (σ := Nat × (Unit) × (Unit)) (fun s => [(0, .slice A2 x0.length c3), (1, .slice A7 x1.length c8), (5, .int .i64 ((s.1 : Nat) : Int))]) (fun s => []) (fun s => s.1 ≤ x0.length ∧ R2 (x0.length - s.1) s.1 s.2.1 = R2 (x0.length - 0) 0 ()) (fun s => x0.length - s.1) (0, (), ()) sl3 (fun W hm => hm) ⟨(by omega), rfl⟩ ?_
  rintro ⟨k13, ⟨⟩, ⟨⟩⟩ H16
  obtain ⟨hk14, hF15⟩ : k13 ≤ x0.length ∧ R2 (x0.length - k13) k13 () = R2 (x0.length - 0) 0 () := H16
  show CM Tryz.prog 26 _ _ _ _ [(0, .slice A2 x0.length c3), (1, .slice A7 x1.length c8), (5, .int .i64 ((k13 : Nat) : Int))] []
  refine CM_seq (sr (wm (wm ?_)))
  refine wv (vlen underlying25) ?_
  refine wv vlss ?_
  refine nt' ?_
  by_cases hl17 : k13 < x0.length
  ·have g18 : (decide (((k13 : Nat) : Int) < ((x0.length : Nat) : Int))) = true := decide_eq_true (by omega)
   refine CM_condT rfl g18 ?_
   refine CM_skip (QM_then (CM_seq (CM_block (CM_seq ?_))))
   refine CM_regionD (by kernel_rfl) (by kernel_rfl) ?_
   refine qm (qm ?_)
   obtain ⟨a19, rfl, hb20, he21⟩ := q4 (by omega)
   refine qv (vix 1 k13 underlying25 type3) ?_
   refine qv (fun W hm => rv_load underlying3 rfl rfl ((hm.cell0 (show (a19.add (k13 * 1)).block < w.heap.size from by rw [add_block]; exact hb20.1)).trans (rdS_int he21 k13 (by omega)))) ?_
   refine qm (qm ?_)
   obtain ⟨a22, rfl, hb23, he24⟩ := q9 (by omega)
   refine qv (vix 1 k13 underlying25 type3) ?_
   refine qv (fun W hm => rv_load underlying3 rfl rfl ((hm.cell0 (show (a22.add (k13 * 1)).block < w.heap.size from by rw [add_block]; exact hb23.1)).trans (rdS_int he24 k13 (by omega)))) ?_
   refine qv vneq ?_
   refine nq' ?_
   by_cases h25 : (gt x0 k13) = (gt x1 k13)
   ·have g26 : ((gt x0 k13) != (gt x1 k13)) = false := by rw [h25]; exact bne_self_eq_false _
    refine CM_condF rfl g26 ?_
    refine CM_skip (QM_block_normal (QM_then (CM_region (wm ?_))))
    refine wv (vadN k13 1 (by omega)) ?_
    refine wa (WM_nil ?_)
    have hn27 := rng_next (R := Bool) (body := F1) (k := k13) (s := ()) (s' := ()) (show k13 < x0.length from by omega) (show laws_eqIntS_b1 x0 x1 k13 = Sum.inr () from by unfold laws_eqIntS_b1; exact cond_f g26 (rfl)) hF15
    exact QM_round (k13 + 1, (), ()) sl3 (fun W hm => hm) ⟨(by omega), hn27⟩ (rl (by omega))
   ·have g26 : ((gt x0 k13) != (gt x1 k13)) = true := bne_iff_ne.2 h25
    refine CM_condT rfl g26 ?_
    refine sr (wa (nt' (CM_ret (QM_block_ret (QM_then_ret (QM_then_ret (QM_block_ret (QM_then_ret ?_))))))))
    exact rtb (h := by unfold laws_eqIntS_m; exact cond_f g12 (fin_inl (rng_ret (body := F1) (k := k13) (s := ()) (show k13 < x0.length from by omega) (show laws_eqIntS_b1 x0 x1 k13 = Sum.inl false from by unfold laws_eqIntS_b1; exact cond_t g26 (rfl)) hF15) rfl))
  ·have g18 : (decide (((k13 : Nat) : Int) < ((x0.length : Nat) : Int))) = false := decide_eq_false (by omega)
   refine CM_condF rfl g18 ?_
   refine CM_exit (QM_then_exit (QM_then_exit ?_))
   have hE28 : R2 (x0.length - 0) 0 () = Sum.inr () := rng_end hl17 hF15
   refine QM_block_hit (QM_then (sr (wa (nt' (CM_ret ?_)))))
   exact rtb (h := by unfold laws_eqIntS_m; exact cond_f g12 (fin_inr hE28 (rfl)))
 ·have g12 : (((x0.length : Nat) : Int) != ((x1.length : Nat) : Int)) = true := bne_iff_ne.2 h11
  refine CM_condT rfl g12 ?_
  refine sr (wa (nt' (CM_ret (QM_then_ret ?_))))
  exact rtb (h := by unfold laws_eqIntS_m; exact cond_t g12 (rfl))

def laws_eqQuery_m (x0 : DQuery) (x1 : DQuery) : Bool :=
 cond (x0.Id != x1.Id) false (cond (x0.Tenant != x1.Tenant) false (cond (laws_eqCondS_m x0.Conds x1.Conds) (cond (laws_eqIntS_m x0.Out x1.Out) true false) false))
theorem cb54 : Cb Tryz.prog 54 := ⟨f54, _, func54, rfl, by decide⟩
theorem laws_eqQuery_c (w : World) (z0 : List Value) (x0 : DQuery) (z1 : List Value) (x1 : DQuery) (r_0 : tyQuery.rd w w.heap.size z0 x0) (r_1 : tyQuery.rd w w.heap.size z1 x1) :
  Calls Tryz.prog 54 #[.agg z0.toArray, .agg z1.toArray] w fun e w' => e = .returned (.bool (laws_eqQuery_m x0 x1)) ∧ Below w.heap.size w w' := by
 obtain ⟨v1, v3, rfl, r2, r4⟩ := tyQuery_rd r_0
 have r9 := r2
 obtain ⟨m5, A6, c7, rfl, q8⟩ := r2
 have r14 := r4
 obtain ⟨m10, A11, c12, rfl, q13⟩ := r4
 obtain ⟨v15, v17, rfl, r16, r18⟩ := tyQuery_rd r_1
 have r23 := r16
 obtain ⟨m19, A20, c21, rfl, q22⟩ := r16
 have r28 := r18
 obtain ⟨m24, A25, c26, rfl, q27⟩ := r18
 refine ce2 (L := [(0, .agg #[.int .i64 x0.Id, .int .i64 x0.Tenant, .slice A6 x0.Conds.length c7, .slice A11 x0.Out.length c12]), (1, .agg #[.int .i64 x1.Id, .int .i64 x1.Tenant, .slice A20 x1.Conds.length c21, .slice A25 x1.Out.length c26])]) (N := 27) func54 ?_
 refine sr ?_
 refine WM_box rfl (Wd_none rfl) (by decide) (fun p29 => ?_)
 refine WM_box rfl (Wd_none rfl) (by decide) (fun p30 => ?_)
 refine wa (nt' (CM_seq (sr ?_)))
 refine wv (vf underlying34 rfl type3) ?_
 refine wv (vl 1 0 underlying3) ?_
 refine wv (vf underlying34 rfl type3) ?_
 refine wv (vl 0 0 underlying3) ?_
 refine wv vneq ?_
 refine nt' ?_
 by_cases h31 : x0.Id = x1.Id
 ·have g32 : (x0.Id != x1.Id) = false := by rw [h31]; exact bne_self_eq_false _
  refine CM_condF rfl g32 ?_
  refine CM_skip (QM_then (CM_seq (sr ?_)))
  refine wv (vf underlying34 rfl type3) ?_
  refine wv (vl 1 1 underlying3) ?_
  refine wv (vf underlying34 rfl type3) ?_
  refine wv (vl 0 1 underlying3) ?_
  refine wv vneq ?_
  refine nt' ?_
  by_cases h33 : x0.Tenant = x1.Tenant
  ·have g34 : (x0.Tenant != x1.Tenant) = false := by rw [h33]; exact bne_self_eq_false _
   refine CM_condF rfl g34 ?_
   refine CM_skip (QM_then (CM_seq (sr ?_)))
   refine wv (vf underlying34 rfl type32) ?_
   refine wv (vl 1 2 underlying32) ?_
   refine wv (vf underlying34 rfl type32) ?_
   refine wv (vl 0 2 underlying32) ?_
   refine wcv (cl_fn cb145 rfl) (fun W hm => laws_eqCondS_c W _ x0.Conds _ x1.Conds (hm.rdS0 r9) (hm.rdS0 r23)) ?_
   refine wv vnot ?_
   refine nt' ?_
   rcases Bool.eq_false_or_eq_true (laws_eqCondS_m x0.Conds x1.Conds) with g36 | g36
   ·
    refine CM_condF rfl (nt g36) ?_
    refine CM_skip (QM_then (CM_seq (sr ?_)))
    refine wv (vf underlying34 rfl type25) ?_
    refine wv (vl 1 3 underlying25) ?_
    refine wv (vf underlying34 rfl type25) ?_
    refine wv (vl 0 3 underlying25) ?_
    refine wcv (cl_fn cb49 rfl) (fun W hm => laws_eqIntS_c W _ x0.Out _ x1.Out (hm.rdS0 r14) (hm.rdS0 r28)) ?_
    refine wv vnot ?_
    refine nt' ?_
    rcases Bool.eq_false_or_eq_true (laws_eqIntS_m x0.Out x1.Out) with g38 | g38
    ·
     refine CM_condF rfl (nt g38) ?_
     refine CM_skip (QM_then (sr (wa (nt' (CM_ret ?_)))))
     exact rtb (h := by unfold laws_eqQuery_m; exact cond_f g32 (cond_f g34 (cond_t g36 (cond_t g38 (rfl)))))
    ·
     refine CM_condT rfl (nf g38) ?_
     refine sr (wa (nt' (CM_ret (QM_then_ret ?_))))
     exact rtb (h := by unfold laws_eqQuery_m; exact cond_f g32 (cond_f g34 (cond_t g36 (cond_f g38 (rfl)))))
   ·
    refine CM_condT rfl (nf g36) ?_
    refine sr (wa (nt' (CM_ret (QM_then_ret ?_))))
    exact rtb (h := by unfold laws_eqQuery_m; exact cond_f g32 (cond_f g34 (cond_f g36 (rfl))))
  ·have g34 : (x0.Tenant != x1.Tenant) = true := bne_iff_ne.2 h33
   refine CM_condT rfl g34 ?_
   refine sr (wa (nt' (CM_ret (QM_then_ret ?_))))
   exact rtb (h := by unfold laws_eqQuery_m; exact cond_f g32 (cond_t g34 (rfl)))
 ·have g32 : (x0.Id != x1.Id) = true := bne_iff_ne.2 h31
  refine CM_condT rfl g32 ?_
  refine sr (wa (nt' (CM_ret (QM_then_ret ?_))))
  exact rtb (h := by unfold laws_eqQuery_m; exact cond_t g32 (rfl))

def laws_eqRow_m (x0 : DRow) (x1 : DRow) : Bool :=
 cond (x0.Id != x1.Id) false (cond (laws_eqIntS_m x0.Values x1.Values) true false)
theorem cb149 : Cb Tryz.prog 149 := ⟨f149, _, func149, rfl, by decide⟩
theorem laws_eqRow_c (w : World) (z0 : List Value) (x0 : DRow) (z1 : List Value) (x1 : DRow) (r_0 : tyRow.rd w w.heap.size z0 x0) (r_1 : tyRow.rd w w.heap.size z1 x1) :
  Calls Tryz.prog 149 #[.agg z0.toArray, .agg z1.toArray] w fun e w' => e = .returned (.bool (laws_eqRow_m x0 x1)) ∧ Below w.heap.size w w' := by
 obtain ⟨v1, rfl, r2⟩ := tyRow_rd r_0
 have r7 := r2
 obtain ⟨m3, A4, c5, rfl, q6⟩ := r2
 obtain ⟨v8, rfl, r9⟩ := tyRow_rd r_1
 have r14 := r9
 obtain ⟨m10, A11, c12, rfl, q13⟩ := r9
 refine ce2 (L := [(0, .agg #[.int .i64 x0.Id, .slice A4 x0.Values.length c5]), (1, .agg #[.int .i64 x1.Id, .slice A11 x1.Values.length c12])]) (N := 16) func149 ?_
 refine sr ?_
 refine WM_box rfl (Wd_none rfl) (by decide) (fun p15 => ?_)
 refine WM_box rfl (Wd_none rfl) (by decide) (fun p16 => ?_)
 refine wa (nt' (CM_seq (sr ?_)))
 refine wv (vf underlying73 rfl type3) ?_
 refine wv (vl 1 0 underlying3) ?_
 refine wv (vf underlying73 rfl type3) ?_
 refine wv (vl 0 0 underlying3) ?_
 refine wv vneq ?_
 refine nt' ?_
 by_cases h17 : x0.Id = x1.Id
 ·have g18 : (x0.Id != x1.Id) = false := by rw [h17]; exact bne_self_eq_false _
  refine CM_condF rfl g18 ?_
  refine CM_skip (QM_then (CM_seq (sr ?_)))
  refine wv (vf underlying73 rfl type25) ?_
  refine wv (vl 1 1 underlying25) ?_
  refine wv (vf underlying73 rfl type25) ?_
  refine wv (vl 0 1 underlying25) ?_
  refine wcv (cl_fn cb49 rfl) (fun W hm => laws_eqIntS_c W _ x0.Values _ x1.Values (hm.rdS0 r7) (hm.rdS0 r14)) ?_
  refine wv vnot ?_
  refine nt' ?_
  rcases Bool.eq_false_or_eq_true (laws_eqIntS_m x0.Values x1.Values) with g20 | g20
  ·
   refine CM_condF rfl (nt g20) ?_
   refine CM_skip (QM_then (sr (wa (nt' (CM_ret ?_)))))
   exact rtb (h := by unfold laws_eqRow_m; exact cond_f g18 (cond_t g20 (rfl)))
  ·
   refine CM_condT rfl (nf g20) ?_
   refine sr (wa (nt' (CM_ret (QM_then_ret ?_))))
   exact rtb (h := by unfold laws_eqRow_m; exact cond_f g18 (cond_f g20 (rfl)))
 ·have g18 : (x0.Id != x1.Id) = true := bne_iff_ne.2 h17
  refine CM_condT rfl g18 ?_
  refine sr (wa (nt' (CM_ret (QM_then_ret ?_))))
  exact rtb (h := by unfold laws_eqRow_m; exact cond_t g18 (rfl))

def laws_eqRowS_b1 (x0 : (List DRow)) (x1 : (List DRow)) (k13 : Nat) : Bool ⊕ (Unit) :=
 cond (laws_eqRow_m (gt x0 k13) (gt x1 k13)) (Sum.inr ()) (Sum.inl false)
def laws_eqRowS_m (x0 : (List DRow)) (x1 : (List DRow)) : Bool :=
 cond (((x0.length : Nat) : Int) != ((x1.length : Nat) : Int)) false (Sum.elim id (fun (s : Unit) => true) (rng (R := Bool) (fun k (_ : Unit) => laws_eqRowS_b1 x0 x1 k) (x0.length - 0) 0 ()))
theorem cb87 : Cb Tryz.prog 87 := ⟨f87, _, func87, rfl, by decide⟩
theorem laws_eqRowS_c (w : World) (z0 : Value) (x0 : (List DRow)) (z1 : Value) (x1 : (List DRow)) (r_0 : rdS tyRow w w.heap.size z0 x0) (r_1 : rdS tyRow w w.heap.size z1 x1) :
  Calls Tryz.prog 87 #[z0, z1] w fun e w' => e = .returned (.bool (laws_eqRowS_m x0 x1)) ∧ Below w.heap.size w w' := by
 have r5 := r_0
 obtain ⟨m1, A2, c3, rfl, q4⟩ := r_0
 have r10 := r_1
 obtain ⟨m6, A7, c8, rfl, q9⟩ := r_1
 refine ce2 (L := [(0, .slice A2 x0.length c3), (1, .slice A7 x1.length c8)]) (N := 27) func87 ?_
 refine sr (wa (nt' (CM_seq (sr (wm ?_)))))
 refine wv (vlen underlying35) ?_
 refine wm ?_
 refine wv (vlen underlying35) ?_
 refine wv vneq ?_
 refine nt' ?_
 by_cases h11 : ((x0.length : Nat) : Int) = ((x1.length : Nat) : Int)
 ·have g12 : (((x0.length : Nat) : Int) != ((x1.length : Nat) : Int)) = false := by rw [h11]; exact bne_self_eq_false _
  refine CM_condF rfl g12 ?_
  refine CM_skip (QM_then (CM_seq (sr (wa (nt' (CM_block ?_))))))
  let F1 := fun k (_ : Unit) => laws_eqRowS_b1 x0 x1 k
  let R2 := rng (R := Bool) F1
  refine CM_loop (σ := Nat × (Unit) × (Unit)) (fun s => [(0, .slice A2 x0.length c3), (1, .slice A7 x1.length c8), (5, .int .i64 ((s.1 : Nat) : Int))]) (fun s => []) (fun s => s.1 ≤ x0.length ∧ R2 (x0.length - s.1) s.1 s.2.1 = R2 (x0.length - 0) 0 ()) (fun s => x0.length - s.1) (0, (), ()) sl3 (fun W hm => hm) ⟨(by omega), rfl⟩ ?_
  rintro ⟨k13, ⟨⟩, ⟨⟩⟩ H16
  obtain ⟨hk14, hF15⟩ : k13 ≤ x0.length ∧ R2 (x0.length - k13) k13 () = R2 (x0.length - 0) 0 () := H16
  show CM Tryz.prog 27 _ _ _ _ [(0, .slice A2 x0.length c3), (1, .slice A7 x1.length c8), (5, .int .i64 ((k13 : Nat) : Int))] []
  refine CM_seq (sr (wm (wm ?_)))
  refine wv (vlen underlying35) ?_
  refine wv vlss ?_
  refine nt' ?_
  by_cases hl17 : k13 < x0.length
  ·have g18 : (decide (((k13 : Nat) : Int) < ((x0.length : Nat) : Int))) = true := decide_eq_true (by omega)
   refine CM_condT rfl g18 ?_
   refine CM_skip (QM_then (CM_seq (CM_block (CM_seq ?_))))
   refine CM_regionD (by kernel_rfl) (by kernel_rfl) ?_
   refine qm (qm ?_)
   obtain ⟨a19, rfl, hb20, he21⟩ := q4 (by omega)
   refine qv (vix 2 k13 underlying35 type73) ?_
   obtain ⟨_, e25, hc22⟩ := he21 k13 _ (gt_some (show k13 < x0.length from by omega))
   obtain ⟨v23, rfl, r24⟩ := tyRow_rd e25
   have r30 := r24
   obtain ⟨m26, A27, c28, rfl, q29⟩ := r24
   refine qv (fun W hm => rv_loadN (cs := [.int .i64 ((gt x0 k13).Id), .slice A27 ((gt x0 k13).Values).length c28]) underlying73 type73 rfl rfl (hm.elCells (show (a19.add (k13 * 2)).block < w.heap.size from by rw [add_block]; exact hb20.1) hc22)) ?_
   refine qm (qm ?_)
   obtain ⟨a31, rfl, hb32, he33⟩ := q9 (by omega)
   refine qv (vix 2 k13 underlying35 type73) ?_
   obtain ⟨_, e37, hc34⟩ := he33 k13 _ (gt_some (show k13 < x1.length from by omega))
   obtain ⟨v35, rfl, r36⟩ := tyRow_rd e37
   have r42 := r36
   obtain ⟨m38, A39, c40, rfl, q41⟩ := r36
   refine qv (fun W hm => rv_loadN (cs := [.int .i64 ((gt x1 k13).Id), .slice A39 ((gt x1 k13).Values).length c40]) underlying73 type73 rfl rfl (hm.elCells (show (a31.add (k13 * 2)).block < w.heap.size from by rw [add_block]; exact hb32.1) hc34)) ?_
   refine QR_callV (cl_fn cb149 rfl) (fun W hm => laws_eqRow_c W _ (gt x0 k13) _ (gt x1 k13) (tyRow_mk (x := (gt x0 k13)) (hm.rdS0 r30)) (tyRow_mk (x := (gt x1 k13)) (hm.rdS0 r42))) (Wd_none rfl) (by decide) ?_
   refine qv vnot ?_
   refine nq' ?_
   rcases Bool.eq_false_or_eq_true (laws_eqRow_m (gt x0 k13) (gt x1 k13)) with g44 | g44
   ·
    refine CM_condF rfl (nt g44) ?_
    refine CM_skip (QM_block_normal (QM_then (CM_region (wm ?_))))
    refine wv (vadN k13 1 (by omega)) ?_
    refine wa (WM_nil ?_)
    have hn45 := rng_next (R := Bool) (body := F1) (k := k13) (s := ()) (s' := ()) (show k13 < x0.length from by omega) (show laws_eqRowS_b1 x0 x1 k13 = Sum.inr () from by unfold laws_eqRowS_b1; exact cond_t g44 (rfl)) hF15
    exact QM_round (k13 + 1, (), ()) sl3 (fun W hm => hm) ⟨(by omega), hn45⟩ (rl (by omega))
   ·
    refine CM_condT rfl (nf g44) ?_
    refine sr (wa (nt' (CM_ret (QM_block_ret (QM_then_ret (QM_then_ret (QM_block_ret (QM_then_ret ?_))))))))
    exact rtb (h := by unfold laws_eqRowS_m; exact cond_f g12 (fin_inl (rng_ret (body := F1) (k := k13) (s := ()) (show k13 < x0.length from by omega) (show laws_eqRowS_b1 x0 x1 k13 = Sum.inl false from by unfold laws_eqRowS_b1; exact cond_f g44 (rfl)) hF15) rfl))
  ·have g18 : (decide (((k13 : Nat) : Int) < ((x0.length : Nat) : Int))) = false := decide_eq_false (by omega)
   refine CM_condF rfl g18 ?_
   refine CM_exit (QM_then_exit (QM_then_exit ?_))
   have hE46 : R2 (x0.length - 0) 0 () = Sum.inr () := rng_end hl17 hF15
   refine QM_block_hit (QM_then (sr (wa (nt' (CM_ret ?_)))))
   exact rtb (h := by unfold laws_eqRowS_m; exact cond_f g12 (fin_inr hE46 (rfl)))
 ·have g12 : (((x0.length : Nat) : Int) != ((x1.length : Nat) : Int)) = true := bne_iff_ne.2 h11
  refine CM_condT rfl g12 ?_
  refine sr (wa (nt' (CM_ret (QM_then_ret ?_))))
  exact rtb (h := by unfold laws_eqRowS_m; exact cond_t g12 (rfl))

def laws_eqFinished_m (x0 : DFinished) (x1 : DFinished) : Bool :=
 cond (laws_eqQuery_m x0.Query x1.Query) (cond (x0.Time != x1.Time) false (cond (x0.Steps != x1.Steps) false (cond (laws_eqRowS_m x0.Rows x1.Rows) true false))) false
theorem cb18 : Cb Tryz.prog 18 := ⟨f18, _, func18, rfl, by decide⟩
theorem laws_eqFinished_c (w : World) (z0 : List Value) (x0 : DFinished) (z1 : List Value) (x1 : DFinished) (r_0 : tyFinished.rd w w.heap.size z0 x0) (r_1 : tyFinished.rd w w.heap.size z1 x1) :
  Calls Tryz.prog 18 #[.agg z0.toArray, .agg z1.toArray] w fun e w' => e = .returned (.bool (laws_eqFinished_m x0 x1)) ∧ Below w.heap.size w w' := by
 obtain ⟨v1, v3, v5, rfl, r2, r4, r6⟩ := tyFinished_rd r_0
 have r11 := r2
 obtain ⟨m7, A8, c9, rfl, q10⟩ := r2
 have r16 := r4
 obtain ⟨m12, A13, c14, rfl, q15⟩ := r4
 have r21 := r6
 obtain ⟨m17, A18, c19, rfl, q20⟩ := r6
 obtain ⟨v22, v24, v26, rfl, r23, r25, r27⟩ := tyFinished_rd r_1
 have r32 := r23
 obtain ⟨m28, A29, c30, rfl, q31⟩ := r23
 have r37 := r25
 obtain ⟨m33, A34, c35, rfl, q36⟩ := r25
 have r42 := r27
 obtain ⟨m38, A39, c40, rfl, q41⟩ := r27
 refine ce2 (L := [(0, .agg #[.int .i64 x0.Query.Id, .int .i64 x0.Query.Tenant, .slice A8 x0.Query.Conds.length c9, .slice A13 x0.Query.Out.length c14, .int .i64 x0.Time, .int .i64 x0.Steps, .slice A18 x0.Rows.length c19]), (1, .agg #[.int .i64 x1.Query.Id, .int .i64 x1.Query.Tenant, .slice A29 x1.Query.Conds.length c30, .slice A34 x1.Query.Out.length c35, .int .i64 x1.Time, .int .i64 x1.Steps, .slice A39 x1.Rows.length c40])]) (N := 27) func18 ?_
 refine sr ?_
 refine WM_box rfl (Wd_none rfl) (by decide) (fun p43 => ?_)
 refine WM_box rfl (Wd_none rfl) (by decide) (fun p44 => ?_)
 refine wa (nt' (CM_seq (sr ?_)))
 refine wv (vf underlying37 rfl type34) ?_
 refine wv (fun W hm => rv_loadN (cs := [.int .i64 x0.Query.Id, .int .i64 x0.Query.Tenant, .slice A8 x0.Query.Conds.length c9, .slice A13 x0.Query.Out.length c14]) underlying34 type34 rfl rfl (hm.boxPart (n := 1) rfl rfl)) ?_
 refine wv (vf underlying37 rfl type34) ?_
 refine wv (fun W hm => rv_loadN (cs := [.int .i64 x1.Query.Id, .int .i64 x1.Query.Tenant, .slice A29 x1.Query.Conds.length c30, .slice A34 x1.Query.Out.length c35]) underlying34 type34 rfl rfl (hm.boxPart (n := 0) rfl rfl)) ?_
 refine wcv (cl_fn cb54 rfl) (fun W hm => laws_eqQuery_c W _ x0.Query _ x1.Query (tyQuery_mk (x := x0.Query) (hm.rdS0 r11) (hm.rdS0 r16)) (tyQuery_mk (x := x1.Query) (hm.rdS0 r32) (hm.rdS0 r37))) ?_
 refine wv vnot ?_
 refine nt' ?_
 rcases Bool.eq_false_or_eq_true (laws_eqQuery_m x0.Query x1.Query) with g46 | g46
 ·
  refine CM_condF rfl (nt g46) ?_
  refine CM_skip (QM_then (CM_seq (sr ?_)))
  refine wv (vf underlying37 rfl type3) ?_
  refine wv (vl 1 4 underlying3) ?_
  refine wv (vf underlying37 rfl type3) ?_
  refine wv (vl 0 4 underlying3) ?_
  refine wv vneq ?_
  refine nt' ?_
  by_cases h47 : x0.Time = x1.Time
  ·have g48 : (x0.Time != x1.Time) = false := by rw [h47]; exact bne_self_eq_false _
   refine CM_condF rfl g48 ?_
   refine CM_skip (QM_then (CM_seq (sr ?_)))
   refine wv (vf underlying37 rfl type3) ?_
   refine wv (vl 1 5 underlying3) ?_
   refine wv (vf underlying37 rfl type3) ?_
   refine wv (vl 0 5 underlying3) ?_
   refine wv vneq ?_
   refine nt' ?_
   by_cases h49 : x0.Steps = x1.Steps
   ·have g50 : (x0.Steps != x1.Steps) = false := by rw [h49]; exact bne_self_eq_false _
    refine CM_condF rfl g50 ?_
    refine CM_skip (QM_then (CM_seq (sr ?_)))
    refine wv (vf underlying37 rfl type35) ?_
    refine wv (vl 1 6 underlying35) ?_
    refine wv (vf underlying37 rfl type35) ?_
    refine wv (vl 0 6 underlying35) ?_
    refine wcv (cl_fn cb87 rfl) (fun W hm => laws_eqRowS_c W _ x0.Rows _ x1.Rows (hm.rdS0 r21) (hm.rdS0 r42)) ?_
    refine wv vnot ?_
    refine nt' ?_
    rcases Bool.eq_false_or_eq_true (laws_eqRowS_m x0.Rows x1.Rows) with g52 | g52
    ·
     refine CM_condF rfl (nt g52) ?_
     refine CM_skip (QM_then (sr (wa (nt' (CM_ret ?_)))))
     exact rtb (h := by unfold laws_eqFinished_m; exact cond_t g46 (cond_f g48 (cond_f g50 (cond_t g52 (rfl)))))
    ·
     refine CM_condT rfl (nf g52) ?_
     refine sr (wa (nt' (CM_ret (QM_then_ret ?_))))
     exact rtb (h := by unfold laws_eqFinished_m; exact cond_t g46 (cond_f g48 (cond_f g50 (cond_f g52 (rfl)))))
   ·have g50 : (x0.Steps != x1.Steps) = true := bne_iff_ne.2 h49
    refine CM_condT rfl g50 ?_
    refine sr (wa (nt' (CM_ret (QM_then_ret ?_))))
    exact rtb (h := by unfold laws_eqFinished_m; exact cond_t g46 (cond_f g48 (cond_t g50 (rfl))))
  ·have g48 : (x0.Time != x1.Time) = true := bne_iff_ne.2 h47
   refine CM_condT rfl g48 ?_
   refine sr (wa (nt' (CM_ret (QM_then_ret ?_))))
   exact rtb (h := by unfold laws_eqFinished_m; exact cond_t g46 (cond_t g48 (rfl)))
 ·
  refine CM_condT rfl (nf g46) ?_
  refine sr (wa (nt' (CM_ret (QM_then_ret ?_))))
  exact rtb (h := by unfold laws_eqFinished_m; exact cond_f g46 (rfl))

def laws_eqVersion_m (x0 : DVersion) (x1 : DVersion) : Bool :=
 cond (x0.Id != x1.Id) false (cond (laws_eqIntS_m x0.Values x1.Values) (cond (x0.Born != x1.Born) false (cond (x0.Died != x1.Died) false true)) false)
theorem cb233 : Cb Tryz.prog 233 := ⟨f233, _, func233, rfl, by decide⟩
theorem laws_eqVersion_c (w : World) (z0 : List Value) (x0 : DVersion) (z1 : List Value) (x1 : DVersion) (r_0 : tyVersion.rd w w.heap.size z0 x0) (r_1 : tyVersion.rd w w.heap.size z1 x1) :
  Calls Tryz.prog 233 #[.agg z0.toArray, .agg z1.toArray] w fun e w' => e = .returned (.bool (laws_eqVersion_m x0 x1)) ∧ Below w.heap.size w w' := by
 obtain ⟨v1, rfl, r2⟩ := tyVersion_rd r_0
 have r7 := r2
 obtain ⟨m3, A4, c5, rfl, q6⟩ := r2
 obtain ⟨v8, rfl, r9⟩ := tyVersion_rd r_1
 have r14 := r9
 obtain ⟨m10, A11, c12, rfl, q13⟩ := r9
 refine ce2 (L := [(0, .agg #[.int .i64 x0.Id, .slice A4 x0.Values.length c5, .int .i64 x0.Born, .int .i64 x0.Died]), (1, .agg #[.int .i64 x1.Id, .slice A11 x1.Values.length c12, .int .i64 x1.Born, .int .i64 x1.Died])]) (N := 26) func233 ?_
 refine sr ?_
 refine WM_box rfl (Wd_none rfl) (by decide) (fun p15 => ?_)
 refine WM_box rfl (Wd_none rfl) (by decide) (fun p16 => ?_)
 refine wa (nt' (CM_seq (sr ?_)))
 refine wv (vf underlying191 rfl type3) ?_
 refine wv (vl 1 0 underlying3) ?_
 refine wv (vf underlying191 rfl type3) ?_
 refine wv (vl 0 0 underlying3) ?_
 refine wv vneq ?_
 refine nt' ?_
 by_cases h17 : x0.Id = x1.Id
 ·have g18 : (x0.Id != x1.Id) = false := by rw [h17]; exact bne_self_eq_false _
  refine CM_condF rfl g18 ?_
  refine CM_skip (QM_then (CM_seq (sr ?_)))
  refine wv (vf underlying191 rfl type25) ?_
  refine wv (vl 1 1 underlying25) ?_
  refine wv (vf underlying191 rfl type25) ?_
  refine wv (vl 0 1 underlying25) ?_
  refine wcv (cl_fn cb49 rfl) (fun W hm => laws_eqIntS_c W _ x0.Values _ x1.Values (hm.rdS0 r7) (hm.rdS0 r14)) ?_
  refine wv vnot ?_
  refine nt' ?_
  rcases Bool.eq_false_or_eq_true (laws_eqIntS_m x0.Values x1.Values) with g20 | g20
  ·
   refine CM_condF rfl (nt g20) ?_
   refine CM_skip (QM_then (CM_seq (sr ?_)))
   refine wv (vf underlying191 rfl type3) ?_
   refine wv (vl 1 2 underlying3) ?_
   refine wv (vf underlying191 rfl type3) ?_
   refine wv (vl 0 2 underlying3) ?_
   refine wv vneq ?_
   refine nt' ?_
   by_cases h21 : x0.Born = x1.Born
   ·have g22 : (x0.Born != x1.Born) = false := by rw [h21]; exact bne_self_eq_false _
    refine CM_condF rfl g22 ?_
    refine CM_skip (QM_then (CM_seq (sr ?_)))
    refine wv (vf underlying191 rfl type3) ?_
    refine wv (vl 1 3 underlying3) ?_
    refine wv (vf underlying191 rfl type3) ?_
    refine wv (vl 0 3 underlying3) ?_
    refine wv vneq ?_
    refine nt' ?_
    by_cases h23 : x0.Died = x1.Died
    ·have g24 : (x0.Died != x1.Died) = false := by rw [h23]; exact bne_self_eq_false _
     refine CM_condF rfl g24 ?_
     refine CM_skip (QM_then (sr (wa (nt' (CM_ret ?_)))))
     exact rtb (h := by unfold laws_eqVersion_m; exact cond_f g18 (cond_t g20 (cond_f g22 (cond_f g24 (rfl)))))
    ·have g24 : (x0.Died != x1.Died) = true := bne_iff_ne.2 h23
     refine CM_condT rfl g24 ?_
     refine sr (wa (nt' (CM_ret (QM_then_ret ?_))))
     exact rtb (h := by unfold laws_eqVersion_m; exact cond_f g18 (cond_t g20 (cond_f g22 (cond_t g24 (rfl)))))
   ·have g22 : (x0.Born != x1.Born) = true := bne_iff_ne.2 h21
    refine CM_condT rfl g22 ?_
    refine sr (wa (nt' (CM_ret (QM_then_ret ?_))))
    exact rtb (h := by unfold laws_eqVersion_m; exact cond_f g18 (cond_t g20 (cond_t g22 (rfl))))
  ·
   refine CM_condT rfl (nf g20) ?_
   refine sr (wa (nt' (CM_ret (QM_then_ret ?_))))
   exact rtb (h := by unfold laws_eqVersion_m; exact cond_f g18 (cond_f g20 (rfl)))
 ·have g18 : (x0.Id != x1.Id) = true := bne_iff_ne.2 h17
  refine CM_condT rfl g18 ?_
  refine sr (wa (nt' (CM_ret (QM_then_ret ?_))))
  exact rtb (h := by unfold laws_eqVersion_m; exact cond_t g18 (rfl))

def laws_eqVersionS_b1 (x0 : (List DVersion)) (x1 : (List DVersion)) (k13 : Nat) : Bool ⊕ (Unit) :=
 cond (laws_eqVersion_m (gt x0 k13) (gt x1 k13)) (Sum.inr ()) (Sum.inl false)
def laws_eqVersionS_m (x0 : (List DVersion)) (x1 : (List DVersion)) : Bool :=
 cond (((x0.length : Nat) : Int) != ((x1.length : Nat) : Int)) false (Sum.elim id (fun (s : Unit) => true) (rng (R := Bool) (fun k (_ : Unit) => laws_eqVersionS_b1 x0 x1 k) (x0.length - 0) 0 ()))
theorem cb218 : Cb Tryz.prog 218 := ⟨f218, _, func218, rfl, by decide⟩
theorem laws_eqVersionS_c (w : World) (z0 : Value) (x0 : (List DVersion)) (z1 : Value) (x1 : (List DVersion)) (r_0 : rdS tyVersion w w.heap.size z0 x0) (r_1 : rdS tyVersion w w.heap.size z1 x1) :
  Calls Tryz.prog 218 #[z0, z1] w fun e w' => e = .returned (.bool (laws_eqVersionS_m x0 x1)) ∧ Below w.heap.size w w' := by
 have r5 := r_0
 obtain ⟨m1, A2, c3, rfl, q4⟩ := r_0
 have r10 := r_1
 obtain ⟨m6, A7, c8, rfl, q9⟩ := r_1
 refine ce2 (L := [(0, .slice A2 x0.length c3), (1, .slice A7 x1.length c8)]) (N := 27) func218 ?_
 refine sr (wa (nt' (CM_seq (sr (wm ?_)))))
 refine wv (vlen underlying131) ?_
 refine wm ?_
 refine wv (vlen underlying131) ?_
 refine wv vneq ?_
 refine nt' ?_
 by_cases h11 : ((x0.length : Nat) : Int) = ((x1.length : Nat) : Int)
 ·have g12 : (((x0.length : Nat) : Int) != ((x1.length : Nat) : Int)) = false := by rw [h11]; exact bne_self_eq_false _
  refine CM_condF rfl g12 ?_
  refine CM_skip (QM_then (CM_seq (sr (wa (nt' (CM_block ?_))))))
  let F1 := fun k (_ : Unit) => laws_eqVersionS_b1 x0 x1 k
  let R2 := rng (R := Bool) F1
  refine CM_loop (σ := Nat × (Unit) × (Unit)) (fun s => [(0, .slice A2 x0.length c3), (1, .slice A7 x1.length c8), (5, .int .i64 ((s.1 : Nat) : Int))]) (fun s => []) (fun s => s.1 ≤ x0.length ∧ R2 (x0.length - s.1) s.1 s.2.1 = R2 (x0.length - 0) 0 ()) (fun s => x0.length - s.1) (0, (), ()) sl3 (fun W hm => hm) ⟨(by omega), rfl⟩ ?_
  rintro ⟨k13, ⟨⟩, ⟨⟩⟩ H16
  obtain ⟨hk14, hF15⟩ : k13 ≤ x0.length ∧ R2 (x0.length - k13) k13 () = R2 (x0.length - 0) 0 () := H16
  show CM Tryz.prog 27 _ _ _ _ [(0, .slice A2 x0.length c3), (1, .slice A7 x1.length c8), (5, .int .i64 ((k13 : Nat) : Int))] []
  refine CM_seq (sr (wm (wm ?_)))
  refine wv (vlen underlying131) ?_
  refine wv vlss ?_
  refine nt' ?_
  by_cases hl17 : k13 < x0.length
  ·have g18 : (decide (((k13 : Nat) : Int) < ((x0.length : Nat) : Int))) = true := decide_eq_true (by omega)
   refine CM_condT rfl g18 ?_
   refine CM_skip (QM_then (CM_seq (CM_block (CM_seq ?_))))
   refine CM_regionD (by kernel_rfl) (by kernel_rfl) ?_
   refine qm (qm ?_)
   obtain ⟨a19, rfl, hb20, he21⟩ := q4 (by omega)
   refine qv (vix 4 k13 underlying131 type191) ?_
   obtain ⟨_, e25, hc22⟩ := he21 k13 _ (gt_some (show k13 < x0.length from by omega))
   obtain ⟨v23, rfl, r24⟩ := tyVersion_rd e25
   have r30 := r24
   obtain ⟨m26, A27, c28, rfl, q29⟩ := r24
   refine qv (fun W hm => rv_loadN (cs := [.int .i64 ((gt x0 k13).Id), .slice A27 ((gt x0 k13).Values).length c28, .int .i64 ((gt x0 k13).Born), .int .i64 ((gt x0 k13).Died)]) underlying191 type191 rfl rfl (hm.elCells (show (a19.add (k13 * 4)).block < w.heap.size from by rw [add_block]; exact hb20.1) hc22)) ?_
   refine qm (qm ?_)
   obtain ⟨a31, rfl, hb32, he33⟩ := q9 (by omega)
   refine qv (vix 4 k13 underlying131 type191) ?_
   obtain ⟨_, e37, hc34⟩ := he33 k13 _ (gt_some (show k13 < x1.length from by omega))
   obtain ⟨v35, rfl, r36⟩ := tyVersion_rd e37
   have r42 := r36
   obtain ⟨m38, A39, c40, rfl, q41⟩ := r36
   refine qv (fun W hm => rv_loadN (cs := [.int .i64 ((gt x1 k13).Id), .slice A39 ((gt x1 k13).Values).length c40, .int .i64 ((gt x1 k13).Born), .int .i64 ((gt x1 k13).Died)]) underlying191 type191 rfl rfl (hm.elCells (show (a31.add (k13 * 4)).block < w.heap.size from by rw [add_block]; exact hb32.1) hc34)) ?_
   refine QR_callV (cl_fn cb233 rfl) (fun W hm => laws_eqVersion_c W _ (gt x0 k13) _ (gt x1 k13) (tyVersion_mk (x := (gt x0 k13)) (hm.rdS0 r30)) (tyVersion_mk (x := (gt x1 k13)) (hm.rdS0 r42))) (Wd_none rfl) (by decide) ?_
   refine qv vnot ?_
   refine nq' ?_
   rcases Bool.eq_false_or_eq_true (laws_eqVersion_m (gt x0 k13) (gt x1 k13)) with g44 | g44
   ·
    refine CM_condF rfl (nt g44) ?_
    refine CM_skip (QM_block_normal (QM_then (CM_region (wm ?_))))
    refine wv (vadN k13 1 (by omega)) ?_
    refine wa (WM_nil ?_)
    have hn45 := rng_next (R := Bool) (body := F1) (k := k13) (s := ()) (s' := ()) (show k13 < x0.length from by omega) (show laws_eqVersionS_b1 x0 x1 k13 = Sum.inr () from by unfold laws_eqVersionS_b1; exact cond_t g44 (rfl)) hF15
    exact QM_round (k13 + 1, (), ()) sl3 (fun W hm => hm) ⟨(by omega), hn45⟩ (rl (by omega))
   ·
    refine CM_condT rfl (nf g44) ?_
    refine sr (wa (nt' (CM_ret (QM_block_ret (QM_then_ret (QM_then_ret (QM_block_ret (QM_then_ret ?_))))))))
    exact rtb (h := by unfold laws_eqVersionS_m; exact cond_f g12 (fin_inl (rng_ret (body := F1) (k := k13) (s := ()) (show k13 < x0.length from by omega) (show laws_eqVersionS_b1 x0 x1 k13 = Sum.inl false from by unfold laws_eqVersionS_b1; exact cond_f g44 (rfl)) hF15) rfl))
  ·have g18 : (decide (((k13 : Nat) : Int) < ((x0.length : Nat) : Int))) = false := decide_eq_false (by omega)
   refine CM_condF rfl g18 ?_
   refine CM_exit (QM_then_exit (QM_then_exit ?_))
   have hE46 : R2 (x0.length - 0) 0 () = Sum.inr () := rng_end hl17 hF15
   refine QM_block_hit (QM_then (sr (wa (nt' (CM_ret ?_)))))
   exact rtb (h := by unfold laws_eqVersionS_m; exact cond_f g12 (fin_inr hE46 (rfl)))
 ·have g12 : (((x0.length : Nat) : Int) != ((x1.length : Nat) : Int)) = true := bne_iff_ne.2 h11
  refine CM_condT rfl g12 ?_
  refine sr (wa (nt' (CM_ret (QM_then_ret ?_))))
  exact rtb (h := by unfold laws_eqVersionS_m; exact cond_t g12 (rfl))

def laws_eqVersionSS_b1 (x0 : (List (List DVersion))) (x1 : (List (List DVersion))) (k13 : Nat) : Bool ⊕ (Unit) :=
 cond (laws_eqVersionS_m (gt x0 k13) (gt x1 k13)) (Sum.inr ()) (Sum.inl false)
def laws_eqVersionSS_m (x0 : (List (List DVersion))) (x1 : (List (List DVersion))) : Bool :=
 cond (((x0.length : Nat) : Int) != ((x1.length : Nat) : Int)) false (Sum.elim id (fun (s : Unit) => true) (rng (R := Bool) (fun k (_ : Unit) => laws_eqVersionSS_b1 x0 x1 k) (x0.length - 0) 0 ()))
theorem cb167 : Cb Tryz.prog 167 := ⟨f167, _, func167, rfl, by decide⟩
theorem laws_eqVersionSS_c (w : World) (z0 : Value) (x0 : (List (List DVersion))) (z1 : Value) (x1 : (List (List DVersion))) (r_0 : rdS (tSl tyVersion 191) w w.heap.size z0 x0) (r_1 : rdS (tSl tyVersion 191) w w.heap.size z1 x1) :
  Calls Tryz.prog 167 #[z0, z1] w fun e w' => e = .returned (.bool (laws_eqVersionSS_m x0 x1)) ∧ Below w.heap.size w w' := by
 have r5 := r_0
 obtain ⟨m1, A2, c3, rfl, q4⟩ := r_0
 have r10 := r_1
 obtain ⟨m6, A7, c8, rfl, q9⟩ := r_1
 refine ce2 (L := [(0, .slice A2 x0.length c3), (1, .slice A7 x1.length c8)]) (N := 27) func167 ?_
 refine sr (wa (nt' (CM_seq (sr (wm ?_)))))
 refine wv (vlen underlying40) ?_
 refine wm ?_
 refine wv (vlen underlying40) ?_
 refine wv vneq ?_
 refine nt' ?_
 by_cases h11 : ((x0.length : Nat) : Int) = ((x1.length : Nat) : Int)
 ·have g12 : (((x0.length : Nat) : Int) != ((x1.length : Nat) : Int)) = false := by rw [h11]; exact bne_self_eq_false _
  refine CM_condF rfl g12 ?_
  refine CM_skip (QM_then (CM_seq (sr (wa (nt' (CM_block ?_))))))
  let F1 := fun k (_ : Unit) => laws_eqVersionSS_b1 x0 x1 k
  let R2 := rng (R := Bool) F1
  refine CM_loop (σ := Nat × (Unit) × (Unit)) (fun s => [(0, .slice A2 x0.length c3), (1, .slice A7 x1.length c8), (5, .int .i64 ((s.1 : Nat) : Int))]) (fun s => []) (fun s => s.1 ≤ x0.length ∧ R2 (x0.length - s.1) s.1 s.2.1 = R2 (x0.length - 0) 0 ()) (fun s => x0.length - s.1) (0, (), ()) sl3 (fun W hm => hm) ⟨(by omega), rfl⟩ ?_
  rintro ⟨k13, ⟨⟩, ⟨⟩⟩ H16
  obtain ⟨hk14, hF15⟩ : k13 ≤ x0.length ∧ R2 (x0.length - k13) k13 () = R2 (x0.length - 0) 0 () := H16
  show CM Tryz.prog 27 _ _ _ _ [(0, .slice A2 x0.length c3), (1, .slice A7 x1.length c8), (5, .int .i64 ((k13 : Nat) : Int))] []
  refine CM_seq (sr (wm (wm ?_)))
  refine wv (vlen underlying40) ?_
  refine wv vlss ?_
  refine nt' ?_
  by_cases hl17 : k13 < x0.length
  ·have g18 : (decide (((k13 : Nat) : Int) < ((x0.length : Nat) : Int))) = true := decide_eq_true (by omega)
   refine CM_condT rfl g18 ?_
   refine CM_skip (QM_then (CM_seq (CM_block (CM_seq ?_))))
   refine CM_regionD (by kernel_rfl) (by kernel_rfl) ?_
   refine qm (qm ?_)
   obtain ⟨a19, rfl, hb20, he21⟩ := q4 (by omega)
   refine qv (vix 1 k13 underlying40 type131) ?_
   obtain ⟨_, e23, hc22⟩ := he21 k13 _ (gt_some (show k13 < x0.length from by omega))
   obtain ⟨v24, rfl, r25⟩ := e23
   have r30 := r25
   obtain ⟨m26, A27, c28, rfl, q29⟩ := r25
   refine qv (fun W hm => rv_load underlying131 rfl rfl ((hm.cell0 (show (a19.add (k13 * 1)).block < w.heap.size from by rw [add_block]; exact hb20.1)).trans (hc22 0 _ rfl))) ?_
   refine qm (qm ?_)
   obtain ⟨a31, rfl, hb32, he33⟩ := q9 (by omega)
   refine qv (vix 1 k13 underlying40 type131) ?_
   obtain ⟨_, e35, hc34⟩ := he33 k13 _ (gt_some (show k13 < x1.length from by omega))
   obtain ⟨v36, rfl, r37⟩ := e35
   have r42 := r37
   obtain ⟨m38, A39, c40, rfl, q41⟩ := r37
   refine qv (fun W hm => rv_load underlying131 rfl rfl ((hm.cell0 (show (a31.add (k13 * 1)).block < w.heap.size from by rw [add_block]; exact hb32.1)).trans (hc34 0 _ rfl))) ?_
   refine QR_callV (cl_fn cb218 rfl) (fun W hm => laws_eqVersionS_c W _ (gt x0 k13) _ (gt x1 k13) (hm.rdS0 r30) (hm.rdS0 r42)) (Wd_none rfl) (by decide) ?_
   refine qv vnot ?_
   refine nq' ?_
   rcases Bool.eq_false_or_eq_true (laws_eqVersionS_m (gt x0 k13) (gt x1 k13)) with g44 | g44
   ·
    refine CM_condF rfl (nt g44) ?_
    refine CM_skip (QM_block_normal (QM_then (CM_region (wm ?_))))
    refine wv (vadN k13 1 (by omega)) ?_
    refine wa (WM_nil ?_)
    have hn45 := rng_next (R := Bool) (body := F1) (k := k13) (s := ()) (s' := ()) (show k13 < x0.length from by omega) (show laws_eqVersionSS_b1 x0 x1 k13 = Sum.inr () from by unfold laws_eqVersionSS_b1; exact cond_t g44 (rfl)) hF15
    exact QM_round (k13 + 1, (), ()) sl3 (fun W hm => hm) ⟨(by omega), hn45⟩ (rl (by omega))
   ·
    refine CM_condT rfl (nf g44) ?_
    refine sr (wa (nt' (CM_ret (QM_block_ret (QM_then_ret (QM_then_ret (QM_block_ret (QM_then_ret ?_))))))))
    exact rtb (h := by unfold laws_eqVersionSS_m; exact cond_f g12 (fin_inl (rng_ret (body := F1) (k := k13) (s := ()) (show k13 < x0.length from by omega) (show laws_eqVersionSS_b1 x0 x1 k13 = Sum.inl false from by unfold laws_eqVersionSS_b1; exact cond_f g44 (rfl)) hF15) rfl))
  ·have g18 : (decide (((k13 : Nat) : Int) < ((x0.length : Nat) : Int))) = false := decide_eq_false (by omega)
   refine CM_condF rfl g18 ?_
   refine CM_exit (QM_then_exit (QM_then_exit ?_))
   have hE46 : R2 (x0.length - 0) 0 () = Sum.inr () := rng_end hl17 hF15
   refine QM_block_hit (QM_then (sr (wa (nt' (CM_ret ?_)))))
   exact rtb (h := by unfold laws_eqVersionSS_m; exact cond_f g12 (fin_inr hE46 (rfl)))
 ·have g12 : (((x0.length : Nat) : Int) != ((x1.length : Nat) : Int)) = true := bne_iff_ne.2 h11
  refine CM_condT rfl g12 ?_
  refine sr (wa (nt' (CM_ret (QM_then_ret ?_))))
  exact rtb (h := by unfold laws_eqVersionSS_m; exact cond_t g12 (rfl))

end Go.Proofs.YtmikmbmdibabmaaGreat
