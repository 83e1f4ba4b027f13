/-
  Contracts of functions, printed by a program of ours.
-/
import Derived.Test.YtglapeecbnaipaaL3F2
namespace Go.Proofs.Ytglapeecbnaipaa
open Go.RowKit
set_option maxRecDepth 100000
set_option maxHeartbeats 4000000
open _root_.Go.Proofs.Try
def impl_rowOf_m (x0 : DVersion) : DRow :=
 (⟨x0.Id, x0.Values⟩ : DRow)
theorem cb48 : Cb Try.prog 48 := ⟨f48, _, func48, rfl, by decide⟩
theorem impl_rowOf_c (w : World) (z0 : List Value) (x0 : DVersion) (r_0 : tyVersion.rd w w.heap.size z0 x0) (s_0 : smVersion 68719476736 x0) :
  Calls Try.prog 48 #[.agg z0.toArray] w fun e w' => ∃ v : List Value, e = .returned (.agg v.toArray) ∧ Mem w.heap.size w [iOwn tyRow v (impl_rowOf_m x0)] w' := by
 obtain ⟨v1, rfl, r2⟩ := tyVersion_rd r_0
 obtain ⟨m3, A4, c5, rfl, q6, r7⟩ := rdS_op r2
 have l8 : x0.Values.length ≤ 68719476736 := s_0
 refine ce1 (L := [(0, .agg #[.int .i64 x0.Id, .slice A4 x0.Values.length c5, .int .i64 x0.Born, .int .i64 x0.Died])]) (N := 9) func48 ?_
 refine sr ?_
 refine WM_box rfl (Wd_none rfl) (by decide) (fun p9 => ?_)
 refine WM_alloc type29 rfl (Wd_none rfl) (by decide) (fun p10 => ?_)
 refine nt' (CM_seq ?_)
 let K1 : List Value := [.int .i64 x0.Id, .slice A4 x0.Values.length c5, .int .i64 x0.Born, .int .i64 x0.Died]
 refine rd2 7 [6] (s := [iBox p9 51 K1]) (s2 := [iBox p10 29 [.int .i64 0, .slice none 0 0], iBox p9 51 K1]) (pk [1]) (fun W hm => hm) ?_
 refine qtD 7 0 1 rfl (vf underlying51 rfl type3) ?_
 refine qtD 7 1 3 rfl (vl 1 0 underlying3) ?_
 refine qtD 7 2 7 rfl (vf underlying51 rfl type27) ?_
 refine qtD 7 3 15 rfl (vl 1 1 underlying27) ?_
 refine qoD 7 4 31 rfl ?_
 refine wcl (tSl tInt 3) x0.Values (cl_fn cb40 rfl) (fun W hm => impl_copyInts_c2 W _ x0.Values (hm.rdS0 r7) s_0) (fun z11 => ?_)
 refine WM_form (n := 0) rfl ?_
 rintro A12 c13 rfl m14
 refine qnD (pk [2]) (pk [1, 2]) ?_
 refine qtD 7 5 63 rfl (fun W hm => rv_build (cs := [.int .i64 x0.Id, .slice A12 x0.Values.length c13]) rfl (by kernel_rfl)) ?_
 refine qoD 7 6 127 rfl ?_
 let I2 : It := iOwn (tSl tInt 3) [.slice A12 x0.Values.length c13] x0.Values
 refine sb 0 [.int .i64 x0.Id, .slice A12 x0.Values.length c13] [I2, iBox p9 51 K1] (pk [1, 0, 2]) type29 ?_
 refine qxD (pk [2]) ?_
 refine QB_done (by kernel_rfl) ?_
 refine QM_then (CM_ret ?_)
 have he16 := (show impl_rowOf_m x0 = (⟨x0.Id, x0.Values⟩ : DRow) from rfl)
 refine QM_r1 rfl (RR_cell (n := 0) rfl rfl underlying29 type29 rfl) (fun W hm => ⟨[.int .i64 x0.Id, .slice A12 x0.Values.length c13], ?_, ?_⟩)
 ·first | rw [he16] | rfl
 ·rw [he16]; exact Mem.join (is := [I2]) (js := []) (fun _ _ hs => tyRow_join (x := (⟨x0.Id, x0.Values⟩ : DRow)) hs) (hm.pick [1] (by decide))

def impl_IsRow_b1 (x0 : DRow) (k9 : Nat) : Bool ⊕ (Unit) :=
 cond (impl_within_m (gt x0.Values k9) 0 99) (Sum.inr ()) (Sum.inl false)
def impl_IsRow_m (x0 : DRow) : Bool :=
 Sum.elim id (fun (s : Unit) => cond (impl_within_m x0.Id 0 999) (((x0.Values.length : Nat) : Int) == 3) false) (rng (R := Bool) (fun k (_ : Unit) => impl_IsRow_b1 x0 k) (x0.Values.length - 0) 0 ())
theorem cb47 : Cb Try.prog 47 := ⟨f47, _, func47, rfl, by decide⟩
theorem impl_IsRow_c (w : World) (z0 : List Value) (x0 : DRow) (r_0 : tyRow.rd w w.heap.size z0 x0) :
  Calls Try.prog 47 #[.agg z0.toArray] w fun e w' => e = .returned (.bool (impl_IsRow_m x0)) ∧ Below w.heap.size w w' := by
 obtain ⟨v1, rfl, r2⟩ := tyRow_rd r_0
 obtain ⟨m3, A4, c5, rfl, q6, r7⟩ := rdS_op r2
 refine ce1 (L := [(0, .agg #[.int .i64 x0.Id, .slice A4 x0.Values.length c5])]) (N := 25) func47 ?_
 refine sr ?_
 refine WM_box rfl (Wd_none rfl) (by decide) (fun p8 => ?_)
 refine wa (nt' (CM_seq (sr ?_)))
 refine wv (vf underlying29 rfl type27) ?_
 refine wv (vl 0 1 underlying27) ?_
 refine wv (vlen underlying27) ?_
 refine wm (nt' (CM_block ?_))
 let F1 := fun k (_ : Unit) => impl_IsRow_b1 x0 k
 let R2 := rng (R := Bool) F1
 let I3 : It := iBox p8 29 [.int .i64 x0.Id, .slice A4 x0.Values.length c5]
 refine CM_loop (σ := Nat × (Unit) × (Unit)) (fun s => [(1, .pointer (some (⟨p8, 0, none⟩ : Addr))), (6, .slice A4 x0.Values.length c5), (7, .int .i64 ((x0.Values.length : Nat) : Int)), (8, .int .i64 ((s.1 : Nat) : Int))]) (fun s => [I3]) (fun s => s.1 ≤ x0.Values.length ∧ R2 (x0.Values.length - s.1) s.1 s.2.1 = R2 (x0.Values.length - 0) 0 ()) (fun s => x0.Values.length - s.1) (0, (), ()) sl4 (fun W hm => hm) ⟨(by omega), rfl⟩ ?_
 rintro ⟨k9, ⟨⟩, ⟨⟩⟩ H12
 obtain ⟨hk10, hF11⟩ : k9 ≤ x0.Values.length ∧ R2 (x0.Values.length - k9) k9 () = R2 (x0.Values.length - 0) 0 () := H12
 show CM Try.prog 25 _ _ _ _ [(1, .pointer (some (⟨p8, 0, none⟩ : Addr))), (6, .slice A4 x0.Values.length c5), (7, .int .i64 ((x0.Values.length : Nat) : Int)), (8, .int .i64 ((k9 : Nat) : Int))] [I3]
 refine sr ?_
 refine wv vlss ?_
 refine nt' (CM_seq ?_)
 by_cases hl13 : k9 < x0.Values.length
 ·have g14 := dlT hl13
  refine CM_condT rfl g14 ?_
  refine CM_skip (QM_then (CM_seq (CM_block (sr ?_))))
  obtain ⟨a15, rfl, hb16, he17⟩ := q6 (by omega)
  refine wv (vix 1 k9 underlying27 type3) ?_
  refine wv (fun W hm => rv_load underlying3 rfl rfl ((hm.cell0 (show (a15.add (k9 * 1)).block < w.heap.size from by rw [add_block]; exact hb16.1)).trans (rdS_int he17 k9 (by omega)))) ?_
  refine wa (nt' (sr (wm ?_)))
  refine wcv (cl_fn cb46 rfl) (fun W hm => impl_within_c W (gt x0.Values k9) 0 99) ?_
  refine wv vnot ?_
  refine nt' ?_
  rcases Bool.eq_false_or_eq_true (impl_within_m (gt x0.Values k9) 0 99) with g19 | g19
  ·
   have hw := impl_within_fact g19
   refine CM_condF rfl (nt g19) ?_
   refine CM_skip (QM_block_normal (QM_then (CM_region ?_)))
   refine wv (vadN k9 1 (by omega)) ?_
   refine wm (WM_nil ?_)
   have hn20 := rng_next (R := Bool) (body := F1) (k := k9) (s := ()) (s' := ()) (show k9 < x0.Values.length from by omega) (cond_t g19 (rfl)) hF11
   exact QM_round (k9 + 1, (), ()) sl4 (fun W hm => hm) ⟨(by omega), hn20⟩ (rl (by omega))
  ·
   refine CM_condT rfl (nf g19) ?_
   refine sr (wa (nt' (CM_ret (QM_block_ret (QM_then_ret (QM_then_ret (QM_block_ret (QM_then_ret ?_))))))))
   exact rtb (h := fin_inl (rng_ret (body := F1) (k := k9) (s := ()) (show k9 < x0.Values.length from by omega) (cond_f g19 (rfl)) hF11) rfl)
 ·have g14 := dlF hl13
  refine CM_condF rfl g14 ?_
  refine CM_exit (QM_then_exit (QM_then_exit ?_))
  have hE21 : R2 (x0.Values.length - 0) 0 () = Sum.inr () := rng_end hl13 hF11
  refine QM_block_hit (QM_then (sr ?_))
  refine wv (vf underlying29 rfl type3) ?_
  refine wv (vl 0 0 underlying3) ?_
  refine wcv (cl_fn cb46 rfl) (fun W hm => impl_within_c W x0.Id 0 999) ?_
  refine wm ?_
  rcases Bool.eq_false_or_eq_true (impl_within_m x0.Id 0 999) with g23 | g23
  ·
   have hw := impl_within_fact g23
   refine wg (vf underlying29 rfl type27) g23 ?_
   refine wg (vl 0 1 underlying27) g23 ?_
   refine wg (vlen underlying27) g23 ?_
   refine wg (fun W hm => rv_eql rfl rfl) g23 ?_
   refine wv (vpT g23) ?_
   refine wa (nt' (CM_ret ?_))
   exact rtb (h := fin_inr hE21 (cond_t g23 (rfl)))
  ·
   refine ws g23 ?_
   refine ws g23 ?_
   refine ws g23 ?_
   refine ws g23 ?_
   refine wv (vpF g23) ?_
   refine wa (nt' (CM_ret ?_))
   exact rtb (h := fin_inr hE21 (cond_f g23 (rfl)))

def impl_IsVisible_m (x0 : DVersion) (x1 : Int) : Bool :=
 cond (decide (x0.Born ≤ x1)) (cond (x0.Died == (-1)) true (decide (x1 < x0.Died))) false
theorem cb26 : Cb Try.prog 26 := ⟨f26, _, func26, rfl, by decide⟩
theorem impl_IsVisible_c (w : World) (z0 : List Value) (x0 : DVersion) (x1 : Int) (r_0 : tyVersion.rd w w.heap.size z0 x0) :
  Calls Try.prog 26 #[.agg z0.toArray, .int .i64 x1] w fun e w' => e = .returned (.bool (impl_IsVisible_m x0 x1)) ∧ Below w.heap.size w w' := by
 obtain ⟨v1, rfl, r2⟩ := tyVersion_rd r_0
 obtain ⟨m3, A4, c5, rfl, q6, r7⟩ := rdS_op r2
 refine ce2 (L := [(0, .agg #[.int .i64 x0.Id, .slice A4 x0.Values.length c5, .int .i64 x0.Born, .int .i64 x0.Died]), (1, .int .i64 x1)]) (N := 20) func26 ?_
 refine sr ?_
 refine WM_box rfl (Wd_none rfl) (by decide) (fun p8 => ?_)
 refine wa (nt' (sr ?_))
 refine wv (vf underlying51 rfl type3) ?_
 refine wv (vl 0 2 underlying3) ?_
 refine wm ?_
 refine wv (fun W hm => rv_leq rfl rfl) ?_
 refine wm ?_
 by_cases h9 : x0.Born ≤ x1
 ·have g10 := decide_eq_true h9
  refine wg (vf underlying51 rfl type3) g10 ?_
  refine wg (vl 0 3 underlying3) g10 ?_
  refine wg (fun W hm => rv_eql rfl rfl) g10 ?_
  refine wg vmv g10 ?_
  by_cases h11 : x0.Died = (-1)
  ·have g12 := beq_iff_eq.2 h11
   refine ws g12 ?_
   refine ws g12 ?_
   refine ws g12 ?_
   refine ws g12 ?_
   refine wg (vpT g12) g10 ?_
   refine wv (vpT g10) ?_
   refine wa (nt' (CM_ret ?_))
   exact rtb (h := cond_t g10 (cond_t g12 (rfl)))
  ·have g12 := beq_eq_false_iff_ne.2 h11
   refine wg (vf underlying51 rfl type3) g12 ?_
   refine wg (vl 0 3 underlying3) g12 ?_
   refine wg vmv g12 ?_
   refine wg (fun W hm => rv_gtr rfl rfl) g12 ?_
   refine wg (vpF g12) g10 ?_
   refine wv (vpT g10) ?_
   refine wa (nt' (CM_ret ?_))
   exact rtb (h := cond_t g10 (cond_f g12 (rfl)))
 ·have g10 := decide_eq_false h9
  refine ws g10 ?_
  refine ws g10 ?_
  refine ws g10 ?_
  refine ws g10 ?_
  refine wu ?_
  refine wu ?_
  refine wu ?_
  refine wu ?_
  refine ws g10 ?_
  refine wv (vpF g10) ?_
  refine wa (nt' (CM_ret ?_))
  exact rtb (h := cond_f g10 (rfl))

def impl_meetInTime_m (x0 : DVersion) (x1 : DVersion) : Bool :=
 cond (impl_IsVisible_m x0 x1.Born) true (impl_IsVisible_m x1 x0.Born)
theorem cb49 : Cb Try.prog 49 := ⟨f49, _, func49, rfl, by decide⟩
theorem impl_meetInTime_c (w : World) (z0 : List Value) (x0 : DVersion) (z1 : List Value) (x1 : DVersion) (r_0 : tyVersion.rd w w.heap.size z0 x0) (r_1 : tyVersion.rd w w.heap.size z1 x1) :
  Calls Try.prog 49 #[.agg z0.toArray, .agg z1.toArray] w fun e w' => e = .returned (.bool (impl_meetInTime_m x0 x1)) ∧ Below w.heap.size w w' := by
 obtain ⟨v1, rfl, r2⟩ := tyVersion_rd r_0
 obtain ⟨m3, A4, c5, rfl, q6, r7⟩ := rdS_op r2
 obtain ⟨v8, rfl, r9⟩ := tyVersion_rd r_1
 obtain ⟨m10, A11, c12, rfl, q13, r14⟩ := rdS_op r9
 refine ce2 (L := [(0, .agg #[.int .i64 x0.Id, .slice A4 x0.Values.length c5, .int .i64 x0.Born, .int .i64 x0.Died]), (1, .agg #[.int .i64 x1.Id, .slice A11 x1.Values.length c12, .int .i64 x1.Born, .int .i64 x1.Died])]) (N := 15) func49 ?_
 refine sr ?_
 refine WM_box rfl (Wd_none rfl) (by decide) (fun p15 => ?_)
 refine WM_box rfl (Wd_none rfl) (by decide) (fun p16 => ?_)
 refine wa (nt' (sr ?_))
 refine wv (fun W hm => rv_loadN (cs := [.int .i64 x0.Id, .slice A4 x0.Values.length c5, .int .i64 x0.Born, .int .i64 x0.Died]) underlying51 type51 rfl rfl (hm.boxCells (n := 1) rfl)) ?_
 refine wv (vf underlying51 rfl type3) ?_
 refine wv (vl 0 2 underlying3) ?_
 refine wcv (cl_fn cb26 rfl) (fun W hm => impl_IsVisible_c W _ x0 x1.Born (tyVersion_mk (x := x0) (hm.rdS0 r7))) ?_
 refine wm ?_
 rcases Bool.eq_false_or_eq_true (impl_IsVisible_m x0 x1.Born) with g18 | g18
 ·
  refine ws g18 ?_
  refine ws g18 ?_
  refine ws g18 ?_
  refine ws g18 ?_
  refine wv (vpT g18) ?_
  refine wa (nt' (CM_ret ?_))
  exact rtb (h := cond_t g18 (rfl))
 ·
  refine wg (fun W hm => rv_loadN (cs := [.int .i64 x1.Id, .slice A11 x1.Values.length c12, .int .i64 x1.Born, .int .i64 x1.Died]) underlying51 type51 rfl rfl (hm.boxCells (n := 0) rfl)) g18 ?_
  refine wg (vf underlying51 rfl type3) g18 ?_
  refine wg (vl 1 2 underlying3) g18 ?_
  refine WM_callV (cl_fn cb26 rfl) (fun W hm => impl_IsVisible_c W _ x1 x0.Born (tyVersion_mk (x := x1) (hm.rdS0 r14))) (Wd_some rfl rfl rfl (bw g18 rfl)) (by decide) ?_
  refine wv (vpF g18) ?_
  refine wa (nt' (CM_ret ?_))
  exact rtb (h := cond_f g18 (rfl))

def impl_IsStore_b3 (x0 : DStore) (k16 : Nat) (k41 : Nat) (d42 : (List DVersion)) (k77 : Nat) : Bool ⊕ (Unit) :=
 cond (((gt (gt x0.Segments k16) k41).Id) == ((gt d42 k77).Id)) (cond (impl_meetInTime_m (gt (gt x0.Segments k16) k41) (gt d42 k77)) (Sum.inl false) (Sum.inr ())) (Sum.inr ())
def impl_IsStore_b4 (x0 : DStore) (k16 : Nat) (k41 : Nat) (d42 : (List DVersion)) (k112 : Nat) : Bool ⊕ (Unit) :=
 cond (((gt (gt x0.Segments k16) k41).Id) == ((gt d42 k112).Id)) (cond (impl_meetInTime_m (gt (gt x0.Segments k16) k41) (gt d42 k112)) (Sum.inl false) (Sum.inr ())) (Sum.inr ())
def impl_IsStore_b2 (x0 : DStore) (k16 : Nat) (k41 : Nat) (d42 : (List DVersion)) : Bool ⊕ ((List DVersion)) :=
 cond (impl_IsRow_m (impl_rowOf_m (gt (gt x0.Segments k16) k41))) (cond (impl_within_m ((gt (gt x0.Segments k16) k41).Born) 0 x0.Now) (cond (((gt (gt x0.Segments k16) k41).Died) != (-1)) (cond (impl_within_m ((gt (gt x0.Segments k16) k41).Died) (IntKind.i64.wrap (((gt (gt x0.Segments k16) k41).Born) + 1)) x0.Now) (Sum.elim Sum.inl (fun (s : Unit) => Sum.inr (d42 ++ [(gt (gt x0.Segments k16) k41)])) (rng (R := Bool) (fun k (_ : Unit) => impl_IsStore_b4 x0 k16 k41 d42 k) (d42.length - 0) 0 ())) (Sum.inl false)) (Sum.elim Sum.inl (fun (s : Unit) => Sum.inr (d42 ++ [(gt (gt x0.Segments k16) k41)])) (rng (R := Bool) (fun k (_ : Unit) => impl_IsStore_b3 x0 k16 k41 d42 k) (d42.length - 0) 0 ()))) (Sum.inl false)) (Sum.inl false)
def impl_IsStore_b1 (x0 : DStore) (k16 : Nat) (d17 : (List DVersion)) : Bool ⊕ ((List DVersion)) :=
 cond (decide (4 < ((((gt x0.Segments k16)).length : Nat) : Int))) (Sum.inl false) (Sum.elim Sum.inl (fun (s : (List DVersion)) => Sum.inr s) (rng (R := Bool) (fun k (s : (List DVersion)) => impl_IsStore_b2 x0 k16 k s) (((gt x0.Segments k16)).length - 0) 0 d17))
def impl_IsStore_m (x0 : DStore) : Bool :=
 cond (impl_within_m ((x0.Segments.length : Nat) : Int) 1 8) (cond (impl_within_m x0.Now 0 100000) (Sum.elim id (fun (s : (List DVersion)) => true) (rng (R := Bool) (fun k (s : (List DVersion)) => impl_IsStore_b1 x0 k s) (x0.Segments.length - 0) 0 [])) false) false
theorem cb11 : Cb Try.prog 11 := ⟨f11, _, func11, rfl, by decide⟩
theorem impl_IsStore_c (w : World) (z0 : List Value) (x0 : DStore) (r_0 : tyStore.rd w w.heap.size z0 x0) (s_0 : smStore 68719476736 x0) :
  Calls Try.prog 11 #[.agg z0.toArray] w fun e w' => e = .returned (.bool (impl_IsStore_m x0)) ∧ Below w.heap.size w w' := by
 obtain ⟨v1, rfl, r2⟩ := tyStore_rd r_0
 obtain ⟨m3, A4, c5, rfl, q6, r7⟩ := rdS_op r2
 have l8 : x0.Segments.length ≤ 68719476736 := s_0.1
 refine ce1 (L := [(0, .agg #[.slice A4 x0.Segments.length c5, .int .i64 x0.Now])]) (N := 89) func11 ?_
 refine sr ?_
 refine WM_box rfl (Wd_none rfl) (by decide) (fun p9 => ?_)
 refine wa (nt' (CM_seq (sr ?_)))
 refine wv (vf underlying26 rfl type24) ?_
 refine wv (vl 0 0 underlying24) ?_
 refine wv (vlen underlying24) ?_
 refine wcv (cl_fn cb46 rfl) (fun W hm => impl_within_c W ((x0.Segments.length : Nat) : Int) 1 8) ?_
 refine wv vnot ?_
 refine wm ?_
 rcases Bool.eq_false_or_eq_true (impl_within_m ((x0.Segments.length : Nat) : Int) 1 8) with g11 | g11
 ·
  have hw := impl_within_fact g11
  refine wg (vf underlying26 rfl type3) (nt g11) ?_
  refine wg (vl 0 1 underlying3) (nt g11) ?_
  refine WM_callV (cl_fn cb46 rfl) (fun W hm => impl_within_c W x0.Now 0 100000) (Wd_some rfl rfl rfl (bw (nt g11) rfl)) (by decide) ?_
  refine wg vnot (nt g11) ?_
  refine wv (vpF (nt g11)) ?_
  refine nt' ?_
  rcases Bool.eq_false_or_eq_true (impl_within_m x0.Now 0 100000) with g13 | g13
  ·
   have hw := impl_within_fact g13
   refine CM_condF rfl (nt g13) ?_
   refine CM_skip (QM_then (sr ?_))
   refine WM_build0 (E := (tBor tyVersion w w.heap.size)) underlying72 type51 (Wd_none rfl) (by decide) (fun p14 => ?_)
   refine wa (nt' (CM_seq (sr ?_)))
   refine wv (vf underlying26 rfl type24) ?_
   refine wv (vl 1 0 underlying24) ?_
   refine wv (vlen underlying24) ?_
   refine wm (nt' (CM_block ?_))
   let F1 := fun k (s : (List DVersion)) => impl_IsStore_b1 x0 k s
   let R5 := rng (R := Bool) F1
   let I14 : It := iBox p9 26 [.slice A4 x0.Segments.length c5, .int .i64 x0.Now]
   refine CM_loop (σ := Nat × ((List DVersion)) × (Option Addr × Nat)) (fun s => [(1, .pointer (some (⟨p9, 0, none⟩ : Addr))), (3, .slice s.2.2.1 s.2.1.length s.2.2.2), (23, .slice A4 x0.Segments.length c5), (24, .int .i64 ((x0.Segments.length : Nat) : Int)), (25, .int .i64 ((s.1 : Nat) : Int))]) (fun s => [iOwn (tSl (tBor tyVersion w w.heap.size) 51) [.slice s.2.2.1 s.2.1.length s.2.2.2] s.2.1, I14]) (fun s => s.1 ≤ x0.Segments.length ∧ R5 (x0.Segments.length - s.1) s.1 s.2.1 = R5 (x0.Segments.length - 0) 0 [] ∧ s.2.1.length ≤ 0 + 4 * s.1) (fun s => x0.Segments.length - s.1) (0, [], ((some ⟨p14, 0, none⟩), 0)) sl5 (fun W hm => hm) ⟨(by omega), rfl, Nat.le_refl _⟩ ?_
   rintro ⟨k16, d17, ⟨A18, c19⟩⟩ H22
   obtain ⟨hk20, hF21, hi23⟩ : k16 ≤ x0.Segments.length ∧ R5 (x0.Segments.length - k16) k16 d17 = R5 (x0.Segments.length - 0) 0 [] ∧ d17.length ≤ 0 + 4 * k16 := H22
   show CM Try.prog 89 _ _ _ _ [(1, .pointer (some (⟨p9, 0, none⟩ : Addr))), (3, .slice A18 d17.length c19), (23, .slice A4 x0.Segments.length c5), (24, .int .i64 ((x0.Segments.length : Nat) : Int)), (25, .int .i64 ((k16 : Nat) : Int))] [iOwn (tSl (tBor tyVersion w w.heap.size) 51) [.slice A18 d17.length c19] d17, I14]
   refine sr ?_
   refine wv vlss ?_
   refine nt' (CM_seq ?_)
   by_cases hl24 : k16 < x0.Segments.length
   ·have g25 := dlT hl24
    refine CM_condT rfl g25 ?_
    refine CM_skip (QM_then (CM_seq (CM_block (sr ?_))))
    obtain ⟨a26, rfl, hb27, he28⟩ := q6 (by omega)
    refine wv (vix 1 k16 underlying24 type72) ?_
    obtain ⟨_, e30, hc29⟩ := he28 k16 _ (gt_some (show k16 < x0.Segments.length from by omega))
    have l31 : (gt x0.Segments k16).length ≤ 68719476736 := (s_0.2 _ (gt_mem (show k16 < x0.Segments.length from by omega))).1
    obtain ⟨v32, rfl, r33⟩ := e30
    obtain ⟨m34, A35, c36, rfl, q37, r38⟩ := rdS_op r33
    refine wv (fun W hm => rv_load underlying72 rfl rfl ((hm.cell0 (show (a26.add (k16 * 1)).block < w.heap.size from by rw [add_block]; exact hb27.1)).trans (hc29 0 _ rfl))) ?_
    refine wa (nt' (CM_seq (sr (wm ?_))))
    refine wv (vlen underlying72) ?_
    refine wv (fun W hm => rv_gtr rfl rfl) ?_
    refine nt' ?_
    by_cases h39 : 4 < ((((gt x0.Segments k16)).length : Nat) : Int)
    ·have g40 := decide_eq_true h39
     refine CM_condT rfl g40 ?_
     refine sr (wa (nt' (CM_ret (QM_then_ret (QM_block_ret (QM_then_ret (QM_then_ret (QM_block_ret (QM_then_ret ?_)))))))))
     exact rtb (h := cond_t g11 (cond_t g13 (fin_inl (rng_ret (body := F1) (k := k16) (s := d17) (show k16 < x0.Segments.length from by omega) (cond_t g40 (rfl)) hF21) rfl)))
    ·have g40 := decide_eq_false h39
     refine CM_condF rfl g40 ?_
     refine CM_skip (QM_then (sr (wm ?_)))
     refine wv (vlen underlying72) ?_
     refine wm (nt' (CM_block ?_))
     let F2 := fun k (s : (List DVersion)) => impl_IsStore_b2 x0 k16 k s
     let R6 := rng (R := Bool) F2
     let I15 : It := iBox p9 26 [.slice (some a26) x0.Segments.length c5, .int .i64 x0.Now]
     refine CM_loop (σ := Nat × ((List DVersion)) × (Option Addr × Nat)) (fun s => [(1, .pointer (some (⟨p9, 0, none⟩ : Addr))), (3, .slice s.2.2.1 s.2.1.length s.2.2.2), (23, .slice (some a26) x0.Segments.length c5), (24, .int .i64 ((x0.Segments.length : Nat) : Int)), (25, .int .i64 ((k16 : Nat) : Int)), (32, .slice A35 ((gt x0.Segments k16)).length c36), (33, .int .i64 ((((gt x0.Segments k16)).length : Nat) : Int)), (34, .int .i64 ((s.1 : Nat) : Int))]) (fun s => [iOwn (tSl (tBor tyVersion w w.heap.size) 51) [.slice s.2.2.1 s.2.1.length s.2.2.2] s.2.1, I15]) (fun s => s.1 ≤ ((gt x0.Segments k16)).length ∧ R6 (((gt x0.Segments k16)).length - s.1) s.1 s.2.1 = R6 (((gt x0.Segments k16)).length - 0) 0 d17 ∧ s.2.1.length ≤ d17.length + s.1) (fun s => ((gt x0.Segments k16)).length - s.1) (0, d17, (A18, c19)) sl8 (fun W hm => hm) ⟨(by omega), rfl, Nat.le_refl _⟩ ?_
     rintro ⟨k41, d42, ⟨A43, c44⟩⟩ H47
     obtain ⟨hk45, hF46, hi48⟩ : k41 ≤ ((gt x0.Segments k16)).length ∧ R6 (((gt x0.Segments k16)).length - k41) k41 d42 = R6 (((gt x0.Segments k16)).length - 0) 0 d17 ∧ d42.length ≤ d17.length + k41 := H47
     let I16 : It := iOwn (tSl (tBor tyVersion w w.heap.size) 51) [.slice A43 d42.length c44] d42
     show CM Try.prog 89 _ _ _ _ [(1, .pointer (some (⟨p9, 0, none⟩ : Addr))), (3, .slice A43 d42.length c44), (23, .slice (some a26) x0.Segments.length c5), (24, .int .i64 ((x0.Segments.length : Nat) : Int)), (25, .int .i64 ((k16 : Nat) : Int)), (32, .slice A35 ((gt x0.Segments k16)).length c36), (33, .int .i64 ((((gt x0.Segments k16)).length : Nat) : Int)), (34, .int .i64 ((k41 : Nat) : Int))] [I16, I15]
     refine sr ?_
     refine wv vlss ?_
     refine nt' (CM_seq ?_)
     by_cases hl49 : k41 < ((gt x0.Segments k16)).length
     ·have g50 := dlT hl49
      refine CM_condT rfl g50 ?_
      refine CM_skip (QM_then (CM_seq (CM_block (sr ?_))))
      obtain ⟨a51, rfl, hb52, he53⟩ := q37 (by omega)
      refine wv (vix 4 k41 underlying72 type51) ?_
      obtain ⟨_, e57, hc54⟩ := he53 k41 _ (gt_some (show k41 < ((gt x0.Segments k16)).length from by omega))
      obtain ⟨v55, rfl, r56⟩ := tyVersion_rd e57
      have l58 : ((gt (gt x0.Segments k16) k41).Values).length ≤ 68719476736 := ((s_0.2 _ (gt_mem (show k16 < x0.Segments.length from by omega))).2 _ (gt_mem (show k41 < ((gt x0.Segments k16)).length from by omega)))
      obtain ⟨m59, A60, c61, rfl, q62, r63⟩ := rdS_op r56
      let K9 : List Value := [.int .i64 ((gt (gt x0.Segments k16) k41).Id), .slice A60 ((gt (gt x0.Segments k16) k41).Values).length c61, .int .i64 ((gt (gt x0.Segments k16) k41).Born), .int .i64 ((gt (gt x0.Segments k16) k41).Died)]
      refine wv (fun W hm => rv_loadN (cs := K9) underlying51 type51 rfl rfl (hm.elCells (show (a51.add (k41 * 4)).block < w.heap.size from by rw [add_block]; exact hb52.1) hc54)) ?_
      refine WM_alloc type51 rfl (Wd_none rfl) (by decide) (fun p64 => ?_)
      refine sb 0 K9 [I16, I15] (fun W hm => hm) type51 ?_
      refine nt' (CM_seq (sr ?_))
      refine wv (fun W hm => rv_loadN (cs := K9) underlying51 type51 rfl rfl (hm.boxCells (n := 0) rfl)) ?_
      refine wcs tyRow (impl_rowOf_m (gt (gt x0.Segments k16) k41)) (cl_fn cb48 rfl) (fun W hm => impl_rowOf_c W _ (gt (gt x0.Segments k16) k41) (tyVersion_mk (x := (gt (gt x0.Segments k16) k41)) (hm.rdS0 r63)) ((s_0.2 _ (gt_mem (show k16 < x0.Segments.length from by omega))).2 _ (gt_mem (show k41 < ((gt x0.Segments k16)).length from by omega)))) (fun z65 => ?_)
      refine tyRow_sp ?_
      rintro v66 rfl
      refine WM_form (n := 0) rfl ?_
      rintro A67 c68 rfl m69
      refine wcv (cl_fn cb47 rfl) (fun W hm => impl_IsRow_c W _ (impl_rowOf_m (gt (gt x0.Segments k16) k41)) (tyRow_mk (x := (impl_rowOf_m (gt (gt x0.Segments k16) k41))) (hm.rdSI (n := 0) rfl))) ?_
      refine wv vnot ?_
      refine wm ?_
      rcases Bool.eq_false_or_eq_true (impl_IsRow_m (impl_rowOf_m (gt (gt x0.Segments k16) k41))) with g72 | g72
      ·
       refine wg (vf underlying51 rfl type3) (nt g72) ?_
       refine wg (vl 1 2 underlying3) (nt g72) ?_
       refine wg (vf underlying26 rfl type3) (nt g72) ?_
       refine wg (vl 3 1 underlying3) (nt g72) ?_
       refine WM_callV (cl_fn cb46 rfl) (fun W hm => impl_within_c W ((gt (gt x0.Segments k16) k41).Born) 0 x0.Now) (Wd_some rfl rfl rfl (bw (nt g72) rfl)) (by decide) ?_
       refine wg vnot (nt g72) ?_
       refine wv (vpF (nt g72)) ?_
       refine wm ?_
       rcases Bool.eq_false_or_eq_true (impl_within_m ((gt (gt x0.Segments k16) k41).Born) 0 x0.Now) with g74 | g74
       ·
        have hw := impl_within_fact g74
        refine wg (vf underlying51 rfl type3) (nt g74) ?_
        refine wg (vl 1 3 underlying3) (nt g74) ?_
        refine wg vneq (nt g74) ?_
        refine wg vmv (nt g74) ?_
        by_cases h75 : ((gt (gt x0.Segments k16) k41).Died) = (-1)
        ·have g76 : (((gt (gt x0.Segments k16) k41).Died) != (-1)) = false := by rw [h75]; exact bne_self_eq_false _
         refine ws g76 ?_
         refine ws g76 ?_
         refine ws g76 ?_
         refine ws g76 ?_
         refine ws g76 ?_
         refine ws g76 ?_
         refine ws g76 ?_
         refine ws g76 ?_
         refine ws g76 ?_
         refine wg (vpF g76) (nt g74) ?_
         refine wv (vpF (nt g74)) ?_
         refine nt' ?_
         refine CM_condF rfl rfl ?_
         refine CM_skip (QM_then (CM_seq (sr (wm ?_))))
         refine wv (vlen underlying72) ?_
         refine wm (nt' (CM_block ?_))
         let F3 := fun k (_ : Unit) => impl_IsStore_b3 x0 k16 k41 d42 k
         let R7 := rng (R := Bool) F3
         let K10 : List Value := [.slice A67 ((impl_rowOf_m (gt (gt x0.Segments k16) k41)).Values).length c68]
         let I17 : It := iOwn (tSl tInt 3) K10 ((impl_rowOf_m (gt (gt x0.Segments k16) k41)).Values)
         refine CM_loop (σ := Nat × (Unit) × (Unit)) (fun s => [(1, .pointer (some (⟨p9, 0, none⟩ : Addr))), (3, .slice A43 d42.length c44), (7, .pointer (some (⟨p64, 0, none⟩ : Addr))), (23, .slice (some a26) x0.Segments.length c5), (24, .int .i64 ((x0.Segments.length : Nat) : Int)), (25, .int .i64 ((k16 : Nat) : Int)), (32, .slice (some a51) ((gt x0.Segments k16)).length c36), (33, .int .i64 ((((gt x0.Segments k16)).length : Nat) : Int)), (34, .int .i64 ((k41 : Nat) : Int)), (66, .slice A43 d42.length c44), (67, .int .i64 ((d42.length : Nat) : Int)), (68, .int .i64 ((s.1 : Nat) : Int))]) (fun s => [I17, iBox p64 51 K9, I16, I15]) (fun s => s.1 ≤ d42.length ∧ R7 (d42.length - s.1) s.1 s.2.1 = R7 (d42.length - 0) 0 ()) (fun s => d42.length - s.1) (0, (), ()) sl12 (fun W hm => hm) ⟨(by omega), rfl⟩ ?_
         rintro ⟨k77, ⟨⟩, ⟨⟩⟩ H80
         obtain ⟨hk78, hF79⟩ : k77 ≤ d42.length ∧ R7 (d42.length - k77) k77 () = R7 (d42.length - 0) 0 () := H80
         show CM Try.prog 89 _ _ _ _ [(1, .pointer (some (⟨p9, 0, none⟩ : Addr))), (3, .slice A43 d42.length c44), (7, .pointer (some (⟨p64, 0, none⟩ : Addr))), (23, .slice (some a26) x0.Segments.length c5), (24, .int .i64 ((x0.Segments.length : Nat) : Int)), (25, .int .i64 ((k16 : Nat) : Int)), (32, .slice (some a51) ((gt x0.Segments k16)).length c36), (33, .int .i64 ((((gt x0.Segments k16)).length : Nat) : Int)), (34, .int .i64 ((k41 : Nat) : Int)), (66, .slice A43 d42.length c44), (67, .int .i64 ((d42.length : Nat) : Int)), (68, .int .i64 ((k77 : Nat) : Int))] [I17, iBox p64 51 K9, I16, I15]
         refine sr ?_
         refine wv vlss ?_
         refine nt' (CM_seq ?_)
         by_cases hl81 : k77 < d42.length
         ·have g82 := dlT hl81
          refine CM_condT rfl g82 ?_
          refine CM_skip (QM_then (CM_seq (CM_block (sr ?_))))
          refine WM_formO (n := 2) rfl (by omega) ?_
          rintro g83 rfl
          refine wv (vix 4 k77 underlying72 type51) ?_
          refine WM_expose (T := tyVersion) (wb := w) (Bb := w.heap.size) (e := 51) (g := g83) (n := d42.length) (c := c44) (xs := d42) (js := [I17, iBox p64 51 K9, I15]) (pk [2, 0, 1, 3]) ?_
          rintro ck84 rk85
          obtain ⟨_, e86, hc87⟩ := rk85.get (j := k77) (by omega)
          obtain ⟨v88, rfl, r89⟩ := tyVersion_rd e86
          obtain ⟨m90, A91, c92, rfl, q93, r94⟩ := rdS_op r89
          let K11 : List Value := [.int .i64 ((gt d42 k77).Id), .slice A91 ((gt d42 k77).Values).length c92, .int .i64 ((gt d42 k77).Born), .int .i64 ((gt d42 k77).Died)]
          refine wv (fun W hm => rv_loadN (cs := K11) underlying51 type51 rfl rfl (hm.rowCells (i := 0) rfl hc87)) ?_
          refine WM_alloc type51 rfl (Wd_none rfl) (by decide) (fun p95 => ?_)
          refine sb 0 K11 [iBox g83 51 ck84, I17, iBox p64 51 K9, I15] (fun W hm => hm) type51 ?_
          refine nt' (sr ?_)
          refine wv (vf underlying51 rfl type3) ?_
          refine wv (vl 3 0 underlying3) ?_
          refine wv (vf underlying51 rfl type3) ?_
          refine wv (vl 0 0 underlying3) ?_
          refine wv (fun W hm => rv_eql rfl rfl) ?_
          refine wm ?_
          by_cases h96 : ((gt (gt x0.Segments k16) k41).Id) = ((gt d42 k77).Id)
          ·have g97 := beq_iff_eq.2 h96
           refine wg (fun W hm => rv_loadN (cs := K9) underlying51 type51 rfl rfl (hm.boxCells (n := 3) rfl)) g97 ?_
           refine wg (fun W hm => rv_loadN (cs := K11) underlying51 type51 rfl rfl (hm.boxCells (n := 0) rfl)) g97 ?_
           refine WM_callV (cl_fn cb49 rfl) (fun W hm => impl_meetInTime_c W _ (gt (gt x0.Segments k16) k41) _ (gt d42 k77) (tyVersion_mk (x := (gt (gt x0.Segments k16) k41)) (hm.rdS0 r63)) (tyVersion_mk (x := (gt d42 k77)) (hm.rdS0 r94))) (Wd_some rfl rfl rfl (bw g97 rfl)) (by decide) ?_
           refine wv (vpT g97) ?_
           refine nt' ?_
           rcases Bool.eq_false_or_eq_true (impl_meetInTime_m (gt (gt x0.Segments k16) k41) (gt d42 k77)) with g99 | g99
           ·
            refine CM_condT rfl g99 ?_
            refine sr (wa (nt' (CM_ret (QM_block_ret (QM_then_ret (QM_then_ret (QM_block_ret (QM_then_ret (QM_block_ret (QM_then_ret (QM_then_ret (QM_block_ret (QM_block_ret (QM_then_ret (QM_then_ret (QM_block_ret (QM_then_ret ?_)))))))))))))))))
            refine QM_items (fun W hm => Mem.hide rk85 (hm.pick [1, 0, 2, 3, 4] (by decide))) ?_
            exact rtb (h := cond_t g11 (cond_t g13 (fin_inl (rng_ret (body := F1) (k := k16) (s := d17) (show k16 < x0.Segments.length from by omega) (cond_f g40 (fin_inl (rng_ret (body := F2) (k := k41) (s := d42) (show k41 < ((gt x0.Segments k16)).length from by omega) (cond_t g72 (cond_t g74 (cond_f g76 (fin_inl (rng_ret (body := F3) (k := k77) (s := ()) (show k77 < d42.length from by omega) (cond_t g97 (cond_t g99 (rfl))) hF79) rfl)))) hF46) rfl)) hF21) rfl)))
           ·
            refine CM_condF rfl g99 ?_
            refine CM_skip (QM_block_normal (QM_then (CM_region ?_)))
            refine wv (vadN k77 1 (by omega)) ?_
            refine wm (WM_nil ?_)
            refine QM_items (fun W hm => Mem.hide rk85 (hm.pick [1, 0, 2, 3, 4] (by decide))) ?_
            have hn100 := rng_next (R := Bool) (body := F3) (k := k77) (s := ()) (s' := ()) (show k77 < d42.length from by omega) (cond_t g97 (cond_f g99 (rfl))) hF79
            exact QM_round (k77 + 1, (), ()) sl12 (pk [2, 3, 0, 4]) ⟨(by omega), hn100⟩ (rl (by omega))
          ·have g97 := beq_eq_false_iff_ne.2 h96
           refine ws g97 ?_
           refine ws g97 ?_
           refine ws g97 ?_
           refine wv (vpF g97) ?_
           refine nt' ?_
           refine CM_condF rfl rfl ?_
           refine CM_skip (QM_block_normal (QM_then (CM_region ?_)))
           refine wv (vadN k77 1 (by omega)) ?_
           refine wm (WM_nil ?_)
           refine QM_items (fun W hm => Mem.hide rk85 (hm.pick [1, 0, 2, 3, 4] (by decide))) ?_
           have hn101 := rng_next (R := Bool) (body := F3) (k := k77) (s := ()) (s' := ()) (show k77 < d42.length from by omega) (cond_f g97 (rfl)) hF79
           exact QM_round (k77 + 1, (), ()) sl12 (pk [2, 3, 0, 4]) ⟨(by omega), hn101⟩ (rl (by omega))
         ·have g82 := dlF hl81
          refine CM_condF rfl g82 ?_
          refine CM_exit (QM_then_exit (QM_then_exit ?_))
          have hE102 : R7 (d42.length - 0) 0 () = Sum.inr () := rng_end hl81 hF79
          refine QM_block_hit (QM_then (CM_region (wm ?_)))
          refine wv (fun W hm => rv_loadN (cs := K9) underlying51 type51 rfl rfl (hm.boxCells (n := 1) rfl)) ?_
          refine WM_build (cs := K9) underlying72 type51 rfl (by decide) (by decide) rfl (by kernel_rfl) (Wd_none rfl) (by decide) (fun p103 => ?_)
          refine ap1 (tBor tyVersion w w.heap.size) 51 (.slice A43 d42.length c44) d42 (gt (gt x0.Segments k16) k41) [] [I17, iBox p64 51 K9, I15] K9 (pk [0, 3, 1, 2, 4]) (fun _ _ hs => by cases (Sep.nil hs); exact (els_cons (E := (tBor tyVersion w w.heap.size)) (L1 := []) ⟨rfl, (tyVersion_mk r63)⟩ els_nil)) underlying72 type51 (show (d42.length + 1) * 48 ≤ 140737488355328 from by omega) (fun v104 => ?_)
          refine WM_form (n := 0) rfl ?_
          rintro A105 c106 rfl m107
          refine wa (WM_nil (QM_block_normal (QM_then (CM_region ?_))))
          refine wv (vadN k41 1 (by omega)) ?_
          refine wm (WM_nil ?_)
          have hn109 := rng_next (R := Bool) (body := F2) (k := k41) (s := d42) (s' := (d42 ++ [(gt (gt x0.Segments k16) k41)])) (show k41 < ((gt x0.Segments k16)).length from by omega) (cond_t g72 (cond_t g74 (cond_f g76 (fin_inr hE102 (rfl))))) hF46
          exact QM_round (k41 + 1, (d42 ++ [(gt (gt x0.Segments k16) k41)]), (A105, c106)) sl8 (pk [0, 3]) ⟨(by omega), hn109, (show (d42 ++ [(gt (gt x0.Segments k16) k41)]).length ≤ d17.length + (k41 + 1) from by first | omega | (simp only [List.length_append, List.length_cons, List.length_nil] at *; omega))⟩ (show ((gt x0.Segments k16)).length - (k41 + 1) < ((gt x0.Segments k16)).length - k41 from by omega)
        ·have g76 : (((gt (gt x0.Segments k16) k41).Died) != (-1)) = true := bne_iff_ne.2 h75
         refine wg (vf underlying51 rfl type3) g76 ?_
         refine wg (vl 1 3 underlying3) g76 ?_
         refine wg (vf underlying51 rfl type3) g76 ?_
         refine wg (vl 1 2 underlying3) g76 ?_
         refine wg vadd g76 ?_
         refine wg (vf underlying26 rfl type3) g76 ?_
         refine wg (vl 3 1 underlying3) g76 ?_
         refine WM_callV (cl_fn cb46 rfl) (fun W hm => impl_within_c W ((gt (gt x0.Segments k16) k41).Died) (IntKind.i64.wrap (((gt (gt x0.Segments k16) k41).Born) + 1)) x0.Now) (Wd_some rfl rfl rfl (bw g76 rfl)) (by decide) ?_
         refine wg vnot g76 ?_
         refine wg (vpT g76) (nt g74) ?_
         refine wv (vpF (nt g74)) ?_
         refine nt' ?_
         rcases Bool.eq_false_or_eq_true (impl_within_m ((gt (gt x0.Segments k16) k41).Died) (IntKind.i64.wrap (((gt (gt x0.Segments k16) k41).Born) + 1)) x0.Now) with g111 | g111
         ·
          have hw := impl_within_fact g111
          refine CM_condF rfl (nt g111) ?_
          refine CM_skip (QM_then (CM_seq (sr (wm ?_))))
          refine wv (vlen underlying72) ?_
          refine wm (nt' (CM_block ?_))
          let F4 := fun k (_ : Unit) => impl_IsStore_b4 x0 k16 k41 d42 k
          let R8 := rng (R := Bool) F4
          let K12 : List Value := [.slice A67 ((impl_rowOf_m (gt (gt x0.Segments k16) k41)).Values).length c68]
          let I18 : It := iOwn (tSl tInt 3) K12 ((impl_rowOf_m (gt (gt x0.Segments k16) k41)).Values)
          refine CM_loop (σ := Nat × (Unit) × (Unit)) (fun s => [(1, .pointer (some (⟨p9, 0, none⟩ : Addr))), (3, .slice A43 d42.length c44), (7, .pointer (some (⟨p64, 0, none⟩ : Addr))), (23, .slice (some a26) x0.Segments.length c5), (24, .int .i64 ((x0.Segments.length : Nat) : Int)), (25, .int .i64 ((k16 : Nat) : Int)), (32, .slice (some a51) ((gt x0.Segments k16)).length c36), (33, .int .i64 ((((gt x0.Segments k16)).length : Nat) : Int)), (34, .int .i64 ((k41 : Nat) : Int)), (66, .slice A43 d42.length c44), (67, .int .i64 ((d42.length : Nat) : Int)), (68, .int .i64 ((s.1 : Nat) : Int))]) (fun s => [I18, iBox p64 51 K9, I16, I15]) (fun s => s.1 ≤ d42.length ∧ R8 (d42.length - s.1) s.1 s.2.1 = R8 (d42.length - 0) 0 ()) (fun s => d42.length - s.1) (0, (), ()) sl12 (fun W hm => hm) ⟨(by omega), rfl⟩ ?_
          rintro ⟨k112, ⟨⟩, ⟨⟩⟩ H115
          obtain ⟨hk113, hF114⟩ : k112 ≤ d42.length ∧ R8 (d42.length - k112) k112 () = R8 (d42.length - 0) 0 () := H115
          show CM Try.prog 89 _ _ _ _ [(1, .pointer (some (⟨p9, 0, none⟩ : Addr))), (3, .slice A43 d42.length c44), (7, .pointer (some (⟨p64, 0, none⟩ : Addr))), (23, .slice (some a26) x0.Segments.length c5), (24, .int .i64 ((x0.Segments.length : Nat) : Int)), (25, .int .i64 ((k16 : Nat) : Int)), (32, .slice (some a51) ((gt x0.Segments k16)).length c36), (33, .int .i64 ((((gt x0.Segments k16)).length : Nat) : Int)), (34, .int .i64 ((k41 : Nat) : Int)), (66, .slice A43 d42.length c44), (67, .int .i64 ((d42.length : Nat) : Int)), (68, .int .i64 ((k112 : Nat) : Int))] [I18, iBox p64 51 K9, I16, I15]
          refine sr ?_
          refine wv vlss ?_
          refine nt' (CM_seq ?_)
          by_cases hl116 : k112 < d42.length
          ·have g117 := dlT hl116
           refine CM_condT rfl g117 ?_
           refine CM_skip (QM_then (CM_seq (CM_block (sr ?_))))
           refine WM_formO (n := 2) rfl (by omega) ?_
           rintro g118 rfl
           refine wv (vix 4 k112 underlying72 type51) ?_
           refine WM_expose (T := tyVersion) (wb := w) (Bb := w.heap.size) (e := 51) (g := g118) (n := d42.length) (c := c44) (xs := d42) (js := [I18, iBox p64 51 K9, I15]) (pk [2, 0, 1, 3]) ?_
           rintro ck119 rk120
           obtain ⟨_, e121, hc122⟩ := rk120.get (j := k112) (by omega)
           obtain ⟨v123, rfl, r124⟩ := tyVersion_rd e121
           obtain ⟨m125, A126, c127, rfl, q128, r129⟩ := rdS_op r124
           let K13 : List Value := [.int .i64 ((gt d42 k112).Id), .slice A126 ((gt d42 k112).Values).length c127, .int .i64 ((gt d42 k112).Born), .int .i64 ((gt d42 k112).Died)]
           refine wv (fun W hm => rv_loadN (cs := K13) underlying51 type51 rfl rfl (hm.rowCells (i := 0) rfl hc122)) ?_
           refine WM_alloc type51 rfl (Wd_none rfl) (by decide) (fun p130 => ?_)
           refine sb 0 K13 [iBox g118 51 ck119, I18, iBox p64 51 K9, I15] (fun W hm => hm) type51 ?_
           refine nt' (sr ?_)
           refine wv (vf underlying51 rfl type3) ?_
           refine wv (vl 3 0 underlying3) ?_
           refine wv (vf underlying51 rfl type3) ?_
           refine wv (vl 0 0 underlying3) ?_
           refine wv (fun W hm => rv_eql rfl rfl) ?_
           refine wm ?_
           by_cases h131 : ((gt (gt x0.Segments k16) k41).Id) = ((gt d42 k112).Id)
           ·have g132 := beq_iff_eq.2 h131
            refine wg (fun W hm => rv_loadN (cs := K9) underlying51 type51 rfl rfl (hm.boxCells (n := 3) rfl)) g132 ?_
            refine wg (fun W hm => rv_loadN (cs := K13) underlying51 type51 rfl rfl (hm.boxCells (n := 0) rfl)) g132 ?_
            refine WM_callV (cl_fn cb49 rfl) (fun W hm => impl_meetInTime_c W _ (gt (gt x0.Segments k16) k41) _ (gt d42 k112) (tyVersion_mk (x := (gt (gt x0.Segments k16) k41)) (hm.rdS0 r63)) (tyVersion_mk (x := (gt d42 k112)) (hm.rdS0 r129))) (Wd_some rfl rfl rfl (bw g132 rfl)) (by decide) ?_
            refine wv (vpT g132) ?_
            refine nt' ?_
            rcases Bool.eq_false_or_eq_true (impl_meetInTime_m (gt (gt x0.Segments k16) k41) (gt d42 k112)) with g134 | g134
            ·
             refine CM_condT rfl g134 ?_
             refine sr (wa (nt' (CM_ret (QM_block_ret (QM_then_ret (QM_then_ret (QM_block_ret (QM_then_ret (QM_block_ret (QM_then_ret (QM_then_ret (QM_block_ret (QM_block_ret (QM_then_ret (QM_then_ret (QM_block_ret (QM_then_ret ?_)))))))))))))))))
             refine QM_items (fun W hm => Mem.hide rk120 (hm.pick [1, 0, 2, 3, 4] (by decide))) ?_
             exact rtb (h := cond_t g11 (cond_t g13 (fin_inl (rng_ret (body := F1) (k := k16) (s := d17) (show k16 < x0.Segments.length from by omega) (cond_f g40 (fin_inl (rng_ret (body := F2) (k := k41) (s := d42) (show k41 < ((gt x0.Segments k16)).length from by omega) (cond_t g72 (cond_t g74 (cond_t g76 (cond_t g111 (fin_inl (rng_ret (body := F4) (k := k112) (s := ()) (show k112 < d42.length from by omega) (cond_t g132 (cond_t g134 (rfl))) hF114) rfl))))) hF46) rfl)) hF21) rfl)))
            ·
             refine CM_condF rfl g134 ?_
             refine CM_skip (QM_block_normal (QM_then (CM_region ?_)))
             refine wv (vadN k112 1 (by omega)) ?_
             refine wm (WM_nil ?_)
             refine QM_items (fun W hm => Mem.hide rk120 (hm.pick [1, 0, 2, 3, 4] (by decide))) ?_
             have hn135 := rng_next (R := Bool) (body := F4) (k := k112) (s := ()) (s' := ()) (show k112 < d42.length from by omega) (cond_t g132 (cond_f g134 (rfl))) hF114
             exact QM_round (k112 + 1, (), ()) sl12 (pk [2, 3, 0, 4]) ⟨(by omega), hn135⟩ (rl (by omega))
           ·have g132 := beq_eq_false_iff_ne.2 h131
            refine ws g132 ?_
            refine ws g132 ?_
            refine ws g132 ?_
            refine wv (vpF g132) ?_
            refine nt' ?_
            refine CM_condF rfl rfl ?_
            refine CM_skip (QM_block_normal (QM_then (CM_region ?_)))
            refine wv (vadN k112 1 (by omega)) ?_
            refine wm (WM_nil ?_)
            refine QM_items (fun W hm => Mem.hide rk120 (hm.pick [1, 0, 2, 3, 4] (by decide))) ?_
            have hn136 := rng_next (R := Bool) (body := F4) (k := k112) (s := ()) (s' := ()) (show k112 < d42.length from by omega) (cond_f g132 (rfl)) hF114
            exact QM_round (k112 + 1, (), ()) sl12 (pk [2, 3, 0, 4]) ⟨(by omega), hn136⟩ (rl (by omega))
          ·have g117 := dlF hl116
           refine CM_condF rfl g117 ?_
           refine CM_exit (QM_then_exit (QM_then_exit ?_))
           have hE137 : R8 (d42.length - 0) 0 () = Sum.inr () := rng_end hl116 hF114
           refine QM_block_hit (QM_then (CM_region (wm ?_)))
           refine wv (fun W hm => rv_loadN (cs := K9) underlying51 type51 rfl rfl (hm.boxCells (n := 1) rfl)) ?_
           refine WM_build (cs := K9) underlying72 type51 rfl (by decide) (by decide) rfl (by kernel_rfl) (Wd_none rfl) (by decide) (fun p138 => ?_)
           refine ap1 (tBor tyVersion w w.heap.size) 51 (.slice A43 d42.length c44) d42 (gt (gt x0.Segments k16) k41) [] [I18, iBox p64 51 K9, I15] K9 (pk [0, 3, 1, 2, 4]) (fun _ _ hs => by cases (Sep.nil hs); exact (els_cons (E := (tBor tyVersion w w.heap.size)) (L1 := []) ⟨rfl, (tyVersion_mk r63)⟩ els_nil)) underlying72 type51 (show (d42.length + 1) * 48 ≤ 140737488355328 from by omega) (fun v139 => ?_)
           refine WM_form (n := 0) rfl ?_
           rintro A140 c141 rfl m142
           refine wa (WM_nil (QM_block_normal (QM_then (CM_region ?_))))
           refine wv (vadN k41 1 (by omega)) ?_
           refine wm (WM_nil ?_)
           have hn144 := rng_next (R := Bool) (body := F2) (k := k41) (s := d42) (s' := (d42 ++ [(gt (gt x0.Segments k16) k41)])) (show k41 < ((gt x0.Segments k16)).length from by omega) (cond_t g72 (cond_t g74 (cond_t g76 (cond_t g111 (fin_inr hE137 (rfl)))))) hF46
           exact QM_round (k41 + 1, (d42 ++ [(gt (gt x0.Segments k16) k41)]), (A140, c141)) sl8 (pk [0, 3]) ⟨(by omega), hn144, (show (d42 ++ [(gt (gt x0.Segments k16) k41)]).length ≤ d17.length + (k41 + 1) from by first | omega | (simp only [List.length_append, List.length_cons, List.length_nil] at *; omega))⟩ (show ((gt x0.Segments k16)).length - (k41 + 1) < ((gt x0.Segments k16)).length - k41 from by omega)
         ·
          refine CM_condT rfl (nf g111) ?_
          refine sr (wa (nt' (CM_ret (QM_then_ret (QM_block_ret (QM_then_ret (QM_then_ret (QM_block_ret (QM_block_ret (QM_then_ret (QM_then_ret (QM_block_ret (QM_then_ret ?_)))))))))))))
          exact rtb (h := cond_t g11 (cond_t g13 (fin_inl (rng_ret (body := F1) (k := k16) (s := d17) (show k16 < x0.Segments.length from by omega) (cond_f g40 (fin_inl (rng_ret (body := F2) (k := k41) (s := d42) (show k41 < ((gt x0.Segments k16)).length from by omega) (cond_t g72 (cond_t g74 (cond_t g76 (cond_f g111 (rfl))))) hF46) rfl)) hF21) rfl)))
       ·
        refine ws (nf g74) ?_
        refine ws (nf g74) ?_
        refine ws (nf g74) ?_
        refine ws (nf g74) ?_
        refine wu ?_
        refine wu ?_
        refine wu ?_
        refine wu ?_
        refine wu ?_
        refine wu ?_
        refine wu ?_
        refine wu ?_
        refine wu ?_
        refine ws (nf g74) ?_
        refine wv (vpT (nf g74)) ?_
        refine nt' ?_
        refine CM_condT rfl rfl ?_
        refine sr (wa (nt' (CM_ret (QM_then_ret (QM_block_ret (QM_then_ret (QM_then_ret (QM_block_ret (QM_block_ret (QM_then_ret (QM_then_ret (QM_block_ret (QM_then_ret ?_)))))))))))))
        exact rtb (h := cond_t g11 (cond_t g13 (fin_inl (rng_ret (body := F1) (k := k16) (s := d17) (show k16 < x0.Segments.length from by omega) (cond_f g40 (fin_inl (rng_ret (body := F2) (k := k41) (s := d42) (show k41 < ((gt x0.Segments k16)).length from by omega) (cond_t g72 (cond_f g74 (rfl))) hF46) rfl)) hF21) rfl)))
      ·
       refine ws (nf g72) ?_
       refine ws (nf g72) ?_
       refine ws (nf g72) ?_
       refine ws (nf g72) ?_
       refine ws (nf g72) ?_
       refine ws (nf g72) ?_
       refine wv (vpT (nf g72)) ?_
       refine wm ?_
       refine wk ?_
       refine wk ?_
       refine wk ?_
       refine wk ?_
       refine wu ?_
       refine wu ?_
       refine wu ?_
       refine wu ?_
       refine wu ?_
       refine wu ?_
       refine wu ?_
       refine wu ?_
       refine wu ?_
       refine wk ?_
       refine wv (vpT rfl) ?_
       refine nt' ?_
       refine CM_condT rfl rfl ?_
       refine sr (wa (nt' (CM_ret (QM_then_ret (QM_block_ret (QM_then_ret (QM_then_ret (QM_block_ret (QM_block_ret (QM_then_ret (QM_then_ret (QM_block_ret (QM_then_ret ?_)))))))))))))
       exact rtb (h := cond_t g11 (cond_t g13 (fin_inl (rng_ret (body := F1) (k := k16) (s := d17) (show k16 < x0.Segments.length from by omega) (cond_f g40 (fin_inl (rng_ret (body := F2) (k := k41) (s := d42) (show k41 < ((gt x0.Segments k16)).length from by omega) (cond_f g72 (rfl)) hF46) rfl)) hF21) rfl)))
     ·have g50 := dlF hl49
      refine CM_condF rfl g50 ?_
      refine CM_exit (QM_then_exit (QM_then_exit ?_))
      have hE145 : R6 (((gt x0.Segments k16)).length - 0) 0 d17 = Sum.inr d42 := rng_end hl49 hF46
      refine QM_block_hit (QM_block_normal (QM_then (CM_region ?_)))
      refine wv (vadN k16 1 (by omega)) ?_
      refine wm (WM_nil ?_)
      have hn146 := rng_next (R := Bool) (body := F1) (k := k16) (s := d17) (s' := d42) (show k16 < x0.Segments.length from by omega) (cond_f g40 (fin_inr hE145 (rfl))) hF21
      exact QM_round (k16 + 1, d42, (A43, c44)) sl5 (fun W hm => hm) ⟨(by omega), hn146, (show d42.length ≤ 0 + 4 * (k16 + 1) from by first | omega | (simp only [List.length_append, List.length_cons, List.length_nil] at *; omega))⟩ (rl (by omega))
   ·have g25 := dlF hl24
    refine CM_condF rfl g25 ?_
    refine CM_exit (QM_then_exit (QM_then_exit ?_))
    have hE147 : R5 (x0.Segments.length - 0) 0 [] = Sum.inr d17 := rng_end hl24 hF21
    refine QM_block_hit (QM_then (sr (wa (nt' (CM_ret ?_)))))
    exact rtb (h := cond_t g11 (cond_t g13 (fin_inr hE147 (rfl))))
  ·
   refine CM_condT rfl (nf g13) ?_
   refine sr (wa (nt' (CM_ret (QM_then_ret ?_))))
   exact rtb (h := cond_t g11 (cond_f g13 (rfl)))
 ·
  refine ws (nf g11) ?_
  refine ws (nf g11) ?_
  refine ws (nf g11) ?_
  refine ws (nf g11) ?_
  refine wv (vpT (nf g11)) ?_
  refine nt' ?_
  refine CM_condT rfl rfl ?_
  refine sr (wa (nt' (CM_ret (QM_then_ret ?_))))
  exact rtb (h := cond_f g11 (rfl))

def impl_isField_m (x0 : Int) : Bool :=
 (impl_within_m x0 0 2)
theorem cb71 : Cb Try.prog 71 := ⟨f71, _, func71, rfl, by decide⟩
theorem impl_isField_c (w : World) (x0 : Int) :
  Calls Try.prog 71 #[.int .i64 x0] w fun e w' => e = .returned (.bool (impl_isField_m x0)) ∧ Below w.heap.size w w' := by
 refine ce1 (L := [(0, .int .i64 x0)]) (N := 5) func71 ?_
 refine sr (wa (nt' (sr (wm ?_))))
 refine wcv (cl_fn cb46 rfl) (fun W hm => impl_within_c W x0 0 2) ?_
 refine wa (nt' (CM_ret ?_))
 exact rtb (h := rfl)

def impl_IsUpdate_m (x0 : DUpdate) : Bool :=
 cond (impl_within_m x0.Row.Id 0 999) (cond (x0.Kind == 1) (cond (impl_IsRow_m x0.Row) (cond (x0.Field == 0) (x0.Value == 0) false) false) (cond (x0.Kind == 2) (cond (((x0.Row.Values.length : Nat) : Int) == 0) (cond (x0.Field == 0) (x0.Value == 0) false) false) (cond (x0.Kind == 3) (cond (((x0.Row.Values.length : Nat) : Int) == 0) (cond (impl_isField_m x0.Field) (impl_within_m x0.Value 0 99) false) false) false))) (cond (x0.Kind == 1) (cond (impl_IsRow_m x0.Row) (cond (x0.Field == 0) (x0.Value == 0) false) false) (cond (x0.Kind == 2) false (cond (x0.Kind == 3) false false)))
theorem cb38 : Cb Try.prog 38 := ⟨f38, _, func38, rfl, by decide⟩
theorem impl_IsUpdate_c (w : World) (z0 : List Value) (x0 : DUpdate) (r_0 : tyUpdate.rd w w.heap.size z0 x0) :
  Calls Try.prog 38 #[.agg z0.toArray] w fun e w' => e = .returned (.bool (impl_IsUpdate_m x0)) ∧ Below w.heap.size w w' := by
 obtain ⟨v1, rfl, r2⟩ := tyUpdate_rd r_0
 obtain ⟨m3, A4, c5, rfl, q6, r7⟩ := rdS_op r2
 refine ce1 (L := [(0, .agg #[.int .i64 x0.Kind, .int .i64 x0.Row.Id, .slice A4 x0.Row.Values.length c5, .int .i64 x0.Field, .int .i64 x0.Value])]) (N := 58) func38 ?_
 refine sr ?_
 refine WM_box rfl (Wd_none rfl) (by decide) (fun p8 => ?_)
 refine wa (nt' (sr ?_))
 refine wv (vf underlying31 rfl type29) ?_
 refine wv (fun W hm => rv_fieldA (o := 1) underlying29 rfl type3 (by decide) rfl rfl) ?_
 refine wv (vl 0 1 underlying3) ?_
 refine wcv (cl_fn cb46 rfl) (fun W hm => impl_within_c W x0.Row.Id 0 999) ?_
 refine wm ?_
 rcases Bool.eq_false_or_eq_true (impl_within_m x0.Row.Id 0 999) with g10 | g10
 ·
  have hw := impl_within_fact g10
  refine wg (vf underlying31 rfl type29) g10 ?_
  refine wg (fun W hm => rv_fieldA (o := 2) underlying29 rfl type27 (by decide) rfl rfl) g10 ?_
  refine wg (vl 0 2 underlying27) g10 ?_
  refine wg (vlen underlying27) g10 ?_
  refine wg (fun W hm => rv_eql rfl rfl) g10 ?_
  refine wv (vpT g10) ?_
  refine wa (nt' (CM_seq (sr ?_)))
  refine wv (vf underlying31 rfl type3) ?_
  refine wv (vl 0 0 underlying3) ?_
  refine nt' (CM_block (sr ?_))
  refine wv (fun W hm => rv_eql rfl rfl) ?_
  refine wa (nt' ?_)
  by_cases h11 : x0.Kind = 1
  ·have g12 := beq_iff_eq.2 h11
   refine CM_condT rfl g12 ?_
   refine sr ?_
   refine wv (vf underlying31 rfl type29) ?_
   refine wv (fun W hm => rv_loadN (cs := [.int .i64 x0.Row.Id, .slice A4 x0.Row.Values.length c5]) underlying29 type29 rfl rfl (hm.boxPart (n := 0) rfl rfl)) ?_
   refine wcv (cl_fn cb47 rfl) (fun W hm => impl_IsRow_c W _ x0.Row (tyRow_mk (x := x0.Row) (hm.rdS0 r7))) ?_
   refine wm ?_
   rcases Bool.eq_false_or_eq_true (impl_IsRow_m x0.Row) with g14 | g14
   ·
    refine wg (vf underlying31 rfl type3) g14 ?_
    refine wg (vl 0 3 underlying3) g14 ?_
    refine wg (fun W hm => rv_eql rfl rfl) g14 ?_
    refine wv (vpT g14) ?_
    refine wm ?_
    by_cases h15 : x0.Field = 0
    ·have g16 := beq_iff_eq.2 h15
     refine wg (vf underlying31 rfl type3) g16 ?_
     refine wg (vl 0 4 underlying3) g16 ?_
     refine wg (fun W hm => rv_eql rfl rfl) g16 ?_
     refine wv (vpT g16) ?_
     refine wa (nt' (CM_ret (QM_block_ret (QM_then_ret ?_))))
     exact rtb (h := cond_t g10 (cond_t g12 (cond_t g14 (cond_t g16 (rfl)))))
    ·have g16 := beq_eq_false_iff_ne.2 h15
     refine ws g16 ?_
     refine ws g16 ?_
     refine ws g16 ?_
     refine wv (vpF g16) ?_
     refine wa (nt' (CM_ret (QM_block_ret (QM_then_ret ?_))))
     exact rtb (h := cond_t g10 (cond_t g12 (cond_t g14 (cond_f g16 (rfl)))))
   ·
    refine ws g14 ?_
    refine ws g14 ?_
    refine ws g14 ?_
    refine wv (vpF g14) ?_
    refine wm ?_
    refine wk ?_
    refine wk ?_
    refine wk ?_
    refine wv (vpF rfl) ?_
    refine wa (nt' (CM_ret (QM_block_ret (QM_then_ret ?_))))
    exact rtb (h := cond_t g10 (cond_t g12 (cond_f g14 (rfl))))
  ·have g12 := beq_eq_false_iff_ne.2 h11
   refine CM_condF rfl g12 ?_
   refine sr ?_
   refine wv (fun W hm => rv_eql rfl rfl) ?_
   refine wa (nt' ?_)
   by_cases h17 : x0.Kind = 2
   ·have g18 := beq_iff_eq.2 h17
    refine CM_condT rfl g18 ?_
    refine sr (wm (wm ?_))
    by_cases h19 : ((x0.Row.Values.length : Nat) : Int) = 0
    ·have g20 := beq_iff_eq.2 h19
     refine wg (vf underlying31 rfl type3) g20 ?_
     refine wg (vl 0 3 underlying3) g20 ?_
     refine wg (fun W hm => rv_eql rfl rfl) g20 ?_
     refine wv (vpT g20) ?_
     refine wm ?_
     by_cases h21 : x0.Field = 0
     ·have g22 := beq_iff_eq.2 h21
      refine wg (vf underlying31 rfl type3) g22 ?_
      refine wg (vl 0 4 underlying3) g22 ?_
      refine wg (fun W hm => rv_eql rfl rfl) g22 ?_
      refine wv (vpT g22) ?_
      refine wa (nt' (CM_ret (QM_block_ret (QM_then_ret ?_))))
      exact rtb (h := cond_t g10 (cond_f g12 (cond_t g18 (cond_t g20 (cond_t g22 (rfl))))))
     ·have g22 := beq_eq_false_iff_ne.2 h21
      refine ws g22 ?_
      refine ws g22 ?_
      refine ws g22 ?_
      refine wv (vpF g22) ?_
      refine wa (nt' (CM_ret (QM_block_ret (QM_then_ret ?_))))
      exact rtb (h := cond_t g10 (cond_f g12 (cond_t g18 (cond_t g20 (cond_f g22 (rfl))))))
    ·have g20 := beq_eq_false_iff_ne.2 h19
     refine ws g20 ?_
     refine ws g20 ?_
     refine ws g20 ?_
     refine wv (vpF g20) ?_
     refine wm ?_
     refine wk ?_
     refine wk ?_
     refine wk ?_
     refine wv (vpF rfl) ?_
     refine wa (nt' (CM_ret (QM_block_ret (QM_then_ret ?_))))
     exact rtb (h := cond_t g10 (cond_f g12 (cond_t g18 (cond_f g20 (rfl)))))
   ·have g18 := beq_eq_false_iff_ne.2 h17
    refine CM_condF rfl g18 ?_
    refine sr ?_
    refine wv (fun W hm => rv_eql rfl rfl) ?_
    refine wa (nt' ?_)
    by_cases h23 : x0.Kind = 3
    ·have g24 := beq_iff_eq.2 h23
     refine CM_condT rfl g24 ?_
     refine sr (wm (wm ?_))
     by_cases h25 : ((x0.Row.Values.length : Nat) : Int) = 0
     ·have g26 := beq_iff_eq.2 h25
      refine wg (vf underlying31 rfl type3) g26 ?_
      refine wg (vl 0 3 underlying3) g26 ?_
      refine WM_callV (cl_fn cb71 rfl) (fun W hm => impl_isField_c W x0.Field) (Wd_some rfl rfl rfl (bw g26 rfl)) (by decide) ?_
      refine wv (vpT g26) ?_
      refine wm ?_
      rcases Bool.eq_false_or_eq_true (impl_isField_m x0.Field) with g28 | g28
      ·
       refine wg (vf underlying31 rfl type3) g28 ?_
       refine wg (vl 0 4 underlying3) g28 ?_
       refine WM_callV (cl_fn cb46 rfl) (fun W hm => impl_within_c W x0.Value 0 99) (Wd_some rfl rfl rfl (bw g28 rfl)) (by decide) ?_
       refine wv (vpT g28) ?_
       refine wa (nt' (CM_ret (QM_block_ret (QM_then_ret ?_))))
       exact rtb (h := cond_t g10 (cond_f g12 (cond_f g18 (cond_t g24 (cond_t g26 (cond_t g28 (rfl)))))))
      ·
       refine ws g28 ?_
       refine ws g28 ?_
       refine ws g28 ?_
       refine wv (vpF g28) ?_
       refine wa (nt' (CM_ret (QM_block_ret (QM_then_ret ?_))))
       exact rtb (h := cond_t g10 (cond_f g12 (cond_f g18 (cond_t g24 (cond_t g26 (cond_f g28 (rfl)))))))
     ·have g26 := beq_eq_false_iff_ne.2 h25
      refine ws g26 ?_
      refine ws g26 ?_
      refine ws g26 ?_
      refine wv (vpF g26) ?_
      refine wm ?_
      refine wk ?_
      refine wk ?_
      refine wk ?_
      refine wv (vpF rfl) ?_
      refine wa (nt' (CM_ret (QM_block_ret (QM_then_ret ?_))))
      exact rtb (h := cond_t g10 (cond_f g12 (cond_f g18 (cond_t g24 (cond_f g26 (rfl))))))
    ·have g24 := beq_eq_false_iff_ne.2 h23
     refine CM_condF rfl g24 ?_
     refine CM_skip (QM_block_normal (QM_then (sr (wa (nt' (CM_ret ?_))))))
     exact rtb (h := cond_t g10 (cond_f g12 (cond_f g18 (cond_f g24 (rfl)))))
 ·
  refine ws g10 ?_
  refine ws g10 ?_
  refine ws g10 ?_
  refine ws g10 ?_
  refine ws g10 ?_
  refine wv (vpF g10) ?_
  refine wa (nt' (CM_seq (sr ?_)))
  refine wv (vf underlying31 rfl type3) ?_
  refine wv (vl 0 0 underlying3) ?_
  refine nt' (CM_block (sr ?_))
  refine wv (fun W hm => rv_eql rfl rfl) ?_
  refine wa (nt' ?_)
  by_cases h29 : x0.Kind = 1
  ·have g30 := beq_iff_eq.2 h29
   refine CM_condT rfl g30 ?_
   refine sr ?_
   refine wv (vf underlying31 rfl type29) ?_
   refine wv (fun W hm => rv_loadN (cs := [.int .i64 x0.Row.Id, .slice A4 x0.Row.Values.length c5]) underlying29 type29 rfl rfl (hm.boxPart (n := 0) rfl rfl)) ?_
   refine wcv (cl_fn cb47 rfl) (fun W hm => impl_IsRow_c W _ x0.Row (tyRow_mk (x := x0.Row) (hm.rdS0 r7))) ?_
   refine wm ?_
   rcases Bool.eq_false_or_eq_true (impl_IsRow_m x0.Row) with g32 | g32
   ·
    refine wg (vf underlying31 rfl type3) g32 ?_
    refine wg (vl 0 3 underlying3) g32 ?_
    refine wg (fun W hm => rv_eql rfl rfl) g32 ?_
    refine wv (vpT g32) ?_
    refine wm ?_
    by_cases h33 : x0.Field = 0
    ·have g34 := beq_iff_eq.2 h33
     refine wg (vf underlying31 rfl type3) g34 ?_
     refine wg (vl 0 4 underlying3) g34 ?_
     refine wg (fun W hm => rv_eql rfl rfl) g34 ?_
     refine wv (vpT g34) ?_
     refine wa (nt' (CM_ret (QM_block_ret (QM_then_ret ?_))))
     exact rtb (h := cond_f g10 (cond_t g30 (cond_t g32 (cond_t g34 (rfl)))))
    ·have g34 := beq_eq_false_iff_ne.2 h33
     refine ws g34 ?_
     refine ws g34 ?_
     refine ws g34 ?_
     refine wv (vpF g34) ?_
     refine wa (nt' (CM_ret (QM_block_ret (QM_then_ret ?_))))
     exact rtb (h := cond_f g10 (cond_t g30 (cond_t g32 (cond_f g34 (rfl)))))
   ·
    refine ws g32 ?_
    refine ws g32 ?_
    refine ws g32 ?_
    refine wv (vpF g32) ?_
    refine wm ?_
    refine wk ?_
    refine wk ?_
    refine wk ?_
    refine wv (vpF rfl) ?_
    refine wa (nt' (CM_ret (QM_block_ret (QM_then_ret ?_))))
    exact rtb (h := cond_f g10 (cond_t g30 (cond_f g32 (rfl))))
  ·have g30 := beq_eq_false_iff_ne.2 h29
   refine CM_condF rfl g30 ?_
   refine sr ?_
   refine wv (fun W hm => rv_eql rfl rfl) ?_
   refine wa (nt' ?_)
   by_cases h35 : x0.Kind = 2
   ·have g36 := beq_iff_eq.2 h35
    refine CM_condT rfl g36 ?_
    refine sr (wm (wm ?_))
    refine wk ?_
    refine wk ?_
    refine wk ?_
    refine wv (vpF rfl) ?_
    refine wm ?_
    refine wk ?_
    refine wk ?_
    refine wk ?_
    refine wv (vpF rfl) ?_
    refine wa (nt' (CM_ret (QM_block_ret (QM_then_ret ?_))))
    exact rtb (h := cond_f g10 (cond_f g30 (cond_t g36 (rfl))))
   ·have g36 := beq_eq_false_iff_ne.2 h35
    refine CM_condF rfl g36 ?_
    refine sr ?_
    refine wv (fun W hm => rv_eql rfl rfl) ?_
    refine wa (nt' ?_)
    by_cases h37 : x0.Kind = 3
    ·have g38 := beq_iff_eq.2 h37
     refine CM_condT rfl g38 ?_
     refine sr (wm (wm ?_))
     refine wk ?_
     refine wk ?_
     refine wk ?_
     refine wv (vpF rfl) ?_
     refine wm ?_
     refine wk ?_
     refine wk ?_
     refine wk ?_
     refine wv (vpF rfl) ?_
     refine wa (nt' (CM_ret (QM_block_ret (QM_then_ret ?_))))
     exact rtb (h := cond_f g10 (cond_f g30 (cond_f g36 (cond_t g38 (rfl)))))
    ·have g38 := beq_eq_false_iff_ne.2 h37
     refine CM_condF rfl g38 ?_
     refine CM_skip (QM_block_normal (QM_then (sr (wa (nt' (CM_ret ?_))))))
     exact rtb (h := cond_f g10 (cond_f g30 (cond_f g36 (cond_f g38 (rfl)))))

def impl_findAlive_b2 (x0 : DStore) (x1 : Int) (k9 : Nat) (k27 : Nat) : (Int × Int) ⊕ (Unit) :=
 cond (((gt (gt x0.Segments k9) k27).Id) == x1) (cond (((gt (gt x0.Segments k9) k27).Died) == (-1)) (Sum.inl (((k9 : Nat) : Int), ((k27 : Nat) : Int))) (Sum.inr ())) (Sum.inr ())
def impl_findAlive_b1 (x0 : DStore) (x1 : Int) (k9 : Nat) : (Int × Int) ⊕ (Unit) :=
 Sum.elim Sum.inl (fun (s : Unit) => Sum.inr ()) (rng (R := (Int × Int)) (fun k (_ : Unit) => impl_findAlive_b2 x0 x1 k9 k) (((gt x0.Segments k9)).length - 0) 0 ())
def impl_findAlive_m (x0 : DStore) (x1 : Int) : (Int × Int) :=
 Sum.elim id (fun (s : Unit) => ((-1), (-1))) (rng (R := (Int × Int)) (fun k (_ : Unit) => impl_findAlive_b1 x0 x1 k) (x0.Segments.length - 0) 0 ())
theorem cb39 : Cb Try.prog 39 := ⟨f39, _, func39, rfl, by decide⟩
theorem impl_findAlive_c (w : World) (z0 : List Value) (x0 : DStore) (x1 : Int) (r_0 : tyStore.rd w w.heap.size z0 x0) :
  Calls Try.prog 39 #[.agg z0.toArray, .int .i64 x1] w fun e w' => e = .returned (.tuple #[.int .i64 ((impl_findAlive_m x0 x1).1), .int .i64 ((impl_findAlive_m x0 x1).2)]) ∧ Below w.heap.size w w' := by
 obtain ⟨v1, rfl, r2⟩ := tyStore_rd r_0
 obtain ⟨m3, A4, c5, rfl, q6, r7⟩ := rdS_op r2
 refine ce2 (L := [(0, .agg #[.slice A4 x0.Segments.length c5, .int .i64 x0.Now]), (1, .int .i64 x1)]) (N := 38) func39 ?_
 refine sr ?_
 refine WM_box rfl (Wd_none rfl) (by decide) (fun p8 => ?_)
 refine wa (wa (nt' (CM_seq (sr ?_))))
 refine wv (vf underlying26 rfl type24) ?_
 refine wv (vl 0 0 underlying24) ?_
 refine wv (vlen underlying24) ?_
 refine wm (nt' (CM_block ?_))
 let F1 := fun k (_ : Unit) => impl_findAlive_b1 x0 x1 k
 let R3 := rng (R := (Int × Int)) F1
 let I6 : It := iBox p8 26 [.slice A4 x0.Segments.length c5, .int .i64 x0.Now]
 refine CM_loop (σ := Nat × (Unit) × (Unit)) (fun s => [(1, .int .i64 x1), (11, .slice A4 x0.Segments.length c5), (12, .int .i64 ((x0.Segments.length : Nat) : Int)), (13, .int .i64 ((s.1 : Nat) : Int))]) (fun s => [I6]) (fun s => s.1 ≤ x0.Segments.length ∧ R3 (x0.Segments.length - s.1) s.1 s.2.1 = R3 (x0.Segments.length - 0) 0 ()) (fun s => x0.Segments.length - s.1) (0, (), ()) sl4 (fun W hm => hm) ⟨(by omega), rfl⟩ ?_
 rintro ⟨k9, ⟨⟩, ⟨⟩⟩ H12
 obtain ⟨hk10, hF11⟩ : k9 ≤ x0.Segments.length ∧ R3 (x0.Segments.length - k9) k9 () = R3 (x0.Segments.length - 0) 0 () := H12
 show CM Try.prog 38 _ _ _ _ [(1, .int .i64 x1), (11, .slice A4 x0.Segments.length c5), (12, .int .i64 ((x0.Segments.length : Nat) : Int)), (13, .int .i64 ((k9 : Nat) : Int))] [I6]
 refine sr ?_
 refine wv vlss ?_
 refine nt' (CM_seq ?_)
 by_cases hl13 : k9 < x0.Segments.length
 ·have g14 := dlT hl13
  refine CM_condT rfl g14 ?_
  refine CM_skip (QM_then (CM_seq (CM_block (sr (wm ?_)))))
  obtain ⟨a15, rfl, hb16, he17⟩ := q6 (by omega)
  refine wv (vix 1 k9 underlying24 type72) ?_
  obtain ⟨_, e19, hc18⟩ := he17 k9 _ (gt_some (show k9 < x0.Segments.length from by omega))
  obtain ⟨v20, rfl, r21⟩ := e19
  obtain ⟨m22, A23, c24, rfl, q25, r26⟩ := rdS_op r21
  refine wv (fun W hm => rv_load underlying72 rfl rfl ((hm.cell0 (show (a15.add (k9 * 1)).block < w.heap.size from by rw [add_block]; exact hb16.1)).trans (hc18 0 _ rfl))) ?_
  refine wa (wa (nt' (sr (wm ?_))))
  refine wv (vlen underlying72) ?_
  refine wm (nt' (CM_block ?_))
  let F2 := fun k (_ : Unit) => impl_findAlive_b2 x0 x1 k9 k
  let R4 := rng (R := (Int × Int)) F2
  let I7 : It := iBox p8 26 [.slice (some a15) x0.Segments.length c5, .int .i64 x0.Now]
  refine CM_loop (σ := Nat × (Unit) × (Unit)) (fun s => [(1, .int .i64 x1), (6, .int .i64 ((k9 : Nat) : Int)), (11, .slice (some a15) x0.Segments.length c5), (12, .int .i64 ((x0.Segments.length : Nat) : Int)), (13, .int .i64 ((k9 : Nat) : Int)), (18, .slice A23 ((gt x0.Segments k9)).length c24), (19, .int .i64 ((((gt x0.Segments k9)).length : Nat) : Int)), (20, .int .i64 ((s.1 : Nat) : Int))]) (fun s => [I7]) (fun s => s.1 ≤ ((gt x0.Segments k9)).length ∧ R4 (((gt x0.Segments k9)).length - s.1) s.1 s.2.1 = R4 (((gt x0.Segments k9)).length - 0) 0 ()) (fun s => ((gt x0.Segments k9)).length - s.1) (0, (), ()) sl8 (fun W hm => hm) ⟨(by omega), rfl⟩ ?_
  rintro ⟨k27, ⟨⟩, ⟨⟩⟩ H30
  obtain ⟨hk28, hF29⟩ : k27 ≤ ((gt x0.Segments k9)).length ∧ R4 (((gt x0.Segments k9)).length - k27) k27 () = R4 (((gt x0.Segments k9)).length - 0) 0 () := H30
  show CM Try.prog 38 _ _ _ _ [(1, .int .i64 x1), (6, .int .i64 ((k9 : Nat) : Int)), (11, .slice (some a15) x0.Segments.length c5), (12, .int .i64 ((x0.Segments.length : Nat) : Int)), (13, .int .i64 ((k9 : Nat) : Int)), (18, .slice A23 ((gt x0.Segments k9)).length c24), (19, .int .i64 ((((gt x0.Segments k9)).length : Nat) : Int)), (20, .int .i64 ((k27 : Nat) : Int))] [I7]
  refine sr ?_
  refine wv vlss ?_
  refine nt' (CM_seq ?_)
  by_cases hl31 : k27 < ((gt x0.Segments k9)).length
  ·have g32 := dlT hl31
   refine CM_condT rfl g32 ?_
   refine CM_skip (QM_then (CM_seq (CM_block (sr (wm ?_)))))
   obtain ⟨a33, rfl, hb34, he35⟩ := q25 (by omega)
   refine wv (vix 4 k27 underlying72 type51) ?_
   obtain ⟨_, e39, hc36⟩ := he35 k27 _ (gt_some (show k27 < ((gt x0.Segments k9)).length from by omega))
   obtain ⟨v37, rfl, r38⟩ := tyVersion_rd e39
   obtain ⟨m40, A41, c42, rfl, q43, r44⟩ := rdS_op r38
   let K5 : List Value := [.int .i64 ((gt (gt x0.Segments k9) k27).Id), .slice A41 ((gt (gt x0.Segments k9) k27).Values).length c42, .int .i64 ((gt (gt x0.Segments k9) k27).Born), .int .i64 ((gt (gt x0.Segments k9) k27).Died)]
   refine wv (fun W hm => rv_loadN (cs := K5) underlying51 type51 rfl rfl (hm.elCells (show (a33.add (k27 * 4)).block < w.heap.size from by rw [add_block]; exact hb34.1) hc36)) ?_
   refine WM_alloc type51 rfl (Wd_none rfl) (by decide) (fun p45 => ?_)
   refine wa ?_
   refine sb 0 K5 [I7] (fun W hm => hm) type51 ?_
   refine nt' (sr ?_)
   refine wv (vf underlying51 rfl type3) ?_
   refine wv (vl 0 0 underlying3) ?_
   refine wm ?_
   refine wv (fun W hm => rv_eql rfl rfl) ?_
   refine wm ?_
   by_cases h46 : ((gt (gt x0.Segments k9) k27).Id) = x1
   ·have g47 := beq_iff_eq.2 h46
    refine wg (vf underlying51 rfl type3) g47 ?_
    refine wg (vl 0 3 underlying3) g47 ?_
    refine wg (fun W hm => rv_eql rfl rfl) g47 ?_
    refine wv (vpT g47) ?_
    refine nt' ?_
    by_cases h48 : ((gt (gt x0.Segments k9) k27).Died) = (-1)
    ·have g49 := beq_iff_eq.2 h48
     refine CM_condT rfl g49 ?_
     refine sr (wm (wm (wa (wa (nt' (CM_ret (QM_block_ret (QM_then_ret (QM_then_ret (QM_block_ret (QM_block_ret (QM_then_ret (QM_then_ret (QM_block_ret (QM_then_ret ?_)))))))))))))))
     have he50 := (show impl_findAlive_m x0 x1 = (((k9 : Nat) : Int), ((k27 : Nat) : Int)) from fin_inl (rng_ret (body := F1) (k := k9) (s := ()) (show k9 < x0.Segments.length from by omega) (fin_inl (rng_ret (body := F2) (k := k27) (s := ()) (show k27 < ((gt x0.Segments k9)).length from by omega) (cond_t g47 (cond_t g49 (rfl))) hF29) rfl) hF11) rfl)
     exact QM_r2 rfl (RR_tmp rfl) (RR_tmp rfl) (fun W hm => ⟨by rw [he50], hm.below⟩)
    ·have g49 := beq_eq_false_iff_ne.2 h48
     refine CM_condF rfl g49 ?_
     refine CM_skip (QM_block_normal (QM_then (CM_region ?_)))
     refine wv (vadN k27 1 (by omega)) ?_
     refine wm (WM_nil ?_)
     have hn51 := rng_next (R := (Int × Int)) (body := F2) (k := k27) (s := ()) (s' := ()) (show k27 < ((gt x0.Segments k9)).length from by omega) (cond_t g47 (cond_f g49 (rfl))) hF29
     exact QM_round (k27 + 1, (), ()) sl8 (pk [1]) ⟨(by omega), hn51⟩ (show ((gt x0.Segments k9)).length - (k27 + 1) < ((gt x0.Segments k9)).length - k27 from by omega)
   ·have g47 := beq_eq_false_iff_ne.2 h46
    refine ws g47 ?_
    refine ws g47 ?_
    refine ws g47 ?_
    refine wv (vpF g47) ?_
    refine nt' ?_
    refine CM_condF rfl rfl ?_
    refine CM_skip (QM_block_normal (QM_then (CM_region ?_)))
    refine wv (vadN k27 1 (by omega)) ?_
    refine wm (WM_nil ?_)
    have hn52 := rng_next (R := (Int × Int)) (body := F2) (k := k27) (s := ()) (s' := ()) (show k27 < ((gt x0.Segments k9)).length from by omega) (cond_f g47 (rfl)) hF29
    exact QM_round (k27 + 1, (), ()) sl8 (pk [1]) ⟨(by omega), hn52⟩ (show ((gt x0.Segments k9)).length - (k27 + 1) < ((gt x0.Segments k9)).length - k27 from by omega)
  ·have g32 := dlF hl31
   refine CM_condF rfl g32 ?_
   refine CM_exit (QM_then_exit (QM_then_exit ?_))
   have hE53 : R4 (((gt x0.Segments k9)).length - 0) 0 () = Sum.inr () := rng_end hl31 hF29
   refine QM_block_hit (QM_block_normal (QM_then (CM_region ?_)))
   refine wv (vadN k9 1 (by omega)) ?_
   refine wm (WM_nil ?_)
   have hn54 := rng_next (R := (Int × Int)) (body := F1) (k := k9) (s := ()) (s' := ()) (show k9 < x0.Segments.length from by omega) (fin_inr hE53 (rfl)) hF11
   exact QM_round (k9 + 1, (), ()) sl4 (fun W hm => hm) ⟨(by omega), hn54⟩ (rl (by omega))
 ·have g14 := dlF hl13
  refine CM_condF rfl g14 ?_
  refine CM_exit (QM_then_exit (QM_then_exit ?_))
  have hE55 : R3 (x0.Segments.length - 0) 0 () = Sum.inr () := rng_end hl13 hF11
  refine QM_block_hit (QM_then (sr (wa (wa (nt' (CM_ret ?_))))))
  have he56 := (show impl_findAlive_m x0 x1 = ((-1), (-1)) from fin_inr hE55 (rfl))
  exact QM_r2 rfl (RR_tmp rfl) (RR_tmp rfl) (fun W hm => ⟨by rw [he56], hm.below⟩)

theorem within_same (x a b : Int) : impl_within_m x a b = spec_l1In_m x a b := rfl
theorem IsRow_same (x : DRow) : impl_IsRow_m x = spec_IsRow_m x := rfl
theorem isField_same (x : Int) : impl_isField_m x = spec_l1In_m x 0 2 := rfl
theorem IsUpdate_same (x : DUpdate) : impl_IsUpdate_m x = spec_IsUpdate_m x := by
  unfold impl_IsUpdate_m spec_IsUpdate_m
  rw [IsRow_same, within_same, within_same, isField_same]
  cases spec_l1In_m x.Row.Id 0 999 <;> cases h1 : x.Kind == 1 <;> cases x.Kind == 2 <;> cases x.Kind == 3 <;> cases spec_IsRow_m x.Row <;> cases (((x.Row.Values.length : Nat) : Int) == 0) <;> rfl
def okI (now : Int) (seen : List DVersion) (v : DVersion) : Bool := spec_l7Version_m v now && seen.all fun w => !(v.Id == w.Id && impl_meetInTime_m v w)
theorem seenF_append (ok : List DVersion → DVersion → Bool) : ∀ (s t seen : List DVersion), seenF ok seen (s ++ t) = (seenF ok seen s && seenF ok (seen ++ s) t)
  | [], t, seen => by simp [seenF]
  | v :: s, t, seen => by
    show (ok seen v && seenF ok (seen ++ [v]) (s ++ t)) = _
    rw [seenF_append ok s t]
    simp [seenF, Bool.and_assoc]
theorem chkF_seen (ok : List DVersion → DVersion → Bool) : ∀ (l seen : List DVersion), chkF (fun d v => ok d v) (fun d v => d ++ [v]) l seen = cond (seenF ok seen l) (some (seen ++ l)) none
  | [], seen => by simp [chkF, seenF]
  | v :: l, seen => by
    rw [chkF, chkF_seen ok l]
    show _ = cond (ok seen v && seenF ok (seen ++ [v]) l) _ _
    cases ok seen v <;> simp
theorem impl_Store_b34 (x : DStore) (i j : Nat) (d : List DVersion) : rng (R := Bool) (fun k (_ : Unit) => impl_IsStore_b3 x i j d k) (d.length - 0) 0 () = cond (d.all fun w => !((gt (gt x.Segments i) j).Id == w.Id && impl_meetInTime_m (gt (gt x.Segments i) j) w)) (.inr ()) (.inl false) :=
  rng_allB fun k _ => by
    unfold impl_IsStore_b3
    cases (gt (gt x.Segments i) j).Id == (gt d k).Id <;> cases impl_meetInTime_m (gt (gt x.Segments i) j) (gt d k) <;> rfl
theorem impl_Store_b2 (x : DStore) (i j : Nat) (d : List DVersion) : impl_IsStore_b2 x i j d = cond (okI x.Now d (gt (gt x.Segments i) j)) (.inr (d ++ [gt (gt x.Segments i) j])) (.inl false) := by
  have h4 : (fun k (_ : Unit) => impl_IsStore_b4 x i j d k) = fun k (_ : Unit) => impl_IsStore_b3 x i j d k := rfl
  unfold impl_IsStore_b2 okI
  rw [h4, impl_Store_b34, Version_eq, impl_within_iff, impl_within_iff]
  have hr : impl_IsRow_m (impl_rowOf_m (gt (gt x.Segments i) j)) = spec_IsRow_m (⟨(gt (gt x.Segments i) j).Id, (gt (gt x.Segments i) j).Values⟩ : DRow) := rfl
  rw [hr]
  have hn : ((gt (gt x.Segments i) j).Died != (-1)) = !((gt (gt x.Segments i) j).Died == (-1)) := rfl
  rw [hn]
  cases spec_IsRow_m (⟨(gt (gt x.Segments i) j).Id, (gt (gt x.Segments i) j).Values⟩ : DRow) <;> cases decide (0 ≤ (gt (gt x.Segments i) j).Born ∧ (gt (gt x.Segments i) j).Born ≤ x.Now) <;> cases (gt (gt x.Segments i) j).Died == (-1) <;>
    cases decide (IntKind.i64.wrap ((gt (gt x.Segments i) j).Born + 1) ≤ (gt (gt x.Segments i) j).Died ∧ (gt (gt x.Segments i) j).Died ≤ x.Now) <;> cases (d.all fun w => !((gt (gt x.Segments i) j).Id == w.Id && impl_meetInTime_m (gt (gt x.Segments i) j) w)) <;> rfl
theorem impl_Store_b1 (x : DStore) (i : Nat) (d : List DVersion) : impl_IsStore_b1 x i d = cond (decide ((gt x.Segments i).length ≤ 4) && seenF (okI x.Now) d (gt x.Segments i)) (.inr (d ++ gt x.Segments i)) (.inl false) := by
  unfold impl_IsStore_b1
  rw [rng_chk (xs := gt x.Segments i) (r := false) (c := fun d v => okI x.Now d v) (f := fun d v => d ++ [v]) (fun j s _ => impl_Store_b2 x i j s), chkF_seen]
  by_cases h : (gt x.Segments i).length ≤ 4
  · rw [decide_eq_true h, decide_eq_false (show ¬ 4 < ((gt x.Segments i).length : Int) by omega)]
    cases seenF (okI x.Now) d (gt x.Segments i) <;> rfl
  · rw [decide_eq_false h, decide_eq_true (show 4 < ((gt x.Segments i).length : Int) by omega)]
    rfl
theorem chkF_segs (ok : List DVersion → DVersion → Bool) : ∀ (l : List (List DVersion)) (d : List DVersion), chkF (fun d s => decide (s.length ≤ 4) && seenF ok d s) (fun d s => d ++ s) l d = cond (l.all (fun s => decide (s.length ≤ 4)) && seenF ok d l.flatten) (some (d ++ l.flatten)) none
  | [], d => by simp [chkF, seenF]
  | s :: l, d => by
    rw [chkF, chkF_segs ok l, List.flatten_cons, seenF_append, List.all_cons]
    cases decide (s.length ≤ 4) <;> cases seenF ok d s <;> cases l.all (fun s => decide (s.length ≤ 4)) <;> simp
theorem impl_IsStore_form (x : DStore) : impl_IsStore_m x = storeB (okI x.Now) x := by
  unfold impl_IsStore_m storeB
  rw [rng_chk (xs := x.Segments) (r := false) (c := fun d s => decide (s.length ≤ 4) && seenF (okI x.Now) d s) (f := fun d s => d ++ s) (fun j s _ => impl_Store_b1 x j s), chkF_segs, impl_within_iff, impl_within_iff]
  cases decide (1 ≤ (x.Segments.length : Int) ∧ (x.Segments.length : Int) ≤ 8) <;> cases decide (0 ≤ x.Now ∧ x.Now ≤ 100000) <;> cases x.Segments.all (fun s => decide (s.length ≤ 4)) <;> cases seenF (okI x.Now) [] x.Segments.flatten <;> rfl
theorem Version_ord {v : DVersion} {now : Int} (hn : now ≤ 100000) (h : spec_l7Version_m v now = true) : 0 ≤ v.Born ∧ v.Born ≤ now ∧ (v.Died = -1 ∨ (v.Born + 1 ≤ v.Died ∧ v.Died ≤ now)) := by
  rw [Version_eq] at h
  simp only [Bool.and_eq_true, Bool.or_eq_true, decide_eq_true_eq, beq_iff_eq] at h
  obtain ⟨⟨_, h1, h2⟩, h3⟩ := h
  rw [wrap_id (by omega) (by omega)] at h3
  exact ⟨h1, h2, h3⟩
theorem Visible_eq (v : DVersion) (t : Int) : impl_IsVisible_m v t = decide (v.Born ≤ t ∧ (v.Died = -1 ∨ t < v.Died)) := by
  unfold impl_IsVisible_m
  by_cases h1 : v.Born ≤ t <;> by_cases h2 : v.Died = -1 <;> by_cases h3 : t < v.Died <;> simp [h1, h2, h3]
theorem Apart_eq (v w : DVersion) : spec_l7Apart_m v w = decide (v.Id ≠ w.Id ∨ (v.Died ≠ -1 ∧ v.Died ≤ w.Born) ∨ (w.Died ≠ -1 ∧ w.Died ≤ v.Born)) := by
  unfold spec_l7Apart_m
  by_cases h1 : v.Id = w.Id <;> by_cases h2 : v.Died = -1 <;> by_cases h3 : w.Died = -1 <;> by_cases h4 : v.Died ≤ w.Born <;> simp [h1, h2, h3, h4] <;> (try rw [h2] at h4) <;> (try simp_all) <;> (try rfl)
theorem apart_meet {v w : DVersion} {now : Int} (hn : now ≤ 100000) (hv : spec_l7Version_m v now = true) (hw : spec_l7Version_m w now = true) : spec_l7Apart_m v w = !(v.Id == w.Id && impl_meetInTime_m v w) := by
  obtain ⟨a1, a2, a3⟩ := Version_ord hn hv
  obtain ⟨b1, b2, b3⟩ := Version_ord hn hw
  have hm : impl_meetInTime_m v w = decide ((v.Born ≤ w.Born ∧ (v.Died = -1 ∨ w.Born < v.Died)) ∨ (w.Born ≤ v.Born ∧ (w.Died = -1 ∨ v.Born < w.Died))) := by
    unfold impl_meetInTime_m
    rw [Visible_eq, Visible_eq]
    by_cases h1 : (v.Born ≤ w.Born ∧ (v.Died = -1 ∨ w.Born < v.Died)) <;> by_cases h2 : (w.Born ≤ v.Born ∧ (w.Died = -1 ∨ v.Born < w.Died)) <;> simp [h1, h2]
  rw [hm, Apart_eq]
  have hb : (v.Id == w.Id) = decide (v.Id = w.Id) := by by_cases h : v.Id = w.Id <;> simp [h]
  rw [hb, ← Bool.decide_and, ← decide_not]
  apply decide_eq_decide.2
  omega
theorem seenF_same {now : Int} (hn : now ≤ 100000) : ∀ (l seen : List DVersion), (∀ w ∈ seen, spec_l7Version_m w now = true) → seenF (okI now) seen l = seenF (okS now) seen l
  | [], _, _ => rfl
  | v :: l, seen, hs => by
    show (okI now seen v && seenF (okI now) (seen ++ [v]) l) = (okS now seen v && seenF (okS now) (seen ++ [v]) l)
    unfold okI okS
    cases hv : spec_l7Version_m v now with
    | false => rfl
    | true =>
      have e : (seen.all fun w => !(v.Id == w.Id && impl_meetInTime_m v w)) = seen.all fun w => spec_l7Apart_m v w := by
        rw [Bool.eq_iff_iff, List.all_eq_true, List.all_eq_true]
        exact ⟨fun h w hw => by rw [apart_meet hn hv (hs w hw)]; exact h w hw, fun h w hw => by rw [← apart_meet hn hv (hs w hw)]; exact h w hw⟩
      have ih := seenF_same hn l (seen ++ [v]) (fun w hw => by
        rcases List.mem_append.1 hw with h | h
        · exact hs w h
        · rw [List.mem_singleton.1 h]; exact hv)
      unfold okI okS at ih
      rw [e, ih]
theorem IsStore_same (x : DStore) : impl_IsStore_m x = spec_IsStore_m x := by
  rw [impl_IsStore_form, spec_IsStore_form]
  unfold storeB
  by_cases h : 0 ≤ x.Now ∧ x.Now ≤ 100000
  · rw [seenF_same h.2 _ [] (fun w hw => by cases hw)]
  · rw [decide_eq_false h, Bool.and_false, Bool.false_and]
    rfl
theorem impl_Find_fact {x : DStore} (h : impl_IsStore_m x = true) (id : Int) : (impl_findAlive_m x id).1 < 0 ∨ (0 ≤ (impl_findAlive_m x id).1 ∧ (impl_findAlive_m x id).1.toNat < x.Segments.length ∧ 0 ≤ (impl_findAlive_m x id).2 ∧ (impl_findAlive_m x id).2.toNat < (gt x.Segments (impl_findAlive_m x id).1.toNat).length ∧ (gt (gt x.Segments (impl_findAlive_m x id).1.toNat) (impl_findAlive_m x id).2.toNat).Values.length = 3 ∧ (impl_findAlive_m x id).1 < (x.Segments.length : Int) ∧ (impl_findAlive_m x id).2 < ((gt x.Segments (impl_findAlive_m x id).1.toNat).length : Int)) := spec_Find_fact (by rw [← IsStore_same]; exact h) id
theorem impl_Update_fact {u : DUpdate} (h : impl_IsUpdate_m u = true) : (u.Kind = 1 ∨ u.Kind = 2 ∨ u.Kind = 3) ∧ (u.Kind = 3 → 0 ≤ u.Field ∧ u.Field ≤ 2) ∧ (u.Kind = 1 → u.Row.Values.length = 3) ∧ (u.Kind ≠ 1 → u.Row.Values.length = 0) := spec_Update_fact (by rw [← IsUpdate_same]; exact h)
abbrev impl_ApplyUpdate_v1 (x0 : DStore) (x1 : DUpdate) : (List DVersion) :=
 ((gt x0.Segments (((impl_findAlive_m x0 x1.Row.Id).1).toNat)).set (((impl_findAlive_m x0 x1.Row.Id).2).toNat) (⟨(gt (gt x0.Segments (((impl_findAlive_m x0 x1.Row.Id).1).toNat)) (((impl_findAlive_m x0 x1.Row.Id).2).toNat)).Id, (gt (gt x0.Segments (((impl_findAlive_m x0 x1.Row.Id).1).toNat)) (((impl_findAlive_m x0 x1.Row.Id).2).toNat)).Values, (gt (gt x0.Segments (((impl_findAlive_m x0 x1.Row.Id).1).toNat)) (((impl_findAlive_m x0 x1.Row.Id).2).toNat)).Born, (IntKind.i64.wrap (x0.Now + 1))⟩ : DVersion))
abbrev impl_ApplyUpdate_v2 (x0 : DStore) (x1 : DUpdate) (k95 : Nat) : (List DVersion) :=
 ((gt (x0.Segments.set (((impl_findAlive_m x0 x1.Row.Id).1).toNat) (impl_ApplyUpdate_v1 x0 x1)) k95) ++ [(⟨x1.Row.Id, (((gt (gt x0.Segments (((impl_findAlive_m x0 x1.Row.Id).1).toNat)) (((impl_findAlive_m x0 x1.Row.Id).2).toNat)).Values).set (x1.Field.toNat) x1.Value), (IntKind.i64.wrap (x0.Now + 1)), (-1)⟩ : DVersion)])
def impl_ApplyUpdate_b1 (x0 : DStore) (x1 : DUpdate) (k95 : Nat) : (DStore × Bool) ⊕ (Unit) :=
 cond (decide ((((gt (x0.Segments.set (((impl_findAlive_m x0 x1.Row.Id).1).toNat) (impl_ApplyUpdate_v1 x0 x1)) k95).length : Nat) : Int) < 4)) (Sum.inl ((⟨((x0.Segments.set (((impl_findAlive_m x0 x1.Row.Id).1).toNat) (impl_ApplyUpdate_v1 x0 x1)).set k95 (impl_ApplyUpdate_v2 x0 x1 k95)), (IntKind.i64.wrap (x0.Now + 1))⟩ : DStore), true)) (Sum.inr ())
abbrev impl_ApplyUpdate_v3 (x0 : DStore) (x1 : DUpdate) (k128 : Nat) : (List DVersion) :=
 ((gt (x0.Segments.set (((impl_findAlive_m x0 x1.Row.Id).1).toNat) (impl_ApplyUpdate_v1 x0 x1)) k128) ++ [(⟨x1.Row.Id, ((gt (gt x0.Segments (((impl_findAlive_m x0 x1.Row.Id).1).toNat)) (((impl_findAlive_m x0 x1.Row.Id).2).toNat)).Values), (IntKind.i64.wrap (x0.Now + 1)), (-1)⟩ : DVersion)])
def impl_ApplyUpdate_b2 (x0 : DStore) (x1 : DUpdate) (k128 : Nat) : (DStore × Bool) ⊕ (Unit) :=
 cond (decide ((((gt (x0.Segments.set (((impl_findAlive_m x0 x1.Row.Id).1).toNat) (impl_ApplyUpdate_v1 x0 x1)) k128).length : Nat) : Int) < 4)) (Sum.inl ((⟨((x0.Segments.set (((impl_findAlive_m x0 x1.Row.Id).1).toNat) (impl_ApplyUpdate_v1 x0 x1)).set k128 (impl_ApplyUpdate_v3 x0 x1 k128)), (IntKind.i64.wrap (x0.Now + 1))⟩ : DStore), true)) (Sum.inr ())
def impl_ApplyUpdate_b3 (x0 : DStore) (x1 : DUpdate) (k164 : Nat) : (DStore × Bool) ⊕ (Unit) :=
 cond (decide ((((gt x0.Segments k164).length : Nat) : Int) < 4)) (Sum.inl ((⟨(x0.Segments.set k164 ((gt x0.Segments k164) ++ [(⟨x1.Row.Id, (x1.Row.Values.set (x1.Field.toNat) x1.Value), (IntKind.i64.wrap (x0.Now + 1)), (-1)⟩ : DVersion)])), (IntKind.i64.wrap (x0.Now + 1))⟩ : DStore), true)) (Sum.inr ())
def impl_ApplyUpdate_b4 (x0 : DStore) (x1 : DUpdate) (k198 : Nat) : (DStore × Bool) ⊕ (Unit) :=
 cond (decide ((((gt x0.Segments k198).length : Nat) : Int) < 4)) (Sum.inl ((⟨(x0.Segments.set k198 ((gt x0.Segments k198) ++ [(⟨x1.Row.Id, x1.Row.Values, (IntKind.i64.wrap (x0.Now + 1)), (-1)⟩ : DVersion)])), (IntKind.i64.wrap (x0.Now + 1))⟩ : DStore), true)) (Sum.inr ())
def impl_ApplyUpdate_m (x0 : DStore) (x1 : DUpdate) : (DStore × Bool) :=
 cond (impl_IsStore_m x0) (cond (impl_IsUpdate_m x1) (cond (x0.Now == 100000) (x0, false) (cond ((decide (0 ≤ ((impl_findAlive_m x0 x1.Row.Id).1))) == (x1.Kind == 1)) (x0, false) (cond (decide (0 ≤ ((impl_findAlive_m x0 x1.Row.Id).1))) (cond (x1.Kind == 3) (cond (x1.Kind == 2) ((⟨(x0.Segments.set (((impl_findAlive_m x0 x1.Row.Id).1).toNat) (impl_ApplyUpdate_v1 x0 x1)), (IntKind.i64.wrap (x0.Now + 1))⟩ : DStore), true) (Sum.elim id (fun (s : Unit) => (x0, false)) (rng (R := (DStore × Bool)) (fun k (_ : Unit) => impl_ApplyUpdate_b1 x0 x1 k) (x0.Segments.length - 0) 0 ()))) (cond (x1.Kind == 2) ((⟨(x0.Segments.set (((impl_findAlive_m x0 x1.Row.Id).1).toNat) (impl_ApplyUpdate_v1 x0 x1)), (IntKind.i64.wrap (x0.Now + 1))⟩ : DStore), true) (Sum.elim id (fun (s : Unit) => (x0, false)) (rng (R := (DStore × Bool)) (fun k (_ : Unit) => impl_ApplyUpdate_b2 x0 x1 k) (x0.Segments.length - 0) 0 ())))) (cond (x1.Kind == 3) (cond (x1.Kind == 2) ((⟨x0.Segments, (IntKind.i64.wrap (x0.Now + 1))⟩ : DStore), true) (Sum.elim id (fun (s : Unit) => (x0, false)) (rng (R := (DStore × Bool)) (fun k (_ : Unit) => impl_ApplyUpdate_b3 x0 x1 k) (x0.Segments.length - 0) 0 ()))) (cond (x1.Kind == 2) ((⟨x0.Segments, (IntKind.i64.wrap (x0.Now + 1))⟩ : DStore), true) (Sum.elim id (fun (s : Unit) => (x0, false)) (rng (R := (DStore × Bool)) (fun k (_ : Unit) => impl_ApplyUpdate_b4 x0 x1 k) (x0.Segments.length - 0) 0 ()))))))) (x0, false)) (x0, false)
theorem cb8 : Cb Try.prog 8 := ⟨f8, _, func8, rfl, by decide⟩
theorem impl_ApplyUpdate_c (w : World) (z0 : List Value) (x0 : DStore) (z1 : List Value) (x1 : DUpdate) (r_0 : tyStore.rd w w.heap.size z0 x0) (r_1 : tyUpdate.rd w w.heap.size z1 x1) (s_0 : smStore 68719476736 x0) (s_1 : smUpdate 68719476736 x1) :
  Calls Try.prog 8 #[.agg z0.toArray, .agg z1.toArray] w fun e w' => ∃ v : List Value, e = .returned (.tuple #[.agg v.toArray, .bool ((impl_ApplyUpdate_m x0 x1).2)]) ∧ Mem w.heap.size w [iOwn tyStore v (impl_ApplyUpdate_m x0 x1).1] w' := by
 obtain ⟨v1, rfl, r2⟩ := tyStore_rd r_0
 obtain ⟨m3, A4, c5, rfl, q6, r7⟩ := rdS_op r2
 obtain ⟨v8, rfl, r9⟩ := tyUpdate_rd r_1
 obtain ⟨m10, A11, c12, rfl, q13, r14⟩ := rdS_op r9
 have l15 : x0.Segments.length ≤ 68719476736 := s_0.1
 have l16 : x1.Row.Values.length ≤ 68719476736 := s_1
 refine ce2 (L := [(0, .agg #[.slice A4 x0.Segments.length c5, .int .i64 x0.Now]), (1, .agg #[.int .i64 x1.Kind, .int .i64 x1.Row.Id, .slice A11 x1.Row.Values.length c12, .int .i64 x1.Field, .int .i64 x1.Value])]) (N := 115) func8 ?_
 refine sr ?_
 refine WM_box rfl (Wd_none rfl) (by decide) (fun p17 => ?_)
 refine WM_box rfl (Wd_none rfl) (by decide) (fun p18 => ?_)
 refine WM_alloc type26 rfl (Wd_none rfl) (by decide) (fun p19 => ?_)
 refine wa (nt' (sr ?_))
 refine wv (fun W hm => rv_loadN (cs := [.slice A4 x0.Segments.length c5, .int .i64 x0.Now]) underlying26 type26 rfl rfl (hm.boxCells (n := 2) rfl)) ?_
 refine wcs tyStore x0 (cl_fn cb37 rfl) (fun W hm => impl_copyStore_c2 W _ x0 (tyStore_mk (x := x0) (hm.rdS0 r7)) s_0) (fun z20 => ?_)
 refine tyStore_sp ?_
 rintro v21 rfl
 refine WM_form (n := 0) rfl ?_
 rintro A22 c23 rfl m24
 refine WM_alloc type26 rfl (Wd_none rfl) (by decide) (fun p26 => ?_)
 let K9 : List Value := [.int .i64 x1.Kind, .int .i64 x1.Row.Id, .slice A11 x1.Row.Values.length c12, .int .i64 x1.Field, .int .i64 x1.Value]
 let I29 : It := iOwn (tSl (tSl tyVersion 51) 72) [.slice A22 x0.Segments.length c23] x0.Segments
 let I30 : It := iBox p17 26 [.slice A4 x0.Segments.length c5, .int .i64 x0.Now]
 refine sb 0 [.slice A22 x0.Segments.length c23, .int .i64 x0.Now] [I29, iBox p19 26 [.slice none 0 0, .int .i64 0], iBox p18 31 K9, I30] (fun W hm => hm) type26 ?_
 refine nt' (CM_seq (sr ?_))
 refine wv (fun W hm => rv_loadN (cs := [.slice A4 x0.Segments.length c5, .int .i64 x0.Now]) underlying26 type26 rfl rfl (hm.boxCells (n := 4) rfl)) ?_
 refine wcv (cl_fn cb11 rfl) (fun W hm => impl_IsStore_c W _ x0 (tyStore_mk (x := x0) (hm.rdS0 r7)) s_0) ?_
 refine wv vnot ?_
 refine wm ?_
 rcases Bool.eq_false_or_eq_true (impl_IsStore_m x0) with g28 | g28
 ·
  have hst := g28
  refine wg (fun W hm => rv_loadN (cs := K9) underlying31 type31 rfl rfl (hm.boxCells (n := 3) rfl)) (nt g28) ?_
  refine WM_callV (cl_fn cb38 rfl) (fun W hm => impl_IsUpdate_c W _ x1 (tyUpdate_mk (x := x1) (hm.rdS0 r14))) (Wd_some rfl rfl rfl (bw (nt g28) rfl)) (by decide) ?_
  refine wg vnot (nt g28) ?_
  refine wv (vpF (nt g28)) ?_
  refine wm ?_
  rcases Bool.eq_false_or_eq_true (impl_IsUpdate_m x1) with g30 | g30
  ·
   obtain ⟨hu1, hu2, hu3, hu4⟩ := impl_Update_fact g30
   refine wg (vf underlying26 rfl type3) (nt g30) ?_
   refine wg (vl 4 1 underlying3) (nt g30) ?_
   refine wg (fun W hm => rv_eql rfl rfl) (nt g30) ?_
   refine wv (vpF (nt g30)) ?_
   refine nt' ?_
   by_cases h31 : x0.Now = 100000
   ·have g32 := beq_iff_eq.2 h31
    refine CM_condT rfl g32 ?_
    refine sr ?_
    refine wv (fun W hm => rv_loadN (cs := [.slice A22 x0.Segments.length c23, .int .i64 x0.Now]) underlying26 type26 rfl rfl (hm.boxCells (n := 0) rfl)) ?_
    refine sb 0 [.slice A22 x0.Segments.length c23, .int .i64 x0.Now] [iBox p26 26 [.slice A22 x0.Segments.length c23, .int .i64 x0.Now], I29, iBox p18 31 K9, I30] (pk [2, 0, 1, 3, 4]) type26 ?_
    refine wa (nt' (CM_ret (QM_then_ret ?_)))
    have he33 := (show impl_ApplyUpdate_m x0 x1 = (x0, false) from cond_t g28 (cond_t g30 (cond_t g32 (rfl))))
    refine QM_r2 rfl (RR_cell (n := 0) rfl rfl underlying26 type26 rfl) (RR_tmp rfl) (fun W hm => ⟨[.slice A22 x0.Segments.length c23, .int .i64 x0.Now], ?_, ?_⟩)
    ·first | rw [he33] | rfl
     try rfl
    ·rw [he33]; exact Mem.join (is := [I29]) (js := []) (fun _ _ hs => tyStore_join (x := x0) hs) (hm.pick [2] (by decide))
   ·have g32 := beq_eq_false_iff_ne.2 h31
    refine CM_condF rfl g32 ?_
    refine CM_skip (QM_then (sr ?_))
    refine wv (fun W hm => rv_loadN (cs := [.slice A4 x0.Segments.length c5, .int .i64 x0.Now]) underlying26 type26 rfl rfl (hm.boxCells (n := 4) rfl)) ?_
    refine wv (vf underlying31 rfl type29) ?_
    refine wv (fun W hm => rv_fieldA (o := 1) underlying29 rfl type3 (by decide) rfl rfl) ?_
    refine wv (vl 3 1 underlying3) ?_
    refine wcv (cl_fn cb39 rfl) (fun W hm => impl_findAlive_c W _ x0 x1.Row.Id (tyStore_mk (x := x0) (hm.rdS0 r7))) ?_
    have hf := impl_Find_fact (x := x0) hst x1.Row.Id
    refine wm ?_
    refine wv (fun W hm => rv_extract rfl rfl) ?_
    refine wv (fun W hm => rv_extract rfl rfl) ?_
    refine wa (wa (nt' (CM_seq (sr (wm ?_)))))
    refine wv (fun W hm => rv_geq rfl rfl) ?_
    refine wv (vf underlying31 rfl type3) ?_
    refine wv (vl 3 0 underlying3) ?_
    refine wv (fun W hm => rv_eql rfl rfl) ?_
    refine wv (fun W hm => rv_eqlB underlying4 rfl rfl) ?_
    refine nt' ?_
    rcases Bool.eq_false_or_eq_true ((decide (0 ≤ ((impl_findAlive_m x0 x1.Row.Id).1))) == (x1.Kind == 1)) with g35 | g35
    ·
     refine CM_condT rfl g35 ?_
     refine sr ?_
     refine wv (fun W hm => rv_loadN (cs := [.slice A22 x0.Segments.length c23, .int .i64 x0.Now]) underlying26 type26 rfl rfl (hm.boxCells (n := 0) rfl)) ?_
     refine sb 0 [.slice A22 x0.Segments.length c23, .int .i64 x0.Now] [iBox p26 26 [.slice A22 x0.Segments.length c23, .int .i64 x0.Now], I29, iBox p18 31 K9, I30] (pk [2, 0, 1, 3, 4]) type26 ?_
     refine wa (nt' (CM_ret (QM_then_ret ?_)))
     have he36 := (show impl_ApplyUpdate_m x0 x1 = (x0, false) from cond_t g28 (cond_t g30 (cond_f g32 (cond_t g35 (rfl)))))
     refine QM_r2 rfl (RR_cell (n := 0) rfl rfl underlying26 type26 rfl) (RR_tmp rfl) (fun W hm => ⟨[.slice A22 x0.Segments.length c23, .int .i64 x0.Now], ?_, ?_⟩)
     ·first | rw [he36] | rfl
      try rfl
     ·rw [he36]; exact Mem.join (is := [I29]) (js := []) (fun _ _ hs => tyStore_join (x := x0) hs) (hm.pick [2] (by decide))
    ·
     have hne := beq_dec g35
     refine CM_condF rfl g35 ?_
     refine CM_skip (QM_then (sr ?_))
     refine wv (vf underlying26 rfl type3) ?_
     refine wv (vl 0 1 underlying3) ?_
     refine wv vadd ?_
     refine wv (vf underlying26 rfl type3) ?_
     let K10 : List Value := [.slice A22 x0.Segments.length c23, .int .i64 (IntKind.i64.wrap (x0.Now + 1))]
     refine sb 1 K10 [I29, iBox p19 26 [.slice none 0 0, .int .i64 0], iBox p18 31 K9, I30] (fun W hm => hm) type3 ?_
     refine nt' (sr ?_)
     refine wv (vf underlying31 rfl type29) ?_
     refine wv (fun W hm => rv_fieldA (o := 2) underlying29 rfl type27 (by decide) rfl rfl) ?_
     refine wv (vl 3 2 underlying27) ?_
     refine wcl (tSl tInt 3) x1.Row.Values (cl_fn cb40 rfl) (fun W hm => impl_copyInts_c2 W _ x1.Row.Values (hm.rdS0 r14) s_1) (fun z37 => ?_)
     refine WM_form (n := 0) rfl ?_
     rintro A38 c39 rfl m40
     refine wa (nt' (CM_seq (sr (wm ?_))))
     refine wv (fun W hm => rv_geq rfl rfl) ?_
     refine nt' ?_
     by_cases h42 : 0 ≤ ((impl_findAlive_m x0 x1.Row.Id).1)
     ·have g43 := decide_eq_true h42
      obtain ⟨hf1, hf2, hf3, hf4, hf5, hf6, hf7⟩ := hf.resolve_left (by omega); clear hf
      refine CM_condT rfl g43 ?_
      refine CM_seq ?_
      refine CM_formO (n := 2) rfl (by omega) ?_
      rintro g44 rfl
      let K11 : List Value := [.slice (some ⟨g44, 0, none⟩) x0.Segments.length c23, .int .i64 (IntKind.i64.wrap (x0.Now + 1))]
      let I31 : It := iOwn (tSl tInt 3) [.slice A38 x1.Row.Values.length c39] x1.Row.Values
      refine CM_focus (E := (tSl tyVersion 51)) (e := 72) (A := (some ⟨g44, 0, none⟩)) (n := x0.Segments.length) (c := c23) (xs := x0.Segments) (k := (((impl_findAlive_m x0 x1.Row.Id).1).toNat)) (js := [I31, iBox p26 26 K11, iBox p19 26 [.slice none 0 0, .int .i64 0], iBox p18 31 K9, I30]) (by omega) (pk [2, 0, 1, 3, 4, 5]) (fun ck45 => ?_)
      refine CM_split (γ := Value) (js := fun g => [iOwn (tSl tyVersion 51) [g] (gt x0.Segments (((impl_findAlive_m x0 x1.Row.Id).1).toNat))]) (C := fun g => ck45 = [g]) (fun _ _ h => tSl_split h) ?_
      rintro v46 rfl
      refine CM_form (n := 0) rfl ?_
      rintro A47 c48 rfl m49
      refine CM_formO (n := 0) rfl (by omega) ?_
      rintro g51 rfl
      let K12 : List Value := [.slice (some ⟨g51, 0, none⟩) (gt x0.Segments (((impl_findAlive_m x0 x1.Row.Id).1).toNat)).length c48]
      refine rb 11 (s := [iFoc (tSl tyVersion 51) 72 (some ⟨g44, 0, none⟩) x0.Segments.length c23 x0.Segments (((impl_findAlive_m x0 x1.Row.Id).1).toNat) K12, I31, iBox p26 26 K11, iBox p19 26 [.slice none 0 0, .int .i64 0], iBox p18 31 K9, I30]) (pk [1, 2, 3, 4, 5, 6]) ?_
      refine qt 11 0 1 rfl (vf underlying26 rfl type24) ?_
      refine qt 11 1 3 rfl (vl 2 0 underlying24) ?_
      refine qt 11 2 7 rfl vmv ?_
      refine qt 11 3 15 rfl (fun W hm => rv_indexI (sz := 1) (k := (impl_findAlive_m x0 x1.Row.Id).1) underlying24 type72 rfl rfl rfl (by omega) (by omega)) ?_
      refine qt 11 4 31 rfl (fun W hm => rv_load underlying72 rfl rfl (hm.focInt (i := 0) rfl rfl)) ?_
      refine qt 11 5 63 rfl vmv ?_
      refine qt 11 6 127 rfl (vf underlying26 rfl type3) ?_
      refine qt 11 7 255 rfl (vl 2 1 underlying3) ?_
      refine qt 11 8 511 rfl (fun W hm => rv_indexI (sz := 4) (k := (impl_findAlive_m x0 x1.Row.Id).2) underlying72 type51 rfl rfl rfl (by omega) (by omega)) ?_
      refine qt 11 9 1023 rfl (vf underlying51 rfl type3) ?_
      refine qo 11 10 2047 rfl ?_
      refine WM_focus (E := tyVersion) (e := 51) (A := (some ⟨g51, 0, none⟩)) (n := (gt x0.Segments (((impl_findAlive_m x0 x1.Row.Id).1).toNat)).length) (c := c48) (xs := (gt x0.Segments (((impl_findAlive_m x0 x1.Row.Id).1).toNat))) (k := (((impl_findAlive_m x0 x1.Row.Id).2).toNat)) (js := [iFoc (tSl tyVersion 51) 72 (some ⟨g44, 0, none⟩) x0.Segments.length c23 x0.Segments (((impl_findAlive_m x0 x1.Row.Id).1).toNat) K12, I31, iBox p26 26 K11, iBox p19 26 [.slice none 0 0, .int .i64 0], iBox p18 31 K9, I30]) (by omega) (fun W hm => hm) (fun ck52 => ?_)
      refine tyVersion_sp ?_
      rintro v53 rfl
      refine WM_form (n := 0) rfl ?_
      rintro A54 c55 rfl m56
      let K13 : List Value := [.int .i64 ((gt (gt x0.Segments (((impl_findAlive_m x0 x1.Row.Id).1).toNat)) (((impl_findAlive_m x0 x1.Row.Id).2).toNat)).Id), .slice A54 ((gt (gt x0.Segments (((impl_findAlive_m x0 x1.Row.Id).1).toNat)) (((impl_findAlive_m x0 x1.Row.Id).2).toNat)).Values).length c55, .int .i64 ((gt (gt x0.Segments (((impl_findAlive_m x0 x1.Row.Id).1).toNat)) (((impl_findAlive_m x0 x1.Row.Id).2).toNat)).Born), .int .i64 (IntKind.i64.wrap (x0.Now + 1))]
      let K14 : List Value := [.slice A54 ((gt (gt x0.Segments (((impl_findAlive_m x0 x1.Row.Id).1).toNat)) (((impl_findAlive_m x0 x1.Row.Id).2).toNat)).Values).length c55]
      let I32 : It := iOwn (tSl tInt 3) K14 ((gt (gt x0.Segments (((impl_findAlive_m x0 x1.Row.Id).1).toNat)) (((impl_findAlive_m x0 x1.Row.Id).2).toNat)).Values)
      refine sf 3 4 K13 [I32, iFoc (tSl tyVersion 51) 72 (some ⟨g44, 0, none⟩) x0.Segments.length c23 x0.Segments (((impl_findAlive_m x0 x1.Row.Id).1).toNat) K12, I31, iBox p26 26 K11, iBox p19 26 [.slice none 0 0, .int .i64 0], iBox p18 31 K9, I30] (pk [1, 0, 2, 3, 4, 5, 6, 7]) type3 ?_
      refine qn (pk [2, 3, 4, 5, 6, 7]) ?_
      refine QB_done (by kernel_rfl) ?_
      refine QM_then (CM_region ?_)
      refine wv (vf underlying26 rfl type24) ?_
      refine wv (vl 7 0 underlying24) ?_
      refine wm ?_
      obtain ⟨a58, rfl, hb59, he60⟩ := q6 (by omega)
      refine wv (fun W hm => rv_indexI (sz := 1) (k := (impl_findAlive_m x0 x1.Row.Id).1) underlying24 type72 rfl rfl rfl (by omega) (by omega)) ?_
      obtain ⟨_, e62, hc61⟩ := he60 (((impl_findAlive_m x0 x1.Row.Id).1).toNat) _ (gt_some (show (((impl_findAlive_m x0 x1.Row.Id).1).toNat) < x0.Segments.length from by omega))
      have l63 : (gt x0.Segments (((impl_findAlive_m x0 x1.Row.Id).1).toNat)).length ≤ 68719476736 := (s_0.2 _ (gt_mem (show (((impl_findAlive_m x0 x1.Row.Id).1).toNat) < x0.Segments.length from by omega))).1
      obtain ⟨v64, rfl, r65⟩ := e62
      obtain ⟨m66, A67, c68, rfl, q69, r70⟩ := rdS_op r65
      refine wv (fun W hm => rv_load underlying72 rfl rfl ((hm.cell0 (show (a58.add ((((impl_findAlive_m x0 x1.Row.Id).1).toNat) * 1)).block < w.heap.size from by rw [add_block]; exact hb59.1)).trans (hc61 0 _ rfl))) ?_
      refine wm ?_
      obtain ⟨a71, rfl, hb72, he73⟩ := q69 (by omega)
      refine wv (fun W hm => rv_indexI (sz := 4) (k := (impl_findAlive_m x0 x1.Row.Id).2) underlying72 type51 rfl rfl rfl (by omega) (by omega)) ?_
      refine wv (vf underlying51 rfl type27) ?_
      obtain ⟨_, e77, hc74⟩ := he73 (((impl_findAlive_m x0 x1.Row.Id).2).toNat) _ (gt_some (show (((impl_findAlive_m x0 x1.Row.Id).2).toNat) < ((gt x0.Segments (((impl_findAlive_m x0 x1.Row.Id).1).toNat))).length from by omega))
      obtain ⟨v75, rfl, r76⟩ := tyVersion_rd e77
      have l78 : ((gt (gt x0.Segments (((impl_findAlive_m x0 x1.Row.Id).1).toNat)) (((impl_findAlive_m x0 x1.Row.Id).2).toNat)).Values).length ≤ 68719476736 := ((s_0.2 _ (gt_mem (show (((impl_findAlive_m x0 x1.Row.Id).1).toNat) < x0.Segments.length from by omega))).2 _ (gt_mem (show (((impl_findAlive_m x0 x1.Row.Id).2).toNat) < ((gt x0.Segments (((impl_findAlive_m x0 x1.Row.Id).1).toNat))).length from by omega)))
      obtain ⟨m79, A80, c81, rfl, q82, r83⟩ := rdS_op r76
      refine wv (fun W hm => rv_load underlying27 rfl rfl ((hm.cell0 (show ((a71.add ((((impl_findAlive_m x0 x1.Row.Id).2).toNat) * 4)).add 1).block < w.heap.size from by rw [add_block, add_block]; exact hb72.1)).trans (hc74 1 _ rfl))) ?_
      refine wcl (tSl tInt 3) ((gt (gt x0.Segments (((impl_findAlive_m x0 x1.Row.Id).1).toNat)) (((impl_findAlive_m x0 x1.Row.Id).2).toNat)).Values) (cl_fn cb40 rfl) (fun W hm => impl_copyInts_c2 W _ ((gt (gt x0.Segments (((impl_findAlive_m x0 x1.Row.Id).1).toNat)) (((impl_findAlive_m x0 x1.Row.Id).2).toNat)).Values) (hm.rdS0 r83) ((s_0.2 _ (gt_mem (show (((impl_findAlive_m x0 x1.Row.Id).1).toNat) < x0.Segments.length from by omega))).2 _ (gt_mem (show (((impl_findAlive_m x0 x1.Row.Id).2).toNat) < ((gt x0.Segments (((impl_findAlive_m x0 x1.Row.Id).1).toNat))).length from by omega)))) (fun z84 => ?_)
      refine WM_form (n := 0) rfl ?_
      rintro A85 c86 rfl m87
      refine wa (nt' (CM_seq (sr ?_)))
      refine wv (vf underlying31 rfl type3) ?_
      refine wv (vl 7 0 underlying3) ?_
      refine wv (fun W hm => rv_eql rfl rfl) ?_
      refine nt' ?_
      by_cases h89 : x1.Kind = 3
      ·have g90 := beq_iff_eq.2 h89
       obtain ⟨hu5, hu6⟩ := hu2 (by assumption)
       refine CM_condT rfl g90 ?_
       refine CM_region (wm ?_)
       refine wv (vf underlying31 rfl type3) ?_
       refine wv (vl 7 3 underlying3) ?_
       refine wv (vf underlying31 rfl type3) ?_
       refine wv (vl 7 4 underlying3) ?_
       refine WM_formO (n := 0) rfl (by omega) ?_
       rintro g91 rfl
       refine wv (fun W hm => rv_indexI (sz := 1) (k := x1.Field) underlying27 type3 rfl rfl rfl (by omega) (by omega)) ?_
       let I33 : It := iBox p17 26 [.slice (some a58) x0.Segments.length c5, .int .i64 x0.Now]
       refine WM_setEl (E := tInt) (e := 3) (u := .int .i64 x1.Value) (k := (x1.Field.toNat)) (p := g91) (n := ((gt (gt x0.Segments (((impl_findAlive_m x0 x1.Row.Id).1).toNat)) (((impl_findAlive_m x0 x1.Row.Id).2).toNat)).Values).length) (xs := ((gt (gt x0.Segments (((impl_findAlive_m x0 x1.Row.Id).1).toNat)) (((impl_findAlive_m x0 x1.Row.Id).2).toNat)).Values)) (eis := []) (js := [iFoc tyVersion 51 (some ⟨g51, 0, none⟩) ((gt x0.Segments (((impl_findAlive_m x0 x1.Row.Id).1).toNat)).length) c48 (gt x0.Segments (((impl_findAlive_m x0 x1.Row.Id).1).toNat)) (((impl_findAlive_m x0 x1.Row.Id).2).toNat) K13, I32, iFoc (tSl tyVersion 51) 72 (some ⟨g44, 0, none⟩) x0.Segments.length c23 x0.Segments (((impl_findAlive_m x0 x1.Row.Id).1).toNat) K12, I31, iBox p26 26 K11, iBox p19 26 [.slice none 0 0, .int .i64 0], iBox p18 31 K9, I33]) (yv := x1.Value) (fun W hm => hm) (fun _ _ hs => (Sep.nil hs ▸ tInt_own)) rfl type3 rfl (by omega) rfl rfl (Wd_none rfl) ?_
       refine nt' (CM_seq (sr ?_))
       refine wv (vf underlying31 rfl type3) ?_
       refine wv (vl 7 0 underlying3) ?_
       refine wv (fun W hm => rv_eql rfl rfl) ?_
       refine nt' ?_
       by_cases h92 : x1.Kind = 2
       ·have g93 := beq_iff_eq.2 h92
        refine CM_condT rfl g93 ?_
        refine CM_seq ?_
        refine CM_items (pk [1, 2, 3, 5, 6]) ?_
        refine CM_region ?_
        refine wv (fun W hm => rv_loadN (cs := K11) underlying26 type26 rfl rfl (hm.boxCells (n := 3) rfl)) ?_
        refine sb 0 K11 [iFoc tyVersion 51 (some ⟨g51, 0, none⟩) ((gt x0.Segments (((impl_findAlive_m x0 x1.Row.Id).1).toNat)).length) c48 (gt x0.Segments (((impl_findAlive_m x0 x1.Row.Id).1).toNat)) (((impl_findAlive_m x0 x1.Row.Id).2).toNat) K13, I32, iFoc (tSl tyVersion 51) 72 (some ⟨g44, 0, none⟩) x0.Segments.length c23 x0.Segments (((impl_findAlive_m x0 x1.Row.Id).1).toNat) K12, iBox p26 26 K11] (pk [4, 0, 1, 2, 3]) type26 ?_
        refine wa (nt' (CM_ret (QM_then_ret ?_)))
        refine QM_items (fun W hm => Mem.unfocus (Mem.join (is := [I32]) (js := (iFoc tyVersion 51 (some ⟨g51, 0, none⟩) ((gt x0.Segments (((impl_findAlive_m x0 x1.Row.Id).1).toNat)).length) c48 (gt x0.Segments (((impl_findAlive_m x0 x1.Row.Id).1).toNat)) (((impl_findAlive_m x0 x1.Row.Id).2).toNat) K13 :: [iBox p19 26 K11, iFoc (tSl tyVersion 51) 72 (some ⟨g44, 0, none⟩) x0.Segments.length c23 x0.Segments (((impl_findAlive_m x0 x1.Row.Id).1).toNat) K12, iBox p26 26 K11])) (fun _ _ hs => tyVersion_join (x := (⟨(gt (gt x0.Segments (((impl_findAlive_m x0 x1.Row.Id).1).toNat)) (((impl_findAlive_m x0 x1.Row.Id).2).toNat)).Id, (gt (gt x0.Segments (((impl_findAlive_m x0 x1.Row.Id).1).toNat)) (((impl_findAlive_m x0 x1.Row.Id).2).toNat)).Values, (gt (gt x0.Segments (((impl_findAlive_m x0 x1.Row.Id).1).toNat)) (((impl_findAlive_m x0 x1.Row.Id).2).toNat)).Born, (IntKind.i64.wrap (x0.Now + 1))⟩ : DVersion)) hs) (hm.pick [2, 1, 0, 3, 4] (by decide)))) ?_
        refine QM_items (fun W hm => Mem.unfocus (Mem.join (is := [iOwn (tSl tyVersion 51) K12 (impl_ApplyUpdate_v1 x0 x1)]) (js := (iFoc (tSl tyVersion 51) 72 (some ⟨g44, 0, none⟩) x0.Segments.length c23 x0.Segments (((impl_findAlive_m x0 x1.Row.Id).1).toNat) K12 :: [iBox p19 26 K11, iBox p26 26 K11])) (fun _ _ hs => Sep.one hs) (hm.pick [0, 2, 1, 3] (by decide)))) ?_
        have he94 := (show impl_ApplyUpdate_m x0 x1 = ((⟨(x0.Segments.set (((impl_findAlive_m x0 x1.Row.Id).1).toNat) (impl_ApplyUpdate_v1 x0 x1)), (IntKind.i64.wrap (x0.Now + 1))⟩ : DStore), true) from cond_t g28 (cond_t g30 (cond_f g32 (cond_f g35 (cond_t g43 (cond_t g90 (cond_t g93 (rfl))))))))
        refine QM_r2 rfl (RR_cell (n := 1) rfl rfl underlying26 type26 rfl) (RR_tmp rfl) (fun W hm => ⟨K11, ?_, ?_⟩)
        ·first | rw [he94] | rfl
         try rfl
        ·rw [he94]; exact Mem.join (is := [iOwn (tSl (tSl tyVersion 51) 72) [.slice (some ⟨g44, 0, none⟩) x0.Segments.length c23] (x0.Segments.set (((impl_findAlive_m x0 x1.Row.Id).1).toNat) (impl_ApplyUpdate_v1 x0 x1))]) (js := []) (fun _ _ hs => tyStore_join (x := (⟨(x0.Segments.set (((impl_findAlive_m x0 x1.Row.Id).1).toNat) (impl_ApplyUpdate_v1 x0 x1)), (IntKind.i64.wrap (x0.Now + 1))⟩ : DStore)) hs) (hm.pick [0] (by decide))
       ·have g93 := beq_eq_false_iff_ne.2 h92
        refine CM_condF rfl g93 ?_
        refine CM_skip (QM_then (CM_seq (sr ?_)))
        refine wv (vf underlying26 rfl type24) ?_
        refine wv (vl 5 0 underlying24) ?_
        refine wv (vlen underlying24) ?_
        refine wm (nt' (CM_block ?_))
        let K15 : List Value := [.slice (some ⟨g91, 0, none⟩) ((gt (gt x0.Segments (((impl_findAlive_m x0 x1.Row.Id).1).toNat)) (((impl_findAlive_m x0 x1.Row.Id).2).toNat)).Values).length c86]
        let I34 : It := iOwn (tSl tInt 3) K15 (((gt (gt x0.Segments (((impl_findAlive_m x0 x1.Row.Id).1).toNat)) (((impl_findAlive_m x0 x1.Row.Id).2).toNat)).Values).set (x1.Field.toNat) x1.Value)
        refine CM_items (fun W hm => Mem.unfocus (Mem.join (is := [I32]) (js := (iFoc tyVersion 51 (some ⟨g51, 0, none⟩) ((gt x0.Segments (((impl_findAlive_m x0 x1.Row.Id).1).toNat)).length) c48 (gt x0.Segments (((impl_findAlive_m x0 x1.Row.Id).1).toNat)) (((impl_findAlive_m x0 x1.Row.Id).2).toNat) K13 :: [I34, iFoc (tSl tyVersion 51) 72 (some ⟨g44, 0, none⟩) x0.Segments.length c23 x0.Segments (((impl_findAlive_m x0 x1.Row.Id).1).toNat) K12, I31, iBox p26 26 K11, iBox p19 26 [.slice none 0 0, .int .i64 0], iBox p18 31 K9, I33])) (fun _ _ hs => tyVersion_join (x := (⟨(gt (gt x0.Segments (((impl_findAlive_m x0 x1.Row.Id).1).toNat)) (((impl_findAlive_m x0 x1.Row.Id).2).toNat)).Id, (gt (gt x0.Segments (((impl_findAlive_m x0 x1.Row.Id).1).toNat)) (((impl_findAlive_m x0 x1.Row.Id).2).toNat)).Values, (gt (gt x0.Segments (((impl_findAlive_m x0 x1.Row.Id).1).toNat)) (((impl_findAlive_m x0 x1.Row.Id).2).toNat)).Born, (IntKind.i64.wrap (x0.Now + 1))⟩ : DVersion)) hs) (hm.pick [2, 1, 0, 3, 4, 5, 6, 7, 8] (by decide)))) ?_
        refine CM_items (fun W hm => Mem.unfocus (Mem.join (is := [iOwn (tSl tyVersion 51) K12 (impl_ApplyUpdate_v1 x0 x1)]) (js := (iFoc (tSl tyVersion 51) 72 (some ⟨g44, 0, none⟩) x0.Segments.length c23 x0.Segments (((impl_findAlive_m x0 x1.Row.Id).1).toNat) K12 :: [I34, I31, iBox p26 26 K11, iBox p19 26 [.slice none 0 0, .int .i64 0], iBox p18 31 K9, I33])) (fun _ _ hs => Sep.one hs) (hm.pick [0, 2, 1, 3, 4, 5, 6, 7] (by decide)))) ?_
        let F1 := fun k (_ : Unit) => impl_ApplyUpdate_b1 x0 x1 k
        let R5 := rng (R := (DStore × Bool)) F1
        let I35 : It := iOwn (tSl (tSl tyVersion 51) 72) [.slice (some ⟨g44, 0, none⟩) x0.Segments.length c23] (x0.Segments.set (((impl_findAlive_m x0 x1.Row.Id).1).toNat) (impl_ApplyUpdate_v1 x0 x1))
        refine CM_loop (σ := Nat × (Unit) × (Unit)) (fun s => [(2, .pointer (some (⟨p17, 0, none⟩ : Addr))), (3, .pointer (some (⟨p18, 0, none⟩ : Addr))), (4, .pointer (some (⟨p19, 0, none⟩ : Addr))), (6, .pointer (some (⟨p26, 0, none⟩ : Addr))), (9, .slice (some ⟨g91, 0, none⟩) ((gt (gt x0.Segments (((impl_findAlive_m x0 x1.Row.Id).1).toNat)) (((impl_findAlive_m x0 x1.Row.Id).2).toNat)).Values).length c86), (87, .slice (some ⟨g44, 0, none⟩) x0.Segments.length c23), (88, .int .i64 ((x0.Segments.length : Nat) : Int)), (89, .int .i64 ((s.1 : Nat) : Int))]) (fun s => [I35, I34, I31, iBox p26 26 K11, iBox p19 26 [.slice none 0 0, .int .i64 0], iBox p18 31 K9, I33]) (fun s => s.1 ≤ x0.Segments.length ∧ R5 (x0.Segments.length - s.1) s.1 s.2.1 = R5 (x0.Segments.length - 0) 0 ()) (fun s => x0.Segments.length - s.1) (0, (), ()) sl8 (fun W hm => hm) ⟨(by omega), rfl⟩ ?_
        rintro ⟨k95, ⟨⟩, ⟨⟩⟩ H98
        obtain ⟨hk96, hF97⟩ : k95 ≤ x0.Segments.length ∧ R5 (x0.Segments.length - k95) k95 () = R5 (x0.Segments.length - 0) 0 () := H98
        show CM Try.prog 115 _ _ _ _ [(2, .pointer (some (⟨p17, 0, none⟩ : Addr))), (3, .pointer (some (⟨p18, 0, none⟩ : Addr))), (4, .pointer (some (⟨p19, 0, none⟩ : Addr))), (6, .pointer (some (⟨p26, 0, none⟩ : Addr))), (9, .slice (some ⟨g91, 0, none⟩) ((gt (gt x0.Segments (((impl_findAlive_m x0 x1.Row.Id).1).toNat)) (((impl_findAlive_m x0 x1.Row.Id).2).toNat)).Values).length c86), (87, .slice (some ⟨g44, 0, none⟩) x0.Segments.length c23), (88, .int .i64 ((x0.Segments.length : Nat) : Int)), (89, .int .i64 ((k95 : Nat) : Int))] [I35, I34, I31, iBox p26 26 K11, iBox p19 26 [.slice none 0 0, .int .i64 0], iBox p18 31 K9, I33]
        refine sr ?_
        refine wv vlss ?_
        refine nt' (CM_seq ?_)
        by_cases hl99 : k95 < x0.Segments.length
        ·have g100 := dlT hl99
         refine CM_condT rfl g100 ?_
         refine CM_skip (QM_then (CM_seq (CM_block (sr (wm ?_)))))
         refine wv (vix 1 k95 underlying24 type72) ?_
         refine WM_focus (E := (tSl tyVersion 51)) (e := 72) (A := (some ⟨g44, 0, none⟩)) (n := x0.Segments.length) (c := c23) (xs := (x0.Segments.set (((impl_findAlive_m x0 x1.Row.Id).1).toNat) (impl_ApplyUpdate_v1 x0 x1))) (k := k95) (js := [I34, I31, iBox p26 26 K11, iBox p19 26 [.slice none 0 0, .int .i64 0], iBox p18 31 K9, I33]) (by omega) (fun W hm => hm) (fun ck101 => ?_)
         refine WM_split (γ := Value) (js := fun g => [iOwn (tSl tyVersion 51) [g] (gt (x0.Segments.set (((impl_findAlive_m x0 x1.Row.Id).1).toNat) (impl_ApplyUpdate_v1 x0 x1)) k95)]) (C := fun g => ck101 = [g]) (fun _ _ h => tSl_split h) ?_
         rintro v102 rfl
         refine WM_form (n := 0) rfl ?_
         rintro A103 c104 rfl m105
         refine wv (fun W hm => rv_load underlying72 rfl rfl (hm.focInt (i := 1) rfl rfl)) ?_
         refine wa (wa (nt' (sr (wm ?_))))
         refine wv (vlen underlying72) ?_
         refine wv vlss ?_
         refine nt' ?_
         by_cases h107 : (((gt (x0.Segments.set (((impl_findAlive_m x0 x1.Row.Id).1).toNat) (impl_ApplyUpdate_v1 x0 x1)) k95).length : Nat) : Int) < 4
         ·have g108 := decide_eq_true h107
          refine CM_condT rfl g108 ?_
          refine CM_seq ?_
          let K16 : List Value := [.slice A103 (gt (x0.Segments.set (((impl_findAlive_m x0 x1.Row.Id).1).toNat) (impl_ApplyUpdate_v1 x0 x1)) k95).length c104]
          refine rd2 15 [14] (s := [I31, iBox p26 26 K11, iBox p19 26 [.slice none 0 0, .int .i64 0], iBox p18 31 K9, I33]) (s2 := [iFoc (tSl tyVersion 51) 72 (some ⟨g44, 0, none⟩) x0.Segments.length c23 (x0.Segments.set (((impl_findAlive_m x0 x1.Row.Id).1).toNat) (impl_ApplyUpdate_v1 x0 x1)) k95 K16, I31, iBox p26 26 K11, iBox p19 26 [.slice none 0 0, .int .i64 0], iBox p18 31 K9, I33]) (pk [3, 4, 5, 6, 7]) (pk [1, 3, 4, 5, 6, 7]) ?_
          refine qtD 15 0 1 rfl (vf underlying26 rfl type24) ?_
          refine qtD 15 1 3 rfl (vl 2 0 underlying24) ?_
          refine qtD 15 2 7 rfl vmv ?_
          refine qtD 15 3 15 rfl vmv ?_
          refine qtD 15 4 31 rfl (vf underlying31 rfl type29) ?_
          refine qtD 15 5 63 rfl (fun W hm => rv_fieldA (o := 1) underlying29 rfl type3 (by decide) rfl rfl) ?_
          refine qtD 15 6 127 rfl (vl 4 1 underlying3) ?_
          refine qtD 15 7 255 rfl vmv ?_
          refine qtD 15 8 511 rfl (vf underlying26 rfl type3) ?_
          refine qtD 15 9 1023 rfl (vl 2 1 underlying3) ?_
          let K17 : List Value := [.int .i64 x1.Row.Id, .slice (some ⟨g91, 0, none⟩) ((gt (gt x0.Segments (((impl_findAlive_m x0 x1.Row.Id).1).toNat)) (((impl_findAlive_m x0 x1.Row.Id).2).toNat)).Values).length c86, .int .i64 (IntKind.i64.wrap (x0.Now + 1)), .int .i64 (-1)]
          refine qtD 15 10 2047 rfl (fun W hm => rv_build (cs := K17) rfl (by kernel_rfl)) ?_
          refine qoD 15 11 4095 rfl ?_
          refine WM_build (cs := K17) underlying72 type51 rfl (by decide) (by decide) rfl (by kernel_rfl) (Wd_none rfl) (by decide) (fun p109 => ?_)
          refine qnD (pk [4, 5, 6, 7, 8]) (pk [2, 4, 5, 6, 7, 8]) ?_
          refine qoD 15 12 8191 rfl ?_
          refine ap1 tyVersion 51 (.slice A103 (gt (x0.Segments.set (((impl_findAlive_m x0 x1.Row.Id).1).toNat) (impl_ApplyUpdate_v1 x0 x1)) k95).length c104) (gt (x0.Segments.set (((impl_findAlive_m x0 x1.Row.Id).1).toNat) (impl_ApplyUpdate_v1 x0 x1)) k95) (⟨x1.Row.Id, (((gt (gt x0.Segments (((impl_findAlive_m x0 x1.Row.Id).1).toNat)) (((impl_findAlive_m x0 x1.Row.Id).2).toNat)).Values).set (x1.Field.toNat) x1.Value), (IntKind.i64.wrap (x0.Now + 1)), (-1)⟩ : DVersion) [I34] [iFoc (tSl tyVersion 51) 72 (some ⟨g44, 0, none⟩) x0.Segments.length c23 (x0.Segments.set (((impl_findAlive_m x0 x1.Row.Id).1).toNat) (impl_ApplyUpdate_v1 x0 x1)) k95 K16, I31, iBox p26 26 K11, iBox p19 26 [.slice none 0 0, .int .i64 0], iBox p18 31 K9, I33] K17 (pk [0, 1, 3, 2, 4, 5, 6, 7, 8]) (fun _ _ hs => Els.single (tyVersion_join (x := (⟨x1.Row.Id, (((gt (gt x0.Segments (((impl_findAlive_m x0 x1.Row.Id).1).toNat)) (((impl_findAlive_m x0 x1.Row.Id).2).toNat)).Values).set (x1.Field.toNat) x1.Value), (IntKind.i64.wrap (x0.Now + 1)), (-1)⟩ : DVersion)) hs)) underlying72 type51 (show ((gt (x0.Segments.set (((impl_findAlive_m x0 x1.Row.Id).1).toNat) (impl_ApplyUpdate_v1 x0 x1)) k95).length + 1) * 48 ≤ 140737488355328 from by first | omega | (have hx := gtset_len (xs := x0.Segments) (i := (impl_findAlive_m x0 x1.Row.Id).1.toNat) (y := impl_ApplyUpdate_v1 x0 x1) List.length_set k95; omega)) (fun v110 => ?_)
          refine WM_form (n := 0) rfl ?_
          rintro A111 c112 rfl m113
          refine qnD (pk [2, 3, 4, 5, 6]) (pk [1, 2, 3, 4, 5, 6]) ?_
          refine qtD 15 13 16383 rfl (vix 1 k95 underlying24 type72) ?_
          refine qoD 15 14 32767 rfl ?_
          let I36 : It := iOwn (tSl tyVersion 51) [.slice A111 (impl_ApplyUpdate_v2 x0 x1 k95).length c112] (impl_ApplyUpdate_v2 x0 x1 k95)
          refine sf 0 1 [.slice A111 (impl_ApplyUpdate_v2 x0 x1 k95).length c112] [I36, I31, iBox p26 26 K11, iBox p19 26 [.slice none 0 0, .int .i64 0], iBox p18 31 K9, I33] (pk [1, 0, 2, 3, 4, 5, 6]) type72 ?_
          refine qxD (pk [2, 3, 4, 5, 6]) ?_
          refine QB_done (by kernel_rfl) ?_
          refine QM_then (sr ?_)
          refine wv (fun W hm => rv_loadN (cs := K11) underlying26 type26 rfl rfl (hm.boxCells (n := 3) rfl)) ?_
          refine sb 0 K11 [iFoc (tSl tyVersion 51) 72 (some ⟨g44, 0, none⟩) x0.Segments.length c23 (x0.Segments.set (((impl_findAlive_m x0 x1.Row.Id).1).toNat) (impl_ApplyUpdate_v1 x0 x1)) k95 [.slice A111 (impl_ApplyUpdate_v2 x0 x1 k95).length c112], I36, I31, iBox p26 26 K11, iBox p18 31 K9, I33] (pk [4, 0, 1, 2, 3, 5, 6]) type26 ?_
          refine wa (nt' (CM_ret (QM_block_ret (QM_then_ret (QM_then_ret (QM_block_ret (QM_then_ret ?_)))))))
          refine QM_items (fun W hm => Mem.unfocus (Mem.join (is := [I36]) (js := (iFoc (tSl tyVersion 51) 72 (some ⟨g44, 0, none⟩) x0.Segments.length c23 (x0.Segments.set (((impl_findAlive_m x0 x1.Row.Id).1).toNat) (impl_ApplyUpdate_v1 x0 x1)) k95 [.slice A111 (impl_ApplyUpdate_v2 x0 x1 k95).length c112] :: [iBox p19 26 K11, I31, iBox p26 26 K11, iBox p18 31 K9, I33])) (fun _ _ hs => Sep.one hs) (hm.pick [2, 1, 0, 3, 4, 5, 6] (by decide)))) ?_
          have he115 := (show impl_ApplyUpdate_m x0 x1 = ((⟨((x0.Segments.set (((impl_findAlive_m x0 x1.Row.Id).1).toNat) (impl_ApplyUpdate_v1 x0 x1)).set k95 (impl_ApplyUpdate_v2 x0 x1 k95)), (IntKind.i64.wrap (x0.Now + 1))⟩ : DStore), true) from cond_t g28 (cond_t g30 (cond_f g32 (cond_f g35 (cond_t g43 (cond_t g90 (cond_f g93 (fin_inl (rng_ret (body := F1) (k := k95) (s := ()) (show k95 < x0.Segments.length from by omega) (cond_t g108 (rfl)) hF97) rfl))))))))
          refine QM_r2 rfl (RR_cell (n := 1) rfl rfl underlying26 type26 rfl) (RR_tmp rfl) (fun W hm => ⟨K11, ?_, ?_⟩)
          ·first | rw [he115] | rfl
           try rfl
          ·rw [he115]; exact Mem.join (is := [iOwn (tSl (tSl tyVersion 51) 72) [.slice (some ⟨g44, 0, none⟩) x0.Segments.length c23] ((x0.Segments.set (((impl_findAlive_m x0 x1.Row.Id).1).toNat) (impl_ApplyUpdate_v1 x0 x1)).set k95 (impl_ApplyUpdate_v2 x0 x1 k95))]) (js := []) (fun _ _ hs => tyStore_join (x := (⟨((x0.Segments.set (((impl_findAlive_m x0 x1.Row.Id).1).toNat) (impl_ApplyUpdate_v1 x0 x1)).set k95 (impl_ApplyUpdate_v2 x0 x1 k95)), (IntKind.i64.wrap (x0.Now + 1))⟩ : DStore)) hs) (hm.pick [0] (by decide))
         ·have g108 := decide_eq_false h107
          refine CM_condF rfl g108 ?_
          refine CM_skip (QM_block_normal (QM_then (CM_region ?_)))
          refine wv (vadN k95 1 (by omega)) ?_
          refine wm (WM_nil ?_)
          let K18 : List Value := [.slice A103 (gt (x0.Segments.set (((impl_findAlive_m x0 x1.Row.Id).1).toNat) (impl_ApplyUpdate_v1 x0 x1)) k95).length c104]
          refine QM_items (fun W hm => Mem.unfocus0 (Mem.join (is := [iOwn (tSl tyVersion 51) K18 (gt (x0.Segments.set (((impl_findAlive_m x0 x1.Row.Id).1).toNat) (impl_ApplyUpdate_v1 x0 x1)) k95)]) (js := (iFoc (tSl tyVersion 51) 72 (some ⟨g44, 0, none⟩) x0.Segments.length c23 (x0.Segments.set (((impl_findAlive_m x0 x1.Row.Id).1).toNat) (impl_ApplyUpdate_v1 x0 x1)) k95 K18 :: [I34, I31, iBox p26 26 K11, iBox p19 26 [.slice none 0 0, .int .i64 0], iBox p18 31 K9, I33])) (fun _ _ hs => Sep.one hs) hm)) ?_
          have hn116 := rng_next (R := (DStore × Bool)) (body := F1) (k := k95) (s := ()) (s' := ()) (show k95 < x0.Segments.length from by omega) (cond_f g108 (rfl)) hF97
          exact QM_round (k95 + 1, (), ()) sl8 (fun W hm => hm) ⟨(by omega), hn116⟩ (rl (by omega))
        ·have g100 := dlF hl99
         refine CM_condF rfl g100 ?_
         refine CM_exit (QM_then_exit (QM_then_exit ?_))
         have hE117 : R5 (x0.Segments.length - 0) 0 () = Sum.inr () := rng_end hl99 hF97
         refine QM_block_hit (QM_then (CM_seq ?_))
         refine CM_items (pk [4, 6]) ?_
         refine CM_region ?_
         refine wv (fun W hm => rv_loadN (cs := [.slice (some a58) x0.Segments.length c5, .int .i64 x0.Now]) underlying26 type26 rfl rfl (hm.boxCells (n := 1) rfl)) ?_
         refine wcs tyStore x0 (cl_fn cb37 rfl) (fun W hm => impl_copyStore_c2 W _ x0 (tyStore_mk (x := x0) (hm.rdS0 r7)) s_0) (fun z118 => ?_)
         refine tyStore_sp ?_
         rintro v119 rfl
         refine WM_form (n := 0) rfl ?_
         rintro A120 c121 rfl m122
         let I37 : It := iOwn (tSl (tSl tyVersion 51) 72) [.slice A120 x0.Segments.length c121] x0.Segments
         refine sb 0 [.slice A120 x0.Segments.length c121, .int .i64 x0.Now] [I37, I33] (pk [1, 0, 2]) type26 ?_
         refine wa (nt' (CM_ret ?_))
         have he124 := (show impl_ApplyUpdate_m x0 x1 = (x0, false) from cond_t g28 (cond_t g30 (cond_f g32 (cond_f g35 (cond_t g43 (cond_t g90 (cond_f g93 (fin_inr hE117 (rfl)))))))))
         refine QM_r2 rfl (RR_cell (n := 0) rfl rfl underlying26 type26 rfl) (RR_tmp rfl) (fun W hm => ⟨[.slice A120 x0.Segments.length c121, .int .i64 x0.Now], ?_, ?_⟩)
         ·first | rw [he124] | rfl
          try rfl
         ·rw [he124]; exact Mem.join (is := [I37]) (js := []) (fun _ _ hs => tyStore_join (x := x0) hs) (hm.pick [1] (by decide))
      ·have g90 := beq_eq_false_iff_ne.2 h89
       refine CM_condF rfl g90 ?_
       refine CM_skip (QM_then (CM_seq (sr ?_)))
       refine wv (vf underlying31 rfl type3) ?_
       refine wv (vl 7 0 underlying3) ?_
       refine wv (fun W hm => rv_eql rfl rfl) ?_
       refine nt' ?_
       by_cases h125 : x1.Kind = 2
       ·have g126 := beq_iff_eq.2 h125
        refine CM_condT rfl g126 ?_
        refine CM_seq ?_
        refine CM_items (pk [1, 2, 3, 5, 6]) ?_
        refine CM_region ?_
        refine wv (fun W hm => rv_loadN (cs := K11) underlying26 type26 rfl rfl (hm.boxCells (n := 3) rfl)) ?_
        refine sb 0 K11 [iFoc tyVersion 51 (some ⟨g51, 0, none⟩) ((gt x0.Segments (((impl_findAlive_m x0 x1.Row.Id).1).toNat)).length) c48 (gt x0.Segments (((impl_findAlive_m x0 x1.Row.Id).1).toNat)) (((impl_findAlive_m x0 x1.Row.Id).2).toNat) K13, I32, iFoc (tSl tyVersion 51) 72 (some ⟨g44, 0, none⟩) x0.Segments.length c23 x0.Segments (((impl_findAlive_m x0 x1.Row.Id).1).toNat) K12, iBox p26 26 K11] (pk [4, 0, 1, 2, 3]) type26 ?_
        refine wa (nt' (CM_ret (QM_then_ret ?_)))
        refine QM_items (fun W hm => Mem.unfocus (Mem.join (is := [I32]) (js := (iFoc tyVersion 51 (some ⟨g51, 0, none⟩) ((gt x0.Segments (((impl_findAlive_m x0 x1.Row.Id).1).toNat)).length) c48 (gt x0.Segments (((impl_findAlive_m x0 x1.Row.Id).1).toNat)) (((impl_findAlive_m x0 x1.Row.Id).2).toNat) K13 :: [iBox p19 26 K11, iFoc (tSl tyVersion 51) 72 (some ⟨g44, 0, none⟩) x0.Segments.length c23 x0.Segments (((impl_findAlive_m x0 x1.Row.Id).1).toNat) K12, iBox p26 26 K11])) (fun _ _ hs => tyVersion_join (x := (⟨(gt (gt x0.Segments (((impl_findAlive_m x0 x1.Row.Id).1).toNat)) (((impl_findAlive_m x0 x1.Row.Id).2).toNat)).Id, (gt (gt x0.Segments (((impl_findAlive_m x0 x1.Row.Id).1).toNat)) (((impl_findAlive_m x0 x1.Row.Id).2).toNat)).Values, (gt (gt x0.Segments (((impl_findAlive_m x0 x1.Row.Id).1).toNat)) (((impl_findAlive_m x0 x1.Row.Id).2).toNat)).Born, (IntKind.i64.wrap (x0.Now + 1))⟩ : DVersion)) hs) (hm.pick [2, 1, 0, 3, 4] (by decide)))) ?_
        refine QM_items (fun W hm => Mem.unfocus (Mem.join (is := [iOwn (tSl tyVersion 51) K12 (impl_ApplyUpdate_v1 x0 x1)]) (js := (iFoc (tSl tyVersion 51) 72 (some ⟨g44, 0, none⟩) x0.Segments.length c23 x0.Segments (((impl_findAlive_m x0 x1.Row.Id).1).toNat) K12 :: [iBox p19 26 K11, iBox p26 26 K11])) (fun _ _ hs => Sep.one hs) (hm.pick [0, 2, 1, 3] (by decide)))) ?_
        have he127 := (show impl_ApplyUpdate_m x0 x1 = ((⟨(x0.Segments.set (((impl_findAlive_m x0 x1.Row.Id).1).toNat) (impl_ApplyUpdate_v1 x0 x1)), (IntKind.i64.wrap (x0.Now + 1))⟩ : DStore), true) from cond_t g28 (cond_t g30 (cond_f g32 (cond_f g35 (cond_t g43 (cond_f g90 (cond_t g126 (rfl))))))))
        refine QM_r2 rfl (RR_cell (n := 1) rfl rfl underlying26 type26 rfl) (RR_tmp rfl) (fun W hm => ⟨K11, ?_, ?_⟩)
        ·first | rw [he127] | rfl
         try rfl
        ·rw [he127]; exact Mem.join (is := [iOwn (tSl (tSl tyVersion 51) 72) [.slice (some ⟨g44, 0, none⟩) x0.Segments.length c23] (x0.Segments.set (((impl_findAlive_m x0 x1.Row.Id).1).toNat) (impl_ApplyUpdate_v1 x0 x1))]) (js := []) (fun _ _ hs => tyStore_join (x := (⟨(x0.Segments.set (((impl_findAlive_m x0 x1.Row.Id).1).toNat) (impl_ApplyUpdate_v1 x0 x1)), (IntKind.i64.wrap (x0.Now + 1))⟩ : DStore)) hs) (hm.pick [0] (by decide))
       ·have g126 := beq_eq_false_iff_ne.2 h125
        refine CM_condF rfl g126 ?_
        refine CM_skip (QM_then (CM_seq (sr ?_)))
        refine wv (vf underlying26 rfl type24) ?_
        refine wv (vl 5 0 underlying24) ?_
        refine wv (vlen underlying24) ?_
        refine wm (nt' (CM_block ?_))
        let K19 : List Value := [.slice A85 ((gt (gt x0.Segments (((impl_findAlive_m x0 x1.Row.Id).1).toNat)) (((impl_findAlive_m x0 x1.Row.Id).2).toNat)).Values).length c86]
        let I38 : It := iOwn (tSl tInt 3) K19 ((gt (gt x0.Segments (((impl_findAlive_m x0 x1.Row.Id).1).toNat)) (((impl_findAlive_m x0 x1.Row.Id).2).toNat)).Values)
        let I39 : It := iBox p17 26 [.slice (some a58) x0.Segments.length c5, .int .i64 x0.Now]
        refine CM_items (fun W hm => Mem.unfocus (Mem.join (is := [I32]) (js := (iFoc tyVersion 51 (some ⟨g51, 0, none⟩) ((gt x0.Segments (((impl_findAlive_m x0 x1.Row.Id).1).toNat)).length) c48 (gt x0.Segments (((impl_findAlive_m x0 x1.Row.Id).1).toNat)) (((impl_findAlive_m x0 x1.Row.Id).2).toNat) K13 :: [I38, iFoc (tSl tyVersion 51) 72 (some ⟨g44, 0, none⟩) x0.Segments.length c23 x0.Segments (((impl_findAlive_m x0 x1.Row.Id).1).toNat) K12, I31, iBox p26 26 K11, iBox p19 26 [.slice none 0 0, .int .i64 0], iBox p18 31 K9, I39])) (fun _ _ hs => tyVersion_join (x := (⟨(gt (gt x0.Segments (((impl_findAlive_m x0 x1.Row.Id).1).toNat)) (((impl_findAlive_m x0 x1.Row.Id).2).toNat)).Id, (gt (gt x0.Segments (((impl_findAlive_m x0 x1.Row.Id).1).toNat)) (((impl_findAlive_m x0 x1.Row.Id).2).toNat)).Values, (gt (gt x0.Segments (((impl_findAlive_m x0 x1.Row.Id).1).toNat)) (((impl_findAlive_m x0 x1.Row.Id).2).toNat)).Born, (IntKind.i64.wrap (x0.Now + 1))⟩ : DVersion)) hs) (hm.pick [2, 1, 0, 3, 4, 5, 6, 7, 8] (by decide)))) ?_
        refine CM_items (fun W hm => Mem.unfocus (Mem.join (is := [iOwn (tSl tyVersion 51) K12 (impl_ApplyUpdate_v1 x0 x1)]) (js := (iFoc (tSl tyVersion 51) 72 (some ⟨g44, 0, none⟩) x0.Segments.length c23 x0.Segments (((impl_findAlive_m x0 x1.Row.Id).1).toNat) K12 :: [I38, I31, iBox p26 26 K11, iBox p19 26 [.slice none 0 0, .int .i64 0], iBox p18 31 K9, I39])) (fun _ _ hs => Sep.one hs) (hm.pick [0, 2, 1, 3, 4, 5, 6, 7] (by decide)))) ?_
        let F2 := fun k (_ : Unit) => impl_ApplyUpdate_b2 x0 x1 k
        let R6 := rng (R := (DStore × Bool)) F2
        let I40 : It := iOwn (tSl (tSl tyVersion 51) 72) [.slice (some ⟨g44, 0, none⟩) x0.Segments.length c23] (x0.Segments.set (((impl_findAlive_m x0 x1.Row.Id).1).toNat) (impl_ApplyUpdate_v1 x0 x1))
        refine CM_loop (σ := Nat × (Unit) × (Unit)) (fun s => [(2, .pointer (some (⟨p17, 0, none⟩ : Addr))), (3, .pointer (some (⟨p18, 0, none⟩ : Addr))), (4, .pointer (some (⟨p19, 0, none⟩ : Addr))), (6, .pointer (some (⟨p26, 0, none⟩ : Addr))), (9, .slice A85 ((gt (gt x0.Segments (((impl_findAlive_m x0 x1.Row.Id).1).toNat)) (((impl_findAlive_m x0 x1.Row.Id).2).toNat)).Values).length c86), (87, .slice (some ⟨g44, 0, none⟩) x0.Segments.length c23), (88, .int .i64 ((x0.Segments.length : Nat) : Int)), (89, .int .i64 ((s.1 : Nat) : Int))]) (fun s => [I40, I38, I31, iBox p26 26 K11, iBox p19 26 [.slice none 0 0, .int .i64 0], iBox p18 31 K9, I39]) (fun s => s.1 ≤ x0.Segments.length ∧ R6 (x0.Segments.length - s.1) s.1 s.2.1 = R6 (x0.Segments.length - 0) 0 ()) (fun s => x0.Segments.length - s.1) (0, (), ()) sl8 (fun W hm => hm) ⟨(by omega), rfl⟩ ?_
        rintro ⟨k128, ⟨⟩, ⟨⟩⟩ H131
        obtain ⟨hk129, hF130⟩ : k128 ≤ x0.Segments.length ∧ R6 (x0.Segments.length - k128) k128 () = R6 (x0.Segments.length - 0) 0 () := H131
        show CM Try.prog 115 _ _ _ _ [(2, .pointer (some (⟨p17, 0, none⟩ : Addr))), (3, .pointer (some (⟨p18, 0, none⟩ : Addr))), (4, .pointer (some (⟨p19, 0, none⟩ : Addr))), (6, .pointer (some (⟨p26, 0, none⟩ : Addr))), (9, .slice A85 ((gt (gt x0.Segments (((impl_findAlive_m x0 x1.Row.Id).1).toNat)) (((impl_findAlive_m x0 x1.Row.Id).2).toNat)).Values).length c86), (87, .slice (some ⟨g44, 0, none⟩) x0.Segments.length c23), (88, .int .i64 ((x0.Segments.length : Nat) : Int)), (89, .int .i64 ((k128 : Nat) : Int))] [I40, I38, I31, iBox p26 26 K11, iBox p19 26 [.slice none 0 0, .int .i64 0], iBox p18 31 K9, I39]
        refine sr ?_
        refine wv vlss ?_
        refine nt' (CM_seq ?_)
        by_cases hl132 : k128 < x0.Segments.length
        ·have g133 := dlT hl132
         refine CM_condT rfl g133 ?_
         refine CM_skip (QM_then (CM_seq (CM_block (sr (wm ?_)))))
         refine wv (vix 1 k128 underlying24 type72) ?_
         refine WM_focus (E := (tSl tyVersion 51)) (e := 72) (A := (some ⟨g44, 0, none⟩)) (n := x0.Segments.length) (c := c23) (xs := (x0.Segments.set (((impl_findAlive_m x0 x1.Row.Id).1).toNat) (impl_ApplyUpdate_v1 x0 x1))) (k := k128) (js := [I38, I31, iBox p26 26 K11, iBox p19 26 [.slice none 0 0, .int .i64 0], iBox p18 31 K9, I39]) (by omega) (fun W hm => hm) (fun ck134 => ?_)
         refine WM_split (γ := Value) (js := fun g => [iOwn (tSl tyVersion 51) [g] (gt (x0.Segments.set (((impl_findAlive_m x0 x1.Row.Id).1).toNat) (impl_ApplyUpdate_v1 x0 x1)) k128)]) (C := fun g => ck134 = [g]) (fun _ _ h => tSl_split h) ?_
         rintro v135 rfl
         refine WM_form (n := 0) rfl ?_
         rintro A136 c137 rfl m138
         refine wv (fun W hm => rv_load underlying72 rfl rfl (hm.focInt (i := 1) rfl rfl)) ?_
         refine wa (wa (nt' (sr (wm ?_))))
         refine wv (vlen underlying72) ?_
         refine wv vlss ?_
         refine nt' ?_
         by_cases h140 : (((gt (x0.Segments.set (((impl_findAlive_m x0 x1.Row.Id).1).toNat) (impl_ApplyUpdate_v1 x0 x1)) k128).length : Nat) : Int) < 4
         ·have g141 := decide_eq_true h140
          refine CM_condT rfl g141 ?_
          refine CM_seq ?_
          let K20 : List Value := [.slice A136 (gt (x0.Segments.set (((impl_findAlive_m x0 x1.Row.Id).1).toNat) (impl_ApplyUpdate_v1 x0 x1)) k128).length c137]
          refine rd2 15 [14] (s := [I31, iBox p26 26 K11, iBox p19 26 [.slice none 0 0, .int .i64 0], iBox p18 31 K9, I39]) (s2 := [iFoc (tSl tyVersion 51) 72 (some ⟨g44, 0, none⟩) x0.Segments.length c23 (x0.Segments.set (((impl_findAlive_m x0 x1.Row.Id).1).toNat) (impl_ApplyUpdate_v1 x0 x1)) k128 K20, I31, iBox p26 26 K11, iBox p19 26 [.slice none 0 0, .int .i64 0], iBox p18 31 K9, I39]) (pk [3, 4, 5, 6, 7]) (pk [1, 3, 4, 5, 6, 7]) ?_
          refine qtD 15 0 1 rfl (vf underlying26 rfl type24) ?_
          refine qtD 15 1 3 rfl (vl 2 0 underlying24) ?_
          refine qtD 15 2 7 rfl vmv ?_
          refine qtD 15 3 15 rfl vmv ?_
          refine qtD 15 4 31 rfl (vf underlying31 rfl type29) ?_
          refine qtD 15 5 63 rfl (fun W hm => rv_fieldA (o := 1) underlying29 rfl type3 (by decide) rfl rfl) ?_
          refine qtD 15 6 127 rfl (vl 4 1 underlying3) ?_
          refine qtD 15 7 255 rfl vmv ?_
          refine qtD 15 8 511 rfl (vf underlying26 rfl type3) ?_
          refine qtD 15 9 1023 rfl (vl 2 1 underlying3) ?_
          let K21 : List Value := [.int .i64 x1.Row.Id, .slice A85 ((gt (gt x0.Segments (((impl_findAlive_m x0 x1.Row.Id).1).toNat)) (((impl_findAlive_m x0 x1.Row.Id).2).toNat)).Values).length c86, .int .i64 (IntKind.i64.wrap (x0.Now + 1)), .int .i64 (-1)]
          refine qtD 15 10 2047 rfl (fun W hm => rv_build (cs := K21) rfl (by kernel_rfl)) ?_
          refine qoD 15 11 4095 rfl ?_
          refine WM_build (cs := K21) underlying72 type51 rfl (by decide) (by decide) rfl (by kernel_rfl) (Wd_none rfl) (by decide) (fun p142 => ?_)
          refine qnD (pk [4, 5, 6, 7, 8]) (pk [2, 4, 5, 6, 7, 8]) ?_
          refine qoD 15 12 8191 rfl ?_
          refine ap1 tyVersion 51 (.slice A136 (gt (x0.Segments.set (((impl_findAlive_m x0 x1.Row.Id).1).toNat) (impl_ApplyUpdate_v1 x0 x1)) k128).length c137) (gt (x0.Segments.set (((impl_findAlive_m x0 x1.Row.Id).1).toNat) (impl_ApplyUpdate_v1 x0 x1)) k128) (⟨x1.Row.Id, ((gt (gt x0.Segments (((impl_findAlive_m x0 x1.Row.Id).1).toNat)) (((impl_findAlive_m x0 x1.Row.Id).2).toNat)).Values), (IntKind.i64.wrap (x0.Now + 1)), (-1)⟩ : DVersion) [I38] [iFoc (tSl tyVersion 51) 72 (some ⟨g44, 0, none⟩) x0.Segments.length c23 (x0.Segments.set (((impl_findAlive_m x0 x1.Row.Id).1).toNat) (impl_ApplyUpdate_v1 x0 x1)) k128 K20, I31, iBox p26 26 K11, iBox p19 26 [.slice none 0 0, .int .i64 0], iBox p18 31 K9, I39] K21 (pk [0, 1, 3, 2, 4, 5, 6, 7, 8]) (fun _ _ hs => Els.single (tyVersion_join (x := (⟨x1.Row.Id, ((gt (gt x0.Segments (((impl_findAlive_m x0 x1.Row.Id).1).toNat)) (((impl_findAlive_m x0 x1.Row.Id).2).toNat)).Values), (IntKind.i64.wrap (x0.Now + 1)), (-1)⟩ : DVersion)) hs)) underlying72 type51 (show ((gt (x0.Segments.set (((impl_findAlive_m x0 x1.Row.Id).1).toNat) (impl_ApplyUpdate_v1 x0 x1)) k128).length + 1) * 48 ≤ 140737488355328 from by first | omega | (have hx := gtset_len (xs := x0.Segments) (i := (impl_findAlive_m x0 x1.Row.Id).1.toNat) (y := impl_ApplyUpdate_v1 x0 x1) List.length_set k128; omega)) (fun v143 => ?_)
          refine WM_form (n := 0) rfl ?_
          rintro A144 c145 rfl m146
          refine qnD (pk [2, 3, 4, 5, 6]) (pk [1, 2, 3, 4, 5, 6]) ?_
          refine qtD 15 13 16383 rfl (vix 1 k128 underlying24 type72) ?_
          refine qoD 15 14 32767 rfl ?_
          let I41 : It := iOwn (tSl tyVersion 51) [.slice A144 (impl_ApplyUpdate_v3 x0 x1 k128).length c145] (impl_ApplyUpdate_v3 x0 x1 k128)
          refine sf 0 1 [.slice A144 (impl_ApplyUpdate_v3 x0 x1 k128).length c145] [I41, I31, iBox p26 26 K11, iBox p19 26 [.slice none 0 0, .int .i64 0], iBox p18 31 K9, I39] (pk [1, 0, 2, 3, 4, 5, 6]) type72 ?_
          refine qxD (pk [2, 3, 4, 5, 6]) ?_
          refine QB_done (by kernel_rfl) ?_
          refine QM_then (sr ?_)
          refine wv (fun W hm => rv_loadN (cs := K11) underlying26 type26 rfl rfl (hm.boxCells (n := 3) rfl)) ?_
          refine sb 0 K11 [iFoc (tSl tyVersion 51) 72 (some ⟨g44, 0, none⟩) x0.Segments.length c23 (x0.Segments.set (((impl_findAlive_m x0 x1.Row.Id).1).toNat) (impl_ApplyUpdate_v1 x0 x1)) k128 [.slice A144 (impl_ApplyUpdate_v3 x0 x1 k128).length c145], I41, I31, iBox p26 26 K11, iBox p18 31 K9, I39] (pk [4, 0, 1, 2, 3, 5, 6]) type26 ?_
          refine wa (nt' (CM_ret (QM_block_ret (QM_then_ret (QM_then_ret (QM_block_ret (QM_then_ret ?_)))))))
          refine QM_items (fun W hm => Mem.unfocus (Mem.join (is := [I41]) (js := (iFoc (tSl tyVersion 51) 72 (some ⟨g44, 0, none⟩) x0.Segments.length c23 (x0.Segments.set (((impl_findAlive_m x0 x1.Row.Id).1).toNat) (impl_ApplyUpdate_v1 x0 x1)) k128 [.slice A144 (impl_ApplyUpdate_v3 x0 x1 k128).length c145] :: [iBox p19 26 K11, I31, iBox p26 26 K11, iBox p18 31 K9, I39])) (fun _ _ hs => Sep.one hs) (hm.pick [2, 1, 0, 3, 4, 5, 6] (by decide)))) ?_
          have he148 := (show impl_ApplyUpdate_m x0 x1 = ((⟨((x0.Segments.set (((impl_findAlive_m x0 x1.Row.Id).1).toNat) (impl_ApplyUpdate_v1 x0 x1)).set k128 (impl_ApplyUpdate_v3 x0 x1 k128)), (IntKind.i64.wrap (x0.Now + 1))⟩ : DStore), true) from cond_t g28 (cond_t g30 (cond_f g32 (cond_f g35 (cond_t g43 (cond_f g90 (cond_f g126 (fin_inl (rng_ret (body := F2) (k := k128) (s := ()) (show k128 < x0.Segments.length from by omega) (cond_t g141 (rfl)) hF130) rfl))))))))
          refine QM_r2 rfl (RR_cell (n := 1) rfl rfl underlying26 type26 rfl) (RR_tmp rfl) (fun W hm => ⟨K11, ?_, ?_⟩)
          ·first | rw [he148] | rfl
           try rfl
          ·rw [he148]; exact Mem.join (is := [iOwn (tSl (tSl tyVersion 51) 72) [.slice (some ⟨g44, 0, none⟩) x0.Segments.length c23] ((x0.Segments.set (((impl_findAlive_m x0 x1.Row.Id).1).toNat) (impl_ApplyUpdate_v1 x0 x1)).set k128 (impl_ApplyUpdate_v3 x0 x1 k128))]) (js := []) (fun _ _ hs => tyStore_join (x := (⟨((x0.Segments.set (((impl_findAlive_m x0 x1.Row.Id).1).toNat) (impl_ApplyUpdate_v1 x0 x1)).set k128 (impl_ApplyUpdate_v3 x0 x1 k128)), (IntKind.i64.wrap (x0.Now + 1))⟩ : DStore)) hs) (hm.pick [0] (by decide))
         ·have g141 := decide_eq_false h140
          refine CM_condF rfl g141 ?_
          refine CM_skip (QM_block_normal (QM_then (CM_region ?_)))
          refine wv (vadN k128 1 (by omega)) ?_
          refine wm (WM_nil ?_)
          let K22 : List Value := [.slice A136 (gt (x0.Segments.set (((impl_findAlive_m x0 x1.Row.Id).1).toNat) (impl_ApplyUpdate_v1 x0 x1)) k128).length c137]
          refine QM_items (fun W hm => Mem.unfocus0 (Mem.join (is := [iOwn (tSl tyVersion 51) K22 (gt (x0.Segments.set (((impl_findAlive_m x0 x1.Row.Id).1).toNat) (impl_ApplyUpdate_v1 x0 x1)) k128)]) (js := (iFoc (tSl tyVersion 51) 72 (some ⟨g44, 0, none⟩) x0.Segments.length c23 (x0.Segments.set (((impl_findAlive_m x0 x1.Row.Id).1).toNat) (impl_ApplyUpdate_v1 x0 x1)) k128 K22 :: [I38, I31, iBox p26 26 K11, iBox p19 26 [.slice none 0 0, .int .i64 0], iBox p18 31 K9, I39])) (fun _ _ hs => Sep.one hs) hm)) ?_
          have hn149 := rng_next (R := (DStore × Bool)) (body := F2) (k := k128) (s := ()) (s' := ()) (show k128 < x0.Segments.length from by omega) (cond_f g141 (rfl)) hF130
          exact QM_round (k128 + 1, (), ()) sl8 (fun W hm => hm) ⟨(by omega), hn149⟩ (rl (by omega))
        ·have g133 := dlF hl132
         refine CM_condF rfl g133 ?_
         refine CM_exit (QM_then_exit (QM_then_exit ?_))
         have hE150 : R6 (x0.Segments.length - 0) 0 () = Sum.inr () := rng_end hl132 hF130
         refine QM_block_hit (QM_then (CM_seq ?_))
         refine CM_items (pk [4, 6]) ?_
         refine CM_region ?_
         refine wv (fun W hm => rv_loadN (cs := [.slice (some a58) x0.Segments.length c5, .int .i64 x0.Now]) underlying26 type26 rfl rfl (hm.boxCells (n := 1) rfl)) ?_
         refine wcs tyStore x0 (cl_fn cb37 rfl) (fun W hm => impl_copyStore_c2 W _ x0 (tyStore_mk (x := x0) (hm.rdS0 r7)) s_0) (fun z151 => ?_)
         refine tyStore_sp ?_
         rintro v152 rfl
         refine WM_form (n := 0) rfl ?_
         rintro A153 c154 rfl m155
         let I42 : It := iOwn (tSl (tSl tyVersion 51) 72) [.slice A153 x0.Segments.length c154] x0.Segments
         refine sb 0 [.slice A153 x0.Segments.length c154, .int .i64 x0.Now] [I42, I39] (pk [1, 0, 2]) type26 ?_
         refine wa (nt' (CM_ret ?_))
         have he157 := (show impl_ApplyUpdate_m x0 x1 = (x0, false) from cond_t g28 (cond_t g30 (cond_f g32 (cond_f g35 (cond_t g43 (cond_f g90 (cond_f g126 (fin_inr hE150 (rfl)))))))))
         refine QM_r2 rfl (RR_cell (n := 0) rfl rfl underlying26 type26 rfl) (RR_tmp rfl) (fun W hm => ⟨[.slice A153 x0.Segments.length c154, .int .i64 x0.Now], ?_, ?_⟩)
         ·first | rw [he157] | rfl
          try rfl
         ·rw [he157]; exact Mem.join (is := [I42]) (js := []) (fun _ _ hs => tyStore_join (x := x0) hs) (hm.pick [1] (by decide))
     ·have g43 := decide_eq_false h42
      refine CM_condF rfl g43 ?_
      refine CM_skip (QM_then (CM_seq (sr ?_)))
      refine wv (vf underlying31 rfl type3) ?_
      refine wv (vl 4 0 underlying3) ?_
      refine wv (fun W hm => rv_eql rfl rfl) ?_
      refine nt' ?_
      by_cases h158 : x1.Kind = 3
      ·have g159 := beq_iff_eq.2 h158
       obtain ⟨hu5, hu6⟩ := hu2 (by assumption)
       refine CM_condT rfl g159 ?_
       refine CM_region (wm ?_)
       refine wv (vf underlying31 rfl type3) ?_
       refine wv (vl 4 3 underlying3) ?_
       refine wv (vf underlying31 rfl type3) ?_
       refine wv (vl 4 4 underlying3) ?_
       refine WM_formO (n := 0) rfl (by omega) ?_
       rintro g160 rfl
       refine wv (fun W hm => rv_indexI (sz := 1) (k := x1.Field) underlying27 type3 rfl rfl rfl (by omega) (by omega)) ?_
       refine WM_setEl (E := tInt) (e := 3) (u := .int .i64 x1.Value) (k := (x1.Field.toNat)) (p := g160) (n := x1.Row.Values.length) (xs := x1.Row.Values) (eis := []) (js := [iBox p26 26 K10, I29, iBox p19 26 [.slice none 0 0, .int .i64 0], iBox p18 31 K9, I30]) (yv := x1.Value) (fun W hm => hm) (fun _ _ hs => (Sep.nil hs ▸ tInt_own)) rfl type3 rfl (by omega) rfl rfl (Wd_none rfl) ?_
       refine nt' (CM_seq (sr ?_))
       refine wv (vf underlying31 rfl type3) ?_
       refine wv (vl 4 0 underlying3) ?_
       refine wv (fun W hm => rv_eql rfl rfl) ?_
       refine nt' ?_
       by_cases h161 : x1.Kind = 2
       ·have g162 := beq_iff_eq.2 h161
        refine CM_condT rfl g162 ?_
        refine CM_seq ?_
        refine CM_items (pk [1, 2, 3]) ?_
        refine CM_region ?_
        refine wv (fun W hm => rv_loadN (cs := K10) underlying26 type26 rfl rfl (hm.boxCells (n := 0) rfl)) ?_
        refine sb 0 K10 [iBox p26 26 K10, I29] (pk [2, 0, 1]) type26 ?_
        refine wa (nt' (CM_ret (QM_then_ret ?_)))
        have he163 := (show impl_ApplyUpdate_m x0 x1 = ((⟨x0.Segments, (IntKind.i64.wrap (x0.Now + 1))⟩ : DStore), true) from cond_t g28 (cond_t g30 (cond_f g32 (cond_f g35 (cond_f g43 (cond_t g159 (cond_t g162 (rfl))))))))
        refine QM_r2 rfl (RR_cell (n := 0) rfl rfl underlying26 type26 rfl) (RR_tmp rfl) (fun W hm => ⟨K10, ?_, ?_⟩)
        ·first | rw [he163] | rfl
         try rfl
        ·rw [he163]; exact Mem.join (is := [I29]) (js := []) (fun _ _ hs => tyStore_join (x := (⟨x0.Segments, (IntKind.i64.wrap (x0.Now + 1))⟩ : DStore)) hs) (hm.pick [2] (by decide))
       ·have g162 := beq_eq_false_iff_ne.2 h161
        refine CM_condF rfl g162 ?_
        refine CM_skip (QM_then (CM_seq (sr ?_)))
        refine wv (vf underlying26 rfl type24) ?_
        refine wv (vl 1 0 underlying24) ?_
        refine wv (vlen underlying24) ?_
        refine wm (nt' (CM_block ?_))
        let F3 := fun k (_ : Unit) => impl_ApplyUpdate_b3 x0 x1 k
        let R7 := rng (R := (DStore × Bool)) F3
        let I43 : It := iOwn (tSl tInt 3) [.slice (some ⟨g160, 0, none⟩) x1.Row.Values.length c39] (x1.Row.Values.set (x1.Field.toNat) x1.Value)
        refine CM_loop (σ := Nat × (Unit) × (Unit)) (fun s => [(2, .pointer (some (⟨p17, 0, none⟩ : Addr))), (3, .pointer (some (⟨p18, 0, none⟩ : Addr))), (4, .pointer (some (⟨p19, 0, none⟩ : Addr))), (6, .pointer (some (⟨p26, 0, none⟩ : Addr))), (9, .slice (some ⟨g160, 0, none⟩) x1.Row.Values.length c39), (87, .slice A22 x0.Segments.length c23), (88, .int .i64 ((x0.Segments.length : Nat) : Int)), (89, .int .i64 ((s.1 : Nat) : Int))]) (fun s => [I43, iBox p26 26 K10, I29, iBox p19 26 [.slice none 0 0, .int .i64 0], iBox p18 31 K9, I30]) (fun s => s.1 ≤ x0.Segments.length ∧ R7 (x0.Segments.length - s.1) s.1 s.2.1 = R7 (x0.Segments.length - 0) 0 ()) (fun s => x0.Segments.length - s.1) (0, (), ()) sl8 (fun W hm => hm) ⟨(by omega), rfl⟩ ?_
        rintro ⟨k164, ⟨⟩, ⟨⟩⟩ H167
        obtain ⟨hk165, hF166⟩ : k164 ≤ x0.Segments.length ∧ R7 (x0.Segments.length - k164) k164 () = R7 (x0.Segments.length - 0) 0 () := H167
        show CM Try.prog 115 _ _ _ _ [(2, .pointer (some (⟨p17, 0, none⟩ : Addr))), (3, .pointer (some (⟨p18, 0, none⟩ : Addr))), (4, .pointer (some (⟨p19, 0, none⟩ : Addr))), (6, .pointer (some (⟨p26, 0, none⟩ : Addr))), (9, .slice (some ⟨g160, 0, none⟩) x1.Row.Values.length c39), (87, .slice A22 x0.Segments.length c23), (88, .int .i64 ((x0.Segments.length : Nat) : Int)), (89, .int .i64 ((k164 : Nat) : Int))] [I43, iBox p26 26 K10, I29, iBox p19 26 [.slice none 0 0, .int .i64 0], iBox p18 31 K9, I30]
        refine sr ?_
        refine wv vlss ?_
        refine nt' (CM_seq ?_)
        by_cases hl168 : k164 < x0.Segments.length
        ·have g169 := dlT hl168
         refine CM_condT rfl g169 ?_
         refine CM_skip (QM_then (CM_seq (CM_block (sr (wm ?_)))))
         refine WM_formO (n := 2) rfl (by omega) ?_
         rintro g170 rfl
         refine wv (vix 1 k164 underlying24 type72) ?_
         let K23 : List Value := [.slice (some ⟨g170, 0, none⟩) x0.Segments.length c23, .int .i64 (IntKind.i64.wrap (x0.Now + 1))]
         refine WM_focus (E := (tSl tyVersion 51)) (e := 72) (A := (some ⟨g170, 0, none⟩)) (n := x0.Segments.length) (c := c23) (xs := x0.Segments) (k := k164) (js := [I43, iBox p26 26 K23, iBox p19 26 [.slice none 0 0, .int .i64 0], iBox p18 31 K9, I30]) (by omega) (pk [2, 0, 1, 3, 4, 5]) (fun ck171 => ?_)
         refine WM_split (γ := Value) (js := fun g => [iOwn (tSl tyVersion 51) [g] (gt x0.Segments k164)]) (C := fun g => ck171 = [g]) (fun _ _ h => tSl_split h) ?_
         rintro v172 rfl
         refine WM_form (n := 0) rfl ?_
         rintro A173 c174 rfl m175
         refine wv (fun W hm => rv_load underlying72 rfl rfl (hm.focInt (i := 1) rfl rfl)) ?_
         refine wa (wa (nt' (sr (wm ?_))))
         refine wv (vlen underlying72) ?_
         refine wv vlss ?_
         refine nt' ?_
         by_cases h177 : (((gt x0.Segments k164).length : Nat) : Int) < 4
         ·have g178 := decide_eq_true h177
          refine CM_condT rfl g178 ?_
          refine CM_seq ?_
          refine rd2 15 [14] (s := [iBox p26 26 K23, iBox p19 26 [.slice none 0 0, .int .i64 0], iBox p18 31 K9, I30]) (s2 := [iFoc (tSl tyVersion 51) 72 (some ⟨g170, 0, none⟩) x0.Segments.length c23 x0.Segments k164 [.slice A173 (gt x0.Segments k164).length c174], iBox p26 26 K23, iBox p19 26 [.slice none 0 0, .int .i64 0], iBox p18 31 K9, I30]) (pk [3, 4, 5, 6]) (pk [1, 3, 4, 5, 6]) ?_
          refine qtD 15 0 1 rfl (vf underlying26 rfl type24) ?_
          refine qtD 15 1 3 rfl (vl 1 0 underlying24) ?_
          refine qtD 15 2 7 rfl vmv ?_
          refine qtD 15 3 15 rfl vmv ?_
          refine qtD 15 4 31 rfl (vf underlying31 rfl type29) ?_
          refine qtD 15 5 63 rfl (fun W hm => rv_fieldA (o := 1) underlying29 rfl type3 (by decide) rfl rfl) ?_
          refine qtD 15 6 127 rfl (vl 3 1 underlying3) ?_
          refine qtD 15 7 255 rfl vmv ?_
          refine qtD 15 8 511 rfl (vf underlying26 rfl type3) ?_
          refine qtD 15 9 1023 rfl (vl 1 1 underlying3) ?_
          let K24 : List Value := [.int .i64 x1.Row.Id, .slice (some ⟨g160, 0, none⟩) x1.Row.Values.length c39, .int .i64 (IntKind.i64.wrap (x0.Now + 1)), .int .i64 (-1)]
          refine qtD 15 10 2047 rfl (fun W hm => rv_build (cs := K24) rfl (by kernel_rfl)) ?_
          refine qoD 15 11 4095 rfl ?_
          refine WM_build (cs := K24) underlying72 type51 rfl (by decide) (by decide) rfl (by kernel_rfl) (Wd_none rfl) (by decide) (fun p179 => ?_)
          refine qnD (pk [4, 5, 6, 7]) (pk [2, 4, 5, 6, 7]) ?_
          refine qoD 15 12 8191 rfl ?_
          refine ap1 tyVersion 51 (.slice A173 (gt x0.Segments k164).length c174) (gt x0.Segments k164) (⟨x1.Row.Id, (x1.Row.Values.set (x1.Field.toNat) x1.Value), (IntKind.i64.wrap (x0.Now + 1)), (-1)⟩ : DVersion) [I43] [iFoc (tSl tyVersion 51) 72 (some ⟨g170, 0, none⟩) x0.Segments.length c23 x0.Segments k164 [.slice A173 (gt x0.Segments k164).length c174], iBox p26 26 K23, iBox p19 26 [.slice none 0 0, .int .i64 0], iBox p18 31 K9, I30] K24 (pk [0, 1, 3, 2, 4, 5, 6, 7]) (fun _ _ hs => Els.single (tyVersion_join (x := (⟨x1.Row.Id, (x1.Row.Values.set (x1.Field.toNat) x1.Value), (IntKind.i64.wrap (x0.Now + 1)), (-1)⟩ : DVersion)) hs)) underlying72 type51 (show ((gt x0.Segments k164).length + 1) * 48 ≤ 140737488355328 from by first | omega | (have hx := gtset_len (xs := x0.Segments) (i := (impl_findAlive_m x0 x1.Row.Id).1.toNat) (y := impl_ApplyUpdate_v1 x0 x1) List.length_set k164; omega)) (fun v180 => ?_)
          refine WM_form (n := 0) rfl ?_
          rintro A181 c182 rfl m183
          refine qnD (pk [2, 3, 4, 5]) (pk [1, 2, 3, 4, 5]) ?_
          refine qtD 15 13 16383 rfl (vix 1 k164 underlying24 type72) ?_
          refine qoD 15 14 32767 rfl ?_
          let K25 : List Value := [.slice A181 ((gt x0.Segments k164) ++ [(⟨x1.Row.Id, (x1.Row.Values.set (x1.Field.toNat) x1.Value), (IntKind.i64.wrap (x0.Now + 1)), (-1)⟩ : DVersion)]).length c182]
          let I44 : It := iOwn (tSl tyVersion 51) K25 ((gt x0.Segments k164) ++ [(⟨x1.Row.Id, (x1.Row.Values.set (x1.Field.toNat) x1.Value), (IntKind.i64.wrap (x0.Now + 1)), (-1)⟩ : DVersion)])
          refine sf 0 1 K25 [I44, iBox p26 26 K23, iBox p19 26 [.slice none 0 0, .int .i64 0], iBox p18 31 K9, I30] (pk [1, 0, 2, 3, 4, 5]) type72 ?_
          refine qxD (pk [2, 3, 4, 5]) ?_
          refine QB_done (by kernel_rfl) ?_
          refine QM_then (sr ?_)
          refine wv (fun W hm => rv_loadN (cs := K23) underlying26 type26 rfl rfl (hm.boxCells (n := 2) rfl)) ?_
          refine sb 0 K23 [iFoc (tSl tyVersion 51) 72 (some ⟨g170, 0, none⟩) x0.Segments.length c23 x0.Segments k164 K25, I44, iBox p26 26 K23, iBox p18 31 K9, I30] (pk [3, 0, 1, 2, 4, 5]) type26 ?_
          refine wa (nt' (CM_ret (QM_block_ret (QM_then_ret (QM_then_ret (QM_block_ret (QM_then_ret ?_)))))))
          refine QM_items (fun W hm => Mem.unfocus (Mem.join (is := [I44]) (js := (iFoc (tSl tyVersion 51) 72 (some ⟨g170, 0, none⟩) x0.Segments.length c23 x0.Segments k164 K25 :: [iBox p19 26 K23, iBox p26 26 K23, iBox p18 31 K9, I30])) (fun _ _ hs => Sep.one hs) (hm.pick [2, 1, 0, 3, 4, 5] (by decide)))) ?_
          have he185 := (show impl_ApplyUpdate_m x0 x1 = ((⟨(x0.Segments.set k164 ((gt x0.Segments k164) ++ [(⟨x1.Row.Id, (x1.Row.Values.set (x1.Field.toNat) x1.Value), (IntKind.i64.wrap (x0.Now + 1)), (-1)⟩ : DVersion)])), (IntKind.i64.wrap (x0.Now + 1))⟩ : DStore), true) from cond_t g28 (cond_t g30 (cond_f g32 (cond_f g35 (cond_f g43 (cond_t g159 (cond_f g162 (fin_inl (rng_ret (body := F3) (k := k164) (s := ()) (show k164 < x0.Segments.length from by omega) (cond_t g178 (rfl)) hF166) rfl))))))))
          refine QM_r2 rfl (RR_cell (n := 1) rfl rfl underlying26 type26 rfl) (RR_tmp rfl) (fun W hm => ⟨K23, ?_, ?_⟩)
          ·first | rw [he185] | rfl
           try rfl
          ·rw [he185]; exact Mem.join (is := [iOwn (tSl (tSl tyVersion 51) 72) [.slice (some ⟨g170, 0, none⟩) x0.Segments.length c23] (x0.Segments.set k164 ((gt x0.Segments k164) ++ [(⟨x1.Row.Id, (x1.Row.Values.set (x1.Field.toNat) x1.Value), (IntKind.i64.wrap (x0.Now + 1)), (-1)⟩ : DVersion)]))]) (js := []) (fun _ _ hs => tyStore_join (x := (⟨(x0.Segments.set k164 ((gt x0.Segments k164) ++ [(⟨x1.Row.Id, (x1.Row.Values.set (x1.Field.toNat) x1.Value), (IntKind.i64.wrap (x0.Now + 1)), (-1)⟩ : DVersion)])), (IntKind.i64.wrap (x0.Now + 1))⟩ : DStore)) hs) (hm.pick [0] (by decide))
         ·have g178 := decide_eq_false h177
          refine CM_condF rfl g178 ?_
          refine CM_skip (QM_block_normal (QM_then (CM_region ?_)))
          refine wv (vadN k164 1 (by omega)) ?_
          refine wm (WM_nil ?_)
          refine QM_items (fun W hm => Mem.unfocus0 (Mem.join (is := [iOwn (tSl tyVersion 51) [.slice A173 (gt x0.Segments k164).length c174] (gt x0.Segments k164)]) (js := (iFoc (tSl tyVersion 51) 72 (some ⟨g170, 0, none⟩) x0.Segments.length c23 x0.Segments k164 [.slice A173 (gt x0.Segments k164).length c174] :: [I43, iBox p26 26 K23, iBox p19 26 [.slice none 0 0, .int .i64 0], iBox p18 31 K9, I30])) (fun _ _ hs => Sep.one hs) hm)) ?_
          have hn186 := rng_next (R := (DStore × Bool)) (body := F3) (k := k164) (s := ()) (s' := ()) (show k164 < x0.Segments.length from by omega) (cond_f g178 (rfl)) hF166
          exact QM_round (k164 + 1, (), ()) sl8 (pk [1, 2, 0, 3, 4, 5]) ⟨(by omega), hn186⟩ (rl (by omega))
        ·have g169 := dlF hl168
         refine CM_condF rfl g169 ?_
         refine CM_exit (QM_then_exit (QM_then_exit ?_))
         have hE187 : R7 (x0.Segments.length - 0) 0 () = Sum.inr () := rng_end hl168 hF166
         refine QM_block_hit (QM_then (CM_seq ?_))
         refine CM_items (pk [3, 5]) ?_
         refine CM_region ?_
         refine wv (fun W hm => rv_loadN (cs := [.slice A4 x0.Segments.length c5, .int .i64 x0.Now]) underlying26 type26 rfl rfl (hm.boxCells (n := 1) rfl)) ?_
         refine wcs tyStore x0 (cl_fn cb37 rfl) (fun W hm => impl_copyStore_c2 W _ x0 (tyStore_mk (x := x0) (hm.rdS0 r7)) s_0) (fun z188 => ?_)
         refine tyStore_sp ?_
         rintro v189 rfl
         refine WM_form (n := 0) rfl ?_
         rintro A190 c191 rfl m192
         let I45 : It := iOwn (tSl (tSl tyVersion 51) 72) [.slice A190 x0.Segments.length c191] x0.Segments
         refine sb 0 [.slice A190 x0.Segments.length c191, .int .i64 x0.Now] [I45, I30] (pk [1, 0, 2]) type26 ?_
         refine wa (nt' (CM_ret ?_))
         have he194 := (show impl_ApplyUpdate_m x0 x1 = (x0, false) from cond_t g28 (cond_t g30 (cond_f g32 (cond_f g35 (cond_f g43 (cond_t g159 (cond_f g162 (fin_inr hE187 (rfl)))))))))
         refine QM_r2 rfl (RR_cell (n := 0) rfl rfl underlying26 type26 rfl) (RR_tmp rfl) (fun W hm => ⟨[.slice A190 x0.Segments.length c191, .int .i64 x0.Now], ?_, ?_⟩)
         ·first | rw [he194] | rfl
          try rfl
         ·rw [he194]; exact Mem.join (is := [I45]) (js := []) (fun _ _ hs => tyStore_join (x := x0) hs) (hm.pick [1] (by decide))
      ·have g159 := beq_eq_false_iff_ne.2 h158
       refine CM_condF rfl g159 ?_
       refine CM_skip (QM_then (CM_seq (sr ?_)))
       refine wv (vf underlying31 rfl type3) ?_
       refine wv (vl 4 0 underlying3) ?_
       refine wv (fun W hm => rv_eql rfl rfl) ?_
       refine nt' ?_
       by_cases h195 : x1.Kind = 2
       ·have g196 := beq_iff_eq.2 h195
        refine CM_condT rfl g196 ?_
        refine CM_seq ?_
        refine CM_items (pk [1, 2, 3]) ?_
        refine CM_region ?_
        refine wv (fun W hm => rv_loadN (cs := K10) underlying26 type26 rfl rfl (hm.boxCells (n := 0) rfl)) ?_
        refine sb 0 K10 [iBox p26 26 K10, I29] (pk [2, 0, 1]) type26 ?_
        refine wa (nt' (CM_ret (QM_then_ret ?_)))
        have he197 := (show impl_ApplyUpdate_m x0 x1 = ((⟨x0.Segments, (IntKind.i64.wrap (x0.Now + 1))⟩ : DStore), true) from cond_t g28 (cond_t g30 (cond_f g32 (cond_f g35 (cond_f g43 (cond_f g159 (cond_t g196 (rfl))))))))
        refine QM_r2 rfl (RR_cell (n := 0) rfl rfl underlying26 type26 rfl) (RR_tmp rfl) (fun W hm => ⟨K10, ?_, ?_⟩)
        ·first | rw [he197] | rfl
         try rfl
        ·rw [he197]; exact Mem.join (is := [I29]) (js := []) (fun _ _ hs => tyStore_join (x := (⟨x0.Segments, (IntKind.i64.wrap (x0.Now + 1))⟩ : DStore)) hs) (hm.pick [2] (by decide))
       ·have g196 := beq_eq_false_iff_ne.2 h195
        refine CM_condF rfl g196 ?_
        refine CM_skip (QM_then (CM_seq (sr ?_)))
        refine wv (vf underlying26 rfl type24) ?_
        refine wv (vl 1 0 underlying24) ?_
        refine wv (vlen underlying24) ?_
        refine wm (nt' (CM_block ?_))
        let F4 := fun k (_ : Unit) => impl_ApplyUpdate_b4 x0 x1 k
        let R8 := rng (R := (DStore × Bool)) F4
        let I46 : It := iOwn (tSl tInt 3) [.slice A38 x1.Row.Values.length c39] x1.Row.Values
        refine CM_loop (σ := Nat × (Unit) × (Unit)) (fun s => [(2, .pointer (some (⟨p17, 0, none⟩ : Addr))), (3, .pointer (some (⟨p18, 0, none⟩ : Addr))), (4, .pointer (some (⟨p19, 0, none⟩ : Addr))), (6, .pointer (some (⟨p26, 0, none⟩ : Addr))), (9, .slice A38 x1.Row.Values.length c39), (87, .slice A22 x0.Segments.length c23), (88, .int .i64 ((x0.Segments.length : Nat) : Int)), (89, .int .i64 ((s.1 : Nat) : Int))]) (fun s => [I46, iBox p26 26 K10, I29, iBox p19 26 [.slice none 0 0, .int .i64 0], iBox p18 31 K9, I30]) (fun s => s.1 ≤ x0.Segments.length ∧ R8 (x0.Segments.length - s.1) s.1 s.2.1 = R8 (x0.Segments.length - 0) 0 ()) (fun s => x0.Segments.length - s.1) (0, (), ()) sl8 (fun W hm => hm) ⟨(by omega), rfl⟩ ?_
        rintro ⟨k198, ⟨⟩, ⟨⟩⟩ H201
        obtain ⟨hk199, hF200⟩ : k198 ≤ x0.Segments.length ∧ R8 (x0.Segments.length - k198) k198 () = R8 (x0.Segments.length - 0) 0 () := H201
        show CM Try.prog 115 _ _ _ _ [(2, .pointer (some (⟨p17, 0, none⟩ : Addr))), (3, .pointer (some (⟨p18, 0, none⟩ : Addr))), (4, .pointer (some (⟨p19, 0, none⟩ : Addr))), (6, .pointer (some (⟨p26, 0, none⟩ : Addr))), (9, .slice A38 x1.Row.Values.length c39), (87, .slice A22 x0.Segments.length c23), (88, .int .i64 ((x0.Segments.length : Nat) : Int)), (89, .int .i64 ((k198 : Nat) : Int))] [I46, iBox p26 26 K10, I29, iBox p19 26 [.slice none 0 0, .int .i64 0], iBox p18 31 K9, I30]
        refine sr ?_
        refine wv vlss ?_
        refine nt' (CM_seq ?_)
        by_cases hl202 : k198 < x0.Segments.length
        ·have g203 := dlT hl202
         refine CM_condT rfl g203 ?_
         refine CM_skip (QM_then (CM_seq (CM_block (sr (wm ?_)))))
         refine WM_formO (n := 2) rfl (by omega) ?_
         rintro g204 rfl
         refine wv (vix 1 k198 underlying24 type72) ?_
         let K26 : List Value := [.slice (some ⟨g204, 0, none⟩) x0.Segments.length c23, .int .i64 (IntKind.i64.wrap (x0.Now + 1))]
         refine WM_focus (E := (tSl tyVersion 51)) (e := 72) (A := (some ⟨g204, 0, none⟩)) (n := x0.Segments.length) (c := c23) (xs := x0.Segments) (k := k198) (js := [I46, iBox p26 26 K26, iBox p19 26 [.slice none 0 0, .int .i64 0], iBox p18 31 K9, I30]) (by omega) (pk [2, 0, 1, 3, 4, 5]) (fun ck205 => ?_)
         refine WM_split (γ := Value) (js := fun g => [iOwn (tSl tyVersion 51) [g] (gt x0.Segments k198)]) (C := fun g => ck205 = [g]) (fun _ _ h => tSl_split h) ?_
         rintro v206 rfl
         refine WM_form (n := 0) rfl ?_
         rintro A207 c208 rfl m209
         refine wv (fun W hm => rv_load underlying72 rfl rfl (hm.focInt (i := 1) rfl rfl)) ?_
         refine wa (wa (nt' (sr (wm ?_))))
         refine wv (vlen underlying72) ?_
         refine wv vlss ?_
         refine nt' ?_
         by_cases h211 : (((gt x0.Segments k198).length : Nat) : Int) < 4
         ·have g212 := decide_eq_true h211
          refine CM_condT rfl g212 ?_
          refine CM_seq ?_
          refine rd2 15 [14] (s := [iBox p26 26 K26, iBox p19 26 [.slice none 0 0, .int .i64 0], iBox p18 31 K9, I30]) (s2 := [iFoc (tSl tyVersion 51) 72 (some ⟨g204, 0, none⟩) x0.Segments.length c23 x0.Segments k198 [.slice A207 (gt x0.Segments k198).length c208], iBox p26 26 K26, iBox p19 26 [.slice none 0 0, .int .i64 0], iBox p18 31 K9, I30]) (pk [3, 4, 5, 6]) (pk [1, 3, 4, 5, 6]) ?_
          refine qtD 15 0 1 rfl (vf underlying26 rfl type24) ?_
          refine qtD 15 1 3 rfl (vl 1 0 underlying24) ?_
          refine qtD 15 2 7 rfl vmv ?_
          refine qtD 15 3 15 rfl vmv ?_
          refine qtD 15 4 31 rfl (vf underlying31 rfl type29) ?_
          refine qtD 15 5 63 rfl (fun W hm => rv_fieldA (o := 1) underlying29 rfl type3 (by decide) rfl rfl) ?_
          refine qtD 15 6 127 rfl (vl 3 1 underlying3) ?_
          refine qtD 15 7 255 rfl vmv ?_
          refine qtD 15 8 511 rfl (vf underlying26 rfl type3) ?_
          refine qtD 15 9 1023 rfl (vl 1 1 underlying3) ?_
          let K27 : List Value := [.int .i64 x1.Row.Id, .slice A38 x1.Row.Values.length c39, .int .i64 (IntKind.i64.wrap (x0.Now + 1)), .int .i64 (-1)]
          refine qtD 15 10 2047 rfl (fun W hm => rv_build (cs := K27) rfl (by kernel_rfl)) ?_
          refine qoD 15 11 4095 rfl ?_
          refine WM_build (cs := K27) underlying72 type51 rfl (by decide) (by decide) rfl (by kernel_rfl) (Wd_none rfl) (by decide) (fun p213 => ?_)
          refine qnD (pk [4, 5, 6, 7]) (pk [2, 4, 5, 6, 7]) ?_
          refine qoD 15 12 8191 rfl ?_
          refine ap1 tyVersion 51 (.slice A207 (gt x0.Segments k198).length c208) (gt x0.Segments k198) (⟨x1.Row.Id, x1.Row.Values, (IntKind.i64.wrap (x0.Now + 1)), (-1)⟩ : DVersion) [I46] [iFoc (tSl tyVersion 51) 72 (some ⟨g204, 0, none⟩) x0.Segments.length c23 x0.Segments k198 [.slice A207 (gt x0.Segments k198).length c208], iBox p26 26 K26, iBox p19 26 [.slice none 0 0, .int .i64 0], iBox p18 31 K9, I30] K27 (pk [0, 1, 3, 2, 4, 5, 6, 7]) (fun _ _ hs => Els.single (tyVersion_join (x := (⟨x1.Row.Id, x1.Row.Values, (IntKind.i64.wrap (x0.Now + 1)), (-1)⟩ : DVersion)) hs)) underlying72 type51 (show ((gt x0.Segments k198).length + 1) * 48 ≤ 140737488355328 from by first | omega | (have hx := gtset_len (xs := x0.Segments) (i := (impl_findAlive_m x0 x1.Row.Id).1.toNat) (y := impl_ApplyUpdate_v1 x0 x1) List.length_set k198; omega)) (fun v214 => ?_)
          refine WM_form (n := 0) rfl ?_
          rintro A215 c216 rfl m217
          refine qnD (pk [2, 3, 4, 5]) (pk [1, 2, 3, 4, 5]) ?_
          refine qtD 15 13 16383 rfl (vix 1 k198 underlying24 type72) ?_
          refine qoD 15 14 32767 rfl ?_
          let K28 : List Value := [.slice A215 ((gt x0.Segments k198) ++ [(⟨x1.Row.Id, x1.Row.Values, (IntKind.i64.wrap (x0.Now + 1)), (-1)⟩ : DVersion)]).length c216]
          let I47 : It := iOwn (tSl tyVersion 51) K28 ((gt x0.Segments k198) ++ [(⟨x1.Row.Id, x1.Row.Values, (IntKind.i64.wrap (x0.Now + 1)), (-1)⟩ : DVersion)])
          refine sf 0 1 K28 [I47, iBox p26 26 K26, iBox p19 26 [.slice none 0 0, .int .i64 0], iBox p18 31 K9, I30] (pk [1, 0, 2, 3, 4, 5]) type72 ?_
          refine qxD (pk [2, 3, 4, 5]) ?_
          refine QB_done (by kernel_rfl) ?_
          refine QM_then (sr ?_)
          refine wv (fun W hm => rv_loadN (cs := K26) underlying26 type26 rfl rfl (hm.boxCells (n := 2) rfl)) ?_
          refine sb 0 K26 [iFoc (tSl tyVersion 51) 72 (some ⟨g204, 0, none⟩) x0.Segments.length c23 x0.Segments k198 K28, I47, iBox p26 26 K26, iBox p18 31 K9, I30] (pk [3, 0, 1, 2, 4, 5]) type26 ?_
          refine wa (nt' (CM_ret (QM_block_ret (QM_then_ret (QM_then_ret (QM_block_ret (QM_then_ret ?_)))))))
          refine QM_items (fun W hm => Mem.unfocus (Mem.join (is := [I47]) (js := (iFoc (tSl tyVersion 51) 72 (some ⟨g204, 0, none⟩) x0.Segments.length c23 x0.Segments k198 K28 :: [iBox p19 26 K26, iBox p26 26 K26, iBox p18 31 K9, I30])) (fun _ _ hs => Sep.one hs) (hm.pick [2, 1, 0, 3, 4, 5] (by decide)))) ?_
          have he219 := (show impl_ApplyUpdate_m x0 x1 = ((⟨(x0.Segments.set k198 ((gt x0.Segments k198) ++ [(⟨x1.Row.Id, x1.Row.Values, (IntKind.i64.wrap (x0.Now + 1)), (-1)⟩ : DVersion)])), (IntKind.i64.wrap (x0.Now + 1))⟩ : DStore), true) from cond_t g28 (cond_t g30 (cond_f g32 (cond_f g35 (cond_f g43 (cond_f g159 (cond_f g196 (fin_inl (rng_ret (body := F4) (k := k198) (s := ()) (show k198 < x0.Segments.length from by omega) (cond_t g212 (rfl)) hF200) rfl))))))))
          refine QM_r2 rfl (RR_cell (n := 1) rfl rfl underlying26 type26 rfl) (RR_tmp rfl) (fun W hm => ⟨K26, ?_, ?_⟩)
          ·first | rw [he219] | rfl
           try rfl
          ·rw [he219]; exact Mem.join (is := [iOwn (tSl (tSl tyVersion 51) 72) [.slice (some ⟨g204, 0, none⟩) x0.Segments.length c23] (x0.Segments.set k198 ((gt x0.Segments k198) ++ [(⟨x1.Row.Id, x1.Row.Values, (IntKind.i64.wrap (x0.Now + 1)), (-1)⟩ : DVersion)]))]) (js := []) (fun _ _ hs => tyStore_join (x := (⟨(x0.Segments.set k198 ((gt x0.Segments k198) ++ [(⟨x1.Row.Id, x1.Row.Values, (IntKind.i64.wrap (x0.Now + 1)), (-1)⟩ : DVersion)])), (IntKind.i64.wrap (x0.Now + 1))⟩ : DStore)) hs) (hm.pick [0] (by decide))
         ·have g212 := decide_eq_false h211
          refine CM_condF rfl g212 ?_
          refine CM_skip (QM_block_normal (QM_then (CM_region ?_)))
          refine wv (vadN k198 1 (by omega)) ?_
          refine wm (WM_nil ?_)
          refine QM_items (fun W hm => Mem.unfocus0 (Mem.join (is := [iOwn (tSl tyVersion 51) [.slice A207 (gt x0.Segments k198).length c208] (gt x0.Segments k198)]) (js := (iFoc (tSl tyVersion 51) 72 (some ⟨g204, 0, none⟩) x0.Segments.length c23 x0.Segments k198 [.slice A207 (gt x0.Segments k198).length c208] :: [I46, iBox p26 26 K26, iBox p19 26 [.slice none 0 0, .int .i64 0], iBox p18 31 K9, I30])) (fun _ _ hs => Sep.one hs) hm)) ?_
          have hn220 := rng_next (R := (DStore × Bool)) (body := F4) (k := k198) (s := ()) (s' := ()) (show k198 < x0.Segments.length from by omega) (cond_f g212 (rfl)) hF200
          exact QM_round (k198 + 1, (), ()) sl8 (pk [1, 2, 0, 3, 4, 5]) ⟨(by omega), hn220⟩ (rl (by omega))
        ·have g203 := dlF hl202
         refine CM_condF rfl g203 ?_
         refine CM_exit (QM_then_exit (QM_then_exit ?_))
         have hE221 : R8 (x0.Segments.length - 0) 0 () = Sum.inr () := rng_end hl202 hF200
         refine QM_block_hit (QM_then (CM_seq ?_))
         refine CM_items (pk [3, 5]) ?_
         refine CM_region ?_
         refine wv (fun W hm => rv_loadN (cs := [.slice A4 x0.Segments.length c5, .int .i64 x0.Now]) underlying26 type26 rfl rfl (hm.boxCells (n := 1) rfl)) ?_
         refine wcs tyStore x0 (cl_fn cb37 rfl) (fun W hm => impl_copyStore_c2 W _ x0 (tyStore_mk (x := x0) (hm.rdS0 r7)) s_0) (fun z222 => ?_)
         refine tyStore_sp ?_
         rintro v223 rfl
         refine WM_form (n := 0) rfl ?_
         rintro A224 c225 rfl m226
         let I48 : It := iOwn (tSl (tSl tyVersion 51) 72) [.slice A224 x0.Segments.length c225] x0.Segments
         refine sb 0 [.slice A224 x0.Segments.length c225, .int .i64 x0.Now] [I48, I30] (pk [1, 0, 2]) type26 ?_
         refine wa (nt' (CM_ret ?_))
         have he228 := (show impl_ApplyUpdate_m x0 x1 = (x0, false) from cond_t g28 (cond_t g30 (cond_f g32 (cond_f g35 (cond_f g43 (cond_f g159 (cond_f g196 (fin_inr hE221 (rfl)))))))))
         refine QM_r2 rfl (RR_cell (n := 0) rfl rfl underlying26 type26 rfl) (RR_tmp rfl) (fun W hm => ⟨[.slice A224 x0.Segments.length c225, .int .i64 x0.Now], ?_, ?_⟩)
         ·first | rw [he228] | rfl
          try rfl
         ·rw [he228]; exact Mem.join (is := [I48]) (js := []) (fun _ _ hs => tyStore_join (x := x0) hs) (hm.pick [1] (by decide))
  ·
   refine ws (nf g30) ?_
   refine ws (nf g30) ?_
   refine ws (nf g30) ?_
   refine wv (vpT (nf g30)) ?_
   refine nt' ?_
   refine CM_condT rfl rfl ?_
   refine sr ?_
   refine wv (fun W hm => rv_loadN (cs := [.slice A22 x0.Segments.length c23, .int .i64 x0.Now]) underlying26 type26 rfl rfl (hm.boxCells (n := 0) rfl)) ?_
   refine sb 0 [.slice A22 x0.Segments.length c23, .int .i64 x0.Now] [iBox p26 26 [.slice A22 x0.Segments.length c23, .int .i64 x0.Now], I29, iBox p18 31 K9, I30] (pk [2, 0, 1, 3, 4]) type26 ?_
   refine wa (nt' (CM_ret (QM_then_ret ?_)))
   have he229 := (show impl_ApplyUpdate_m x0 x1 = (x0, false) from cond_t g28 (cond_f g30 (rfl)))
   refine QM_r2 rfl (RR_cell (n := 0) rfl rfl underlying26 type26 rfl) (RR_tmp rfl) (fun W hm => ⟨[.slice A22 x0.Segments.length c23, .int .i64 x0.Now], ?_, ?_⟩)
   ·first | rw [he229] | rfl
    try rfl
   ·rw [he229]; exact Mem.join (is := [I29]) (js := []) (fun _ _ hs => tyStore_join (x := x0) hs) (hm.pick [2] (by decide))
 ·
  refine ws (nf g28) ?_
  refine ws (nf g28) ?_
  refine ws (nf g28) ?_
  refine wv (vpT (nf g28)) ?_
  refine wm ?_
  refine wk ?_
  refine wk ?_
  refine wk ?_
  refine wv (vpT rfl) ?_
  refine nt' ?_
  refine CM_condT rfl rfl ?_
  refine sr ?_
  refine wv (fun W hm => rv_loadN (cs := [.slice A22 x0.Segments.length c23, .int .i64 x0.Now]) underlying26 type26 rfl rfl (hm.boxCells (n := 0) rfl)) ?_
  refine sb 0 [.slice A22 x0.Segments.length c23, .int .i64 x0.Now] [iBox p26 26 [.slice A22 x0.Segments.length c23, .int .i64 x0.Now], I29, iBox p18 31 K9, I30] (pk [2, 0, 1, 3, 4]) type26 ?_
  refine wa (nt' (CM_ret (QM_then_ret ?_)))
  have he230 := (show impl_ApplyUpdate_m x0 x1 = (x0, false) from cond_f g28 (rfl))
  refine QM_r2 rfl (RR_cell (n := 0) rfl rfl underlying26 type26 rfl) (RR_tmp rfl) (fun W hm => ⟨[.slice A22 x0.Segments.length c23, .int .i64 x0.Now], ?_, ?_⟩)
  ·first | rw [he230] | rfl
   try rfl
  ·rw [he230]; exact Mem.join (is := [I29]) (js := []) (fun _ _ hs => tyStore_join (x := x0) hs) (hm.pick [2] (by decide))

def spec_l2Ints_b1 (x0 : (List Int)) (x1 : (List Int)) (k13 : Nat) : Bool ⊕ (Unit) :=
 cond ((gt x0 k13) != (gt x1 k13)) (Sum.inl false) (Sum.inr ())
def spec_l2Ints_m (x0 : (List Int)) (x1 : (List Int)) : Bool :=
 cond (((x0.length : Nat) : Int) != ((x1.length : Nat) : Int)) false (Sum.elim id (fun (s : Unit) => true) (rng (R := Bool) (fun k (_ : Unit) => spec_l2Ints_b1 x0 x1 k) (x0.length - 0) 0 ()))
theorem cb74 : Cb Try.prog 74 := ⟨f74, _, func74, rfl, by decide⟩
theorem spec_l2Ints_c (w : World) (z0 : Value) (x0 : (List Int)) (z1 : Value) (x1 : (List Int)) (r_0 : rdS tInt w w.heap.size z0 x0) (r_1 : rdS tInt w w.heap.size z1 x1) :
  Calls Try.prog 74 #[z0, z1] w fun e w' => e = .returned (.bool (spec_l2Ints_m x0 x1)) ∧ Below w.heap.size w w' := by
 obtain ⟨m1, A2, c3, rfl, q4, r5⟩ := rdS_op r_0
 obtain ⟨m6, A7, c8, rfl, q9, r10⟩ := rdS_op r_1
 refine ce2 (L := [(0, .slice A2 x0.length c3), (1, .slice A7 x1.length c8)]) (N := 26) func74 ?_
 refine sr (wa (nt' (CM_seq (sr (wm ?_)))))
 refine wv (vlen underlying27) ?_
 refine wm ?_
 refine wv (vlen underlying27) ?_
 refine wv vneq ?_
 refine nt' ?_
 by_cases h11 : ((x0.length : Nat) : Int) = ((x1.length : Nat) : Int)
 ·have g12 : (((x0.length : Nat) : Int) != ((x1.length : Nat) : Int)) = false := by rw [h11]; exact bne_self_eq_false _
  refine CM_condF rfl g12 ?_
  refine CM_skip (QM_then (CM_seq (sr (wa (nt' (CM_block ?_))))))
  let F1 := fun k (_ : Unit) => spec_l2Ints_b1 x0 x1 k
  let R2 := rng (R := Bool) F1
  refine CM_loop (σ := Nat × (Unit) × (Unit)) (fun s => [(0, .slice A2 x0.length c3), (1, .slice A7 x1.length c8), (5, .int .i64 ((s.1 : Nat) : Int))]) (fun s => []) (fun s => s.1 ≤ x0.length ∧ R2 (x0.length - s.1) s.1 s.2.1 = R2 (x0.length - 0) 0 ()) (fun s => x0.length - s.1) (0, (), ()) sl3 (fun W hm => hm) ⟨(by omega), rfl⟩ ?_
  rintro ⟨k13, ⟨⟩, ⟨⟩⟩ H16
  obtain ⟨hk14, hF15⟩ : k13 ≤ x0.length ∧ R2 (x0.length - k13) k13 () = R2 (x0.length - 0) 0 () := H16
  show CM Try.prog 26 _ _ _ _ [(0, .slice A2 x0.length c3), (1, .slice A7 x1.length c8), (5, .int .i64 ((k13 : Nat) : Int))] []
  refine CM_seq (sr (wm (wm ?_)))
  refine wv (vlen underlying27) ?_
  refine wv vlss ?_
  refine nt' ?_
  by_cases hl17 : k13 < x0.length
  ·have g18 := dlT hl17
   refine CM_condT rfl g18 ?_
   refine CM_skip (QM_then (CM_seq (CM_block (CM_seq ?_))))
   refine CM_regionD (by kernel_rfl) (by kernel_rfl) ?_
   refine qm (qm ?_)
   obtain ⟨a19, rfl, hb20, he21⟩ := q4 (by omega)
   refine qv (vix 1 k13 underlying27 type3) ?_
   refine qv (fun W hm => rv_load underlying3 rfl rfl ((hm.cell0 (show (a19.add (k13 * 1)).block < w.heap.size from by rw [add_block]; exact hb20.1)).trans (rdS_int he21 k13 (by omega)))) ?_
   refine qm (qm ?_)
   obtain ⟨a22, rfl, hb23, he24⟩ := q9 (by omega)
   refine qv (vix 1 k13 underlying27 type3) ?_
   refine qv (fun W hm => rv_load underlying3 rfl rfl ((hm.cell0 (show (a22.add (k13 * 1)).block < w.heap.size from by rw [add_block]; exact hb23.1)).trans (rdS_int he24 k13 (by omega)))) ?_
   refine qv vneq ?_
   refine nq' ?_
   by_cases h25 : (gt x0 k13) = (gt x1 k13)
   ·have g26 : ((gt x0 k13) != (gt x1 k13)) = false := by rw [h25]; exact bne_self_eq_false _
    refine CM_condF rfl g26 ?_
    refine CM_skip (QM_block_normal (QM_then (CM_region (wm ?_))))
    refine wv (vadN k13 1 (by omega)) ?_
    refine wa (WM_nil ?_)
    have hn27 := rng_next (R := Bool) (body := F1) (k := k13) (s := ()) (s' := ()) (show k13 < x0.length from by omega) (cond_f g26 (rfl)) hF15
    exact QM_round (k13 + 1, (), ()) sl3 (fun W hm => hm) ⟨(by omega), hn27⟩ (rl (by omega))
   ·have g26 : ((gt x0 k13) != (gt x1 k13)) = true := bne_iff_ne.2 h25
    refine CM_condT rfl g26 ?_
    refine sr (wa (nt' (CM_ret (QM_block_ret (QM_then_ret (QM_then_ret (QM_block_ret (QM_then_ret ?_))))))))
    exact rtb (h := cond_f g12 (fin_inl (rng_ret (body := F1) (k := k13) (s := ()) (show k13 < x0.length from by omega) (cond_t g26 (rfl)) hF15) rfl))
  ·have g18 := dlF hl17
   refine CM_condF rfl g18 ?_
   refine CM_exit (QM_then_exit (QM_then_exit ?_))
   have hE28 : R2 (x0.length - 0) 0 () = Sum.inr () := rng_end hl17 hF15
   refine QM_block_hit (QM_then (sr (wa (nt' (CM_ret ?_)))))
   exact rtb (h := cond_f g12 (fin_inr hE28 (rfl)))
 ·have g12 : (((x0.length : Nat) : Int) != ((x1.length : Nat) : Int)) = true := bne_iff_ne.2 h11
  refine CM_condT rfl g12 ?_
  refine sr (wa (nt' (CM_ret (QM_then_ret ?_))))
  exact rtb (h := cond_t g12 (rfl))

def spec_l7Same_b1 (x0 : (List DVersion)) (x1 : (List DVersion)) (k13 : Nat) : Bool ⊕ (Unit) :=
 cond (((gt x0 k13).Id) != ((gt x1 k13).Id)) (Sum.inl false) (cond (((gt x0 k13).Born) != ((gt x1 k13).Born)) (Sum.inl false) (cond (((gt x0 k13).Died) != ((gt x1 k13).Died)) (Sum.inl false) (cond (spec_l2Ints_m ((gt x0 k13).Values) ((gt x1 k13).Values)) (Sum.inr ()) (Sum.inl false))))
def spec_l7Same_m (x0 : (List DVersion)) (x1 : (List DVersion)) : Bool :=
 cond (((x0.length : Nat) : Int) != ((x1.length : Nat) : Int)) false (Sum.elim id (fun (s : Unit) => true) (rng (R := Bool) (fun k (_ : Unit) => spec_l7Same_b1 x0 x1 k) (x0.length - 0) 0 ()))
theorem cb45 : Cb Try.prog 45 := ⟨f45, _, func45, rfl, by decide⟩
theorem spec_l7Same_c (w : World) (z0 : Value) (x0 : (List DVersion)) (z1 : Value) (x1 : (List DVersion)) (r_0 : rdS tyVersion w w.heap.size z0 x0) (r_1 : rdS tyVersion w w.heap.size z1 x1) :
  Calls Try.prog 45 #[z0, z1] w fun e w' => e = .returned (.bool (spec_l7Same_m x0 x1)) ∧ Below w.heap.size w w' := by
 obtain ⟨m1, A2, c3, rfl, q4, r5⟩ := rdS_op r_0
 obtain ⟨m6, A7, c8, rfl, q9, r10⟩ := rdS_op r_1
 refine ce2 (L := [(0, .slice A2 x0.length c3), (1, .slice A7 x1.length c8)]) (N := 68) func45 ?_
 refine sr (wa (nt' (CM_seq (sr (wm ?_)))))
 refine wv (vlen underlying72) ?_
 refine wm ?_
 refine wv (vlen underlying72) ?_
 refine wv vneq ?_
 refine nt' ?_
 by_cases h11 : ((x0.length : Nat) : Int) = ((x1.length : Nat) : Int)
 ·have g12 : (((x0.length : Nat) : Int) != ((x1.length : Nat) : Int)) = false := by rw [h11]; exact bne_self_eq_false _
  refine CM_condF rfl g12 ?_
  refine CM_skip (QM_then (CM_seq (sr (wa (nt' (CM_block ?_))))))
  let F1 := fun k (_ : Unit) => spec_l7Same_b1 x0 x1 k
  let R2 := rng (R := Bool) F1
  refine CM_loop (σ := Nat × (Unit) × (Unit)) (fun s => [(0, .slice A2 x0.length c3), (1, .slice A7 x1.length c8), (5, .int .i64 ((s.1 : Nat) : Int))]) (fun s => []) (fun s => s.1 ≤ x0.length ∧ R2 (x0.length - s.1) s.1 s.2.1 = R2 (x0.length - 0) 0 ()) (fun s => x0.length - s.1) (0, (), ()) sl3 (fun W hm => hm) ⟨(by omega), rfl⟩ ?_
  rintro ⟨k13, ⟨⟩, ⟨⟩⟩ H16
  obtain ⟨hk14, hF15⟩ : k13 ≤ x0.length ∧ R2 (x0.length - k13) k13 () = R2 (x0.length - 0) 0 () := H16
  show CM Try.prog 68 _ _ _ _ [(0, .slice A2 x0.length c3), (1, .slice A7 x1.length c8), (5, .int .i64 ((k13 : Nat) : Int))] []
  refine CM_seq (sr (wm (wm ?_)))
  refine wv (vlen underlying72) ?_
  refine wv vlss ?_
  refine nt' ?_
  by_cases hl17 : k13 < x0.length
  ·have g18 := dlT hl17
   refine CM_condT rfl g18 ?_
   refine CM_skip (QM_then (CM_seq (CM_block (CM_seq ?_))))
   refine CM_regionD (by kernel_rfl) (by kernel_rfl) ?_
   refine qm (qm ?_)
   obtain ⟨a19, rfl, hb20, he21⟩ := q4 (by omega)
   refine qv (vix 4 k13 underlying72 type51) ?_
   refine qv (vf underlying51 rfl type3) ?_
   obtain ⟨_, e25, hc22⟩ := he21 k13 _ (gt_some (show k13 < x0.length from by omega))
   obtain ⟨v23, rfl, r24⟩ := tyVersion_rd e25
   obtain ⟨m26, A27, c28, rfl, q29, r30⟩ := rdS_op r24
   refine qv (fun W hm => rv_load underlying3 rfl rfl ((hm.cell0 (show ((a19.add (k13 * 4)).add 0).block < w.heap.size from by rw [add_block, add_block]; exact hb20.1)).trans (hc22 0 _ rfl))) ?_
   refine qm (qm ?_)
   obtain ⟨a31, rfl, hb32, he33⟩ := q9 (by omega)
   refine qv (vix 4 k13 underlying72 type51) ?_
   refine qv (vf underlying51 rfl type3) ?_
   obtain ⟨_, e37, hc34⟩ := he33 k13 _ (gt_some (show k13 < x1.length from by omega))
   obtain ⟨v35, rfl, r36⟩ := tyVersion_rd e37
   obtain ⟨m38, A39, c40, rfl, q41, r42⟩ := rdS_op r36
   refine qv (fun W hm => rv_load underlying3 rfl rfl ((hm.cell0 (show ((a31.add (k13 * 4)).add 0).block < w.heap.size from by rw [add_block, add_block]; exact hb32.1)).trans (hc34 0 _ rfl))) ?_
   refine qv vneq ?_
   refine qm ?_
   by_cases h43 : ((gt x0 k13).Id) = ((gt x1 k13).Id)
   ·have g44 : (((gt x0 k13).Id) != ((gt x1 k13).Id)) = false := by rw [h43]; exact bne_self_eq_false _
    refine qg vmv g44 ?_
    refine qg vmv g44 ?_
    refine qg (vix 4 k13 underlying72 type51) g44 ?_
    refine qg (vf underlying51 rfl type3) g44 ?_
    refine qg (fun W hm => rv_load underlying3 rfl rfl ((hm.cell0 (show ((a19.add (k13 * 4)).add 2).block < w.heap.size from by rw [add_block, add_block]; exact hb20.1)).trans (hc22 2 _ rfl))) g44 ?_
    refine qg vmv g44 ?_
    refine qg vmv g44 ?_
    refine qg (vix 4 k13 underlying72 type51) g44 ?_
    refine qg (vf underlying51 rfl type3) g44 ?_
    refine qg (fun W hm => rv_load underlying3 rfl rfl ((hm.cell0 (show ((a31.add (k13 * 4)).add 2).block < w.heap.size from by rw [add_block, add_block]; exact hb32.1)).trans (hc34 2 _ rfl))) g44 ?_
    refine qg vneq g44 ?_
    refine qv (vpF g44) ?_
    refine qm ?_
    by_cases h45 : ((gt x0 k13).Born) = ((gt x1 k13).Born)
    ·have g46 : (((gt x0 k13).Born) != ((gt x1 k13).Born)) = false := by rw [h45]; exact bne_self_eq_false _
     refine qg vmv g46 ?_
     refine qg vmv g46 ?_
     refine qg (vix 4 k13 underlying72 type51) g46 ?_
     refine qg (vf underlying51 rfl type3) g46 ?_
     refine qg (fun W hm => rv_load underlying3 rfl rfl ((hm.cell0 (show ((a19.add (k13 * 4)).add 3).block < w.heap.size from by rw [add_block, add_block]; exact hb20.1)).trans (hc22 3 _ rfl))) g46 ?_
     refine qg vmv g46 ?_
     refine qg vmv g46 ?_
     refine qg (vix 4 k13 underlying72 type51) g46 ?_
     refine qg (vf underlying51 rfl type3) g46 ?_
     refine qg (fun W hm => rv_load underlying3 rfl rfl ((hm.cell0 (show ((a31.add (k13 * 4)).add 3).block < w.heap.size from by rw [add_block, add_block]; exact hb32.1)).trans (hc34 3 _ rfl))) g46 ?_
     refine qg vneq g46 ?_
     refine qv (vpF g46) ?_
     refine qm ?_
     by_cases h47 : ((gt x0 k13).Died) = ((gt x1 k13).Died)
     ·have g48 : (((gt x0 k13).Died) != ((gt x1 k13).Died)) = false := by rw [h47]; exact bne_self_eq_false _
      refine qg vmv g48 ?_
      refine qg vmv g48 ?_
      refine qg (vix 4 k13 underlying72 type51) g48 ?_
      refine qg (vf underlying51 rfl type27) g48 ?_
      refine qg (fun W hm => rv_load underlying27 rfl rfl ((hm.cell0 (show ((a19.add (k13 * 4)).add 1).block < w.heap.size from by rw [add_block, add_block]; exact hb20.1)).trans (hc22 1 _ rfl))) g48 ?_
      refine qg vmv g48 ?_
      refine qg vmv g48 ?_
      refine qg (vix 4 k13 underlying72 type51) g48 ?_
      refine qg (vf underlying51 rfl type27) g48 ?_
      refine qg (fun W hm => rv_load underlying27 rfl rfl ((hm.cell0 (show ((a31.add (k13 * 4)).add 1).block < w.heap.size from by rw [add_block, add_block]; exact hb32.1)).trans (hc34 1 _ rfl))) g48 ?_
      refine QR_callV (cl_fn cb74 rfl) (fun W hm => spec_l2Ints_c W _ ((gt x0 k13).Values) _ ((gt x1 k13).Values) (hm.rdS0 r30) (hm.rdS0 r42)) (Wd_some rfl rfl rfl (bw g48 rfl)) (by decide) ?_
      refine qg vnot g48 ?_
      refine qv (vpF g48) ?_
      refine nq' ?_
      rcases Bool.eq_false_or_eq_true (spec_l2Ints_m ((gt x0 k13).Values) ((gt x1 k13).Values)) with g50 | g50
      ·
       refine CM_condF rfl (nt g50) ?_
       refine CM_skip (QM_block_normal (QM_then (CM_region (wm ?_))))
       refine wv (vadN k13 1 (by omega)) ?_
       refine wa (WM_nil ?_)
       have hn51 := rng_next (R := Bool) (body := F1) (k := k13) (s := ()) (s' := ()) (show k13 < x0.length from by omega) (cond_f g44 (cond_f g46 (cond_f g48 (cond_t g50 (rfl))))) hF15
       exact QM_round (k13 + 1, (), ()) sl3 (fun W hm => hm) ⟨(by omega), hn51⟩ (rl (by omega))
      ·
       refine CM_condT rfl (nf g50) ?_
       refine sr (wa (nt' (CM_ret (QM_block_ret (QM_then_ret (QM_then_ret (QM_block_ret (QM_then_ret ?_))))))))
       exact rtb (h := cond_f g12 (fin_inl (rng_ret (body := F1) (k := k13) (s := ()) (show k13 < x0.length from by omega) (cond_f g44 (cond_f g46 (cond_f g48 (cond_f g50 (rfl))))) hF15) rfl))
     ·have g48 : (((gt x0 k13).Died) != ((gt x1 k13).Died)) = true := bne_iff_ne.2 h47
      refine qs g48 ?_
      refine qs g48 ?_
      refine qs g48 ?_
      refine qs g48 ?_
      refine qs g48 ?_
      refine qs g48 ?_
      refine qs g48 ?_
      refine qs g48 ?_
      refine qs g48 ?_
      refine qs g48 ?_
      refine qs g48 ?_
      refine qs g48 ?_
      refine qv (vpT g48) ?_
      refine nq' ?_
      refine CM_condT rfl rfl ?_
      refine sr (wa (nt' (CM_ret (QM_block_ret (QM_then_ret (QM_then_ret (QM_block_ret (QM_then_ret ?_))))))))
      exact rtb (h := cond_f g12 (fin_inl (rng_ret (body := F1) (k := k13) (s := ()) (show k13 < x0.length from by omega) (cond_f g44 (cond_f g46 (cond_t g48 (rfl)))) hF15) rfl))
    ·have g46 : (((gt x0 k13).Born) != ((gt x1 k13).Born)) = true := bne_iff_ne.2 h45
     refine qs g46 ?_
     refine qs g46 ?_
     refine qs g46 ?_
     refine qs g46 ?_
     refine qs g46 ?_
     refine qs g46 ?_
     refine qs g46 ?_
     refine qs g46 ?_
     refine qs g46 ?_
     refine qs g46 ?_
     refine qs g46 ?_
     refine qv (vpT g46) ?_
     refine qm ?_
     refine QR_skip (Wd_some rfl rfl rfl rfl) rfl (by decide) ?_
     refine QR_skip (Wd_some rfl rfl rfl rfl) rfl (by decide) ?_
     refine QR_skip (Wd_some rfl rfl rfl rfl) rfl (by decide) ?_
     refine QR_skip (Wd_some rfl rfl rfl rfl) rfl (by decide) ?_
     refine QR_skip (Wd_some rfl rfl rfl rfl) rfl (by decide) ?_
     refine QR_skip (Wd_some rfl rfl rfl rfl) rfl (by decide) ?_
     refine QR_skip (Wd_some rfl rfl rfl rfl) rfl (by decide) ?_
     refine QR_skip (Wd_some rfl rfl rfl rfl) rfl (by decide) ?_
     refine QR_skip (Wd_some rfl rfl rfl rfl) rfl (by decide) ?_
     refine QR_skip (Wd_some rfl rfl rfl rfl) rfl (by decide) ?_
     refine QR_skip (Wd_some rfl rfl rfl rfl) rfl (by decide) ?_
     refine QR_skip (Wd_some rfl rfl rfl rfl) rfl (by decide) ?_
     refine qv (vpT rfl) ?_
     refine nq' ?_
     refine CM_condT rfl rfl ?_
     refine sr (wa (nt' (CM_ret (QM_block_ret (QM_then_ret (QM_then_ret (QM_block_ret (QM_then_ret ?_))))))))
     exact rtb (h := cond_f g12 (fin_inl (rng_ret (body := F1) (k := k13) (s := ()) (show k13 < x0.length from by omega) (cond_f g44 (cond_t g46 (rfl))) hF15) rfl))
   ·have g44 : (((gt x0 k13).Id) != ((gt x1 k13).Id)) = true := bne_iff_ne.2 h43
    refine qs g44 ?_
    refine qs g44 ?_
    refine qs g44 ?_
    refine qs g44 ?_
    refine qs g44 ?_
    refine qs g44 ?_
    refine qs g44 ?_
    refine qs g44 ?_
    refine qs g44 ?_
    refine qs g44 ?_
    refine qs g44 ?_
    refine qv (vpT g44) ?_
    refine qm ?_
    refine QR_skip (Wd_some rfl rfl rfl rfl) rfl (by decide) ?_
    refine QR_skip (Wd_some rfl rfl rfl rfl) rfl (by decide) ?_
    refine QR_skip (Wd_some rfl rfl rfl rfl) rfl (by decide) ?_
    refine QR_skip (Wd_some rfl rfl rfl rfl) rfl (by decide) ?_
    refine QR_skip (Wd_some rfl rfl rfl rfl) rfl (by decide) ?_
    refine QR_skip (Wd_some rfl rfl rfl rfl) rfl (by decide) ?_
    refine QR_skip (Wd_some rfl rfl rfl rfl) rfl (by decide) ?_
    refine QR_skip (Wd_some rfl rfl rfl rfl) rfl (by decide) ?_
    refine QR_skip (Wd_some rfl rfl rfl rfl) rfl (by decide) ?_
    refine QR_skip (Wd_some rfl rfl rfl rfl) rfl (by decide) ?_
    refine QR_skip (Wd_some rfl rfl rfl rfl) rfl (by decide) ?_
    refine qv (vpT rfl) ?_
    refine qm ?_
    refine QR_skip (Wd_some rfl rfl rfl rfl) rfl (by decide) ?_
    refine QR_skip (Wd_some rfl rfl rfl rfl) rfl (by decide) ?_
    refine QR_skip (Wd_some rfl rfl rfl rfl) rfl (by decide) ?_
    refine QR_skip (Wd_some rfl rfl rfl rfl) rfl (by decide) ?_
    refine QR_skip (Wd_some rfl rfl rfl rfl) rfl (by decide) ?_
    refine QR_skip (Wd_some rfl rfl rfl rfl) rfl (by decide) ?_
    refine QR_skip (Wd_some rfl rfl rfl rfl) rfl (by decide) ?_
    refine QR_skip (Wd_some rfl rfl rfl rfl) rfl (by decide) ?_
    refine QR_skip (Wd_some rfl rfl rfl rfl) rfl (by decide) ?_
    refine QR_skip (Wd_some rfl rfl rfl rfl) rfl (by decide) ?_
    refine QR_skip (Wd_some rfl rfl rfl rfl) rfl (by decide) ?_
    refine QR_skip (Wd_some rfl rfl rfl rfl) rfl (by decide) ?_
    refine qv (vpT rfl) ?_
    refine nq' ?_
    refine CM_condT rfl rfl ?_
    refine sr (wa (nt' (CM_ret (QM_block_ret (QM_then_ret (QM_then_ret (QM_block_ret (QM_then_ret ?_))))))))
    exact rtb (h := cond_f g12 (fin_inl (rng_ret (body := F1) (k := k13) (s := ()) (show k13 < x0.length from by omega) (cond_t g44 (rfl)) hF15) rfl))
  ·have g18 := dlF hl17
   refine CM_condF rfl g18 ?_
   refine CM_exit (QM_then_exit (QM_then_exit ?_))
   have hE52 : R2 (x0.length - 0) 0 () = Sum.inr () := rng_end hl17 hF15
   refine QM_block_hit (QM_then (sr (wa (nt' (CM_ret ?_)))))
   exact rtb (h := cond_f g12 (fin_inr hE52 (rfl)))
 ·have g12 : (((x0.length : Nat) : Int) != ((x1.length : Nat) : Int)) = true := bne_iff_ne.2 h11
  refine CM_condT rfl g12 ?_
  refine sr (wa (nt' (CM_ret (QM_then_ret ?_))))
  exact rtb (h := cond_t g12 (rfl))

def spec_EqualStores_b1 (x0 : DStore) (x1 : DStore) (k21 : Nat) : Bool ⊕ (Unit) :=
 cond (spec_l7Same_m (gt x0.Segments k21) (gt x1.Segments k21)) (Sum.inr ()) (Sum.inl false)
def spec_EqualStores_m (x0 : DStore) (x1 : DStore) : Bool :=
 cond (((x0.Segments.length : Nat) : Int) != ((x1.Segments.length : Nat) : Int)) false (cond (x0.Now != x1.Now) false (Sum.elim id (fun (s : Unit) => true) (rng (R := Bool) (fun k (_ : Unit) => spec_EqualStores_b1 x0 x1 k) (x0.Segments.length - 0) 0 ())))
theorem cb10 : Cb Try.prog 10 := ⟨f10, _, func10, rfl, by decide⟩
theorem spec_EqualStores_c (w : World) (z0 : List Value) (x0 : DStore) (z1 : List Value) (x1 : DStore) (r_0 : tyStore.rd w w.heap.size z0 x0) (r_1 : tyStore.rd w w.heap.size z1 x1) :
  Calls Try.prog 10 #[.agg z0.toArray, .agg z1.toArray] w fun e w' => e = .returned (.bool (spec_EqualStores_m x0 x1)) ∧ Below w.heap.size w w' := by
 obtain ⟨v1, rfl, r2⟩ := tyStore_rd r_0
 obtain ⟨m3, A4, c5, rfl, q6, r7⟩ := rdS_op r2
 obtain ⟨v8, rfl, r9⟩ := tyStore_rd r_1
 obtain ⟨m10, A11, c12, rfl, q13, r14⟩ := rdS_op r9
 refine ce2 (L := [(0, .agg #[.slice A4 x0.Segments.length c5, .int .i64 x0.Now]), (1, .agg #[.slice A11 x1.Segments.length c12, .int .i64 x1.Now])]) (N := 39) func10 ?_
 refine sr ?_
 refine WM_box rfl (Wd_none rfl) (by decide) (fun p15 => ?_)
 refine WM_box rfl (Wd_none rfl) (by decide) (fun p16 => ?_)
 refine wa (nt' (CM_seq (sr ?_)))
 refine wv (vf underlying26 rfl type24) ?_
 refine wv (vl 1 0 underlying24) ?_
 refine wv (vlen underlying24) ?_
 refine wv (vf underlying26 rfl type24) ?_
 refine wv (vl 0 0 underlying24) ?_
 refine wv (vlen underlying24) ?_
 refine wv vneq ?_
 refine wm ?_
 by_cases h17 : ((x0.Segments.length : Nat) : Int) = ((x1.Segments.length : Nat) : Int)
 ·have g18 : (((x0.Segments.length : Nat) : Int) != ((x1.Segments.length : Nat) : Int)) = false := by rw [h17]; exact bne_self_eq_false _
  refine wg (vf underlying26 rfl type3) g18 ?_
  refine wg (vl 1 1 underlying3) g18 ?_
  refine wg (vf underlying26 rfl type3) g18 ?_
  refine wg (vl 0 1 underlying3) g18 ?_
  refine wg vneq g18 ?_
  refine wv (vpF g18) ?_
  refine nt' ?_
  by_cases h19 : x0.Now = x1.Now
  ·have g20 : (x0.Now != x1.Now) = false := by rw [h19]; exact bne_self_eq_false _
   refine CM_condF rfl g20 ?_
   refine CM_skip (QM_then (CM_seq (sr (wa (nt' (CM_block ?_))))))
   let F1 := fun k (_ : Unit) => spec_EqualStores_b1 x0 x1 k
   let R2 := rng (R := Bool) F1
   let I3 : It := iBox p16 26 [.slice A11 x1.Segments.length c12, .int .i64 x1.Now]
   let I4 : It := iBox p15 26 [.slice A4 x0.Segments.length c5, .int .i64 x0.Now]
   refine CM_loop (σ := Nat × (Unit) × (Unit)) (fun s => [(2, .pointer (some (⟨p15, 0, none⟩ : Addr))), (3, .pointer (some (⟨p16, 0, none⟩ : Addr))), (5, .int .i64 ((s.1 : Nat) : Int))]) (fun s => [I3, I4]) (fun s => s.1 ≤ x0.Segments.length ∧ R2 (x0.Segments.length - s.1) s.1 s.2.1 = R2 (x0.Segments.length - 0) 0 ()) (fun s => x0.Segments.length - s.1) (0, (), ()) sl3 (fun W hm => hm) ⟨(by omega), rfl⟩ ?_
   rintro ⟨k21, ⟨⟩, ⟨⟩⟩ H24
   obtain ⟨hk22, hF23⟩ : k21 ≤ x0.Segments.length ∧ R2 (x0.Segments.length - k21) k21 () = R2 (x0.Segments.length - 0) 0 () := H24
   show CM Try.prog 39 _ _ _ _ [(2, .pointer (some (⟨p15, 0, none⟩ : Addr))), (3, .pointer (some (⟨p16, 0, none⟩ : Addr))), (5, .int .i64 ((k21 : Nat) : Int))] [I3, I4]
   refine CM_seq (sr (wm ?_))
   refine wv (vf underlying26 rfl type24) ?_
   refine wv (vl 1 0 underlying24) ?_
   refine wv (vlen underlying24) ?_
   refine wv vlss ?_
   refine nt' ?_
   by_cases hl25 : k21 < x0.Segments.length
   ·have g26 := dlT hl25
    refine CM_condT rfl g26 ?_
    refine CM_skip (QM_then (CM_seq (CM_block (CM_seq ?_))))
    refine CM_regionD (by kernel_rfl) (by kernel_rfl) ?_
    refine qv (vf underlying26 rfl type24) ?_
    refine qv (vl 1 0 underlying24) ?_
    refine qm ?_
    obtain ⟨a27, rfl, hb28, he29⟩ := q6 (by omega)
    refine qv (vix 1 k21 underlying24 type72) ?_
    obtain ⟨_, e31, hc30⟩ := he29 k21 _ (gt_some (show k21 < x0.Segments.length from by omega))
    obtain ⟨v32, rfl, r33⟩ := e31
    obtain ⟨m34, A35, c36, rfl, q37, r38⟩ := rdS_op r33
    refine qv (fun W hm => rv_load underlying72 rfl rfl ((hm.cell0 (show (a27.add (k21 * 1)).block < w.heap.size from by rw [add_block]; exact hb28.1)).trans (hc30 0 _ rfl))) ?_
    refine qv (vf underlying26 rfl type24) ?_
    refine qv (vl 0 0 underlying24) ?_
    refine qm ?_
    obtain ⟨a39, rfl, hb40, he41⟩ := q13 (by omega)
    refine qv (vix 1 k21 underlying24 type72) ?_
    obtain ⟨_, e43, hc42⟩ := he41 k21 _ (gt_some (show k21 < x1.Segments.length from by omega))
    obtain ⟨v44, rfl, r45⟩ := e43
    obtain ⟨m46, A47, c48, rfl, q49, r50⟩ := rdS_op r45
    refine qv (fun W hm => rv_load underlying72 rfl rfl ((hm.cell0 (show (a39.add (k21 * 1)).block < w.heap.size from by rw [add_block]; exact hb40.1)).trans (hc42 0 _ rfl))) ?_
    refine QR_callV (cl_fn cb45 rfl) (fun W hm => spec_l7Same_c W _ (gt x0.Segments k21) _ (gt x1.Segments k21) (hm.rdS0 r38) (hm.rdS0 r50)) (Wd_none rfl) (by decide) ?_
    refine qv vnot ?_
    refine nq' ?_
    rcases Bool.eq_false_or_eq_true (spec_l7Same_m (gt x0.Segments k21) (gt x1.Segments k21)) with g52 | g52
    ·
     refine CM_condF rfl (nt g52) ?_
     refine CM_skip (QM_block_normal (QM_then (CM_region (wm ?_))))
     refine wv (vadN k21 1 (by omega)) ?_
     refine wa (WM_nil ?_)
     have hn53 := rng_next (R := Bool) (body := F1) (k := k21) (s := ()) (s' := ()) (show k21 < x0.Segments.length from by omega) (cond_t g52 (rfl)) hF23
     exact QM_round (k21 + 1, (), ()) sl3 (fun W hm => hm) ⟨(by omega), hn53⟩ (rl (by omega))
    ·
     refine CM_condT rfl (nf g52) ?_
     refine sr (wa (nt' (CM_ret (QM_block_ret (QM_then_ret (QM_then_ret (QM_block_ret (QM_then_ret ?_))))))))
     exact rtb (h := cond_f g18 (cond_f g20 (fin_inl (rng_ret (body := F1) (k := k21) (s := ()) (show k21 < x0.Segments.length from by omega) (cond_f g52 (rfl)) hF23) rfl)))
   ·have g26 := dlF hl25
    refine CM_condF rfl g26 ?_
    refine CM_exit (QM_then_exit (QM_then_exit ?_))
    have hE54 : R2 (x0.Segments.length - 0) 0 () = Sum.inr () := rng_end hl25 hF23
    refine QM_block_hit (QM_then (sr (wa (nt' (CM_ret ?_)))))
    exact rtb (h := cond_f g18 (cond_f g20 (fin_inr hE54 (rfl))))
  ·have g20 : (x0.Now != x1.Now) = true := bne_iff_ne.2 h19
   refine CM_condT rfl g20 ?_
   refine sr (wa (nt' (CM_ret (QM_then_ret ?_))))
   exact rtb (h := cond_f g18 (cond_t g20 (rfl)))
 ·have g18 : (((x0.Segments.length : Nat) : Int) != ((x1.Segments.length : Nat) : Int)) = true := bne_iff_ne.2 h17
  refine ws g18 ?_
  refine ws g18 ?_
  refine ws g18 ?_
  refine ws g18 ?_
  refine ws g18 ?_
  refine wv (vpT g18) ?_
  refine nt' ?_
  refine CM_condT rfl rfl ?_
  refine sr (wa (nt' (CM_ret (QM_then_ret ?_))))
  exact rtb (h := cond_t g18 (rfl))

def impl_segmentRows_b1 (x0 : DStore) (x1 : Int) (x2 : Int) (k25 : Nat) (d26 : (List DRow)) : (List DRow) ⊕ ((List DRow)) :=
 cond (impl_IsVisible_m (gt (gt x0.Segments (x1.toNat)) k25) x2) (Sum.inr (d26 ++ [(impl_rowOf_m (gt (gt x0.Segments (x1.toNat)) k25))])) (Sum.inr d26)
def impl_segmentRows_m (x0 : DStore) (x1 : Int) (x2 : Int) : (List DRow) :=
 Sum.elim id (fun (s : (List DRow)) => s) (rng (R := (List DRow)) (fun k (s : (List DRow)) => impl_segmentRows_b1 x0 x1 x2 k s) (((gt x0.Segments (x1.toNat))).length - 0) 0 [])
theorem cb55 : Cb Try.prog 55 := ⟨f55, _, func55, rfl, by decide⟩
theorem impl_segmentRows_c (w : World) (z0 : List Value) (x0 : DStore) (x1 : Int) (x2 : Int) (r_0 : tyStore.rd w w.heap.size z0 x0) (s_0 : smStore 68719476736 x0) (hx1 : 0 ≤ x1 ∧ x1.toNat < x0.Segments.length) :
  Calls Try.prog 55 #[.agg z0.toArray, .int .i64 x1, .int .i64 x2] w fun e w' => ∃ v : Value, e = .returned (v) ∧ Mem w.heap.size w [iOwn (tSl tyRow 29) [v] (impl_segmentRows_m x0 x1 x2)] w' := by
 obtain ⟨v1, rfl, r2⟩ := tyStore_rd r_0
 obtain ⟨m3, A4, c5, rfl, q6, r7⟩ := rdS_op r2
 have l8 : x0.Segments.length ≤ 68719476736 := s_0.1
 refine ce3 (L := [(0, .agg #[.slice A4 x0.Segments.length c5, .int .i64 x0.Now]), (1, .int .i64 x1), (2, .int .i64 x2)]) (N := 31) func55 ?_
 refine sr ?_
 refine WM_box rfl (Wd_none rfl) (by decide) (fun p9 => ?_)
 refine wa (nt' (sr ?_))
 refine WM_build0 (E := tyRow) underlying39 type29 (Wd_none rfl) (by decide) (fun p10 => ?_)
 refine wa (nt' (CM_seq (sr ?_)))
 refine wv (vf underlying26 rfl type24) ?_
 refine wv (vl 1 0 underlying24) ?_
 refine wm ?_
 obtain ⟨a12, rfl, hb13, he14⟩ := q6 (by omega)
 refine wv (fun W hm => rv_indexI (sz := 1) (k := x1) underlying24 type72 rfl rfl rfl (by omega) (by omega)) ?_
 obtain ⟨_, e16, hc15⟩ := he14 (x1.toNat) _ (gt_some (show (x1.toNat) < x0.Segments.length from by omega))
 have l17 : (gt x0.Segments (x1.toNat)).length ≤ 68719476736 := (s_0.2 _ (gt_mem (show (x1.toNat) < x0.Segments.length from by omega))).1
 obtain ⟨v18, rfl, r19⟩ := e16
 obtain ⟨m20, A21, c22, rfl, q23, r24⟩ := rdS_op r19
 refine wv (fun W hm => rv_load underlying72 rfl rfl ((hm.cell0 (show (a12.add ((x1.toNat) * 1)).block < w.heap.size from by rw [add_block]; exact hb13.1)).trans (hc15 0 _ rfl))) ?_
 refine wv (vlen underlying72) ?_
 refine wm (nt' (CM_block ?_))
 let F1 := fun k (s : (List DRow)) => impl_segmentRows_b1 x0 x1 x2 k s
 let R2 := rng (R := (List DRow)) F1
 let I5 : It := iBox p9 26 [.slice (some a12) x0.Segments.length c5, .int .i64 x0.Now]
 refine CM_loop (σ := Nat × ((List DRow)) × (Option Addr × Nat)) (fun s => [(2, .int .i64 x2), (7, .slice s.2.2.1 s.2.1.length s.2.2.2), (15, .slice A21 ((gt x0.Segments (x1.toNat))).length c22), (16, .int .i64 ((((gt x0.Segments (x1.toNat))).length : Nat) : Int)), (17, .int .i64 ((s.1 : Nat) : Int))]) (fun s => [iOwn (tSl tyRow 29) [.slice s.2.2.1 s.2.1.length s.2.2.2] s.2.1, I5]) (fun s => s.1 ≤ ((gt x0.Segments (x1.toNat))).length ∧ R2 (((gt x0.Segments (x1.toNat))).length - s.1) s.1 s.2.1 = R2 (((gt x0.Segments (x1.toNat))).length - 0) 0 [] ∧ s.2.1.length ≤ 0 + s.1) (fun s => ((gt x0.Segments (x1.toNat))).length - s.1) (0, [], ((some ⟨p10, 0, none⟩), 0)) sl5 (fun W hm => hm) ⟨(by omega), rfl, Nat.le_refl _⟩ ?_
 rintro ⟨k25, d26, ⟨A27, c28⟩⟩ H31
 obtain ⟨hk29, hF30, hi32⟩ : k25 ≤ ((gt x0.Segments (x1.toNat))).length ∧ R2 (((gt x0.Segments (x1.toNat))).length - k25) k25 d26 = R2 (((gt x0.Segments (x1.toNat))).length - 0) 0 [] ∧ d26.length ≤ 0 + k25 := H31
 let I6 : It := iOwn (tSl tyRow 29) [.slice A27 d26.length c28] d26
 show CM Try.prog 31 _ _ _ _ [(2, .int .i64 x2), (7, .slice A27 d26.length c28), (15, .slice A21 ((gt x0.Segments (x1.toNat))).length c22), (16, .int .i64 ((((gt x0.Segments (x1.toNat))).length : Nat) : Int)), (17, .int .i64 ((k25 : Nat) : Int))] [I6, I5]
 refine sr ?_
 refine wv vlss ?_
 refine nt' (CM_seq ?_)
 by_cases hl33 : k25 < ((gt x0.Segments (x1.toNat))).length
 ·have g34 := dlT hl33
  refine CM_condT rfl g34 ?_
  refine CM_skip (QM_then (CM_seq (CM_block (sr ?_))))
  obtain ⟨a35, rfl, hb36, he37⟩ := q23 (by omega)
  refine wv (vix 4 k25 underlying72 type51) ?_
  obtain ⟨_, e41, hc38⟩ := he37 k25 _ (gt_some (show k25 < ((gt x0.Segments (x1.toNat))).length from by omega))
  obtain ⟨v39, rfl, r40⟩ := tyVersion_rd e41
  have l42 : ((gt (gt x0.Segments (x1.toNat)) k25).Values).length ≤ 68719476736 := ((s_0.2 _ (gt_mem (show (x1.toNat) < x0.Segments.length from by omega))).2 _ (gt_mem (show k25 < ((gt x0.Segments (x1.toNat))).length from by omega)))
  obtain ⟨m43, A44, c45, rfl, q46, r47⟩ := rdS_op r40
  let K3 : List Value := [.int .i64 ((gt (gt x0.Segments (x1.toNat)) k25).Id), .slice A44 ((gt (gt x0.Segments (x1.toNat)) k25).Values).length c45, .int .i64 ((gt (gt x0.Segments (x1.toNat)) k25).Born), .int .i64 ((gt (gt x0.Segments (x1.toNat)) k25).Died)]
  refine wv (fun W hm => rv_loadN (cs := K3) underlying51 type51 rfl rfl (hm.elCells (show (a35.add (k25 * 4)).block < w.heap.size from by rw [add_block]; exact hb36.1) hc38)) ?_
  refine WM_alloc type51 rfl (Wd_none rfl) (by decide) (fun p48 => ?_)
  refine sb 0 K3 [I6, I5] (fun W hm => hm) type51 ?_
  refine nt' (sr ?_)
  refine wv (fun W hm => rv_loadN (cs := K3) underlying51 type51 rfl rfl (hm.boxCells (n := 0) rfl)) ?_
  refine wm ?_
  refine wcv (cl_fn cb26 rfl) (fun W hm => impl_IsVisible_c W _ (gt (gt x0.Segments (x1.toNat)) k25) x2 (tyVersion_mk (x := (gt (gt x0.Segments (x1.toNat)) k25)) (hm.rdS0 r47))) ?_
  refine nt' ?_
  rcases Bool.eq_false_or_eq_true (impl_IsVisible_m (gt (gt x0.Segments (x1.toNat)) k25) x2) with g50 | g50
  ·
   refine CM_condT rfl g50 ?_
   refine CM_region (wm ?_)
   refine wv (fun W hm => rv_loadN (cs := K3) underlying51 type51 rfl rfl (hm.boxCells (n := 0) rfl)) ?_
   refine wcs tyRow (impl_rowOf_m (gt (gt x0.Segments (x1.toNat)) k25)) (cl_fn cb48 rfl) (fun W hm => impl_rowOf_c W _ (gt (gt x0.Segments (x1.toNat)) k25) (tyVersion_mk (x := (gt (gt x0.Segments (x1.toNat)) k25)) (hm.rdS0 r47)) ((s_0.2 _ (gt_mem (show (x1.toNat) < x0.Segments.length from by omega))).2 _ (gt_mem (show k25 < ((gt x0.Segments (x1.toNat))).length from by omega)))) (fun z51 => ?_)
   refine tyRow_sp ?_
   rintro v52 rfl
   refine WM_form (n := 0) rfl ?_
   rintro A53 c54 rfl m55
   let K4 : List Value := [.int .i64 ((impl_rowOf_m (gt (gt x0.Segments (x1.toNat)) k25)).Id), .slice A53 ((impl_rowOf_m (gt (gt x0.Segments (x1.toNat)) k25)).Values).length c54]
   refine WM_build (cs := K4) underlying39 type29 rfl (by decide) (by decide) rfl (by kernel_rfl) (Wd_none rfl) (by decide) (fun p57 => ?_)
   refine ap1 tyRow 29 (.slice A27 d26.length c28) d26 (impl_rowOf_m (gt (gt x0.Segments (x1.toNat)) k25)) [iOwn (tSl tInt 3) [.slice A53 ((impl_rowOf_m (gt (gt x0.Segments (x1.toNat)) k25)).Values).length c54] ((impl_rowOf_m (gt (gt x0.Segments (x1.toNat)) k25)).Values)] [iBox p48 51 K3, I5] K4 (pk [0, 3, 1, 2, 4]) (fun _ _ hs => Els.single (tyRow_join (x := (impl_rowOf_m (gt (gt x0.Segments (x1.toNat)) k25))) hs)) underlying39 type29 (show (d26.length + 1) * 32 ≤ 140737488355328 from by omega) (fun v58 => ?_)
   refine WM_form (n := 0) rfl ?_
   rintro A59 c60 rfl m61
   refine wa (WM_nil (QM_block_normal (QM_then (CM_region ?_))))
   refine wv (vadN k25 1 (by omega)) ?_
   refine wm (WM_nil ?_)
   have hn63 := rng_next (R := (List DRow)) (body := F1) (k := k25) (s := d26) (s' := (d26 ++ [(impl_rowOf_m (gt (gt x0.Segments (x1.toNat)) k25))])) (show k25 < ((gt x0.Segments (x1.toNat))).length from by omega) (cond_t g50 (rfl)) hF30
   exact QM_round (k25 + 1, (d26 ++ [(impl_rowOf_m (gt (gt x0.Segments (x1.toNat)) k25))]), (A59, c60)) sl5 (pk [0, 2]) ⟨(by omega), hn63, (show (d26 ++ [(impl_rowOf_m (gt (gt x0.Segments (x1.toNat)) k25))]).length ≤ 0 + (k25 + 1) from by first | omega | (simp only [List.length_append, List.length_cons, List.length_nil] at *; omega))⟩ (show ((gt x0.Segments (x1.toNat))).length - (k25 + 1) < ((gt x0.Segments (x1.toNat))).length - k25 from by omega)
  ·
   refine CM_condF rfl g50 ?_
   refine CM_skip (QM_block_normal (QM_then (CM_region ?_)))
   refine wv (vadN k25 1 (by omega)) ?_
   refine wm (WM_nil ?_)
   have hn64 := rng_next (R := (List DRow)) (body := F1) (k := k25) (s := d26) (s' := d26) (show k25 < ((gt x0.Segments (x1.toNat))).length from by omega) (cond_f g50 (rfl)) hF30
   exact QM_round (k25 + 1, d26, (A27, c28)) sl5 (pk [1, 2]) ⟨(by omega), hn64, (show d26.length ≤ 0 + (k25 + 1) from by first | omega | (simp only [List.length_append, List.length_cons, List.length_nil] at *; omega))⟩ (show ((gt x0.Segments (x1.toNat))).length - (k25 + 1) < ((gt x0.Segments (x1.toNat))).length - k25 from by omega)
 ·have g34 := dlF hl33
  refine CM_condF rfl g34 ?_
  refine CM_exit (QM_then_exit (QM_then_exit ?_))
  have hE65 : R2 (((gt x0.Segments (x1.toNat))).length - 0) 0 [] = Sum.inr d26 := rng_end hl33 hF30
  refine QM_block_hit (QM_then (sr (wm (wa (nt' (CM_ret ?_))))))
  have he66 := (show impl_segmentRows_m x0 x1 x2 = d26 from fin_inr hE65 (rfl))
  refine QM_r1 rfl (RR_tmp rfl) (fun W hm => ⟨.slice A27 d26.length c28, ?_, ?_⟩)
  ·first | rw [he66] | rfl
  ·rw [he66]; exact (hm.pick [0] (by decide))

def impl_copyRow_m (x0 : DRow) : DRow :=
 x0
theorem cb78 : Cb Try.prog 78 := ⟨f78, _, func78, rfl, by decide⟩
theorem impl_copyRow_c (w : World) (z0 : List Value) (x0 : DRow) (r_0 : tyRow.rd w w.heap.size z0 x0) (s_0 : smRow 68719476736 x0) :
  Calls Try.prog 78 #[.agg z0.toArray] w fun e w' => ∃ v : List Value, e = .returned (.agg v.toArray) ∧ Mem w.heap.size w [iOwn tyRow v (impl_copyRow_m x0)] w' := by
 obtain ⟨v1, rfl, r2⟩ := tyRow_rd r_0
 obtain ⟨m3, A4, c5, rfl, q6, r7⟩ := rdS_op r2
 have l8 : x0.Values.length ≤ 68719476736 := s_0
 refine ce1 (L := [(0, .agg #[.int .i64 x0.Id, .slice A4 x0.Values.length c5])]) (N := 9) func78 ?_
 refine sr ?_
 refine WM_box rfl (Wd_none rfl) (by decide) (fun p9 => ?_)
 refine WM_alloc type29 rfl (Wd_none rfl) (by decide) (fun p10 => ?_)
 refine nt' (CM_seq ?_)
 let I1 : It := iBox p9 29 [.int .i64 x0.Id, .slice A4 x0.Values.length c5]
 refine rd2 7 [6] (s := [I1]) (s2 := [iBox p10 29 [.int .i64 0, .slice none 0 0], I1]) (pk [1]) (fun W hm => hm) ?_
 refine qtD 7 0 1 rfl (vf underlying29 rfl type3) ?_
 refine qtD 7 1 3 rfl (vl 1 0 underlying3) ?_
 refine qtD 7 2 7 rfl (vf underlying29 rfl type27) ?_
 refine qtD 7 3 15 rfl (vl 1 1 underlying27) ?_
 refine qoD 7 4 31 rfl ?_
 refine wcl (tSl tInt 3) x0.Values (cl_fn cb40 rfl) (fun W hm => impl_copyInts_c2 W _ x0.Values (hm.rdS0 r7) s_0) (fun z11 => ?_)
 refine WM_form (n := 0) rfl ?_
 rintro A12 c13 rfl m14
 refine qnD (pk [2]) (pk [1, 2]) ?_
 refine qtD 7 5 63 rfl (fun W hm => rv_build (cs := [.int .i64 x0.Id, .slice A12 x0.Values.length c13]) rfl (by kernel_rfl)) ?_
 refine qoD 7 6 127 rfl ?_
 let I2 : It := iOwn (tSl tInt 3) [.slice A12 x0.Values.length c13] x0.Values
 refine sb 0 [.int .i64 x0.Id, .slice A12 x0.Values.length c13] [I2, I1] (pk [1, 0, 2]) type29 ?_
 refine qxD (pk [2]) ?_
 refine QB_done (by kernel_rfl) ?_
 refine QM_then (CM_ret ?_)
 have he16 := (show impl_copyRow_m x0 = x0 from rfl)
 refine QM_r1 rfl (RR_cell (n := 0) rfl rfl underlying29 type29 rfl) (fun W hm => ⟨[.int .i64 x0.Id, .slice A12 x0.Values.length c13], ?_, ?_⟩)
 ·first | rw [he16] | rfl
 ·rw [he16]; exact Mem.join (is := [I2]) (js := []) (fun _ _ hs => tyRow_join (x := x0) hs) (hm.pick [1] (by decide))
theorem impl_copyRow_eq (x0 : DRow) : impl_copyRow_m x0 = x0 := by
 rfl
theorem impl_copyRow_c2 (w : World) (z0 : List Value) (x0 : DRow) (r_0 : tyRow.rd w w.heap.size z0 x0) (s_0 : smRow 68719476736 x0) :
  Calls Try.prog 78 #[.agg z0.toArray] w fun e w' => ∃ v : List Value, e = .returned (.agg v.toArray) ∧ Mem w.heap.size w [iOwn tyRow v x0] w' := by
 have h := impl_copyRow_c w z0 x0 r_0 s_0
 rw [impl_copyRow_eq] at h
 exact h

def impl_copyRows_b1 (x0 : (List DRow)) (k9 : Nat) (d10 : (List DRow)) : (List DRow) ⊕ ((List DRow)) :=
 Sum.inr (d10 ++ [(gt x0 k9)])
def impl_copyRows_m (x0 : (List DRow)) : (List DRow) :=
 Sum.elim id (fun (s : (List DRow)) => s) (rng (R := (List DRow)) (fun k (s : (List DRow)) => impl_copyRows_b1 x0 k s) (x0.length - 0) 0 [])
theorem cb59 : Cb Try.prog 59 := ⟨f59, _, func59, rfl, by decide⟩
theorem impl_copyRows_c (w : World) (z0 : Value) (x0 : (List DRow)) (r_0 : rdS tyRow w w.heap.size z0 x0) (s_0 : (x0.length ≤ 68719476736 ∧ ∀ y ∈ x0, smRow 68719476736 y)) :
  Calls Try.prog 59 #[z0] w fun e w' => ∃ v : Value, e = .returned (v) ∧ Mem w.heap.size w [iOwn (tSl tyRow 29) [v] (impl_copyRows_m x0)] w' := by
 obtain ⟨m1, A2, c3, rfl, q4, r5⟩ := rdS_op r_0
 have l6 : x0.length ≤ 68719476736 := s_0.1
 refine ce1 (L := [(0, .slice A2 x0.length c3)]) (N := 20) func59 ?_
 refine sr (wa (nt' (sr ?_)))
 refine WM_build0 (E := tyRow) underlying39 type29 (Wd_none rfl) (by decide) (fun p7 => ?_)
 refine wa (nt' (CM_seq (sr (wm ?_))))
 refine wv (vlen underlying39) ?_
 refine wm (nt' (CM_block ?_))
 let F1 := fun k (s : (List DRow)) => impl_copyRows_b1 x0 k s
 let R2 := rng (R := (List DRow)) F1
 refine CM_loop (σ := Nat × ((List DRow)) × (Option Addr × Nat)) (fun s => [(3, .slice s.2.2.1 s.2.1.length s.2.2.2), (7, .slice A2 x0.length c3), (8, .int .i64 ((x0.length : Nat) : Int)), (9, .int .i64 ((s.1 : Nat) : Int))]) (fun s => [iOwn (tSl tyRow 29) [.slice s.2.2.1 s.2.1.length s.2.2.2] s.2.1]) (fun s => s.1 ≤ x0.length ∧ R2 (x0.length - s.1) s.1 s.2.1 = R2 (x0.length - 0) 0 [] ∧ s.2.1.length ≤ 0 + s.1) (fun s => x0.length - s.1) (0, [], ((some ⟨p7, 0, none⟩), 0)) sl4 (fun W hm => hm) ⟨(by omega), rfl, Nat.le_refl _⟩ ?_
 rintro ⟨k9, d10, ⟨A11, c12⟩⟩ H15
 obtain ⟨hk13, hF14, hi16⟩ : k9 ≤ x0.length ∧ R2 (x0.length - k9) k9 d10 = R2 (x0.length - 0) 0 [] ∧ d10.length ≤ 0 + k9 := H15
 let I5 : It := iOwn (tSl tyRow 29) [.slice A11 d10.length c12] d10
 show CM Try.prog 20 _ _ _ _ [(3, .slice A11 d10.length c12), (7, .slice A2 x0.length c3), (8, .int .i64 ((x0.length : Nat) : Int)), (9, .int .i64 ((k9 : Nat) : Int))] [I5]
 refine sr ?_
 refine wv vlss ?_
 refine nt' (CM_seq ?_)
 by_cases hl17 : k9 < x0.length
 ·have g18 := dlT hl17
  refine CM_condT rfl g18 ?_
  refine CM_skip (QM_then (CM_seq (CM_block (sr ?_))))
  obtain ⟨a19, rfl, hb20, he21⟩ := q4 (by omega)
  refine wv (vix 2 k9 underlying39 type29) ?_
  obtain ⟨_, e25, hc22⟩ := he21 k9 _ (gt_some (show k9 < x0.length from by omega))
  obtain ⟨v23, rfl, r24⟩ := tyRow_rd e25
  have l26 : ((gt x0 k9).Values).length ≤ 68719476736 := (s_0.2 _ (gt_mem (show k9 < x0.length from by omega)))
  obtain ⟨m27, A28, c29, rfl, q30, r31⟩ := rdS_op r24
  let K3 : List Value := [.int .i64 ((gt x0 k9).Id), .slice A28 ((gt x0 k9).Values).length c29]
  refine wv (fun W hm => rv_loadN (cs := K3) underlying29 type29 rfl rfl (hm.elCells (show (a19.add (k9 * 2)).block < w.heap.size from by rw [add_block]; exact hb20.1) hc22)) ?_
  refine WM_alloc type29 rfl (Wd_none rfl) (by decide) (fun p32 => ?_)
  refine sb 0 K3 [I5] (fun W hm => hm) type29 ?_
  refine nt' (CM_region (wm ?_))
  refine wv (fun W hm => rv_loadN (cs := K3) underlying29 type29 rfl rfl (hm.boxCells (n := 0) rfl)) ?_
  refine wcs tyRow (gt x0 k9) (cl_fn cb78 rfl) (fun W hm => impl_copyRow_c2 W _ (gt x0 k9) (tyRow_mk (x := (gt x0 k9)) (hm.rdS0 r31)) (s_0.2 _ (gt_mem (show k9 < x0.length from by omega)))) (fun z33 => ?_)
  refine tyRow_sp ?_
  rintro v34 rfl
  refine WM_form (n := 0) rfl ?_
  rintro A35 c36 rfl m37
  let K4 : List Value := [.int .i64 ((gt x0 k9).Id), .slice A35 ((gt x0 k9).Values).length c36]
  refine WM_build (cs := K4) underlying39 type29 rfl (by decide) (by decide) rfl (by kernel_rfl) (Wd_none rfl) (by decide) (fun p39 => ?_)
  refine ap1 tyRow 29 (.slice A11 d10.length c12) d10 (gt x0 k9) [iOwn (tSl tInt 3) [.slice A35 ((gt x0 k9).Values).length c36] ((gt x0 k9).Values)] [iBox p32 29 K3] K4 (pk [0, 3, 1, 2]) (fun _ _ hs => Els.single (tyRow_join (x := (gt x0 k9)) hs)) underlying39 type29 (show (d10.length + 1) * 32 ≤ 140737488355328 from by omega) (fun v40 => ?_)
  refine WM_form (n := 0) rfl ?_
  rintro A41 c42 rfl m43
  refine wa (WM_nil (QM_block_normal (QM_then (CM_region ?_))))
  refine wv (vadN k9 1 (by omega)) ?_
  refine wm (WM_nil ?_)
  have hn45 := rng_next (R := (List DRow)) (body := F1) (k := k9) (s := d10) (s' := (d10 ++ [(gt x0 k9)])) (show k9 < x0.length from by omega) (rfl) hF14
  exact QM_round (k9 + 1, (d10 ++ [(gt x0 k9)]), (A41, c42)) sl4 (pk [0]) ⟨(by omega), hn45, (show (d10 ++ [(gt x0 k9)]).length ≤ 0 + (k9 + 1) from by first | omega | (simp only [List.length_append, List.length_cons, List.length_nil] at *; omega))⟩ (rl (by omega))
 ·have g18 := dlF hl17
  refine CM_condF rfl g18 ?_
  refine CM_exit (QM_then_exit (QM_then_exit ?_))
  have hE46 : R2 (x0.length - 0) 0 [] = Sum.inr d10 := rng_end hl17 hF14
  refine QM_block_hit (QM_then (sr (wm (wa (nt' (CM_ret ?_))))))
  have he47 := (show impl_copyRows_m x0 = d10 from fin_inr hE46 (rfl))
  refine QM_r1 rfl (RR_tmp rfl) (fun W hm => ⟨.slice A11 d10.length c12, ?_, ?_⟩)
  ·first | rw [he47] | rfl
  ·rw [he47]; exact hm
theorem impl_copyRows_eq (x0 : (List DRow)) : impl_copyRows_m x0 = x0 := by
 unfold impl_copyRows_m; rw [rng_app (xs := x0) (b := fun k s => impl_copyRows_b1 x0 k s) (fun _ _ => rfl)]; rfl
theorem impl_copyRows_c2 (w : World) (z0 : Value) (x0 : (List DRow)) (r_0 : rdS tyRow w w.heap.size z0 x0) (s_0 : (x0.length ≤ 68719476736 ∧ ∀ y ∈ x0, smRow 68719476736 y)) :
  Calls Try.prog 59 #[z0] w fun e w' => ∃ v : Value, e = .returned (v) ∧ Mem w.heap.size w [iOwn (tSl tyRow 29) [v] x0] w' := by
 have h := impl_copyRows_c w z0 x0 r_0 s_0
 rw [impl_copyRows_eq] at h
 exact h

def cmp_isNaN_int_m (x0 : Int) : Bool :=
 (x0 != x0)
theorem cb90 : Cb Try.prog 90 := ⟨f90, _, func90, rfl, by decide⟩
theorem cmp_isNaN_int_c (w : World) (x0 : Int) :
  Calls Try.prog 90 #[.int .i64 x0] w fun e w' => e = .returned (.bool (cmp_isNaN_int_m x0)) ∧ Below w.heap.size w w' := by
 refine ce1 (L := [(0, .int .i64 x0)]) (N := 6) func90 ?_
 refine sr (wa (nt' (sr (wm (wm ?_)))))
 refine wv vneq ?_
 refine wa (nt' (CM_ret ?_))
 exact rtb (h := rfl)

def cmp_Compare_int_m (x0 : Int) (x1 : Int) : Int :=
 cond (cmp_isNaN_int_m x0) (cond (cmp_isNaN_int_m x1) 0 (-1)) (cond (cmp_isNaN_int_m x1) 1 (cond (decide (x0 < x1)) (-1) (cond (decide (x1 < x0)) 1 0)))
theorem cb80 : Cb Try.prog 80 := ⟨f80, _, func80, rfl, by decide⟩
theorem cmp_Compare_int_c (w : World) (x0 : Int) (x1 : Int) :
  Calls Try.prog 80 #[.int .i64 x0, .int .i64 x1] w fun e w' => e = .returned (.int .i64 (cmp_Compare_int_m x0 x1)) ∧ Below w.heap.size w w' := by
 refine ce2 (L := [(0, .int .i64 x0), (1, .int .i64 x1)]) (N := 20) func80 ?_
 refine sr (wa (nt' (sr (wm ?_))))
 refine wcv (cl_fn cb90 rfl) (fun W hm => cmp_isNaN_int_c W x0) ?_
 refine wa (nt' (sr (wm ?_)))
 refine wcv (cl_fn cb90 rfl) (fun W hm => cmp_isNaN_int_c W x1) ?_
 refine wa (nt' (CM_seq (sr (wm (nt' ?_)))))
 rcases Bool.eq_false_or_eq_true (cmp_isNaN_int_m x0) with g2 | g2
 ·
  refine CM_condT rfl g2 ?_
  refine CM_seq (sr (wm (nt' ?_)))
  rcases Bool.eq_false_or_eq_true (cmp_isNaN_int_m x1) with g4 | g4
  ·
   refine CM_condT rfl g4 ?_
   refine sr (wa (nt' (CM_ret (QM_then_ret (QM_then_ret ?_)))))
   exact rti (h := cond_t g2 (cond_t g4 (rfl)))
  ·
   refine CM_condF rfl g4 ?_
   refine CM_skip (QM_then (sr (wa (nt' (CM_ret (QM_then_ret ?_))))))
   exact rti (h := cond_t g2 (cond_f g4 (rfl)))
 ·
  refine CM_condF rfl g2 ?_
  refine CM_skip (QM_then (CM_seq (sr (wm (nt' ?_)))))
  rcases Bool.eq_false_or_eq_true (cmp_isNaN_int_m x1) with g6 | g6
  ·
   refine CM_condT rfl g6 ?_
   refine sr (wa (nt' (CM_ret (QM_then_ret ?_))))
   exact rti (h := cond_f g2 (cond_t g6 (rfl)))
  ·
   refine CM_condF rfl g6 ?_
   refine CM_skip (QM_then (CM_seq (sr (wm (wm ?_)))))
   refine wv vlss ?_
   refine nt' ?_
   by_cases h7 : x0 < x1
   ·have g8 := decide_eq_true h7
    refine CM_condT rfl g8 ?_
    refine sr (wa (nt' (CM_ret (QM_then_ret ?_))))
    exact rti (h := cond_f g2 (cond_f g6 (cond_t g8 (rfl))))
   ·have g8 := decide_eq_false h7
    refine CM_condF rfl g8 ?_
    refine CM_skip (QM_then (CM_seq (sr (wm (wm ?_)))))
    refine wv (fun W hm => rv_gtr rfl rfl) ?_
    refine nt' ?_
    by_cases h9 : x1 < x0
    ·have g10 := decide_eq_true h9
     refine CM_condT rfl g10 ?_
     refine sr (wa (nt' (CM_ret (QM_then_ret ?_))))
     exact rti (h := cond_f g2 (cond_f g6 (cond_f g8 (cond_t g10 (rfl)))))
    ·have g10 := decide_eq_false h9
     refine CM_condF rfl g10 ?_
     refine CM_skip (QM_then (sr (wa (nt' (CM_ret ?_)))))
     exact rti (h := cond_f g2 (cond_f g6 (cond_f g8 (cond_f g10 (rfl)))))

def slices_Compare_int_b1 (x0 : (List Int)) (x1 : (List Int)) (k11 : Nat) : Int ⊕ (Unit) :=
 cond (decide (((x1.length : Nat) : Int) ≤ ((k11 : Nat) : Int))) (Sum.inl 1) (cond ((cmp_Compare_int_m (gt x0 k11) (gt x1 k11)) != 0) (Sum.inl (cmp_Compare_int_m (gt x0 k11) (gt x1 k11))) (Sum.inr ()))
def slices_Compare_int_m (x0 : (List Int)) (x1 : (List Int)) : Int :=
 Sum.elim id (fun (s : Unit) => cond (decide (((x0.length : Nat) : Int) < ((x1.length : Nat) : Int))) (-1) 0) (rng (R := Int) (fun k (_ : Unit) => slices_Compare_int_b1 x0 x1 k) (x0.length - 0) 0 ())
theorem cb62 : Cb Try.prog 62 := ⟨f62, _, func62, rfl, by decide⟩
theorem slices_Compare_int_c (w : World) (z0 : Value) (x0 : (List Int)) (z1 : Value) (x1 : (List Int)) (r_0 : rdS tInt w w.heap.size z0 x0) (r_1 : rdS tInt w w.heap.size z1 x1) :
  Calls Try.prog 62 #[z0, z1] w fun e w' => e = .returned (.int .i64 (slices_Compare_int_m x0 x1)) ∧ Below w.heap.size w w' := by
 obtain ⟨m1, A2, c3, rfl, q4, r5⟩ := rdS_op r_0
 obtain ⟨m6, A7, c8, rfl, q9, r10⟩ := rdS_op r_1
 refine ce2 (L := [(0, .slice A2 x0.length c3), (1, .slice A7 x1.length c8)]) (N := 36) func62 ?_
 refine sr (wa (nt' (CM_seq (sr (wm ?_)))))
 refine wv (vlen underlying27) ?_
 refine wm (nt' (CM_block ?_))
 let F1 := fun k (_ : Unit) => slices_Compare_int_b1 x0 x1 k
 let R2 := rng (R := Int) F1
 refine CM_loop (σ := Nat × (Unit) × (Unit)) (fun s => [(0, .slice A2 x0.length c3), (1, .slice A7 x1.length c8), (9, .slice A2 x0.length c3), (10, .int .i64 ((x0.length : Nat) : Int)), (11, .int .i64 ((s.1 : Nat) : Int))]) (fun s => []) (fun s => s.1 ≤ x0.length ∧ R2 (x0.length - s.1) s.1 s.2.1 = R2 (x0.length - 0) 0 ()) (fun s => x0.length - s.1) (0, (), ()) sl5 (fun W hm => hm) ⟨(by omega), rfl⟩ ?_
 rintro ⟨k11, ⟨⟩, ⟨⟩⟩ H14
 obtain ⟨hk12, hF13⟩ : k11 ≤ x0.length ∧ R2 (x0.length - k11) k11 () = R2 (x0.length - 0) 0 () := H14
 show CM Try.prog 36 _ _ _ _ [(0, .slice A2 x0.length c3), (1, .slice A7 x1.length c8), (9, .slice A2 x0.length c3), (10, .int .i64 ((x0.length : Nat) : Int)), (11, .int .i64 ((k11 : Nat) : Int))] []
 refine sr ?_
 refine wv vlss ?_
 refine nt' (CM_seq ?_)
 by_cases hl15 : k11 < x0.length
 ·have g16 := dlT hl15
  refine CM_condT rfl g16 ?_
  refine CM_skip (QM_then (CM_seq (CM_block (sr (wm ?_)))))
  obtain ⟨a17, rfl, hb18, he19⟩ := q4 (by omega)
  refine wv (vix 1 k11 underlying27 type3) ?_
  refine wv (fun W hm => rv_load underlying3 rfl rfl ((hm.cell0 (show (a17.add (k11 * 1)).block < w.heap.size from by rw [add_block]; exact hb18.1)).trans (rdS_int he19 k11 (by omega)))) ?_
  refine wa (wa (nt' (CM_seq (sr (wm (wm ?_))))))
  refine wv (vlen underlying27) ?_
  refine wv (fun W hm => rv_geq rfl rfl) ?_
  refine nt' ?_
  by_cases h20 : ((x1.length : Nat) : Int) ≤ ((k11 : Nat) : Int)
  ·have g21 := decide_eq_true h20
   refine CM_condT rfl g21 ?_
   refine sr (wa (nt' (CM_ret (QM_then_ret (QM_block_ret (QM_then_ret (QM_then_ret (QM_block_ret (QM_then_ret ?_)))))))))
   exact rti (h := fin_inl (rng_ret (body := F1) (k := k11) (s := ()) (show k11 < x0.length from by omega) (cond_t g21 (rfl)) hF13) rfl)
  ·have g21 := decide_eq_false h20
   refine CM_condF rfl g21 ?_
   refine CM_skip (QM_then (sr (wm (wm ?_))))
   obtain ⟨a22, rfl, hb23, he24⟩ := q9 (by omega)
   refine wv (vix 1 k11 underlying27 type3) ?_
   refine wv (fun W hm => rv_load underlying3 rfl rfl ((hm.cell0 (show (a22.add (k11 * 1)).block < w.heap.size from by rw [add_block]; exact hb23.1)).trans (rdS_int he24 k11 (by omega)))) ?_
   refine wa (nt' (sr (wm (wm ?_))))
   refine wcv (cl_fn cb80 rfl) (fun W hm => cmp_Compare_int_c W (gt x0 k11) (gt x1 k11)) ?_
   refine wa (nt' (sr (wm ?_)))
   refine wv vneq ?_
   refine nt' ?_
   by_cases h25 : (cmp_Compare_int_m (gt x0 k11) (gt x1 k11)) = 0
   ·have g26 : ((cmp_Compare_int_m (gt x0 k11) (gt x1 k11)) != 0) = false := by rw [h25]; exact bne_self_eq_false _
    refine CM_condF rfl g26 ?_
    refine CM_skip (QM_block_normal (QM_then (CM_region ?_)))
    refine wv (vadN k11 1 (by omega)) ?_
    refine wm (WM_nil ?_)
    have hn27 := rng_next (R := Int) (body := F1) (k := k11) (s := ()) (s' := ()) (show k11 < x0.length from by omega) (cond_f g21 (cond_f g26 (rfl))) hF13
    exact QM_round (k11 + 1, (), ()) sl5 (fun W hm => hm) ⟨(by omega), hn27⟩ (rl (by omega))
   ·have g26 : ((cmp_Compare_int_m (gt x0 k11) (gt x1 k11)) != 0) = true := bne_iff_ne.2 h25
    refine CM_condT rfl g26 ?_
    refine sr (wm (wa (nt' (CM_ret (QM_block_ret (QM_then_ret (QM_then_ret (QM_block_ret (QM_then_ret ?_)))))))))
    exact rti (h := fin_inl (rng_ret (body := F1) (k := k11) (s := ()) (show k11 < x0.length from by omega) (cond_f g21 (cond_t g26 (rfl))) hF13) rfl)
 ·have g16 := dlF hl15
  refine CM_condF rfl g16 ?_
  refine CM_exit (QM_then_exit (QM_then_exit ?_))
  have hE28 : R2 (x0.length - 0) 0 () = Sum.inr () := rng_end hl15 hF13
  refine QM_block_hit (QM_then (CM_seq (sr (wm ?_))))
  refine wv (vlen underlying27) ?_
  refine wm ?_
  refine wv (vlen underlying27) ?_
  refine wv vlss ?_
  refine nt' ?_
  by_cases h29 : ((x0.length : Nat) : Int) < ((x1.length : Nat) : Int)
  ·have g30 := decide_eq_true h29
   refine CM_condT rfl g30 ?_
   refine sr (wa (nt' (CM_ret (QM_then_ret ?_))))
   exact rti (h := fin_inr hE28 (cond_t g30 (rfl)))
  ·have g30 := decide_eq_false h29
   refine CM_condF rfl g30 ?_
   refine CM_skip (QM_then (sr (wa (nt' (CM_ret ?_)))))
   exact rti (h := fin_inr hE28 (cond_f g30 (rfl)))

def impl_SortRows_1_m (x0 : DRow) (x1 : DRow) : Int :=
 cond (decide (x0.Id < x1.Id)) (-1) (cond (decide (x1.Id < x0.Id)) 1 (slices_Compare_int_m x0.Values x1.Values))
theorem cb61 : Cb Try.prog 61 := ⟨f61, _, func61, rfl, by decide⟩
theorem impl_SortRows_1_c (w : World) (z0 : List Value) (x0 : DRow) (z1 : List Value) (x1 : DRow) (r_0 : tyRow.rd w w.heap.size z0 x0) (r_1 : tyRow.rd w w.heap.size z1 x1) :
  Calls Try.prog 61 #[.agg z0.toArray, .agg z1.toArray] w fun e w' => e = .returned (.int .i64 (impl_SortRows_1_m x0 x1)) ∧ Below w.heap.size w w' := by
 obtain ⟨v1, rfl, r2⟩ := tyRow_rd r_0
 obtain ⟨m3, A4, c5, rfl, q6, r7⟩ := rdS_op r2
 obtain ⟨v8, rfl, r9⟩ := tyRow_rd r_1
 obtain ⟨m10, A11, c12, rfl, q13, r14⟩ := rdS_op r9
 refine ce2 (L := [(0, .agg #[.int .i64 x0.Id, .slice A4 x0.Values.length c5]), (1, .agg #[.int .i64 x1.Id, .slice A11 x1.Values.length c12])]) (N := 22) func61 ?_
 refine sr ?_
 refine WM_box rfl (Wd_none rfl) (by decide) (fun p15 => ?_)
 refine WM_box rfl (Wd_none rfl) (by decide) (fun p16 => ?_)
 refine wa (nt' (CM_seq (CM_block (sr ?_))))
 refine wv (vf underlying29 rfl type3) ?_
 refine wv (vl 1 0 underlying3) ?_
 refine wv (vf underlying29 rfl type3) ?_
 refine wv (vl 0 0 underlying3) ?_
 refine wv vlss ?_
 refine wa (nt' ?_)
 by_cases h17 : x0.Id < x1.Id
 ·have g18 := decide_eq_true h17
  refine CM_condT rfl g18 ?_
  refine sr (wa (nt' (CM_ret (QM_block_ret (QM_then_ret ?_)))))
  exact rti (h := cond_t g18 (rfl))
 ·have g18 := decide_eq_false h17
  refine CM_condF rfl g18 ?_
  refine sr ?_
  refine wv (vf underlying29 rfl type3) ?_
  refine wv (vl 1 0 underlying3) ?_
  refine wv (vf underlying29 rfl type3) ?_
  refine wv (vl 0 0 underlying3) ?_
  refine wv (fun W hm => rv_gtr rfl rfl) ?_
  refine wa (nt' ?_)
  by_cases h19 : x1.Id < x0.Id
  ·have g20 := decide_eq_true h19
   refine CM_condT rfl g20 ?_
   refine sr (wa (nt' (CM_ret (QM_block_ret (QM_then_ret ?_)))))
   exact rti (h := cond_f g18 (cond_t g20 (rfl)))
  ·have g20 := decide_eq_false h19
   refine CM_condF rfl g20 ?_
   refine CM_skip (QM_block_normal (QM_then (sr ?_)))
   refine wv (vf underlying29 rfl type27) ?_
   refine wv (vl 1 1 underlying27) ?_
   refine wv (vf underlying29 rfl type27) ?_
   refine wv (vl 0 1 underlying27) ?_
   refine wcv (cl_fn cb62 rfl) (fun W hm => slices_Compare_int_c W _ x0.Values _ x1.Values (hm.rdS0 r7) (hm.rdS0 r14)) ?_
   refine wa (nt' (CM_ret ?_))
   exact rti (h := cond_f g18 (cond_f g20 (rfl)))

theorem cb92 : Cb Try.prog 92 := ⟨f92, _, func92, rfl, by decide⟩
theorem srt60_swr_c {α : Type} [Inhabited α] (K : Ck α) (hK : K.s = 2) (cf : α → α → Int) (fc : FuncId) (B : Nat) (w0 : World) (is : List It) (H : CmpOk Try.prog fc K B w0 is cf) (A : Option Addr) (n c : Nat) (hn : n ≤ 68719476736) (a : Nat) (b : Nat) (k : Nat) (xs : List (List Value × α)) (h1 : a + k ≤ n) (h2 : b + k ≤ n) (w : World) (hm : Mem B w0 (iOwn (tSl (tCk K) 29) [.slice A n c] xs :: is) w) :
  Calls Try.prog 92 #[.slice A n c, .int .i64 ((a : Nat) : Int), .int .i64 ((b : Nat) : Int), .int .i64 ((k : Nat) : Int), .func (.func fc) #[] #[]] w fun e w' => e = .returned (.tuple #[]) ∧ Mem B w0 (iOwn (tSl (tCk K) 29) [.slice A n c] (swr k a b xs) :: is) w' := by
 refine call_enterW (L := [(0, .slice A n c), (1, .int .i64 ((a : Nat) : Int)), (2, .int .i64 ((b : Nat) : Int)), (3, .int .i64 ((k : Nat) : Int)), (4, .func (.func fc) #[] #[])]) (N := 38) func92 rfl rfl (Nat.le_of_ble_eq_true rfl) (argsL_cons rfl (argsL_cons rfl (argsL_cons rfl (argsL_cons rfl (argsL_cons rfl argsL_nil))))) hm ?_
 refine sr (wa (nt' (CM_block ?_)))
 refine CM_loop (σ := Nat × List (List Value × α)) (fun s => [(0, .slice A n c), (1, .int .i64 ((a : Nat) : Int)), (2, .int .i64 ((b : Nat) : Int)), (3, .int .i64 ((k : Nat) : Int)), (10, .int .i64 ((s.1 : Nat) : Int))]) (fun s => (iOwn (tSl (tCk K) 29) [.slice A n c] s.2 :: is)) (fun s => swr (k - s.1) (a + s.1) (b + s.1) s.2 = swr k a b xs ∧ s.1 ≤ k) (fun s => k - s.1) (0, xs) sl5 (fun W hm => hm) ⟨(show swr (k - 0) (a + 0) (b + 0) xs = swr k a b xs from rfl), (show 0 ≤ k from by omega)⟩ ?_
 rintro ⟨i, d⟩ H1
 obtain ⟨hF, hi⟩ : swr (k - i) (a + i) (b + i) d = swr k a b xs ∧ i ≤ k := H1
 show CM Try.prog 38 _ _ _ _ [(0, .slice A n c), (1, .int .i64 ((a : Nat) : Int)), (2, .int .i64 ((b : Nat) : Int)), (3, .int .i64 ((k : Nat) : Int)), (10, .int .i64 ((i : Nat) : Int))] (iOwn (tSl (tCk K) 29) [.slice A n c] d :: is)
 refine CM_seq (sr (wm (wm ?_)))
 refine wv vlss ?_
 refine nt' ?_
 by_cases h2 : ((i : Nat) : Int) < ((k : Nat) : Int)
 ·have g3 := decide_eq_true h2
  refine CM_condT rfl g3 ?_
  refine CM_skip (QM_then (CM_seq (CM_block ?_)))
  refine CM_formO (n := 0) rfl (by omega) ?_
  rintro g5 rfl
  refine CM_ck ?_
  intro hR4
  let I1 : It := iOwn (tSl (tCk K) 29) [.slice (some ⟨g5, 0, none⟩) n c] ((d.set (a + i) (gt d (b + i))).set (b + i) (gt d (a + i)))
  refine CM_cut (σ := Unit) (fun _ => [(0, .slice (some ⟨g5, 0, none⟩) n c), (1, .int .i64 ((a : Nat) : Int)), (2, .int .i64 ((b : Nat) : Int)), (3, .int .i64 ((k : Nat) : Int)), (10, .int .i64 ((i : Nat) : Int))]) (fun _ => (I1 :: is)) (fun _ => True) ?_ ?_
  ·
   refine rb 24 (s := (is)) (fun W hm => (hm).tail) ?_
   refine qt 24 0 1 rfl vmv ?_
   refine qt 24 1 3 rfl vmv ?_
   refine qt 24 2 7 rfl vmv ?_
   refine qt 24 3 15 rfl (vadN a i (by omega)) ?_
   refine qt 24 4 31 rfl vmv ?_
   refine qt 24 5 63 rfl vmv ?_
   refine qt 24 6 127 rfl vmv ?_
   refine qt 24 7 255 rfl (vadN b i (by omega)) ?_
   refine qt 24 8 511 rfl vmv ?_
   refine qt 24 9 1023 rfl vmv ?_
   refine qt 24 10 2047 rfl vmv ?_
   refine qt 24 11 4095 rfl (vadN b i (by omega)) ?_
   refine qt 24 12 8191 rfl (fun W hm => rv_index (sz := K.s) (k := b + i) underlying39 type29 hK.symm rfl rfl (by omega)) ?_
   refine qt 24 14 24575 rfl vmv ?_
   refine qt 24 15 57343 rfl vmv ?_
   refine qt 24 16 122879 rfl vmv ?_
   refine qt 24 17 253951 rfl (vadN a i (by omega)) ?_
   refine qt 24 18 516095 rfl (fun W hm => rv_index (sz := K.s) (k := a + i) underlying39 type29 hK.symm rfl rfl (by omega)) ?_
   refine qa [13, 19] ?_
   refine qc 24 524287 rfl ?_ ?_
   ·
    refine wv (fun W hm => rv_loadCk underlying29 type29 hK.symm rfl hm (by omega)) ?_
    refine qn (fun W hm => (hm).tail) ?_
    refine qo 24 19 1048575 rfl ?_
    refine wv (fun W hm => rv_loadCk underlying29 type29 hK.symm rfl hm (by omega)) ?_
    refine qn (fun W hm => (hm).tail) ?_
    refine qt 24 20 2097151 rfl (fun W hm => rv_index (sz := K.s) (k := a + i) underlying39 type29 hK.symm rfl rfl (by omega)) ?_
    refine qo 24 21 4194303 rfl ?_
    refine WM_setEl (E := tCk K) (e := 29) (u := .agg (gt d (b + i)).1.toArray) (k := (a + i)) (p := g5) (n := n) (xs := d) (eis := []) (js := is) (yv := (gt d (b + i))) (fun W hm => hm) (fun _ _ hs => ⟨hs, rfl, (hR4 (b + i) (by omega))⟩) rfl type29 hK.symm (by omega) rfl rfl (Wd_none rfl) ?_
    refine qn (fun W hm => (hm).tail) ?_
    refine qt 24 22 8388607 rfl (fun W hm => rv_index (sz := K.s) (k := b + i) underlying39 type29 hK.symm rfl rfl (by omega)) ?_
    refine qo 24 23 16777215 rfl ?_
    refine WM_setEl (E := tCk K) (e := 29) (u := .agg (gt d (a + i)).1.toArray) (k := (b + i)) (p := g5) (n := n) (xs := (d.set (a + i) (gt d (b + i)))) (eis := []) (js := is) (yv := (gt d (a + i))) (fun W hm => hm) (fun _ _ hs => ⟨hs, rfl, (hR4 (a + i) (by omega))⟩) rfl type29 hK.symm (by omega) rfl rfl (Wd_none rfl) ?_
    refine qn (fun W hm => (hm).tail) ?_
    refine QB_done (by kernel_rfl) ?_
    exact QM_cut_normal () sl5 (fun W hm => hm) trivial
   refine qc 24 1040383 rfl ?_ ?_
   ·
    refine wv (fun W hm => rv_loadCk underlying29 type29 hK.symm rfl hm (by omega)) ?_
    refine qn (fun W hm => (hm).tail) ?_
    refine qo 24 13 1048575 rfl ?_
    refine wv (fun W hm => rv_loadCk underlying29 type29 hK.symm rfl hm (by omega)) ?_
    refine qn (fun W hm => (hm).tail) ?_
    refine qt 24 20 2097151 rfl (fun W hm => rv_index (sz := K.s) (k := a + i) underlying39 type29 hK.symm rfl rfl (by omega)) ?_
    refine qo 24 21 4194303 rfl ?_
    refine WM_setEl (E := tCk K) (e := 29) (u := .agg (gt d (b + i)).1.toArray) (k := (a + i)) (p := g5) (n := n) (xs := d) (eis := []) (js := is) (yv := (gt d (b + i))) (fun W hm => hm) (fun _ _ hs => ⟨hs, rfl, (hR4 (b + i) (by omega))⟩) rfl type29 hK.symm (by omega) rfl rfl (Wd_none rfl) ?_
    refine qn (fun W hm => (hm).tail) ?_
    refine qt 24 22 8388607 rfl (fun W hm => rv_index (sz := K.s) (k := b + i) underlying39 type29 hK.symm rfl rfl (by omega)) ?_
    refine qo 24 23 16777215 rfl ?_
    refine WM_setEl (E := tCk K) (e := 29) (u := .agg (gt d (a + i)).1.toArray) (k := (b + i)) (p := g5) (n := n) (xs := (d.set (a + i) (gt d (b + i)))) (eis := []) (js := is) (yv := (gt d (a + i))) (fun W hm => hm) (fun _ _ hs => ⟨hs, rfl, (hR4 (a + i) (by omega))⟩) rfl type29 hK.symm (by omega) rfl rfl (Wd_none rfl) ?_
    refine qn (fun W hm => (hm).tail) ?_
    refine QB_done (by kernel_rfl) ?_
    exact QM_cut_normal () sl5 (fun W hm => hm) trivial
   exact QBs_nil
  ·
   rintro ⟨⟩ -
   show QM 38 _ _ _ .normal [(0, .slice (some ⟨g5, 0, none⟩) n c), (1, .int .i64 ((a : Nat) : Int)), (2, .int .i64 ((b : Nat) : Int)), (3, .int .i64 ((k : Nat) : Int)), (10, .int .i64 ((i : Nat) : Int))] (I1 :: is)
   refine QM_block_normal (QM_then (CM_region (wm ?_)))
   refine wv (vadN i 1 (by omega)) ?_
   refine wa (WM_nil ?_)
   exact QM_round (i + 1, ((d.set (a + i) (gt d (b + i))).set (b + i) (gt d (a + i)))) sl5 (fun W hm => hm) ⟨(show swr (k - (i + 1)) (a + (i + 1)) (b + (i + 1)) ((d.set (a + i) (gt d (b + i))).set (b + i) (gt d (a + i))) = swr k a b xs from (swr_step (by omega)).symm.trans hF), (show (i + 1) ≤ k from by omega)⟩ (rl (by omega))
 ·have g3 := decide_eq_false h2
  refine CM_condF rfl g3 ?_
  refine CM_exit (QM_then_exit (QM_then_exit (QM_block_hit ?_)))
  have hE : swr k a b xs = d := ((swr_end (by omega)).symm.trans hF).symm
  exact QM_ret0 rfl (fun W hm => ⟨rfl, by rw [hE]; exact hm⟩)

theorem cb88 : Cb Try.prog 88 := ⟨f88, _, func88, rfl, by decide⟩
theorem srt60_ins_c {α : Type} [Inhabited α] (K : Ck α) (hK : K.s = 2) (cf : α → α → Int) (fc : FuncId) (B : Nat) (w0 : World) (is : List It) (H : CmpOk Try.prog fc K B w0 is cf) (A : Option Addr) (n c : Nat) (hn : n ≤ 68719476736) (a : Nat) (b : Nat) (xs : List (List Value × α)) (h1 : a ≤ n) (h2 : b ≤ n) (w : World) (hm : Mem B w0 (iOwn (tSl (tCk K) 29) [.slice A n c] xs :: is) w) :
  Calls Try.prog 88 #[.slice A n c, .int .i64 ((a : Nat) : Int), .int .i64 ((b : Nat) : Int), .func (.func fc) #[] #[]] w fun e w' => e = .returned (.tuple #[]) ∧ Mem B w0 (iOwn (tSl (tCk K) 29) [.slice A n c] (insL (ltc cf) a (b - a - 1) (a + 1) xs) :: is) w' := by
 refine call_enterW (L := [(0, .slice A n c), (1, .int .i64 ((a : Nat) : Int)), (2, .int .i64 ((b : Nat) : Int)), (3, .func (.func fc) #[] #[])]) (N := 53) func88 rfl rfl (Nat.le_of_ble_eq_true rfl) (argsL_cons rfl (argsL_cons rfl (argsL_cons rfl (argsL_cons rfl argsL_nil)))) hm ?_
 refine sr (wm ?_)
 refine wv (vadN a 1 (by omega)) ?_
 refine wa (nt' (CM_block ?_))
 refine CM_loop (σ := Nat × List (List Value × α)) (fun s => [(0, .slice A n c), (1, .int .i64 ((a : Nat) : Int)), (2, .int .i64 ((b : Nat) : Int)), (3, .func (.func fc) #[] #[]), (8, .int .i64 ((s.1 : Nat) : Int))]) (fun s => (iOwn (tSl (tCk K) 29) [.slice A n c] s.2 :: is)) (fun s => insL (ltc cf) a (b - s.1) s.1 s.2 = insL (ltc cf) a (b - a - 1) (a + 1) xs ∧ a < s.1) (fun s => b - s.1) (a + 1, xs) sl5 (fun W hm => hm) ⟨(show insL (ltc cf) a (b - (a + 1)) (a + 1) xs = insL (ltc cf) a (b - a - 1) (a + 1) xs from by rw [show b - (a + 1) = b - a - 1 by omega]), (show a < (a + 1) from by omega)⟩ ?_
 rintro ⟨i, d⟩ H1
 obtain ⟨hF, hai⟩ : insL (ltc cf) a (b - i) i d = insL (ltc cf) a (b - a - 1) (a + 1) xs ∧ a < i := H1
 show CM Try.prog 53 _ _ _ _ [(0, .slice A n c), (1, .int .i64 ((a : Nat) : Int)), (2, .int .i64 ((b : Nat) : Int)), (3, .func (.func fc) #[] #[]), (8, .int .i64 ((i : Nat) : Int))] (iOwn (tSl (tCk K) 29) [.slice A n c] d :: is)
 refine CM_seq (sr (wm (wm ?_)))
 refine wv vlss ?_
 refine nt' ?_
 by_cases h2 : ((i : Nat) : Int) < ((b : Nat) : Int)
 ·have g3 := decide_eq_true h2
  refine CM_condT rfl g3 ?_
  refine CM_skip (QM_then (CM_seq (CM_block (sr (wm (wa (nt' (CM_block ?_))))))))
  refine CM_loop (σ := Nat × List (List Value × α)) (fun s => [(0, .slice A n c), (1, .int .i64 ((a : Nat) : Int)), (2, .int .i64 ((b : Nat) : Int)), (3, .func (.func fc) #[] #[]), (8, .int .i64 ((i : Nat) : Int)), (9, .int .i64 ((s.1 : Nat) : Int))]) (fun s => (iOwn (tSl (tCk K) 29) [.slice A n c] s.2 :: is)) (fun s => ins1 (ltc cf) a s.1 s.2 = ins1 (ltc cf) a i d ∧ s.1 ≤ i ∧ a ≤ s.1) (fun s => s.1) (i, d) sl6 (fun W hm => hm) ⟨(show ins1 (ltc cf) a i d = ins1 (ltc cf) a i d from rfl), (show i ≤ i from by omega), (show a ≤ i from by omega)⟩ ?_
  rintro ⟨j, e⟩ H4
  obtain ⟨hG, hji, haj⟩ : ins1 (ltc cf) a j e = ins1 (ltc cf) a i d ∧ j ≤ i ∧ a ≤ j := H4
  show CM Try.prog 53 _ _ _ _ [(0, .slice A n c), (1, .int .i64 ((a : Nat) : Int)), (2, .int .i64 ((b : Nat) : Int)), (3, .func (.func fc) #[] #[]), (8, .int .i64 ((i : Nat) : Int)), (9, .int .i64 ((j : Nat) : Int))] (iOwn (tSl (tCk K) 29) [.slice A n c] e :: is)
  refine CM_seq (CM_seq ?_)
  refine CM_formO (n := 0) rfl (by omega) ?_
  rintro g5 rfl
  refine CM_regionD (by kernel_rfl) (by kernel_rfl) ?_
  refine qm (qm ?_)
  refine qv (fun W hm => rv_gtr rfl rfl) ?_
  refine qm ?_
  by_cases h6 : ((a : Nat) : Int) < ((j : Nat) : Int)
  ·have g7 := decide_eq_true h6
   refine qg vmv g7 ?_
   refine qg vmv g7 ?_
   refine qg vmv g7 ?_
   refine qg (fun W hm => rv_index (sz := K.s) (k := j) underlying39 type29 hK.symm rfl rfl (by omega)) g7 ?_
   refine qg (fun W hm => rv_loadCk underlying29 type29 hK.symm rfl hm (by omega)) g7 ?_
   refine qg vmv g7 ?_
   refine qg vmv g7 ?_
   refine qg (fun W hm => rv_subN (p := j) (q := 1) rfl rfl (by omega) (by omega)) g7 ?_
   refine qg (fun W hm => rv_index (sz := K.s) (k := j - 1) underlying39 type29 hK.symm rfl rfl (by omega)) g7 ?_
   refine qg (fun W hm => rv_loadCk underlying29 type29 hK.symm rfl hm (by omega)) g7 ?_
   refine QR_callV (cl_val (first := []) (caps := []) (vs := [.agg (gt e j).1.toArray, .agg (gt e (j - 1)).1.toArray]) (args := [.agg (gt e j).1.toArray, .agg (gt e (j - 1)).1.toArray]) H.cb rfl rfl rfl) (fun W hm => H.go W (gt e j) (gt e (j - 1)) hm.tail (hm.ck (by omega)).1 (hm.ck (by omega)).1) (Wd_some rfl rfl rfl (bw g7 rfl)) (by decide) ?_
   refine qg vlss g7 ?_
   refine qv (vpT g7) ?_
   refine nq' ?_
   by_cases h8 : (cf (gt e j).2 (gt e (j - 1)).2) < 0
   ·have g9 := decide_eq_true h8
    refine CM_condT rfl g9 ?_
    refine CM_skip (QM_then (CM_seq (CM_block (CM_ck ?_))))
    intro hR10
    let I1 : It := iOwn (tSl (tCk K) 29) [.slice (some ⟨g5, 0, none⟩) n c] ((e.set j (gt e (j - 1))).set (j - 1) (gt e j))
    refine CM_cut (σ := Unit) (fun _ => [(0, .slice (some ⟨g5, 0, none⟩) n c), (1, .int .i64 ((a : Nat) : Int)), (2, .int .i64 ((b : Nat) : Int)), (3, .func (.func fc) #[] #[]), (8, .int .i64 ((i : Nat) : Int)), (9, .int .i64 ((j : Nat) : Int))]) (fun _ => (I1 :: is)) (fun _ => True) ?_ ?_
    ·
     refine rb 18 (s := (is)) (fun W hm => (hm).tail) ?_
     refine qt 18 0 1 rfl vmv ?_
     refine qt 18 1 3 rfl vmv ?_
     refine qt 18 2 7 rfl vmv ?_
     refine qt 18 3 15 rfl vmv ?_
     refine qt 18 4 31 rfl (fun W hm => rv_subN (p := j) (q := 1) rfl rfl (by omega) (by omega)) ?_
     refine qt 18 5 63 rfl vmv ?_
     refine qt 18 6 127 rfl vmv ?_
     refine qt 18 7 255 rfl (fun W hm => rv_subN (p := j) (q := 1) rfl rfl (by omega) (by omega)) ?_
     refine qt 18 8 511 rfl (fun W hm => rv_index (sz := K.s) (k := j - 1) underlying39 type29 hK.symm rfl rfl (by omega)) ?_
     refine qt 18 10 1535 rfl vmv ?_
     refine qt 18 11 3583 rfl vmv ?_
     refine qt 18 12 7679 rfl (fun W hm => rv_index (sz := K.s) (k := j) underlying39 type29 hK.symm rfl rfl (by omega)) ?_
     refine qa [9, 13] ?_
     refine qc 18 8191 rfl ?_ ?_
     ·
      refine wv (fun W hm => rv_loadCk underlying29 type29 hK.symm rfl hm (by omega)) ?_
      refine qn (fun W hm => (hm).tail) ?_
      refine qo 18 13 16383 rfl ?_
      refine wv (fun W hm => rv_loadCk underlying29 type29 hK.symm rfl hm (by omega)) ?_
      refine qn (fun W hm => (hm).tail) ?_
      refine qt 18 14 32767 rfl (fun W hm => rv_index (sz := K.s) (k := j) underlying39 type29 hK.symm rfl rfl (by omega)) ?_
      refine qo 18 15 65535 rfl ?_
      refine WM_setEl (E := tCk K) (e := 29) (u := .agg (gt e (j - 1)).1.toArray) (k := j) (p := g5) (n := n) (xs := e) (eis := []) (js := is) (yv := (gt e (j - 1))) (fun W hm => hm) (fun _ _ hs => ⟨hs, rfl, (hR10 (j - 1) (by omega))⟩) rfl type29 hK.symm (by omega) rfl rfl (Wd_none rfl) ?_
      refine qn (fun W hm => (hm).tail) ?_
      refine qt 18 16 131071 rfl (fun W hm => rv_index (sz := K.s) (k := j - 1) underlying39 type29 hK.symm rfl rfl (by omega)) ?_
      refine qo 18 17 262143 rfl ?_
      refine WM_setEl (E := tCk K) (e := 29) (u := .agg (gt e j).1.toArray) (k := (j - 1)) (p := g5) (n := n) (xs := (e.set j (gt e (j - 1)))) (eis := []) (js := is) (yv := (gt e j)) (fun W hm => hm) (fun _ _ hs => ⟨hs, rfl, (hR10 j (by omega))⟩) rfl type29 hK.symm (by omega) rfl rfl (Wd_none rfl) ?_
      refine qn (fun W hm => (hm).tail) ?_
      refine QB_done (by kernel_rfl) ?_
      exact QM_cut_normal () sl6 (fun W hm => hm) trivial
     refine qc 18 15871 rfl ?_ ?_
     ·
      refine wv (fun W hm => rv_loadCk underlying29 type29 hK.symm rfl hm (by omega)) ?_
      refine qn (fun W hm => (hm).tail) ?_
      refine qo 18 9 16383 rfl ?_
      refine wv (fun W hm => rv_loadCk underlying29 type29 hK.symm rfl hm (by omega)) ?_
      refine qn (fun W hm => (hm).tail) ?_
      refine qt 18 14 32767 rfl (fun W hm => rv_index (sz := K.s) (k := j) underlying39 type29 hK.symm rfl rfl (by omega)) ?_
      refine qo 18 15 65535 rfl ?_
      refine WM_setEl (E := tCk K) (e := 29) (u := .agg (gt e (j - 1)).1.toArray) (k := j) (p := g5) (n := n) (xs := e) (eis := []) (js := is) (yv := (gt e (j - 1))) (fun W hm => hm) (fun _ _ hs => ⟨hs, rfl, (hR10 (j - 1) (by omega))⟩) rfl type29 hK.symm (by omega) rfl rfl (Wd_none rfl) ?_
      refine qn (fun W hm => (hm).tail) ?_
      refine qt 18 16 131071 rfl (fun W hm => rv_index (sz := K.s) (k := j - 1) underlying39 type29 hK.symm rfl rfl (by omega)) ?_
      refine qo 18 17 262143 rfl ?_
      refine WM_setEl (E := tCk K) (e := 29) (u := .agg (gt e j).1.toArray) (k := (j - 1)) (p := g5) (n := n) (xs := (e.set j (gt e (j - 1)))) (eis := []) (js := is) (yv := (gt e j)) (fun W hm => hm) (fun _ _ hs => ⟨hs, rfl, (hR10 j (by omega))⟩) rfl type29 hK.symm (by omega) rfl rfl (Wd_none rfl) ?_
      refine qn (fun W hm => (hm).tail) ?_
      refine QB_done (by kernel_rfl) ?_
      exact QM_cut_normal () sl6 (fun W hm => hm) trivial
     exact QBs_nil
    ·
     rintro ⟨⟩ -
     show QM 53 _ _ _ .normal [(0, .slice (some ⟨g5, 0, none⟩) n c), (1, .int .i64 ((a : Nat) : Int)), (2, .int .i64 ((b : Nat) : Int)), (3, .func (.func fc) #[] #[]), (8, .int .i64 ((i : Nat) : Int)), (9, .int .i64 ((j : Nat) : Int))] (I1 :: is)
     refine QM_block_normal (QM_then (CM_region (wm ?_)))
     refine wv (fun W hm => rv_subN (p := j) (q := 1) rfl rfl (by omega) (by omega)) ?_
     refine wa (WM_nil ?_)
     exact QM_round (j - 1, ((e.set j (gt e (j - 1))).set (j - 1) (gt e j))) sl6 (fun W hm => hm) ⟨(show ins1 (ltc cf) a (j - 1) ((e.set j (gt e (j - 1))).set (j - 1) (gt e j)) = ins1 (ltc cf) a i d from (ins1_t (by omega) (show decide (cf (gt e j).2 (gt e (j - 1)).2 < 0) = true from decide_eq_true (by omega))).symm.trans hG), (show (j - 1) ≤ i from by omega), (show a ≤ (j - 1) from by omega)⟩ (show (j - 1) < j from by omega)
   ·have g9 := decide_eq_false h8
    refine CM_condF rfl g9 ?_
    refine CM_exit (QM_then_exit (QM_then_exit (QM_block_hit (QM_block_normal (QM_then (CM_region (wm ?_)))))))
    refine wv (vadN i 1 (by omega)) ?_
    refine wa (WM_nil ?_)
    exact QM_round (i + 1, e) sl5 (fun W hm => hm) ⟨(show insL (ltc cf) a (b - (i + 1)) (i + 1) e = insL (ltc cf) a (b - a - 1) (a + 1) xs from (congrArg (insL (ltc cf) a (b - (i + 1)) (i + 1)) ((ins1_f (by rintro ⟨q1, q2⟩; have q3 := of_decide_eq_true (p := cf (gt e j).2 (gt e (j - 1)).2 < 0) q2; omega)).symm.trans hG)).trans ((insL_step (by omega)).symm.trans hF)), (show a < (i + 1) from by omega)⟩ (rl (by omega))
  ·have g7 := decide_eq_false h6
   refine qs g7 ?_
   refine qs g7 ?_
   refine qs g7 ?_
   refine qs g7 ?_
   refine qs g7 ?_
   refine qs g7 ?_
   refine qs g7 ?_
   refine qs g7 ?_
   refine qs g7 ?_
   refine qs g7 ?_
   refine qs g7 ?_
   refine qs g7 ?_
   refine qv (vpF g7) ?_
   refine nq' ?_
   refine CM_condF rfl rfl ?_
   refine CM_exit (QM_then_exit (QM_then_exit (QM_block_hit (QM_block_normal (QM_then (CM_region (wm ?_)))))))
   refine wv (vadN i 1 (by omega)) ?_
   refine wa (WM_nil ?_)
   exact QM_round (i + 1, e) sl5 (fun W hm => hm) ⟨(show insL (ltc cf) a (b - (i + 1)) (i + 1) e = insL (ltc cf) a (b - a - 1) (a + 1) xs from (congrArg (insL (ltc cf) a (b - (i + 1)) (i + 1)) ((ins1_f (by rintro ⟨q1, q2⟩; have q3 := of_decide_eq_true (p := cf (gt e j).2 (gt e (j - 1)).2 < 0) q2; omega)).symm.trans hG)).trans ((insL_step (by omega)).symm.trans hF)), (show a < (i + 1) from by omega)⟩ (rl (by omega))
 ·have g3 := decide_eq_false h2
  refine CM_condF rfl g3 ?_
  refine CM_exit (QM_then_exit (QM_then_exit (QM_block_hit ?_)))
  have hE : insL (ltc cf) a (b - a - 1) (a + 1) xs = d := ((insL_end (by omega)).symm.trans hF).symm
  exact QM_ret0 rfl (fun W hm => ⟨rfl, by rw [hE]; exact hm⟩)

end Go.Proofs.Ytglapeecbnaipaa
