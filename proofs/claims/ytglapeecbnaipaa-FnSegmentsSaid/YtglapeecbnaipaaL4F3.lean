/-
  Contracts of functions, printed by a program of ours.
-/
import Derived.Test.YtglapeecbnaipaaL4F2
namespace Go.Proofs.Ytglapeecbnaipaa
open Go.RowKit
set_option maxRecDepth 100000
set_option maxHeartbeats 4000000
open _root_.Go.Proofs.Try
def impl_IsStore_b3 (x0 : DStore) (k16 : Nat) (k41 : Nat) (d42 : (List DVersion)) (k77 : Nat) : Bool ⊕ (Unit) :=
 cond (((gt (gt x0.Segments k16) k41).Id) == ((gt d42 k77).Id)) (cond (impl_meetInTime_m (gt (gt x0.Segments k16) k41) (gt d42 k77)) (Sum.inl false) (Sum.inr ())) (Sum.inr ())
def impl_IsStore_b4 (x0 : DStore) (k16 : Nat) (k41 : Nat) (d42 : (List DVersion)) (k112 : Nat) : Bool ⊕ (Unit) :=
 cond (((gt (gt x0.Segments k16) k41).Id) == ((gt d42 k112).Id)) (cond (impl_meetInTime_m (gt (gt x0.Segments k16) k41) (gt d42 k112)) (Sum.inl false) (Sum.inr ())) (Sum.inr ())
def impl_IsStore_b2 (x0 : DStore) (k16 : Nat) (k41 : Nat) (d42 : (List DVersion)) : Bool ⊕ ((List DVersion)) :=
 cond (impl_IsRow_m (impl_rowOf_m (gt (gt x0.Segments k16) k41))) (cond (impl_within_m ((gt (gt x0.Segments k16) k41).Born) 0 x0.Now) (cond (((gt (gt x0.Segments k16) k41).Died) != (-1)) (cond (impl_within_m ((gt (gt x0.Segments k16) k41).Died) (IntKind.i64.wrap (((gt (gt x0.Segments k16) k41).Born) + 1)) x0.Now) (Sum.elim Sum.inl (fun (s : Unit) => Sum.inr (d42 ++ [(gt (gt x0.Segments k16) k41)])) (rng (R := Bool) (fun k (_ : Unit) => impl_IsStore_b4 x0 k16 k41 d42 k) (d42.length - 0) 0 ())) (Sum.inl false)) (Sum.elim Sum.inl (fun (s : Unit) => Sum.inr (d42 ++ [(gt (gt x0.Segments k16) k41)])) (rng (R := Bool) (fun k (_ : Unit) => impl_IsStore_b3 x0 k16 k41 d42 k) (d42.length - 0) 0 ()))) (Sum.inl false)) (Sum.inl false)
def impl_IsStore_b1 (x0 : DStore) (k16 : Nat) (d17 : (List DVersion)) : Bool ⊕ ((List DVersion)) :=
 cond (decide (4 < ((((gt x0.Segments k16)).length : Nat) : Int))) (Sum.inl false) (Sum.elim Sum.inl (fun (s : (List DVersion)) => Sum.inr s) (rng (R := Bool) (fun k (s : (List DVersion)) => impl_IsStore_b2 x0 k16 k s) (((gt x0.Segments k16)).length - 0) 0 d17))
def impl_IsStore_m (x0 : DStore) : Bool :=
 cond (impl_within_m ((x0.Segments.length : Nat) : Int) 1 8) (cond (impl_within_m x0.Now 0 100000) (Sum.elim id (fun (s : (List DVersion)) => true) (rng (R := Bool) (fun k (s : (List DVersion)) => impl_IsStore_b1 x0 k s) (x0.Segments.length - 0) 0 [])) false) false
theorem cb11 : Cb Try.prog 11 := ⟨f11, _, func11, rfl, by decide⟩
theorem impl_IsStore_c (w : World) (z0 : List Value) (x0 : DStore) (r_0 : tyStore.rd w w.heap.size z0 x0) (s_0 : smStore 68719476736 x0) :
  Calls Try.prog 11 #[.agg z0.toArray] w fun e w' => e = .returned (.bool (impl_IsStore_m x0)) ∧ Below w.heap.size w w' := by
 obtain ⟨v1, rfl, r2⟩ := tyStore_rd r_0
 obtain ⟨m3, A4, c5, rfl, q6, r7⟩ := rdS_op r2
 have l8 : x0.Segments.length ≤ 68719476736 := s_0.1
 refine ce1 (L := [(0, .agg #[.slice A4 x0.Segments.length c5, .int .i64 x0.Now])]) (N := 89) func11 ?_
 refine sr ?_
 refine WM_box rfl (Wd_none rfl) (by decide) (fun p9 => ?_)
 refine wa (nt' (CM_seq (sr ?_)))
 refine wv (vf underlying26 rfl type24) ?_
 refine wv (vl 0 0 underlying24) ?_
 refine wv (vlen underlying24) ?_
 refine wcv (cl_fn cb46 rfl) (fun W hm => impl_within_c W ((x0.Segments.length : Nat) : Int) 1 8) ?_
 refine wv vnot ?_
 refine wm ?_
 rcases Bool.eq_false_or_eq_true (impl_within_m ((x0.Segments.length : Nat) : Int) 1 8) with g11 | g11
 ·
  have hw := impl_within_fact g11
  refine wg (vf underlying26 rfl type3) (nt g11) ?_
  refine wg (vl 0 1 underlying3) (nt g11) ?_
  refine WM_callV (cl_fn cb46 rfl) (fun W hm => impl_within_c W x0.Now 0 100000) (Wd_some rfl rfl rfl (bw (nt g11) rfl)) (by decide) ?_
  refine wg vnot (nt g11) ?_
  refine wv (vpF (nt g11)) ?_
  refine nt' ?_
  rcases Bool.eq_false_or_eq_true (impl_within_m x0.Now 0 100000) with g13 | g13
  ·
   have hw := impl_within_fact g13
   refine CM_condF rfl (nt g13) ?_
   refine CM_skip (QM_then (sr ?_))
   refine WM_build0 (E := (tBor tyVersion w w.heap.size)) underlying72 type51 (Wd_none rfl) (by decide) (fun p14 => ?_)
   refine wa (nt' (CM_seq (sr ?_)))
   refine wv (vf underlying26 rfl type24) ?_
   refine wv (vl 1 0 underlying24) ?_
   refine wv (vlen underlying24) ?_
   refine wm (nt' (CM_block ?_))
   let F1 := fun k (s : (List DVersion)) => impl_IsStore_b1 x0 k s
   let R5 := rng (R := Bool) F1
   let I14 : It := iBox p9 26 [.slice A4 x0.Segments.length c5, .int .i64 x0.Now]
   refine CM_loop (σ := Nat × ((List DVersion)) × (Option Addr × Nat)) (fun s => [(1, .pointer (some (⟨p9, 0, none⟩ : Addr))), (3, .slice s.2.2.1 s.2.1.length s.2.2.2), (23, .slice A4 x0.Segments.length c5), (24, .int .i64 ((x0.Segments.length : Nat) : Int)), (25, .int .i64 ((s.1 : Nat) : Int))]) (fun s => [iOwn (tSl (tBor tyVersion w w.heap.size) 51) [.slice s.2.2.1 s.2.1.length s.2.2.2] s.2.1, I14]) (fun s => s.1 ≤ x0.Segments.length ∧ R5 (x0.Segments.length - s.1) s.1 s.2.1 = R5 (x0.Segments.length - 0) 0 [] ∧ s.2.1.length ≤ 0 + 4 * s.1) (fun s => x0.Segments.length - s.1) (0, [], ((some ⟨p14, 0, none⟩), 0)) sl5 (fun W hm => hm) ⟨(by omega), rfl, Nat.le_refl _⟩ ?_
   rintro ⟨k16, d17, ⟨A18, c19⟩⟩ H22
   obtain ⟨hk20, hF21, hi23⟩ : k16 ≤ x0.Segments.length ∧ R5 (x0.Segments.length - k16) k16 d17 = R5 (x0.Segments.length - 0) 0 [] ∧ d17.length ≤ 0 + 4 * k16 := H22
   show CM Try.prog 89 _ _ _ _ [(1, .pointer (some (⟨p9, 0, none⟩ : Addr))), (3, .slice A18 d17.length c19), (23, .slice A4 x0.Segments.length c5), (24, .int .i64 ((x0.Segments.length : Nat) : Int)), (25, .int .i64 ((k16 : Nat) : Int))] [iOwn (tSl (tBor tyVersion w w.heap.size) 51) [.slice A18 d17.length c19] d17, I14]
   refine sr ?_
   refine wv vlss ?_
   refine nt' (CM_seq ?_)
   by_cases hl24 : k16 < x0.Segments.length
   ·have g25 := dlT hl24
    refine CM_condT rfl g25 ?_
    refine CM_skip (QM_then (CM_seq (CM_block (sr ?_))))
    obtain ⟨a26, rfl, hb27, he28⟩ := q6 (by omega)
    refine wv (vix 1 k16 underlying24 type72) ?_
    obtain ⟨_, e30, hc29⟩ := he28 k16 _ (gt_some (show k16 < x0.Segments.length from by omega))
    have l31 : (gt x0.Segments k16).length ≤ 68719476736 := (s_0.2 _ (gt_mem (show k16 < x0.Segments.length from by omega))).1
    obtain ⟨v32, rfl, r33⟩ := e30
    obtain ⟨m34, A35, c36, rfl, q37, r38⟩ := rdS_op r33
    refine wv (fun W hm => rv_load underlying72 rfl rfl ((hm.cell0 (show (a26.add (k16 * 1)).block < w.heap.size from by rw [add_block]; exact hb27.1)).trans (hc29 0 _ rfl))) ?_
    refine wa (nt' (CM_seq (sr (wm ?_))))
    refine wv (vlen underlying72) ?_
    refine wv (fun W hm => rv_gtr rfl rfl) ?_
    refine nt' ?_
    by_cases h39 : 4 < ((((gt x0.Segments k16)).length : Nat) : Int)
    ·have g40 := decide_eq_true h39
     refine CM_condT rfl g40 ?_
     refine sr (wa (nt' (CM_ret (QM_then_ret (QM_block_ret (QM_then_ret (QM_then_ret (QM_block_ret (QM_then_ret ?_)))))))))
     exact rtb (h := cond_t g11 (cond_t g13 (fin_inl (rng_ret (body := F1) (k := k16) (s := d17) (show k16 < x0.Segments.length from by omega) (cond_t g40 (rfl)) hF21) rfl)))
    ·have g40 := decide_eq_false h39
     refine CM_condF rfl g40 ?_
     refine CM_skip (QM_then (sr (wm ?_)))
     refine wv (vlen underlying72) ?_
     refine wm (nt' (CM_block ?_))
     let F2 := fun k (s : (List DVersion)) => impl_IsStore_b2 x0 k16 k s
     let R6 := rng (R := Bool) F2
     let I15 : It := iBox p9 26 [.slice (some a26) x0.Segments.length c5, .int .i64 x0.Now]
     refine CM_loop (σ := Nat × ((List DVersion)) × (Option Addr × Nat)) (fun s => [(1, .pointer (some (⟨p9, 0, none⟩ : Addr))), (3, .slice s.2.2.1 s.2.1.length s.2.2.2), (23, .slice (some a26) x0.Segments.length c5), (24, .int .i64 ((x0.Segments.length : Nat) : Int)), (25, .int .i64 ((k16 : Nat) : Int)), (32, .slice A35 ((gt x0.Segments k16)).length c36), (33, .int .i64 ((((gt x0.Segments k16)).length : Nat) : Int)), (34, .int .i64 ((s.1 : Nat) : Int))]) (fun s => [iOwn (tSl (tBor tyVersion w w.heap.size) 51) [.slice s.2.2.1 s.2.1.length s.2.2.2] s.2.1, I15]) (fun s => s.1 ≤ ((gt x0.Segments k16)).length ∧ R6 (((gt x0.Segments k16)).length - s.1) s.1 s.2.1 = R6 (((gt x0.Segments k16)).length - 0) 0 d17 ∧ s.2.1.length ≤ d17.length + s.1) (fun s => ((gt x0.Segments k16)).length - s.1) (0, d17, (A18, c19)) sl8 (fun W hm => hm) ⟨(by omega), rfl, Nat.le_refl _⟩ ?_
     rintro ⟨k41, d42, ⟨A43, c44⟩⟩ H47
     obtain ⟨hk45, hF46, hi48⟩ : k41 ≤ ((gt x0.Segments k16)).length ∧ R6 (((gt x0.Segments k16)).length - k41) k41 d42 = R6 (((gt x0.Segments k16)).length - 0) 0 d17 ∧ d42.length ≤ d17.length + k41 := H47
     let I16 : It := iOwn (tSl (tBor tyVersion w w.heap.size) 51) [.slice A43 d42.length c44] d42
     show CM Try.prog 89 _ _ _ _ [(1, .pointer (some (⟨p9, 0, none⟩ : Addr))), (3, .slice A43 d42.length c44), (23, .slice (some a26) x0.Segments.length c5), (24, .int .i64 ((x0.Segments.length : Nat) : Int)), (25, .int .i64 ((k16 : Nat) : Int)), (32, .slice A35 ((gt x0.Segments k16)).length c36), (33, .int .i64 ((((gt x0.Segments k16)).length : Nat) : Int)), (34, .int .i64 ((k41 : Nat) : Int))] [I16, I15]
     refine sr ?_
     refine wv vlss ?_
     refine nt' (CM_seq ?_)
     by_cases hl49 : k41 < ((gt x0.Segments k16)).length
     ·have g50 := dlT hl49
      refine CM_condT rfl g50 ?_
      refine CM_skip (QM_then (CM_seq (CM_block (sr ?_))))
      obtain ⟨a51, rfl, hb52, he53⟩ := q37 (by omega)
      refine wv (vix 4 k41 underlying72 type51) ?_
      obtain ⟨_, e57, hc54⟩ := he53 k41 _ (gt_some (show k41 < ((gt x0.Segments k16)).length from by omega))
      obtain ⟨v55, rfl, r56⟩ := tyVersion_rd e57
      have l58 : ((gt (gt x0.Segments k16) k41).Values).length ≤ 68719476736 := ((s_0.2 _ (gt_mem (show k16 < x0.Segments.length from by omega))).2 _ (gt_mem (show k41 < ((gt x0.Segments k16)).length from by omega)))
      obtain ⟨m59, A60, c61, rfl, q62, r63⟩ := rdS_op r56
      let K9 : List Value := [.int .i64 ((gt (gt x0.Segments k16) k41).Id), .slice A60 ((gt (gt x0.Segments k16) k41).Values).length c61, .int .i64 ((gt (gt x0.Segments k16) k41).Born), .int .i64 ((gt (gt x0.Segments k16) k41).Died)]
      refine wv (fun W hm => rv_loadN (cs := K9) underlying51 type51 rfl rfl (hm.elCells (show (a51.add (k41 * 4)).block < w.heap.size from by rw [add_block]; exact hb52.1) hc54)) ?_
      refine WM_alloc type51 rfl (Wd_none rfl) (by decide) (fun p64 => ?_)
      refine sb 0 K9 [I16, I15] (fun W hm => hm) type51 ?_
      refine nt' (CM_seq (sr ?_))
      refine wv (fun W hm => rv_loadN (cs := K9) underlying51 type51 rfl rfl (hm.boxCells (n := 0) rfl)) ?_
      refine wcs tyRow (impl_rowOf_m (gt (gt x0.Segments k16) k41)) (cl_fn cb48 rfl) (fun W hm => impl_rowOf_c W _ (gt (gt x0.Segments k16) k41) (tyVersion_mk (x := (gt (gt x0.Segments k16) k41)) (hm.rdS0 r63)) ((s_0.2 _ (gt_mem (show k16 < x0.Segments.length from by omega))).2 _ (gt_mem (show k41 < ((gt x0.Segments k16)).length from by omega)))) (fun z65 => ?_)
      refine tyRow_sp ?_
      rintro v66 rfl
      refine WM_form (n := 0) rfl ?_
      rintro A67 c68 rfl m69
      refine wcv (cl_fn cb47 rfl) (fun W hm => impl_IsRow_c W _ (impl_rowOf_m (gt (gt x0.Segments k16) k41)) (tyRow_mk (x := (impl_rowOf_m (gt (gt x0.Segments k16) k41))) (hm.rdSI (n := 0) rfl))) ?_
      refine wv vnot ?_
      refine wm ?_
      rcases Bool.eq_false_or_eq_true (impl_IsRow_m (impl_rowOf_m (gt (gt x0.Segments k16) k41))) with g72 | g72
      ·
       refine wg (vf underlying51 rfl type3) (nt g72) ?_
       refine wg (vl 1 2 underlying3) (nt g72) ?_
       refine wg (vf underlying26 rfl type3) (nt g72) ?_
       refine wg (vl 3 1 underlying3) (nt g72) ?_
       refine WM_callV (cl_fn cb46 rfl) (fun W hm => impl_within_c W ((gt (gt x0.Segments k16) k41).Born) 0 x0.Now) (Wd_some rfl rfl rfl (bw (nt g72) rfl)) (by decide) ?_
       refine wg vnot (nt g72) ?_
       refine wv (vpF (nt g72)) ?_
       refine wm ?_
       rcases Bool.eq_false_or_eq_true (impl_within_m ((gt (gt x0.Segments k16) k41).Born) 0 x0.Now) with g74 | g74
       ·
        have hw := impl_within_fact g74
        refine wg (vf underlying51 rfl type3) (nt g74) ?_
        refine wg (vl 1 3 underlying3) (nt g74) ?_
        refine wg vneq (nt g74) ?_
        refine wg vmv (nt g74) ?_
        by_cases h75 : ((gt (gt x0.Segments k16) k41).Died) = (-1)
        ·have g76 : (((gt (gt x0.Segments k16) k41).Died) != (-1)) = false := by rw [h75]; exact bne_self_eq_false _
         refine ws g76 ?_
         refine ws g76 ?_
         refine ws g76 ?_
         refine ws g76 ?_
         refine ws g76 ?_
         refine ws g76 ?_
         refine ws g76 ?_
         refine ws g76 ?_
         refine ws g76 ?_
         refine wg (vpF g76) (nt g74) ?_
         refine wv (vpF (nt g74)) ?_
         refine nt' ?_
         refine CM_condF rfl rfl ?_
         refine CM_skip (QM_then (CM_seq (sr (wm ?_))))
         refine wv (vlen underlying72) ?_
         refine wm (nt' (CM_block ?_))
         let F3 := fun k (_ : Unit) => impl_IsStore_b3 x0 k16 k41 d42 k
         let R7 := rng (R := Bool) F3
         let K10 : List Value := [.slice A67 ((impl_rowOf_m (gt (gt x0.Segments k16) k41)).Values).length c68]
         let I17 : It := iOwn (tSl tInt 3) K10 ((impl_rowOf_m (gt (gt x0.Segments k16) k41)).Values)
         refine CM_loop (σ := Nat × (Unit) × (Unit)) (fun s => [(1, .pointer (some (⟨p9, 0, none⟩ : Addr))), (3, .slice A43 d42.length c44), (7, .pointer (some (⟨p64, 0, none⟩ : Addr))), (23, .slice (some a26) x0.Segments.length c5), (24, .int .i64 ((x0.Segments.length : Nat) : Int)), (25, .int .i64 ((k16 : Nat) : Int)), (32, .slice (some a51) ((gt x0.Segments k16)).length c36), (33, .int .i64 ((((gt x0.Segments k16)).length : Nat) : Int)), (34, .int .i64 ((k41 : Nat) : Int)), (66, .slice A43 d42.length c44), (67, .int .i64 ((d42.length : Nat) : Int)), (68, .int .i64 ((s.1 : Nat) : Int))]) (fun s => [I17, iBox p64 51 K9, I16, I15]) (fun s => s.1 ≤ d42.length ∧ R7 (d42.length - s.1) s.1 s.2.1 = R7 (d42.length - 0) 0 ()) (fun s => d42.length - s.1) (0, (), ()) sl12 (fun W hm => hm) ⟨(by omega), rfl⟩ ?_
         rintro ⟨k77, ⟨⟩, ⟨⟩⟩ H80
         obtain ⟨hk78, hF79⟩ : k77 ≤ d42.length ∧ R7 (d42.length - k77) k77 () = R7 (d42.length - 0) 0 () := H80
         show CM Try.prog 89 _ _ _ _ [(1, .pointer (some (⟨p9, 0, none⟩ : Addr))), (3, .slice A43 d42.length c44), (7, .pointer (some (⟨p64, 0, none⟩ : Addr))), (23, .slice (some a26) x0.Segments.length c5), (24, .int .i64 ((x0.Segments.length : Nat) : Int)), (25, .int .i64 ((k16 : Nat) : Int)), (32, .slice (some a51) ((gt x0.Segments k16)).length c36), (33, .int .i64 ((((gt x0.Segments k16)).length : Nat) : Int)), (34, .int .i64 ((k41 : Nat) : Int)), (66, .slice A43 d42.length c44), (67, .int .i64 ((d42.length : Nat) : Int)), (68, .int .i64 ((k77 : Nat) : Int))] [I17, iBox p64 51 K9, I16, I15]
         refine sr ?_
         refine wv vlss ?_
         refine nt' (CM_seq ?_)
         by_cases hl81 : k77 < d42.length
         ·have g82 := dlT hl81
          refine CM_condT rfl g82 ?_
          refine CM_skip (QM_then (CM_seq (CM_block (sr ?_))))
          refine WM_formO (n := 2) rfl (by omega) ?_
          rintro g83 rfl
          refine wv (vix 4 k77 underlying72 type51) ?_
          refine WM_expose (T := tyVersion) (wb := w) (Bb := w.heap.size) (e := 51) (g := g83) (n := d42.length) (c := c44) (xs := d42) (js := [I17, iBox p64 51 K9, I15]) (pk [2, 0, 1, 3]) ?_
          rintro ck84 rk85
          obtain ⟨_, e86, hc87⟩ := rk85.get (j := k77) (by omega)
          obtain ⟨v88, rfl, r89⟩ := tyVersion_rd e86
          obtain ⟨m90, A91, c92, rfl, q93, r94⟩ := rdS_op r89
          let K11 : List Value := [.int .i64 ((gt d42 k77).Id), .slice A91 ((gt d42 k77).Values).length c92, .int .i64 ((gt d42 k77).Born), .int .i64 ((gt d42 k77).Died)]
          refine wv (fun W hm => rv_loadN (cs := K11) underlying51 type51 rfl rfl (hm.rowCells (i := 0) rfl hc87)) ?_
          refine WM_alloc type51 rfl (Wd_none rfl) (by decide) (fun p95 => ?_)
          refine sb 0 K11 [iBox g83 51 ck84, I17, iBox p64 51 K9, I15] (fun W hm => hm) type51 ?_
          refine nt' (sr ?_)
          refine wv (vf underlying51 rfl type3) ?_
          refine wv (vl 3 0 underlying3) ?_
          refine wv (vf underlying51 rfl type3) ?_
          refine wv (vl 0 0 underlying3) ?_
          refine wv (fun W hm => rv_eql rfl rfl) ?_
          refine wm ?_
          by_cases h96 : ((gt (gt x0.Segments k16) k41).Id) = ((gt d42 k77).Id)
          ·have g97 := beq_iff_eq.2 h96
           refine wg (fun W hm => rv_loadN (cs := K9) underlying51 type51 rfl rfl (hm.boxCells (n := 3) rfl)) g97 ?_
           refine wg (fun W hm => rv_loadN (cs := K11) underlying51 type51 rfl rfl (hm.boxCells (n := 0) rfl)) g97 ?_
           refine WM_callV (cl_fn cb49 rfl) (fun W hm => impl_meetInTime_c W _ (gt (gt x0.Segments k16) k41) _ (gt d42 k77) (tyVersion_mk (x := (gt (gt x0.Segments k16) k41)) (hm.rdS0 r63)) (tyVersion_mk (x := (gt d42 k77)) (hm.rdS0 r94))) (Wd_some rfl rfl rfl (bw g97 rfl)) (by decide) ?_
           refine wv (vpT g97) ?_
           refine nt' ?_
           rcases Bool.eq_false_or_eq_true (impl_meetInTime_m (gt (gt x0.Segments k16) k41) (gt d42 k77)) with g99 | g99
           ·
            refine CM_condT rfl g99 ?_
            refine sr (wa (nt' (CM_ret (QM_block_ret (QM_then_ret (QM_then_ret (QM_block_ret (QM_then_ret (QM_block_ret (QM_then_ret (QM_then_ret (QM_block_ret (QM_block_ret (QM_then_ret (QM_then_ret (QM_block_ret (QM_then_ret ?_)))))))))))))))))
            refine QM_items (fun W hm => Mem.hide rk85 (hm.pick [1, 0, 2, 3, 4] (by decide))) ?_
            exact rtb (h := cond_t g11 (cond_t g13 (fin_inl (rng_ret (body := F1) (k := k16) (s := d17) (show k16 < x0.Segments.length from by omega) (cond_f g40 (fin_inl (rng_ret (body := F2) (k := k41) (s := d42) (show k41 < ((gt x0.Segments k16)).length from by omega) (cond_t g72 (cond_t g74 (cond_f g76 (fin_inl (rng_ret (body := F3) (k := k77) (s := ()) (show k77 < d42.length from by omega) (cond_t g97 (cond_t g99 (rfl))) hF79) rfl)))) hF46) rfl)) hF21) rfl)))
           ·
            refine CM_condF rfl g99 ?_
            refine CM_skip (QM_block_normal (QM_then (CM_region ?_)))
            refine wv (vadN k77 1 (by omega)) ?_
            refine wm (WM_nil ?_)
            refine QM_items (fun W hm => Mem.hide rk85 (hm.pick [1, 0, 2, 3, 4] (by decide))) ?_
            have hn100 := rng_next (R := Bool) (body := F3) (k := k77) (s := ()) (s' := ()) (show k77 < d42.length from by omega) (cond_t g97 (cond_f g99 (rfl))) hF79
            exact QM_round (k77 + 1, (), ()) sl12 (pk [2, 3, 0, 4]) ⟨(by omega), hn100⟩ (rl (by omega))
          ·have g97 := beq_eq_false_iff_ne.2 h96
           refine ws g97 ?_
           refine ws g97 ?_
           refine ws g97 ?_
           refine wv (vpF g97) ?_
           refine nt' ?_
           refine CM_condF rfl rfl ?_
           refine CM_skip (QM_block_normal (QM_then (CM_region ?_)))
           refine wv (vadN k77 1 (by omega)) ?_
           refine wm (WM_nil ?_)
           refine QM_items (fun W hm => Mem.hide rk85 (hm.pick [1, 0, 2, 3, 4] (by decide))) ?_
           have hn101 := rng_next (R := Bool) (body := F3) (k := k77) (s := ()) (s' := ()) (show k77 < d42.length from by omega) (cond_f g97 (rfl)) hF79
           exact QM_round (k77 + 1, (), ()) sl12 (pk [2, 3, 0, 4]) ⟨(by omega), hn101⟩ (rl (by omega))
         ·have g82 := dlF hl81
          refine CM_condF rfl g82 ?_
          refine CM_exit (QM_then_exit (QM_then_exit ?_))
          have hE102 : R7 (d42.length - 0) 0 () = Sum.inr () := rng_end hl81 hF79
          refine QM_block_hit (QM_then (CM_region (wm ?_)))
          refine wv (fun W hm => rv_loadN (cs := K9) underlying51 type51 rfl rfl (hm.boxCells (n := 1) rfl)) ?_
          refine WM_build (cs := K9) underlying72 type51 rfl (by decide) (by decide) rfl (by kernel_rfl) (Wd_none rfl) (by decide) (fun p103 => ?_)
          refine ap1 (tBor tyVersion w w.heap.size) 51 (.slice A43 d42.length c44) d42 (gt (gt x0.Segments k16) k41) [] [I17, iBox p64 51 K9, I15] K9 (pk [0, 3, 1, 2, 4]) (fun _ _ hs => by cases (Sep.nil hs); exact (els_cons (E := (tBor tyVersion w w.heap.size)) (L1 := []) ⟨rfl, (tyVersion_mk r63)⟩ els_nil)) underlying72 type51 (show (d42.length + 1) * 48 ≤ 140737488355328 from by omega) (fun v104 => ?_)
          refine WM_form (n := 0) rfl ?_
          rintro A105 c106 rfl m107
          refine wa (WM_nil (QM_block_normal (QM_then (CM_region ?_))))
          refine wv (vadN k41 1 (by omega)) ?_
          refine wm (WM_nil ?_)
          have hn109 := rng_next (R := Bool) (body := F2) (k := k41) (s := d42) (s' := (d42 ++ [(gt (gt x0.Segments k16) k41)])) (show k41 < ((gt x0.Segments k16)).length from by omega) (cond_t g72 (cond_t g74 (cond_f g76 (fin_inr hE102 (rfl))))) hF46
          exact QM_round (k41 + 1, (d42 ++ [(gt (gt x0.Segments k16) k41)]), (A105, c106)) sl8 (pk [0, 3]) ⟨(by omega), hn109, (show (d42 ++ [(gt (gt x0.Segments k16) k41)]).length ≤ d17.length + (k41 + 1) from by first | omega | (simp only [List.length_append, List.length_cons, List.length_nil] at *; omega))⟩ (show ((gt x0.Segments k16)).length - (k41 + 1) < ((gt x0.Segments k16)).length - k41 from by omega)
        ·have g76 : (((gt (gt x0.Segments k16) k41).Died) != (-1)) = true := bne_iff_ne.2 h75
         refine wg (vf underlying51 rfl type3) g76 ?_
         refine wg (vl 1 3 underlying3) g76 ?_
         refine wg (vf underlying51 rfl type3) g76 ?_
         refine wg (vl 1 2 underlying3) g76 ?_
         refine wg vadd g76 ?_
         refine wg (vf underlying26 rfl type3) g76 ?_
         refine wg (vl 3 1 underlying3) g76 ?_
         refine WM_callV (cl_fn cb46 rfl) (fun W hm => impl_within_c W ((gt (gt x0.Segments k16) k41).Died) (IntKind.i64.wrap (((gt (gt x0.Segments k16) k41).Born) + 1)) x0.Now) (Wd_some rfl rfl rfl (bw g76 rfl)) (by decide) ?_
         refine wg vnot g76 ?_
         refine wg (vpT g76) (nt g74) ?_
         refine wv (vpF (nt g74)) ?_
         refine nt' ?_
         rcases Bool.eq_false_or_eq_true (impl_within_m ((gt (gt x0.Segments k16) k41).Died) (IntKind.i64.wrap (((gt (gt x0.Segments k16) k41).Born) + 1)) x0.Now) with g111 | g111
         ·
          have hw := impl_within_fact g111
          refine CM_condF rfl (nt g111) ?_
          refine CM_skip (QM_then (CM_seq (sr (wm ?_))))
          refine wv (vlen underlying72) ?_
          refine wm (nt' (CM_block ?_))
          let F4 := fun k (_ : Unit) => impl_IsStore_b4 x0 k16 k41 d42 k
          let R8 := rng (R := Bool) F4
          let K12 : List Value := [.slice A67 ((impl_rowOf_m (gt (gt x0.Segments k16) k41)).Values).length c68]
          let I18 : It := iOwn (tSl tInt 3) K12 ((impl_rowOf_m (gt (gt x0.Segments k16) k41)).Values)
          refine CM_loop (σ := Nat × (Unit) × (Unit)) (fun s => [(1, .pointer (some (⟨p9, 0, none⟩ : Addr))), (3, .slice A43 d42.length c44), (7, .pointer (some (⟨p64, 0, none⟩ : Addr))), (23, .slice (some a26) x0.Segments.length c5), (24, .int .i64 ((x0.Segments.length : Nat) : Int)), (25, .int .i64 ((k16 : Nat) : Int)), (32, .slice (some a51) ((gt x0.Segments k16)).length c36), (33, .int .i64 ((((gt x0.Segments k16)).length : Nat) : Int)), (34, .int .i64 ((k41 : Nat) : Int)), (66, .slice A43 d42.length c44), (67, .int .i64 ((d42.length : Nat) : Int)), (68, .int .i64 ((s.1 : Nat) : Int))]) (fun s => [I18, iBox p64 51 K9, I16, I15]) (fun s => s.1 ≤ d42.length ∧ R8 (d42.length - s.1) s.1 s.2.1 = R8 (d42.length - 0) 0 ()) (fun s => d42.length - s.1) (0, (), ()) sl12 (fun W hm => hm) ⟨(by omega), rfl⟩ ?_
          rintro ⟨k112, ⟨⟩, ⟨⟩⟩ H115
          obtain ⟨hk113, hF114⟩ : k112 ≤ d42.length ∧ R8 (d42.length - k112) k112 () = R8 (d42.length - 0) 0 () := H115
          show CM Try.prog 89 _ _ _ _ [(1, .pointer (some (⟨p9, 0, none⟩ : Addr))), (3, .slice A43 d42.length c44), (7, .pointer (some (⟨p64, 0, none⟩ : Addr))), (23, .slice (some a26) x0.Segments.length c5), (24, .int .i64 ((x0.Segments.length : Nat) : Int)), (25, .int .i64 ((k16 : Nat) : Int)), (32, .slice (some a51) ((gt x0.Segments k16)).length c36), (33, .int .i64 ((((gt x0.Segments k16)).length : Nat) : Int)), (34, .int .i64 ((k41 : Nat) : Int)), (66, .slice A43 d42.length c44), (67, .int .i64 ((d42.length : Nat) : Int)), (68, .int .i64 ((k112 : Nat) : Int))] [I18, iBox p64 51 K9, I16, I15]
          refine sr ?_
          refine wv vlss ?_
          refine nt' (CM_seq ?_)
          by_cases hl116 : k112 < d42.length
          ·have g117 := dlT hl116
           refine CM_condT rfl g117 ?_
           refine CM_skip (QM_then (CM_seq (CM_block (sr ?_))))
           refine WM_formO (n := 2) rfl (by omega) ?_
           rintro g118 rfl
           refine wv (vix 4 k112 underlying72 type51) ?_
           refine WM_expose (T := tyVersion) (wb := w) (Bb := w.heap.size) (e := 51) (g := g118) (n := d42.length) (c := c44) (xs := d42) (js := [I18, iBox p64 51 K9, I15]) (pk [2, 0, 1, 3]) ?_
           rintro ck119 rk120
           obtain ⟨_, e121, hc122⟩ := rk120.get (j := k112) (by omega)
           obtain ⟨v123, rfl, r124⟩ := tyVersion_rd e121
           obtain ⟨m125, A126, c127, rfl, q128, r129⟩ := rdS_op r124
           let K13 : List Value := [.int .i64 ((gt d42 k112).Id), .slice A126 ((gt d42 k112).Values).length c127, .int .i64 ((gt d42 k112).Born), .int .i64 ((gt d42 k112).Died)]
           refine wv (fun W hm => rv_loadN (cs := K13) underlying51 type51 rfl rfl (hm.rowCells (i := 0) rfl hc122)) ?_
           refine WM_alloc type51 rfl (Wd_none rfl) (by decide) (fun p130 => ?_)
           refine sb 0 K13 [iBox g118 51 ck119, I18, iBox p64 51 K9, I15] (fun W hm => hm) type51 ?_
           refine nt' (sr ?_)
           refine wv (vf underlying51 rfl type3) ?_
           refine wv (vl 3 0 underlying3) ?_
           refine wv (vf underlying51 rfl type3) ?_
           refine wv (vl 0 0 underlying3) ?_
           refine wv (fun W hm => rv_eql rfl rfl) ?_
           refine wm ?_
           by_cases h131 : ((gt (gt x0.Segments k16) k41).Id) = ((gt d42 k112).Id)
           ·have g132 := beq_iff_eq.2 h131
            refine wg (fun W hm => rv_loadN (cs := K9) underlying51 type51 rfl rfl (hm.boxCells (n := 3) rfl)) g132 ?_
            refine wg (fun W hm => rv_loadN (cs := K13) underlying51 type51 rfl rfl (hm.boxCells (n := 0) rfl)) g132 ?_
            refine WM_callV (cl_fn cb49 rfl) (fun W hm => impl_meetInTime_c W _ (gt (gt x0.Segments k16) k41) _ (gt d42 k112) (tyVersion_mk (x := (gt (gt x0.Segments k16) k41)) (hm.rdS0 r63)) (tyVersion_mk (x := (gt d42 k112)) (hm.rdS0 r129))) (Wd_some rfl rfl rfl (bw g132 rfl)) (by decide) ?_
            refine wv (vpT g132) ?_
            refine nt' ?_
            rcases Bool.eq_false_or_eq_true (impl_meetInTime_m (gt (gt x0.Segments k16) k41) (gt d42 k112)) with g134 | g134
            ·
             refine CM_condT rfl g134 ?_
             refine sr (wa (nt' (CM_ret (QM_block_ret (QM_then_ret (QM_then_ret (QM_block_ret (QM_then_ret (QM_block_ret (QM_then_ret (QM_then_ret (QM_block_ret (QM_block_ret (QM_then_ret (QM_then_ret (QM_block_ret (QM_then_ret ?_)))))))))))))))))
             refine QM_items (fun W hm => Mem.hide rk120 (hm.pick [1, 0, 2, 3, 4] (by decide))) ?_
             exact rtb (h := cond_t g11 (cond_t g13 (fin_inl (rng_ret (body := F1) (k := k16) (s := d17) (show k16 < x0.Segments.length from by omega) (cond_f g40 (fin_inl (rng_ret (body := F2) (k := k41) (s := d42) (show k41 < ((gt x0.Segments k16)).length from by omega) (cond_t g72 (cond_t g74 (cond_t g76 (cond_t g111 (fin_inl (rng_ret (body := F4) (k := k112) (s := ()) (show k112 < d42.length from by omega) (cond_t g132 (cond_t g134 (rfl))) hF114) rfl))))) hF46) rfl)) hF21) rfl)))
            ·
             refine CM_condF rfl g134 ?_
             refine CM_skip (QM_block_normal (QM_then (CM_region ?_)))
             refine wv (vadN k112 1 (by omega)) ?_
             refine wm (WM_nil ?_)
             refine QM_items (fun W hm => Mem.hide rk120 (hm.pick [1, 0, 2, 3, 4] (by decide))) ?_
             have hn135 := rng_next (R := Bool) (body := F4) (k := k112) (s := ()) (s' := ()) (show k112 < d42.length from by omega) (cond_t g132 (cond_f g134 (rfl))) hF114
             exact QM_round (k112 + 1, (), ()) sl12 (pk [2, 3, 0, 4]) ⟨(by omega), hn135⟩ (rl (by omega))
           ·have g132 := beq_eq_false_iff_ne.2 h131
            refine ws g132 ?_
            refine ws g132 ?_
            refine ws g132 ?_
            refine wv (vpF g132) ?_
            refine nt' ?_
            refine CM_condF rfl rfl ?_
            refine CM_skip (QM_block_normal (QM_then (CM_region ?_)))
            refine wv (vadN k112 1 (by omega)) ?_
            refine wm (WM_nil ?_)
            refine QM_items (fun W hm => Mem.hide rk120 (hm.pick [1, 0, 2, 3, 4] (by decide))) ?_
            have hn136 := rng_next (R := Bool) (body := F4) (k := k112) (s := ()) (s' := ()) (show k112 < d42.length from by omega) (cond_f g132 (rfl)) hF114
            exact QM_round (k112 + 1, (), ()) sl12 (pk [2, 3, 0, 4]) ⟨(by omega), hn136⟩ (rl (by omega))
          ·have g117 := dlF hl116
           refine CM_condF rfl g117 ?_
           refine CM_exit (QM_then_exit (QM_then_exit ?_))
           have hE137 : R8 (d42.length - 0) 0 () = Sum.inr () := rng_end hl116 hF114
           refine QM_block_hit (QM_then (CM_region (wm ?_)))
           refine wv (fun W hm => rv_loadN (cs := K9) underlying51 type51 rfl rfl (hm.boxCells (n := 1) rfl)) ?_
           refine WM_build (cs := K9) underlying72 type51 rfl (by decide) (by decide) rfl (by kernel_rfl) (Wd_none rfl) (by decide) (fun p138 => ?_)
           refine ap1 (tBor tyVersion w w.heap.size) 51 (.slice A43 d42.length c44) d42 (gt (gt x0.Segments k16) k41) [] [I18, iBox p64 51 K9, I15] K9 (pk [0, 3, 1, 2, 4]) (fun _ _ hs => by cases (Sep.nil hs); exact (els_cons (E := (tBor tyVersion w w.heap.size)) (L1 := []) ⟨rfl, (tyVersion_mk r63)⟩ els_nil)) underlying72 type51 (show (d42.length + 1) * 48 ≤ 140737488355328 from by omega) (fun v139 => ?_)
           refine WM_form (n := 0) rfl ?_
           rintro A140 c141 rfl m142
           refine wa (WM_nil (QM_block_normal (QM_then (CM_region ?_))))
           refine wv (vadN k41 1 (by omega)) ?_
           refine wm (WM_nil ?_)
           have hn144 := rng_next (R := Bool) (body := F2) (k := k41) (s := d42) (s' := (d42 ++ [(gt (gt x0.Segments k16) k41)])) (show k41 < ((gt x0.Segments k16)).length from by omega) (cond_t g72 (cond_t g74 (cond_t g76 (cond_t g111 (fin_inr hE137 (rfl)))))) hF46
           exact QM_round (k41 + 1, (d42 ++ [(gt (gt x0.Segments k16) k41)]), (A140, c141)) sl8 (pk [0, 3]) ⟨(by omega), hn144, (show (d42 ++ [(gt (gt x0.Segments k16) k41)]).length ≤ d17.length + (k41 + 1) from by first | omega | (simp only [List.length_append, List.length_cons, List.length_nil] at *; omega))⟩ (show ((gt x0.Segments k16)).length - (k41 + 1) < ((gt x0.Segments k16)).length - k41 from by omega)
         ·
          refine CM_condT rfl (nf g111) ?_
          refine sr (wa (nt' (CM_ret (QM_then_ret (QM_block_ret (QM_then_ret (QM_then_ret (QM_block_ret (QM_block_ret (QM_then_ret (QM_then_ret (QM_block_ret (QM_then_ret ?_)))))))))))))
          exact rtb (h := cond_t g11 (cond_t g13 (fin_inl (rng_ret (body := F1) (k := k16) (s := d17) (show k16 < x0.Segments.length from by omega) (cond_f g40 (fin_inl (rng_ret (body := F2) (k := k41) (s := d42) (show k41 < ((gt x0.Segments k16)).length from by omega) (cond_t g72 (cond_t g74 (cond_t g76 (cond_f g111 (rfl))))) hF46) rfl)) hF21) rfl)))
       ·
        refine ws (nf g74) ?_
        refine ws (nf g74) ?_
        refine ws (nf g74) ?_
        refine ws (nf g74) ?_
        refine wu ?_
        refine wu ?_
        refine wu ?_
        refine wu ?_
        refine wu ?_
        refine wu ?_
        refine wu ?_
        refine wu ?_
        refine wu ?_
        refine ws (nf g74) ?_
        refine wv (vpT (nf g74)) ?_
        refine nt' ?_
        refine CM_condT rfl rfl ?_
        refine sr (wa (nt' (CM_ret (QM_then_ret (QM_block_ret (QM_then_ret (QM_then_ret (QM_block_ret (QM_block_ret (QM_then_ret (QM_then_ret (QM_block_ret (QM_then_ret ?_)))))))))))))
        exact rtb (h := cond_t g11 (cond_t g13 (fin_inl (rng_ret (body := F1) (k := k16) (s := d17) (show k16 < x0.Segments.length from by omega) (cond_f g40 (fin_inl (rng_ret (body := F2) (k := k41) (s := d42) (show k41 < ((gt x0.Segments k16)).length from by omega) (cond_t g72 (cond_f g74 (rfl))) hF46) rfl)) hF21) rfl)))
      ·
       refine ws (nf g72) ?_
       refine ws (nf g72) ?_
       refine ws (nf g72) ?_
       refine ws (nf g72) ?_
       refine ws (nf g72) ?_
       refine ws (nf g72) ?_
       refine wv (vpT (nf g72)) ?_
       refine wm ?_
       refine wk ?_
       refine wk ?_
       refine wk ?_
       refine wk ?_
       refine wu ?_
       refine wu ?_
       refine wu ?_
       refine wu ?_
       refine wu ?_
       refine wu ?_
       refine wu ?_
       refine wu ?_
       refine wu ?_
       refine wk ?_
       refine wv (vpT rfl) ?_
       refine nt' ?_
       refine CM_condT rfl rfl ?_
       refine sr (wa (nt' (CM_ret (QM_then_ret (QM_block_ret (QM_then_ret (QM_then_ret (QM_block_ret (QM_block_ret (QM_then_ret (QM_then_ret (QM_block_ret (QM_then_ret ?_)))))))))))))
       exact rtb (h := cond_t g11 (cond_t g13 (fin_inl (rng_ret (body := F1) (k := k16) (s := d17) (show k16 < x0.Segments.length from by omega) (cond_f g40 (fin_inl (rng_ret (body := F2) (k := k41) (s := d42) (show k41 < ((gt x0.Segments k16)).length from by omega) (cond_f g72 (rfl)) hF46) rfl)) hF21) rfl)))
     ·have g50 := dlF hl49
      refine CM_condF rfl g50 ?_
      refine CM_exit (QM_then_exit (QM_then_exit ?_))
      have hE145 : R6 (((gt x0.Segments k16)).length - 0) 0 d17 = Sum.inr d42 := rng_end hl49 hF46
      refine QM_block_hit (QM_block_normal (QM_then (CM_region ?_)))
      refine wv (vadN k16 1 (by omega)) ?_
      refine wm (WM_nil ?_)
      have hn146 := rng_next (R := Bool) (body := F1) (k := k16) (s := d17) (s' := d42) (show k16 < x0.Segments.length from by omega) (cond_f g40 (fin_inr hE145 (rfl))) hF21
      exact QM_round (k16 + 1, d42, (A43, c44)) sl5 (fun W hm => hm) ⟨(by omega), hn146, (show d42.length ≤ 0 + 4 * (k16 + 1) from by first | omega | (simp only [List.length_append, List.length_cons, List.length_nil] at *; omega))⟩ (rl (by omega))
   ·have g25 := dlF hl24
    refine CM_condF rfl g25 ?_
    refine CM_exit (QM_then_exit (QM_then_exit ?_))
    have hE147 : R5 (x0.Segments.length - 0) 0 [] = Sum.inr d17 := rng_end hl24 hF21
    refine QM_block_hit (QM_then (sr (wa (nt' (CM_ret ?_)))))
    exact rtb (h := cond_t g11 (cond_t g13 (fin_inr hE147 (rfl))))
  ·
   refine CM_condT rfl (nf g13) ?_
   refine sr (wa (nt' (CM_ret (QM_then_ret ?_))))
   exact rtb (h := cond_t g11 (cond_f g13 (rfl)))
 ·
  refine ws (nf g11) ?_
  refine ws (nf g11) ?_
  refine ws (nf g11) ?_
  refine ws (nf g11) ?_
  refine wv (vpT (nf g11)) ?_
  refine nt' ?_
  refine CM_condT rfl rfl ?_
  refine sr (wa (nt' (CM_ret (QM_then_ret ?_))))
  exact rtb (h := cond_f g11 (rfl))

def impl_segmentRows_b1 (x0 : DStore) (x1 : Int) (x2 : Int) (k25 : Nat) (d26 : (List DRow)) : (List DRow) ⊕ ((List DRow)) :=
 cond (impl_IsVisible_m (gt (gt x0.Segments (x1.toNat)) k25) x2) (Sum.inr (d26 ++ [(impl_rowOf_m (gt (gt x0.Segments (x1.toNat)) k25))])) (Sum.inr d26)
def impl_segmentRows_m (x0 : DStore) (x1 : Int) (x2 : Int) : (List DRow) :=
 Sum.elim id (fun (s : (List DRow)) => s) (rng (R := (List DRow)) (fun k (s : (List DRow)) => impl_segmentRows_b1 x0 x1 x2 k s) (((gt x0.Segments (x1.toNat))).length - 0) 0 [])
theorem cb55 : Cb Try.prog 55 := ⟨f55, _, func55, rfl, by decide⟩
theorem impl_segmentRows_c (w : World) (z0 : List Value) (x0 : DStore) (x1 : Int) (x2 : Int) (r_0 : tyStore.rd w w.heap.size z0 x0) (s_0 : smStore 68719476736 x0) (hx1 : 0 ≤ x1 ∧ x1.toNat < x0.Segments.length) :
  Calls Try.prog 55 #[.agg z0.toArray, .int .i64 x1, .int .i64 x2] w fun e w' => ∃ v : Value, e = .returned (v) ∧ Mem w.heap.size w [iOwn (tSl tyRow 29) [v] (impl_segmentRows_m x0 x1 x2)] w' := by
 obtain ⟨v1, rfl, r2⟩ := tyStore_rd r_0
 obtain ⟨m3, A4, c5, rfl, q6, r7⟩ := rdS_op r2
 have l8 : x0.Segments.length ≤ 68719476736 := s_0.1
 refine ce3 (L := [(0, .agg #[.slice A4 x0.Segments.length c5, .int .i64 x0.Now]), (1, .int .i64 x1), (2, .int .i64 x2)]) (N := 31) func55 ?_
 refine sr ?_
 refine WM_box rfl (Wd_none rfl) (by decide) (fun p9 => ?_)
 refine wa (nt' (sr ?_))
 refine WM_build0 (E := tyRow) underlying39 type29 (Wd_none rfl) (by decide) (fun p10 => ?_)
 refine wa (nt' (CM_seq (sr ?_)))
 refine wv (vf underlying26 rfl type24) ?_
 refine wv (vl 1 0 underlying24) ?_
 refine wm ?_
 obtain ⟨a12, rfl, hb13, he14⟩ := q6 (by omega)
 refine wv (fun W hm => rv_indexI (sz := 1) (k := x1) underlying24 type72 rfl rfl rfl (by omega) (by omega)) ?_
 obtain ⟨_, e16, hc15⟩ := he14 (x1.toNat) _ (gt_some (show (x1.toNat) < x0.Segments.length from by omega))
 have l17 : (gt x0.Segments (x1.toNat)).length ≤ 68719476736 := (s_0.2 _ (gt_mem (show (x1.toNat) < x0.Segments.length from by omega))).1
 obtain ⟨v18, rfl, r19⟩ := e16
 obtain ⟨m20, A21, c22, rfl, q23, r24⟩ := rdS_op r19
 refine wv (fun W hm => rv_load underlying72 rfl rfl ((hm.cell0 (show (a12.add ((x1.toNat) * 1)).block < w.heap.size from by rw [add_block]; exact hb13.1)).trans (hc15 0 _ rfl))) ?_
 refine wv (vlen underlying72) ?_
 refine wm (nt' (CM_block ?_))
 let F1 := fun k (s : (List DRow)) => impl_segmentRows_b1 x0 x1 x2 k s
 let R2 := rng (R := (List DRow)) F1
 let I5 : It := iBox p9 26 [.slice (some a12) x0.Segments.length c5, .int .i64 x0.Now]
 refine CM_loop (σ := Nat × ((List DRow)) × (Option Addr × Nat)) (fun s => [(2, .int .i64 x2), (7, .slice s.2.2.1 s.2.1.length s.2.2.2), (15, .slice A21 ((gt x0.Segments (x1.toNat))).length c22), (16, .int .i64 ((((gt x0.Segments (x1.toNat))).length : Nat) : Int)), (17, .int .i64 ((s.1 : Nat) : Int))]) (fun s => [iOwn (tSl tyRow 29) [.slice s.2.2.1 s.2.1.length s.2.2.2] s.2.1, I5]) (fun s => s.1 ≤ ((gt x0.Segments (x1.toNat))).length ∧ R2 (((gt x0.Segments (x1.toNat))).length - s.1) s.1 s.2.1 = R2 (((gt x0.Segments (x1.toNat))).length - 0) 0 [] ∧ s.2.1.length ≤ 0 + s.1) (fun s => ((gt x0.Segments (x1.toNat))).length - s.1) (0, [], ((some ⟨p10, 0, none⟩), 0)) sl5 (fun W hm => hm) ⟨(by omega), rfl, Nat.le_refl _⟩ ?_
 rintro ⟨k25, d26, ⟨A27, c28⟩⟩ H31
 obtain ⟨hk29, hF30, hi32⟩ : k25 ≤ ((gt x0.Segments (x1.toNat))).length ∧ R2 (((gt x0.Segments (x1.toNat))).length - k25) k25 d26 = R2 (((gt x0.Segments (x1.toNat))).length - 0) 0 [] ∧ d26.length ≤ 0 + k25 := H31
 let I6 : It := iOwn (tSl tyRow 29) [.slice A27 d26.length c28] d26
 show CM Try.prog 31 _ _ _ _ [(2, .int .i64 x2), (7, .slice A27 d26.length c28), (15, .slice A21 ((gt x0.Segments (x1.toNat))).length c22), (16, .int .i64 ((((gt x0.Segments (x1.toNat))).length : Nat) : Int)), (17, .int .i64 ((k25 : Nat) : Int))] [I6, I5]
 refine sr ?_
 refine wv vlss ?_
 refine nt' (CM_seq ?_)
 by_cases hl33 : k25 < ((gt x0.Segments (x1.toNat))).length
 ·have g34 := dlT hl33
  refine CM_condT rfl g34 ?_
  refine CM_skip (QM_then (CM_seq (CM_block (sr ?_))))
  obtain ⟨a35, rfl, hb36, he37⟩ := q23 (by omega)
  refine wv (vix 4 k25 underlying72 type51) ?_
  obtain ⟨_, e41, hc38⟩ := he37 k25 _ (gt_some (show k25 < ((gt x0.Segments (x1.toNat))).length from by omega))
  obtain ⟨v39, rfl, r40⟩ := tyVersion_rd e41
  have l42 : ((gt (gt x0.Segments (x1.toNat)) k25).Values).length ≤ 68719476736 := ((s_0.2 _ (gt_mem (show (x1.toNat) < x0.Segments.length from by omega))).2 _ (gt_mem (show k25 < ((gt x0.Segments (x1.toNat))).length from by omega)))
  obtain ⟨m43, A44, c45, rfl, q46, r47⟩ := rdS_op r40
  let K3 : List Value := [.int .i64 ((gt (gt x0.Segments (x1.toNat)) k25).Id), .slice A44 ((gt (gt x0.Segments (x1.toNat)) k25).Values).length c45, .int .i64 ((gt (gt x0.Segments (x1.toNat)) k25).Born), .int .i64 ((gt (gt x0.Segments (x1.toNat)) k25).Died)]
  refine wv (fun W hm => rv_loadN (cs := K3) underlying51 type51 rfl rfl (hm.elCells (show (a35.add (k25 * 4)).block < w.heap.size from by rw [add_block]; exact hb36.1) hc38)) ?_
  refine WM_alloc type51 rfl (Wd_none rfl) (by decide) (fun p48 => ?_)
  refine sb 0 K3 [I6, I5] (fun W hm => hm) type51 ?_
  refine nt' (sr ?_)
  refine wv (fun W hm => rv_loadN (cs := K3) underlying51 type51 rfl rfl (hm.boxCells (n := 0) rfl)) ?_
  refine wm ?_
  refine wcv (cl_fn cb26 rfl) (fun W hm => impl_IsVisible_c W _ (gt (gt x0.Segments (x1.toNat)) k25) x2 (tyVersion_mk (x := (gt (gt x0.Segments (x1.toNat)) k25)) (hm.rdS0 r47))) ?_
  refine nt' ?_
  rcases Bool.eq_false_or_eq_true (impl_IsVisible_m (gt (gt x0.Segments (x1.toNat)) k25) x2) with g50 | g50
  ·
   refine CM_condT rfl g50 ?_
   refine CM_region (wm ?_)
   refine wv (fun W hm => rv_loadN (cs := K3) underlying51 type51 rfl rfl (hm.boxCells (n := 0) rfl)) ?_
   refine wcs tyRow (impl_rowOf_m (gt (gt x0.Segments (x1.toNat)) k25)) (cl_fn cb48 rfl) (fun W hm => impl_rowOf_c W _ (gt (gt x0.Segments (x1.toNat)) k25) (tyVersion_mk (x := (gt (gt x0.Segments (x1.toNat)) k25)) (hm.rdS0 r47)) ((s_0.2 _ (gt_mem (show (x1.toNat) < x0.Segments.length from by omega))).2 _ (gt_mem (show k25 < ((gt x0.Segments (x1.toNat))).length from by omega)))) (fun z51 => ?_)
   refine tyRow_sp ?_
   rintro v52 rfl
   refine WM_form (n := 0) rfl ?_
   rintro A53 c54 rfl m55
   let K4 : List Value := [.int .i64 ((impl_rowOf_m (gt (gt x0.Segments (x1.toNat)) k25)).Id), .slice A53 ((impl_rowOf_m (gt (gt x0.Segments (x1.toNat)) k25)).Values).length c54]
   refine WM_build (cs := K4) underlying39 type29 rfl (by decide) (by decide) rfl (by kernel_rfl) (Wd_none rfl) (by decide) (fun p57 => ?_)
   refine ap1 tyRow 29 (.slice A27 d26.length c28) d26 (impl_rowOf_m (gt (gt x0.Segments (x1.toNat)) k25)) [iOwn (tSl tInt 3) [.slice A53 ((impl_rowOf_m (gt (gt x0.Segments (x1.toNat)) k25)).Values).length c54] ((impl_rowOf_m (gt (gt x0.Segments (x1.toNat)) k25)).Values)] [iBox p48 51 K3, I5] K4 (pk [0, 3, 1, 2, 4]) (fun _ _ hs => Els.single (tyRow_join (x := (impl_rowOf_m (gt (gt x0.Segments (x1.toNat)) k25))) hs)) underlying39 type29 (show (d26.length + 1) * 32 ≤ 140737488355328 from by omega) (fun v58 => ?_)
   refine WM_form (n := 0) rfl ?_
   rintro A59 c60 rfl m61
   refine wa (WM_nil (QM_block_normal (QM_then (CM_region ?_))))
   refine wv (vadN k25 1 (by omega)) ?_
   refine wm (WM_nil ?_)
   have hn63 := rng_next (R := (List DRow)) (body := F1) (k := k25) (s := d26) (s' := (d26 ++ [(impl_rowOf_m (gt (gt x0.Segments (x1.toNat)) k25))])) (show k25 < ((gt x0.Segments (x1.toNat))).length from by omega) (cond_t g50 (rfl)) hF30
   exact QM_round (k25 + 1, (d26 ++ [(impl_rowOf_m (gt (gt x0.Segments (x1.toNat)) k25))]), (A59, c60)) sl5 (pk [0, 2]) ⟨(by omega), hn63, (show (d26 ++ [(impl_rowOf_m (gt (gt x0.Segments (x1.toNat)) k25))]).length ≤ 0 + (k25 + 1) from by first | omega | (simp only [List.length_append, List.length_cons, List.length_nil] at *; omega))⟩ (show ((gt x0.Segments (x1.toNat))).length - (k25 + 1) < ((gt x0.Segments (x1.toNat))).length - k25 from by omega)
  ·
   refine CM_condF rfl g50 ?_
   refine CM_skip (QM_block_normal (QM_then (CM_region ?_)))
   refine wv (vadN k25 1 (by omega)) ?_
   refine wm (WM_nil ?_)
   have hn64 := rng_next (R := (List DRow)) (body := F1) (k := k25) (s := d26) (s' := d26) (show k25 < ((gt x0.Segments (x1.toNat))).length from by omega) (cond_f g50 (rfl)) hF30
   exact QM_round (k25 + 1, d26, (A27, c28)) sl5 (pk [1, 2]) ⟨(by omega), hn64, (show d26.length ≤ 0 + (k25 + 1) from by first | omega | (simp only [List.length_append, List.length_cons, List.length_nil] at *; omega))⟩ (show ((gt x0.Segments (x1.toNat))).length - (k25 + 1) < ((gt x0.Segments (x1.toNat))).length - k25 from by omega)
 ·have g34 := dlF hl33
  refine CM_condF rfl g34 ?_
  refine CM_exit (QM_then_exit (QM_then_exit ?_))
  have hE65 : R2 (((gt x0.Segments (x1.toNat))).length - 0) 0 [] = Sum.inr d26 := rng_end hl33 hF30
  refine QM_block_hit (QM_then (sr (wm (wa (nt' (CM_ret ?_))))))
  have he66 := (show impl_segmentRows_m x0 x1 x2 = d26 from fin_inr hE65 (rfl))
  refine QM_r1 rfl (RR_tmp rfl) (fun W hm => ⟨.slice A27 d26.length c28, ?_, ?_⟩)
  ·first | rw [he66] | rfl
  ·rw [he66]; exact (hm.pick [0] (by decide))

def impl_SegmentRows_m (x0 : DStore) (x1 : Int) (x2 : Int) : (List DRow) :=
 cond (impl_IsStore_m x0) (cond (impl_within_m x1 0 (IntKind.i64.wrap (((x0.Segments.length : Nat) : Int) - 1))) (impl_segmentRows_m x0 x1 x2) []) []
theorem cb19 : Cb Try.prog 19 := ⟨f19, _, func19, rfl, by decide⟩
theorem impl_SegmentRows_c (w : World) (z0 : List Value) (x0 : DStore) (x1 : Int) (x2 : Int) (r_0 : tyStore.rd w w.heap.size z0 x0) (s_0 : smStore 68719476736 x0) :
  Calls Try.prog 19 #[.agg z0.toArray, .int .i64 x1, .int .i64 x2] w fun e w' => ∃ v : Value, e = .returned (v) ∧ Mem w.heap.size w [iOwn (tSl tyRow 29) [v] (impl_SegmentRows_m x0 x1 x2)] w' := by
 obtain ⟨v1, rfl, r2⟩ := tyStore_rd r_0
 obtain ⟨m3, A4, c5, rfl, q6, r7⟩ := rdS_op r2
 have l8 : x0.Segments.length ≤ 68719476736 := s_0.1
 refine ce3 (L := [(0, .agg #[.slice A4 x0.Segments.length c5, .int .i64 x0.Now]), (1, .int .i64 x1), (2, .int .i64 x2)]) (N := 23) func19 ?_
 refine sr ?_
 refine WM_box rfl (Wd_none rfl) (by decide) (fun p9 => ?_)
 refine wa (nt' (CM_seq (sr ?_)))
 refine wv (fun W hm => rv_loadN (cs := [.slice A4 x0.Segments.length c5, .int .i64 x0.Now]) underlying26 type26 rfl rfl (hm.boxCells (n := 0) rfl)) ?_
 refine wcv (cl_fn cb11 rfl) (fun W hm => impl_IsStore_c W _ x0 (tyStore_mk (x := x0) (hm.rdS0 r7)) s_0) ?_
 refine wv vnot ?_
 refine wm ?_
 rcases Bool.eq_false_or_eq_true (impl_IsStore_m x0) with g11 | g11
 ·
  refine wg vmv (nt g11) ?_
  refine wg (vf underlying26 rfl type24) (nt g11) ?_
  refine wg (vl 0 0 underlying24) (nt g11) ?_
  refine wg (vlen underlying24) (nt g11) ?_
  refine wg (fun W hm => rv_sub rfl rfl) (nt g11) ?_
  refine WM_callV (cl_fn cb46 rfl) (fun W hm => impl_within_c W x1 0 (IntKind.i64.wrap (((x0.Segments.length : Nat) : Int) - 1))) (Wd_some rfl rfl rfl (bw (nt g11) rfl)) (by decide) ?_
  refine wg vnot (nt g11) ?_
  refine wv (vpF (nt g11)) ?_
  refine nt' ?_
  rcases Bool.eq_false_or_eq_true (impl_within_m x1 0 (IntKind.i64.wrap (((x0.Segments.length : Nat) : Int) - 1))) with g13 | g13
  ·
   have hw := impl_within_fact g13
   rw [wrap_pred (by omega)] at hw
   refine CM_condF rfl (nt g13) ?_
   refine CM_skip (QM_then (sr ?_))
   refine wv (fun W hm => rv_loadN (cs := [.slice A4 x0.Segments.length c5, .int .i64 x0.Now]) underlying26 type26 rfl rfl (hm.boxCells (n := 0) rfl)) ?_
   refine wm (wm ?_)
   refine wcl (tSl tyRow 29) (impl_segmentRows_m x0 x1 x2) (cl_fn cb55 rfl) (fun W hm => impl_segmentRows_c W _ x0 x1 x2 (tyStore_mk (x := x0) (hm.rdS0 r7)) s_0 (⟨by omega, by omega⟩)) (fun z14 => ?_)
   refine WM_form (n := 0) rfl ?_
   rintro A15 c16 rfl m17
   refine wa (nt' (CM_ret ?_))
   have he19 := (show impl_SegmentRows_m x0 x1 x2 = (impl_segmentRows_m x0 x1 x2) from cond_t g11 (cond_t g13 (rfl)))
   refine QM_r1 rfl (RR_tmp rfl) (fun W hm => ⟨.slice A15 (impl_segmentRows_m x0 x1 x2).length c16, ?_, ?_⟩)
   ·first | rw [he19] | rfl
   ·rw [he19]; exact (hm.pick [0] (by decide))
  ·
   refine CM_condT rfl (nf g13) ?_
   refine sr (wa (nt' (CM_ret (QM_then_ret ?_))))
   refine QM_items (fun W hm => hm.addNil (E := tyRow) (e := 29)) ?_
   have he21 := (show impl_SegmentRows_m x0 x1 x2 = [] from cond_t g11 (cond_f g13 (rfl)))
   refine QM_r1 rfl (RR_tmp rfl) (fun W hm => ⟨.slice none 0 0, ?_, ?_⟩)
   ·first | rw [he21] | rfl
   ·rw [he21]; exact (hm.pick [0] (by decide))
 ·
  refine ws (nf g11) ?_
  refine ws (nf g11) ?_
  refine ws (nf g11) ?_
  refine ws (nf g11) ?_
  refine ws (nf g11) ?_
  refine ws (nf g11) ?_
  refine ws (nf g11) ?_
  refine wv (vpT (nf g11)) ?_
  refine nt' ?_
  refine CM_condT rfl rfl ?_
  refine sr (wa (nt' (CM_ret (QM_then_ret ?_))))
  refine QM_items (fun W hm => hm.addNil (E := tyRow) (e := 29)) ?_
  have he23 := (show impl_SegmentRows_m x0 x1 x2 = [] from cond_f g11 (rfl))
  refine QM_r1 rfl (RR_tmp rfl) (fun W hm => ⟨.slice none 0 0, ?_, ?_⟩)
  ·first | rw [he23] | rfl
  ·rw [he23]; exact (hm.pick [0] (by decide))

def impl_copyRow_m (x0 : DRow) : DRow :=
 x0
theorem cb78 : Cb Try.prog 78 := ⟨f78, _, func78, rfl, by decide⟩
theorem impl_copyRow_c (w : World) (z0 : List Value) (x0 : DRow) (r_0 : tyRow.rd w w.heap.size z0 x0) (s_0 : smRow 68719476736 x0) :
  Calls Try.prog 78 #[.agg z0.toArray] w fun e w' => ∃ v : List Value, e = .returned (.agg v.toArray) ∧ Mem w.heap.size w [iOwn tyRow v (impl_copyRow_m x0)] w' := by
 obtain ⟨v1, rfl, r2⟩ := tyRow_rd r_0
 obtain ⟨m3, A4, c5, rfl, q6, r7⟩ := rdS_op r2
 have l8 : x0.Values.length ≤ 68719476736 := s_0
 refine ce1 (L := [(0, .agg #[.int .i64 x0.Id, .slice A4 x0.Values.length c5])]) (N := 9) func78 ?_
 refine sr ?_
 refine WM_box rfl (Wd_none rfl) (by decide) (fun p9 => ?_)
 refine WM_alloc type29 rfl (Wd_none rfl) (by decide) (fun p10 => ?_)
 refine nt' (CM_seq ?_)
 let I1 : It := iBox p9 29 [.int .i64 x0.Id, .slice A4 x0.Values.length c5]
 refine rd2 7 [6] (s := [I1]) (s2 := [iBox p10 29 [.int .i64 0, .slice none 0 0], I1]) (pk [1]) (fun W hm => hm) ?_
 refine qtD 7 0 1 rfl (vf underlying29 rfl type3) ?_
 refine qtD 7 1 3 rfl (vl 1 0 underlying3) ?_
 refine qtD 7 2 7 rfl (vf underlying29 rfl type27) ?_
 refine qtD 7 3 15 rfl (vl 1 1 underlying27) ?_
 refine qoD 7 4 31 rfl ?_
 refine wcl (tSl tInt 3) x0.Values (cl_fn cb40 rfl) (fun W hm => impl_copyInts_c2 W _ x0.Values (hm.rdS0 r7) s_0) (fun z11 => ?_)
 refine WM_form (n := 0) rfl ?_
 rintro A12 c13 rfl m14
 refine qnD (pk [2]) (pk [1, 2]) ?_
 refine qtD 7 5 63 rfl (fun W hm => rv_build (cs := [.int .i64 x0.Id, .slice A12 x0.Values.length c13]) rfl (by kernel_rfl)) ?_
 refine qoD 7 6 127 rfl ?_
 let I2 : It := iOwn (tSl tInt 3) [.slice A12 x0.Values.length c13] x0.Values
 refine sb 0 [.int .i64 x0.Id, .slice A12 x0.Values.length c13] [I2, I1] (pk [1, 0, 2]) type29 ?_
 refine qxD (pk [2]) ?_
 refine QB_done (by kernel_rfl) ?_
 refine QM_then (CM_ret ?_)
 have he16 := (show impl_copyRow_m x0 = x0 from rfl)
 refine QM_r1 rfl (RR_cell (n := 0) rfl rfl underlying29 type29 rfl) (fun W hm => ⟨[.int .i64 x0.Id, .slice A12 x0.Values.length c13], ?_, ?_⟩)
 ·first | rw [he16] | rfl
 ·rw [he16]; exact Mem.join (is := [I2]) (js := []) (fun _ _ hs => tyRow_join (x := x0) hs) (hm.pick [1] (by decide))
theorem impl_copyRow_eq (x0 : DRow) : impl_copyRow_m x0 = x0 := by
 rfl
theorem impl_copyRow_c2 (w : World) (z0 : List Value) (x0 : DRow) (r_0 : tyRow.rd w w.heap.size z0 x0) (s_0 : smRow 68719476736 x0) :
  Calls Try.prog 78 #[.agg z0.toArray] w fun e w' => ∃ v : List Value, e = .returned (.agg v.toArray) ∧ Mem w.heap.size w [iOwn tyRow v x0] w' := by
 have h := impl_copyRow_c w z0 x0 r_0 s_0
 rw [impl_copyRow_eq] at h
 exact h

def impl_copyRows_b1 (x0 : (List DRow)) (k9 : Nat) (d10 : (List DRow)) : (List DRow) ⊕ ((List DRow)) :=
 Sum.inr (d10 ++ [(gt x0 k9)])
def impl_copyRows_m (x0 : (List DRow)) : (List DRow) :=
 Sum.elim id (fun (s : (List DRow)) => s) (rng (R := (List DRow)) (fun k (s : (List DRow)) => impl_copyRows_b1 x0 k s) (x0.length - 0) 0 [])
theorem cb59 : Cb Try.prog 59 := ⟨f59, _, func59, rfl, by decide⟩
theorem impl_copyRows_c (w : World) (z0 : Value) (x0 : (List DRow)) (r_0 : rdS tyRow w w.heap.size z0 x0) (s_0 : (x0.length ≤ 68719476736 ∧ ∀ y ∈ x0, smRow 68719476736 y)) :
  Calls Try.prog 59 #[z0] w fun e w' => ∃ v : Value, e = .returned (v) ∧ Mem w.heap.size w [iOwn (tSl tyRow 29) [v] (impl_copyRows_m x0)] w' := by
 obtain ⟨m1, A2, c3, rfl, q4, r5⟩ := rdS_op r_0
 have l6 : x0.length ≤ 68719476736 := s_0.1
 refine ce1 (L := [(0, .slice A2 x0.length c3)]) (N := 20) func59 ?_
 refine sr (wa (nt' (sr ?_)))
 refine WM_build0 (E := tyRow) underlying39 type29 (Wd_none rfl) (by decide) (fun p7 => ?_)
 refine wa (nt' (CM_seq (sr (wm ?_))))
 refine wv (vlen underlying39) ?_
 refine wm (nt' (CM_block ?_))
 let F1 := fun k (s : (List DRow)) => impl_copyRows_b1 x0 k s
 let R2 := rng (R := (List DRow)) F1
 refine CM_loop (σ := Nat × ((List DRow)) × (Option Addr × Nat)) (fun s => [(3, .slice s.2.2.1 s.2.1.length s.2.2.2), (7, .slice A2 x0.length c3), (8, .int .i64 ((x0.length : Nat) : Int)), (9, .int .i64 ((s.1 : Nat) : Int))]) (fun s => [iOwn (tSl tyRow 29) [.slice s.2.2.1 s.2.1.length s.2.2.2] s.2.1]) (fun s => s.1 ≤ x0.length ∧ R2 (x0.length - s.1) s.1 s.2.1 = R2 (x0.length - 0) 0 [] ∧ s.2.1.length ≤ 0 + s.1) (fun s => x0.length - s.1) (0, [], ((some ⟨p7, 0, none⟩), 0)) sl4 (fun W hm => hm) ⟨(by omega), rfl, Nat.le_refl _⟩ ?_
 rintro ⟨k9, d10, ⟨A11, c12⟩⟩ H15
 obtain ⟨hk13, hF14, hi16⟩ : k9 ≤ x0.length ∧ R2 (x0.length - k9) k9 d10 = R2 (x0.length - 0) 0 [] ∧ d10.length ≤ 0 + k9 := H15
 let I5 : It := iOwn (tSl tyRow 29) [.slice A11 d10.length c12] d10
 show CM Try.prog 20 _ _ _ _ [(3, .slice A11 d10.length c12), (7, .slice A2 x0.length c3), (8, .int .i64 ((x0.length : Nat) : Int)), (9, .int .i64 ((k9 : Nat) : Int))] [I5]
 refine sr ?_
 refine wv vlss ?_
 refine nt' (CM_seq ?_)
 by_cases hl17 : k9 < x0.length
 ·have g18 := dlT hl17
  refine CM_condT rfl g18 ?_
  refine CM_skip (QM_then (CM_seq (CM_block (sr ?_))))
  obtain ⟨a19, rfl, hb20, he21⟩ := q4 (by omega)
  refine wv (vix 2 k9 underlying39 type29) ?_
  obtain ⟨_, e25, hc22⟩ := he21 k9 _ (gt_some (show k9 < x0.length from by omega))
  obtain ⟨v23, rfl, r24⟩ := tyRow_rd e25
  have l26 : ((gt x0 k9).Values).length ≤ 68719476736 := (s_0.2 _ (gt_mem (show k9 < x0.length from by omega)))
  obtain ⟨m27, A28, c29, rfl, q30, r31⟩ := rdS_op r24
  let K3 : List Value := [.int .i64 ((gt x0 k9).Id), .slice A28 ((gt x0 k9).Values).length c29]
  refine wv (fun W hm => rv_loadN (cs := K3) underlying29 type29 rfl rfl (hm.elCells (show (a19.add (k9 * 2)).block < w.heap.size from by rw [add_block]; exact hb20.1) hc22)) ?_
  refine WM_alloc type29 rfl (Wd_none rfl) (by decide) (fun p32 => ?_)
  refine sb 0 K3 [I5] (fun W hm => hm) type29 ?_
  refine nt' (CM_region (wm ?_))
  refine wv (fun W hm => rv_loadN (cs := K3) underlying29 type29 rfl rfl (hm.boxCells (n := 0) rfl)) ?_
  refine wcs tyRow (gt x0 k9) (cl_fn cb78 rfl) (fun W hm => impl_copyRow_c2 W _ (gt x0 k9) (tyRow_mk (x := (gt x0 k9)) (hm.rdS0 r31)) (s_0.2 _ (gt_mem (show k9 < x0.length from by omega)))) (fun z33 => ?_)
  refine tyRow_sp ?_
  rintro v34 rfl
  refine WM_form (n := 0) rfl ?_
  rintro A35 c36 rfl m37
  let K4 : List Value := [.int .i64 ((gt x0 k9).Id), .slice A35 ((gt x0 k9).Values).length c36]
  refine WM_build (cs := K4) underlying39 type29 rfl (by decide) (by decide) rfl (by kernel_rfl) (Wd_none rfl) (by decide) (fun p39 => ?_)
  refine ap1 tyRow 29 (.slice A11 d10.length c12) d10 (gt x0 k9) [iOwn (tSl tInt 3) [.slice A35 ((gt x0 k9).Values).length c36] ((gt x0 k9).Values)] [iBox p32 29 K3] K4 (pk [0, 3, 1, 2]) (fun _ _ hs => Els.single (tyRow_join (x := (gt x0 k9)) hs)) underlying39 type29 (show (d10.length + 1) * 32 ≤ 140737488355328 from by omega) (fun v40 => ?_)
  refine WM_form (n := 0) rfl ?_
  rintro A41 c42 rfl m43
  refine wa (WM_nil (QM_block_normal (QM_then (CM_region ?_))))
  refine wv (vadN k9 1 (by omega)) ?_
  refine wm (WM_nil ?_)
  have hn45 := rng_next (R := (List DRow)) (body := F1) (k := k9) (s := d10) (s' := (d10 ++ [(gt x0 k9)])) (show k9 < x0.length from by omega) (rfl) hF14
  exact QM_round (k9 + 1, (d10 ++ [(gt x0 k9)]), (A41, c42)) sl4 (pk [0]) ⟨(by omega), hn45, (show (d10 ++ [(gt x0 k9)]).length ≤ 0 + (k9 + 1) from by first | omega | (simp only [List.length_append, List.length_cons, List.length_nil] at *; omega))⟩ (rl (by omega))
 ·have g18 := dlF hl17
  refine CM_condF rfl g18 ?_
  refine CM_exit (QM_then_exit (QM_then_exit ?_))
  have hE46 : R2 (x0.length - 0) 0 [] = Sum.inr d10 := rng_end hl17 hF14
  refine QM_block_hit (QM_then (sr (wm (wa (nt' (CM_ret ?_))))))
  have he47 := (show impl_copyRows_m x0 = d10 from fin_inr hE46 (rfl))
  refine QM_r1 rfl (RR_tmp rfl) (fun W hm => ⟨.slice A11 d10.length c12, ?_, ?_⟩)
  ·first | rw [he47] | rfl
  ·rw [he47]; exact hm
theorem impl_copyRows_eq (x0 : (List DRow)) : impl_copyRows_m x0 = x0 := by
 unfold impl_copyRows_m; rw [rng_app (xs := x0) (b := fun k s => impl_copyRows_b1 x0 k s) (fun _ _ => rfl)]; rfl
theorem impl_copyRows_c2 (w : World) (z0 : Value) (x0 : (List DRow)) (r_0 : rdS tyRow w w.heap.size z0 x0) (s_0 : (x0.length ≤ 68719476736 ∧ ∀ y ∈ x0, smRow 68719476736 y)) :
  Calls Try.prog 59 #[z0] w fun e w' => ∃ v : Value, e = .returned (v) ∧ Mem w.heap.size w [iOwn (tSl tyRow 29) [v] x0] w' := by
 have h := impl_copyRows_c w z0 x0 r_0 s_0
 rw [impl_copyRows_eq] at h
 exact h

def cmp_isNaN_int_m (x0 : Int) : Bool :=
 (x0 != x0)
theorem cb90 : Cb Try.prog 90 := ⟨f90, _, func90, rfl, by decide⟩
theorem cmp_isNaN_int_c (w : World) (x0 : Int) :
  Calls Try.prog 90 #[.int .i64 x0] w fun e w' => e = .returned (.bool (cmp_isNaN_int_m x0)) ∧ Below w.heap.size w w' := by
 refine ce1 (L := [(0, .int .i64 x0)]) (N := 6) func90 ?_
 refine sr (wa (nt' (sr (wm (wm ?_)))))
 refine wv vneq ?_
 refine wa (nt' (CM_ret ?_))
 exact rtb (h := rfl)

def cmp_Compare_int_m (x0 : Int) (x1 : Int) : Int :=
 cond (cmp_isNaN_int_m x0) (cond (cmp_isNaN_int_m x1) 0 (-1)) (cond (cmp_isNaN_int_m x1) 1 (cond (decide (x0 < x1)) (-1) (cond (decide (x1 < x0)) 1 0)))
theorem cb80 : Cb Try.prog 80 := ⟨f80, _, func80, rfl, by decide⟩
theorem cmp_Compare_int_c (w : World) (x0 : Int) (x1 : Int) :
  Calls Try.prog 80 #[.int .i64 x0, .int .i64 x1] w fun e w' => e = .returned (.int .i64 (cmp_Compare_int_m x0 x1)) ∧ Below w.heap.size w w' := by
 refine ce2 (L := [(0, .int .i64 x0), (1, .int .i64 x1)]) (N := 20) func80 ?_
 refine sr (wa (nt' (sr (wm ?_))))
 refine wcv (cl_fn cb90 rfl) (fun W hm => cmp_isNaN_int_c W x0) ?_
 refine wa (nt' (sr (wm ?_)))
 refine wcv (cl_fn cb90 rfl) (fun W hm => cmp_isNaN_int_c W x1) ?_
 refine wa (nt' (CM_seq (sr (wm (nt' ?_)))))
 rcases Bool.eq_false_or_eq_true (cmp_isNaN_int_m x0) with g2 | g2
 ·
  refine CM_condT rfl g2 ?_
  refine CM_seq (sr (wm (nt' ?_)))
  rcases Bool.eq_false_or_eq_true (cmp_isNaN_int_m x1) with g4 | g4
  ·
   refine CM_condT rfl g4 ?_
   refine sr (wa (nt' (CM_ret (QM_then_ret (QM_then_ret ?_)))))
   exact rti (h := cond_t g2 (cond_t g4 (rfl)))
  ·
   refine CM_condF rfl g4 ?_
   refine CM_skip (QM_then (sr (wa (nt' (CM_ret (QM_then_ret ?_))))))
   exact rti (h := cond_t g2 (cond_f g4 (rfl)))
 ·
  refine CM_condF rfl g2 ?_
  refine CM_skip (QM_then (CM_seq (sr (wm (nt' ?_)))))
  rcases Bool.eq_false_or_eq_true (cmp_isNaN_int_m x1) with g6 | g6
  ·
   refine CM_condT rfl g6 ?_
   refine sr (wa (nt' (CM_ret (QM_then_ret ?_))))
   exact rti (h := cond_f g2 (cond_t g6 (rfl)))
  ·
   refine CM_condF rfl g6 ?_
   refine CM_skip (QM_then (CM_seq (sr (wm (wm ?_)))))
   refine wv vlss ?_
   refine nt' ?_
   by_cases h7 : x0 < x1
   ·have g8 := decide_eq_true h7
    refine CM_condT rfl g8 ?_
    refine sr (wa (nt' (CM_ret (QM_then_ret ?_))))
    exact rti (h := cond_f g2 (cond_f g6 (cond_t g8 (rfl))))
   ·have g8 := decide_eq_false h7
    refine CM_condF rfl g8 ?_
    refine CM_skip (QM_then (CM_seq (sr (wm (wm ?_)))))
    refine wv (fun W hm => rv_gtr rfl rfl) ?_
    refine nt' ?_
    by_cases h9 : x1 < x0
    ·have g10 := decide_eq_true h9
     refine CM_condT rfl g10 ?_
     refine sr (wa (nt' (CM_ret (QM_then_ret ?_))))
     exact rti (h := cond_f g2 (cond_f g6 (cond_f g8 (cond_t g10 (rfl)))))
    ·have g10 := decide_eq_false h9
     refine CM_condF rfl g10 ?_
     refine CM_skip (QM_then (sr (wa (nt' (CM_ret ?_)))))
     exact rti (h := cond_f g2 (cond_f g6 (cond_f g8 (cond_f g10 (rfl)))))

def slices_Compare_int_b1 (x0 : (List Int)) (x1 : (List Int)) (k11 : Nat) : Int ⊕ (Unit) :=
 cond (decide (((x1.length : Nat) : Int) ≤ ((k11 : Nat) : Int))) (Sum.inl 1) (cond ((cmp_Compare_int_m (gt x0 k11) (gt x1 k11)) != 0) (Sum.inl (cmp_Compare_int_m (gt x0 k11) (gt x1 k11))) (Sum.inr ()))
def slices_Compare_int_m (x0 : (List Int)) (x1 : (List Int)) : Int :=
 Sum.elim id (fun (s : Unit) => cond (decide (((x0.length : Nat) : Int) < ((x1.length : Nat) : Int))) (-1) 0) (rng (R := Int) (fun k (_ : Unit) => slices_Compare_int_b1 x0 x1 k) (x0.length - 0) 0 ())
theorem cb62 : Cb Try.prog 62 := ⟨f62, _, func62, rfl, by decide⟩
theorem slices_Compare_int_c (w : World) (z0 : Value) (x0 : (List Int)) (z1 : Value) (x1 : (List Int)) (r_0 : rdS tInt w w.heap.size z0 x0) (r_1 : rdS tInt w w.heap.size z1 x1) :
  Calls Try.prog 62 #[z0, z1] w fun e w' => e = .returned (.int .i64 (slices_Compare_int_m x0 x1)) ∧ Below w.heap.size w w' := by
 obtain ⟨m1, A2, c3, rfl, q4, r5⟩ := rdS_op r_0
 obtain ⟨m6, A7, c8, rfl, q9, r10⟩ := rdS_op r_1
 refine ce2 (L := [(0, .slice A2 x0.length c3), (1, .slice A7 x1.length c8)]) (N := 36) func62 ?_
 refine sr (wa (nt' (CM_seq (sr (wm ?_)))))
 refine wv (vlen underlying27) ?_
 refine wm (nt' (CM_block ?_))
 let F1 := fun k (_ : Unit) => slices_Compare_int_b1 x0 x1 k
 let R2 := rng (R := Int) F1
 refine CM_loop (σ := Nat × (Unit) × (Unit)) (fun s => [(0, .slice A2 x0.length c3), (1, .slice A7 x1.length c8), (9, .slice A2 x0.length c3), (10, .int .i64 ((x0.length : Nat) : Int)), (11, .int .i64 ((s.1 : Nat) : Int))]) (fun s => []) (fun s => s.1 ≤ x0.length ∧ R2 (x0.length - s.1) s.1 s.2.1 = R2 (x0.length - 0) 0 ()) (fun s => x0.length - s.1) (0, (), ()) sl5 (fun W hm => hm) ⟨(by omega), rfl⟩ ?_
 rintro ⟨k11, ⟨⟩, ⟨⟩⟩ H14
 obtain ⟨hk12, hF13⟩ : k11 ≤ x0.length ∧ R2 (x0.length - k11) k11 () = R2 (x0.length - 0) 0 () := H14
 show CM Try.prog 36 _ _ _ _ [(0, .slice A2 x0.length c3), (1, .slice A7 x1.length c8), (9, .slice A2 x0.length c3), (10, .int .i64 ((x0.length : Nat) : Int)), (11, .int .i64 ((k11 : Nat) : Int))] []
 refine sr ?_
 refine wv vlss ?_
 refine nt' (CM_seq ?_)
 by_cases hl15 : k11 < x0.length
 ·have g16 := dlT hl15
  refine CM_condT rfl g16 ?_
  refine CM_skip (QM_then (CM_seq (CM_block (sr (wm ?_)))))
  obtain ⟨a17, rfl, hb18, he19⟩ := q4 (by omega)
  refine wv (vix 1 k11 underlying27 type3) ?_
  refine wv (fun W hm => rv_load underlying3 rfl rfl ((hm.cell0 (show (a17.add (k11 * 1)).block < w.heap.size from by rw [add_block]; exact hb18.1)).trans (rdS_int he19 k11 (by omega)))) ?_
  refine wa (wa (nt' (CM_seq (sr (wm (wm ?_))))))
  refine wv (vlen underlying27) ?_
  refine wv (fun W hm => rv_geq rfl rfl) ?_
  refine nt' ?_
  by_cases h20 : ((x1.length : Nat) : Int) ≤ ((k11 : Nat) : Int)
  ·have g21 := decide_eq_true h20
   refine CM_condT rfl g21 ?_
   refine sr (wa (nt' (CM_ret (QM_then_ret (QM_block_ret (QM_then_ret (QM_then_ret (QM_block_ret (QM_then_ret ?_)))))))))
   exact rti (h := fin_inl (rng_ret (body := F1) (k := k11) (s := ()) (show k11 < x0.length from by omega) (cond_t g21 (rfl)) hF13) rfl)
  ·have g21 := decide_eq_false h20
   refine CM_condF rfl g21 ?_
   refine CM_skip (QM_then (sr (wm (wm ?_))))
   obtain ⟨a22, rfl, hb23, he24⟩ := q9 (by omega)
   refine wv (vix 1 k11 underlying27 type3) ?_
   refine wv (fun W hm => rv_load underlying3 rfl rfl ((hm.cell0 (show (a22.add (k11 * 1)).block < w.heap.size from by rw [add_block]; exact hb23.1)).trans (rdS_int he24 k11 (by omega)))) ?_
   refine wa (nt' (sr (wm (wm ?_))))
   refine wcv (cl_fn cb80 rfl) (fun W hm => cmp_Compare_int_c W (gt x0 k11) (gt x1 k11)) ?_
   refine wa (nt' (sr (wm ?_)))
   refine wv vneq ?_
   refine nt' ?_
   by_cases h25 : (cmp_Compare_int_m (gt x0 k11) (gt x1 k11)) = 0
   ·have g26 : ((cmp_Compare_int_m (gt x0 k11) (gt x1 k11)) != 0) = false := by rw [h25]; exact bne_self_eq_false _
    refine CM_condF rfl g26 ?_
    refine CM_skip (QM_block_normal (QM_then (CM_region ?_)))
    refine wv (vadN k11 1 (by omega)) ?_
    refine wm (WM_nil ?_)
    have hn27 := rng_next (R := Int) (body := F1) (k := k11) (s := ()) (s' := ()) (show k11 < x0.length from by omega) (cond_f g21 (cond_f g26 (rfl))) hF13
    exact QM_round (k11 + 1, (), ()) sl5 (fun W hm => hm) ⟨(by omega), hn27⟩ (rl (by omega))
   ·have g26 : ((cmp_Compare_int_m (gt x0 k11) (gt x1 k11)) != 0) = true := bne_iff_ne.2 h25
    refine CM_condT rfl g26 ?_
    refine sr (wm (wa (nt' (CM_ret (QM_block_ret (QM_then_ret (QM_then_ret (QM_block_ret (QM_then_ret ?_)))))))))
    exact rti (h := fin_inl (rng_ret (body := F1) (k := k11) (s := ()) (show k11 < x0.length from by omega) (cond_f g21 (cond_t g26 (rfl))) hF13) rfl)
 ·have g16 := dlF hl15
  refine CM_condF rfl g16 ?_
  refine CM_exit (QM_then_exit (QM_then_exit ?_))
  have hE28 : R2 (x0.length - 0) 0 () = Sum.inr () := rng_end hl15 hF13
  refine QM_block_hit (QM_then (CM_seq (sr (wm ?_))))
  refine wv (vlen underlying27) ?_
  refine wm ?_
  refine wv (vlen underlying27) ?_
  refine wv vlss ?_
  refine nt' ?_
  by_cases h29 : ((x0.length : Nat) : Int) < ((x1.length : Nat) : Int)
  ·have g30 := decide_eq_true h29
   refine CM_condT rfl g30 ?_
   refine sr (wa (nt' (CM_ret (QM_then_ret ?_))))
   exact rti (h := fin_inr hE28 (cond_t g30 (rfl)))
  ·have g30 := decide_eq_false h29
   refine CM_condF rfl g30 ?_
   refine CM_skip (QM_then (sr (wa (nt' (CM_ret ?_)))))
   exact rti (h := fin_inr hE28 (cond_f g30 (rfl)))

def impl_SortRows_1_m (x0 : DRow) (x1 : DRow) : Int :=
 cond (decide (x0.Id < x1.Id)) (-1) (cond (decide (x1.Id < x0.Id)) 1 (slices_Compare_int_m x0.Values x1.Values))
theorem cb61 : Cb Try.prog 61 := ⟨f61, _, func61, rfl, by decide⟩
theorem impl_SortRows_1_c (w : World) (z0 : List Value) (x0 : DRow) (z1 : List Value) (x1 : DRow) (r_0 : tyRow.rd w w.heap.size z0 x0) (r_1 : tyRow.rd w w.heap.size z1 x1) :
  Calls Try.prog 61 #[.agg z0.toArray, .agg z1.toArray] w fun e w' => e = .returned (.int .i64 (impl_SortRows_1_m x0 x1)) ∧ Below w.heap.size w w' := by
 obtain ⟨v1, rfl, r2⟩ := tyRow_rd r_0
 obtain ⟨m3, A4, c5, rfl, q6, r7⟩ := rdS_op r2
 obtain ⟨v8, rfl, r9⟩ := tyRow_rd r_1
 obtain ⟨m10, A11, c12, rfl, q13, r14⟩ := rdS_op r9
 refine ce2 (L := [(0, .agg #[.int .i64 x0.Id, .slice A4 x0.Values.length c5]), (1, .agg #[.int .i64 x1.Id, .slice A11 x1.Values.length c12])]) (N := 22) func61 ?_
 refine sr ?_
 refine WM_box rfl (Wd_none rfl) (by decide) (fun p15 => ?_)
 refine WM_box rfl (Wd_none rfl) (by decide) (fun p16 => ?_)
 refine wa (nt' (CM_seq (CM_block (sr ?_))))
 refine wv (vf underlying29 rfl type3) ?_
 refine wv (vl 1 0 underlying3) ?_
 refine wv (vf underlying29 rfl type3) ?_
 refine wv (vl 0 0 underlying3) ?_
 refine wv vlss ?_
 refine wa (nt' ?_)
 by_cases h17 : x0.Id < x1.Id
 ·have g18 := decide_eq_true h17
  refine CM_condT rfl g18 ?_
  refine sr (wa (nt' (CM_ret (QM_block_ret (QM_then_ret ?_)))))
  exact rti (h := cond_t g18 (rfl))
 ·have g18 := decide_eq_false h17
  refine CM_condF rfl g18 ?_
  refine sr ?_
  refine wv (vf underlying29 rfl type3) ?_
  refine wv (vl 1 0 underlying3) ?_
  refine wv (vf underlying29 rfl type3) ?_
  refine wv (vl 0 0 underlying3) ?_
  refine wv (fun W hm => rv_gtr rfl rfl) ?_
  refine wa (nt' ?_)
  by_cases h19 : x1.Id < x0.Id
  ·have g20 := decide_eq_true h19
   refine CM_condT rfl g20 ?_
   refine sr (wa (nt' (CM_ret (QM_block_ret (QM_then_ret ?_)))))
   exact rti (h := cond_f g18 (cond_t g20 (rfl)))
  ·have g20 := decide_eq_false h19
   refine CM_condF rfl g20 ?_
   refine CM_skip (QM_block_normal (QM_then (sr ?_)))
   refine wv (vf underlying29 rfl type27) ?_
   refine wv (vl 1 1 underlying27) ?_
   refine wv (vf underlying29 rfl type27) ?_
   refine wv (vl 0 1 underlying27) ?_
   refine wcv (cl_fn cb62 rfl) (fun W hm => slices_Compare_int_c W _ x0.Values _ x1.Values (hm.rdS0 r7) (hm.rdS0 r14)) ?_
   refine wa (nt' (CM_ret ?_))
   exact rti (h := cond_f g18 (cond_f g20 (rfl)))

theorem cb92 : Cb Try.prog 92 := ⟨f92, _, func92, rfl, by decide⟩
theorem srt60_swr_c {α : Type} [Inhabited α] (K : Ck α) (hK : K.s = 2) (cf : α → α → Int) (fc : FuncId) (B : Nat) (w0 : World) (is : List It) (H : CmpOk Try.prog fc K B w0 is cf) (A : Option Addr) (n c : Nat) (hn : n ≤ 68719476736) (a : Nat) (b : Nat) (k : Nat) (xs : List (List Value × α)) (h1 : a + k ≤ n) (h2 : b + k ≤ n) (w : World) (hm : Mem B w0 (iOwn (tSl (tCk K) 29) [.slice A n c] xs :: is) w) :
  Calls Try.prog 92 #[.slice A n c, .int .i64 ((a : Nat) : Int), .int .i64 ((b : Nat) : Int), .int .i64 ((k : Nat) : Int), .func (.func fc) #[] #[]] w fun e w' => e = .returned (.tuple #[]) ∧ Mem B w0 (iOwn (tSl (tCk K) 29) [.slice A n c] (swr k a b xs) :: is) w' := by
 refine call_enterW (L := [(0, .slice A n c), (1, .int .i64 ((a : Nat) : Int)), (2, .int .i64 ((b : Nat) : Int)), (3, .int .i64 ((k : Nat) : Int)), (4, .func (.func fc) #[] #[])]) (N := 38) func92 rfl rfl (Nat.le_of_ble_eq_true rfl) (argsL_cons rfl (argsL_cons rfl (argsL_cons rfl (argsL_cons rfl (argsL_cons rfl argsL_nil))))) hm ?_
 refine sr (wa (nt' (CM_block ?_)))
 refine CM_loop (σ := Nat × List (List Value × α)) (fun s => [(0, .slice A n c), (1, .int .i64 ((a : Nat) : Int)), (2, .int .i64 ((b : Nat) : Int)), (3, .int .i64 ((k : Nat) : Int)), (10, .int .i64 ((s.1 : Nat) : Int))]) (fun s => (iOwn (tSl (tCk K) 29) [.slice A n c] s.2 :: is)) (fun s => swr (k - s.1) (a + s.1) (b + s.1) s.2 = swr k a b xs ∧ s.1 ≤ k) (fun s => k - s.1) (0, xs) sl5 (fun W hm => hm) ⟨(show swr (k - 0) (a + 0) (b + 0) xs = swr k a b xs from rfl), (show 0 ≤ k from by omega)⟩ ?_
 rintro ⟨i, d⟩ H1
 obtain ⟨hF, hi⟩ : swr (k - i) (a + i) (b + i) d = swr k a b xs ∧ i ≤ k := H1
 show CM Try.prog 38 _ _ _ _ [(0, .slice A n c), (1, .int .i64 ((a : Nat) : Int)), (2, .int .i64 ((b : Nat) : Int)), (3, .int .i64 ((k : Nat) : Int)), (10, .int .i64 ((i : Nat) : Int))] (iOwn (tSl (tCk K) 29) [.slice A n c] d :: is)
 refine CM_seq (sr (wm (wm ?_)))
 refine wv vlss ?_
 refine nt' ?_
 by_cases h2 : ((i : Nat) : Int) < ((k : Nat) : Int)
 ·have g3 := decide_eq_true h2
  refine CM_condT rfl g3 ?_
  refine CM_skip (QM_then (CM_seq (CM_block ?_)))
  refine CM_formO (n := 0) rfl (by omega) ?_
  rintro g5 rfl
  refine CM_ck ?_
  intro hR4
  let I1 : It := iOwn (tSl (tCk K) 29) [.slice (some ⟨g5, 0, none⟩) n c] ((d.set (a + i) (gt d (b + i))).set (b + i) (gt d (a + i)))
  refine CM_cut (σ := Unit) (fun _ => [(0, .slice (some ⟨g5, 0, none⟩) n c), (1, .int .i64 ((a : Nat) : Int)), (2, .int .i64 ((b : Nat) : Int)), (3, .int .i64 ((k : Nat) : Int)), (10, .int .i64 ((i : Nat) : Int))]) (fun _ => (I1 :: is)) (fun _ => True) ?_ ?_
  ·
   refine rb 24 (s := (is)) (fun W hm => (hm).tail) ?_
   refine qt 24 0 1 rfl vmv ?_
   refine qt 24 1 3 rfl vmv ?_
   refine qt 24 2 7 rfl vmv ?_
   refine qt 24 3 15 rfl (vadN a i (by omega)) ?_
   refine qt 24 4 31 rfl vmv ?_
   refine qt 24 5 63 rfl vmv ?_
   refine qt 24 6 127 rfl vmv ?_
   refine qt 24 7 255 rfl (vadN b i (by omega)) ?_
   refine qt 24 8 511 rfl vmv ?_
   refine qt 24 9 1023 rfl vmv ?_
   refine qt 24 10 2047 rfl vmv ?_
   refine qt 24 11 4095 rfl (vadN b i (by omega)) ?_
   refine qt 24 12 8191 rfl (fun W hm => rv_index (sz := K.s) (k := b + i) underlying39 type29 hK.symm rfl rfl (by omega)) ?_
   refine qt 24 14 24575 rfl vmv ?_
   refine qt 24 15 57343 rfl vmv ?_
   refine qt 24 16 122879 rfl vmv ?_
   refine qt 24 17 253951 rfl (vadN a i (by omega)) ?_
   refine qt 24 18 516095 rfl (fun W hm => rv_index (sz := K.s) (k := a + i) underlying39 type29 hK.symm rfl rfl (by omega)) ?_
   refine qa [13, 19] ?_
   refine qc 24 524287 rfl ?_ ?_
   ·
    refine wv (fun W hm => rv_loadCk underlying29 type29 hK.symm rfl hm (by omega)) ?_
    refine qn (fun W hm => (hm).tail) ?_
    refine qo 24 19 1048575 rfl ?_
    refine wv (fun W hm => rv_loadCk underlying29 type29 hK.symm rfl hm (by omega)) ?_
    refine qn (fun W hm => (hm).tail) ?_
    refine qt 24 20 2097151 rfl (fun W hm => rv_index (sz := K.s) (k := a + i) underlying39 type29 hK.symm rfl rfl (by omega)) ?_
    refine qo 24 21 4194303 rfl ?_
    refine WM_setEl (E := tCk K) (e := 29) (u := .agg (gt d (b + i)).1.toArray) (k := (a + i)) (p := g5) (n := n) (xs := d) (eis := []) (js := is) (yv := (gt d (b + i))) (fun W hm => hm) (fun _ _ hs => ⟨hs, rfl, (hR4 (b + i) (by omega))⟩) rfl type29 hK.symm (by omega) rfl rfl (Wd_none rfl) ?_
    refine qn (fun W hm => (hm).tail) ?_
    refine qt 24 22 8388607 rfl (fun W hm => rv_index (sz := K.s) (k := b + i) underlying39 type29 hK.symm rfl rfl (by omega)) ?_
    refine qo 24 23 16777215 rfl ?_
    refine WM_setEl (E := tCk K) (e := 29) (u := .agg (gt d (a + i)).1.toArray) (k := (b + i)) (p := g5) (n := n) (xs := (d.set (a + i) (gt d (b + i)))) (eis := []) (js := is) (yv := (gt d (a + i))) (fun W hm => hm) (fun _ _ hs => ⟨hs, rfl, (hR4 (a + i) (by omega))⟩) rfl type29 hK.symm (by omega) rfl rfl (Wd_none rfl) ?_
    refine qn (fun W hm => (hm).tail) ?_
    refine QB_done (by kernel_rfl) ?_
    exact QM_cut_normal () sl5 (fun W hm => hm) trivial
   refine qc 24 1040383 rfl ?_ ?_
   ·
    refine wv (fun W hm => rv_loadCk underlying29 type29 hK.symm rfl hm (by omega)) ?_
    refine qn (fun W hm => (hm).tail) ?_
    refine qo 24 13 1048575 rfl ?_
    refine wv (fun W hm => rv_loadCk underlying29 type29 hK.symm rfl hm (by omega)) ?_
    refine qn (fun W hm => (hm).tail) ?_
    refine qt 24 20 2097151 rfl (fun W hm => rv_index (sz := K.s) (k := a + i) underlying39 type29 hK.symm rfl rfl (by omega)) ?_
    refine qo 24 21 4194303 rfl ?_
    refine WM_setEl (E := tCk K) (e := 29) (u := .agg (gt d (b + i)).1.toArray) (k := (a + i)) (p := g5) (n := n) (xs := d) (eis := []) (js := is) (yv := (gt d (b + i))) (fun W hm => hm) (fun _ _ hs => ⟨hs, rfl, (hR4 (b + i) (by omega))⟩) rfl type29 hK.symm (by omega) rfl rfl (Wd_none rfl) ?_
    refine qn (fun W hm => (hm).tail) ?_
    refine qt 24 22 8388607 rfl (fun W hm => rv_index (sz := K.s) (k := b + i) underlying39 type29 hK.symm rfl rfl (by omega)) ?_
    refine qo 24 23 16777215 rfl ?_
    refine WM_setEl (E := tCk K) (e := 29) (u := .agg (gt d (a + i)).1.toArray) (k := (b + i)) (p := g5) (n := n) (xs := (d.set (a + i) (gt d (b + i)))) (eis := []) (js := is) (yv := (gt d (a + i))) (fun W hm => hm) (fun _ _ hs => ⟨hs, rfl, (hR4 (a + i) (by omega))⟩) rfl type29 hK.symm (by omega) rfl rfl (Wd_none rfl) ?_
    refine qn (fun W hm => (hm).tail) ?_
    refine QB_done (by kernel_rfl) ?_
    exact QM_cut_normal () sl5 (fun W hm => hm) trivial
   exact QBs_nil
  ·
   rintro ⟨⟩ -
   show QM 38 _ _ _ .normal [(0, .slice (some ⟨g5, 0, none⟩) n c), (1, .int .i64 ((a : Nat) : Int)), (2, .int .i64 ((b : Nat) : Int)), (3, .int .i64 ((k : Nat) : Int)), (10, .int .i64 ((i : Nat) : Int))] (I1 :: is)
   refine QM_block_normal (QM_then (CM_region (wm ?_)))
   refine wv (vadN i 1 (by omega)) ?_
   refine wa (WM_nil ?_)
   exact QM_round (i + 1, ((d.set (a + i) (gt d (b + i))).set (b + i) (gt d (a + i)))) sl5 (fun W hm => hm) ⟨(show swr (k - (i + 1)) (a + (i + 1)) (b + (i + 1)) ((d.set (a + i) (gt d (b + i))).set (b + i) (gt d (a + i))) = swr k a b xs from (swr_step (by omega)).symm.trans hF), (show (i + 1) ≤ k from by omega)⟩ (rl (by omega))
 ·have g3 := decide_eq_false h2
  refine CM_condF rfl g3 ?_
  refine CM_exit (QM_then_exit (QM_then_exit (QM_block_hit ?_)))
  have hE : swr k a b xs = d := ((swr_end (by omega)).symm.trans hF).symm
  exact QM_ret0 rfl (fun W hm => ⟨rfl, by rw [hE]; exact hm⟩)

theorem cb88 : Cb Try.prog 88 := ⟨f88, _, func88, rfl, by decide⟩
theorem srt60_ins_c {α : Type} [Inhabited α] (K : Ck α) (hK : K.s = 2) (cf : α → α → Int) (fc : FuncId) (B : Nat) (w0 : World) (is : List It) (H : CmpOk Try.prog fc K B w0 is cf) (A : Option Addr) (n c : Nat) (hn : n ≤ 68719476736) (a : Nat) (b : Nat) (xs : List (List Value × α)) (h1 : a ≤ n) (h2 : b ≤ n) (w : World) (hm : Mem B w0 (iOwn (tSl (tCk K) 29) [.slice A n c] xs :: is) w) :
  Calls Try.prog 88 #[.slice A n c, .int .i64 ((a : Nat) : Int), .int .i64 ((b : Nat) : Int), .func (.func fc) #[] #[]] w fun e w' => e = .returned (.tuple #[]) ∧ Mem B w0 (iOwn (tSl (tCk K) 29) [.slice A n c] (insL (ltc cf) a (b - a - 1) (a + 1) xs) :: is) w' := by
 refine call_enterW (L := [(0, .slice A n c), (1, .int .i64 ((a : Nat) : Int)), (2, .int .i64 ((b : Nat) : Int)), (3, .func (.func fc) #[] #[])]) (N := 53) func88 rfl rfl (Nat.le_of_ble_eq_true rfl) (argsL_cons rfl (argsL_cons rfl (argsL_cons rfl (argsL_cons rfl argsL_nil)))) hm ?_
 refine sr (wm ?_)
 refine wv (vadN a 1 (by omega)) ?_
 refine wa (nt' (CM_block ?_))
 refine CM_loop (σ := Nat × List (List Value × α)) (fun s => [(0, .slice A n c), (1, .int .i64 ((a : Nat) : Int)), (2, .int .i64 ((b : Nat) : Int)), (3, .func (.func fc) #[] #[]), (8, .int .i64 ((s.1 : Nat) : Int))]) (fun s => (iOwn (tSl (tCk K) 29) [.slice A n c] s.2 :: is)) (fun s => insL (ltc cf) a (b - s.1) s.1 s.2 = insL (ltc cf) a (b - a - 1) (a + 1) xs ∧ a < s.1) (fun s => b - s.1) (a + 1, xs) sl5 (fun W hm => hm) ⟨(show insL (ltc cf) a (b - (a + 1)) (a + 1) xs = insL (ltc cf) a (b - a - 1) (a + 1) xs from by rw [show b - (a + 1) = b - a - 1 by omega]), (show a < (a + 1) from by omega)⟩ ?_
 rintro ⟨i, d⟩ H1
 obtain ⟨hF, hai⟩ : insL (ltc cf) a (b - i) i d = insL (ltc cf) a (b - a - 1) (a + 1) xs ∧ a < i := H1
 show CM Try.prog 53 _ _ _ _ [(0, .slice A n c), (1, .int .i64 ((a : Nat) : Int)), (2, .int .i64 ((b : Nat) : Int)), (3, .func (.func fc) #[] #[]), (8, .int .i64 ((i : Nat) : Int))] (iOwn (tSl (tCk K) 29) [.slice A n c] d :: is)
 refine CM_seq (sr (wm (wm ?_)))
 refine wv vlss ?_
 refine nt' ?_
 by_cases h2 : ((i : Nat) : Int) < ((b : Nat) : Int)
 ·have g3 := decide_eq_true h2
  refine CM_condT rfl g3 ?_
  refine CM_skip (QM_then (CM_seq (CM_block (sr (wm (wa (nt' (CM_block ?_))))))))
  refine CM_loop (σ := Nat × List (List Value × α)) (fun s => [(0, .slice A n c), (1, .int .i64 ((a : Nat) : Int)), (2, .int .i64 ((b : Nat) : Int)), (3, .func (.func fc) #[] #[]), (8, .int .i64 ((i : Nat) : Int)), (9, .int .i64 ((s.1 : Nat) : Int))]) (fun s => (iOwn (tSl (tCk K) 29) [.slice A n c] s.2 :: is)) (fun s => ins1 (ltc cf) a s.1 s.2 = ins1 (ltc cf) a i d ∧ s.1 ≤ i ∧ a ≤ s.1) (fun s => s.1) (i, d) sl6 (fun W hm => hm) ⟨(show ins1 (ltc cf) a i d = ins1 (ltc cf) a i d from rfl), (show i ≤ i from by omega), (show a ≤ i from by omega)⟩ ?_
  rintro ⟨j, e⟩ H4
  obtain ⟨hG, hji, haj⟩ : ins1 (ltc cf) a j e = ins1 (ltc cf) a i d ∧ j ≤ i ∧ a ≤ j := H4
  show CM Try.prog 53 _ _ _ _ [(0, .slice A n c), (1, .int .i64 ((a : Nat) : Int)), (2, .int .i64 ((b : Nat) : Int)), (3, .func (.func fc) #[] #[]), (8, .int .i64 ((i : Nat) : Int)), (9, .int .i64 ((j : Nat) : Int))] (iOwn (tSl (tCk K) 29) [.slice A n c] e :: is)
  refine CM_seq (CM_seq ?_)
  refine CM_formO (n := 0) rfl (by omega) ?_
  rintro g5 rfl
  refine CM_regionD (by kernel_rfl) (by kernel_rfl) ?_
  refine qm (qm ?_)
  refine qv (fun W hm => rv_gtr rfl rfl) ?_
  refine qm ?_
  by_cases h6 : ((a : Nat) : Int) < ((j : Nat) : Int)
  ·have g7 := decide_eq_true h6
   refine qg vmv g7 ?_
   refine qg vmv g7 ?_
   refine qg vmv g7 ?_
   refine qg (fun W hm => rv_index (sz := K.s) (k := j) underlying39 type29 hK.symm rfl rfl (by omega)) g7 ?_
   refine qg (fun W hm => rv_loadCk underlying29 type29 hK.symm rfl hm (by omega)) g7 ?_
   refine qg vmv g7 ?_
   refine qg vmv g7 ?_
   refine qg (fun W hm => rv_subN (p := j) (q := 1) rfl rfl (by omega) (by omega)) g7 ?_
   refine qg (fun W hm => rv_index (sz := K.s) (k := j - 1) underlying39 type29 hK.symm rfl rfl (by omega)) g7 ?_
   refine qg (fun W hm => rv_loadCk underlying29 type29 hK.symm rfl hm (by omega)) g7 ?_
   refine QR_callV (cl_val (first := []) (caps := []) (vs := [.agg (gt e j).1.toArray, .agg (gt e (j - 1)).1.toArray]) (args := [.agg (gt e j).1.toArray, .agg (gt e (j - 1)).1.toArray]) H.cb rfl rfl rfl) (fun W hm => H.go W (gt e j) (gt e (j - 1)) hm.tail (hm.ck (by omega)).1 (hm.ck (by omega)).1) (Wd_some rfl rfl rfl (bw g7 rfl)) (by decide) ?_
   refine qg vlss g7 ?_
   refine qv (vpT g7) ?_
   refine nq' ?_
   by_cases h8 : (cf (gt e j).2 (gt e (j - 1)).2) < 0
   ·have g9 := decide_eq_true h8
    refine CM_condT rfl g9 ?_
    refine CM_skip (QM_then (CM_seq (CM_block (CM_ck ?_))))
    intro hR10
    let I1 : It := iOwn (tSl (tCk K) 29) [.slice (some ⟨g5, 0, none⟩) n c] ((e.set j (gt e (j - 1))).set (j - 1) (gt e j))
    refine CM_cut (σ := Unit) (fun _ => [(0, .slice (some ⟨g5, 0, none⟩) n c), (1, .int .i64 ((a : Nat) : Int)), (2, .int .i64 ((b : Nat) : Int)), (3, .func (.func fc) #[] #[]), (8, .int .i64 ((i : Nat) : Int)), (9, .int .i64 ((j : Nat) : Int))]) (fun _ => (I1 :: is)) (fun _ => True) ?_ ?_
    ·
     refine rb 18 (s := (is)) (fun W hm => (hm).tail) ?_
     refine qt 18 0 1 rfl vmv ?_
     refine qt 18 1 3 rfl vmv ?_
     refine qt 18 2 7 rfl vmv ?_
     refine qt 18 3 15 rfl vmv ?_
     refine qt 18 4 31 rfl (fun W hm => rv_subN (p := j) (q := 1) rfl rfl (by omega) (by omega)) ?_
     refine qt 18 5 63 rfl vmv ?_
     refine qt 18 6 127 rfl vmv ?_
     refine qt 18 7 255 rfl (fun W hm => rv_subN (p := j) (q := 1) rfl rfl (by omega) (by omega)) ?_
     refine qt 18 8 511 rfl (fun W hm => rv_index (sz := K.s) (k := j - 1) underlying39 type29 hK.symm rfl rfl (by omega)) ?_
     refine qt 18 10 1535 rfl vmv ?_
     refine qt 18 11 3583 rfl vmv ?_
     refine qt 18 12 7679 rfl (fun W hm => rv_index (sz := K.s) (k := j) underlying39 type29 hK.symm rfl rfl (by omega)) ?_
     refine qa [9, 13] ?_
     refine qc 18 8191 rfl ?_ ?_
     ·
      refine wv (fun W hm => rv_loadCk underlying29 type29 hK.symm rfl hm (by omega)) ?_
      refine qn (fun W hm => (hm).tail) ?_
      refine qo 18 13 16383 rfl ?_
      refine wv (fun W hm => rv_loadCk underlying29 type29 hK.symm rfl hm (by omega)) ?_
      refine qn (fun W hm => (hm).tail) ?_
      refine qt 18 14 32767 rfl (fun W hm => rv_index (sz := K.s) (k := j) underlying39 type29 hK.symm rfl rfl (by omega)) ?_
      refine qo 18 15 65535 rfl ?_
      refine WM_setEl (E := tCk K) (e := 29) (u := .agg (gt e (j - 1)).1.toArray) (k := j) (p := g5) (n := n) (xs := e) (eis := []) (js := is) (yv := (gt e (j - 1))) (fun W hm => hm) (fun _ _ hs => ⟨hs, rfl, (hR10 (j - 1) (by omega))⟩) rfl type29 hK.symm (by omega) rfl rfl (Wd_none rfl) ?_
      refine qn (fun W hm => (hm).tail) ?_
      refine qt 18 16 131071 rfl (fun W hm => rv_index (sz := K.s) (k := j - 1) underlying39 type29 hK.symm rfl rfl (by omega)) ?_
      refine qo 18 17 262143 rfl ?_
      refine WM_setEl (E := tCk K) (e := 29) (u := .agg (gt e j).1.toArray) (k := (j - 1)) (p := g5) (n := n) (xs := (e.set j (gt e (j - 1)))) (eis := []) (js := is) (yv := (gt e j)) (fun W hm => hm) (fun _ _ hs => ⟨hs, rfl, (hR10 j (by omega))⟩) rfl type29 hK.symm (by omega) rfl rfl (Wd_none rfl) ?_
      refine qn (fun W hm => (hm).tail) ?_
      refine QB_done (by kernel_rfl) ?_
      exact QM_cut_normal () sl6 (fun W hm => hm) trivial
     refine qc 18 15871 rfl ?_ ?_
     ·
      refine wv (fun W hm => rv_loadCk underlying29 type29 hK.symm rfl hm (by omega)) ?_
      refine qn (fun W hm => (hm).tail) ?_
      refine qo 18 9 16383 rfl ?_
      refine wv (fun W hm => rv_loadCk underlying29 type29 hK.symm rfl hm (by omega)) ?_
      refine qn (fun W hm => (hm).tail) ?_
      refine qt 18 14 32767 rfl (fun W hm => rv_index (sz := K.s) (k := j) underlying39 type29 hK.symm rfl rfl (by omega)) ?_
      refine qo 18 15 65535 rfl ?_
      refine WM_setEl (E := tCk K) (e := 29) (u := .agg (gt e (j - 1)).1.toArray) (k := j) (p := g5) (n := n) (xs := e) (eis := []) (js := is) (yv := (gt e (j - 1))) (fun W hm => hm) (fun _ _ hs => ⟨hs, rfl, (hR10 (j - 1) (by omega))⟩) rfl type29 hK.symm (by omega) rfl rfl (Wd_none rfl) ?_
      refine qn (fun W hm => (hm).tail) ?_
      refine qt 18 16 131071 rfl (fun W hm => rv_index (sz := K.s) (k := j - 1) underlying39 type29 hK.symm rfl rfl (by omega)) ?_
      refine qo 18 17 262143 rfl ?_
      refine WM_setEl (E := tCk K) (e := 29) (u := .agg (gt e j).1.toArray) (k := (j - 1)) (p := g5) (n := n) (xs := (e.set j (gt e (j - 1)))) (eis := []) (js := is) (yv := (gt e j)) (fun W hm => hm) (fun _ _ hs => ⟨hs, rfl, (hR10 j (by omega))⟩) rfl type29 hK.symm (by omega) rfl rfl (Wd_none rfl) ?_
      refine qn (fun W hm => (hm).tail) ?_
      refine QB_done (by kernel_rfl) ?_
      exact QM_cut_normal () sl6 (fun W hm => hm) trivial
     exact QBs_nil
    ·
     rintro ⟨⟩ -
     show QM 53 _ _ _ .normal [(0, .slice (some ⟨g5, 0, none⟩) n c), (1, .int .i64 ((a : Nat) : Int)), (2, .int .i64 ((b : Nat) : Int)), (3, .func (.func fc) #[] #[]), (8, .int .i64 ((i : Nat) : Int)), (9, .int .i64 ((j : Nat) : Int))] (I1 :: is)
     refine QM_block_normal (QM_then (CM_region (wm ?_)))
     refine wv (fun W hm => rv_subN (p := j) (q := 1) rfl rfl (by omega) (by omega)) ?_
     refine wa (WM_nil ?_)
     exact QM_round (j - 1, ((e.set j (gt e (j - 1))).set (j - 1) (gt e j))) sl6 (fun W hm => hm) ⟨(show ins1 (ltc cf) a (j - 1) ((e.set j (gt e (j - 1))).set (j - 1) (gt e j)) = ins1 (ltc cf) a i d from (ins1_t (by omega) (show decide (cf (gt e j).2 (gt e (j - 1)).2 < 0) = true from decide_eq_true (by omega))).symm.trans hG), (show (j - 1) ≤ i from by omega), (show a ≤ (j - 1) from by omega)⟩ (show (j - 1) < j from by omega)
   ·have g9 := decide_eq_false h8
    refine CM_condF rfl g9 ?_
    refine CM_exit (QM_then_exit (QM_then_exit (QM_block_hit (QM_block_normal (QM_then (CM_region (wm ?_)))))))
    refine wv (vadN i 1 (by omega)) ?_
    refine wa (WM_nil ?_)
    exact QM_round (i + 1, e) sl5 (fun W hm => hm) ⟨(show insL (ltc cf) a (b - (i + 1)) (i + 1) e = insL (ltc cf) a (b - a - 1) (a + 1) xs from (congrArg (insL (ltc cf) a (b - (i + 1)) (i + 1)) ((ins1_f (by rintro ⟨q1, q2⟩; have q3 := of_decide_eq_true (p := cf (gt e j).2 (gt e (j - 1)).2 < 0) q2; omega)).symm.trans hG)).trans ((insL_step (by omega)).symm.trans hF)), (show a < (i + 1) from by omega)⟩ (rl (by omega))
  ·have g7 := decide_eq_false h6
   refine qs g7 ?_
   refine qs g7 ?_
   refine qs g7 ?_
   refine qs g7 ?_
   refine qs g7 ?_
   refine qs g7 ?_
   refine qs g7 ?_
   refine qs g7 ?_
   refine qs g7 ?_
   refine qs g7 ?_
   refine qs g7 ?_
   refine qs g7 ?_
   refine qv (vpF g7) ?_
   refine nq' ?_
   refine CM_condF rfl rfl ?_
   refine CM_exit (QM_then_exit (QM_then_exit (QM_block_hit (QM_block_normal (QM_then (CM_region (wm ?_)))))))
   refine wv (vadN i 1 (by omega)) ?_
   refine wa (WM_nil ?_)
   exact QM_round (i + 1, e) sl5 (fun W hm => hm) ⟨(show insL (ltc cf) a (b - (i + 1)) (i + 1) e = insL (ltc cf) a (b - a - 1) (a + 1) xs from (congrArg (insL (ltc cf) a (b - (i + 1)) (i + 1)) ((ins1_f (by rintro ⟨q1, q2⟩; have q3 := of_decide_eq_true (p := cf (gt e j).2 (gt e (j - 1)).2 < 0) q2; omega)).symm.trans hG)).trans ((insL_step (by omega)).symm.trans hF)), (show a < (i + 1) from by omega)⟩ (rl (by omega))
 ·have g3 := decide_eq_false h2
  refine CM_condF rfl g3 ?_
  refine CM_exit (QM_then_exit (QM_then_exit (QM_block_hit ?_)))
  have hE : insL (ltc cf) a (b - a - 1) (a + 1) xs = d := ((insL_end (by omega)).symm.trans hF).symm
  exact QM_ret0 rfl (fun W hm => ⟨rfl, by rw [hE]; exact hm⟩)

theorem cb91 : Cb Try.prog 91 := ⟨f91, _, func91, rfl, by decide⟩
theorem srt60_rot_c {α : Type} [Inhabited α] (K : Ck α) (hK : K.s = 2) (cf : α → α → Int) (fc : FuncId) (B : Nat) (w0 : World) (is : List It) (H : CmpOk Try.prog fc K B w0 is cf) (A : Option Addr) (n c : Nat) (hn : n ≤ 68719476736) (a : Nat) (m : Nat) (b : Nat) (xs : List (List Value × α)) (h1 : a < m) (h2 : m < b) (h3 : b ≤ n) (w : World) (hm : Mem B w0 (iOwn (tSl (tCk K) 29) [.slice A n c] xs :: is) w) :
  Calls Try.prog 91 #[.slice A n c, .int .i64 ((a : Nat) : Int), .int .i64 ((m : Nat) : Int), .int .i64 ((b : Nat) : Int), .func (.func fc) #[] #[]] w fun e w' => e = .returned (.tuple #[]) ∧ Mem B w0 (iOwn (tSl (tCk K) 29) [.slice A n c] (rot (b - a) m (m - a) (b - m) xs) :: is) w' := by
 refine call_enterW (L := [(0, .slice A n c), (1, .int .i64 ((a : Nat) : Int)), (2, .int .i64 ((m : Nat) : Int)), (3, .int .i64 ((b : Nat) : Int)), (4, .func (.func fc) #[] #[])]) (N := 58) func91 rfl rfl (Nat.le_of_ble_eq_true rfl) (argsL_cons rfl (argsL_cons rfl (argsL_cons rfl (argsL_cons rfl (argsL_cons rfl argsL_nil))))) hm ?_
 refine sr (wm (wm ?_))
 refine wv (fun W hm => rv_subN (p := m) (q := a) rfl rfl (by omega) (by omega)) ?_
 refine wa (nt' (sr (wm (wm ?_))))
 refine wv (fun W hm => rv_subN (p := b) (q := m) rfl rfl (by omega) (by omega)) ?_
 refine wa (nt' (CM_seq (CM_block ?_)))
 refine CM_loop (σ := Nat × Nat × Nat × List (List Value × α)) (fun s => [(0, .slice A n c), (2, .int .i64 ((m : Nat) : Int)), (4, .func (.func fc) #[] #[]), (10, .int .i64 ((s.1 : Nat) : Int)), (11, .int .i64 ((s.2.1 : Nat) : Int))]) (fun s => (iOwn (tSl (tCk K) 29) [.slice A n c] s.2.2.2 :: is)) (fun s => rot s.2.2.1 m s.1 s.2.1 s.2.2.2 = rot (b - a) m (m - a) (b - m) xs ∧ s.1 + s.2.1 ≤ s.2.2.1 ∧ 0 < s.1 ∧ 0 < s.2.1 ∧ a + s.1 ≤ m ∧ m + s.2.1 ≤ b) (fun s => s.1 + s.2.1) (m - a, b - m, b - a, xs) sl5 (fun W hm => hm) ⟨(show rot (b - a) m (m - a) (b - m) xs = rot (b - a) m (m - a) (b - m) xs from rfl), (show (m - a) + (b - m) ≤ (b - a) from by omega), (show 0 < (m - a) from by omega), (show 0 < (b - m) from by omega), (show a + (m - a) ≤ m from by omega), (show m + (b - m) ≤ b from by omega)⟩ ?_
 rintro ⟨i, j, f, d⟩ H1
 obtain ⟨hF, hf5, hf6, hf7, hf8, hf9⟩ : rot f m i j d = rot (b - a) m (m - a) (b - m) xs ∧ i + j ≤ f ∧ 0 < i ∧ 0 < j ∧ a + i ≤ m ∧ m + j ≤ b := H1
 show CM Try.prog 58 _ _ _ _ [(0, .slice A n c), (2, .int .i64 ((m : Nat) : Int)), (4, .func (.func fc) #[] #[]), (10, .int .i64 ((i : Nat) : Int)), (11, .int .i64 ((j : Nat) : Int))] (iOwn (tSl (tCk K) 29) [.slice A n c] d :: is)
 refine CM_seq (sr (wm (wm ?_)))
 refine wv vneq ?_
 refine nt' ?_
 by_cases h2 : ((i : Nat) : Int) = ((j : Nat) : Int)
 ·have g3 : (((i : Nat) : Int) != ((j : Nat) : Int)) = false := by rw [h2]; exact bne_self_eq_false _
  refine CM_condF rfl g3 ?_
  refine CM_exit (QM_then_exit (QM_then_exit (QM_block_hit (QM_then (CM_region (wm (wm (wm ?_))))))))
  refine wv (fun W hm => rv_subN (p := m) (q := i) rfl rfl (by omega) (by omega)) ?_
  refine wm (wm (wm ?_))
  refine WM_callW (χ := Unit) (val := fun _ => .tuple #[]) (js := fun _ => (iOwn (tSl (tCk K) 29) [.slice A n c] (swr i (m - i) m d) :: is)) (cl_fn cb92 rfl) (fun W hm => (srt60_swr_c K hK cf fc B w0 is H A n c hn (m - i) m i d (by omega) (by omega) W hm).mono (fun _ _ h => ⟨(), h.1, h.2⟩)) (Wd_none rfl) (by decide) (fun _ => ?_)
  refine WM_nil ?_
  have hE : rot (b - a) m (m - a) (b - m) xs = (swr i (m - i) m d) := ((rot_eq (by omega) hf5 hf6).symm.trans hF).symm
  exact QM_ret0 rfl (fun W hm => ⟨rfl, by rw [hE]; exact hm⟩)
 ·have g3 : (((i : Nat) : Int) != ((j : Nat) : Int)) = true := bne_iff_ne.2 h2
  refine CM_condT rfl g3 ?_
  refine CM_skip (QM_then (CM_block (sr (wm (wm ?_)))))
  refine wv (fun W hm => rv_gtr rfl rfl) ?_
  refine nt' ?_
  by_cases h4 : ((j : Nat) : Int) < ((i : Nat) : Int)
  ·have g5 := decide_eq_true h4
   refine CM_condT rfl g5 ?_
   refine sr (wm (wm (wm ?_)))
   refine wv (fun W hm => rv_subN (p := m) (q := i) rfl rfl (by omega) (by omega)) ?_
   refine wm (wm (wm ?_))
   refine WM_callW (χ := Unit) (val := fun _ => .tuple #[]) (js := fun _ => (iOwn (tSl (tCk K) 29) [.slice A n c] (swr j (m - i) m d) :: is)) (cl_fn cb92 rfl) (fun W hm => (srt60_swr_c K hK cf fc B w0 is H A n c hn (m - i) m j d (by omega) (by omega) W hm).mono (fun _ _ h => ⟨(), h.1, h.2⟩)) (Wd_none rfl) (by decide) (fun _ => ?_)
   refine nt' (CM_region (wm (wm ?_)))
   refine wv (fun W hm => rv_subN (p := i) (q := j) rfl rfl (by omega) (by omega)) ?_
   refine wa (WM_nil (QM_block_normal ?_))
   exact QM_round (i - j, j, f - 1, (swr j (m - i) m d)) sl5 (fun W hm => hm) ⟨(show rot (f - 1) m (i - j) j (swr j (m - i) m d) = rot (b - a) m (m - a) (b - m) xs from (rot_gt (by omega) hf5).symm.trans hF), (show (i - j) + j ≤ (f - 1) from by omega), (show 0 < (i - j) from by omega), (show 0 < j from by omega), (show a + (i - j) ≤ m from by omega), (show m + j ≤ b from by omega)⟩ (show (i - j) + j < i + j from by omega)
  ·have g5 := decide_eq_false h4
   refine CM_condF rfl g5 ?_
   refine sr (wm (wm (wm ?_)))
   refine wv (fun W hm => rv_subN (p := m) (q := i) rfl rfl (by omega) (by omega)) ?_
   refine wm (wm ?_)
   refine wv (vadN m j (by omega)) ?_
   refine wm ?_
   refine wv (fun W hm => rv_subN (p := m + j) (q := i) rfl rfl (by omega) (by omega)) ?_
   refine wm (wm ?_)
   refine WM_callW (χ := Unit) (val := fun _ => .tuple #[]) (js := fun _ => (iOwn (tSl (tCk K) 29) [.slice A n c] (swr i (m - i) (m + j - i) d) :: is)) (cl_fn cb92 rfl) (fun W hm => (srt60_swr_c K hK cf fc B w0 is H A n c hn (m - i) (m + j - i) i d (by omega) (by omega) W hm).mono (fun _ _ h => ⟨(), h.1, h.2⟩)) (Wd_none rfl) (by decide) (fun _ => ?_)
   refine nt' (CM_region (wm (wm ?_)))
   refine wv (fun W hm => rv_subN (p := j) (q := i) rfl rfl (by omega) (by omega)) ?_
   refine wa (WM_nil (QM_block_normal ?_))
   exact QM_round (i, j - i, f - 1, (swr i (m - i) (m + j - i) d)) sl5 (fun W hm => hm) ⟨(show rot (f - 1) m i (j - i) (swr i (m - i) (m + j - i) d) = rot (b - a) m (m - a) (b - m) xs from (rot_lt (by omega) hf5).symm.trans hF), (show i + (j - i) ≤ (f - 1) from by omega), (show 0 < i from by omega), (show 0 < (j - i) from by omega), (show a + i ≤ m from by omega), (show m + (j - i) ≤ b from by omega)⟩ (show i + (j - i) < i + j from by omega)

theorem cb89 : Cb Try.prog 89 := ⟨f89, _, func89, rfl, by decide⟩
theorem srt60_symm_c {α : Type} [Inhabited α] (K : Ck α) (hK : K.s = 2) (cf : α → α → Int) (fc : FuncId) (B : Nat) (w0 : World) (is : List It) (H : CmpOk Try.prog fc K B w0 is cf) (A : Option Addr) (n c : Nat) (hn : n ≤ 68719476736) :
  ∀ (f : Nat) (a : Nat) (m : Nat) (b : Nat) (xs : List (List Value × α)) (h1 : b - a ≤ f) (h2 : a < m) (h3 : m < b) (h4 : b ≤ n) (w : World) (hm : Mem B w0 (iOwn (tSl (tCk K) 29) [.slice A n c] xs :: is) w),
  Calls Try.prog 89 #[.slice A n c, .int .i64 ((a : Nat) : Int), .int .i64 ((m : Nat) : Int), .int .i64 ((b : Nat) : Int), .func (.func fc) #[] #[]] w fun e w' => e = .returned (.tuple #[]) ∧ Mem B w0 (iOwn (tSl (tCk K) 29) [.slice A n c] (symm (ltc cf) f a m b xs) :: is) w' := by
 intro f
 revert A
 induction f with
 | zero => intro A a m b xs h1 h2 h3 h4 w hm; exact absurd h1 (by omega)
 | succ f ih =>
 intro A a m b xs h1 h2 h3 h4 w hm
 replace ih := ih A
 refine call_enterW (L := [(0, .slice A n c), (1, .int .i64 ((a : Nat) : Int)), (2, .int .i64 ((m : Nat) : Int)), (3, .int .i64 ((b : Nat) : Int)), (4, .func (.func fc) #[] #[])]) (N := 220) func89 rfl rfl (Nat.le_of_ble_eq_true rfl) (argsL_cons rfl (argsL_cons rfl (argsL_cons rfl (argsL_cons rfl (argsL_cons rfl argsL_nil))))) hm ?_
 refine CM_seq (sr (wm (wm ?_)))
 refine wv (fun W hm => rv_subN (p := m) (q := a) rfl rfl (by omega) (by omega)) ?_
 refine wv (fun W hm => rv_eql rfl rfl) ?_
 refine nt' ?_
 by_cases h1 : ((m - a : Nat) : Int) = 1
 ·have g2 := beq_iff_eq.2 h1
  refine CM_condT rfl g2 ?_
  refine sr (wm (wa (nt' (sr (wm (wa (nt' (CM_seq (CM_block ?_)))))))))
  refine CM_loop (σ := Nat × Nat × Nat) (fun s => [(0, .slice A n c), (1, .int .i64 ((a : Nat) : Int)), (4, .func (.func fc) #[] #[]), (10, .int .i64 ((s.1 : Nat) : Int)), (11, .int .i64 ((s.2.1 : Nat) : Int))]) (fun s => (iOwn (tSl (tCk K) 29) [.slice A n c] xs :: is)) (fun s => bsr (fun h => ltc cf (gt xs h) (gt xs a)) s.2.2 s.1 s.2.1 = bsr (fun h => ltc cf (gt xs h) (gt xs a)) (b - m) m b ∧ s.2.1 ≤ s.2.2 + s.1 ∧ m ≤ s.1 ∧ s.1 ≤ s.2.1 ∧ s.2.1 ≤ b) (fun s => s.2.1 - s.1) (m, b, b - m) sl5 (fun W hm => hm) ⟨(show bsr (fun h => ltc cf (gt xs h) (gt xs a)) (b - m) m b = bsr (fun h => ltc cf (gt xs h) (gt xs a)) (b - m) m b from rfl), (show b ≤ (b - m) + m from by omega), (show m ≤ m from by omega), (show m ≤ b from by omega), (show b ≤ b from by omega)⟩ ?_
  rintro ⟨i, j, f0⟩ H3
  obtain ⟨hB, hf5, hf6, hf7, hf8⟩ : bsr (fun h => ltc cf (gt xs h) (gt xs a)) f0 i j = bsr (fun h => ltc cf (gt xs h) (gt xs a)) (b - m) m b ∧ j ≤ f0 + i ∧ m ≤ i ∧ i ≤ j ∧ j ≤ b := H3
  show CM Try.prog 220 _ _ _ _ [(0, .slice A n c), (1, .int .i64 ((a : Nat) : Int)), (4, .func (.func fc) #[] #[]), (10, .int .i64 ((i : Nat) : Int)), (11, .int .i64 ((j : Nat) : Int))] (iOwn (tSl (tCk K) 29) [.slice A n c] xs :: is)
  refine CM_seq (sr (wm (wm ?_)))
  refine wv vlss ?_
  refine nt' ?_
  by_cases h4 : ((i : Nat) : Int) < ((j : Nat) : Int)
  ·have g5 := decide_eq_true h4
   refine CM_condT rfl g5 ?_
   refine CM_skip (QM_then (CM_block (sr (wm (wm ?_)))))
   refine wv (vadN i j (by omega)) ?_
   refine wv (fun W hm => rv_convIU (p := i + j) underlying3 underlying103 rfl (by omega)) ?_
   refine wv (fun W hm => rv_half rfl) ?_
   refine wv (fun W hm => rv_convUI (p := (i + j) / 2) underlying103 underlying3 rfl (by omega)) ?_
   refine wa (nt' (CM_seq ?_))
   refine CM_formO (n := 0) rfl (by omega) ?_
   rintro g6 rfl
   refine CM_regionD (by kernel_rfl) (by kernel_rfl) ?_
   refine qm (qm (qm ?_))
   refine qv (fun W hm => rv_index (sz := K.s) (k := (i + j) / 2) underlying39 type29 hK.symm rfl rfl (by omega)) ?_
   refine qv (fun W hm => rv_loadCk underlying29 type29 hK.symm rfl hm (by omega)) ?_
   refine qm (qm ?_)
   refine qv (fun W hm => rv_index (sz := K.s) (k := a) underlying39 type29 hK.symm rfl rfl (by omega)) ?_
   refine qv (fun W hm => rv_loadCk underlying29 type29 hK.symm rfl hm (by omega)) ?_
   refine QR_callV (cl_val (first := []) (caps := []) (vs := [.agg (gt xs ((i + j) / 2)).1.toArray, .agg (gt xs a).1.toArray]) (args := [.agg (gt xs ((i + j) / 2)).1.toArray, .agg (gt xs a).1.toArray]) H.cb rfl rfl rfl) (fun W hm => H.go W (gt xs ((i + j) / 2)) (gt xs a) hm.tail (hm.ck (by omega)).1 (hm.ck (by omega)).1) (Wd_none rfl) (by decide) ?_
   refine qv vlss ?_
   refine nq' ?_
   by_cases h7 : (cf (gt xs ((i + j) / 2)).2 (gt xs a).2) < 0
   ·have g8 := decide_eq_true h7
    refine CM_condT rfl g8 ?_
    refine CM_region (wm ?_)
    refine wv (fun W hm => rv_addN (p := (i + j) / 2) (q := 1) rfl rfl (by omega)) ?_
    refine wa (WM_nil (QM_block_normal ?_))
    exact QM_round ((i + j) / 2 + 1, j, f0 - 1) sl5 (fun W hm => hm) ⟨(show bsr (fun h => ltc cf (gt xs h) (gt xs a)) (f0 - 1) ((i + j) / 2 + 1) j = bsr (fun h => ltc cf (gt xs h) (gt xs a)) (b - m) m b from (bsr_t (by omega) hf5 (show decide (cf (gt xs ((i + j) / 2)).2 (gt xs a).2 < 0) = true from decide_eq_true (by omega))).symm.trans hB), (show j ≤ (f0 - 1) + ((i + j) / 2 + 1) from by omega), (show m ≤ ((i + j) / 2 + 1) from by omega), (show ((i + j) / 2 + 1) ≤ j from by omega), (show j ≤ b from by omega)⟩ (show j - ((i + j) / 2 + 1) < j - i from by omega)
   ·have g8 := decide_eq_false h7
    refine CM_condF rfl g8 ?_
    refine CM_region (wm (wa (WM_nil (QM_block_normal ?_))))
    exact QM_round (i, (i + j) / 2, f0 - 1) sl5 (fun W hm => hm) ⟨(show bsr (fun h => ltc cf (gt xs h) (gt xs a)) (f0 - 1) i ((i + j) / 2) = bsr (fun h => ltc cf (gt xs h) (gt xs a)) (b - m) m b from (bsr_f (by omega) hf5 (show decide (cf (gt xs ((i + j) / 2)).2 (gt xs a).2 < 0) = false from decide_eq_false (by omega))).symm.trans hB), (show ((i + j) / 2) ≤ (f0 - 1) + i from by omega), (show m ≤ i from by omega), (show i ≤ ((i + j) / 2) from by omega), (show ((i + j) / 2) ≤ b from by omega)⟩ (show ((i + j) / 2) - i < j - i from by omega)
  ·have g5 := decide_eq_false h4
   refine CM_condF rfl g5 ?_
   refine CM_exit (QM_then_exit (QM_then_exit ?_))
   have hA : bsr (fun h => ltc cf (gt xs h) (gt xs a)) (b - m) m b = i := hB.symm.trans (bsr_e (by omega))
   refine QM_block_hit (QM_then (CM_seq (sr (wm (wa (nt' (CM_block ?_)))))))
   refine CM_loop (σ := Nat × List (List Value × α)) (fun s => [(0, .slice A n c), (10, .int .i64 ((i : Nat) : Int)), (13, .int .i64 ((s.1 : Nat) : Int))]) (fun s => (iOwn (tSl (tCk K) 29) [.slice A n c] s.2 :: is)) (fun s => mvU (i - 1 - s.1) s.1 s.2 = mvU (i - 1 - a) a xs ∧ a ≤ s.1) (fun s => i - 1 - s.1) (a, xs) sl3 (fun W hm => hm) ⟨(show mvU (i - 1 - a) a xs = mvU (i - 1 - a) a xs from rfl), (show a ≤ a from by omega)⟩ ?_
   rintro ⟨k, d⟩ H9
   obtain ⟨hU, hf9⟩ : mvU (i - 1 - k) k d = mvU (i - 1 - a) a xs ∧ a ≤ k := H9
   show CM Try.prog 220 _ _ _ _ [(0, .slice A n c), (10, .int .i64 ((i : Nat) : Int)), (13, .int .i64 ((k : Nat) : Int))] (iOwn (tSl (tCk K) 29) [.slice A n c] d :: is)
   refine CM_seq (sr (wm (wm ?_)))
   refine wv (fun W hm => rv_subN (p := i) (q := 1) rfl rfl (by omega) (by omega)) ?_
   refine wv vlss ?_
   refine nt' ?_
   by_cases h10 : ((k : Nat) : Int) < ((i - 1 : Nat) : Int)
   ·have g11 := decide_eq_true h10
    refine CM_condT rfl g11 ?_
    refine CM_skip (QM_then (CM_seq (CM_block ?_)))
    refine CM_formO (n := 0) rfl (by omega) ?_
    rintro g13 rfl
    refine CM_ck ?_
    intro hR12
    let I1 : It := iOwn (tSl (tCk K) 29) [.slice (some ⟨g13, 0, none⟩) n c] ((d.set k (gt d (k + 1))).set (k + 1) (gt d k))
    refine CM_cut (σ := Unit) (fun _ => [(0, .slice (some ⟨g13, 0, none⟩) n c), (10, .int .i64 ((i : Nat) : Int)), (13, .int .i64 ((k : Nat) : Int))]) (fun _ => (I1 :: is)) (fun _ => True) ?_ ?_
    ·
     refine rb 18 (s := (is)) (fun W hm => (hm).tail) ?_
     refine qt 18 0 1 rfl vmv ?_
     refine qt 18 1 3 rfl vmv ?_
     refine qt 18 2 7 rfl vmv ?_
     refine qt 18 3 15 rfl vmv ?_
     refine qt 18 4 31 rfl (vadN k 1 (by omega)) ?_
     refine qt 18 5 63 rfl vmv ?_
     refine qt 18 6 127 rfl vmv ?_
     refine qt 18 7 255 rfl (vadN k 1 (by omega)) ?_
     refine qt 18 8 511 rfl (fun W hm => rv_index (sz := K.s) (k := k + 1) underlying39 type29 hK.symm rfl rfl (by omega)) ?_
     refine qt 18 10 1535 rfl vmv ?_
     refine qt 18 11 3583 rfl vmv ?_
     refine qt 18 12 7679 rfl (fun W hm => rv_index (sz := K.s) (k := k) underlying39 type29 hK.symm rfl rfl (by omega)) ?_
     refine qa [9, 13] ?_
     refine qc 18 8191 rfl ?_ ?_
     ·
      refine wv (fun W hm => rv_loadCk underlying29 type29 hK.symm rfl hm (by omega)) ?_
      refine qn (fun W hm => (hm).tail) ?_
      refine qo 18 13 16383 rfl ?_
      refine wv (fun W hm => rv_loadCk underlying29 type29 hK.symm rfl hm (by omega)) ?_
      refine qn (fun W hm => (hm).tail) ?_
      refine qt 18 14 32767 rfl (fun W hm => rv_index (sz := K.s) (k := k) underlying39 type29 hK.symm rfl rfl (by omega)) ?_
      refine qo 18 15 65535 rfl ?_
      refine WM_setEl (E := tCk K) (e := 29) (u := .agg (gt d (k + 1)).1.toArray) (k := k) (p := g13) (n := n) (xs := d) (eis := []) (js := is) (yv := (gt d (k + 1))) (fun W hm => hm) (fun _ _ hs => ⟨hs, rfl, (hR12 (k + 1) (by omega))⟩) rfl type29 hK.symm (by omega) rfl rfl (Wd_none rfl) ?_
      refine qn (fun W hm => (hm).tail) ?_
      refine qt 18 16 131071 rfl (fun W hm => rv_index (sz := K.s) (k := k + 1) underlying39 type29 hK.symm rfl rfl (by omega)) ?_
      refine qo 18 17 262143 rfl ?_
      refine WM_setEl (E := tCk K) (e := 29) (u := .agg (gt d k).1.toArray) (k := (k + 1)) (p := g13) (n := n) (xs := (d.set k (gt d (k + 1)))) (eis := []) (js := is) (yv := (gt d k)) (fun W hm => hm) (fun _ _ hs => ⟨hs, rfl, (hR12 k (by omega))⟩) rfl type29 hK.symm (by omega) rfl rfl (Wd_none rfl) ?_
      refine qn (fun W hm => (hm).tail) ?_
      refine QB_done (by kernel_rfl) ?_
      exact QM_cut_normal () sl3 (fun W hm => hm) trivial
     refine qc 18 15871 rfl ?_ ?_
     ·
      refine wv (fun W hm => rv_loadCk underlying29 type29 hK.symm rfl hm (by omega)) ?_
      refine qn (fun W hm => (hm).tail) ?_
      refine qo 18 9 16383 rfl ?_
      refine wv (fun W hm => rv_loadCk underlying29 type29 hK.symm rfl hm (by omega)) ?_
      refine qn (fun W hm => (hm).tail) ?_
      refine qt 18 14 32767 rfl (fun W hm => rv_index (sz := K.s) (k := k) underlying39 type29 hK.symm rfl rfl (by omega)) ?_
      refine qo 18 15 65535 rfl ?_
      refine WM_setEl (E := tCk K) (e := 29) (u := .agg (gt d (k + 1)).1.toArray) (k := k) (p := g13) (n := n) (xs := d) (eis := []) (js := is) (yv := (gt d (k + 1))) (fun W hm => hm) (fun _ _ hs => ⟨hs, rfl, (hR12 (k + 1) (by omega))⟩) rfl type29 hK.symm (by omega) rfl rfl (Wd_none rfl) ?_
      refine qn (fun W hm => (hm).tail) ?_
      refine qt 18 16 131071 rfl (fun W hm => rv_index (sz := K.s) (k := k + 1) underlying39 type29 hK.symm rfl rfl (by omega)) ?_
      refine qo 18 17 262143 rfl ?_
      refine WM_setEl (E := tCk K) (e := 29) (u := .agg (gt d k).1.toArray) (k := (k + 1)) (p := g13) (n := n) (xs := (d.set k (gt d (k + 1)))) (eis := []) (js := is) (yv := (gt d k)) (fun W hm => hm) (fun _ _ hs => ⟨hs, rfl, (hR12 k (by omega))⟩) rfl type29 hK.symm (by omega) rfl rfl (Wd_none rfl) ?_
      refine qn (fun W hm => (hm).tail) ?_
      refine QB_done (by kernel_rfl) ?_
      exact QM_cut_normal () sl3 (fun W hm => hm) trivial
     exact QBs_nil
    ·
     rintro ⟨⟩ -
     show QM 220 _ _ _ .normal [(0, .slice (some ⟨g13, 0, none⟩) n c), (10, .int .i64 ((i : Nat) : Int)), (13, .int .i64 ((k : Nat) : Int))] (I1 :: is)
     refine QM_block_normal (QM_then (CM_region (wm ?_)))
     refine wv (vadN k 1 (by omega)) ?_
     refine wa (WM_nil ?_)
     exact QM_round (k + 1, ((d.set k (gt d (k + 1))).set (k + 1) (gt d k))) sl3 (fun W hm => hm) ⟨(show mvU (i - 1 - (k + 1)) (k + 1) ((d.set k (gt d (k + 1))).set (k + 1) (gt d k)) = mvU (i - 1 - a) a xs from (mvU_step (by omega)).symm.trans hU), (show a ≤ (k + 1) from by omega)⟩ (rl (by omega))
   ·have g11 := decide_eq_false h10
    refine CM_condF rfl g11 ?_
    refine CM_exit (QM_then_exit (QM_then_exit (QM_block_hit (QM_then (CM_ret (QM_then_ret ?_))))))
    have hE : symm (ltc cf) (f + 1) a m b xs = d := (symm_a (by omega)).trans (by rw [hA]; exact ((mvU_end (by omega)).symm.trans hU).symm)
    exact QM_ret0r rfl (fun W hm => ⟨rfl, by rw [hE]; exact hm⟩)
 ·have g2 := beq_eq_false_iff_ne.2 h1
  refine CM_condF rfl g2 ?_
  refine CM_skip (QM_then (CM_seq (sr (wm (wm ?_)))))
  refine wv (fun W hm => rv_subN (p := b) (q := m) rfl rfl (by omega) (by omega)) ?_
  refine wv (fun W hm => rv_eql rfl rfl) ?_
  refine nt' ?_
  by_cases h14 : ((b - m : Nat) : Int) = 1
  ·have g15 := beq_iff_eq.2 h14
   refine CM_condT rfl g15 ?_
   refine sr (wm (wa (nt' (sr (wm (wa (nt' (CM_seq (CM_block ?_)))))))))
   refine CM_loop (σ := Nat × Nat × Nat) (fun s => [(0, .slice A n c), (2, .int .i64 ((m : Nat) : Int)), (4, .func (.func fc) #[] #[]), (14, .int .i64 ((s.1 : Nat) : Int)), (15, .int .i64 ((s.2.1 : Nat) : Int))]) (fun s => (iOwn (tSl (tCk K) 29) [.slice A n c] xs :: is)) (fun s => bsr (fun h => !ltc cf (gt xs m) (gt xs h)) s.2.2 s.1 s.2.1 = bsr (fun h => !ltc cf (gt xs m) (gt xs h)) (m - a) a m ∧ s.2.1 ≤ s.2.2 + s.1 ∧ a ≤ s.1 ∧ s.1 ≤ s.2.1 ∧ s.2.1 ≤ m) (fun s => s.2.1 - s.1) (a, m, m - a) sl5 (fun W hm => hm) ⟨(show bsr (fun h => !ltc cf (gt xs m) (gt xs h)) (m - a) a m = bsr (fun h => !ltc cf (gt xs m) (gt xs h)) (m - a) a m from rfl), (show m ≤ (m - a) + a from by omega), (show a ≤ a from by omega), (show a ≤ m from by omega), (show m ≤ m from by omega)⟩ ?_
   rintro ⟨i, j, f0⟩ H16
   obtain ⟨hB, hf5, hf6, hf7, hf8⟩ : bsr (fun h => !ltc cf (gt xs m) (gt xs h)) f0 i j = bsr (fun h => !ltc cf (gt xs m) (gt xs h)) (m - a) a m ∧ j ≤ f0 + i ∧ a ≤ i ∧ i ≤ j ∧ j ≤ m := H16
   show CM Try.prog 220 _ _ _ _ [(0, .slice A n c), (2, .int .i64 ((m : Nat) : Int)), (4, .func (.func fc) #[] #[]), (14, .int .i64 ((i : Nat) : Int)), (15, .int .i64 ((j : Nat) : Int))] (iOwn (tSl (tCk K) 29) [.slice A n c] xs :: is)
   refine CM_seq (sr (wm (wm ?_)))
   refine wv vlss ?_
   refine nt' ?_
   by_cases h17 : ((i : Nat) : Int) < ((j : Nat) : Int)
   ·have g18 := decide_eq_true h17
    refine CM_condT rfl g18 ?_
    refine CM_skip (QM_then (CM_block (sr (wm (wm ?_)))))
    refine wv (vadN i j (by omega)) ?_
    refine wv (fun W hm => rv_convIU (p := i + j) underlying3 underlying103 rfl (by omega)) ?_
    refine wv (fun W hm => rv_half rfl) ?_
    refine wv (fun W hm => rv_convUI (p := (i + j) / 2) underlying103 underlying3 rfl (by omega)) ?_
    refine wa (nt' (CM_seq ?_))
    refine CM_formO (n := 0) rfl (by omega) ?_
    rintro g19 rfl
    refine CM_regionD (by kernel_rfl) (by kernel_rfl) ?_
    refine qm (qm (qm ?_))
    refine qv (fun W hm => rv_index (sz := K.s) (k := m) underlying39 type29 hK.symm rfl rfl (by omega)) ?_
    refine qv (fun W hm => rv_loadCk underlying29 type29 hK.symm rfl hm (by omega)) ?_
    refine qm (qm ?_)
    refine qv (fun W hm => rv_index (sz := K.s) (k := (i + j) / 2) underlying39 type29 hK.symm rfl rfl (by omega)) ?_
    refine qv (fun W hm => rv_loadCk underlying29 type29 hK.symm rfl hm (by omega)) ?_
    refine QR_callV (cl_val (first := []) (caps := []) (vs := [.agg (gt xs m).1.toArray, .agg (gt xs ((i + j) / 2)).1.toArray]) (args := [.agg (gt xs m).1.toArray, .agg (gt xs ((i + j) / 2)).1.toArray]) H.cb rfl rfl rfl) (fun W hm => H.go W (gt xs m) (gt xs ((i + j) / 2)) hm.tail (hm.ck (by omega)).1 (hm.ck (by omega)).1) (Wd_none rfl) (by decide) ?_
    refine qv vlss ?_
    refine qv vnot ?_
    refine nq' ?_
    by_cases h20 : (cf (gt xs m).2 (gt xs ((i + j) / 2)).2) < 0
    ·have g21 := decide_eq_true h20
     refine CM_condF rfl (nt g21) ?_
     refine CM_region (wm (wa (WM_nil (QM_block_normal ?_))))
     exact QM_round (i, (i + j) / 2, f0 - 1) sl5 (fun W hm => hm) ⟨(show bsr (fun h => !ltc cf (gt xs m) (gt xs h)) (f0 - 1) i ((i + j) / 2) = bsr (fun h => !ltc cf (gt xs m) (gt xs h)) (m - a) a m from (bsr_f (by omega) hf5 (show (!decide (cf (gt xs m).2 (gt xs ((i + j) / 2)).2 < 0)) = false from by rw [decide_eq_true (show cf (gt xs m).2 (gt xs ((i + j) / 2)).2 < 0 by omega)]; rfl)).symm.trans hB), (show ((i + j) / 2) ≤ (f0 - 1) + i from by omega), (show a ≤ i from by omega), (show i ≤ ((i + j) / 2) from by omega), (show ((i + j) / 2) ≤ m from by omega)⟩ (show ((i + j) / 2) - i < j - i from by omega)
    ·have g21 := decide_eq_false h20
     refine CM_condT rfl (nf g21) ?_
     refine CM_region (wm ?_)
     refine wv (fun W hm => rv_addN (p := (i + j) / 2) (q := 1) rfl rfl (by omega)) ?_
     refine wa (WM_nil (QM_block_normal ?_))
     exact QM_round ((i + j) / 2 + 1, j, f0 - 1) sl5 (fun W hm => hm) ⟨(show bsr (fun h => !ltc cf (gt xs m) (gt xs h)) (f0 - 1) ((i + j) / 2 + 1) j = bsr (fun h => !ltc cf (gt xs m) (gt xs h)) (m - a) a m from (bsr_t (by omega) hf5 (show (!decide (cf (gt xs m).2 (gt xs ((i + j) / 2)).2 < 0)) = true from by rw [decide_eq_false (show ¬ cf (gt xs m).2 (gt xs ((i + j) / 2)).2 < 0 by omega)]; rfl)).symm.trans hB), (show j ≤ (f0 - 1) + ((i + j) / 2 + 1) from by omega), (show a ≤ ((i + j) / 2 + 1) from by omega), (show ((i + j) / 2 + 1) ≤ j from by omega), (show j ≤ m from by omega)⟩ (show j - ((i + j) / 2 + 1) < j - i from by omega)
   ·have g18 := decide_eq_false h17
    refine CM_condF rfl g18 ?_
    refine CM_exit (QM_then_exit (QM_then_exit ?_))
    have hA : bsr (fun h => !ltc cf (gt xs m) (gt xs h)) (m - a) a m = i := hB.symm.trans (bsr_e (by omega))
    refine QM_block_hit (QM_then (CM_seq (sr (wm (wa (nt' (CM_block ?_)))))))
    refine CM_loop (σ := Nat × List (List Value × α)) (fun s => [(0, .slice A n c), (14, .int .i64 ((i : Nat) : Int)), (17, .int .i64 ((s.1 : Nat) : Int))]) (fun s => (iOwn (tSl (tCk K) 29) [.slice A n c] s.2 :: is)) (fun s => mvD (s.1 - i) s.1 s.2 = mvD (m - i) m xs ∧ s.1 ≤ m) (fun s => s.1) (m, xs) sl3 (fun W hm => hm) ⟨(show mvD (m - i) m xs = mvD (m - i) m xs from rfl), (show m ≤ m from by omega)⟩ ?_
    rintro ⟨k, d⟩ H22
    obtain ⟨hU, hf9⟩ : mvD (k - i) k d = mvD (m - i) m xs ∧ k ≤ m := H22
    show CM Try.prog 220 _ _ _ _ [(0, .slice A n c), (14, .int .i64 ((i : Nat) : Int)), (17, .int .i64 ((k : Nat) : Int))] (iOwn (tSl (tCk K) 29) [.slice A n c] d :: is)
    refine CM_seq (sr (wm (wm ?_)))
    refine wv (fun W hm => rv_gtr rfl rfl) ?_
    refine nt' ?_
    by_cases h23 : ((i : Nat) : Int) < ((k : Nat) : Int)
    ·have g24 := decide_eq_true h23
     refine CM_condT rfl g24 ?_
     refine CM_skip (QM_then (CM_seq (CM_block ?_)))
     refine CM_formO (n := 0) rfl (by omega) ?_
     rintro g26 rfl
     refine CM_ck ?_
     intro hR25
     let I2 : It := iOwn (tSl (tCk K) 29) [.slice (some ⟨g26, 0, none⟩) n c] ((d.set k (gt d (k - 1))).set (k - 1) (gt d k))
     refine CM_cut (σ := Unit) (fun _ => [(0, .slice (some ⟨g26, 0, none⟩) n c), (14, .int .i64 ((i : Nat) : Int)), (17, .int .i64 ((k : Nat) : Int))]) (fun _ => (I2 :: is)) (fun _ => True) ?_ ?_
     ·
      refine rb 18 (s := (is)) (fun W hm => (hm).tail) ?_
      refine qt 18 0 1 rfl vmv ?_
      refine qt 18 1 3 rfl vmv ?_
      refine qt 18 2 7 rfl vmv ?_
      refine qt 18 3 15 rfl vmv ?_
      refine qt 18 4 31 rfl (fun W hm => rv_subN (p := k) (q := 1) rfl rfl (by omega) (by omega)) ?_
      refine qt 18 5 63 rfl vmv ?_
      refine qt 18 6 127 rfl vmv ?_
      refine qt 18 7 255 rfl (fun W hm => rv_subN (p := k) (q := 1) rfl rfl (by omega) (by omega)) ?_
      refine qt 18 8 511 rfl (fun W hm => rv_index (sz := K.s) (k := k - 1) underlying39 type29 hK.symm rfl rfl (by omega)) ?_
      refine qt 18 10 1535 rfl vmv ?_
      refine qt 18 11 3583 rfl vmv ?_
      refine qt 18 12 7679 rfl (fun W hm => rv_index (sz := K.s) (k := k) underlying39 type29 hK.symm rfl rfl (by omega)) ?_
      refine qa [9, 13] ?_
      refine qc 18 8191 rfl ?_ ?_
      ·
       refine wv (fun W hm => rv_loadCk underlying29 type29 hK.symm rfl hm (by omega)) ?_
       refine qn (fun W hm => (hm).tail) ?_
       refine qo 18 13 16383 rfl ?_
       refine wv (fun W hm => rv_loadCk underlying29 type29 hK.symm rfl hm (by omega)) ?_
       refine qn (fun W hm => (hm).tail) ?_
       refine qt 18 14 32767 rfl (fun W hm => rv_index (sz := K.s) (k := k) underlying39 type29 hK.symm rfl rfl (by omega)) ?_
       refine qo 18 15 65535 rfl ?_
       refine WM_setEl (E := tCk K) (e := 29) (u := .agg (gt d (k - 1)).1.toArray) (k := k) (p := g26) (n := n) (xs := d) (eis := []) (js := is) (yv := (gt d (k - 1))) (fun W hm => hm) (fun _ _ hs => ⟨hs, rfl, (hR25 (k - 1) (by omega))⟩) rfl type29 hK.symm (by omega) rfl rfl (Wd_none rfl) ?_
       refine qn (fun W hm => (hm).tail) ?_
       refine qt 18 16 131071 rfl (fun W hm => rv_index (sz := K.s) (k := k - 1) underlying39 type29 hK.symm rfl rfl (by omega)) ?_
       refine qo 18 17 262143 rfl ?_
       refine WM_setEl (E := tCk K) (e := 29) (u := .agg (gt d k).1.toArray) (k := (k - 1)) (p := g26) (n := n) (xs := (d.set k (gt d (k - 1)))) (eis := []) (js := is) (yv := (gt d k)) (fun W hm => hm) (fun _ _ hs => ⟨hs, rfl, (hR25 k (by omega))⟩) rfl type29 hK.symm (by omega) rfl rfl (Wd_none rfl) ?_
       refine qn (fun W hm => (hm).tail) ?_
       refine QB_done (by kernel_rfl) ?_
       exact QM_cut_normal () sl3 (fun W hm => hm) trivial
      refine qc 18 15871 rfl ?_ ?_
      ·
       refine wv (fun W hm => rv_loadCk underlying29 type29 hK.symm rfl hm (by omega)) ?_
       refine qn (fun W hm => (hm).tail) ?_
       refine qo 18 9 16383 rfl ?_
       refine wv (fun W hm => rv_loadCk underlying29 type29 hK.symm rfl hm (by omega)) ?_
       refine qn (fun W hm => (hm).tail) ?_
       refine qt 18 14 32767 rfl (fun W hm => rv_index (sz := K.s) (k := k) underlying39 type29 hK.symm rfl rfl (by omega)) ?_
       refine qo 18 15 65535 rfl ?_
       refine WM_setEl (E := tCk K) (e := 29) (u := .agg (gt d (k - 1)).1.toArray) (k := k) (p := g26) (n := n) (xs := d) (eis := []) (js := is) (yv := (gt d (k - 1))) (fun W hm => hm) (fun _ _ hs => ⟨hs, rfl, (hR25 (k - 1) (by omega))⟩) rfl type29 hK.symm (by omega) rfl rfl (Wd_none rfl) ?_
       refine qn (fun W hm => (hm).tail) ?_
       refine qt 18 16 131071 rfl (fun W hm => rv_index (sz := K.s) (k := k - 1) underlying39 type29 hK.symm rfl rfl (by omega)) ?_
       refine qo 18 17 262143 rfl ?_
       refine WM_setEl (E := tCk K) (e := 29) (u := .agg (gt d k).1.toArray) (k := (k - 1)) (p := g26) (n := n) (xs := (d.set k (gt d (k - 1)))) (eis := []) (js := is) (yv := (gt d k)) (fun W hm => hm) (fun _ _ hs => ⟨hs, rfl, (hR25 k (by omega))⟩) rfl type29 hK.symm (by omega) rfl rfl (Wd_none rfl) ?_
       refine qn (fun W hm => (hm).tail) ?_
       refine QB_done (by kernel_rfl) ?_
       exact QM_cut_normal () sl3 (fun W hm => hm) trivial
      exact QBs_nil
     ·
      rintro ⟨⟩ -
      show QM 220 _ _ _ .normal [(0, .slice (some ⟨g26, 0, none⟩) n c), (14, .int .i64 ((i : Nat) : Int)), (17, .int .i64 ((k : Nat) : Int))] (I2 :: is)
      refine QM_block_normal (QM_then (CM_region (wm ?_)))
      refine wv (fun W hm => rv_subN (p := k) (q := 1) rfl rfl (by omega) (by omega)) ?_
      refine wa (WM_nil ?_)
      exact QM_round (k - 1, ((d.set k (gt d (k - 1))).set (k - 1) (gt d k))) sl3 (fun W hm => hm) ⟨(show mvD ((k - 1) - i) (k - 1) ((d.set k (gt d (k - 1))).set (k - 1) (gt d k)) = mvD (m - i) m xs from (mvD_step (by omega)).symm.trans hU), (show (k - 1) ≤ m from by omega)⟩ (show (k - 1) < k from by omega)
    ·have g24 := decide_eq_false h23
     refine CM_condF rfl g24 ?_
     refine CM_exit (QM_then_exit (QM_then_exit (QM_block_hit (QM_then (CM_ret (QM_then_ret ?_))))))
     have hE : symm (ltc cf) (f + 1) a m b xs = d := (symm_b (by omega) (by omega)).trans (by rw [hA]; exact ((mvD_end (by omega)).symm.trans hU).symm)
     exact QM_ret0r rfl (fun W hm => ⟨rfl, by rw [hE]; exact hm⟩)
  ·have g15 := beq_eq_false_iff_ne.2 h14
   refine CM_condF rfl g15 ?_
   refine CM_skip (QM_then (sr (wm (wm ?_))))
   refine wv (vadN a b (by omega)) ?_
   refine wv (fun W hm => rv_convIU (p := a + b) underlying3 underlying103 rfl (by omega)) ?_
   refine wv (fun W hm => rv_half rfl) ?_
   refine wv (fun W hm => rv_convUI (p := (a + b) / 2) underlying103 underlying3 rfl (by omega)) ?_
   refine wa (nt' (sr (wm (wm ?_))))
   refine wv (fun W hm => rv_addN (p := (a + b) / 2) (q := m) rfl rfl (by omega)) ?_
   refine wa (nt' (sr (wa (wa (nt' (CM_seq (sr (wm (wm ?_)))))))))
   refine wv (fun W hm => rv_gtr rfl rfl) ?_
   refine nt' ?_
   refine CM_cut (σ := Nat × Nat) (fun s => [(0, .slice A n c), (1, .int .i64 ((a : Nat) : Int)), (2, .int .i64 ((m : Nat) : Int)), (3, .int .i64 ((b : Nat) : Int)), (4, .func (.func fc) #[] #[]), (18, .int .i64 (((a + b) / 2 : Nat) : Int)), (19, .int .i64 (((a + b) / 2 + m : Nat) : Int)), (20, .int .i64 ((s.1 : Nat) : Int)), (21, .int .i64 ((s.2 : Nat) : Int))]) (fun _ => (iOwn (tSl (tCk K) 29) [.slice A n c] xs :: is)) (fun s => s.1 = cond (decide ((a + b) / 2 < m)) ((a + b) / 2 + m - b) a ∧ s.2 = cond (decide ((a + b) / 2 < m)) ((a + b) / 2) m ∧ (((a + b) / 2 < m ∧ s.1 = (a + b) / 2 + m - b ∧ s.2 = (a + b) / 2) ∨ (m ≤ (a + b) / 2 ∧ s.1 = a ∧ s.2 = m))) ?_ ?_
   ·
    by_cases h27 : (((a + b) / 2 : Nat) : Int) < ((m : Nat) : Int)
    ·have g28 := decide_eq_true h27
     refine CM_condT rfl g28 ?_
     refine sr (wm (wm ?_))
     refine wv (fun W hm => rv_subN (p := (a + b) / 2 + m) (q := b) rfl rfl (by omega) (by omega)) ?_
     refine wa (nt' (CM_region (wm (wa (WM_nil ?_)))))
     exact QM_cut_normal ((a + b) / 2 + m - b, (a + b) / 2) sl9 (fun W hm => hm) ⟨by rw [decide_eq_true (show (a + b) / 2 < m by omega)]; rfl, by rw [decide_eq_true (show (a + b) / 2 < m by omega)]; rfl, .inl ⟨by omega, rfl, rfl⟩⟩
    ·have g28 := decide_eq_false h27
     refine CM_condF rfl g28 ?_
     refine sr (wm (wa (nt' (CM_region (wm (wa (WM_nil ?_)))))))
     exact QM_cut_normal (a, m) sl9 (fun W hm => hm) ⟨by rw [decide_eq_false (show ¬ (a + b) / 2 < m by omega)]; rfl, by rw [decide_eq_false (show ¬ (a + b) / 2 < m by omega)]; rfl, .inr ⟨by omega, rfl, rfl⟩⟩
   ·
    rintro ⟨s0, r0⟩ ⟨hs0, hr0, hs⟩
    show QM 220 _ _ _ .normal [(0, .slice A n c), (1, .int .i64 ((a : Nat) : Int)), (2, .int .i64 ((m : Nat) : Int)), (3, .int .i64 ((b : Nat) : Int)), (4, .func (.func fc) #[] #[]), (18, .int .i64 (((a + b) / 2 : Nat) : Int)), (19, .int .i64 (((a + b) / 2 + m : Nat) : Int)), (20, .int .i64 ((s0 : Nat) : Int)), (21, .int .i64 ((r0 : Nat) : Int))] (iOwn (tSl (tCk K) 29) [.slice A n c] xs :: is)
    refine QM_then (sr (wm ?_))
    refine wv (fun W hm => rv_subN (p := (a + b) / 2 + m) (q := 1) rfl rfl (by omega) (by omega)) ?_
    refine wa (nt' (CM_seq (CM_block ?_)))
    refine CM_loop (σ := Nat × Nat × Nat) (fun s => [(0, .slice A n c), (1, .int .i64 ((a : Nat) : Int)), (2, .int .i64 ((m : Nat) : Int)), (3, .int .i64 ((b : Nat) : Int)), (4, .func (.func fc) #[] #[]), (18, .int .i64 (((a + b) / 2 : Nat) : Int)), (19, .int .i64 (((a + b) / 2 + m : Nat) : Int)), (20, .int .i64 ((s.1 : Nat) : Int)), (21, .int .i64 ((s.2.1 : Nat) : Int)), (22, .int .i64 (((a + b) / 2 + m - 1 : Nat) : Int))]) (fun s => (iOwn (tSl (tCk K) 29) [.slice A n c] xs :: is)) (fun s => bsr (fun c => !ltc cf (gt xs ((a + b) / 2 + m - 1 - c)) (gt xs c)) s.2.2 s.1 s.2.1 = bsr (fun c => !ltc cf (gt xs ((a + b) / 2 + m - 1 - c)) (gt xs c)) (r0 - s0) s0 r0 ∧ s.2.1 ≤ s.2.2 + s.1 ∧ s0 ≤ s.1 ∧ s.1 ≤ s.2.1 ∧ s.2.1 ≤ r0) (fun s => s.2.1 - s.1) (s0, r0, r0 - s0) sl10 (fun W hm => hm) ⟨(show bsr (fun c => !ltc cf (gt xs ((a + b) / 2 + m - 1 - c)) (gt xs c)) (r0 - s0) s0 r0 = bsr (fun c => !ltc cf (gt xs ((a + b) / 2 + m - 1 - c)) (gt xs c)) (r0 - s0) s0 r0 from rfl), (show r0 ≤ (r0 - s0) + s0 from by omega), (show s0 ≤ s0 from by omega), (show s0 ≤ r0 from by omega), (show r0 ≤ r0 from by omega)⟩ ?_
    rintro ⟨i, j, f0⟩ H29
    obtain ⟨hB, hf5, hf6, hf7, hf8⟩ : bsr (fun c => !ltc cf (gt xs ((a + b) / 2 + m - 1 - c)) (gt xs c)) f0 i j = bsr (fun c => !ltc cf (gt xs ((a + b) / 2 + m - 1 - c)) (gt xs c)) (r0 - s0) s0 r0 ∧ j ≤ f0 + i ∧ s0 ≤ i ∧ i ≤ j ∧ j ≤ r0 := H29
    show CM Try.prog 220 _ _ _ _ [(0, .slice A n c), (1, .int .i64 ((a : Nat) : Int)), (2, .int .i64 ((m : Nat) : Int)), (3, .int .i64 ((b : Nat) : Int)), (4, .func (.func fc) #[] #[]), (18, .int .i64 (((a + b) / 2 : Nat) : Int)), (19, .int .i64 (((a + b) / 2 + m : Nat) : Int)), (20, .int .i64 ((i : Nat) : Int)), (21, .int .i64 ((j : Nat) : Int)), (22, .int .i64 (((a + b) / 2 + m - 1 : Nat) : Int))] (iOwn (tSl (tCk K) 29) [.slice A n c] xs :: is)
    refine CM_seq (sr (wm (wm ?_)))
    refine wv vlss ?_
    refine nt' ?_
    by_cases h30 : ((i : Nat) : Int) < ((j : Nat) : Int)
    ·have g31 := decide_eq_true h30
     refine CM_condT rfl g31 ?_
     refine CM_skip (QM_then (CM_block (sr (wm (wm ?_)))))
     refine wv (vadN i j (by omega)) ?_
     refine wv (fun W hm => rv_convIU (p := i + j) underlying3 underlying103 rfl (by omega)) ?_
     refine wv (fun W hm => rv_half rfl) ?_
     refine wv (fun W hm => rv_convUI (p := (i + j) / 2) underlying103 underlying3 rfl (by omega)) ?_
     refine wa (nt' (CM_seq ?_))
     refine CM_formO (n := 0) rfl (by omega) ?_
     rintro g32 rfl
     refine CM_regionD (by kernel_rfl) (by kernel_rfl) ?_
     refine qm (qm (qm (qm ?_)))
     refine qv (fun W hm => rv_subN (p := (a + b) / 2 + m - 1) (q := (i + j) / 2) rfl rfl (by omega) (by omega)) ?_
     refine qv (fun W hm => rv_index (sz := K.s) (k := (a + b) / 2 + m - 1 - ((i + j) / 2)) underlying39 type29 hK.symm rfl rfl (by omega)) ?_
     refine qv (fun W hm => rv_loadCk underlying29 type29 hK.symm rfl hm (by omega)) ?_
     refine qm (qm ?_)
     refine qv (fun W hm => rv_index (sz := K.s) (k := (i + j) / 2) underlying39 type29 hK.symm rfl rfl (by omega)) ?_
     refine qv (fun W hm => rv_loadCk underlying29 type29 hK.symm rfl hm (by omega)) ?_
     refine QR_callV (cl_val (first := []) (caps := []) (vs := [.agg (gt xs ((a + b) / 2 + m - 1 - ((i + j) / 2))).1.toArray, .agg (gt xs ((i + j) / 2)).1.toArray]) (args := [.agg (gt xs ((a + b) / 2 + m - 1 - ((i + j) / 2))).1.toArray, .agg (gt xs ((i + j) / 2)).1.toArray]) H.cb rfl rfl rfl) (fun W hm => H.go W (gt xs ((a + b) / 2 + m - 1 - ((i + j) / 2))) (gt xs ((i + j) / 2)) hm.tail (hm.ck (by omega)).1 (hm.ck (by omega)).1) (Wd_none rfl) (by decide) ?_
     refine qv vlss ?_
     refine qv vnot ?_
     refine nq' ?_
     by_cases h33 : (cf (gt xs ((a + b) / 2 + m - 1 - ((i + j) / 2))).2 (gt xs ((i + j) / 2)).2) < 0
     ·have g34 := decide_eq_true h33
      refine CM_condF rfl (nt g34) ?_
      refine CM_region (wm (wa (WM_nil (QM_block_normal ?_))))
      exact QM_round (i, (i + j) / 2, f0 - 1) sl10 (fun W hm => hm) ⟨(show bsr (fun c => !ltc cf (gt xs ((a + b) / 2 + m - 1 - c)) (gt xs c)) (f0 - 1) i ((i + j) / 2) = bsr (fun c => !ltc cf (gt xs ((a + b) / 2 + m - 1 - c)) (gt xs c)) (r0 - s0) s0 r0 from (bsr_f (by omega) hf5 (show (!decide (cf (gt xs ((a + b) / 2 + m - 1 - ((i + j) / 2))).2 (gt xs ((i + j) / 2)).2 < 0)) = false from by rw [decide_eq_true (show cf (gt xs ((a + b) / 2 + m - 1 - ((i + j) / 2))).2 (gt xs ((i + j) / 2)).2 < 0 by omega)]; rfl)).symm.trans hB), (show ((i + j) / 2) ≤ (f0 - 1) + i from by omega), (show s0 ≤ i from by omega), (show i ≤ ((i + j) / 2) from by omega), (show ((i + j) / 2) ≤ r0 from by omega)⟩ (show ((i + j) / 2) - i < j - i from by omega)
     ·have g34 := decide_eq_false h33
      refine CM_condT rfl (nf g34) ?_
      refine CM_region (wm ?_)
      refine wv (fun W hm => rv_addN (p := (i + j) / 2) (q := 1) rfl rfl (by omega)) ?_
      refine wa (WM_nil (QM_block_normal ?_))
      exact QM_round ((i + j) / 2 + 1, j, f0 - 1) sl10 (fun W hm => hm) ⟨(show bsr (fun c => !ltc cf (gt xs ((a + b) / 2 + m - 1 - c)) (gt xs c)) (f0 - 1) ((i + j) / 2 + 1) j = bsr (fun c => !ltc cf (gt xs ((a + b) / 2 + m - 1 - c)) (gt xs c)) (r0 - s0) s0 r0 from (bsr_t (by omega) hf5 (show (!decide (cf (gt xs ((a + b) / 2 + m - 1 - ((i + j) / 2))).2 (gt xs ((i + j) / 2)).2 < 0)) = true from by rw [decide_eq_false (show ¬ cf (gt xs ((a + b) / 2 + m - 1 - ((i + j) / 2))).2 (gt xs ((i + j) / 2)).2 < 0 by omega)]; rfl)).symm.trans hB), (show j ≤ (f0 - 1) + ((i + j) / 2 + 1) from by omega), (show s0 ≤ ((i + j) / 2 + 1) from by omega), (show ((i + j) / 2 + 1) ≤ j from by omega), (show j ≤ r0 from by omega)⟩ (show j - ((i + j) / 2 + 1) < j - i from by omega)
    ·have g31 := decide_eq_false h30
     refine CM_condF rfl g31 ?_
     refine CM_exit (QM_then_exit (QM_then_exit ?_))
     have hA : bsr (fun c => !ltc cf (gt xs ((a + b) / 2 + m - 1 - c)) (gt xs c)) (r0 - s0) s0 r0 = i := hB.symm.trans (bsr_e (by omega))
     refine QM_block_hit (QM_then (sr (wm (wm ?_))))
     refine wv (fun W hm => rv_subN (p := (a + b) / 2 + m) (q := i) rfl rfl (by omega) (by omega)) ?_
     refine wa (nt' (CM_seq (sr (wm (wm ?_)))))
     refine wv vlss ?_
     refine wm ?_
     by_cases h35 : ((i : Nat) : Int) < ((m : Nat) : Int)
     ·have g36 := decide_eq_true h35
      refine wg vmv g36 ?_
      refine wg vmv g36 ?_
      refine wg vlss g36 ?_
      refine wv (vpT g36) ?_
      refine nt' ?_
      by_cases h37 : ((m : Nat) : Int) < (((a + b) / 2 + m - i : Nat) : Int)
      ·have g38 := decide_eq_true h37
       refine CM_condT rfl g38 ?_
       refine CM_region (wm (wm (wm (wm (wm ?_)))))
       refine WM_callW (χ := Unit) (val := fun _ => .tuple #[]) (js := fun _ => (iOwn (tSl (tCk K) 29) [.slice A n c] (rot ((a + b) / 2 + m - i - i) m (m - i) ((a + b) / 2 + m - i - m) xs) :: is)) (cl_fn cb91 rfl) (fun W hm => (srt60_rot_c K hK cf fc B w0 is H A n c hn i m ((a + b) / 2 + m - i) xs (by omega) (by omega) (by omega) W hm).mono (fun _ _ h => ⟨(), h.1, h.2⟩)) (Wd_none rfl) (by decide) (fun _ => ?_)
       refine nt' (CM_seq (sr (wm (wm ?_))))
       refine wv vlss ?_
       refine wm ?_
       by_cases h39 : ((a : Nat) : Int) < ((i : Nat) : Int)
       ·have g40 := decide_eq_true h39
        refine wg vmv g40 ?_
        refine wg vmv g40 ?_
        refine wg vlss g40 ?_
        refine wv (vpT g40) ?_
        refine nt' ?_
        have g41 : (decide (((i : Nat) : Int) < (((a + b) / 2 : Nat) : Int))) = true := decide_eq_true (by omega)
        refine CM_condT rfl g41 ?_
        refine CM_region (wm (wm (wm (wm (wm ?_)))))
        refine WM_callW (χ := Unit) (val := fun _ => .tuple #[]) (js := fun _ => (iOwn (tSl (tCk K) 29) [.slice A n c] (symm (ltc cf) f a i ((a + b) / 2) (rot ((a + b) / 2 + m - i - i) m (m - i) ((a + b) / 2 + m - i - m) xs)) :: is)) (cl_fn cb89 rfl) (fun W hm => (ih a i ((a + b) / 2) (rot ((a + b) / 2 + m - i - i) m (m - i) ((a + b) / 2 + m - i - m) xs) (by omega) (by omega) (by omega) (by omega) W hm).mono (fun _ _ h => ⟨(), h.1, h.2⟩)) (Wd_none rfl) (by decide) (fun _ => ?_)
        refine nt' (sr (wm (wm ?_)))
        refine wv vlss ?_
        refine wm ?_
        have g42 : (decide ((((a + b) / 2 : Nat) : Int) < (((a + b) / 2 + m - i : Nat) : Int))) = true := decide_eq_true (by omega)
        refine wg vmv g42 ?_
        refine wg vmv g42 ?_
        refine wg vlss g42 ?_
        refine wv (vpT g42) ?_
        refine nt' ?_
        by_cases h43 : (((a + b) / 2 + m - i : Nat) : Int) < ((b : Nat) : Int)
        ·have g44 := decide_eq_true h43
         refine CM_condT rfl g44 ?_
         refine CM_region (wm (wm (wm (wm (wm ?_)))))
         refine WM_callW (χ := Unit) (val := fun _ => .tuple #[]) (js := fun _ => (iOwn (tSl (tCk K) 29) [.slice A n c] (symm (ltc cf) f ((a + b) / 2) ((a + b) / 2 + m - i) b (symm (ltc cf) f a i ((a + b) / 2) (rot ((a + b) / 2 + m - i - i) m (m - i) ((a + b) / 2 + m - i - m) xs))) :: is)) (cl_fn cb89 rfl) (fun W hm => (ih ((a + b) / 2) ((a + b) / 2 + m - i) b (symm (ltc cf) f a i ((a + b) / 2) (rot ((a + b) / 2 + m - i - i) m (m - i) ((a + b) / 2 + m - i - m) xs)) (by omega) (by omega) (by omega) (by omega) W hm).mono (fun _ _ h => ⟨(), h.1, h.2⟩)) (Wd_none rfl) (by decide) (fun _ => ?_)
         refine WM_nil ?_
         have hE : symm (ltc cf) (f + 1) a m b xs = (symm (ltc cf) f ((a + b) / 2) ((a + b) / 2 + m - i) b (symm (ltc cf) f a i ((a + b) / 2) (rot ((a + b) / 2 + m - i - i) m (m - i) ((a + b) / 2 + m - i - m) xs))) := symm_c (x1 := (rot ((a + b) / 2 + m - i - i) m (m - i) ((a + b) / 2 + m - i - m) xs)) (x2 := (symm (ltc cf) f a i ((a + b) / 2) (rot ((a + b) / 2 + m - i - i) m (m - i) ((a + b) / 2 + m - i - m) xs))) (x3 := (symm (ltc cf) f ((a + b) / 2) ((a + b) / 2 + m - i) b (symm (ltc cf) f a i ((a + b) / 2) (rot ((a + b) / 2 + m - i - i) m (m - i) ((a + b) / 2 + m - i - m) xs)))) (mid := (a + b) / 2) (n := (a + b) / 2 + m) (s0 := s0) (r0 := r0) (st := i) (en := (a + b) / 2 + m - i) (by omega) (by omega) rfl rfl hs0 hr0 hA.symm rfl ((cond_and_t (by omega) (by omega)).symm) ((cond_and_t (by omega) (by omega)).symm) ((cond_and_t (by omega) (by omega)).symm)
         exact QM_ret0 rfl (fun W hm => ⟨rfl, by rw [hE]; exact hm⟩)
        ·have g44 := decide_eq_false h43
         refine CM_condF rfl g44 ?_
         refine CM_skip ?_
         have hE : symm (ltc cf) (f + 1) a m b xs = (symm (ltc cf) f a i ((a + b) / 2) (rot ((a + b) / 2 + m - i - i) m (m - i) ((a + b) / 2 + m - i - m) xs)) := symm_c (x1 := (rot ((a + b) / 2 + m - i - i) m (m - i) ((a + b) / 2 + m - i - m) xs)) (x2 := (symm (ltc cf) f a i ((a + b) / 2) (rot ((a + b) / 2 + m - i - i) m (m - i) ((a + b) / 2 + m - i - m) xs))) (x3 := (symm (ltc cf) f a i ((a + b) / 2) (rot ((a + b) / 2 + m - i - i) m (m - i) ((a + b) / 2 + m - i - m) xs))) (mid := (a + b) / 2) (n := (a + b) / 2 + m) (s0 := s0) (r0 := r0) (st := i) (en := (a + b) / 2 + m - i) (by omega) (by omega) rfl rfl hs0 hr0 hA.symm rfl ((cond_and_t (by omega) (by omega)).symm) ((cond_and_t (by omega) (by omega)).symm) ((cond_and_f (by omega)).symm)
         exact QM_ret0 rfl (fun W hm => ⟨rfl, by rw [hE]; exact hm⟩)
       ·have g40 := decide_eq_false h39
        refine ws g40 ?_
        refine ws g40 ?_
        refine ws g40 ?_
        refine wv (vpF g40) ?_
        refine nt' ?_
        refine CM_condF rfl rfl ?_
        refine CM_skip (QM_then (sr (wm (wm ?_))))
        refine wv vlss ?_
        refine wm ?_
        have g45 : (decide ((((a + b) / 2 : Nat) : Int) < (((a + b) / 2 + m - i : Nat) : Int))) = true := decide_eq_true (by omega)
        refine wg vmv g45 ?_
        refine wg vmv g45 ?_
        refine wg vlss g45 ?_
        refine wv (vpT g45) ?_
        refine nt' ?_
        by_cases h46 : (((a + b) / 2 + m - i : Nat) : Int) < ((b : Nat) : Int)
        ·have g47 := decide_eq_true h46
         refine CM_condT rfl g47 ?_
         refine CM_region (wm (wm (wm (wm (wm ?_)))))
         refine WM_callW (χ := Unit) (val := fun _ => .tuple #[]) (js := fun _ => (iOwn (tSl (tCk K) 29) [.slice A n c] (symm (ltc cf) f ((a + b) / 2) ((a + b) / 2 + m - i) b (rot ((a + b) / 2 + m - i - i) m (m - i) ((a + b) / 2 + m - i - m) xs)) :: is)) (cl_fn cb89 rfl) (fun W hm => (ih ((a + b) / 2) ((a + b) / 2 + m - i) b (rot ((a + b) / 2 + m - i - i) m (m - i) ((a + b) / 2 + m - i - m) xs) (by omega) (by omega) (by omega) (by omega) W hm).mono (fun _ _ h => ⟨(), h.1, h.2⟩)) (Wd_none rfl) (by decide) (fun _ => ?_)
         refine WM_nil ?_
         have hE : symm (ltc cf) (f + 1) a m b xs = (symm (ltc cf) f ((a + b) / 2) ((a + b) / 2 + m - i) b (rot ((a + b) / 2 + m - i - i) m (m - i) ((a + b) / 2 + m - i - m) xs)) := symm_c (x1 := (rot ((a + b) / 2 + m - i - i) m (m - i) ((a + b) / 2 + m - i - m) xs)) (x2 := (rot ((a + b) / 2 + m - i - i) m (m - i) ((a + b) / 2 + m - i - m) xs)) (x3 := (symm (ltc cf) f ((a + b) / 2) ((a + b) / 2 + m - i) b (rot ((a + b) / 2 + m - i - i) m (m - i) ((a + b) / 2 + m - i - m) xs))) (mid := (a + b) / 2) (n := (a + b) / 2 + m) (s0 := s0) (r0 := r0) (st := i) (en := (a + b) / 2 + m - i) (by omega) (by omega) rfl rfl hs0 hr0 hA.symm rfl ((cond_and_t (by omega) (by omega)).symm) ((cond_and_f (by omega)).symm) ((cond_and_t (by omega) (by omega)).symm)
         exact QM_ret0 rfl (fun W hm => ⟨rfl, by rw [hE]; exact hm⟩)
        ·have g47 := decide_eq_false h46
         refine CM_condF rfl g47 ?_
         refine CM_skip ?_
         have hE : symm (ltc cf) (f + 1) a m b xs = (rot ((a + b) / 2 + m - i - i) m (m - i) ((a + b) / 2 + m - i - m) xs) := symm_c (x1 := (rot ((a + b) / 2 + m - i - i) m (m - i) ((a + b) / 2 + m - i - m) xs)) (x2 := (rot ((a + b) / 2 + m - i - i) m (m - i) ((a + b) / 2 + m - i - m) xs)) (x3 := (rot ((a + b) / 2 + m - i - i) m (m - i) ((a + b) / 2 + m - i - m) xs)) (mid := (a + b) / 2) (n := (a + b) / 2 + m) (s0 := s0) (r0 := r0) (st := i) (en := (a + b) / 2 + m - i) (by omega) (by omega) rfl rfl hs0 hr0 hA.symm rfl ((cond_and_t (by omega) (by omega)).symm) ((cond_and_f (by omega)).symm) ((cond_and_f (by omega)).symm)
         exact QM_ret0 rfl (fun W hm => ⟨rfl, by rw [hE]; exact hm⟩)
      ·have g38 := decide_eq_false h37
       refine CM_condF rfl g38 ?_
       refine CM_skip (QM_then (CM_seq (sr (wm (wm ?_)))))
       refine wv vlss ?_
       refine wm ?_
       by_cases h48 : ((a : Nat) : Int) < ((i : Nat) : Int)
       ·have g49 := decide_eq_true h48
        refine wg vmv g49 ?_
        refine wg vmv g49 ?_
        refine wg vlss g49 ?_
        refine wv (vpT g49) ?_
        refine nt' ?_
        have g50 : (decide (((i : Nat) : Int) < (((a + b) / 2 : Nat) : Int))) = false := decide_eq_false (by omega)
        refine CM_condF rfl g50 ?_
        refine CM_skip (QM_then (sr (wm (wm ?_))))
        refine wv vlss ?_
        refine wm ?_
        have g51 : (decide ((((a + b) / 2 : Nat) : Int) < (((a + b) / 2 + m - i : Nat) : Int))) = true := decide_eq_true (by omega)
        refine wg vmv g51 ?_
        refine wg vmv g51 ?_
        refine wg vlss g51 ?_
        refine wv (vpT g51) ?_
        refine nt' ?_
        by_cases h52 : (((a + b) / 2 + m - i : Nat) : Int) < ((b : Nat) : Int)
        ·have g53 := decide_eq_true h52
         refine CM_condT rfl g53 ?_
         refine CM_region (wm (wm (wm (wm (wm ?_)))))
         refine WM_callW (χ := Unit) (val := fun _ => .tuple #[]) (js := fun _ => (iOwn (tSl (tCk K) 29) [.slice A n c] (symm (ltc cf) f ((a + b) / 2) ((a + b) / 2 + m - i) b xs) :: is)) (cl_fn cb89 rfl) (fun W hm => (ih ((a + b) / 2) ((a + b) / 2 + m - i) b xs (by omega) (by omega) (by omega) (by omega) W hm).mono (fun _ _ h => ⟨(), h.1, h.2⟩)) (Wd_none rfl) (by decide) (fun _ => ?_)
         refine WM_nil ?_
         have hE : symm (ltc cf) (f + 1) a m b xs = (symm (ltc cf) f ((a + b) / 2) ((a + b) / 2 + m - i) b xs) := symm_c (x1 := xs) (x2 := xs) (x3 := (symm (ltc cf) f ((a + b) / 2) ((a + b) / 2 + m - i) b xs)) (mid := (a + b) / 2) (n := (a + b) / 2 + m) (s0 := s0) (r0 := r0) (st := i) (en := (a + b) / 2 + m - i) (by omega) (by omega) rfl rfl hs0 hr0 hA.symm rfl ((cond_and_f (by omega)).symm) ((cond_and_f (by omega)).symm) ((cond_and_t (by omega) (by omega)).symm)
         exact QM_ret0 rfl (fun W hm => ⟨rfl, by rw [hE]; exact hm⟩)
        ·have g53 := decide_eq_false h52
         refine CM_condF rfl g53 ?_
         refine CM_skip ?_
         have hE : symm (ltc cf) (f + 1) a m b xs = xs := symm_c (x1 := xs) (x2 := xs) (x3 := xs) (mid := (a + b) / 2) (n := (a + b) / 2 + m) (s0 := s0) (r0 := r0) (st := i) (en := (a + b) / 2 + m - i) (by omega) (by omega) rfl rfl hs0 hr0 hA.symm rfl ((cond_and_f (by omega)).symm) ((cond_and_f (by omega)).symm) ((cond_and_f (by omega)).symm)
         exact QM_ret0 rfl (fun W hm => ⟨rfl, by rw [hE]; exact hm⟩)
       ·have g49 := decide_eq_false h48
        refine ws g49 ?_
        refine ws g49 ?_
        refine ws g49 ?_
        refine wv (vpF g49) ?_
        refine nt' ?_
        refine CM_condF rfl rfl ?_
        refine CM_skip (QM_then (sr (wm (wm ?_))))
        refine wv vlss ?_
        refine wm ?_
        have g54 : (decide ((((a + b) / 2 : Nat) : Int) < (((a + b) / 2 + m - i : Nat) : Int))) = true := decide_eq_true (by omega)
        refine wg vmv g54 ?_
        refine wg vmv g54 ?_
        refine wg vlss g54 ?_
        refine wv (vpT g54) ?_
        refine nt' ?_
        by_cases h55 : (((a + b) / 2 + m - i : Nat) : Int) < ((b : Nat) : Int)
        ·have g56 := decide_eq_true h55
         refine CM_condT rfl g56 ?_
         refine CM_region (wm (wm (wm (wm (wm ?_)))))
         refine WM_callW (χ := Unit) (val := fun _ => .tuple #[]) (js := fun _ => (iOwn (tSl (tCk K) 29) [.slice A n c] (symm (ltc cf) f ((a + b) / 2) ((a + b) / 2 + m - i) b xs) :: is)) (cl_fn cb89 rfl) (fun W hm => (ih ((a + b) / 2) ((a + b) / 2 + m - i) b xs (by omega) (by omega) (by omega) (by omega) W hm).mono (fun _ _ h => ⟨(), h.1, h.2⟩)) (Wd_none rfl) (by decide) (fun _ => ?_)
         refine WM_nil ?_
         have hE : symm (ltc cf) (f + 1) a m b xs = (symm (ltc cf) f ((a + b) / 2) ((a + b) / 2 + m - i) b xs) := symm_c (x1 := xs) (x2 := xs) (x3 := (symm (ltc cf) f ((a + b) / 2) ((a + b) / 2 + m - i) b xs)) (mid := (a + b) / 2) (n := (a + b) / 2 + m) (s0 := s0) (r0 := r0) (st := i) (en := (a + b) / 2 + m - i) (by omega) (by omega) rfl rfl hs0 hr0 hA.symm rfl ((cond_and_f (by omega)).symm) ((cond_and_f (by omega)).symm) ((cond_and_t (by omega) (by omega)).symm)
         exact QM_ret0 rfl (fun W hm => ⟨rfl, by rw [hE]; exact hm⟩)
        ·have g56 := decide_eq_false h55
         refine CM_condF rfl g56 ?_
         refine CM_skip ?_
         have hE : symm (ltc cf) (f + 1) a m b xs = xs := symm_c (x1 := xs) (x2 := xs) (x3 := xs) (mid := (a + b) / 2) (n := (a + b) / 2 + m) (s0 := s0) (r0 := r0) (st := i) (en := (a + b) / 2 + m - i) (by omega) (by omega) rfl rfl hs0 hr0 hA.symm rfl ((cond_and_f (by omega)).symm) ((cond_and_f (by omega)).symm) ((cond_and_f (by omega)).symm)
         exact QM_ret0 rfl (fun W hm => ⟨rfl, by rw [hE]; exact hm⟩)
     ·have g36 := decide_eq_false h35
      refine ws g36 ?_
      refine ws g36 ?_
      refine ws g36 ?_
      refine wv (vpF g36) ?_
      refine nt' ?_
      refine CM_condF rfl rfl ?_
      refine CM_skip (QM_then (CM_seq (sr (wm (wm ?_)))))
      refine wv vlss ?_
      refine wm ?_
      by_cases h57 : ((a : Nat) : Int) < ((i : Nat) : Int)
      ·have g58 := decide_eq_true h57
       refine wg vmv g58 ?_
       refine wg vmv g58 ?_
       refine wg vlss g58 ?_
       refine wv (vpT g58) ?_
       refine nt' ?_
       by_cases h59 : ((i : Nat) : Int) < (((a + b) / 2 : Nat) : Int)
       ·have g60 := decide_eq_true h59
        refine CM_condT rfl g60 ?_
        refine CM_region (wm (wm (wm (wm (wm ?_)))))
        refine WM_callW (χ := Unit) (val := fun _ => .tuple #[]) (js := fun _ => (iOwn (tSl (tCk K) 29) [.slice A n c] (symm (ltc cf) f a i ((a + b) / 2) xs) :: is)) (cl_fn cb89 rfl) (fun W hm => (ih a i ((a + b) / 2) xs (by omega) (by omega) (by omega) (by omega) W hm).mono (fun _ _ h => ⟨(), h.1, h.2⟩)) (Wd_none rfl) (by decide) (fun _ => ?_)
        refine nt' (sr (wm (wm ?_)))
        refine wv vlss ?_
        refine wm ?_
        have g61 : (decide ((((a + b) / 2 : Nat) : Int) < (((a + b) / 2 + m - i : Nat) : Int))) = false := decide_eq_false (by omega)
        refine ws g61 ?_
        refine ws g61 ?_
        refine ws g61 ?_
        refine wv (vpF g61) ?_
        refine nt' ?_
        refine CM_condF rfl rfl ?_
        refine CM_skip ?_
        have hE : symm (ltc cf) (f + 1) a m b xs = (symm (ltc cf) f a i ((a + b) / 2) xs) := symm_c (x1 := xs) (x2 := (symm (ltc cf) f a i ((a + b) / 2) xs)) (x3 := (symm (ltc cf) f a i ((a + b) / 2) xs)) (mid := (a + b) / 2) (n := (a + b) / 2 + m) (s0 := s0) (r0 := r0) (st := i) (en := (a + b) / 2 + m - i) (by omega) (by omega) rfl rfl hs0 hr0 hA.symm rfl ((cond_and_f (by omega)).symm) ((cond_and_t (by omega) (by omega)).symm) ((cond_and_f (by omega)).symm)
        exact QM_ret0 rfl (fun W hm => ⟨rfl, by rw [hE]; exact hm⟩)
       ·have g60 := decide_eq_false h59
        refine CM_condF rfl g60 ?_
        refine CM_skip (QM_then (sr (wm (wm ?_))))
        refine wv vlss ?_
        refine wm ?_
        have g62 : (decide ((((a + b) / 2 : Nat) : Int) < (((a + b) / 2 + m - i : Nat) : Int))) = false := decide_eq_false (by omega)
        refine ws g62 ?_
        refine ws g62 ?_
        refine ws g62 ?_
        refine wv (vpF g62) ?_
        refine nt' ?_
        refine CM_condF rfl rfl ?_
        refine CM_skip ?_
        have hE : symm (ltc cf) (f + 1) a m b xs = xs := symm_c (x1 := xs) (x2 := xs) (x3 := xs) (mid := (a + b) / 2) (n := (a + b) / 2 + m) (s0 := s0) (r0 := r0) (st := i) (en := (a + b) / 2 + m - i) (by omega) (by omega) rfl rfl hs0 hr0 hA.symm rfl ((cond_and_f (by omega)).symm) ((cond_and_f (by omega)).symm) ((cond_and_f (by omega)).symm)
        exact QM_ret0 rfl (fun W hm => ⟨rfl, by rw [hE]; exact hm⟩)
      ·have g58 := decide_eq_false h57
       refine ws g58 ?_
       refine ws g58 ?_
       refine ws g58 ?_
       refine wv (vpF g58) ?_
       refine nt' ?_
       refine CM_condF rfl rfl ?_
       refine CM_skip (QM_then (sr (wm (wm ?_))))
       refine wv vlss ?_
       refine wm ?_
       have g63 : (decide ((((a + b) / 2 : Nat) : Int) < (((a + b) / 2 + m - i : Nat) : Int))) = false := decide_eq_false (by omega)
       refine ws g63 ?_
       refine ws g63 ?_
       refine ws g63 ?_
       refine wv (vpF g63) ?_
       refine nt' ?_
       refine CM_condF rfl rfl ?_
       refine CM_skip ?_
       have hE : symm (ltc cf) (f + 1) a m b xs = xs := symm_c (x1 := xs) (x2 := xs) (x3 := xs) (mid := (a + b) / 2) (n := (a + b) / 2 + m) (s0 := s0) (r0 := r0) (st := i) (en := (a + b) / 2 + m - i) (by omega) (by omega) rfl rfl hs0 hr0 hA.symm rfl ((cond_and_f (by omega)).symm) ((cond_and_f (by omega)).symm) ((cond_and_f (by omega)).symm)
       exact QM_ret0 rfl (fun W hm => ⟨rfl, by rw [hE]; exact hm⟩)

theorem cb79 : Cb Try.prog 79 := ⟨f79, _, func79, rfl, by decide⟩
theorem srt60_stable_c {α : Type} [Inhabited α] (K : Ck α) (hK : K.s = 2) (cf : α → α → Int) (fc : FuncId) (B : Nat) (w0 : World) (is : List It) (H : CmpOk Try.prog fc K B w0 is cf) (A : Option Addr) (n c : Nat) (hn : n ≤ 68719476736) (xs : List (List Value × α)) (w : World) (hm : Mem B w0 (iOwn (tSl (tCk K) 29) [.slice A n c] xs :: is) w) :
  Calls Try.prog 79 #[.slice A n c, .int .i64 ((n : Nat) : Int), .func (.func fc) #[] #[]] w fun e w' => e = .returned (.tuple #[]) ∧ Mem B w0 (iOwn (tSl (tCk K) 29) [.slice A n c] (mlev (ltc cf) n (n + 1) 20 (blk (ltc cf) n (n + 1) 0 xs)) :: is) w' := by
 refine call_enterW (L := [(0, .slice A n c), (1, .int .i64 ((n : Nat) : Int)), (2, .func (.func fc) #[] #[])]) (N := 63) func79 rfl rfl (Nat.le_of_ble_eq_true rfl) (argsL_cons rfl (argsL_cons rfl (argsL_cons rfl argsL_nil))) hm ?_
 refine sr (wa (nt' (sr (wm (wa (wa (nt' (CM_seq (CM_block ?_)))))))))
 refine CM_loop (σ := Nat × Nat × Nat × List (List Value × α)) (fun s => [(0, .slice A n c), (1, .int .i64 ((n : Nat) : Int)), (2, .func (.func fc) #[] #[]), (6, .int .i64 20), (7, .int .i64 ((s.1 : Nat) : Int)), (8, .int .i64 ((s.2.1 : Nat) : Int))]) (fun s => (iOwn (tSl (tCk K) 29) [.slice A n c] s.2.2.2 :: is)) (fun s => s.2.1 = s.1 + 20 ∧ n ≤ s.2.2.1 + s.1 ∧ s.1 ≤ n ∧ blk (ltc cf) n s.2.2.1 s.1 s.2.2.2 = blk (ltc cf) n (n + 1) 0 xs) (fun s => n - s.1) (0, 20, n + 1, xs) sl6 (fun W hm => hm) ⟨(show 20 = 0 + 20 from by omega), (show n ≤ (n + 1) + 0 from by omega), (show 0 ≤ n from by omega), (show blk (ltc cf) n (n + 1) 0 xs = blk (ltc cf) n (n + 1) 0 xs from rfl)⟩ ?_
 rintro ⟨p, q, f, d⟩ H1
 obtain ⟨hq, hf5, hf6, hF⟩ : q = p + 20 ∧ n ≤ f + p ∧ p ≤ n ∧ blk (ltc cf) n f p d = blk (ltc cf) n (n + 1) 0 xs := H1
 show CM Try.prog 63 _ _ _ _ [(0, .slice A n c), (1, .int .i64 ((n : Nat) : Int)), (2, .func (.func fc) #[] #[]), (6, .int .i64 20), (7, .int .i64 ((p : Nat) : Int)), (8, .int .i64 ((q : Nat) : Int))] (iOwn (tSl (tCk K) 29) [.slice A n c] d :: is)
 subst hq
 refine CM_seq (sr (wm (wm ?_)))
 refine wv (fun W hm => rv_leq rfl rfl) ?_
 refine nt' ?_
 by_cases h2 : ((p + 20 : Nat) : Int) ≤ ((n : Nat) : Int)
 ·have g3 := decide_eq_true h2
  refine CM_condT rfl g3 ?_
  refine CM_skip (QM_then (CM_block (sr (wm (wm (wm (wm ?_)))))))
  refine WM_callW (χ := Unit) (val := fun _ => .tuple #[]) (js := fun _ => (iOwn (tSl (tCk K) 29) [.slice A n c] (insL (ltc cf) p (p + 20 - p - 1) (p + 1) d) :: is)) (cl_fn cb88 rfl) (fun W hm => (srt60_ins_c K hK cf fc B w0 is H A n c hn p (p + 20) d (by omega) (by omega) W hm).mono (fun _ _ h => ⟨(), h.1, h.2⟩)) (Wd_none rfl) (by decide) (fun _ => ?_)
  refine nt' (sr (wm (wa (nt' (CM_region (wm (wm ?_)))))))
  refine wv (fun W hm => rv_addN (p := p + 20) (q := 20) rfl rfl (by omega)) ?_
  refine wa (WM_nil (QM_block_normal ?_))
  exact QM_round (p + 20, p + 20 + 20, f - 1, (insL (ltc cf) p (p + 20 - p - 1) (p + 1) d)) sl6 (fun W hm => hm) ⟨(show (p + 20 + 20) = (p + 20) + 20 from by omega), (show n ≤ (f - 1) + (p + 20) from by omega), (show (p + 20) ≤ n from by omega), (show blk (ltc cf) n (f - 1) (p + 20) (insL (ltc cf) p (p + 20 - p - 1) (p + 1) d) = blk (ltc cf) n (n + 1) 0 xs from (blk_step (by omega) (by omega)).symm.trans hF)⟩ (show n - (p + 20) < n - p from by omega)
 ·have g3 := decide_eq_false h2
  refine CM_condF rfl g3 ?_
  refine CM_exit (QM_then_exit (QM_then_exit ?_))
  have hY := (blk_end (lt := ltc cf) (f := f) (xs := d) (show ¬ p + 20 ≤ n by omega)).symm.trans hF
  refine QM_block_hit (QM_then (sr (wm (wm (wm (wm ?_))))))
  refine WM_callW (χ := Unit) (val := fun _ => .tuple #[]) (js := fun _ => (iOwn (tSl (tCk K) 29) [.slice A n c] (insL (ltc cf) p (n - p - 1) (p + 1) d) :: is)) (cl_fn cb88 rfl) (fun W hm => (srt60_ins_c K hK cf fc B w0 is H A n c hn p n d (by omega) (by omega) W hm).mono (fun _ _ h => ⟨(), h.1, h.2⟩)) (Wd_none rfl) (by decide) (fun _ => ?_)
  refine nt' (CM_block ?_)
  refine CM_loop (σ := Nat × Nat × List (List Value × α)) (fun s => [(0, .slice A n c), (1, .int .i64 ((n : Nat) : Int)), (2, .func (.func fc) #[] #[]), (6, .int .i64 ((s.1 : Nat) : Int))]) (fun s => (iOwn (tSl (tCk K) 29) [.slice A n c] s.2.2 :: is)) (fun s => 0 < s.1 ∧ n < s.2.1 + s.1 ∧ mlev (ltc cf) n s.2.1 s.1 s.2.2 = mlev (ltc cf) n (n + 1) 20 (blk (ltc cf) n (n + 1) 0 xs)) (fun s => n - s.1) (20, n + 1, (insL (ltc cf) p (n - p - 1) (p + 1) d)) sl4 (fun W hm => hm) ⟨(show 0 < 20 from by omega), (show n < (n + 1) + 20 from by omega), (show mlev (ltc cf) n (n + 1) 20 (insL (ltc cf) p (n - p - 1) (p + 1) d) = mlev (ltc cf) n (n + 1) 20 (blk (ltc cf) n (n + 1) 0 xs) from by rw [hY])⟩ ?_
  rintro ⟨w, f2, d2⟩ H4
  obtain ⟨hw, hf7, hF2⟩ : 0 < w ∧ n < f2 + w ∧ mlev (ltc cf) n f2 w d2 = mlev (ltc cf) n (n + 1) 20 (blk (ltc cf) n (n + 1) 0 xs) := H4
  show CM Try.prog 63 _ _ _ _ [(0, .slice A n c), (1, .int .i64 ((n : Nat) : Int)), (2, .func (.func fc) #[] #[]), (6, .int .i64 ((w : Nat) : Int))] (iOwn (tSl (tCk K) 29) [.slice A n c] d2 :: is)
  refine CM_seq (sr (wm (wm ?_)))
  refine wv vlss ?_
  refine nt' ?_
  by_cases h5 : ((w : Nat) : Int) < ((n : Nat) : Int)
  ·have g6 := decide_eq_true h5
   refine CM_condT rfl g6 ?_
   refine CM_skip (QM_then (CM_block (sr (wm ?_))))
   refine wv (fun W hm => rv_mulN (p := 2) (q := w) rfl rfl (by omega)) ?_
   refine wa (wa (nt' (CM_seq (CM_block ?_))))
   refine CM_loop (σ := Nat × Nat × Nat × List (List Value × α)) (fun s => [(0, .slice A n c), (1, .int .i64 ((n : Nat) : Int)), (2, .func (.func fc) #[] #[]), (6, .int .i64 ((w : Nat) : Int)), (7, .int .i64 ((s.1 : Nat) : Int)), (8, .int .i64 ((s.2.1 : Nat) : Int))]) (fun s => (iOwn (tSl (tCk K) 29) [.slice A n c] s.2.2.2 :: is)) (fun s => s.2.1 = s.1 + 2 * w ∧ n < s.2.2.1 + s.1 ∧ s.1 ≤ n ∧ mrg (ltc cf) n w s.2.2.1 s.1 s.2.2.2 = mrg (ltc cf) n w (n + 1) 0 d2) (fun s => n - s.1) (0, 2 * w, n + 1, d2) sl6 (fun W hm => hm) ⟨(show (2 * w) = 0 + 2 * w from by omega), (show n < (n + 1) + 0 from by omega), (show 0 ≤ n from by omega), (show mrg (ltc cf) n w (n + 1) 0 d2 = mrg (ltc cf) n w (n + 1) 0 d2 from rfl)⟩ ?_
   rintro ⟨p2, q2, f3, d3⟩ H7
   obtain ⟨hq2, hf8, hf9, hF3⟩ : q2 = p2 + 2 * w ∧ n < f3 + p2 ∧ p2 ≤ n ∧ mrg (ltc cf) n w f3 p2 d3 = mrg (ltc cf) n w (n + 1) 0 d2 := H7
   show CM Try.prog 63 _ _ _ _ [(0, .slice A n c), (1, .int .i64 ((n : Nat) : Int)), (2, .func (.func fc) #[] #[]), (6, .int .i64 ((w : Nat) : Int)), (7, .int .i64 ((p2 : Nat) : Int)), (8, .int .i64 ((q2 : Nat) : Int))] (iOwn (tSl (tCk K) 29) [.slice A n c] d3 :: is)
   subst hq2
   refine CM_seq (sr (wm (wm ?_)))
   refine wv (fun W hm => rv_leq rfl rfl) ?_
   refine nt' ?_
   by_cases h8 : ((p2 + 2 * w : Nat) : Int) ≤ ((n : Nat) : Int)
   ·have g9 := decide_eq_true h8
    refine CM_condT rfl g9 ?_
    refine CM_skip (QM_then (CM_block (sr (wm (wm (wm (wm ?_)))))))
    refine wv (vadN p2 w (by omega)) ?_
    refine wm (wm ?_)
    refine WM_callW (χ := Unit) (val := fun _ => .tuple #[]) (js := fun _ => (iOwn (tSl (tCk K) 29) [.slice A n c] (symm (ltc cf) (2 * w) p2 (p2 + w) (p2 + 2 * w) d3) :: is)) (cl_fn cb89 rfl) (fun W hm => (srt60_symm_c K hK cf fc B w0 is H A n c hn (2 * w) p2 (p2 + w) (p2 + 2 * w) d3 (by omega) (by omega) (by omega) (by omega) W hm).mono (fun _ _ h => ⟨(), h.1, h.2⟩)) (Wd_none rfl) (by decide) (fun _ => ?_)
    refine nt' (sr (wm (wa (nt' (CM_region (wm (wm ?_)))))))
    refine wv (fun W hm => rv_mulN (p := 2) (q := w) rfl rfl (by omega)) ?_
    refine wv (fun W hm => rv_addN (p := p2 + 2 * w) (q := 2 * w) rfl rfl (by omega)) ?_
    refine wa (WM_nil (QM_block_normal ?_))
    exact QM_round (p2 + 2 * w, p2 + 2 * w + 2 * w, f3 - 1, (symm (ltc cf) (2 * w) p2 (p2 + w) (p2 + 2 * w) d3)) sl6 (fun W hm => hm) ⟨(show (p2 + 2 * w + 2 * w) = (p2 + 2 * w) + 2 * w from by omega), (show n < (f3 - 1) + (p2 + 2 * w) from by omega), (show (p2 + 2 * w) ≤ n from by omega), (show mrg (ltc cf) n w (f3 - 1) (p2 + 2 * w) (symm (ltc cf) (2 * w) p2 (p2 + w) (p2 + 2 * w) d3) = mrg (ltc cf) n w (n + 1) 0 d2 from (mrg_step (by omega) (by omega)).symm.trans hF3)⟩ (show n - (p2 + 2 * w) < n - p2 from by omega)
   ·have g9 := decide_eq_false h8
    refine CM_condF rfl g9 ?_
    refine CM_exit (QM_then_exit (QM_then_exit ?_))
    have hM := (mrg_end (lt := ltc cf) (xs := d3) (show ¬ p2 + 2 * w ≤ n by omega) hf8 hf9).symm.trans hF3
    refine QM_block_hit (QM_then (CM_seq (sr (wm (wm ?_)))))
    refine wv (vadN p2 w (by omega)) ?_
    refine wa (nt' (sr (wm (wm ?_))))
    refine wv vlss ?_
    refine nt' ?_
    by_cases h10 : ((p2 + w : Nat) : Int) < ((n : Nat) : Int)
    ·have g11 := decide_eq_true h10
     refine CM_condT rfl g11 ?_
     refine CM_region (wm (wm (wm (wm (wm ?_)))))
     refine WM_callW (χ := Unit) (val := fun _ => .tuple #[]) (js := fun _ => (iOwn (tSl (tCk K) 29) [.slice A n c] (symm (ltc cf) (n - p2) p2 (p2 + w) n d3) :: is)) (cl_fn cb89 rfl) (fun W hm => (srt60_symm_c K hK cf fc B w0 is H A n c hn (n - p2) p2 (p2 + w) n d3 (by omega) (by omega) (by omega) (by omega) W hm).mono (fun _ _ h => ⟨(), h.1, h.2⟩)) (Wd_none rfl) (by decide) (fun _ => ?_)
     refine nt' (CM_region (wm ?_))
     refine wv (fun W hm => rv_mulN (p := w) (q := 2) rfl rfl (by omega)) ?_
     refine wa (WM_nil (QM_block_normal ?_))
     exact QM_round (w * 2, f2 - 1, (symm (ltc cf) (n - p2) p2 (p2 + w) n d3)) sl4 (fun W hm => hm) ⟨(show 0 < (w * 2) from by omega), (show n < (f2 - 1) + (w * 2) from by omega), (show mlev (ltc cf) n (f2 - 1) (w * 2) (symm (ltc cf) (n - p2) p2 (p2 + w) n d3) = mlev (ltc cf) n (n + 1) 20 (blk (ltc cf) n (n + 1) 0 xs) from (congrArg (mlev (ltc cf) n (f2 - 1) (w * 2)) (by rw [decide_eq_true (show p2 + w < n by omega)] at hM; exact hM)).trans ((mlev_step (by omega) (by omega)).symm.trans hF2))⟩ (show n - (w * 2) < n - w from by omega)
    ·have g11 := decide_eq_false h10
     refine CM_condF rfl g11 ?_
     refine CM_skip (QM_then (CM_region (wm ?_)))
     refine wv (fun W hm => rv_mulN (p := w) (q := 2) rfl rfl (by omega)) ?_
     refine wa (WM_nil (QM_block_normal ?_))
     exact QM_round (w * 2, f2 - 1, d3) sl4 (fun W hm => hm) ⟨(show 0 < (w * 2) from by omega), (show n < (f2 - 1) + (w * 2) from by omega), (show mlev (ltc cf) n (f2 - 1) (w * 2) d3 = mlev (ltc cf) n (n + 1) 20 (blk (ltc cf) n (n + 1) 0 xs) from (congrArg (mlev (ltc cf) n (f2 - 1) (w * 2)) (by rw [decide_eq_false (show ¬ p2 + w < n by omega)] at hM; exact hM)).trans ((mlev_step (by omega) (by omega)).symm.trans hF2))⟩ (show n - (w * 2) < n - w from by omega)
  ·have g6 := decide_eq_false h5
   refine CM_condF rfl g6 ?_
   refine CM_exit (QM_then_exit (QM_then_exit (QM_block_hit ?_)))
   have hE : mlev (ltc cf) n (n + 1) 20 (blk (ltc cf) n (n + 1) 0 xs) = d2 := ((mlev_end (by omega)).symm.trans hF2).symm
   exact QM_ret0 rfl (fun W hm => ⟨rfl, by rw [hE]; exact hm⟩)

theorem cb60 : Cb Try.prog 60 := ⟨f60, _, func60, rfl, by decide⟩
theorem srt60_sort_c {α : Type} [Inhabited α] (K : Ck α) (hK : K.s = 2) (cf : α → α → Int) (fc : FuncId) (B : Nat) (w0 : World) (is : List It) (H : CmpOk Try.prog fc K B w0 is cf) (A : Option Addr) (n c : Nat) (hn : n ≤ 68719476736) (xs : List (List Value × α)) (w : World) (hm : Mem B w0 (iOwn (tSl (tCk K) 29) [.slice A n c] xs :: is) w) :
  Calls Try.prog 60 #[.slice A n c, .func (.func fc) #[] #[]] w fun e w' => e = .returned (.tuple #[]) ∧ Mem B w0 (iOwn (tSl (tCk K) 29) [.slice A n c] (mlev (ltc cf) n (n + 1) 20 (blk (ltc cf) n (n + 1) 0 xs)) :: is) w' := by
 refine call_enterW (L := [(0, .slice A n c), (1, .func (.func fc) #[] #[])]) (N := 9) func60 rfl rfl (Nat.le_of_ble_eq_true rfl) (argsL_cons rfl (argsL_cons rfl argsL_nil)) hm ?_
 refine CM_region (wm (wm ?_))
 refine wv (vlen underlying39) ?_
 refine wm ?_
 refine WM_callW (χ := Unit) (val := fun _ => .tuple #[]) (js := fun _ => (iOwn (tSl (tCk K) 29) [.slice A n c] (mlev (ltc cf) n (n + 1) 20 (blk (ltc cf) n (n + 1) 0 xs)) :: is)) (cl_fn cb79 rfl) (fun W hm => (srt60_stable_c K hK cf fc B w0 is H A n c hn xs W hm).mono (fun _ _ h => ⟨(), h.1, h.2⟩)) (Wd_none rfl) (by decide) (fun _ => ?_)
 refine WM_nil ?_
 have hE : mlev (ltc cf) n (n + 1) 20 (blk (ltc cf) n (n + 1) 0 xs) = (mlev (ltc cf) n (n + 1) 20 (blk (ltc cf) n (n + 1) 0 xs)) := rfl
 exact QM_ret0 rfl (fun W hm => ⟨rfl, by rw [hE]; exact hm⟩)

theorem cmp_int (a b : Int) : cmp_Compare_int_m a b = if a < b then -1 else if b < a then 1 else 0 := by
  unfold cmp_Compare_int_m cmp_isNaN_int_m
  rw [bne_self_eq_false, bne_self_eq_false]
  by_cases h1 : a < b
  · rw [decide_eq_true h1, if_pos h1]; rfl
  · rw [decide_eq_false h1, if_neg h1]
    by_cases h2 : b < a
    · rw [decide_eq_true h2, if_pos h2]; rfl
    · rw [decide_eq_false h2, if_neg h2]; rfl
theorem Compare_lex (x y : List Int) : slices_Compare_int_m x y = lexI x y := by
  unfold slices_Compare_int_m
  have h : ∀ m k, m + k = x.length → Sum.elim id (fun (_ : Unit) => cond (decide (((x.length : Nat) : Int) < ((y.length : Nat) : Int))) (-1) (0 : Int)) (rng (R := Int) (fun k (_ : Unit) => slices_Compare_int_b1 x y k) m k ()) = (if k ≤ y.length then lexI (x.drop k) (y.drop k) else cond (decide (m = 0)) 0 1) := by
    intro m
    induction m with
    | zero =>
      intro k hk
      rw [rng]
      show cond (decide (((x.length : Nat) : Int) < ((y.length : Nat) : Int))) (-1) (0 : Int) = _
      rw [List.drop_of_length_le (l := x) (by omega)]
      by_cases h1 : k ≤ y.length
      · rw [if_pos h1]
        by_cases h2 : x.length < y.length
        · rw [decide_eq_true (by omega), List.drop_eq_getElem_cons (show k < y.length by omega)]; rfl
        · rw [decide_eq_false (by omega), List.drop_of_length_le (l := y) (by omega)]; rfl
      · rw [if_neg h1, decide_eq_false (by omega)]; rfl
    | succ m ih =>
      intro k hk
      rw [rng]
      show Sum.elim id _ (Sum.elim Sum.inl (fun _ => rng _ m (k + 1) ()) (slices_Compare_int_b1 x y k)) = _
      unfold slices_Compare_int_b1
      by_cases h1 : y.length ≤ k
      · rw [decide_eq_true (show ((y.length : Nat) : Int) ≤ ((k : Nat) : Int) by omega)]
        show (1 : Int) = _
        by_cases h2 : k ≤ y.length
        · rw [if_pos h2, List.drop_of_length_le (l := y) (by omega), List.drop_eq_getElem_cons (show k < x.length by omega)]; rfl
        · rw [if_neg h2, decide_eq_false (show ¬ m + 1 = 0 by omega)]; rfl
      · rw [decide_eq_false (show ¬ ((y.length : Nat) : Int) ≤ ((k : Nat) : Int) by omega), if_pos (by omega), List.drop_eq_getElem_cons (show k < x.length by omega), List.drop_eq_getElem_cons (show k < y.length by omega), lexI, ← gt_at, ← gt_at, cmp_int]
        by_cases h2 : gt x k < gt y k
        · simp only [if_pos h2]; rfl
        · simp only [if_neg h2]
          by_cases h3 : gt y k < gt x k
          · simp only [if_pos h3]; rfl
          · simp only [if_neg h3]
            have := ih (k + 1) (by omega)
            rw [if_pos (by omega)] at this
            exact this
  have h0 := h (x.length - 0) 0 (by omega)
  rw [if_pos (Nat.zero_le _)] at h0
  exact h0
theorem rows_lt (x y : DRow) : lt0 impl_SortRows_1_m x y = true ↔ (x.Id < y.Id ∨ (x.Id = y.Id ∧ lexI x.Values y.Values < 0)) := by
  show decide (impl_SortRows_1_m x y < 0) = true ↔ _
  unfold impl_SortRows_1_m
  rw [decide_eq_true_eq, Compare_lex]
  by_cases h1 : x.Id < y.Id
  · rw [decide_eq_true h1]; exact ⟨fun _ => .inl h1, fun _ => show (-1 : Int) < 0 by decide⟩
  · rw [decide_eq_false h1]
    by_cases h2 : y.Id < x.Id
    · rw [decide_eq_true h2]
      refine ⟨fun h => absurd h (show ¬ (1 : Int) < 0 by decide), fun h => ?_⟩
      rcases h with h | h <;> omega
    · rw [decide_eq_false h2]
      exact ⟨fun h => .inr ⟨by omega, h⟩, fun h => by rcases h with h | h; exact absurd h h1; exact h.2⟩
theorem impl_SortRows_1_ord : Ord (lt0 impl_SortRows_1_m) := ord_of rows_lt
  (fun x y h1 h2 => by
    rcases h1 with h1 | ⟨h1, h3⟩
    · rcases h2 with h2 | ⟨h2, _⟩ <;> omega
    · rcases h2 with h2 | ⟨_, h4⟩
      · omega
      · have := lexI_neg _ _ h3; omega)
  (fun x y z h1 h2 h3 => by
    rcases h3 with h3 | ⟨h3, h4⟩
    · rcases Int.lt_trichotomy z.Id y.Id with a | a | a
      · exact h2 (.inl a)
      · exact h1 (.inl (by omega))
      · exact h1 (.inl (by omega))
    · rcases Int.lt_trichotomy z.Id y.Id with a | a | a
      · exact h2 (.inl a)
      · have a1 : 0 ≤ lexI z.Values y.Values := by
          apply Int.not_lt.1; exact fun q => h2 (.inr ⟨a, q⟩)
        have a2 : 0 ≤ lexI y.Values x.Values := by
          apply Int.not_lt.1; exact fun q => h1 (.inr ⟨by omega, q⟩)
        have := lexI_tr _ _ _ a2 a1
        omega
      · exact h1 (.inl (by omega)))
def impl_SortRows_m (x0 : (List DRow)) : (List DRow) :=
 (stb (lt0 impl_SortRows_1_m) x0)
theorem cb20 : Cb Try.prog 20 := ⟨f20, _, func20, rfl, by decide⟩
theorem impl_SortRows_c (w : World) (z0 : Value) (x0 : (List DRow)) (r_0 : rdS tyRow w w.heap.size z0 x0) (s_0 : (x0.length ≤ 68719476736 ∧ ∀ y ∈ x0, smRow 68719476736 y)) :
  Calls Try.prog 20 #[z0] w fun e w' => ∃ v : Value, e = .returned (v) ∧ Mem w.heap.size w [iOwn (tSl tyRow 29) [v] (impl_SortRows_m x0)] w' := by
 obtain ⟨m1, A2, c3, rfl, q4, r5⟩ := rdS_op r_0
 have l6 : x0.length ≤ 68719476736 := s_0.1
 refine ce1 (L := [(0, .slice A2 x0.length c3)]) (N := 9) func20 ?_
 refine sr (wa (nt' (sr (wm ?_))))
 refine wcl (tSl tyRow 29) x0 (cl_fn cb59 rfl) (fun W hm => impl_copyRows_c2 W _ x0 (hm.rdS0 r5) s_0) (fun z7 => ?_)
 refine WM_form (n := 0) rfl ?_
 rintro A8 c9 rfl m10
 refine wa (nt' (sr (wm ?_)))
 refine WM_sort (E := tyRow) (e := 29) (xs := x0) (cf := impl_SortRows_1_m) (js := []) impl_SortRows_1_ord (fun W hm => hm) rfl cb61 (cl_fn cb60 rfl) (fun W cs ds x y hx hy => impl_SortRows_1_c W cs x ds y hx hy) (fun K hK is H ps W hm => srt60_sort_c K hK _ _ _ _ is H _ _ _ (by omega) ps W hm) (Wd_none rfl) (by decide) ?_
 refine nt' (sr (wm (wa (nt' (CM_ret ?_)))))
 have he12 := (show impl_SortRows_m x0 = (stb (lt0 impl_SortRows_1_m) x0) from rfl)
 refine QM_r1 rfl (RR_tmp rfl) (fun W hm => ⟨.slice A8 x0.length c9, ?_, ?_⟩)
 ·first | rw [he12] | rfl
 ·rw [he12]; exact hm

def okI (now : Int) (seen : List DVersion) (v : DVersion) : Bool := spec_l7Version_m v now && seen.all fun w => !(v.Id == w.Id && impl_meetInTime_m v w)
theorem seenF_append (ok : List DVersion → DVersion → Bool) : ∀ (s t seen : List DVersion), seenF ok seen (s ++ t) = (seenF ok seen s && seenF ok (seen ++ s) t)
  | [], t, seen => by simp [seenF]
  | v :: s, t, seen => by
    show (ok seen v && seenF ok (seen ++ [v]) (s ++ t)) = _
    rw [seenF_append ok s t]
    simp [seenF, Bool.and_assoc]
theorem chkF_seen (ok : List DVersion → DVersion → Bool) : ∀ (l seen : List DVersion), chkF (fun d v => ok d v) (fun d v => d ++ [v]) l seen = cond (seenF ok seen l) (some (seen ++ l)) none
  | [], seen => by simp [chkF, seenF]
  | v :: l, seen => by
    rw [chkF, chkF_seen ok l]
    show _ = cond (ok seen v && seenF ok (seen ++ [v]) l) _ _
    cases ok seen v <;> simp
theorem impl_Store_b34 (x : DStore) (i j : Nat) (d : List DVersion) : rng (R := Bool) (fun k (_ : Unit) => impl_IsStore_b3 x i j d k) (d.length - 0) 0 () = cond (d.all fun w => !((gt (gt x.Segments i) j).Id == w.Id && impl_meetInTime_m (gt (gt x.Segments i) j) w)) (.inr ()) (.inl false) :=
  rng_allB fun k _ => by
    unfold impl_IsStore_b3
    cases (gt (gt x.Segments i) j).Id == (gt d k).Id <;> cases impl_meetInTime_m (gt (gt x.Segments i) j) (gt d k) <;> rfl
theorem impl_Store_b2 (x : DStore) (i j : Nat) (d : List DVersion) : impl_IsStore_b2 x i j d = cond (okI x.Now d (gt (gt x.Segments i) j)) (.inr (d ++ [gt (gt x.Segments i) j])) (.inl false) := by
  have h4 : (fun k (_ : Unit) => impl_IsStore_b4 x i j d k) = fun k (_ : Unit) => impl_IsStore_b3 x i j d k := rfl
  unfold impl_IsStore_b2 okI
  rw [h4, impl_Store_b34, Version_eq, impl_within_iff, impl_within_iff]
  have hr : impl_IsRow_m (impl_rowOf_m (gt (gt x.Segments i) j)) = spec_IsRow_m (⟨(gt (gt x.Segments i) j).Id, (gt (gt x.Segments i) j).Values⟩ : DRow) := rfl
  rw [hr]
  have hn : ((gt (gt x.Segments i) j).Died != (-1)) = !((gt (gt x.Segments i) j).Died == (-1)) := rfl
  rw [hn]
  cases spec_IsRow_m (⟨(gt (gt x.Segments i) j).Id, (gt (gt x.Segments i) j).Values⟩ : DRow) <;> cases decide (0 ≤ (gt (gt x.Segments i) j).Born ∧ (gt (gt x.Segments i) j).Born ≤ x.Now) <;> cases (gt (gt x.Segments i) j).Died == (-1) <;>
    cases decide (IntKind.i64.wrap ((gt (gt x.Segments i) j).Born + 1) ≤ (gt (gt x.Segments i) j).Died ∧ (gt (gt x.Segments i) j).Died ≤ x.Now) <;> cases (d.all fun w => !((gt (gt x.Segments i) j).Id == w.Id && impl_meetInTime_m (gt (gt x.Segments i) j) w)) <;> rfl
theorem impl_Store_b1 (x : DStore) (i : Nat) (d : List DVersion) : impl_IsStore_b1 x i d = cond (decide ((gt x.Segments i).length ≤ 4) && seenF (okI x.Now) d (gt x.Segments i)) (.inr (d ++ gt x.Segments i)) (.inl false) := by
  unfold impl_IsStore_b1
  rw [rng_chk (xs := gt x.Segments i) (r := false) (c := fun d v => okI x.Now d v) (f := fun d v => d ++ [v]) (fun j s _ => impl_Store_b2 x i j s), chkF_seen]
  by_cases h : (gt x.Segments i).length ≤ 4
  · rw [decide_eq_true h, decide_eq_false (show ¬ 4 < ((gt x.Segments i).length : Int) by omega)]
    cases seenF (okI x.Now) d (gt x.Segments i) <;> rfl
  · rw [decide_eq_false h, decide_eq_true (show 4 < ((gt x.Segments i).length : Int) by omega)]
    rfl
theorem chkF_segs (ok : List DVersion → DVersion → Bool) : ∀ (l : List (List DVersion)) (d : List DVersion), chkF (fun d s => decide (s.length ≤ 4) && seenF ok d s) (fun d s => d ++ s) l d = cond (l.all (fun s => decide (s.length ≤ 4)) && seenF ok d l.flatten) (some (d ++ l.flatten)) none
  | [], d => by simp [chkF, seenF]
  | s :: l, d => by
    rw [chkF, chkF_segs ok l, List.flatten_cons, seenF_append, List.all_cons]
    cases decide (s.length ≤ 4) <;> cases seenF ok d s <;> cases l.all (fun s => decide (s.length ≤ 4)) <;> simp
theorem impl_IsStore_form (x : DStore) : impl_IsStore_m x = storeB (okI x.Now) x := by
  unfold impl_IsStore_m storeB
  rw [rng_chk (xs := x.Segments) (r := false) (c := fun d s => decide (s.length ≤ 4) && seenF (okI x.Now) d s) (f := fun d s => d ++ s) (fun j s _ => impl_Store_b1 x j s), chkF_segs, impl_within_iff, impl_within_iff]
  cases decide (1 ≤ (x.Segments.length : Int) ∧ (x.Segments.length : Int) ≤ 8) <;> cases decide (0 ≤ x.Now ∧ x.Now ≤ 100000) <;> cases x.Segments.all (fun s => decide (s.length ≤ 4)) <;> cases seenF (okI x.Now) [] x.Segments.flatten <;> rfl
theorem storeB_hq {ok : List DVersion → DVersion → Bool} {x : DStore} (h : storeB ok x = true) : (x.Segments.map List.length).sum ≤ 68719476736 := by
  unfold storeB at h
  simp only [Bool.and_eq_true, decide_eq_true_eq, List.all_eq_true] at h
  have h1 := sum_le_mul (w := List.length) (c := 4) (xs := x.Segments) fun j hj => h.1.2 _ (gt_mem hj)
  omega
def segR (vis : DVersion → Bool) (s : List DVersion) : List DRow := (s.filter vis).map fun v => (⟨v.Id, v.Values⟩ : DRow)
theorem segR_len (vis : DVersion → Bool) (s : List DVersion) : (segR vis s).length ≤ s.length := by
  unfold segR
  rw [List.length_map]
  exact List.length_filter_le _ _
theorem segR_sm {B : Nat} {vis : DVersion → Bool} {s : List DVersion} (h : ∀ y ∈ s, smVersion B y) : ∀ y ∈ segR vis s, smRow B y := fun y hy => by
  unfold segR at hy
  obtain ⟨v, hv, rfl⟩ := List.mem_map.1 hy
  exact h v (List.mem_filter.1 hv).1
theorem segRows_form (x : DStore) (i : Nat) (t : Int) : impl_segmentRows_m x ((i : Nat) : Int) t = segR (fun v => impl_IsVisible_m v t) (gt x.Segments i) := by
  unfold impl_segmentRows_m
  rw [Int.toNat_natCast]
  rw [rng_fold (xs := gt x.Segments i) (f := fun d v => cond (impl_IsVisible_m v t) (d ++ [(⟨v.Id, v.Values⟩ : DRow)]) d) (b := fun k s => impl_segmentRows_b1 x ((i : Nat) : Int) t k s) (fun j s _ => by unfold impl_segmentRows_b1; rw [Int.toNat_natCast]; cases impl_IsVisible_m (gt (gt x.Segments i) j) t <;> rfl), foldl_filterMap]
  rfl
theorem segRows_len (x : DStore) (i : Nat) (t : Int) : (impl_segmentRows_m x ((i : Nat) : Int) t).length ≤ (gt x.Segments i).length := by
  rw [segRows_form]; exact segR_len _ _
theorem segRows_sm {B : Nat} {x : DStore} {i : Nat} (h : smStore B x) (hi : i < x.Segments.length) (t : Int) : ∀ y ∈ impl_segmentRows_m x ((i : Nat) : Int) t, smRow B y := by
  rw [segRows_form]
  exact segR_sm (h.2 _ (gt_mem hi)).2
def impl_RowsAt_b1 (x0 : DStore) (x1 : Int) (k14 : Nat) (d15 : (List DRow)) : (List DRow) ⊕ ((List DRow)) :=
 Sum.inr (d15 ++ (impl_segmentRows_m x0 ((k14 : Nat) : Int) x1))
def impl_RowsAt_m (x0 : DStore) (x1 : Int) : (List DRow) :=
 cond (impl_IsStore_m x0) (Sum.elim id (fun (s : (List DRow)) => (impl_SortRows_m s)) (rng (R := (List DRow)) (fun k (s : (List DRow)) => impl_RowsAt_b1 x0 x1 k s) (x0.Segments.length - 0) 0 [])) []
theorem cb14 : Cb Try.prog 14 := ⟨f14, _, func14, rfl, by decide⟩
theorem impl_RowsAt_c (w : World) (z0 : List Value) (x0 : DStore) (x1 : Int) (r_0 : tyStore.rd w w.heap.size z0 x0) (s_0 : smStore 68719476736 x0) :
  Calls Try.prog 14 #[.agg z0.toArray, .int .i64 x1] w fun e w' => ∃ v : Value, e = .returned (v) ∧ Mem w.heap.size w [iOwn (tSl tyRow 29) [v] (impl_RowsAt_m x0 x1)] w' := by
 obtain ⟨v1, rfl, r2⟩ := tyStore_rd r_0
 obtain ⟨m3, A4, c5, rfl, q6, r7⟩ := rdS_op r2
 have l8 : x0.Segments.length ≤ 68719476736 := s_0.1
 refine ce2 (L := [(0, .agg #[.slice A4 x0.Segments.length c5, .int .i64 x0.Now]), (1, .int .i64 x1)]) (N := 27) func14 ?_
 refine sr ?_
 refine WM_box rfl (Wd_none rfl) (by decide) (fun p9 => ?_)
 refine wa (nt' (sr ?_))
 refine WM_build0 (E := tyRow) underlying39 type29 (Wd_none rfl) (by decide) (fun p10 => ?_)
 refine wa (nt' (CM_seq (sr ?_)))
 refine wv (fun W hm => rv_loadN (cs := [.slice A4 x0.Segments.length c5, .int .i64 x0.Now]) underlying26 type26 rfl rfl (hm.boxCells (n := 1) rfl)) ?_
 refine wcv (cl_fn cb11 rfl) (fun W hm => impl_IsStore_c W _ x0 (tyStore_mk (x := x0) (hm.rdS0 r7)) s_0) ?_
 refine wv vnot ?_
 refine nt' ?_
 rcases Bool.eq_false_or_eq_true (impl_IsStore_m x0) with g13 | g13
 ·
  have HQ := storeB_hq (ok := okI x0.Now) (by rw [← impl_IsStore_form]; exact g13)
  refine CM_condF rfl (nt g13) ?_
  refine CM_skip (QM_then (CM_seq (sr ?_)))
  refine wv (vf underlying26 rfl type24) ?_
  refine wv (vl 1 0 underlying24) ?_
  refine wv (vlen underlying24) ?_
  refine wm (nt' (CM_block ?_))
  let F1 := fun k (s : (List DRow)) => impl_RowsAt_b1 x0 x1 k s
  let R2 := rng (R := (List DRow)) F1
  let I3 : It := iBox p9 26 [.slice A4 x0.Segments.length c5, .int .i64 x0.Now]
  refine CM_loop (σ := Nat × ((List DRow)) × (Option Addr × Nat)) (fun s => [(1, .int .i64 x1), (2, .pointer (some (⟨p9, 0, none⟩ : Addr))), (5, .slice s.2.2.1 s.2.1.length s.2.2.2), (14, .int .i64 ((x0.Segments.length : Nat) : Int)), (15, .int .i64 ((s.1 : Nat) : Int))]) (fun s => [iOwn (tSl tyRow 29) [.slice s.2.2.1 s.2.1.length s.2.2.2] s.2.1, I3]) (fun s => s.1 ≤ x0.Segments.length ∧ R2 (x0.Segments.length - s.1) s.1 s.2.1 = R2 (x0.Segments.length - 0) 0 [] ∧ s.2.1.length ≤ ((x0.Segments.take s.1).map List.length).sum ∧ ∀ y ∈ s.2.1, smRow 68719476736 y) (fun s => x0.Segments.length - s.1) (0, [], ((some ⟨p10, 0, none⟩), 0)) sl5 (fun W hm => hm) ⟨(by omega), rfl, Nat.zero_le _, fun _ h => by cases h⟩ ?_
  rintro ⟨k14, d15, ⟨A16, c17⟩⟩ H20
  obtain ⟨hk18, hF19, hi21, hi22⟩ : k14 ≤ x0.Segments.length ∧ R2 (x0.Segments.length - k14) k14 d15 = R2 (x0.Segments.length - 0) 0 [] ∧ d15.length ≤ ((x0.Segments.take k14).map List.length).sum ∧ ∀ y ∈ d15, smRow 68719476736 y := H20
  show CM Try.prog 27 _ _ _ _ [(1, .int .i64 x1), (2, .pointer (some (⟨p9, 0, none⟩ : Addr))), (5, .slice A16 d15.length c17), (14, .int .i64 ((x0.Segments.length : Nat) : Int)), (15, .int .i64 ((k14 : Nat) : Int))] [iOwn (tSl tyRow 29) [.slice A16 d15.length c17] d15, I3]
  refine sr ?_
  refine wv vlss ?_
  refine nt' (CM_seq ?_)
  by_cases hl23 : k14 < x0.Segments.length
  ·have g24 := dlT hl23
   have hq1 := sum_take_succ (w := List.length) (xs := x0.Segments) (j := k14) (by omega)
   have hq2 := sum_take_le (w := List.length) (xs := x0.Segments) (k14 + 1)
   have hq3 := segRows_len x0 k14 x1
   refine CM_condT rfl g24 ?_
   refine CM_skip (QM_then (CM_seq (CM_block (sr (wm (wa (nt' (CM_region (wm ?_)))))))))
   refine wv (fun W hm => rv_loadN (cs := [.slice A4 x0.Segments.length c5, .int .i64 x0.Now]) underlying26 type26 rfl rfl (hm.boxCells (n := 1) rfl)) ?_
   refine wm (wm ?_)
   refine wcl (tSl tyRow 29) (impl_segmentRows_m x0 ((k14 : Nat) : Int) x1) (cl_fn cb55 rfl) (fun W hm => impl_segmentRows_c W _ x0 ((k14 : Nat) : Int) x1 (tyStore_mk (x := x0) (hm.rdS0 r7)) s_0 (⟨by omega, by omega⟩)) (fun z25 => ?_)
   refine WM_form (n := 0) rfl ?_
   rintro A26 c27 rfl m28
   refine WM_appendM (E := tyRow) (e := 29) (v := .slice A16 d15.length c17) (u := .slice A26 (impl_segmentRows_m x0 ((k14 : Nat) : Int) x1).length c27) (xs := d15) (ys := (impl_segmentRows_m x0 ((k14 : Nat) : Int) x1)) (js := [I3]) (pk [1, 0, 2]) underlying39 type29 rfl rfl rfl (Nat.le_of_ble_eq_true rfl) rfl rfl (show (d15.length + (impl_segmentRows_m x0 ((k14 : Nat) : Int) x1).length) * 32 ≤ 140737488355328 from by first | omega | (simp only [List.length_append, List.length_cons, List.length_nil, List.length_take, List.length_drop] at *; omega)) (show d15.length + (impl_segmentRows_m x0 ((k14 : Nat) : Int) x1).length ≤ 9223372036854775807 from by first | omega | (simp only [List.length_append, List.length_cons, List.length_nil, List.length_take, List.length_drop] at *; omega)) (Wd_none rfl) (by decide) (fun v30 => ?_)
   refine WM_form (n := 0) rfl ?_
   rintro A31 c32 rfl m33
   refine wa (WM_nil (QM_block_normal (QM_then (CM_region ?_))))
   refine wv (vadN k14 1 (by omega)) ?_
   refine wm (WM_nil ?_)
   have hn35 := rng_next (R := (List DRow)) (body := F1) (k := k14) (s := d15) (s' := (d15 ++ (impl_segmentRows_m x0 ((k14 : Nat) : Int) x1))) (show k14 < x0.Segments.length from by omega) (rfl) hF19
   exact QM_round (k14 + 1, (d15 ++ (impl_segmentRows_m x0 ((k14 : Nat) : Int) x1)), (A31, c32)) sl5 (fun W hm => hm) ⟨(by omega), hn35, (show (d15 ++ (impl_segmentRows_m x0 ((k14 : Nat) : Int) x1)).length ≤ ((x0.Segments.take (k14 + 1)).map List.length).sum from by rw [List.length_append]; omega), (show ∀ y ∈ (d15 ++ (impl_segmentRows_m x0 ((k14 : Nat) : Int) x1)), smRow 68719476736 y from by intro y hy; rcases List.mem_append.1 hy with hy | hy; exact hi22 y hy; exact segRows_sm s_0 (by omega) x1 y hy)⟩ (rl (by omega))
  ·have g24 := dlF hl23
   refine CM_condF rfl g24 ?_
   refine CM_exit (QM_then_exit (QM_then_exit ?_))
   have hE36 : R2 (x0.Segments.length - 0) 0 [] = Sum.inr d15 := rng_end hl23 hF19
   have hq4 := sum_take_le (w := List.length) (xs := x0.Segments) k14
   have hsm : d15.length ≤ 68719476736 ∧ ∀ y ∈ d15, smRow 68719476736 y := ⟨by omega, hi22⟩
   refine QM_block_hit (QM_then (sr (wm ?_)))
   refine wcl (tSl tyRow 29) (impl_SortRows_m d15) (cl_fn cb20 rfl) (fun W hm => impl_SortRows_c W _ d15 (hm.rdSI (n := 0) rfl) hsm) (fun z37 => ?_)
   refine WM_form (n := 0) rfl ?_
   rintro A38 c39 rfl m40
   refine wa (nt' (CM_ret ?_))
   have he42 := (show impl_RowsAt_m x0 x1 = (impl_SortRows_m d15) from cond_t g13 (fin_inr hE36 (rfl)))
   refine QM_r1 rfl (RR_tmp rfl) (fun W hm => ⟨.slice A38 (impl_SortRows_m d15).length c39, ?_, ?_⟩)
   ·first | rw [he42] | rfl
   ·rw [he42]; exact (hm.pick [0] (by decide))
 ·
  refine CM_condT rfl (nf g13) ?_
  refine sr (wm (wa (nt' (CM_ret (QM_then_ret ?_)))))
  have he43 := (show impl_RowsAt_m x0 x1 = [] from cond_f g13 (rfl))
  refine QM_r1 rfl (RR_tmp rfl) (fun W hm => ⟨.slice (some ⟨p10, 0, none⟩) 0 0, ?_, ?_⟩)
  ·first | rw [he43] | rfl
  ·rw [he43]; exact (hm.pick [0] (by decide))

def spec_IsVisible_m (x0 : DVersion) (x1 : Int) : Bool :=
 cond (decide (x0.Born ≤ x1)) (cond (x0.Died == (-1)) true (decide (x1 < x0.Died))) false
theorem cb27 : Cb Try.prog 27 := ⟨f27, _, func27, rfl, by decide⟩
theorem spec_IsVisible_c (w : World) (z0 : List Value) (x0 : DVersion) (x1 : Int) (r_0 : tyVersion.rd w w.heap.size z0 x0) :
  Calls Try.prog 27 #[.agg z0.toArray, .int .i64 x1] w fun e w' => e = .returned (.bool (spec_IsVisible_m x0 x1)) ∧ Below w.heap.size w w' := by
 obtain ⟨v1, rfl, r2⟩ := tyVersion_rd r_0
 obtain ⟨m3, A4, c5, rfl, q6, r7⟩ := rdS_op r2
 refine ce2 (L := [(0, .agg #[.int .i64 x0.Id, .slice A4 x0.Values.length c5, .int .i64 x0.Born, .int .i64 x0.Died]), (1, .int .i64 x1)]) (N := 20) func27 ?_
 refine sr ?_
 refine WM_box rfl (Wd_none rfl) (by decide) (fun p8 => ?_)
 refine wa (nt' (sr ?_))
 refine wv (vf underlying51 rfl type3) ?_
 refine wv (vl 0 2 underlying3) ?_
 refine wm ?_
 refine wv (fun W hm => rv_leq rfl rfl) ?_
 refine wm ?_
 by_cases h9 : x0.Born ≤ x1
 ·have g10 := decide_eq_true h9
  refine wg (vf underlying51 rfl type3) g10 ?_
  refine wg (vl 0 3 underlying3) g10 ?_
  refine wg (fun W hm => rv_eql rfl rfl) g10 ?_
  refine wg vmv g10 ?_
  by_cases h11 : x0.Died = (-1)
  ·have g12 := beq_iff_eq.2 h11
   refine ws g12 ?_
   refine ws g12 ?_
   refine ws g12 ?_
   refine ws g12 ?_
   refine wg (vpT g12) g10 ?_
   refine wv (vpT g10) ?_
   refine wa (nt' (CM_ret ?_))
   exact rtb (h := cond_t g10 (cond_t g12 (rfl)))
  ·have g12 := beq_eq_false_iff_ne.2 h11
   refine wg (vf underlying51 rfl type3) g12 ?_
   refine wg (vl 0 3 underlying3) g12 ?_
   refine wg vmv g12 ?_
   refine wg (fun W hm => rv_gtr rfl rfl) g12 ?_
   refine wg (vpF g12) g10 ?_
   refine wv (vpT g10) ?_
   refine wa (nt' (CM_ret ?_))
   exact rtb (h := cond_t g10 (cond_f g12 (rfl)))
 ·have g10 := decide_eq_false h9
  refine ws g10 ?_
  refine ws g10 ?_
  refine ws g10 ?_
  refine ws g10 ?_
  refine wu ?_
  refine wu ?_
  refine wu ?_
  refine wu ?_
  refine ws g10 ?_
  refine wv (vpF g10) ?_
  refine wa (nt' (CM_ret ?_))
  exact rtb (h := cond_f g10 (rfl))

def spec_l7Rows_b1 (x0 : (List DVersion)) (x1 : Int) (k9 : Nat) (d10 : (List DRow)) : (List DRow) ⊕ ((List DRow)) :=
 cond (spec_IsVisible_m (gt x0 k9) x1) (Sum.inr (d10 ++ [(⟨(gt x0 k9).Id, (gt x0 k9).Values⟩ : DRow)])) (Sum.inr d10)
def spec_l7Rows_m (x0 : (List DVersion)) (x1 : Int) : (List DRow) :=
 Sum.elim id (fun (s : (List DRow)) => s) (rng (R := (List DRow)) (fun k (s : (List DRow)) => spec_l7Rows_b1 x0 x1 k s) (x0.length - 0) 0 [])
theorem cb57 : Cb Try.prog 57 := ⟨f57, _, func57, rfl, by decide⟩
theorem spec_l7Rows_c (w : World) (z0 : Value) (x0 : (List DVersion)) (x1 : Int) (r_0 : rdS tyVersion w w.heap.size z0 x0) (s_0 : (x0.length ≤ 68719476736 ∧ ∀ y ∈ x0, smVersion 68719476736 y)) :
  Calls Try.prog 57 #[z0, .int .i64 x1] w fun e w' => ∃ v : Value, e = .returned (v) ∧ Mem w.heap.size w [iOwn (tSl tyRow 29) [v] (spec_l7Rows_m x0 x1)] w' := by
 obtain ⟨m1, A2, c3, rfl, q4, r5⟩ := rdS_op r_0
 have l6 : x0.length ≤ 68719476736 := s_0.1
 refine ce2 (L := [(0, .slice A2 x0.length c3), (1, .int .i64 x1)]) (N := 37) func57 ?_
 refine sr (wa (nt' (sr ?_)))
 refine WM_build0 (E := tyRow) underlying39 type29 (Wd_none rfl) (by decide) (fun p7 => ?_)
 refine wa (nt' (CM_seq (sr (wa (nt' (CM_block ?_))))))
 let F1 := fun k (s : (List DRow)) => spec_l7Rows_b1 x0 x1 k s
 let R2 := rng (R := (List DRow)) F1
 refine CM_loop (σ := Nat × ((List DRow)) × (Option Addr × Nat)) (fun s => [(0, .slice A2 x0.length c3), (1, .int .i64 x1), (5, .slice s.2.2.1 s.2.1.length s.2.2.2), (6, .int .i64 ((s.1 : Nat) : Int))]) (fun s => [iOwn (tSl tyRow 29) [.slice s.2.2.1 s.2.1.length s.2.2.2] s.2.1]) (fun s => s.1 ≤ x0.length ∧ R2 (x0.length - s.1) s.1 s.2.1 = R2 (x0.length - 0) 0 [] ∧ s.2.1.length ≤ 0 + s.1) (fun s => x0.length - s.1) (0, [], ((some ⟨p7, 0, none⟩), 0)) sl4 (fun W hm => hm) ⟨(by omega), rfl, Nat.le_refl _⟩ ?_
 rintro ⟨k9, d10, ⟨A11, c12⟩⟩ H15
 obtain ⟨hk13, hF14, hi16⟩ : k9 ≤ x0.length ∧ R2 (x0.length - k9) k9 d10 = R2 (x0.length - 0) 0 [] ∧ d10.length ≤ 0 + k9 := H15
 let I4 : It := iOwn (tSl tyRow 29) [.slice A11 d10.length c12] d10
 show CM Try.prog 37 _ _ _ _ [(0, .slice A2 x0.length c3), (1, .int .i64 x1), (5, .slice A11 d10.length c12), (6, .int .i64 ((k9 : Nat) : Int))] [I4]
 refine CM_seq (sr (wm (wm ?_)))
 refine wv (vlen underlying72) ?_
 refine wv vlss ?_
 refine nt' ?_
 by_cases hl17 : k9 < x0.length
 ·have g18 := dlT hl17
  refine CM_condT rfl g18 ?_
  refine CM_skip (QM_then (CM_seq (CM_block (sr (wm (wm ?_))))))
  obtain ⟨a19, rfl, hb20, he21⟩ := q4 (by omega)
  refine wv (vix 4 k9 underlying72 type51) ?_
  obtain ⟨_, e25, hc22⟩ := he21 k9 _ (gt_some (show k9 < x0.length from by omega))
  obtain ⟨v23, rfl, r24⟩ := tyVersion_rd e25
  have l26 : ((gt x0 k9).Values).length ≤ 68719476736 := (s_0.2 _ (gt_mem (show k9 < x0.length from by omega)))
  obtain ⟨m27, A28, c29, rfl, q30, r31⟩ := rdS_op r24
  refine wv (fun W hm => rv_loadN (cs := [.int .i64 ((gt x0 k9).Id), .slice A28 ((gt x0 k9).Values).length c29, .int .i64 ((gt x0 k9).Born), .int .i64 ((gt x0 k9).Died)]) underlying51 type51 rfl rfl (hm.elCells (show (a19.add (k9 * 4)).block < w.heap.size from by rw [add_block]; exact hb20.1) hc22)) ?_
  refine wm ?_
  refine wcv (cl_fn cb27 rfl) (fun W hm => spec_IsVisible_c W _ (gt x0 k9) x1 (tyVersion_mk (x := (gt x0 k9)) (hm.rdS0 r31))) ?_
  refine nt' ?_
  rcases Bool.eq_false_or_eq_true (spec_IsVisible_m (gt x0 k9) x1) with g33 | g33
  ·
   refine CM_condT rfl g33 ?_
   refine rb 17 (s := []) (pk []) ?_
   refine qt 17 0 1 rfl vmv ?_
   refine qt 17 1 3 rfl vmv ?_
   refine qt 17 2 7 rfl vmv ?_
   refine qt 17 3 15 rfl (vix 4 k9 underlying72 type51) ?_
   refine qt 17 4 31 rfl (vf underlying51 rfl type3) ?_
   refine qt 17 5 63 rfl (fun W hm => rv_load underlying3 rfl rfl ((hm.cell0 (show ((a19.add (k9 * 4)).add 0).block < w.heap.size from by rw [add_block, add_block]; exact hb20.1)).trans (hc22 0 _ rfl))) ?_
   refine qt 17 7 191 rfl vmv ?_
   refine qt 17 8 447 rfl vmv ?_
   refine qt 17 9 959 rfl (vix 4 k9 underlying72 type51) ?_
   refine qt 17 10 1983 rfl (vf underlying51 rfl type27) ?_
   refine qt 17 11 4031 rfl (fun W hm => rv_load underlying27 rfl rfl ((hm.cell0 (show ((a19.add (k9 * 4)).add 1).block < w.heap.size from by rw [add_block, add_block]; exact hb20.1)).trans (hc22 1 _ rfl))) ?_
   refine qo 17 6 4095 rfl ?_
   refine WM_build0 (E := tInt) underlying27 type3 (Wd_none rfl) (by decide) (fun p34 => ?_)
   refine qn (pk []) ?_
   refine qo 17 12 8191 rfl ?_
   refine apR tInt tInt 3 (.slice (some ⟨p34, 0, none⟩) 0 0) [] ((gt x0 k9).Values) [I4] (fun W hm => hm) (fun W hm => src_flat flat_int (hm.rdS0 r31)) underlying27 type3 (show (0 + ((gt x0 k9).Values).length) * 8 ≤ 140737488355328 from by omega) (fun v36 => ?_)
   refine WM_form (n := 0) rfl ?_
   rintro A37 c38 rfl m39
   refine qn (pk []) ?_
   let K3 : List Value := [.int .i64 ((gt x0 k9).Id), .slice A37 ((gt x0 k9).Values).length c38]
   refine qt 17 13 16383 rfl (fun W hm => rv_build (cs := K3) rfl (by kernel_rfl)) ?_
   refine qo 17 14 32767 rfl ?_
   refine WM_build (cs := K3) underlying39 type29 rfl (by decide) (by decide) rfl (by kernel_rfl) (Wd_none rfl) (by decide) (fun p41 => ?_)
   refine qn (pk []) ?_
   refine qo 17 15 65535 rfl ?_
   refine ap1 tyRow 29 (.slice A11 d10.length c12) d10 (⟨(gt x0 k9).Id, (gt x0 k9).Values⟩ : DRow) [iOwn (tSl tInt 3) [.slice A37 ((gt x0 k9).Values).length c38] ((gt x0 k9).Values)] [] K3 (pk [0, 2, 1]) (fun _ _ hs => Els.single (tyRow_join (x := (⟨(gt x0 k9).Id, (gt x0 k9).Values⟩ : DRow)) hs)) underlying39 type29 (show (d10.length + 1) * 32 ≤ 140737488355328 from by omega) (fun v42 => ?_)
   refine WM_form (n := 0) rfl ?_
   rintro A43 c44 rfl m45
   refine qn (pk []) ?_
   refine qt 17 16 131071 rfl (fun W hm => rv_assign rfl) ?_
   refine QB_done (by kernel_rfl) ?_
   refine QM_block_normal (QM_then (CM_region (wm ?_)))
   refine wv (vadN k9 1 (by omega)) ?_
   refine wa (WM_nil ?_)
   have hn47 := rng_next (R := (List DRow)) (body := F1) (k := k9) (s := d10) (s' := (d10 ++ [(⟨(gt x0 k9).Id, (gt x0 k9).Values⟩ : DRow)])) (show k9 < x0.length from by omega) (cond_t g33 (rfl)) hF14
   exact QM_round (k9 + 1, (d10 ++ [(⟨(gt x0 k9).Id, (gt x0 k9).Values⟩ : DRow)]), (A43, c44)) sl4 (fun W hm => hm) ⟨(by omega), hn47, (show (d10 ++ [(⟨(gt x0 k9).Id, (gt x0 k9).Values⟩ : DRow)]).length ≤ 0 + (k9 + 1) from by first | omega | (simp only [List.length_append, List.length_cons, List.length_nil] at *; omega))⟩ (rl (by omega))
  ·
   refine CM_condF rfl g33 ?_
   refine CM_skip (QM_block_normal (QM_then (CM_region (wm ?_))))
   refine wv (vadN k9 1 (by omega)) ?_
   refine wa (WM_nil ?_)
   have hn48 := rng_next (R := (List DRow)) (body := F1) (k := k9) (s := d10) (s' := d10) (show k9 < x0.length from by omega) (cond_f g33 (rfl)) hF14
   exact QM_round (k9 + 1, d10, (A11, c12)) sl4 (fun W hm => hm) ⟨(by omega), hn48, (show d10.length ≤ 0 + (k9 + 1) from by first | omega | (simp only [List.length_append, List.length_cons, List.length_nil] at *; omega))⟩ (rl (by omega))
 ·have g18 := dlF hl17
  refine CM_condF rfl g18 ?_
  refine CM_exit (QM_then_exit (QM_then_exit ?_))
  have hE49 : R2 (x0.length - 0) 0 [] = Sum.inr d10 := rng_end hl17 hF14
  refine QM_block_hit (QM_then (sr (wm (wa (nt' (CM_ret ?_))))))
  have he50 := (show spec_l7Rows_m x0 x1 = d10 from fin_inr hE49 (rfl))
  refine QM_r1 rfl (RR_tmp rfl) (fun W hm => ⟨.slice A11 d10.length c12, ?_, ?_⟩)
  ·first | rw [he50] | rfl
  ·rw [he50]; exact hm

def spec_l3LessInts_b1 (x0 : (List Int)) (x1 : (List Int)) (k11 : Nat) : Bool ⊕ ((Unit) ⊕ (Unit)) :=
 cond (decide (((k11 : Nat) : Int) < ((x1.length : Nat) : Int))) (cond ((gt x0 k11) != (gt x1 k11)) (Sum.inl (decide ((gt x0 k11) < (gt x1 k11)))) (Sum.inr (Sum.inr ()))) (Sum.inr (Sum.inl ()))
def spec_l3LessInts_m (x0 : (List Int)) (x1 : (List Int)) : Bool :=
 Sum.elim id (fun (s : Unit) => (decide (((x0.length : Nat) : Int) < ((x1.length : Nat) : Int)))) (rngb (R := Bool) (fun k (_ : Unit) => spec_l3LessInts_b1 x0 x1 k) (x0.length - 0) 0 ())
theorem cb87 : Cb Try.prog 87 := ⟨f87, _, func87, rfl, by decide⟩
theorem spec_l3LessInts_c (w : World) (z0 : Value) (x0 : (List Int)) (z1 : Value) (x1 : (List Int)) (r_0 : rdS tInt w w.heap.size z0 x0) (r_1 : rdS tInt w w.heap.size z1 x1) :
  Calls Try.prog 87 #[z0, z1] w fun e w' => e = .returned (.bool (spec_l3LessInts_m x0 x1)) ∧ Below w.heap.size w w' := by
 obtain ⟨m1, A2, c3, rfl, q4, r5⟩ := rdS_op r_0
 obtain ⟨m6, A7, c8, rfl, q9, r10⟩ := rdS_op r_1
 refine ce2 (L := [(0, .slice A2 x0.length c3), (1, .slice A7 x1.length c8)]) (N := 41) func87 ?_
 refine sr (wa (nt' (CM_seq (sr (wa (nt' ?_))))))
 let F1 := fun k (_ : Unit) => spec_l3LessInts_b1 x0 x1 k
 let R2 := rngb (R := Bool) F1
 refine CM_cut (σ := (Unit) × (Unit)) (fun s => [(0, .slice A2 x0.length c3), (1, .slice A7 x1.length c8)]) (fun s => []) (fun s => R2 (x0.length - 0) 0 () = Sum.inr s.1) ?_ ?_
 ·
  refine CM_block ?_
  refine CM_loop (σ := Nat × (Unit) × (Unit)) (fun s => [(0, .slice A2 x0.length c3), (1, .slice A7 x1.length c8), (5, .int .i64 ((s.1 : Nat) : Int))]) (fun s => []) (fun s => s.1 ≤ x0.length ∧ R2 (x0.length - s.1) s.1 s.2.1 = R2 (x0.length - 0) 0 ()) (fun s => x0.length - s.1) (0, (), ()) sl3 (fun W hm => hm) ⟨(by omega), rfl⟩ ?_
  rintro ⟨k11, ⟨⟩, ⟨⟩⟩ H14
  obtain ⟨hk12, hF13⟩ : k11 ≤ x0.length ∧ R2 (x0.length - k11) k11 () = R2 (x0.length - 0) 0 () := H14
  show CM Try.prog 41 _ _ _ _ [(0, .slice A2 x0.length c3), (1, .slice A7 x1.length c8), (5, .int .i64 ((k11 : Nat) : Int))] []
  refine CM_seq (sr (wm (wm ?_)))
  refine wv (vlen underlying27) ?_
  refine wv vlss ?_
  refine wm ?_
  by_cases hl15 : k11 < x0.length
  ·have g16 := dlT hl15
   refine wg vmv g16 ?_
   refine wg vmv g16 ?_
   refine wg (vlen underlying27) g16 ?_
   refine wg vlss g16 ?_
   refine wv (vpT g16) ?_
   refine nt' ?_
   by_cases h17 : ((k11 : Nat) : Int) < ((x1.length : Nat) : Int)
   ·have g18 := decide_eq_true h17
    refine CM_condT rfl g18 ?_
    refine CM_skip (QM_then (CM_seq (CM_block (CM_seq ?_))))
    refine CM_regionD (by kernel_rfl) (by kernel_rfl) ?_
    refine qm (qm ?_)
    obtain ⟨a19, rfl, hb20, he21⟩ := q4 (by omega)
    refine qv (vix 1 k11 underlying27 type3) ?_
    refine qv (fun W hm => rv_load underlying3 rfl rfl ((hm.cell0 (show (a19.add (k11 * 1)).block < w.heap.size from by rw [add_block]; exact hb20.1)).trans (rdS_int he21 k11 (by omega)))) ?_
    refine qm (qm ?_)
    obtain ⟨a22, rfl, hb23, he24⟩ := q9 (by omega)
    refine qv (vix 1 k11 underlying27 type3) ?_
    refine qv (fun W hm => rv_load underlying3 rfl rfl ((hm.cell0 (show (a22.add (k11 * 1)).block < w.heap.size from by rw [add_block]; exact hb23.1)).trans (rdS_int he24 k11 (by omega)))) ?_
    refine qv vneq ?_
    refine nq' ?_
    by_cases h25 : (gt x0 k11) = (gt x1 k11)
    ·have g26 : ((gt x0 k11) != (gt x1 k11)) = false := by rw [h25]; exact bne_self_eq_false _
     refine CM_condF rfl g26 ?_
     refine CM_skip (QM_block_normal (QM_then (CM_region (wm ?_))))
     refine wv (vadN k11 1 (by omega)) ?_
     refine wa (WM_nil ?_)
     have hn27 := rngb_next (R := Bool) (body := F1) (k := k11) (s := ()) (s' := ()) (show k11 < x0.length from by omega) (cond_t g18 (cond_f g26 (rfl))) hF13
     exact QM_round (k11 + 1, (), ()) sl3 (fun W hm => hm) ⟨(by omega), hn27⟩ (rl (by omega))
    ·have g26 : ((gt x0 k11) != (gt x1 k11)) = true := bne_iff_ne.2 h25
     refine CM_condT rfl g26 ?_
     refine CM_seq ?_
     refine CM_regionD (by kernel_rfl) (by kernel_rfl) ?_
     refine qm (qm ?_)
     refine qv (vix 1 k11 underlying27 type3) ?_
     refine qv (fun W hm => rv_load underlying3 rfl rfl ((hm.cell0 (show (a19.add (k11 * 1)).block < w.heap.size from by rw [add_block]; exact hb20.1)).trans (rdS_int he21 k11 (by omega)))) ?_
     refine qm (qm ?_)
     refine qv (vix 1 k11 underlying27 type3) ?_
     refine qv (fun W hm => rv_load underlying3 rfl rfl ((hm.cell0 (show (a22.add (k11 * 1)).block < w.heap.size from by rw [add_block]; exact hb23.1)).trans (rdS_int he24 k11 (by omega)))) ?_
     refine qv vlss ?_
     refine qv (fun W hm => rv_assign rfl) ?_
     refine nq' (CM_ret (QM_block_ret (QM_then_ret (QM_then_ret (QM_block_ret (QM_cut_ret (QM_then_ret ?_)))))))
     exact rtb (h := fin_inl (rngb_ret (body := F1) (k := k11) (s := ()) (show k11 < x0.length from by omega) (cond_t g18 (cond_t g26 (rfl))) hF13) rfl)
   ·have g18 := decide_eq_false h17
    refine CM_condF rfl g18 ?_
    refine CM_exit (QM_then_exit (QM_then_exit (QM_block_hit ?_)))
    have hE28 := rngb_brk (R := Bool) (body := F1) (k := k11) (s := ()) (s' := ()) (show k11 < x0.length from by omega) (cond_f g18 (rfl)) hF13
    exact QM_cut_normal ((), ()) sl2 (fun W hm => hm) hE28
  ·have g16 := dlF hl15
   refine ws g16 ?_
   refine ws g16 ?_
   refine ws g16 ?_
   refine ws g16 ?_
   refine wv (vpF g16) ?_
   refine nt' ?_
   refine CM_condF rfl rfl ?_
   refine CM_exit (QM_then_exit (QM_then_exit (QM_block_hit ?_)))
   have hE29 : R2 (x0.length - 0) 0 () = Sum.inr () := rngb_end hl15 hF13
   exact QM_cut_normal ((), ()) sl2 (fun W hm => hm) hE29
 ·
  rintro ⟨⟨⟩, ⟨⟩⟩ H31
  have hE30 : R2 (x0.length - 0) 0 () = Sum.inr () := H31
  show QM 41 _ _ _ .normal [(0, .slice A2 x0.length c3), (1, .slice A7 x1.length c8)] []
  refine QM_then (sr (wm ?_))
  refine wv (vlen underlying27) ?_
  refine wm ?_
  refine wv (vlen underlying27) ?_
  refine wv vlss ?_
  refine wa (nt' (CM_ret ?_))
  exact rtb (h := fin_inr hE30 (rfl))

def spec_l3Less_m (x0 : DRow) (x1 : DRow) : Bool :=
 cond (x0.Id != x1.Id) (decide (x0.Id < x1.Id)) (spec_l3LessInts_m x0.Values x1.Values)
theorem cb75 : Cb Try.prog 75 := ⟨f75, _, func75, rfl, by decide⟩
theorem spec_l3Less_c (w : World) (z0 : List Value) (x0 : DRow) (z1 : List Value) (x1 : DRow) (r_0 : tyRow.rd w w.heap.size z0 x0) (r_1 : tyRow.rd w w.heap.size z1 x1) :
  Calls Try.prog 75 #[.agg z0.toArray, .agg z1.toArray] w fun e w' => e = .returned (.bool (spec_l3Less_m x0 x1)) ∧ Below w.heap.size w w' := by
 obtain ⟨v1, rfl, r2⟩ := tyRow_rd r_0
 obtain ⟨m3, A4, c5, rfl, q6, r7⟩ := rdS_op r2
 obtain ⟨v8, rfl, r9⟩ := tyRow_rd r_1
 obtain ⟨m10, A11, c12, rfl, q13, r14⟩ := rdS_op r9
 refine ce2 (L := [(0, .agg #[.int .i64 x0.Id, .slice A4 x0.Values.length c5]), (1, .agg #[.int .i64 x1.Id, .slice A11 x1.Values.length c12])]) (N := 20) func75 ?_
 refine sr ?_
 refine WM_box rfl (Wd_none rfl) (by decide) (fun p15 => ?_)
 refine WM_box rfl (Wd_none rfl) (by decide) (fun p16 => ?_)
 refine wa (nt' (CM_seq (sr ?_)))
 refine wv (vf underlying29 rfl type3) ?_
 refine wv (vl 1 0 underlying3) ?_
 refine wv (vf underlying29 rfl type3) ?_
 refine wv (vl 0 0 underlying3) ?_
 refine wv vneq ?_
 refine nt' ?_
 by_cases h17 : x0.Id = x1.Id
 ·have g18 : (x0.Id != x1.Id) = false := by rw [h17]; exact bne_self_eq_false _
  refine CM_condF rfl g18 ?_
  refine CM_skip (QM_then (sr ?_))
  refine wv (vf underlying29 rfl type27) ?_
  refine wv (vl 1 1 underlying27) ?_
  refine wv (vf underlying29 rfl type27) ?_
  refine wv (vl 0 1 underlying27) ?_
  refine wcv (cl_fn cb87 rfl) (fun W hm => spec_l3LessInts_c W _ x0.Values _ x1.Values (hm.rdS0 r7) (hm.rdS0 r14)) ?_
  refine wa (nt' (CM_ret ?_))
  exact rtb (h := cond_f g18 (rfl))
 ·have g18 : (x0.Id != x1.Id) = true := bne_iff_ne.2 h17
  refine CM_condT rfl g18 ?_
  refine sr ?_
  refine wv (vf underlying29 rfl type3) ?_
  refine wv (vl 1 0 underlying3) ?_
  refine wv (vf underlying29 rfl type3) ?_
  refine wv (vl 0 0 underlying3) ?_
  refine wv vlss ?_
  refine wa (nt' (CM_ret (QM_then_ret ?_)))
  exact rtb (h := cond_t g18 (rfl))

def spec_l3Copy_m (x0 : DRow) : DRow :=
 x0
theorem cb76 : Cb Try.prog 76 := ⟨f76, _, func76, rfl, by decide⟩
theorem spec_l3Copy_c (w : World) (z0 : List Value) (x0 : DRow) (r_0 : tyRow.rd w w.heap.size z0 x0) (s_0 : smRow 68719476736 x0) :
  Calls Try.prog 76 #[.agg z0.toArray] w fun e w' => ∃ v : List Value, e = .returned (.agg v.toArray) ∧ Mem w.heap.size w [iOwn tyRow v (spec_l3Copy_m x0)] w' := by
 obtain ⟨v1, rfl, r2⟩ := tyRow_rd r_0
 obtain ⟨m3, A4, c5, rfl, q6, r7⟩ := rdS_op r2
 have l8 : x0.Values.length ≤ 68719476736 := s_0
 refine ce1 (L := [(0, .agg #[.int .i64 x0.Id, .slice A4 x0.Values.length c5])]) (N := 10) func76 ?_
 refine sr ?_
 refine WM_box rfl (Wd_none rfl) (by decide) (fun p9 => ?_)
 refine WM_alloc type29 rfl (Wd_none rfl) (by decide) (fun p10 => ?_)
 refine nt' (CM_seq ?_)
 let I1 : It := iBox p9 29 [.int .i64 x0.Id, .slice A4 x0.Values.length c5]
 refine rd2 8 [7] (s := [I1]) (s2 := [iBox p10 29 [.int .i64 0, .slice none 0 0], I1]) (pk [1]) (fun W hm => hm) ?_
 refine qtD 8 0 1 rfl (vf underlying29 rfl type3) ?_
 refine qtD 8 1 3 rfl (vl 1 0 underlying3) ?_
 refine qtD 8 3 11 rfl (vf underlying29 rfl type27) ?_
 refine qtD 8 4 27 rfl (vl 1 1 underlying27) ?_
 refine qoD 8 2 31 rfl ?_
 refine WM_build0 (E := tInt) underlying27 type3 (Wd_none rfl) (by decide) (fun p11 => ?_)
 refine qnD (pk [2]) (pk [1, 2]) ?_
 refine qoD 8 5 63 rfl ?_
 refine apR tInt tInt 3 (.slice (some ⟨p11, 0, none⟩) 0 0) [] x0.Values [iBox p10 29 [.int .i64 0, .slice none 0 0], I1] (fun W hm => hm) (fun W hm => src_flat flat_int (hm.rdS0 r7)) underlying27 type3 (show (0 + x0.Values.length) * 8 ≤ 140737488355328 from by omega) (fun v13 => ?_)
 refine WM_form (n := 0) rfl ?_
 rintro A14 c15 rfl m16
 refine qnD (pk [2]) (pk [1, 2]) ?_
 refine qtD 8 6 127 rfl (fun W hm => rv_build (cs := [.int .i64 x0.Id, .slice A14 x0.Values.length c15]) rfl (by kernel_rfl)) ?_
 refine qoD 8 7 255 rfl ?_
 let I2 : It := iOwn (tSl tInt 3) [.slice A14 x0.Values.length c15] x0.Values
 refine sb 0 [.int .i64 x0.Id, .slice A14 x0.Values.length c15] [I2, I1] (pk [1, 0, 2]) type29 ?_
 refine qxD (pk [2]) ?_
 refine QB_done (by kernel_rfl) ?_
 refine QM_then (CM_ret ?_)
 have he18 := (show spec_l3Copy_m x0 = x0 from rfl)
 refine QM_r1 rfl (RR_cell (n := 0) rfl rfl underlying29 type29 rfl) (fun W hm => ⟨[.int .i64 x0.Id, .slice A14 x0.Values.length c15], ?_, ?_⟩)
 ·first | rw [he18] | rfl
 ·rw [he18]; exact Mem.join (is := [I2]) (js := []) (fun _ _ hs => tyRow_join (x := x0) hs) (hm.pick [1] (by decide))
theorem spec_l3Copy_eq (x0 : DRow) : spec_l3Copy_m x0 = x0 := by
 rfl
theorem spec_l3Copy_c2 (w : World) (z0 : List Value) (x0 : DRow) (r_0 : tyRow.rd w w.heap.size z0 x0) (s_0 : smRow 68719476736 x0) :
  Calls Try.prog 76 #[.agg z0.toArray] w fun e w' => ∃ v : List Value, e = .returned (.agg v.toArray) ∧ Mem w.heap.size w [iOwn tyRow v x0] w' := by
 have h := spec_l3Copy_c w z0 x0 r_0 s_0
 rw [spec_l3Copy_eq] at h
 exact h

def spec_SortRows_b2 (x0 : (List DRow)) (k9 : Nat) (d10 : (List DRow)) (k19 : Nat) (s20 : Nat) : (List DRow) ⊕ ((Nat) ⊕ (Nat)) :=
 cond (decide (0 < ((s20 : Nat) : Int))) (cond (spec_l3Less_m (gt x0 k9) (gt d10 (s20 - 1))) (Sum.inr (Sum.inr (s20 - 1))) (Sum.inr (Sum.inl s20))) (Sum.inr (Sum.inl s20))
def spec_SortRows_b1 (x0 : (List DRow)) (k9 : Nat) (d10 : (List DRow)) : (List DRow) ⊕ ((List DRow)) :=
 Sum.elim Sum.inl (fun (s : Nat) => Sum.inr ((List.take s d10 ++ [(gt x0 k9)]) ++ List.drop s d10)) (rngb (R := (List DRow)) (fun k (s : Nat) => spec_SortRows_b2 x0 k9 d10 k s) (d10.length + 1 - 0) 0 d10.length)
def spec_SortRows_m (x0 : (List DRow)) : (List DRow) :=
 Sum.elim id (fun (s : (List DRow)) => s) (rng (R := (List DRow)) (fun k (s : (List DRow)) => spec_SortRows_b1 x0 k s) (x0.length - 0) 0 [])
theorem cb56 : Cb Try.prog 56 := ⟨f56, _, func56, rfl, by decide⟩
theorem spec_SortRows_c (w : World) (z0 : Value) (x0 : (List DRow)) (r_0 : rdS tyRow w w.heap.size z0 x0) (s_0 : (x0.length ≤ 68719476736 ∧ ∀ y ∈ x0, smRow 68719476736 y)) :
  Calls Try.prog 56 #[z0] w fun e w' => ∃ v : Value, e = .returned (v) ∧ Mem w.heap.size w [iOwn (tSl tyRow 29) [v] (spec_SortRows_m x0)] w' := by
 obtain ⟨m1, A2, c3, rfl, q4, r5⟩ := rdS_op r_0
 have l6 : x0.length ≤ 68719476736 := s_0.1
 refine ce1 (L := [(0, .slice A2 x0.length c3)]) (N := 51) func56 ?_
 refine sr (wa (nt' (sr ?_)))
 refine WM_build0 (E := tyRow) underlying39 type29 (Wd_none rfl) (by decide) (fun p7 => ?_)
 refine wa (nt' (CM_seq (sr (wa (nt' (CM_block ?_))))))
 let F1 := fun k (s : (List DRow)) => spec_SortRows_b1 x0 k s
 let R3 := rng (R := (List DRow)) F1
 refine CM_loop (σ := Nat × ((List DRow)) × (Option Addr × Nat)) (fun s => [(0, .slice A2 x0.length c3), (3, .slice s.2.2.1 s.2.1.length s.2.2.2), (4, .int .i64 ((s.1 : Nat) : Int))]) (fun s => [iOwn (tSl tyRow 29) [.slice s.2.2.1 s.2.1.length s.2.2.2] s.2.1]) (fun s => s.1 ≤ x0.length ∧ R3 (x0.length - s.1) s.1 s.2.1 = R3 (x0.length - 0) 0 [] ∧ s.2.1.length ≤ 0 + s.1) (fun s => x0.length - s.1) (0, [], ((some ⟨p7, 0, none⟩), 0)) sl3 (fun W hm => hm) ⟨(by omega), rfl, Nat.le_refl _⟩ ?_
 rintro ⟨k9, d10, ⟨A11, c12⟩⟩ H15
 obtain ⟨hk13, hF14, hi16⟩ : k9 ≤ x0.length ∧ R3 (x0.length - k9) k9 d10 = R3 (x0.length - 0) 0 [] ∧ d10.length ≤ 0 + k9 := H15
 let I7 : It := iOwn (tSl tyRow 29) [.slice A11 d10.length c12] d10
 show CM Try.prog 51 _ _ _ _ [(0, .slice A2 x0.length c3), (3, .slice A11 d10.length c12), (4, .int .i64 ((k9 : Nat) : Int))] [I7]
 refine CM_seq (sr (wm (wm ?_)))
 refine wv (vlen underlying39) ?_
 refine wv vlss ?_
 refine nt' ?_
 by_cases hl17 : k9 < x0.length
 ·have g18 := dlT hl17
  refine CM_condT rfl g18 ?_
  refine CM_skip (QM_then (CM_seq (CM_block (sr (wm ?_)))))
  refine wv (vlen underlying39) ?_
  refine wa (nt' (CM_seq ?_))
  let F2 := fun k (s : Nat) => spec_SortRows_b2 x0 k9 d10 k s
  let R4 := rngb (R := (List DRow)) F2
  refine CM_cut (σ := (Nat) × (Unit)) (fun s => [(0, .slice A2 x0.length c3), (3, .slice A11 d10.length c12), (4, .int .i64 ((k9 : Nat) : Int)), (5, .int .i64 ((s.1 : Nat) : Int))]) (fun s => [I7]) (fun s => R4 (d10.length + 1 - 0) 0 d10.length = Sum.inr s.1 ∧ s.1 ≤ d10.length) ?_ ?_
  ·
   refine CM_block ?_
   refine CM_loop (σ := Nat × (Nat) × (Unit)) (fun s => [(0, .slice A2 x0.length c3), (3, .slice A11 d10.length c12), (4, .int .i64 ((k9 : Nat) : Int)), (5, .int .i64 ((s.2.1 : Nat) : Int))]) (fun s => [I7]) (fun s => s.1 + (s.2.1) + 1 ≤ d10.length + 1 ∧ R4 (d10.length + 1 - s.1) s.1 s.2.1 = R4 (d10.length + 1 - 0) 0 d10.length ∧ s.2.1 ≤ d10.length) (fun s => d10.length + 1 - s.1) (0, d10.length, ()) sl4 (fun W hm => hm) ⟨(show 0 + (d10.length) + 1 ≤ d10.length + 1 from by omega), rfl, (show d10.length ≤ d10.length from by omega)⟩ ?_
   rintro ⟨k19, s20, ⟨⟩⟩ H23
   obtain ⟨hk21, hF22, hi24⟩ : k19 + (s20) + 1 ≤ d10.length + 1 ∧ R4 (d10.length + 1 - k19) k19 s20 = R4 (d10.length + 1 - 0) 0 d10.length ∧ s20 ≤ d10.length := H23
   show CM Try.prog 51 _ _ _ _ [(0, .slice A2 x0.length c3), (3, .slice A11 d10.length c12), (4, .int .i64 ((k9 : Nat) : Int)), (5, .int .i64 ((s20 : Nat) : Int))] [I7]
   refine CM_seq (CM_seq ?_)
   by_cases h25 : 0 < ((s20 : Nat) : Int)
   ·have g26 := decide_eq_true h25
    refine CM_formO (n := 0) rfl (by omega) ?_
    rintro g27 rfl
    refine CM_focus (E := tyRow) (e := 29) (A := (some ⟨g27, 0, none⟩)) (n := d10.length) (c := c12) (xs := d10) (k := (s20 - 1)) (js := []) (by omega) (fun W hm => hm) (fun ck28 => ?_)
    refine CM_split (γ := Value) (js := fun g => [iOwn (tSl tInt 3) [g] ((gt d10 (s20 - 1)).Values)]) (C := fun g => ck28 = [.int .i64 ((gt d10 (s20 - 1)).Id), g]) (fun _ _ h => tyRow_split h) ?_
    rintro v29 rfl
    refine CM_form (n := 0) rfl ?_
    rintro A30 c31 rfl m32
    refine CM_regionD (by kernel_rfl) (by kernel_rfl) ?_
    refine qm ?_
    refine qv (fun W hm => rv_gtr rfl rfl) ?_
    refine qm ?_
    refine qg vmv g26 ?_
    refine qg vmv g26 ?_
    obtain ⟨a34, rfl, hb35, he36⟩ := q4 (by omega)
    refine qg (vix 2 k9 underlying39 type29) g26 ?_
    obtain ⟨_, e40, hc37⟩ := he36 k9 _ (gt_some (show k9 < x0.length from by omega))
    obtain ⟨v38, rfl, r39⟩ := tyRow_rd e40
    have l41 : ((gt x0 k9).Values).length ≤ 68719476736 := (s_0.2 _ (gt_mem (show k9 < x0.length from by omega)))
    obtain ⟨m42, A43, c44, rfl, q45, r46⟩ := rdS_op r39
    refine qg (fun W hm => rv_loadN (cs := [.int .i64 ((gt x0 k9).Id), .slice A43 ((gt x0 k9).Values).length c44]) underlying29 type29 rfl rfl (hm.elCells (show (a34.add (k9 * 2)).block < w.heap.size from by rw [add_block]; exact hb35.1) hc37)) g26 ?_
    refine qg vmv g26 ?_
    refine qg vmv g26 ?_
    refine qg (fun W hm => rv_subN (p := s20) (q := 1) rfl rfl (by omega) (by omega)) g26 ?_
    refine qg (fun W hm => rv_index (sz := 2) (k := s20 - 1) underlying39 type29 rfl rfl rfl (by omega)) g26 ?_
    let K5 : List Value := [.int .i64 ((gt d10 (s20 - 1)).Id), .slice A30 ((gt d10 (s20 - 1)).Values).length c31]
    refine qg (fun W hm => rv_loadN (cs := K5) underlying29 type29 rfl rfl (hm.focCells (i := 1) rfl rfl)) g26 ?_
    refine QR_callV (cl_fn cb75 rfl) (fun W hm => spec_l3Less_c W _ (gt x0 k9) _ (gt d10 (s20 - 1)) (tyRow_mk (x := (gt x0 k9)) (hm.rdS0 r46)) (tyRow_mk (x := (gt d10 (s20 - 1))) (hm.rdSI (n := 0) rfl))) (Wd_some rfl rfl rfl (bw g26 rfl)) (by decide) ?_
    refine qv (vpT g26) ?_
    refine nq' ?_
    rcases Bool.eq_false_or_eq_true (spec_l3Less_m (gt x0 k9) (gt d10 (s20 - 1))) with g48 | g48
    ·
     refine CM_condT rfl g48 ?_
     refine CM_skip (QM_then (CM_block (CM_region (wm ?_))))
     refine wv (fun W hm => rv_subN (p := s20) (q := 1) rfl rfl (by omega) (by omega)) ?_
     refine wa (WM_nil (QM_block_normal ?_))
     refine QM_items (fun W hm => Mem.unfocus0 (Mem.join (is := [iOwn (tSl tInt 3) [.slice A30 ((gt d10 (s20 - 1)).Values).length c31] ((gt d10 (s20 - 1)).Values)]) (js := (iFoc tyRow 29 (some ⟨g27, 0, none⟩) d10.length c12 d10 (s20 - 1) K5 :: [])) (fun _ _ hs => tyRow_join (x := (gt d10 (s20 - 1))) hs) hm)) ?_
     have hn49 := rngb_next (R := (List DRow)) (body := F2) (k := k19) (s := s20) (s' := s20 - 1) (show k19 < d10.length + 1 from by omega) (cond_t g26 (cond_t g48 (rfl))) hF22
     exact QM_round (k19 + 1, s20 - 1, ()) sl4 (fun W hm => hm) ⟨(show (k19 + 1) + ((s20 - 1)) + 1 ≤ d10.length + 1 from by omega), hn49, (show (s20 - 1) ≤ d10.length from by first | omega | (simp only [List.length_append, List.length_cons, List.length_nil] at *; omega))⟩ (show d10.length + 1 - (k19 + 1) < d10.length + 1 - k19 from by omega)
    ·
     refine CM_condF rfl g48 ?_
     refine CM_exit (QM_then_exit (QM_then_exit (QM_block_hit ?_)))
     refine QM_items (fun W hm => Mem.unfocus0 (Mem.join (is := [iOwn (tSl tInt 3) [.slice A30 ((gt d10 (s20 - 1)).Values).length c31] ((gt d10 (s20 - 1)).Values)]) (js := (iFoc tyRow 29 (some ⟨g27, 0, none⟩) d10.length c12 d10 (s20 - 1) K5 :: [])) (fun _ _ hs => tyRow_join (x := (gt d10 (s20 - 1))) hs) hm)) ?_
     have hE50 := rngb_brk (R := (List DRow)) (body := F2) (k := k19) (s := s20) (s' := s20) (show k19 < d10.length + 1 from by omega) (cond_t g26 (cond_f g48 (rfl))) hF22
     exact QM_cut_normal (s20, ()) sl4 (fun W hm => hm) ⟨hE50, (show s20 ≤ d10.length from by first | omega | (simp only [List.length_append, List.length_cons, List.length_nil] at *; omega))⟩
   ·have g26 := decide_eq_false h25
    refine CM_regionD (by kernel_rfl) (by kernel_rfl) ?_
    refine qm ?_
    refine qv (fun W hm => rv_gtr rfl rfl) ?_
    refine qm ?_
    refine qs g26 ?_
    refine qs g26 ?_
    refine qs g26 ?_
    refine qs g26 ?_
    refine qs g26 ?_
    refine qs g26 ?_
    refine qs g26 ?_
    refine qs g26 ?_
    refine qs g26 ?_
    refine qs g26 ?_
    refine qv (vpF g26) ?_
    refine nq' ?_
    refine CM_condF rfl rfl ?_
    refine CM_exit (QM_then_exit (QM_then_exit (QM_block_hit ?_)))
    have hE51 := rngb_brk (R := (List DRow)) (body := F2) (k := k19) (s := s20) (s' := s20) (show k19 < d10.length + 1 from by omega) (cond_f g26 (rfl)) hF22
    exact QM_cut_normal (s20, ()) sl4 (fun W hm => hm) ⟨hE51, (show s20 ≤ d10.length from by first | omega | (simp only [List.length_append, List.length_cons, List.length_nil] at *; omega))⟩
  ·
   rintro ⟨s20, ⟨⟩⟩ H53
   obtain ⟨hE52, hx54⟩ : R4 (d10.length + 1 - 0) 0 d10.length = Sum.inr s20 ∧ s20 ≤ d10.length := H53
   show QM 51 _ _ _ .normal [(0, .slice A2 x0.length c3), (3, .slice A11 d10.length c12), (4, .int .i64 ((k9 : Nat) : Int)), (5, .int .i64 ((s20 : Nat) : Int))] [I7]
   refine QM_then (sr ?_)
   refine WM_build0 (E := tyRow) underlying39 type29 (Wd_none rfl) (by decide) (fun p55 => ?_)
   refine wm (wm ?_)
   refine WM_toCk (E := tyRow) (e := 29) (v := .slice A11 d10.length c12) (xs := d10) (js := [iOwn (tSl tyRow 29) [.slice (some ⟨p55, 0, none⟩) 0 0] []]) (pk [1, 0]) (fun ps57 hps58 => ?_)
   have hl59 : ps57.length = d10.length := by rw [← hps58, List.length_map]
   refine wv (fun W hm => rv_sliceHi (k := s20) underlying39 type29 rfl rfl (by have := rdS_cap (hm.rdSI (n := 0) rfl); omega)) ?_
   refine WM_items (fun W hm => Mem.emptyAs (E := tyRow) (F := (tCk (ckA tyRow))) rfl (hm.pick [2, 0, 1] (by decide))) ?_
   refine apR (tCk (ckA tyRow)) (tCk (ckA tyRow)) 29 (.slice (some ⟨p55, 0, none⟩) 0 0) [] (List.take s20 ps57) [iOwn (tSl (tCk (ckA tyRow)) 29) [.slice A11 d10.length c12] ps57, iCk tyRow ps57] (fun W hm => hm) (fun W hm => src_flat flat_ck (rdS_take (k := s20) (by omega) (hm.rdSI (n := 1) rfl))) underlying39 type29 (show ([].length + (List.take s20 ps57).length) * 32 ≤ 140737488355328 from by first | omega | (simp only [List.length_append, List.length_cons, List.length_nil, List.length_take, List.length_drop] at *; omega)) (fun v60 => ?_)
   refine WM_form (n := 0) rfl ?_
   rintro A61 c62 rfl m63
   refine wa (nt' (sr (wm (wm (wm ?_)))))
   obtain ⟨a65, rfl, hb66, he67⟩ := q4 (by omega)
   refine wv (vix 2 k9 underlying39 type29) ?_
   obtain ⟨_, e71, hc68⟩ := he67 k9 _ (gt_some (show k9 < x0.length from by omega))
   obtain ⟨v69, rfl, r70⟩ := tyRow_rd e71
   have l72 : ((gt x0 k9).Values).length ≤ 68719476736 := (s_0.2 _ (gt_mem (show k9 < x0.length from by omega)))
   obtain ⟨m73, A74, c75, rfl, q76, r77⟩ := rdS_op r70
   refine wv (fun W hm => rv_loadN (cs := [.int .i64 ((gt x0 k9).Id), .slice A74 ((gt x0 k9).Values).length c75]) underlying29 type29 rfl rfl (hm.elCells (show (a65.add (k9 * 2)).block < w.heap.size from by rw [add_block]; exact hb66.1) hc68)) ?_
   refine wcs tyRow (gt x0 k9) (cl_fn cb76 rfl) (fun W hm => spec_l3Copy_c2 W _ (gt x0 k9) (tyRow_mk (x := (gt x0 k9)) (hm.rdS0 r77)) (s_0.2 _ (gt_mem (show k9 < x0.length from by omega)))) (fun z78 => ?_)
   refine tyRow_sp ?_
   rintro v79 rfl
   refine WM_form (n := 0) rfl ?_
   rintro A80 c81 rfl m82
   let K6 : List Value := [.int .i64 ((gt x0 k9).Id), .slice A80 ((gt x0 k9).Values).length c81]
   refine WM_build (cs := K6) underlying39 type29 rfl (by decide) (by decide) rfl (by kernel_rfl) (Wd_none rfl) (by decide) (fun p84 => ?_)
   let I8 : It := iOwn (tSl tInt 3) [.slice A80 ((gt x0 k9).Values).length c81] ((gt x0 k9).Values)
   refine ap1 (tCk (ckA tyRow)) 29 (.slice A61 (List.take s20 ps57).length c62) (List.take s20 ps57) ((K6, (gt x0 k9)) : List Value × DRow) [] [I8, iOwn (tSl (tCk (ckA tyRow)) 29) [.slice A11 d10.length c12] ps57, iCk tyRow ps57] K6 (pk [0, 2, 1, 3, 4]) (fun _ _ hs => by cases (Sep.nil hs); exact (els_ck1 rfl rfl)) underlying39 type29 (show ((List.take s20 ps57).length + 1) * 32 ≤ 140737488355328 from by first | omega | (simp only [List.length_append, List.length_cons, List.length_nil, List.length_take, List.length_drop] at *; omega)) (fun v85 => ?_)
   refine WM_form (n := 0) rfl ?_
   rintro A86 c87 rfl m88
   refine wa (nt' (CM_region (wm (wm (wm ?_)))))
   refine wv (fun W hm => rv_sliceLo (k := s20) (s := 2) underlying39 type29 rfl rfl rfl (by omega)) ?_
   refine apR (tCk (ckA tyRow)) (tCk (ckA tyRow)) 29 (.slice A86 ((List.take s20 ps57) ++ [((K6, (gt x0 k9)) : List Value × DRow)]).length c87) ((List.take s20 ps57) ++ [((K6, (gt x0 k9)) : List Value × DRow)]) (List.drop s20 ps57) [I8, iOwn (tSl (tCk (ckA tyRow)) 29) [.slice A11 d10.length c12] ps57, iCk tyRow ps57] (fun W hm => hm) (fun W hm => src_flat flat_ck (rdS_drop (k := s20) (by omega) (hm.rdSI (n := 2) rfl))) underlying39 type29 (show (((List.take s20 ps57) ++ [((K6, (gt x0 k9)) : List Value × DRow)]).length + (List.drop s20 ps57).length) * 32 ≤ 140737488355328 from by first | omega | (simp only [List.length_append, List.length_cons, List.length_nil, List.length_take, List.length_drop] at *; omega)) (fun v90 => ?_)
   refine WM_form (n := 0) rfl ?_
   rintro A91 c92 rfl m93
   refine wa (WM_nil (QM_block_normal (QM_then (CM_region (wm ?_)))))
   refine wv (vadN k9 1 (by omega)) ?_
   refine wa (WM_nil ?_)
   refine QM_items (fun W hm => Mem.ckInsert hps58 (Mem.join (is := [I8]) (js := (iOwn (tSl (tCk (ckA tyRow)) 29) [.slice A91 (((List.take s20 ps57) ++ [((K6, (gt x0 k9)) : List Value × DRow)]) ++ (List.drop s20 ps57)).length c92] (((List.take s20 ps57) ++ [((K6, (gt x0 k9)) : List Value × DRow)]) ++ (List.drop s20 ps57)) :: iCk tyRow ps57 :: [iOwn (tSl (tCk (ckA tyRow)) 29) [.slice A11 d10.length c12] ps57])) (fun _ _ hs => tyRow_join (x := (gt x0 k9)) hs) (hm.pick [1, 0, 3, 2] (by decide)))) ?_
   have hl95 : (((List.take s20 ps57) ++ [((K6, (gt x0 k9)) : List Value × DRow)]) ++ (List.drop s20 ps57)).length = ((List.take s20 d10 ++ [(gt x0 k9)]) ++ List.drop s20 d10).length := by rw [← hps58]; simp only [List.length_append, List.length_take, List.length_drop, List.length_map, List.length_cons, List.length_nil]
   rw [hl95]
   have hn96 := rng_next (R := (List DRow)) (body := F1) (k := k9) (s := d10) (s' := ((List.take s20 d10 ++ [(gt x0 k9)]) ++ List.drop s20 d10)) (show k9 < x0.length from by omega) (fin_inr hE52 (rfl)) hF14
   exact QM_round (k9 + 1, ((List.take s20 d10 ++ [(gt x0 k9)]) ++ List.drop s20 d10), (A91, c92)) sl3 (pk [0]) ⟨(by omega), hn96, (show ((List.take s20 d10 ++ [(gt x0 k9)]) ++ List.drop s20 d10).length ≤ 0 + (k9 + 1) from by first | omega | (simp only [List.length_append, List.length_cons, List.length_nil, List.length_take, List.length_drop] at *; omega))⟩ (rl (by omega))
 ·have g18 := dlF hl17
  refine CM_condF rfl g18 ?_
  refine CM_exit (QM_then_exit (QM_then_exit ?_))
  have hE97 : R3 (x0.length - 0) 0 [] = Sum.inr d10 := rng_end hl17 hF14
  refine QM_block_hit (QM_then (sr (wm (wa (nt' (CM_ret ?_))))))
  have he98 := (show spec_SortRows_m x0 = d10 from fin_inr hE97 (rfl))
  refine QM_r1 rfl (RR_tmp rfl) (fun W hm => ⟨.slice A11 d10.length c12, ?_, ?_⟩)
  ·first | rw [he98] | rfl
  ·rw [he98]; exact hm

theorem spec_l7Rows_form (l : List DVersion) (t : Int) : spec_l7Rows_m l t = segR (fun v => spec_IsVisible_m v t) l := by
  unfold spec_l7Rows_m
  rw [rng_fold (xs := l) (f := fun d v => cond (spec_IsVisible_m v t) (d ++ [(⟨v.Id, v.Values⟩ : DRow)]) d) (b := fun k s => spec_l7Rows_b1 l t k s) (fun j s _ => by unfold spec_l7Rows_b1; cases spec_IsVisible_m (gt l j) t <;> rfl), foldl_filterMap]
  rfl
theorem l7All_sm {B : Nat} {x : DStore} (h : smStore B x) (hq : (x.Segments.map List.length).sum ≤ B) : (spec_l7All_m x).length ≤ B ∧ ∀ y ∈ spec_l7All_m x, smVersion B y := by
  rw [l7All_form, List.length_flatten]
  refine ⟨hq, fun y hy => ?_⟩
  obtain ⟨s, hs, hy⟩ := List.mem_flatten.1 hy
  exact (h.2 s hs).2 y hy
theorem l7Rows_sm {B : Nat} {l : List DVersion} (h : l.length ≤ B ∧ ∀ y ∈ l, smVersion B y) (t : Int) : (spec_l7Rows_m l t).length ≤ B ∧ ∀ y ∈ spec_l7Rows_m l t, smRow B y := by
  rw [spec_l7Rows_form]
  exact ⟨Nat.le_trans (segR_len _ _) h.1, segR_sm h.2⟩
def spec_RowsAt_m (x0 : DStore) (x1 : Int) : (List DRow) :=
 cond (spec_IsStore_m x0) (spec_SortRows_m (spec_l7Rows_m (spec_l7All_m x0) x1)) []
theorem cb15 : Cb Try.prog 15 := ⟨f15, _, func15, rfl, by decide⟩
theorem spec_RowsAt_c (w : World) (z0 : List Value) (x0 : DStore) (x1 : Int) (r_0 : tyStore.rd w w.heap.size z0 x0) (s_0 : smStore 68719476736 x0) :
  Calls Try.prog 15 #[.agg z0.toArray, .int .i64 x1] w fun e w' => ∃ v : Value, e = .returned (v) ∧ Mem w.heap.size w [iOwn (tSl tyRow 29) [v] (spec_RowsAt_m x0 x1)] w' := by
 obtain ⟨v1, rfl, r2⟩ := tyStore_rd r_0
 obtain ⟨m3, A4, c5, rfl, q6, r7⟩ := rdS_op r2
 have l8 : x0.Segments.length ≤ 68719476736 := s_0.1
 refine ce2 (L := [(0, .agg #[.slice A4 x0.Segments.length c5, .int .i64 x0.Now]), (1, .int .i64 x1)]) (N := 14) func15 ?_
 refine sr ?_
 refine WM_box rfl (Wd_none rfl) (by decide) (fun p9 => ?_)
 refine wa (nt' (CM_seq (sr ?_)))
 refine wv (fun W hm => rv_loadN (cs := [.slice A4 x0.Segments.length c5, .int .i64 x0.Now]) underlying26 type26 rfl rfl (hm.boxCells (n := 0) rfl)) ?_
 refine wcv (cl_fn cb12 rfl) (fun W hm => spec_IsStore_c W _ x0 (tyStore_mk (x := x0) (hm.rdS0 r7)) s_0) ?_
 refine wv vnot ?_
 refine nt' ?_
 rcases Bool.eq_false_or_eq_true (spec_IsStore_m x0) with g11 | g11
 ·
  have HQ := storeB_hq (ok := okS x0.Now) (by rw [← spec_IsStore_form]; exact g11)
  refine CM_condF rfl (nt g11) ?_
  refine CM_skip (QM_then (sr ?_))
  refine wv (fun W hm => rv_loadN (cs := [.slice A4 x0.Segments.length c5, .int .i64 x0.Now]) underlying26 type26 rfl rfl (hm.boxCells (n := 0) rfl)) ?_
  let I1 : It := iBox p9 26 [.slice A4 x0.Segments.length c5, .int .i64 x0.Now]
  refine WM_callW (χ := Value) (val := fun x => x) (js := fun x => (iOwn (tSl (tBor tyVersion w w.heap.size) 51) [x] (spec_l7All_m x0) :: [I1])) (cl_fn cb51 rfl) (fun W hm => spec_l7All_c w.heap.size w [I1] W _ x0 (tyStore_mk r7) s_0 (HQ) hm) (Wd_none rfl) (by decide) (fun v12 => ?_)
  refine WM_form (n := 0) rfl ?_
  rintro A13 c14 rfl m15
  refine wm ?_
  refine wcl (tSl tyRow 29) (spec_l7Rows_m (spec_l7All_m x0) x1) (cl_fn cb57 rfl) (fun W hm => spec_l7Rows_c W _ (spec_l7All_m x0) x1 (hm.unbor (hm.rdSI (n := 0) rfl)) (l7All_sm s_0 HQ)) (fun z17 => ?_)
  refine WM_form (n := 0) rfl ?_
  rintro A18 c19 rfl m20
  refine wcl (tSl tyRow 29) (spec_SortRows_m (spec_l7Rows_m (spec_l7All_m x0) x1)) (cl_fn cb56 rfl) (fun W hm => spec_SortRows_c W _ (spec_l7Rows_m (spec_l7All_m x0) x1) (hm.rdSI (n := 0) rfl) (l7Rows_sm (l7All_sm s_0 HQ) x1)) (fun z22 => ?_)
  refine WM_form (n := 0) rfl ?_
  rintro A23 c24 rfl m25
  refine wa (nt' (CM_ret ?_))
  have he27 := (show spec_RowsAt_m x0 x1 = (spec_SortRows_m (spec_l7Rows_m (spec_l7All_m x0) x1)) from cond_t g11 (rfl))
  refine QM_r1 rfl (RR_tmp rfl) (fun W hm => ⟨.slice A23 (spec_SortRows_m (spec_l7Rows_m (spec_l7All_m x0) x1)).length c24, ?_, ?_⟩)
  ·first | rw [he27] | rfl
  ·rw [he27]; exact (hm.pick [0] (by decide))
 ·
  refine CM_condT rfl (nf g11) ?_
  refine sr ?_
  refine WM_build0 (E := tyRow) underlying39 type29 (Wd_none rfl) (by decide) (fun p28 => ?_)
  refine wa (nt' (CM_ret (QM_then_ret ?_)))
  have he30 := (show spec_RowsAt_m x0 x1 = [] from cond_f g11 (rfl))
  refine QM_r1 rfl (RR_tmp rfl) (fun W hm => ⟨.slice (some ⟨p28, 0, none⟩) 0 0, ?_, ?_⟩)
  ·first | rw [he30] | rfl
  ·rw [he30]; exact (hm.pick [0] (by decide))

def spec_l2Ints_b1 (x0 : (List Int)) (x1 : (List Int)) (k13 : Nat) : Bool ⊕ (Unit) :=
 cond ((gt x0 k13) != (gt x1 k13)) (Sum.inl false) (Sum.inr ())
def spec_l2Ints_m (x0 : (List Int)) (x1 : (List Int)) : Bool :=
 cond (((x0.length : Nat) : Int) != ((x1.length : Nat) : Int)) false (Sum.elim id (fun (s : Unit) => true) (rng (R := Bool) (fun k (_ : Unit) => spec_l2Ints_b1 x0 x1 k) (x0.length - 0) 0 ()))
theorem cb74 : Cb Try.prog 74 := ⟨f74, _, func74, rfl, by decide⟩
theorem spec_l2Ints_c (w : World) (z0 : Value) (x0 : (List Int)) (z1 : Value) (x1 : (List Int)) (r_0 : rdS tInt w w.heap.size z0 x0) (r_1 : rdS tInt w w.heap.size z1 x1) :
  Calls Try.prog 74 #[z0, z1] w fun e w' => e = .returned (.bool (spec_l2Ints_m x0 x1)) ∧ Below w.heap.size w w' := by
 obtain ⟨m1, A2, c3, rfl, q4, r5⟩ := rdS_op r_0
 obtain ⟨m6, A7, c8, rfl, q9, r10⟩ := rdS_op r_1
 refine ce2 (L := [(0, .slice A2 x0.length c3), (1, .slice A7 x1.length c8)]) (N := 26) func74 ?_
 refine sr (wa (nt' (CM_seq (sr (wm ?_)))))
 refine wv (vlen underlying27) ?_
 refine wm ?_
 refine wv (vlen underlying27) ?_
 refine wv vneq ?_
 refine nt' ?_
 by_cases h11 : ((x0.length : Nat) : Int) = ((x1.length : Nat) : Int)
 ·have g12 : (((x0.length : Nat) : Int) != ((x1.length : Nat) : Int)) = false := by rw [h11]; exact bne_self_eq_false _
  refine CM_condF rfl g12 ?_
  refine CM_skip (QM_then (CM_seq (sr (wa (nt' (CM_block ?_))))))
  let F1 := fun k (_ : Unit) => spec_l2Ints_b1 x0 x1 k
  let R2 := rng (R := Bool) F1
  refine CM_loop (σ := Nat × (Unit) × (Unit)) (fun s => [(0, .slice A2 x0.length c3), (1, .slice A7 x1.length c8), (5, .int .i64 ((s.1 : Nat) : Int))]) (fun s => []) (fun s => s.1 ≤ x0.length ∧ R2 (x0.length - s.1) s.1 s.2.1 = R2 (x0.length - 0) 0 ()) (fun s => x0.length - s.1) (0, (), ()) sl3 (fun W hm => hm) ⟨(by omega), rfl⟩ ?_
  rintro ⟨k13, ⟨⟩, ⟨⟩⟩ H16
  obtain ⟨hk14, hF15⟩ : k13 ≤ x0.length ∧ R2 (x0.length - k13) k13 () = R2 (x0.length - 0) 0 () := H16
  show CM Try.prog 26 _ _ _ _ [(0, .slice A2 x0.length c3), (1, .slice A7 x1.length c8), (5, .int .i64 ((k13 : Nat) : Int))] []
  refine CM_seq (sr (wm (wm ?_)))
  refine wv (vlen underlying27) ?_
  refine wv vlss ?_
  refine nt' ?_
  by_cases hl17 : k13 < x0.length
  ·have g18 := dlT hl17
   refine CM_condT rfl g18 ?_
   refine CM_skip (QM_then (CM_seq (CM_block (CM_seq ?_))))
   refine CM_regionD (by kernel_rfl) (by kernel_rfl) ?_
   refine qm (qm ?_)
   obtain ⟨a19, rfl, hb20, he21⟩ := q4 (by omega)
   refine qv (vix 1 k13 underlying27 type3) ?_
   refine qv (fun W hm => rv_load underlying3 rfl rfl ((hm.cell0 (show (a19.add (k13 * 1)).block < w.heap.size from by rw [add_block]; exact hb20.1)).trans (rdS_int he21 k13 (by omega)))) ?_
   refine qm (qm ?_)
   obtain ⟨a22, rfl, hb23, he24⟩ := q9 (by omega)
   refine qv (vix 1 k13 underlying27 type3) ?_
   refine qv (fun W hm => rv_load underlying3 rfl rfl ((hm.cell0 (show (a22.add (k13 * 1)).block < w.heap.size from by rw [add_block]; exact hb23.1)).trans (rdS_int he24 k13 (by omega)))) ?_
   refine qv vneq ?_
   refine nq' ?_
   by_cases h25 : (gt x0 k13) = (gt x1 k13)
   ·have g26 : ((gt x0 k13) != (gt x1 k13)) = false := by rw [h25]; exact bne_self_eq_false _
    refine CM_condF rfl g26 ?_
    refine CM_skip (QM_block_normal (QM_then (CM_region (wm ?_))))
    refine wv (vadN k13 1 (by omega)) ?_
    refine wa (WM_nil ?_)
    have hn27 := rng_next (R := Bool) (body := F1) (k := k13) (s := ()) (s' := ()) (show k13 < x0.length from by omega) (cond_f g26 (rfl)) hF15
    exact QM_round (k13 + 1, (), ()) sl3 (fun W hm => hm) ⟨(by omega), hn27⟩ (rl (by omega))
   ·have g26 : ((gt x0 k13) != (gt x1 k13)) = true := bne_iff_ne.2 h25
    refine CM_condT rfl g26 ?_
    refine sr (wa (nt' (CM_ret (QM_block_ret (QM_then_ret (QM_then_ret (QM_block_ret (QM_then_ret ?_))))))))
    exact rtb (h := cond_f g12 (fin_inl (rng_ret (body := F1) (k := k13) (s := ()) (show k13 < x0.length from by omega) (cond_t g26 (rfl)) hF15) rfl))
  ·have g18 := dlF hl17
   refine CM_condF rfl g18 ?_
   refine CM_exit (QM_then_exit (QM_then_exit ?_))
   have hE28 : R2 (x0.length - 0) 0 () = Sum.inr () := rng_end hl17 hF15
   refine QM_block_hit (QM_then (sr (wa (nt' (CM_ret ?_)))))
   exact rtb (h := cond_f g12 (fin_inr hE28 (rfl)))
 ·have g12 : (((x0.length : Nat) : Int) != ((x1.length : Nat) : Int)) = true := bne_iff_ne.2 h11
  refine CM_condT rfl g12 ?_
  refine sr (wa (nt' (CM_ret (QM_then_ret ?_))))
  exact rtb (h := cond_t g12 (rfl))

def spec_l3Same_m (x0 : DRow) (x1 : DRow) : Bool :=
 cond (x0.Id == x1.Id) (spec_l2Ints_m x0.Values x1.Values) false
theorem cb54 : Cb Try.prog 54 := ⟨f54, _, func54, rfl, by decide⟩
theorem spec_l3Same_c (w : World) (z0 : List Value) (x0 : DRow) (z1 : List Value) (x1 : DRow) (r_0 : tyRow.rd w w.heap.size z0 x0) (r_1 : tyRow.rd w w.heap.size z1 x1) :
  Calls Try.prog 54 #[.agg z0.toArray, .agg z1.toArray] w fun e w' => e = .returned (.bool (spec_l3Same_m x0 x1)) ∧ Below w.heap.size w w' := by
 obtain ⟨v1, rfl, r2⟩ := tyRow_rd r_0
 obtain ⟨m3, A4, c5, rfl, q6, r7⟩ := rdS_op r2
 obtain ⟨v8, rfl, r9⟩ := tyRow_rd r_1
 obtain ⟨m10, A11, c12, rfl, q13, r14⟩ := rdS_op r9
 refine ce2 (L := [(0, .agg #[.int .i64 x0.Id, .slice A4 x0.Values.length c5]), (1, .agg #[.int .i64 x1.Id, .slice A11 x1.Values.length c12])]) (N := 17) func54 ?_
 refine sr ?_
 refine WM_box rfl (Wd_none rfl) (by decide) (fun p15 => ?_)
 refine WM_box rfl (Wd_none rfl) (by decide) (fun p16 => ?_)
 refine wa (nt' (sr ?_))
 refine wv (vf underlying29 rfl type3) ?_
 refine wv (vl 1 0 underlying3) ?_
 refine wv (vf underlying29 rfl type3) ?_
 refine wv (vl 0 0 underlying3) ?_
 refine wv (fun W hm => rv_eql rfl rfl) ?_
 refine wm ?_
 by_cases h17 : x0.Id = x1.Id
 ·have g18 := beq_iff_eq.2 h17
  refine wg (vf underlying29 rfl type27) g18 ?_
  refine wg (vl 1 1 underlying27) g18 ?_
  refine wg (vf underlying29 rfl type27) g18 ?_
  refine wg (vl 0 1 underlying27) g18 ?_
  refine WM_callV (cl_fn cb74 rfl) (fun W hm => spec_l2Ints_c W _ x0.Values _ x1.Values (hm.rdS0 r7) (hm.rdS0 r14)) (Wd_some rfl rfl rfl (bw g18 rfl)) (by decide) ?_
  refine wv (vpT g18) ?_
  refine wa (nt' (CM_ret ?_))
  exact rtb (h := cond_t g18 (rfl))
 ·have g18 := beq_eq_false_iff_ne.2 h17
  refine ws g18 ?_
  refine ws g18 ?_
  refine ws g18 ?_
  refine ws g18 ?_
  refine ws g18 ?_
  refine wv (vpF g18) ?_
  refine wa (nt' (CM_ret ?_))
  exact rtb (h := cond_f g18 (rfl))

def spec_EqualRows_b1 (x0 : (List DRow)) (x1 : (List DRow)) (k13 : Nat) : Bool ⊕ (Unit) :=
 cond (spec_l3Same_m (gt x0 k13) (gt x1 k13)) (Sum.inr ()) (Sum.inl false)
def spec_EqualRows_m (x0 : (List DRow)) (x1 : (List DRow)) : Bool :=
 cond (((x0.length : Nat) : Int) != ((x1.length : Nat) : Int)) false (Sum.elim id (fun (s : Unit) => true) (rng (R := Bool) (fun k (_ : Unit) => spec_EqualRows_b1 x0 x1 k) (x0.length - 0) 0 ()))
theorem cb13 : Cb Try.prog 13 := ⟨f13, _, func13, rfl, by decide⟩
theorem spec_EqualRows_c (w : World) (z0 : Value) (x0 : (List DRow)) (z1 : Value) (x1 : (List DRow)) (r_0 : rdS tyRow w w.heap.size z0 x0) (r_1 : rdS tyRow w w.heap.size z1 x1) :
  Calls Try.prog 13 #[z0, z1] w fun e w' => e = .returned (.bool (spec_EqualRows_m x0 x1)) ∧ Below w.heap.size w w' := by
 obtain ⟨m1, A2, c3, rfl, q4, r5⟩ := rdS_op r_0
 obtain ⟨m6, A7, c8, rfl, q9, r10⟩ := rdS_op r_1
 refine ce2 (L := [(0, .slice A2 x0.length c3), (1, .slice A7 x1.length c8)]) (N := 27) func13 ?_
 refine sr (wa (nt' (CM_seq (sr (wm ?_)))))
 refine wv (vlen underlying39) ?_
 refine wm ?_
 refine wv (vlen underlying39) ?_
 refine wv vneq ?_
 refine nt' ?_
 by_cases h11 : ((x0.length : Nat) : Int) = ((x1.length : Nat) : Int)
 ·have g12 : (((x0.length : Nat) : Int) != ((x1.length : Nat) : Int)) = false := by rw [h11]; exact bne_self_eq_false _
  refine CM_condF rfl g12 ?_
  refine CM_skip (QM_then (CM_seq (sr (wa (nt' (CM_block ?_))))))
  let F1 := fun k (_ : Unit) => spec_EqualRows_b1 x0 x1 k
  let R2 := rng (R := Bool) F1
  refine CM_loop (σ := Nat × (Unit) × (Unit)) (fun s => [(0, .slice A2 x0.length c3), (1, .slice A7 x1.length c8), (5, .int .i64 ((s.1 : Nat) : Int))]) (fun s => []) (fun s => s.1 ≤ x0.length ∧ R2 (x0.length - s.1) s.1 s.2.1 = R2 (x0.length - 0) 0 ()) (fun s => x0.length - s.1) (0, (), ()) sl3 (fun W hm => hm) ⟨(by omega), rfl⟩ ?_
  rintro ⟨k13, ⟨⟩, ⟨⟩⟩ H16
  obtain ⟨hk14, hF15⟩ : k13 ≤ x0.length ∧ R2 (x0.length - k13) k13 () = R2 (x0.length - 0) 0 () := H16
  show CM Try.prog 27 _ _ _ _ [(0, .slice A2 x0.length c3), (1, .slice A7 x1.length c8), (5, .int .i64 ((k13 : Nat) : Int))] []
  refine CM_seq (sr (wm (wm ?_)))
  refine wv (vlen underlying39) ?_
  refine wv vlss ?_
  refine nt' ?_
  by_cases hl17 : k13 < x0.length
  ·have g18 := dlT hl17
   refine CM_condT rfl g18 ?_
   refine CM_skip (QM_then (CM_seq (CM_block (CM_seq ?_))))
   refine CM_regionD (by kernel_rfl) (by kernel_rfl) ?_
   refine qm (qm ?_)
   obtain ⟨a19, rfl, hb20, he21⟩ := q4 (by omega)
   refine qv (vix 2 k13 underlying39 type29) ?_
   obtain ⟨_, e25, hc22⟩ := he21 k13 _ (gt_some (show k13 < x0.length from by omega))
   obtain ⟨v23, rfl, r24⟩ := tyRow_rd e25
   obtain ⟨m26, A27, c28, rfl, q29, r30⟩ := rdS_op r24
   refine qv (fun W hm => rv_loadN (cs := [.int .i64 ((gt x0 k13).Id), .slice A27 ((gt x0 k13).Values).length c28]) underlying29 type29 rfl rfl (hm.elCells (show (a19.add (k13 * 2)).block < w.heap.size from by rw [add_block]; exact hb20.1) hc22)) ?_
   refine qm (qm ?_)
   obtain ⟨a31, rfl, hb32, he33⟩ := q9 (by omega)
   refine qv (vix 2 k13 underlying39 type29) ?_
   obtain ⟨_, e37, hc34⟩ := he33 k13 _ (gt_some (show k13 < x1.length from by omega))
   obtain ⟨v35, rfl, r36⟩ := tyRow_rd e37
   obtain ⟨m38, A39, c40, rfl, q41, r42⟩ := rdS_op r36
   refine qv (fun W hm => rv_loadN (cs := [.int .i64 ((gt x1 k13).Id), .slice A39 ((gt x1 k13).Values).length c40]) underlying29 type29 rfl rfl (hm.elCells (show (a31.add (k13 * 2)).block < w.heap.size from by rw [add_block]; exact hb32.1) hc34)) ?_
   refine QR_callV (cl_fn cb54 rfl) (fun W hm => spec_l3Same_c W _ (gt x0 k13) _ (gt x1 k13) (tyRow_mk (x := (gt x0 k13)) (hm.rdS0 r30)) (tyRow_mk (x := (gt x1 k13)) (hm.rdS0 r42))) (Wd_none rfl) (by decide) ?_
   refine qv vnot ?_
   refine nq' ?_
   rcases Bool.eq_false_or_eq_true (spec_l3Same_m (gt x0 k13) (gt x1 k13)) with g44 | g44
   ·
    refine CM_condF rfl (nt g44) ?_
    refine CM_skip (QM_block_normal (QM_then (CM_region (wm ?_))))
    refine wv (vadN k13 1 (by omega)) ?_
    refine wa (WM_nil ?_)
    have hn45 := rng_next (R := Bool) (body := F1) (k := k13) (s := ()) (s' := ()) (show k13 < x0.length from by omega) (cond_t g44 (rfl)) hF15
    exact QM_round (k13 + 1, (), ()) sl3 (fun W hm => hm) ⟨(by omega), hn45⟩ (rl (by omega))
   ·
    refine CM_condT rfl (nf g44) ?_
    refine sr (wa (nt' (CM_ret (QM_block_ret (QM_then_ret (QM_then_ret (QM_block_ret (QM_then_ret ?_))))))))
    exact rtb (h := cond_f g12 (fin_inl (rng_ret (body := F1) (k := k13) (s := ()) (show k13 < x0.length from by omega) (cond_f g44 (rfl)) hF15) rfl))
  ·have g18 := dlF hl17
   refine CM_condF rfl g18 ?_
   refine CM_exit (QM_then_exit (QM_then_exit ?_))
   have hE46 : R2 (x0.length - 0) 0 () = Sum.inr () := rng_end hl17 hF15
   refine QM_block_hit (QM_then (sr (wa (nt' (CM_ret ?_)))))
   exact rtb (h := cond_f g12 (fin_inr hE46 (rfl)))
 ·have g12 : (((x0.length : Nat) : Int) != ((x1.length : Nat) : Int)) = true := bne_iff_ne.2 h11
  refine CM_condT rfl g12 ?_
  refine sr (wa (nt' (CM_ret (QM_then_ret ?_))))
  exact rtb (h := cond_t g12 (rfl))

end Go.Proofs.Ytglapeecbnaipaa
