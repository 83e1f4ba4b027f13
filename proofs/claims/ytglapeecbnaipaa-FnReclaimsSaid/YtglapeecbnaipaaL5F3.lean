/-
  Contracts of functions, printed by a program of ours.
-/
import Derived.Test.YtglapeecbnaipaaL5F2
namespace Go.Proofs.Ytglapeecbnaipaa
open Go.RowKit
set_option maxRecDepth 100000
set_option maxHeartbeats 4000000
open _root_.Go.Proofs.Try
def impl_IsStore_b3 (x0 : DStore) (k16 : Nat) (k41 : Nat) (d42 : (List DVersion)) (k77 : Nat) : Bool ⊕ (Unit) :=
 cond (((gt (gt x0.Segments k16) k41).Id) == ((gt d42 k77).Id)) (cond (impl_meetInTime_m (gt (gt x0.Segments k16) k41) (gt d42 k77)) (Sum.inl false) (Sum.inr ())) (Sum.inr ())
def impl_IsStore_b4 (x0 : DStore) (k16 : Nat) (k41 : Nat) (d42 : (List DVersion)) (k112 : Nat) : Bool ⊕ (Unit) :=
 cond (((gt (gt x0.Segments k16) k41).Id) == ((gt d42 k112).Id)) (cond (impl_meetInTime_m (gt (gt x0.Segments k16) k41) (gt d42 k112)) (Sum.inl false) (Sum.inr ())) (Sum.inr ())
def impl_IsStore_b2 (x0 : DStore) (k16 : Nat) (k41 : Nat) (d42 : (List DVersion)) : Bool ⊕ ((List DVersion)) :=
 cond (impl_IsRow_m (impl_rowOf_m (gt (gt x0.Segments k16) k41))) (cond (impl_within_m ((gt (gt x0.Segments k16) k41).Born) 0 x0.Now) (cond (((gt (gt x0.Segments k16) k41).Died) != (-1)) (cond (impl_within_m ((gt (gt x0.Segments k16) k41).Died) (IntKind.i64.wrap (((gt (gt x0.Segments k16) k41).Born) + 1)) x0.Now) (Sum.elim Sum.inl (fun (s : Unit) => Sum.inr (d42 ++ [(gt (gt x0.Segments k16) k41)])) (rng (R := Bool) (fun k (_ : Unit) => impl_IsStore_b4 x0 k16 k41 d42 k) (d42.length - 0) 0 ())) (Sum.inl false)) (Sum.elim Sum.inl (fun (s : Unit) => Sum.inr (d42 ++ [(gt (gt x0.Segments k16) k41)])) (rng (R := Bool) (fun k (_ : Unit) => impl_IsStore_b3 x0 k16 k41 d42 k) (d42.length - 0) 0 ()))) (Sum.inl false)) (Sum.inl false)
def impl_IsStore_b1 (x0 : DStore) (k16 : Nat) (d17 : (List DVersion)) : Bool ⊕ ((List DVersion)) :=
 cond (decide (4 < ((((gt x0.Segments k16)).length : Nat) : Int))) (Sum.inl false) (Sum.elim Sum.inl (fun (s : (List DVersion)) => Sum.inr s) (rng (R := Bool) (fun k (s : (List DVersion)) => impl_IsStore_b2 x0 k16 k s) (((gt x0.Segments k16)).length - 0) 0 d17))
def impl_IsStore_m (x0 : DStore) : Bool :=
 cond (impl_within_m ((x0.Segments.length : Nat) : Int) 1 8) (cond (impl_within_m x0.Now 0 100000) (Sum.elim id (fun (s : (List DVersion)) => true) (rng (R := Bool) (fun k (s : (List DVersion)) => impl_IsStore_b1 x0 k s) (x0.Segments.length - 0) 0 [])) false) false
theorem cb11 : Cb Try.prog 11 := ⟨f11, _, func11, rfl, by decide⟩
theorem impl_IsStore_c (w : World) (z0 : List Value) (x0 : DStore) (r_0 : tyStore.rd w w.heap.size z0 x0) (s_0 : smStore 68719476736 x0) :
  Calls Try.prog 11 #[.agg z0.toArray] w fun e w' => e = .returned (.bool (impl_IsStore_m x0)) ∧ Below w.heap.size w w' := by
 obtain ⟨v1, rfl, r2⟩ := tyStore_rd r_0
 obtain ⟨m3, A4, c5, rfl, q6, r7⟩ := rdS_op r2
 have l8 : x0.Segments.length ≤ 68719476736 := s_0.1
 refine ce1 (L := [(0, .agg #[.slice A4 x0.Segments.length c5, .int .i64 x0.Now])]) (N := 89) func11 ?_
 refine sr ?_
 refine WM_box rfl (Wd_none rfl) (by decide) (fun p9 => ?_)
 refine wa (nt' (CM_seq (sr ?_)))
 refine wv (vf underlying26 rfl type24) ?_
 refine wv (vl 0 0 underlying24) ?_
 refine wv (vlen underlying24) ?_
 refine wcv (cl_fn cb46 rfl) (fun W hm => impl_within_c W ((x0.Segments.length : Nat) : Int) 1 8) ?_
 refine wv vnot ?_
 refine wm ?_
 rcases Bool.eq_false_or_eq_true (impl_within_m ((x0.Segments.length : Nat) : Int) 1 8) with g11 | g11
 ·
  have hw := impl_within_fact g11
  refine wg (vf underlying26 rfl type3) (nt g11) ?_
  refine wg (vl 0 1 underlying3) (nt g11) ?_
  refine WM_callV (cl_fn cb46 rfl) (fun W hm => impl_within_c W x0.Now 0 100000) (Wd_some rfl rfl rfl (bw (nt g11) rfl)) (by decide) ?_
  refine wg vnot (nt g11) ?_
  refine wv (vpF (nt g11)) ?_
  refine nt' ?_
  rcases Bool.eq_false_or_eq_true (impl_within_m x0.Now 0 100000) with g13 | g13
  ·
   have hw := impl_within_fact g13
   refine CM_condF rfl (nt g13) ?_
   refine CM_skip (QM_then (sr ?_))
   refine WM_build0 (E := (tBor tyVersion w w.heap.size)) underlying72 type51 (Wd_none rfl) (by decide) (fun p14 => ?_)
   refine wa (nt' (CM_seq (sr ?_)))
   refine wv (vf underlying26 rfl type24) ?_
   refine wv (vl 1 0 underlying24) ?_
   refine wv (vlen underlying24) ?_
   refine wm (nt' (CM_block ?_))
   let F1 := fun k (s : (List DVersion)) => impl_IsStore_b1 x0 k s
   let R5 := rng (R := Bool) F1
   let I14 : It := iBox p9 26 [.slice A4 x0.Segments.length c5, .int .i64 x0.Now]
   refine CM_loop (σ := Nat × ((List DVersion)) × (Option Addr × Nat)) (fun s => [(1, .pointer (some (⟨p9, 0, none⟩ : Addr))), (3, .slice s.2.2.1 s.2.1.length s.2.2.2), (23, .slice A4 x0.Segments.length c5), (24, .int .i64 ((x0.Segments.length : Nat) : Int)), (25, .int .i64 ((s.1 : Nat) : Int))]) (fun s => [iOwn (tSl (tBor tyVersion w w.heap.size) 51) [.slice s.2.2.1 s.2.1.length s.2.2.2] s.2.1, I14]) (fun s => s.1 ≤ x0.Segments.length ∧ R5 (x0.Segments.length - s.1) s.1 s.2.1 = R5 (x0.Segments.length - 0) 0 [] ∧ s.2.1.length ≤ 0 + 4 * s.1) (fun s => x0.Segments.length - s.1) (0, [], ((some ⟨p14, 0, none⟩), 0)) sl5 (fun W hm => hm) ⟨(by omega), rfl, Nat.le_refl _⟩ ?_
   rintro ⟨k16, d17, ⟨A18, c19⟩⟩ H22
   obtain ⟨hk20, hF21, hi23⟩ : k16 ≤ x0.Segments.length ∧ R5 (x0.Segments.length - k16) k16 d17 = R5 (x0.Segments.length - 0) 0 [] ∧ d17.length ≤ 0 + 4 * k16 := H22
   show CM Try.prog 89 _ _ _ _ [(1, .pointer (some (⟨p9, 0, none⟩ : Addr))), (3, .slice A18 d17.length c19), (23, .slice A4 x0.Segments.length c5), (24, .int .i64 ((x0.Segments.length : Nat) : Int)), (25, .int .i64 ((k16 : Nat) : Int))] [iOwn (tSl (tBor tyVersion w w.heap.size) 51) [.slice A18 d17.length c19] d17, I14]
   refine sr ?_
   refine wv vlss ?_
   refine nt' (CM_seq ?_)
   by_cases hl24 : k16 < x0.Segments.length
   ·have g25 := dlT hl24
    refine CM_condT rfl g25 ?_
    refine CM_skip (QM_then (CM_seq (CM_block (sr ?_))))
    obtain ⟨a26, rfl, hb27, he28⟩ := q6 (by omega)
    refine wv (vix 1 k16 underlying24 type72) ?_
    obtain ⟨_, e30, hc29⟩ := he28 k16 _ (gt_some (show k16 < x0.Segments.length from by omega))
    have l31 : (gt x0.Segments k16).length ≤ 68719476736 := (s_0.2 _ (gt_mem (show k16 < x0.Segments.length from by omega))).1
    obtain ⟨v32, rfl, r33⟩ := e30
    obtain ⟨m34, A35, c36, rfl, q37, r38⟩ := rdS_op r33
    refine wv (fun W hm => rv_load underlying72 rfl rfl ((hm.cell0 (show (a26.add (k16 * 1)).block < w.heap.size from by rw [add_block]; exact hb27.1)).trans (hc29 0 _ rfl))) ?_
    refine wa (nt' (CM_seq (sr (wm ?_))))
    refine wv (vlen underlying72) ?_
    refine wv (fun W hm => rv_gtr rfl rfl) ?_
    refine nt' ?_
    by_cases h39 : 4 < ((((gt x0.Segments k16)).length : Nat) : Int)
    ·have g40 := decide_eq_true h39
     refine CM_condT rfl g40 ?_
     refine sr (wa (nt' (CM_ret (QM_then_ret (QM_block_ret (QM_then_ret (QM_then_ret (QM_block_ret (QM_then_ret ?_)))))))))
     exact rtb (h := cond_t g11 (cond_t g13 (fin_inl (rng_ret (body := F1) (k := k16) (s := d17) (show k16 < x0.Segments.length from by omega) (cond_t g40 (rfl)) hF21) rfl)))
    ·have g40 := decide_eq_false h39
     refine CM_condF rfl g40 ?_
     refine CM_skip (QM_then (sr (wm ?_)))
     refine wv (vlen underlying72) ?_
     refine wm (nt' (CM_block ?_))
     let F2 := fun k (s : (List DVersion)) => impl_IsStore_b2 x0 k16 k s
     let R6 := rng (R := Bool) F2
     let I15 : It := iBox p9 26 [.slice (some a26) x0.Segments.length c5, .int .i64 x0.Now]
     refine CM_loop (σ := Nat × ((List DVersion)) × (Option Addr × Nat)) (fun s => [(1, .pointer (some (⟨p9, 0, none⟩ : Addr))), (3, .slice s.2.2.1 s.2.1.length s.2.2.2), (23, .slice (some a26) x0.Segments.length c5), (24, .int .i64 ((x0.Segments.length : Nat) : Int)), (25, .int .i64 ((k16 : Nat) : Int)), (32, .slice A35 ((gt x0.Segments k16)).length c36), (33, .int .i64 ((((gt x0.Segments k16)).length : Nat) : Int)), (34, .int .i64 ((s.1 : Nat) : Int))]) (fun s => [iOwn (tSl (tBor tyVersion w w.heap.size) 51) [.slice s.2.2.1 s.2.1.length s.2.2.2] s.2.1, I15]) (fun s => s.1 ≤ ((gt x0.Segments k16)).length ∧ R6 (((gt x0.Segments k16)).length - s.1) s.1 s.2.1 = R6 (((gt x0.Segments k16)).length - 0) 0 d17 ∧ s.2.1.length ≤ d17.length + s.1) (fun s => ((gt x0.Segments k16)).length - s.1) (0, d17, (A18, c19)) sl8 (fun W hm => hm) ⟨(by omega), rfl, Nat.le_refl _⟩ ?_
     rintro ⟨k41, d42, ⟨A43, c44⟩⟩ H47
     obtain ⟨hk45, hF46, hi48⟩ : k41 ≤ ((gt x0.Segments k16)).length ∧ R6 (((gt x0.Segments k16)).length - k41) k41 d42 = R6 (((gt x0.Segments k16)).length - 0) 0 d17 ∧ d42.length ≤ d17.length + k41 := H47
     let I16 : It := iOwn (tSl (tBor tyVersion w w.heap.size) 51) [.slice A43 d42.length c44] d42
     show CM Try.prog 89 _ _ _ _ [(1, .pointer (some (⟨p9, 0, none⟩ : Addr))), (3, .slice A43 d42.length c44), (23, .slice (some a26) x0.Segments.length c5), (24, .int .i64 ((x0.Segments.length : Nat) : Int)), (25, .int .i64 ((k16 : Nat) : Int)), (32, .slice A35 ((gt x0.Segments k16)).length c36), (33, .int .i64 ((((gt x0.Segments k16)).length : Nat) : Int)), (34, .int .i64 ((k41 : Nat) : Int))] [I16, I15]
     refine sr ?_
     refine wv vlss ?_
     refine nt' (CM_seq ?_)
     by_cases hl49 : k41 < ((gt x0.Segments k16)).length
     ·have g50 := dlT hl49
      refine CM_condT rfl g50 ?_
      refine CM_skip (QM_then (CM_seq (CM_block (sr ?_))))
      obtain ⟨a51, rfl, hb52, he53⟩ := q37 (by omega)
      refine wv (vix 4 k41 underlying72 type51) ?_
      obtain ⟨_, e57, hc54⟩ := he53 k41 _ (gt_some (show k41 < ((gt x0.Segments k16)).length from by omega))
      obtain ⟨v55, rfl, r56⟩ := tyVersion_rd e57
      have l58 : ((gt (gt x0.Segments k16) k41).Values).length ≤ 68719476736 := ((s_0.2 _ (gt_mem (show k16 < x0.Segments.length from by omega))).2 _ (gt_mem (show k41 < ((gt x0.Segments k16)).length from by omega)))
      obtain ⟨m59, A60, c61, rfl, q62, r63⟩ := rdS_op r56
      let K9 : List Value := [.int .i64 ((gt (gt x0.Segments k16) k41).Id), .slice A60 ((gt (gt x0.Segments k16) k41).Values).length c61, .int .i64 ((gt (gt x0.Segments k16) k41).Born), .int .i64 ((gt (gt x0.Segments k16) k41).Died)]
      refine wv (fun W hm => rv_loadN (cs := K9) underlying51 type51 rfl rfl (hm.elCells (show (a51.add (k41 * 4)).block < w.heap.size from by rw [add_block]; exact hb52.1) hc54)) ?_
      refine WM_alloc type51 rfl (Wd_none rfl) (by decide) (fun p64 => ?_)
      refine sb 0 K9 [I16, I15] (fun W hm => hm) type51 ?_
      refine nt' (CM_seq (sr ?_))
      refine wv (fun W hm => rv_loadN (cs := K9) underlying51 type51 rfl rfl (hm.boxCells (n := 0) rfl)) ?_
      refine wcs tyRow (impl_rowOf_m (gt (gt x0.Segments k16) k41)) (cl_fn cb48 rfl) (fun W hm => impl_rowOf_c W _ (gt (gt x0.Segments k16) k41) (tyVersion_mk (x := (gt (gt x0.Segments k16) k41)) (hm.rdS0 r63)) ((s_0.2 _ (gt_mem (show k16 < x0.Segments.length from by omega))).2 _ (gt_mem (show k41 < ((gt x0.Segments k16)).length from by omega)))) (fun z65 => ?_)
      refine tyRow_sp ?_
      rintro v66 rfl
      refine WM_form (n := 0) rfl ?_
      rintro A67 c68 rfl m69
      refine wcv (cl_fn cb47 rfl) (fun W hm => impl_IsRow_c W _ (impl_rowOf_m (gt (gt x0.Segments k16) k41)) (tyRow_mk (x := (impl_rowOf_m (gt (gt x0.Segments k16) k41))) (hm.rdSI (n := 0) rfl))) ?_
      refine wv vnot ?_
      refine wm ?_
      rcases Bool.eq_false_or_eq_true (impl_IsRow_m (impl_rowOf_m (gt (gt x0.Segments k16) k41))) with g72 | g72
      ·
       refine wg (vf underlying51 rfl type3) (nt g72) ?_
       refine wg (vl 1 2 underlying3) (nt g72) ?_
       refine wg (vf underlying26 rfl type3) (nt g72) ?_
       refine wg (vl 3 1 underlying3) (nt g72) ?_
       refine WM_callV (cl_fn cb46 rfl) (fun W hm => impl_within_c W ((gt (gt x0.Segments k16) k41).Born) 0 x0.Now) (Wd_some rfl rfl rfl (bw (nt g72) rfl)) (by decide) ?_
       refine wg vnot (nt g72) ?_
       refine wv (vpF (nt g72)) ?_
       refine wm ?_
       rcases Bool.eq_false_or_eq_true (impl_within_m ((gt (gt x0.Segments k16) k41).Born) 0 x0.Now) with g74 | g74
       ·
        have hw := impl_within_fact g74
        refine wg (vf underlying51 rfl type3) (nt g74) ?_
        refine wg (vl 1 3 underlying3) (nt g74) ?_
        refine wg vneq (nt g74) ?_
        refine wg vmv (nt g74) ?_
        by_cases h75 : ((gt (gt x0.Segments k16) k41).Died) = (-1)
        ·have g76 : (((gt (gt x0.Segments k16) k41).Died) != (-1)) = false := by rw [h75]; exact bne_self_eq_false _
         refine ws g76 ?_
         refine ws g76 ?_
         refine ws g76 ?_
         refine ws g76 ?_
         refine ws g76 ?_
         refine ws g76 ?_
         refine ws g76 ?_
         refine ws g76 ?_
         refine ws g76 ?_
         refine wg (vpF g76) (nt g74) ?_
         refine wv (vpF (nt g74)) ?_
         refine nt' ?_
         refine CM_condF rfl rfl ?_
         refine CM_skip (QM_then (CM_seq (sr (wm ?_))))
         refine wv (vlen underlying72) ?_
         refine wm (nt' (CM_block ?_))
         let F3 := fun k (_ : Unit) => impl_IsStore_b3 x0 k16 k41 d42 k
         let R7 := rng (R := Bool) F3
         let K10 : List Value := [.slice A67 ((impl_rowOf_m (gt (gt x0.Segments k16) k41)).Values).length c68]
         let I17 : It := iOwn (tSl tInt 3) K10 ((impl_rowOf_m (gt (gt x0.Segments k16) k41)).Values)
         refine CM_loop (σ := Nat × (Unit) × (Unit)) (fun s => [(1, .pointer (some (⟨p9, 0, none⟩ : Addr))), (3, .slice A43 d42.length c44), (7, .pointer (some (⟨p64, 0, none⟩ : Addr))), (23, .slice (some a26) x0.Segments.length c5), (24, .int .i64 ((x0.Segments.length : Nat) : Int)), (25, .int .i64 ((k16 : Nat) : Int)), (32, .slice (some a51) ((gt x0.Segments k16)).length c36), (33, .int .i64 ((((gt x0.Segments k16)).length : Nat) : Int)), (34, .int .i64 ((k41 : Nat) : Int)), (66, .slice A43 d42.length c44), (67, .int .i64 ((d42.length : Nat) : Int)), (68, .int .i64 ((s.1 : Nat) : Int))]) (fun s => [I17, iBox p64 51 K9, I16, I15]) (fun s => s.1 ≤ d42.length ∧ R7 (d42.length - s.1) s.1 s.2.1 = R7 (d42.length - 0) 0 ()) (fun s => d42.length - s.1) (0, (), ()) sl12 (fun W hm => hm) ⟨(by omega), rfl⟩ ?_
         rintro ⟨k77, ⟨⟩, ⟨⟩⟩ H80
         obtain ⟨hk78, hF79⟩ : k77 ≤ d42.length ∧ R7 (d42.length - k77) k77 () = R7 (d42.length - 0) 0 () := H80
         show CM Try.prog 89 _ _ _ _ [(1, .pointer (some (⟨p9, 0, none⟩ : Addr))), (3, .slice A43 d42.length c44), (7, .pointer (some (⟨p64, 0, none⟩ : Addr))), (23, .slice (some a26) x0.Segments.length c5), (24, .int .i64 ((x0.Segments.length : Nat) : Int)), (25, .int .i64 ((k16 : Nat) : Int)), (32, .slice (some a51) ((gt x0.Segments k16)).length c36), (33, .int .i64 ((((gt x0.Segments k16)).length : Nat) : Int)), (34, .int .i64 ((k41 : Nat) : Int)), (66, .slice A43 d42.length c44), (67, .int .i64 ((d42.length : Nat) : Int)), (68, .int .i64 ((k77 : Nat) : Int))] [I17, iBox p64 51 K9, I16, I15]
         refine sr ?_
         refine wv vlss ?_
         refine nt' (CM_seq ?_)
         by_cases hl81 : k77 < d42.length
         ·have g82 := dlT hl81
          refine CM_condT rfl g82 ?_
          refine CM_skip (QM_then (CM_seq (CM_block (sr ?_))))
          refine WM_formO (n := 2) rfl (by omega) ?_
          rintro g83 rfl
          refine wv (vix 4 k77 underlying72 type51) ?_
          refine WM_expose (T := tyVersion) (wb := w) (Bb := w.heap.size) (e := 51) (g := g83) (n := d42.length) (c := c44) (xs := d42) (js := [I17, iBox p64 51 K9, I15]) (pk [2, 0, 1, 3]) ?_
          rintro ck84 rk85
          obtain ⟨_, e86, hc87⟩ := rk85.get (j := k77) (by omega)
          obtain ⟨v88, rfl, r89⟩ := tyVersion_rd e86
          obtain ⟨m90, A91, c92, rfl, q93, r94⟩ := rdS_op r89
          let K11 : List Value := [.int .i64 ((gt d42 k77).Id), .slice A91 ((gt d42 k77).Values).length c92, .int .i64 ((gt d42 k77).Born), .int .i64 ((gt d42 k77).Died)]
          refine wv (fun W hm => rv_loadN (cs := K11) underlying51 type51 rfl rfl (hm.rowCells (i := 0) rfl hc87)) ?_
          refine WM_alloc type51 rfl (Wd_none rfl) (by decide) (fun p95 => ?_)
          refine sb 0 K11 [iBox g83 51 ck84, I17, iBox p64 51 K9, I15] (fun W hm => hm) type51 ?_
          refine nt' (sr ?_)
          refine wv (vf underlying51 rfl type3) ?_
          refine wv (vl 3 0 underlying3) ?_
          refine wv (vf underlying51 rfl type3) ?_
          refine wv (vl 0 0 underlying3) ?_
          refine wv (fun W hm => rv_eql rfl rfl) ?_
          refine wm ?_
          by_cases h96 : ((gt (gt x0.Segments k16) k41).Id) = ((gt d42 k77).Id)
          ·have g97 := beq_iff_eq.2 h96
           refine wg (fun W hm => rv_loadN (cs := K9) underlying51 type51 rfl rfl (hm.boxCells (n := 3) rfl)) g97 ?_
           refine wg (fun W hm => rv_loadN (cs := K11) underlying51 type51 rfl rfl (hm.boxCells (n := 0) rfl)) g97 ?_
           refine WM_callV (cl_fn cb49 rfl) (fun W hm => impl_meetInTime_c W _ (gt (gt x0.Segments k16) k41) _ (gt d42 k77) (tyVersion_mk (x := (gt (gt x0.Segments k16) k41)) (hm.rdS0 r63)) (tyVersion_mk (x := (gt d42 k77)) (hm.rdS0 r94))) (Wd_some rfl rfl rfl (bw g97 rfl)) (by decide) ?_
           refine wv (vpT g97) ?_
           refine nt' ?_
           rcases Bool.eq_false_or_eq_true (impl_meetInTime_m (gt (gt x0.Segments k16) k41) (gt d42 k77)) with g99 | g99
           ·
            refine CM_condT rfl g99 ?_
            refine sr (wa (nt' (CM_ret (QM_block_ret (QM_then_ret (QM_then_ret (QM_block_ret (QM_then_ret (QM_block_ret (QM_then_ret (QM_then_ret (QM_block_ret (QM_block_ret (QM_then_ret (QM_then_ret (QM_block_ret (QM_then_ret ?_)))))))))))))))))
            refine QM_items (fun W hm => Mem.hide rk85 (hm.pick [1, 0, 2, 3, 4] (by decide))) ?_
            exact rtb (h := cond_t g11 (cond_t g13 (fin_inl (rng_ret (body := F1) (k := k16) (s := d17) (show k16 < x0.Segments.length from by omega) (cond_f g40 (fin_inl (rng_ret (body := F2) (k := k41) (s := d42) (show k41 < ((gt x0.Segments k16)).length from by omega) (cond_t g72 (cond_t g74 (cond_f g76 (fin_inl (rng_ret (body := F3) (k := k77) (s := ()) (show k77 < d42.length from by omega) (cond_t g97 (cond_t g99 (rfl))) hF79) rfl)))) hF46) rfl)) hF21) rfl)))
           ·
            refine CM_condF rfl g99 ?_
            refine CM_skip (QM_block_normal (QM_then (CM_region ?_)))
            refine wv (vadN k77 1 (by omega)) ?_
            refine wm (WM_nil ?_)
            refine QM_items (fun W hm => Mem.hide rk85 (hm.pick [1, 0, 2, 3, 4] (by decide))) ?_
            have hn100 := rng_next (R := Bool) (body := F3) (k := k77) (s := ()) (s' := ()) (show k77 < d42.length from by omega) (cond_t g97 (cond_f g99 (rfl))) hF79
            exact QM_round (k77 + 1, (), ()) sl12 (pk [2, 3, 0, 4]) ⟨(by omega), hn100⟩ (rl (by omega))
          ·have g97 := beq_eq_false_iff_ne.2 h96
           refine ws g97 ?_
           refine ws g97 ?_
           refine ws g97 ?_
           refine wv (vpF g97) ?_
           refine nt' ?_
           refine CM_condF rfl rfl ?_
           refine CM_skip (QM_block_normal (QM_then (CM_region ?_)))
           refine wv (vadN k77 1 (by omega)) ?_
           refine wm (WM_nil ?_)
           refine QM_items (fun W hm => Mem.hide rk85 (hm.pick [1, 0, 2, 3, 4] (by decide))) ?_
           have hn101 := rng_next (R := Bool) (body := F3) (k := k77) (s := ()) (s' := ()) (show k77 < d42.length from by omega) (cond_f g97 (rfl)) hF79
           exact QM_round (k77 + 1, (), ()) sl12 (pk [2, 3, 0, 4]) ⟨(by omega), hn101⟩ (rl (by omega))
         ·have g82 := dlF hl81
          refine CM_condF rfl g82 ?_
          refine CM_exit (QM_then_exit (QM_then_exit ?_))
          have hE102 : R7 (d42.length - 0) 0 () = Sum.inr () := rng_end hl81 hF79
          refine QM_block_hit (QM_then (CM_region (wm ?_)))
          refine wv (fun W hm => rv_loadN (cs := K9) underlying51 type51 rfl rfl (hm.boxCells (n := 1) rfl)) ?_
          refine WM_build (cs := K9) underlying72 type51 rfl (by decide) (by decide) rfl (by kernel_rfl) (Wd_none rfl) (by decide) (fun p103 => ?_)
          refine ap1 (tBor tyVersion w w.heap.size) 51 (.slice A43 d42.length c44) d42 (gt (gt x0.Segments k16) k41) [] [I17, iBox p64 51 K9, I15] K9 (pk [0, 3, 1, 2, 4]) (fun _ _ hs => by cases (Sep.nil hs); exact (els_cons (E := (tBor tyVersion w w.heap.size)) (L1 := []) ⟨rfl, (tyVersion_mk r63)⟩ els_nil)) underlying72 type51 (show (d42.length + 1) * 48 ≤ 140737488355328 from by omega) (fun v104 => ?_)
          refine WM_form (n := 0) rfl ?_
          rintro A105 c106 rfl m107
          refine wa (WM_nil (QM_block_normal (QM_then (CM_region ?_))))
          refine wv (vadN k41 1 (by omega)) ?_
          refine wm (WM_nil ?_)
          have hn109 := rng_next (R := Bool) (body := F2) (k := k41) (s := d42) (s' := (d42 ++ [(gt (gt x0.Segments k16) k41)])) (show k41 < ((gt x0.Segments k16)).length from by omega) (cond_t g72 (cond_t g74 (cond_f g76 (fin_inr hE102 (rfl))))) hF46
          exact QM_round (k41 + 1, (d42 ++ [(gt (gt x0.Segments k16) k41)]), (A105, c106)) sl8 (pk [0, 3]) ⟨(by omega), hn109, (show (d42 ++ [(gt (gt x0.Segments k16) k41)]).length ≤ d17.length + (k41 + 1) from by first | omega | (simp only [List.length_append, List.length_cons, List.length_nil] at *; omega))⟩ (show ((gt x0.Segments k16)).length - (k41 + 1) < ((gt x0.Segments k16)).length - k41 from by omega)
        ·have g76 : (((gt (gt x0.Segments k16) k41).Died) != (-1)) = true := bne_iff_ne.2 h75
         refine wg (vf underlying51 rfl type3) g76 ?_
         refine wg (vl 1 3 underlying3) g76 ?_
         refine wg (vf underlying51 rfl type3) g76 ?_
         refine wg (vl 1 2 underlying3) g76 ?_
         refine wg vadd g76 ?_
         refine wg (vf underlying26 rfl type3) g76 ?_
         refine wg (vl 3 1 underlying3) g76 ?_
         refine WM_callV (cl_fn cb46 rfl) (fun W hm => impl_within_c W ((gt (gt x0.Segments k16) k41).Died) (IntKind.i64.wrap (((gt (gt x0.Segments k16) k41).Born) + 1)) x0.Now) (Wd_some rfl rfl rfl (bw g76 rfl)) (by decide) ?_
         refine wg vnot g76 ?_
         refine wg (vpT g76) (nt g74) ?_
         refine wv (vpF (nt g74)) ?_
         refine nt' ?_
         rcases Bool.eq_false_or_eq_true (impl_within_m ((gt (gt x0.Segments k16) k41).Died) (IntKind.i64.wrap (((gt (gt x0.Segments k16) k41).Born) + 1)) x0.Now) with g111 | g111
         ·
          have hw := impl_within_fact g111
          refine CM_condF rfl (nt g111) ?_
          refine CM_skip (QM_then (CM_seq (sr (wm ?_))))
          refine wv (vlen underlying72) ?_
          refine wm (nt' (CM_block ?_))
          let F4 := fun k (_ : Unit) => impl_IsStore_b4 x0 k16 k41 d42 k
          let R8 := rng (R := Bool) F4
          let K12 : List Value := [.slice A67 ((impl_rowOf_m (gt (gt x0.Segments k16) k41)).Values).length c68]
          let I18 : It := iOwn (tSl tInt 3) K12 ((impl_rowOf_m (gt (gt x0.Segments k16) k41)).Values)
          refine CM_loop (σ := Nat × (Unit) × (Unit)) (fun s => [(1, .pointer (some (⟨p9, 0, none⟩ : Addr))), (3, .slice A43 d42.length c44), (7, .pointer (some (⟨p64, 0, none⟩ : Addr))), (23, .slice (some a26) x0.Segments.length c5), (24, .int .i64 ((x0.Segments.length : Nat) : Int)), (25, .int .i64 ((k16 : Nat) : Int)), (32, .slice (some a51) ((gt x0.Segments k16)).length c36), (33, .int .i64 ((((gt x0.Segments k16)).length : Nat) : Int)), (34, .int .i64 ((k41 : Nat) : Int)), (66, .slice A43 d42.length c44), (67, .int .i64 ((d42.length : Nat) : Int)), (68, .int .i64 ((s.1 : Nat) : Int))]) (fun s => [I18, iBox p64 51 K9, I16, I15]) (fun s => s.1 ≤ d42.length ∧ R8 (d42.length - s.1) s.1 s.2.1 = R8 (d42.length - 0) 0 ()) (fun s => d42.length - s.1) (0, (), ()) sl12 (fun W hm => hm) ⟨(by omega), rfl⟩ ?_
          rintro ⟨k112, ⟨⟩, ⟨⟩⟩ H115
          obtain ⟨hk113, hF114⟩ : k112 ≤ d42.length ∧ R8 (d42.length - k112) k112 () = R8 (d42.length - 0) 0 () := H115
          show CM Try.prog 89 _ _ _ _ [(1, .pointer (some (⟨p9, 0, none⟩ : Addr))), (3, .slice A43 d42.length c44), (7, .pointer (some (⟨p64, 0, none⟩ : Addr))), (23, .slice (some a26) x0.Segments.length c5), (24, .int .i64 ((x0.Segments.length : Nat) : Int)), (25, .int .i64 ((k16 : Nat) : Int)), (32, .slice (some a51) ((gt x0.Segments k16)).length c36), (33, .int .i64 ((((gt x0.Segments k16)).length : Nat) : Int)), (34, .int .i64 ((k41 : Nat) : Int)), (66, .slice A43 d42.length c44), (67, .int .i64 ((d42.length : Nat) : Int)), (68, .int .i64 ((k112 : Nat) : Int))] [I18, iBox p64 51 K9, I16, I15]
          refine sr ?_
          refine wv vlss ?_
          refine nt' (CM_seq ?_)
          by_cases hl116 : k112 < d42.length
          ·have g117 := dlT hl116
           refine CM_condT rfl g117 ?_
           refine CM_skip (QM_then (CM_seq (CM_block (sr ?_))))
           refine WM_formO (n := 2) rfl (by omega) ?_
           rintro g118 rfl
           refine wv (vix 4 k112 underlying72 type51) ?_
           refine WM_expose (T := tyVersion) (wb := w) (Bb := w.heap.size) (e := 51) (g := g118) (n := d42.length) (c := c44) (xs := d42) (js := [I18, iBox p64 51 K9, I15]) (pk [2, 0, 1, 3]) ?_
           rintro ck119 rk120
           obtain ⟨_, e121, hc122⟩ := rk120.get (j := k112) (by omega)
           obtain ⟨v123, rfl, r124⟩ := tyVersion_rd e121
           obtain ⟨m125, A126, c127, rfl, q128, r129⟩ := rdS_op r124
           let K13 : List Value := [.int .i64 ((gt d42 k112).Id), .slice A126 ((gt d42 k112).Values).length c127, .int .i64 ((gt d42 k112).Born), .int .i64 ((gt d42 k112).Died)]
           refine wv (fun W hm => rv_loadN (cs := K13) underlying51 type51 rfl rfl (hm.rowCells (i := 0) rfl hc122)) ?_
           refine WM_alloc type51 rfl (Wd_none rfl) (by decide) (fun p130 => ?_)
           refine sb 0 K13 [iBox g118 51 ck119, I18, iBox p64 51 K9, I15] (fun W hm => hm) type51 ?_
           refine nt' (sr ?_)
           refine wv (vf underlying51 rfl type3) ?_
           refine wv (vl 3 0 underlying3) ?_
           refine wv (vf underlying51 rfl type3) ?_
           refine wv (vl 0 0 underlying3) ?_
           refine wv (fun W hm => rv_eql rfl rfl) ?_
           refine wm ?_
           by_cases h131 : ((gt (gt x0.Segments k16) k41).Id) = ((gt d42 k112).Id)
           ·have g132 := beq_iff_eq.2 h131
            refine wg (fun W hm => rv_loadN (cs := K9) underlying51 type51 rfl rfl (hm.boxCells (n := 3) rfl)) g132 ?_
            refine wg (fun W hm => rv_loadN (cs := K13) underlying51 type51 rfl rfl (hm.boxCells (n := 0) rfl)) g132 ?_
            refine WM_callV (cl_fn cb49 rfl) (fun W hm => impl_meetInTime_c W _ (gt (gt x0.Segments k16) k41) _ (gt d42 k112) (tyVersion_mk (x := (gt (gt x0.Segments k16) k41)) (hm.rdS0 r63)) (tyVersion_mk (x := (gt d42 k112)) (hm.rdS0 r129))) (Wd_some rfl rfl rfl (bw g132 rfl)) (by decide) ?_
            refine wv (vpT g132) ?_
            refine nt' ?_
            rcases Bool.eq_false_or_eq_true (impl_meetInTime_m (gt (gt x0.Segments k16) k41) (gt d42 k112)) with g134 | g134
            ·
             refine CM_condT rfl g134 ?_
             refine sr (wa (nt' (CM_ret (QM_block_ret (QM_then_ret (QM_then_ret (QM_block_ret (QM_then_ret (QM_block_ret (QM_then_ret (QM_then_ret (QM_block_ret (QM_block_ret (QM_then_ret (QM_then_ret (QM_block_ret (QM_then_ret ?_)))))))))))))))))
             refine QM_items (fun W hm => Mem.hide rk120 (hm.pick [1, 0, 2, 3, 4] (by decide))) ?_
             exact rtb (h := cond_t g11 (cond_t g13 (fin_inl (rng_ret (body := F1) (k := k16) (s := d17) (show k16 < x0.Segments.length from by omega) (cond_f g40 (fin_inl (rng_ret (body := F2) (k := k41) (s := d42) (show k41 < ((gt x0.Segments k16)).length from by omega) (cond_t g72 (cond_t g74 (cond_t g76 (cond_t g111 (fin_inl (rng_ret (body := F4) (k := k112) (s := ()) (show k112 < d42.length from by omega) (cond_t g132 (cond_t g134 (rfl))) hF114) rfl))))) hF46) rfl)) hF21) rfl)))
            ·
             refine CM_condF rfl g134 ?_
             refine CM_skip (QM_block_normal (QM_then (CM_region ?_)))
             refine wv (vadN k112 1 (by omega)) ?_
             refine wm (WM_nil ?_)
             refine QM_items (fun W hm => Mem.hide rk120 (hm.pick [1, 0, 2, 3, 4] (by decide))) ?_
             have hn135 := rng_next (R := Bool) (body := F4) (k := k112) (s := ()) (s' := ()) (show k112 < d42.length from by omega) (cond_t g132 (cond_f g134 (rfl))) hF114
             exact QM_round (k112 + 1, (), ()) sl12 (pk [2, 3, 0, 4]) ⟨(by omega), hn135⟩ (rl (by omega))
           ·have g132 := beq_eq_false_iff_ne.2 h131
            refine ws g132 ?_
            refine ws g132 ?_
            refine ws g132 ?_
            refine wv (vpF g132) ?_
            refine nt' ?_
            refine CM_condF rfl rfl ?_
            refine CM_skip (QM_block_normal (QM_then (CM_region ?_)))
            refine wv (vadN k112 1 (by omega)) ?_
            refine wm (WM_nil ?_)
            refine QM_items (fun W hm => Mem.hide rk120 (hm.pick [1, 0, 2, 3, 4] (by decide))) ?_
            have hn136 := rng_next (R := Bool) (body := F4) (k := k112) (s := ()) (s' := ()) (show k112 < d42.length from by omega) (cond_f g132 (rfl)) hF114
            exact QM_round (k112 + 1, (), ()) sl12 (pk [2, 3, 0, 4]) ⟨(by omega), hn136⟩ (rl (by omega))
          ·have g117 := dlF hl116
           refine CM_condF rfl g117 ?_
           refine CM_exit (QM_then_exit (QM_then_exit ?_))
           have hE137 : R8 (d42.length - 0) 0 () = Sum.inr () := rng_end hl116 hF114
           refine QM_block_hit (QM_then (CM_region (wm ?_)))
           refine wv (fun W hm => rv_loadN (cs := K9) underlying51 type51 rfl rfl (hm.boxCells (n := 1) rfl)) ?_
           refine WM_build (cs := K9) underlying72 type51 rfl (by decide) (by decide) rfl (by kernel_rfl) (Wd_none rfl) (by decide) (fun p138 => ?_)
           refine ap1 (tBor tyVersion w w.heap.size) 51 (.slice A43 d42.length c44) d42 (gt (gt x0.Segments k16) k41) [] [I18, iBox p64 51 K9, I15] K9 (pk [0, 3, 1, 2, 4]) (fun _ _ hs => by cases (Sep.nil hs); exact (els_cons (E := (tBor tyVersion w w.heap.size)) (L1 := []) ⟨rfl, (tyVersion_mk r63)⟩ els_nil)) underlying72 type51 (show (d42.length + 1) * 48 ≤ 140737488355328 from by omega) (fun v139 => ?_)
           refine WM_form (n := 0) rfl ?_
           rintro A140 c141 rfl m142
           refine wa (WM_nil (QM_block_normal (QM_then (CM_region ?_))))
           refine wv (vadN k41 1 (by omega)) ?_
           refine wm (WM_nil ?_)
           have hn144 := rng_next (R := Bool) (body := F2) (k := k41) (s := d42) (s' := (d42 ++ [(gt (gt x0.Segments k16) k41)])) (show k41 < ((gt x0.Segments k16)).length from by omega) (cond_t g72 (cond_t g74 (cond_t g76 (cond_t g111 (fin_inr hE137 (rfl)))))) hF46
           exact QM_round (k41 + 1, (d42 ++ [(gt (gt x0.Segments k16) k41)]), (A140, c141)) sl8 (pk [0, 3]) ⟨(by omega), hn144, (show (d42 ++ [(gt (gt x0.Segments k16) k41)]).length ≤ d17.length + (k41 + 1) from by first | omega | (simp only [List.length_append, List.length_cons, List.length_nil] at *; omega))⟩ (show ((gt x0.Segments k16)).length - (k41 + 1) < ((gt x0.Segments k16)).length - k41 from by omega)
         ·
          refine CM_condT rfl (nf g111) ?_
          refine sr (wa (nt' (CM_ret (QM_then_ret (QM_block_ret (QM_then_ret (QM_then_ret (QM_block_ret (QM_block_ret (QM_then_ret (QM_then_ret (QM_block_ret (QM_then_ret ?_)))))))))))))
          exact rtb (h := cond_t g11 (cond_t g13 (fin_inl (rng_ret (body := F1) (k := k16) (s := d17) (show k16 < x0.Segments.length from by omega) (cond_f g40 (fin_inl (rng_ret (body := F2) (k := k41) (s := d42) (show k41 < ((gt x0.Segments k16)).length from by omega) (cond_t g72 (cond_t g74 (cond_t g76 (cond_f g111 (rfl))))) hF46) rfl)) hF21) rfl)))
       ·
        refine ws (nf g74) ?_
        refine ws (nf g74) ?_
        refine ws (nf g74) ?_
        refine ws (nf g74) ?_
        refine wu ?_
        refine wu ?_
        refine wu ?_
        refine wu ?_
        refine wu ?_
        refine wu ?_
        refine wu ?_
        refine wu ?_
        refine wu ?_
        refine ws (nf g74) ?_
        refine wv (vpT (nf g74)) ?_
        refine nt' ?_
        refine CM_condT rfl rfl ?_
        refine sr (wa (nt' (CM_ret (QM_then_ret (QM_block_ret (QM_then_ret (QM_then_ret (QM_block_ret (QM_block_ret (QM_then_ret (QM_then_ret (QM_block_ret (QM_then_ret ?_)))))))))))))
        exact rtb (h := cond_t g11 (cond_t g13 (fin_inl (rng_ret (body := F1) (k := k16) (s := d17) (show k16 < x0.Segments.length from by omega) (cond_f g40 (fin_inl (rng_ret (body := F2) (k := k41) (s := d42) (show k41 < ((gt x0.Segments k16)).length from by omega) (cond_t g72 (cond_f g74 (rfl))) hF46) rfl)) hF21) rfl)))
      ·
       refine ws (nf g72) ?_
       refine ws (nf g72) ?_
       refine ws (nf g72) ?_
       refine ws (nf g72) ?_
       refine ws (nf g72) ?_
       refine ws (nf g72) ?_
       refine wv (vpT (nf g72)) ?_
       refine wm ?_
       refine wk ?_
       refine wk ?_
       refine wk ?_
       refine wk ?_
       refine wu ?_
       refine wu ?_
       refine wu ?_
       refine wu ?_
       refine wu ?_
       refine wu ?_
       refine wu ?_
       refine wu ?_
       refine wu ?_
       refine wk ?_
       refine wv (vpT rfl) ?_
       refine nt' ?_
       refine CM_condT rfl rfl ?_
       refine sr (wa (nt' (CM_ret (QM_then_ret (QM_block_ret (QM_then_ret (QM_then_ret (QM_block_ret (QM_block_ret (QM_then_ret (QM_then_ret (QM_block_ret (QM_then_ret ?_)))))))))))))
       exact rtb (h := cond_t g11 (cond_t g13 (fin_inl (rng_ret (body := F1) (k := k16) (s := d17) (show k16 < x0.Segments.length from by omega) (cond_f g40 (fin_inl (rng_ret (body := F2) (k := k41) (s := d42) (show k41 < ((gt x0.Segments k16)).length from by omega) (cond_f g72 (rfl)) hF46) rfl)) hF21) rfl)))
     ·have g50 := dlF hl49
      refine CM_condF rfl g50 ?_
      refine CM_exit (QM_then_exit (QM_then_exit ?_))
      have hE145 : R6 (((gt x0.Segments k16)).length - 0) 0 d17 = Sum.inr d42 := rng_end hl49 hF46
      refine QM_block_hit (QM_block_normal (QM_then (CM_region ?_)))
      refine wv (vadN k16 1 (by omega)) ?_
      refine wm (WM_nil ?_)
      have hn146 := rng_next (R := Bool) (body := F1) (k := k16) (s := d17) (s' := d42) (show k16 < x0.Segments.length from by omega) (cond_f g40 (fin_inr hE145 (rfl))) hF21
      exact QM_round (k16 + 1, d42, (A43, c44)) sl5 (fun W hm => hm) ⟨(by omega), hn146, (show d42.length ≤ 0 + 4 * (k16 + 1) from by first | omega | (simp only [List.length_append, List.length_cons, List.length_nil] at *; omega))⟩ (rl (by omega))
   ·have g25 := dlF hl24
    refine CM_condF rfl g25 ?_
    refine CM_exit (QM_then_exit (QM_then_exit ?_))
    have hE147 : R5 (x0.Segments.length - 0) 0 [] = Sum.inr d17 := rng_end hl24 hF21
    refine QM_block_hit (QM_then (sr (wa (nt' (CM_ret ?_)))))
    exact rtb (h := cond_t g11 (cond_t g13 (fin_inr hE147 (rfl))))
  ·
   refine CM_condT rfl (nf g13) ?_
   refine sr (wa (nt' (CM_ret (QM_then_ret ?_))))
   exact rtb (h := cond_t g11 (cond_f g13 (rfl)))
 ·
  refine ws (nf g11) ?_
  refine ws (nf g11) ?_
  refine ws (nf g11) ?_
  refine ws (nf g11) ?_
  refine wv (vpT (nf g11)) ?_
  refine nt' ?_
  refine CM_condT rfl rfl ?_
  refine sr (wa (nt' (CM_ret (QM_then_ret ?_))))
  exact rtb (h := cond_f g11 (rfl))

def impl_isNeeded_b1 (x0 : DVersion) (x1 : (List Int)) (k14 : Nat) : Bool ⊕ (Unit) :=
 cond (impl_IsVisible_m x0 (gt x1 k14)) (Sum.inl true) (Sum.inr ())
def impl_isNeeded_m (x0 : DVersion) (x1 : (List Int)) : Bool :=
 Sum.elim id (fun (s : Unit) => (x0.Died == (-1))) (rng (R := Bool) (fun k (_ : Unit) => impl_isNeeded_b1 x0 x1 k) (x1.length - 0) 0 ())
theorem cb67 : Cb Try.prog 67 := ⟨f67, _, func67, rfl, by decide⟩
theorem impl_isNeeded_c (w : World) (z0 : List Value) (x0 : DVersion) (z1 : Value) (x1 : (List Int)) (r_0 : tyVersion.rd w w.heap.size z0 x0) (r_1 : rdS tInt w w.heap.size z1 x1) :
  Calls Try.prog 67 #[.agg z0.toArray, z1] w fun e w' => e = .returned (.bool (impl_isNeeded_m x0 x1)) ∧ Below w.heap.size w w' := by
 obtain ⟨v1, rfl, r2⟩ := tyVersion_rd r_0
 obtain ⟨m3, A4, c5, rfl, q6, r7⟩ := rdS_op r2
 obtain ⟨m8, A9, c10, rfl, q11, r12⟩ := rdS_op r_1
 refine ce2 (L := [(0, .agg #[.int .i64 x0.Id, .slice A4 x0.Values.length c5, .int .i64 x0.Born, .int .i64 x0.Died]), (1, .slice A9 x1.length c10)]) (N := 20) func67 ?_
 refine sr ?_
 refine WM_box rfl (Wd_none rfl) (by decide) (fun p13 => ?_)
 refine wa (nt' (CM_seq (sr (wm ?_))))
 refine wv (vlen underlying27) ?_
 refine wm (nt' (CM_block ?_))
 let F1 := fun k (_ : Unit) => impl_isNeeded_b1 x0 x1 k
 let R2 := rng (R := Bool) F1
 let K3 : List Value := [.int .i64 x0.Id, .slice A4 x0.Values.length c5, .int .i64 x0.Born, .int .i64 x0.Died]
 refine CM_loop (σ := Nat × (Unit) × (Unit)) (fun s => [(2, .pointer (some (⟨p13, 0, none⟩ : Addr))), (7, .slice A9 x1.length c10), (8, .int .i64 ((x1.length : Nat) : Int)), (9, .int .i64 ((s.1 : Nat) : Int))]) (fun s => [iBox p13 51 K3]) (fun s => s.1 ≤ x1.length ∧ R2 (x1.length - s.1) s.1 s.2.1 = R2 (x1.length - 0) 0 ()) (fun s => x1.length - s.1) (0, (), ()) sl4 (fun W hm => hm) ⟨(by omega), rfl⟩ ?_
 rintro ⟨k14, ⟨⟩, ⟨⟩⟩ H17
 obtain ⟨hk15, hF16⟩ : k14 ≤ x1.length ∧ R2 (x1.length - k14) k14 () = R2 (x1.length - 0) 0 () := H17
 show CM Try.prog 20 _ _ _ _ [(2, .pointer (some (⟨p13, 0, none⟩ : Addr))), (7, .slice A9 x1.length c10), (8, .int .i64 ((x1.length : Nat) : Int)), (9, .int .i64 ((k14 : Nat) : Int))] [iBox p13 51 K3]
 refine sr ?_
 refine wv vlss ?_
 refine nt' (CM_seq ?_)
 by_cases hl18 : k14 < x1.length
 ·have g19 := dlT hl18
  refine CM_condT rfl g19 ?_
  refine CM_skip (QM_then (CM_seq (CM_block (sr ?_))))
  obtain ⟨a20, rfl, hb21, he22⟩ := q11 (by omega)
  refine wv (vix 1 k14 underlying27 type3) ?_
  refine wv (fun W hm => rv_load underlying3 rfl rfl ((hm.cell0 (show (a20.add (k14 * 1)).block < w.heap.size from by rw [add_block]; exact hb21.1)).trans (rdS_int he22 k14 (by omega)))) ?_
  refine wa (nt' (sr ?_))
  refine wv (fun W hm => rv_loadN (cs := K3) underlying51 type51 rfl rfl (hm.boxCells (n := 0) rfl)) ?_
  refine wm ?_
  refine wcv (cl_fn cb26 rfl) (fun W hm => impl_IsVisible_c W _ x0 (gt x1 k14) (tyVersion_mk (x := x0) (hm.rdS0 r7))) ?_
  refine nt' ?_
  rcases Bool.eq_false_or_eq_true (impl_IsVisible_m x0 (gt x1 k14)) with g24 | g24
  ·
   refine CM_condT rfl g24 ?_
   refine sr (wa (nt' (CM_ret (QM_block_ret (QM_then_ret (QM_then_ret (QM_block_ret (QM_then_ret ?_))))))))
   exact rtb (h := fin_inl (rng_ret (body := F1) (k := k14) (s := ()) (show k14 < x1.length from by omega) (cond_t g24 (rfl)) hF16) rfl)
  ·
   refine CM_condF rfl g24 ?_
   refine CM_skip (QM_block_normal (QM_then (CM_region ?_)))
   refine wv (vadN k14 1 (by omega)) ?_
   refine wm (WM_nil ?_)
   have hn25 := rng_next (R := Bool) (body := F1) (k := k14) (s := ()) (s' := ()) (show k14 < x1.length from by omega) (cond_f g24 (rfl)) hF16
   exact QM_round (k14 + 1, (), ()) sl4 (fun W hm => hm) ⟨(by omega), hn25⟩ (rl (by omega))
 ·have g19 := dlF hl18
  refine CM_condF rfl g19 ?_
  refine CM_exit (QM_then_exit (QM_then_exit ?_))
  have hE26 : R2 (x1.length - 0) 0 () = Sum.inr () := rng_end hl18 hF16
  refine QM_block_hit (QM_then (sr ?_))
  refine wv (vf underlying51 rfl type3) ?_
  refine wv (vl 0 3 underlying3) ?_
  refine wv (fun W hm => rv_eql rfl rfl) ?_
  refine wa (nt' (CM_ret ?_))
  exact rtb (h := fin_inr hE26 (rfl))

def impl_CountVersions_b1 (x0 : DStore) (k9 : Nat) (s10 : Int) : Int ⊕ (Int) :=
 Sum.inr (IntKind.i64.wrap (s10 + ((((gt x0.Segments k9)).length : Nat) : Int)))
def impl_CountVersions_m (x0 : DStore) : Int :=
 Sum.elim id (fun (s : Int) => s) (rng (R := Int) (fun k (s : Int) => impl_CountVersions_b1 x0 k s) (x0.Segments.length - 0) 0 0)
theorem cb25 : Cb Try.prog 25 := ⟨f25, _, func25, rfl, by decide⟩
theorem impl_CountVersions_c (w : World) (z0 : List Value) (x0 : DStore) (r_0 : tyStore.rd w w.heap.size z0 x0) :
  Calls Try.prog 25 #[.agg z0.toArray] w fun e w' => e = .returned (.int .i64 (impl_CountVersions_m x0)) ∧ Below w.heap.size w w' := by
 obtain ⟨v1, rfl, r2⟩ := tyStore_rd r_0
 obtain ⟨m3, A4, c5, rfl, q6, r7⟩ := rdS_op r2
 refine ce1 (L := [(0, .agg #[.slice A4 x0.Segments.length c5, .int .i64 x0.Now])]) (N := 19) func25 ?_
 refine sr ?_
 refine WM_box rfl (Wd_none rfl) (by decide) (fun p8 => ?_)
 refine wa (nt' (sr (wa (nt' (CM_seq (sr ?_))))))
 refine wv (vf underlying26 rfl type24) ?_
 refine wv (vl 0 0 underlying24) ?_
 refine wv (vlen underlying24) ?_
 refine wm (nt' (CM_block ?_))
 let F1 := fun k (s : Int) => impl_CountVersions_b1 x0 k s
 let R2 := rng (R := Int) F1
 let I3 : It := iBox p8 26 [.slice A4 x0.Segments.length c5, .int .i64 x0.Now]
 refine CM_loop (σ := Nat × (Int) × (Unit)) (fun s => [(3, .int .i64 s.2.1), (7, .slice A4 x0.Segments.length c5), (8, .int .i64 ((x0.Segments.length : Nat) : Int)), (9, .int .i64 ((s.1 : Nat) : Int))]) (fun s => [I3]) (fun s => s.1 ≤ x0.Segments.length ∧ R2 (x0.Segments.length - s.1) s.1 s.2.1 = R2 (x0.Segments.length - 0) 0 0) (fun s => x0.Segments.length - s.1) (0, 0, ()) sl4 (fun W hm => hm) ⟨(by omega), rfl⟩ ?_
 rintro ⟨k9, s10, ⟨⟩⟩ H13
 obtain ⟨hk11, hF12⟩ : k9 ≤ x0.Segments.length ∧ R2 (x0.Segments.length - k9) k9 s10 = R2 (x0.Segments.length - 0) 0 0 := H13
 show CM Try.prog 19 _ _ _ _ [(3, .int .i64 s10), (7, .slice A4 x0.Segments.length c5), (8, .int .i64 ((x0.Segments.length : Nat) : Int)), (9, .int .i64 ((k9 : Nat) : Int))] [I3]
 refine sr ?_
 refine wv vlss ?_
 refine nt' (CM_seq ?_)
 by_cases hl14 : k9 < x0.Segments.length
 ·have g15 := dlT hl14
  refine CM_condT rfl g15 ?_
  refine CM_skip (QM_then (CM_seq (CM_block (sr ?_))))
  obtain ⟨a16, rfl, hb17, he18⟩ := q6 (by omega)
  refine wv (vix 1 k9 underlying24 type72) ?_
  obtain ⟨_, e20, hc19⟩ := he18 k9 _ (gt_some (show k9 < x0.Segments.length from by omega))
  obtain ⟨v21, rfl, r22⟩ := e20
  obtain ⟨m23, A24, c25, rfl, q26, r27⟩ := rdS_op r22
  refine wv (fun W hm => rv_load underlying72 rfl rfl ((hm.cell0 (show (a16.add (k9 * 1)).block < w.heap.size from by rw [add_block]; exact hb17.1)).trans (hc19 0 _ rfl))) ?_
  refine wa (nt' (CM_region (wm (wm ?_))))
  refine wv (vlen underlying72) ?_
  refine wv vadd ?_
  refine wa (WM_nil (QM_block_normal (QM_then (CM_region ?_))))
  refine wv (vadN k9 1 (by omega)) ?_
  refine wm (WM_nil ?_)
  have hn28 := rng_next (R := Int) (body := F1) (k := k9) (s := s10) (s' := (IntKind.i64.wrap (s10 + ((((gt x0.Segments k9)).length : Nat) : Int)))) (show k9 < x0.Segments.length from by omega) (rfl) hF12
  exact QM_round (k9 + 1, (IntKind.i64.wrap (s10 + ((((gt x0.Segments k9)).length : Nat) : Int))), ()) sl4 (fun W hm => hm) ⟨(by omega), hn28⟩ (rl (by omega))
 ·have g15 := dlF hl14
  refine CM_condF rfl g15 ?_
  refine CM_exit (QM_then_exit (QM_then_exit ?_))
  have hE29 : R2 (x0.Segments.length - 0) 0 0 = Sum.inr s10 := rng_end hl14 hF12
  refine QM_block_hit (QM_then (sr (wm (wa (nt' (CM_ret ?_))))))
  exact rti (h := fin_inr hE29 (rfl))

def impl_ReclaimStore_b2 (x1 : (List Int)) (k26 : Nat) (d27 : (List (List DVersion))) (k43 : Nat) (d44 : (List DVersion)) : (DStore × Int) ⊕ ((List DVersion)) :=
 cond (impl_isNeeded_m (gt (gt d27 k26) k43) x1) (Sum.inr (d44 ++ [(gt (gt d27 k26) k43)])) (Sum.inr d44)
def impl_ReclaimStore_b1 (x1 : (List Int)) (k26 : Nat) (d27 : (List (List DVersion))) : (DStore × Int) ⊕ ((List (List DVersion))) :=
 Sum.elim Sum.inl (fun (s : (List DVersion)) => Sum.inr (d27.set k26 s)) (rng (R := (DStore × Int)) (fun k (s : (List DVersion)) => impl_ReclaimStore_b2 x1 k26 d27 k s) ((gt d27 k26).length - 0) 0 [])
def impl_ReclaimStore_m (x0 : DStore) (x1 : (List Int)) : (DStore × Int) :=
 cond (impl_IsStore_m x0) (Sum.elim id (fun (s : (List (List DVersion))) => ((⟨s, x0.Now⟩ : DStore), (IntKind.i64.wrap ((impl_CountVersions_m x0) - (impl_CountVersions_m (⟨s, x0.Now⟩ : DStore)))))) (rng (R := (DStore × Int)) (fun k (s : (List (List DVersion))) => impl_ReclaimStore_b1 x1 k s) (x0.Segments.length - 0) 0 x0.Segments)) (x0, 0)
theorem cb29 : Cb Try.prog 29 := ⟨f29, _, func29, rfl, by decide⟩
theorem impl_ReclaimStore_c (w : World) (z0 : List Value) (x0 : DStore) (z1 : Value) (x1 : (List Int)) (r_0 : tyStore.rd w w.heap.size z0 x0) (r_1 : rdS tInt w w.heap.size z1 x1) (s_0 : smStore 68719476736 x0) (s_1 : x1.length ≤ 68719476736) :
  Calls Try.prog 29 #[.agg z0.toArray, z1] w fun e w' => ∃ v : List Value, e = .returned (.tuple #[.agg v.toArray, .int .i64 ((impl_ReclaimStore_m x0 x1).2)]) ∧ Mem w.heap.size w [iOwn tyStore v (impl_ReclaimStore_m x0 x1).1] w' := by
 obtain ⟨v1, rfl, r2⟩ := tyStore_rd r_0
 obtain ⟨m3, A4, c5, rfl, q6, r7⟩ := rdS_op r2
 obtain ⟨m8, A9, c10, rfl, q11, r12⟩ := rdS_op r_1
 have l13 : x0.Segments.length ≤ 68719476736 := s_0.1
 have l14 : x1.length ≤ 68719476736 := s_1
 refine ce2 (L := [(0, .agg #[.slice A4 x0.Segments.length c5, .int .i64 x0.Now]), (1, .slice A9 x1.length c10)]) (N := 53) func29 ?_
 refine sr ?_
 refine WM_box rfl (Wd_none rfl) (by decide) (fun p15 => ?_)
 refine WM_alloc type26 rfl (Wd_none rfl) (by decide) (fun p16 => ?_)
 refine wa (nt' (sr ?_))
 refine wv (fun W hm => rv_loadN (cs := [.slice A4 x0.Segments.length c5, .int .i64 x0.Now]) underlying26 type26 rfl rfl (hm.boxCells (n := 1) rfl)) ?_
 refine wcs tyStore x0 (cl_fn cb37 rfl) (fun W hm => impl_copyStore_c2 W _ x0 (tyStore_mk (x := x0) (hm.rdS0 r7)) s_0) (fun z17 => ?_)
 refine tyStore_sp ?_
 rintro v18 rfl
 refine WM_form (n := 0) rfl ?_
 rintro A19 c20 rfl m21
 refine WM_alloc type26 rfl (Wd_none rfl) (by decide) (fun p23 => ?_)
 let I7 : It := iOwn (tSl (tSl tyVersion 51) 72) [.slice A19 x0.Segments.length c20] x0.Segments
 let I8 : It := iBox p15 26 [.slice A4 x0.Segments.length c5, .int .i64 x0.Now]
 refine sb 0 [.slice A19 x0.Segments.length c20, .int .i64 x0.Now] [I7, iBox p16 26 [.slice none 0 0, .int .i64 0], I8] (fun W hm => hm) type26 ?_
 refine nt' (CM_seq (sr ?_))
 refine wv (fun W hm => rv_loadN (cs := [.slice A4 x0.Segments.length c5, .int .i64 x0.Now]) underlying26 type26 rfl rfl (hm.boxCells (n := 3) rfl)) ?_
 refine wcv (cl_fn cb11 rfl) (fun W hm => impl_IsStore_c W _ x0 (tyStore_mk (x := x0) (hm.rdS0 r7)) s_0) ?_
 refine wv vnot ?_
 refine nt' ?_
 rcases Bool.eq_false_or_eq_true (impl_IsStore_m x0) with g25 | g25
 ·
  refine CM_condF rfl (nt g25) ?_
  refine CM_skip (QM_then (CM_seq (sr ?_)))
  refine wv (vf underlying26 rfl type24) ?_
  refine wv (vl 0 0 underlying24) ?_
  refine wv (vlen underlying24) ?_
  refine wm (nt' (CM_block ?_))
  let F1 := fun k (s : (List (List DVersion))) => impl_ReclaimStore_b1 x1 k s
  let R3 := rng (R := (DStore × Int)) F1
  let I9 : It := iBox p23 26 [.slice A19 x0.Segments.length c20, .int .i64 x0.Now]
  refine CM_loop (σ := Nat × ((List (List DVersion))) × (Unit)) (fun s => [(1, .slice A9 x1.length c10), (2, .pointer (some (⟨p15, 0, none⟩ : Addr))), (4, .pointer (some (⟨p16, 0, none⟩ : Addr))), (6, .pointer (some (⟨p23, 0, none⟩ : Addr))), (19, .slice A19 x0.Segments.length c20), (20, .int .i64 ((x0.Segments.length : Nat) : Int)), (21, .int .i64 ((s.1 : Nat) : Int))]) (fun s => [I9, iOwn (tSl (tSl tyVersion 51) 72) [.slice A19 x0.Segments.length c20] s.2.1, iBox p16 26 [.slice none 0 0, .int .i64 0], I8]) (fun s => s.1 ≤ x0.Segments.length ∧ R3 (x0.Segments.length - s.1) s.1 s.2.1 = R3 (x0.Segments.length - 0) 0 x0.Segments ∧ ∀ j, s.1 ≤ j → gt s.2.1 j = gt x0.Segments j) (fun s => x0.Segments.length - s.1) (0, x0.Segments, ()) sl7 (fun W hm => hm) ⟨(by omega), rfl, (fun _ _ => rfl)⟩ ?_
  rintro ⟨k26, d27, ⟨⟩⟩ H30
  obtain ⟨hk28, hF29, hi31⟩ : k26 ≤ x0.Segments.length ∧ R3 (x0.Segments.length - k26) k26 d27 = R3 (x0.Segments.length - 0) 0 x0.Segments ∧ ∀ j, k26 ≤ j → gt d27 j = gt x0.Segments j := H30
  let I10 : It := iOwn (tSl (tSl tyVersion 51) 72) [.slice A19 x0.Segments.length c20] d27
  show CM Try.prog 53 _ _ _ _ [(1, .slice A9 x1.length c10), (2, .pointer (some (⟨p15, 0, none⟩ : Addr))), (4, .pointer (some (⟨p16, 0, none⟩ : Addr))), (6, .pointer (some (⟨p23, 0, none⟩ : Addr))), (19, .slice A19 x0.Segments.length c20), (20, .int .i64 ((x0.Segments.length : Nat) : Int)), (21, .int .i64 ((k26 : Nat) : Int))] [I9, I10, iBox p16 26 [.slice none 0 0, .int .i64 0], I8]
  refine sr ?_
  refine wv vlss ?_
  refine nt' (CM_seq ?_)
  by_cases hl32 : k26 < x0.Segments.length
  ·have g33 := dlT hl32
   have hq1 : (gt d27 k26).length ≤ 68719476736 := by rw [hi31 k26 (Nat.le_refl _)]; exact (s_0.2 _ (gt_mem (by omega))).1
   refine CM_condT rfl g33 ?_
   refine CM_skip (QM_then (CM_seq (CM_block (sr (wm ?_)))))
   refine WM_formO (n := 1) rfl (by omega) ?_
   rintro g34 rfl
   refine wv (vix 1 k26 underlying24 type72) ?_
   let K5 : List Value := [.slice (some ⟨g34, 0, none⟩) x0.Segments.length c20, .int .i64 x0.Now]
   refine WM_focus (E := (tSl tyVersion 51)) (e := 72) (A := (some ⟨g34, 0, none⟩)) (n := x0.Segments.length) (c := c20) (xs := d27) (k := k26) (js := [iBox p23 26 K5, iBox p16 26 [.slice none 0 0, .int .i64 0], I8]) (by omega) (pk [1, 0, 2, 3]) (fun ck35 => ?_)
   refine WM_split (γ := Value) (js := fun g => [iOwn (tSl tyVersion 51) [g] (gt d27 k26)]) (C := fun g => ck35 = [g]) (fun _ _ h => tSl_split h) ?_
   rintro v36 rfl
   refine WM_form (n := 0) rfl ?_
   rintro A37 c38 rfl m39
   refine wv (fun W hm => rv_load underlying72 rfl rfl (hm.focInt (i := 1) rfl rfl)) ?_
   refine wa (wa (nt' (sr ?_)))
   refine WM_build0 (E := tyVersion) underlying72 type51 (Wd_none rfl) (by decide) (fun p41 => ?_)
   refine wa (nt' (CM_seq (sr (wm ?_))))
   refine wv (vlen underlying72) ?_
   refine wm (nt' (CM_block ?_))
   refine CM_items (fun W hm => Mem.toRest (hm.pick [1, 0, 2, 3, 4, 5] (by decide))) ?_
   let F2 := fun k (s : (List DVersion)) => impl_ReclaimStore_b2 x1 k26 d27 k s
   let R4 := rng (R := (DStore × Int)) F2
   refine CM_loop (σ := Nat × ((List DVersion)) × (Option Addr × Nat)) (fun s => [(1, .slice A9 x1.length c10), (2, .pointer (some (⟨p15, 0, none⟩ : Addr))), (4, .pointer (some (⟨p16, 0, none⟩ : Addr))), (6, .pointer (some (⟨p23, 0, none⟩ : Addr))), (7, .int .i64 ((k26 : Nat) : Int)), (9, .slice s.2.2.1 s.2.1.length s.2.2.2), (19, .slice (some ⟨g34, 0, none⟩) x0.Segments.length c20), (20, .int .i64 ((x0.Segments.length : Nat) : Int)), (21, .int .i64 ((k26 : Nat) : Int)), (27, .slice A37 (gt d27 k26).length c38), (28, .int .i64 (((gt d27 k26).length : Nat) : Int)), (29, .int .i64 ((s.1 : Nat) : Int))]) (fun s => [iRest tyVersion 51 A37 ((gt d27 k26).length) (gt d27 k26) s.1, iOwn (tSl tyVersion 51) [.slice s.2.2.1 s.2.1.length s.2.2.2] s.2.1, iFoc (tSl tyVersion 51) 72 (some ⟨g34, 0, none⟩) x0.Segments.length c20 d27 k26 [.slice A37 (gt d27 k26).length c38], iBox p23 26 K5, iBox p16 26 [.slice none 0 0, .int .i64 0], I8]) (fun s => s.1 ≤ (gt d27 k26).length ∧ R4 ((gt d27 k26).length - s.1) s.1 s.2.1 = R4 ((gt d27 k26).length - 0) 0 [] ∧ s.2.1.length ≤ 0 + s.1) (fun s => (gt d27 k26).length - s.1) (0, [], ((some ⟨p41, 0, none⟩), 0)) sl12 (fun W hm => hm) ⟨(by omega), rfl, Nat.le_refl _⟩ ?_
   rintro ⟨k43, d44, ⟨A45, c46⟩⟩ H49
   obtain ⟨hk47, hF48, hi50⟩ : k43 ≤ (gt d27 k26).length ∧ R4 ((gt d27 k26).length - k43) k43 d44 = R4 ((gt d27 k26).length - 0) 0 [] ∧ d44.length ≤ 0 + k43 := H49
   let I11 : It := iOwn (tSl tyVersion 51) [.slice A45 d44.length c46] d44
   show CM Try.prog 53 _ _ _ _ [(1, .slice A9 x1.length c10), (2, .pointer (some (⟨p15, 0, none⟩ : Addr))), (4, .pointer (some (⟨p16, 0, none⟩ : Addr))), (6, .pointer (some (⟨p23, 0, none⟩ : Addr))), (7, .int .i64 ((k26 : Nat) : Int)), (9, .slice A45 d44.length c46), (19, .slice (some ⟨g34, 0, none⟩) x0.Segments.length c20), (20, .int .i64 ((x0.Segments.length : Nat) : Int)), (21, .int .i64 ((k26 : Nat) : Int)), (27, .slice A37 (gt d27 k26).length c38), (28, .int .i64 (((gt d27 k26).length : Nat) : Int)), (29, .int .i64 ((k43 : Nat) : Int))] [iRest tyVersion 51 A37 ((gt d27 k26).length) (gt d27 k26) k43, I11, iFoc (tSl tyVersion 51) 72 (some ⟨g34, 0, none⟩) x0.Segments.length c20 d27 k26 [.slice A37 (gt d27 k26).length c38], iBox p23 26 K5, iBox p16 26 [.slice none 0 0, .int .i64 0], I8]
   refine sr ?_
   refine wv vlss ?_
   refine nt' (CM_seq ?_)
   by_cases hl51 : k43 < (gt d27 k26).length
   ·have g52 := dlT hl51
    refine CM_condT rfl g52 ?_
    refine CM_skip (QM_then (CM_seq (CM_block (sr ?_))))
    refine WM_formR (n := 0) rfl (by omega) ?_
    rintro g53 rfl
    refine wv (vix 4 k43 underlying72 type51) ?_
    refine WM_pop (E := tyVersion) (e := 51) (A := (some ⟨g53, 0, none⟩)) (n := (gt d27 k26).length) (xs := (gt d27 k26)) (k := k43) (js := [I11, iFoc (tSl tyVersion 51) 72 (some ⟨g34, 0, none⟩) x0.Segments.length c20 d27 k26 [.slice (some ⟨g53, 0, none⟩) (gt d27 k26).length c38], iBox p23 26 K5, iBox p16 26 [.slice none 0 0, .int .i64 0], I8]) (by omega) (fun W hm => hm) (fun ck54 => ?_)
    refine tyVersion_sp ?_
    rintro v55 rfl
    refine WM_form (n := 0) rfl ?_
    rintro A56 c57 rfl m58
    let K6 : List Value := [.int .i64 ((gt (gt d27 k26) k43).Id), .slice A56 ((gt (gt d27 k26) k43).Values).length c57, .int .i64 ((gt (gt d27 k26) k43).Born), .int .i64 ((gt (gt d27 k26) k43).Died)]
    refine wv (fun W hm => rv_loadN (cs := K6) underlying51 type51 rfl rfl (hm.restCells (i := 1) rfl rfl)) ?_
    refine WM_alloc type51 rfl (Wd_none rfl) (by decide) (fun p60 => ?_)
    let I12 : It := iOwn (tSl tInt 3) [.slice A56 ((gt (gt d27 k26) k43).Values).length c57] ((gt (gt d27 k26) k43).Values)
    refine sb 0 K6 [I12, iRestF tyVersion 51 (some ⟨g53, 0, none⟩) ((gt d27 k26).length) (gt d27 k26) k43 K6, I11, iFoc (tSl tyVersion 51) 72 (some ⟨g34, 0, none⟩) x0.Segments.length c20 d27 k26 [.slice (some ⟨g53, 0, none⟩) (gt d27 k26).length c38], iBox p23 26 K5, iBox p16 26 [.slice none 0 0, .int .i64 0], I8] (fun W hm => hm) type51 ?_
    refine nt' (sr ?_)
    refine wv (fun W hm => rv_loadN (cs := K6) underlying51 type51 rfl rfl (hm.boxCells (n := 0) rfl)) ?_
    refine wm ?_
    refine wcv (cl_fn cb67 rfl) (fun W hm => impl_isNeeded_c W _ (gt (gt d27 k26) k43) _ x1 (tyVersion_mk (x := (gt (gt d27 k26) k43)) (hm.rdSI (n := 1) rfl)) (hm.rdS0 r12)) ?_
    refine nt' ?_
    rcases Bool.eq_false_or_eq_true (impl_isNeeded_m (gt (gt d27 k26) k43) x1) with g62 | g62
    ·
     refine CM_condT rfl g62 ?_
     refine CM_region (wm ?_)
     refine wv (fun W hm => rv_loadN (cs := K6) underlying51 type51 rfl rfl (hm.boxCells (n := 0) rfl)) ?_
     refine WM_build (cs := K6) underlying72 type51 rfl (by decide) (by decide) rfl (by kernel_rfl) (Wd_none rfl) (by decide) (fun p63 => ?_)
     refine ap1 tyVersion 51 (.slice A45 d44.length c46) d44 (gt (gt d27 k26) k43) [I12] [iBox p60 51 K6, iRestF tyVersion 51 (some ⟨g53, 0, none⟩) ((gt d27 k26).length) (gt d27 k26) k43 K6, iFoc (tSl tyVersion 51) 72 (some ⟨g34, 0, none⟩) x0.Segments.length c20 d27 k26 [.slice (some ⟨g53, 0, none⟩) (gt d27 k26).length c38], iBox p23 26 K5, iBox p16 26 [.slice none 0 0, .int .i64 0], I8] K6 (pk [0, 4, 2, 1, 3, 5, 6, 7, 8]) (fun _ _ hs => Els.single (tyVersion_join (x := (gt (gt d27 k26) k43)) hs)) underlying72 type51 (show (d44.length + 1) * 48 ≤ 140737488355328 from by omega) (fun v64 => ?_)
     refine WM_form (n := 0) rfl ?_
     rintro A65 c66 rfl m67
     refine wa (WM_nil (QM_block_normal (QM_then (CM_region ?_))))
     refine wv (vadN k43 1 (by omega)) ?_
     refine wm (WM_nil ?_)
     refine QM_items (fun W hm => Mem.restNext (hm.pick [2, 0, 1, 3, 4, 5, 6] (by decide))) ?_
     have hn69 := rng_next (R := (DStore × Int)) (body := F2) (k := k43) (s := d44) (s' := (d44 ++ [(gt (gt d27 k26) k43)])) (show k43 < (gt d27 k26).length from by omega) (cond_t g62 (rfl)) hF48
     exact QM_round (k43 + 1, (d44 ++ [(gt (gt d27 k26) k43)]), (A65, c66)) sl12 (pk [0, 1, 3, 4, 5, 6]) ⟨(by omega), hn69, (show (d44 ++ [(gt (gt d27 k26) k43)]).length ≤ 0 + (k43 + 1) from by first | omega | (simp only [List.length_append, List.length_cons, List.length_nil] at *; omega))⟩ (show (gt d27 k26).length - (k43 + 1) < (gt d27 k26).length - k43 from by omega)
    ·
     refine CM_condF rfl g62 ?_
     refine CM_skip (QM_block_normal (QM_then (CM_region ?_)))
     refine wv (vadN k43 1 (by omega)) ?_
     refine wm (WM_nil ?_)
     refine QM_items (fun W hm => Mem.restNext (hm.pick [2, 0, 1, 3, 4, 5, 6, 7] (by decide))) ?_
     have hn70 := rng_next (R := (DStore × Int)) (body := F2) (k := k43) (s := d44) (s' := d44) (show k43 < (gt d27 k26).length from by omega) (cond_f g62 (rfl)) hF48
     exact QM_round (k43 + 1, d44, (A45, c46)) sl12 (pk [0, 3, 4, 5, 6, 7]) ⟨(by omega), hn70, (show d44.length ≤ 0 + (k43 + 1) from by first | omega | (simp only [List.length_append, List.length_cons, List.length_nil] at *; omega))⟩ (show (gt d27 k26).length - (k43 + 1) < (gt d27 k26).length - k43 from by omega)
   ·have g52 := dlF hl51
    refine CM_condF rfl g52 ?_
    refine CM_exit (QM_then_exit (QM_then_exit ?_))
    have hE71 : R4 ((gt d27 k26).length - 0) 0 [] = Sum.inr d44 := rng_end hl51 hF48
    refine QM_block_hit (QM_then (CM_region ?_))
    refine wv (vf underlying26 rfl type24) ?_
    refine wv (vl 3 0 underlying24) ?_
    refine wm (wm ?_)
    refine wv (vix 1 k26 underlying24 type72) ?_
    refine sf 0 1 [.slice A45 d44.length c46] [iRest tyVersion 51 A37 ((gt d27 k26).length) (gt d27 k26) k43, I11, iBox p23 26 K5, iBox p16 26 [.slice none 0 0, .int .i64 0], I8] (pk [2, 0, 1, 3, 4, 5]) type72 ?_
    refine WM_nil (QM_block_normal (QM_then (CM_region ?_)))
    refine wv (vadN k26 1 (by omega)) ?_
    refine wm (WM_nil ?_)
    refine QM_items (fun W hm => Mem.unfocus (Mem.join (is := [I11]) (js := (iFoc (tSl tyVersion 51) 72 (some ⟨g34, 0, none⟩) x0.Segments.length c20 d27 k26 [.slice A45 d44.length c46] :: [iRest tyVersion 51 A37 ((gt d27 k26).length) (gt d27 k26) k43, iBox p23 26 K5, iBox p16 26 [.slice none 0 0, .int .i64 0], I8])) (fun _ _ hs => Sep.one hs) (hm.pick [2, 0, 1, 3, 4, 5] (by decide)))) ?_
    have hn72 := rng_next (R := (DStore × Int)) (body := F1) (k := k26) (s := d27) (s' := (d27.set k26 d44)) (show k26 < x0.Segments.length from by omega) (fin_inr hE71 (rfl)) hF29
    exact QM_round (k26 + 1, (d27.set k26 d44), ()) sl7 (pk [2, 0, 3, 4]) ⟨(by omega), hn72, (show ∀ j, (k26 + 1) ≤ j → gt (d27.set k26 d44) j = gt x0.Segments j from by intro j hj; rw [gt_set_ne (by omega)]; exact hi31 j (by omega))⟩ (rl (by omega))
  ·have g33 := dlF hl32
   refine CM_condF rfl g33 ?_
   refine CM_exit (QM_then_exit (QM_then_exit ?_))
   have hE73 : R3 (x0.Segments.length - 0) 0 x0.Segments = Sum.inr d27 := rng_end hl32 hF29
   refine QM_block_hit (QM_then (CM_seq ?_))
   refine rb 8 (s := [I9, I10, I8]) (pk [0, 1, 3]) ?_
   refine qt 8 0 1 rfl (fun W hm => rv_loadN (cs := [.slice A19 x0.Segments.length c20, .int .i64 x0.Now]) underlying26 type26 rfl rfl (hm.boxCells (n := 0) rfl)) ?_
   refine qt 8 1 3 rfl (fun W hm => rv_loadN (cs := [.slice A4 x0.Segments.length c5, .int .i64 x0.Now]) underlying26 type26 rfl rfl (hm.boxCells (n := 2) rfl)) ?_
   refine qt 8 3 11 rfl (fun W hm => rv_loadN (cs := [.slice A19 x0.Segments.length c20, .int .i64 x0.Now]) underlying26 type26 rfl rfl (hm.boxCells (n := 0) rfl)) ?_
   refine qo 8 2 15 rfl ?_
   refine wcv (cl_fn cb25 rfl) (fun W hm => impl_CountVersions_c W _ x0 (tyStore_mk (x := x0) (hm.rdS0 r7))) ?_
   refine qn (pk [0, 1, 3]) ?_
   refine qo 8 4 31 rfl ?_
   refine wcv (cl_fn cb25 rfl) (fun W hm => impl_CountVersions_c W _ (⟨d27, x0.Now⟩ : DStore) (tyStore_mk (x := (⟨d27, x0.Now⟩ : DStore)) (hm.rdSI (n := 1) rfl))) ?_
   refine qn (pk [0, 1, 3]) ?_
   refine qt 8 5 63 rfl (fun W hm => rv_sub rfl rfl) ?_
   refine qo 8 6 127 rfl ?_
   refine sb 0 [.slice A19 x0.Segments.length c20, .int .i64 x0.Now] [I9, I10, I8] (pk [2, 0, 1, 3]) type26 ?_
   refine qn (pk [1, 2, 3]) ?_
   refine qt 8 7 255 rfl (fun W hm => rv_assign rfl) ?_
   refine QB_done (by kernel_rfl) ?_
   refine QM_then (CM_ret ?_)
   have he74 := (show impl_ReclaimStore_m x0 x1 = ((⟨d27, x0.Now⟩ : DStore), (IntKind.i64.wrap ((impl_CountVersions_m x0) - (impl_CountVersions_m (⟨d27, x0.Now⟩ : DStore))))) from cond_t g25 (fin_inr hE73 (rfl)))
   refine QM_r2 rfl (RR_cell (n := 0) rfl rfl underlying26 type26 rfl) (RR_tmp rfl) (fun W hm => ⟨[.slice A19 x0.Segments.length c20, .int .i64 x0.Now], ?_, ?_⟩)
   ·first | rw [he74] | rfl
    try rfl
   ·rw [he74]; exact Mem.join (is := [I10]) (js := []) (fun _ _ hs => tyStore_join (x := (⟨d27, x0.Now⟩ : DStore)) hs) (hm.pick [2] (by decide))
 ·
  refine CM_condT rfl (nf g25) ?_
  refine sr ?_
  refine wv (fun W hm => rv_loadN (cs := [.slice A19 x0.Segments.length c20, .int .i64 x0.Now]) underlying26 type26 rfl rfl (hm.boxCells (n := 0) rfl)) ?_
  refine sb 0 [.slice A19 x0.Segments.length c20, .int .i64 x0.Now] [iBox p23 26 [.slice A19 x0.Segments.length c20, .int .i64 x0.Now], I7, I8] (pk [2, 0, 1, 3]) type26 ?_
  refine wa (nt' (CM_ret (QM_then_ret ?_)))
  have he75 := (show impl_ReclaimStore_m x0 x1 = (x0, 0) from cond_f g25 (rfl))
  refine QM_r2 rfl (RR_cell (n := 0) rfl rfl underlying26 type26 rfl) (RR_tmp rfl) (fun W hm => ⟨[.slice A19 x0.Segments.length c20, .int .i64 x0.Now], ?_, ?_⟩)
  ·first | rw [he75] | rfl
   try rfl
  ·rw [he75]; exact Mem.join (is := [I7]) (js := []) (fun _ _ hs => tyStore_join (x := x0) hs) (hm.pick [2] (by decide))

def spec_IsVisible_m (x0 : DVersion) (x1 : Int) : Bool :=
 cond (decide (x0.Born ≤ x1)) (cond (x0.Died == (-1)) true (decide (x1 < x0.Died))) false
theorem cb27 : Cb Try.prog 27 := ⟨f27, _, func27, rfl, by decide⟩
theorem spec_IsVisible_c (w : World) (z0 : List Value) (x0 : DVersion) (x1 : Int) (r_0 : tyVersion.rd w w.heap.size z0 x0) :
  Calls Try.prog 27 #[.agg z0.toArray, .int .i64 x1] w fun e w' => e = .returned (.bool (spec_IsVisible_m x0 x1)) ∧ Below w.heap.size w w' := by
 obtain ⟨v1, rfl, r2⟩ := tyVersion_rd r_0
 obtain ⟨m3, A4, c5, rfl, q6, r7⟩ := rdS_op r2
 refine ce2 (L := [(0, .agg #[.int .i64 x0.Id, .slice A4 x0.Values.length c5, .int .i64 x0.Born, .int .i64 x0.Died]), (1, .int .i64 x1)]) (N := 20) func27 ?_
 refine sr ?_
 refine WM_box rfl (Wd_none rfl) (by decide) (fun p8 => ?_)
 refine wa (nt' (sr ?_))
 refine wv (vf underlying51 rfl type3) ?_
 refine wv (vl 0 2 underlying3) ?_
 refine wm ?_
 refine wv (fun W hm => rv_leq rfl rfl) ?_
 refine wm ?_
 by_cases h9 : x0.Born ≤ x1
 ·have g10 := decide_eq_true h9
  refine wg (vf underlying51 rfl type3) g10 ?_
  refine wg (vl 0 3 underlying3) g10 ?_
  refine wg (fun W hm => rv_eql rfl rfl) g10 ?_
  refine wg vmv g10 ?_
  by_cases h11 : x0.Died = (-1)
  ·have g12 := beq_iff_eq.2 h11
   refine ws g12 ?_
   refine ws g12 ?_
   refine ws g12 ?_
   refine ws g12 ?_
   refine wg (vpT g12) g10 ?_
   refine wv (vpT g10) ?_
   refine wa (nt' (CM_ret ?_))
   exact rtb (h := cond_t g10 (cond_t g12 (rfl)))
  ·have g12 := beq_eq_false_iff_ne.2 h11
   refine wg (vf underlying51 rfl type3) g12 ?_
   refine wg (vl 0 3 underlying3) g12 ?_
   refine wg vmv g12 ?_
   refine wg (fun W hm => rv_gtr rfl rfl) g12 ?_
   refine wg (vpF g12) g10 ?_
   refine wv (vpT g10) ?_
   refine wa (nt' (CM_ret ?_))
   exact rtb (h := cond_t g10 (cond_f g12 (rfl)))
 ·have g10 := decide_eq_false h9
  refine ws g10 ?_
  refine ws g10 ?_
  refine ws g10 ?_
  refine ws g10 ?_
  refine wu ?_
  refine wu ?_
  refine wu ?_
  refine wu ?_
  refine ws g10 ?_
  refine wv (vpF g10) ?_
  refine wa (nt' (CM_ret ?_))
  exact rtb (h := cond_f g10 (rfl))

def spec_ReclaimStore_b3 (x1 : (List Int)) (k26 : Nat) (d28 : (List (List DVersion))) (k44 : Nat) (k63 : Nat) (s64 : Bool) : (DStore × Int) ⊕ (Bool) :=
 cond s64 (Sum.inr true) (Sum.inr (spec_IsVisible_m (gt (gt d28 k26) k44) (gt x1 k63)))
def spec_ReclaimStore_b2 (x1 : (List Int)) (k26 : Nat) (d28 : (List (List DVersion))) (k44 : Nat) (s45 : Int) (d46 : (List DVersion)) : (DStore × Int) ⊕ (Int × (List DVersion)) :=
 Sum.elim Sum.inl (fun (s : Bool) => cond s (Sum.inr (s45, (d46 ++ [(gt (gt d28 k26) k44)]))) (Sum.inr ((IntKind.i64.wrap (s45 + 1)), d46))) (rng (R := (DStore × Int)) (fun k (s : Bool) => spec_ReclaimStore_b3 x1 k26 d28 k44 k s) (x1.length - 0) 0 (((gt (gt d28 k26) k44).Died) == (-1)))
def spec_ReclaimStore_b1 (x1 : (List Int)) (k26 : Nat) (s27 : Int) (d28 : (List (List DVersion))) : (DStore × Int) ⊕ (Int × (List (List DVersion))) :=
 Sum.elim Sum.inl (fun (s : Int × (List DVersion)) => Sum.inr (s.1, (d28.set k26 s.2))) (rng (R := (DStore × Int)) (fun k (s : Int × (List DVersion)) => spec_ReclaimStore_b2 x1 k26 d28 k s.1 s.2) ((gt d28 k26).length - 0) 0 (s27, []))
def spec_ReclaimStore_m (x0 : DStore) (x1 : (List Int)) : (DStore × Int) :=
 cond (spec_IsStore_m x0) (Sum.elim id (fun (s : Int × (List (List DVersion))) => ((⟨s.2, x0.Now⟩ : DStore), s.1)) (rng (R := (DStore × Int)) (fun k (s : Int × (List (List DVersion))) => spec_ReclaimStore_b1 x1 k s.1 s.2) (x0.Segments.length - 0) 0 (0, x0.Segments))) (x0, 0)
theorem cb30 : Cb Try.prog 30 := ⟨f30, _, func30, rfl, by decide⟩
theorem spec_ReclaimStore_c (w : World) (z0 : List Value) (x0 : DStore) (z1 : Value) (x1 : (List Int)) (r_0 : tyStore.rd w w.heap.size z0 x0) (r_1 : rdS tInt w w.heap.size z1 x1) (s_0 : smStore 68719476736 x0) (s_1 : x1.length ≤ 68719476736) :
  Calls Try.prog 30 #[.agg z0.toArray, z1] w fun e w' => ∃ v : List Value, e = .returned (.tuple #[.agg v.toArray, .int .i64 ((spec_ReclaimStore_m x0 x1).2)]) ∧ Mem w.heap.size w [iOwn tyStore v (spec_ReclaimStore_m x0 x1).1] w' := by
 obtain ⟨v1, rfl, r2⟩ := tyStore_rd r_0
 obtain ⟨m3, A4, c5, rfl, q6, r7⟩ := rdS_op r2
 obtain ⟨m8, A9, c10, rfl, q11, r12⟩ := rdS_op r_1
 have l13 : x0.Segments.length ≤ 68719476736 := s_0.1
 have l14 : x1.length ≤ 68719476736 := s_1
 refine ce2 (L := [(0, .agg #[.slice A4 x0.Segments.length c5, .int .i64 x0.Now]), (1, .slice A9 x1.length c10)]) (N := 78) func30 ?_
 refine sr ?_
 refine WM_box rfl (Wd_none rfl) (by decide) (fun p15 => ?_)
 refine WM_alloc type26 rfl (Wd_none rfl) (by decide) (fun p16 => ?_)
 refine wa (nt' (sr ?_))
 refine wv (fun W hm => rv_loadN (cs := [.slice A4 x0.Segments.length c5, .int .i64 x0.Now]) underlying26 type26 rfl rfl (hm.boxCells (n := 1) rfl)) ?_
 refine wcs tyStore x0 (cl_fn cb41 rfl) (fun W hm => spec_l7Copy_c2 W _ x0 (tyStore_mk (x := x0) (hm.rdS0 r7)) s_0) (fun z17 => ?_)
 refine tyStore_sp ?_
 rintro v18 rfl
 refine WM_form (n := 0) rfl ?_
 rintro A19 c20 rfl m21
 refine WM_alloc type26 rfl (Wd_none rfl) (by decide) (fun p23 => ?_)
 let I9 : It := iOwn (tSl (tSl tyVersion 51) 72) [.slice A19 x0.Segments.length c20] x0.Segments
 let I10 : It := iBox p15 26 [.slice A4 x0.Segments.length c5, .int .i64 x0.Now]
 refine sb 0 [.slice A19 x0.Segments.length c20, .int .i64 x0.Now] [I9, iBox p16 26 [.slice none 0 0, .int .i64 0], I10] (fun W hm => hm) type26 ?_
 refine nt' (CM_seq (sr ?_))
 refine wv (fun W hm => rv_loadN (cs := [.slice A4 x0.Segments.length c5, .int .i64 x0.Now]) underlying26 type26 rfl rfl (hm.boxCells (n := 3) rfl)) ?_
 refine wcv (cl_fn cb12 rfl) (fun W hm => spec_IsStore_c W _ x0 (tyStore_mk (x := x0) (hm.rdS0 r7)) s_0) ?_
 refine wv vnot ?_
 refine nt' ?_
 rcases Bool.eq_false_or_eq_true (spec_IsStore_m x0) with g25 | g25
 ·
  refine CM_condF rfl (nt g25) ?_
  refine CM_skip (QM_then (sr (wa (nt' (CM_seq (sr (wa (nt' (CM_block ?_)))))))))
  let F1 := fun k (s : Int × (List (List DVersion))) => spec_ReclaimStore_b1 x1 k s.1 s.2
  let R4 := rng (R := (DStore × Int)) F1
  let I11 : It := iBox p23 26 [.slice A19 x0.Segments.length c20, .int .i64 x0.Now]
  refine CM_loop (σ := Nat × (Int × (List (List DVersion))) × (Unit)) (fun s => [(1, .slice A9 x1.length c10), (2, .pointer (some (⟨p15, 0, none⟩ : Addr))), (4, .pointer (some (⟨p16, 0, none⟩ : Addr))), (6, .pointer (some (⟨p23, 0, none⟩ : Addr))), (7, .int .i64 s.2.1.1), (8, .int .i64 ((s.1 : Nat) : Int))]) (fun s => [I11, iOwn (tSl (tSl tyVersion 51) 72) [.slice A19 x0.Segments.length c20] s.2.1.2, iBox p16 26 [.slice none 0 0, .int .i64 0], I10]) (fun s => s.1 ≤ x0.Segments.length ∧ R4 (x0.Segments.length - s.1) s.1 s.2.1 = R4 (x0.Segments.length - 0) 0 (0, x0.Segments) ∧ ∀ j, s.1 ≤ j → gt s.2.1.2 j = gt x0.Segments j) (fun s => x0.Segments.length - s.1) (0, (0, x0.Segments), ()) sl6 (fun W hm => hm) ⟨(by omega), rfl, (fun _ _ => rfl)⟩ ?_
  rintro ⟨k26, ⟨s27, d28⟩, ⟨⟩⟩ H31
  obtain ⟨hk29, hF30, hi32⟩ : k26 ≤ x0.Segments.length ∧ R4 (x0.Segments.length - k26) k26 (s27, d28) = R4 (x0.Segments.length - 0) 0 (0, x0.Segments) ∧ ∀ j, k26 ≤ j → gt d28 j = gt x0.Segments j := H31
  let I12 : It := iOwn (tSl (tSl tyVersion 51) 72) [.slice A19 x0.Segments.length c20] d28
  show CM Try.prog 78 _ _ _ _ [(1, .slice A9 x1.length c10), (2, .pointer (some (⟨p15, 0, none⟩ : Addr))), (4, .pointer (some (⟨p16, 0, none⟩ : Addr))), (6, .pointer (some (⟨p23, 0, none⟩ : Addr))), (7, .int .i64 s27), (8, .int .i64 ((k26 : Nat) : Int))] [I11, I12, iBox p16 26 [.slice none 0 0, .int .i64 0], I10]
  refine CM_seq (sr (wm ?_))
  refine wv (vf underlying26 rfl type24) ?_
  refine wv (vl 3 0 underlying24) ?_
  refine wv (vlen underlying24) ?_
  refine wv vlss ?_
  refine nt' ?_
  by_cases hl33 : k26 < x0.Segments.length
  ·have g34 := dlT hl33
   have hq1 : (gt d28 k26).length ≤ 68719476736 := by rw [hi32 k26 (Nat.le_refl _)]; exact (s_0.2 _ (gt_mem (by omega))).1
   refine CM_condT rfl g34 ?_
   refine CM_skip (QM_then (CM_seq (CM_block (sr ?_))))
   refine WM_build0 (E := tyVersion) underlying72 type51 (Wd_none rfl) (by decide) (fun p35 => ?_)
   refine wa (nt' (CM_seq (sr (wa (nt' (CM_block ?_))))))
   refine CM_formO (n := 2) rfl (by omega) ?_
   rintro g37 rfl
   let K7 : List Value := [.slice (some ⟨g37, 0, none⟩) x0.Segments.length c20, .int .i64 x0.Now]
   refine CM_focus (E := (tSl tyVersion 51)) (e := 72) (A := (some ⟨g37, 0, none⟩)) (n := x0.Segments.length) (c := c20) (xs := d28) (k := k26) (js := [iOwn (tSl tyVersion 51) [.slice (some ⟨p35, 0, none⟩) 0 0] [], iBox p23 26 K7, iBox p16 26 [.slice none 0 0, .int .i64 0], I10]) (by omega) (pk [2, 0, 1, 3, 4]) (fun ck38 => ?_)
   refine CM_split (γ := Value) (js := fun g => [iOwn (tSl tyVersion 51) [g] (gt d28 k26)]) (C := fun g => ck38 = [g]) (fun _ _ h => tSl_split h) ?_
   rintro v39 rfl
   refine CM_form (n := 0) rfl ?_
   rintro A40 c41 rfl m42
   refine CM_items (fun W hm => Mem.toRest hm) ?_
   let F2 := fun k (s : Int × (List DVersion)) => spec_ReclaimStore_b2 x1 k26 d28 k s.1 s.2
   let R5 := rng (R := (DStore × Int)) F2
   refine CM_loop (σ := Nat × (Int × (List DVersion)) × (Option Addr × Nat)) (fun s => [(1, .slice A9 x1.length c10), (2, .pointer (some (⟨p15, 0, none⟩ : Addr))), (4, .pointer (some (⟨p16, 0, none⟩ : Addr))), (6, .pointer (some (⟨p23, 0, none⟩ : Addr))), (7, .int .i64 s.2.1.1), (8, .int .i64 ((k26 : Nat) : Int)), (9, .slice s.2.2.1 s.2.1.2.length s.2.2.2), (10, .int .i64 ((s.1 : Nat) : Int))]) (fun s => [iRest tyVersion 51 A40 ((gt d28 k26).length) (gt d28 k26) s.1, iFoc (tSl tyVersion 51) 72 (some ⟨g37, 0, none⟩) x0.Segments.length c20 d28 k26 [.slice A40 (gt d28 k26).length c41], iOwn (tSl tyVersion 51) [.slice s.2.2.1 s.2.1.2.length s.2.2.2] s.2.1.2, iBox p23 26 K7, iBox p16 26 [.slice none 0 0, .int .i64 0], I10]) (fun s => s.1 ≤ (gt d28 k26).length ∧ R5 ((gt d28 k26).length - s.1) s.1 s.2.1 = R5 ((gt d28 k26).length - 0) 0 (s27, []) ∧ s.2.1.2.length ≤ 0 + s.1) (fun s => (gt d28 k26).length - s.1) (0, (s27, []), ((some ⟨p35, 0, none⟩), 0)) sl8 (fun W hm => hm) ⟨(by omega), rfl, Nat.le_refl _⟩ ?_
   rintro ⟨k44, ⟨s45, d46⟩, ⟨A47, c48⟩⟩ H51
   obtain ⟨hk49, hF50, hi52⟩ : k44 ≤ (gt d28 k26).length ∧ R5 ((gt d28 k26).length - k44) k44 (s45, d46) = R5 ((gt d28 k26).length - 0) 0 (s27, []) ∧ d46.length ≤ 0 + k44 := H51
   let I13 : It := iOwn (tSl tyVersion 51) [.slice A47 d46.length c48] d46
   show CM Try.prog 78 _ _ _ _ [(1, .slice A9 x1.length c10), (2, .pointer (some (⟨p15, 0, none⟩ : Addr))), (4, .pointer (some (⟨p16, 0, none⟩ : Addr))), (6, .pointer (some (⟨p23, 0, none⟩ : Addr))), (7, .int .i64 s45), (8, .int .i64 ((k26 : Nat) : Int)), (9, .slice A47 d46.length c48), (10, .int .i64 ((k44 : Nat) : Int))] [iRest tyVersion 51 A40 ((gt d28 k26).length) (gt d28 k26) k44, iFoc (tSl tyVersion 51) 72 (some ⟨g37, 0, none⟩) x0.Segments.length c20 d28 k26 [.slice A40 (gt d28 k26).length c41], I13, iBox p23 26 K7, iBox p16 26 [.slice none 0 0, .int .i64 0], I10]
   refine CM_seq (sr (wm ?_))
   refine wv (vf underlying26 rfl type24) ?_
   refine wv (vl 3 0 underlying24) ?_
   refine wm ?_
   refine wv (vix 1 k26 underlying24 type72) ?_
   refine wv (fun W hm => rv_load underlying72 rfl rfl (hm.focInt (i := 1) rfl rfl)) ?_
   refine wv (vlen underlying72) ?_
   refine wv vlss ?_
   refine nt' ?_
   by_cases hl53 : k44 < (gt d28 k26).length
   ·have g54 := dlT hl53
    refine CM_condT rfl g54 ?_
    refine CM_skip (QM_then (CM_seq (CM_block (sr ?_))))
    refine wv (vf underlying26 rfl type24) ?_
    refine wv (vl 3 0 underlying24) ?_
    refine wm ?_
    refine wv (vix 1 k26 underlying24 type72) ?_
    refine wv (fun W hm => rv_load underlying72 rfl rfl (hm.focInt (i := 1) rfl rfl)) ?_
    refine wm ?_
    refine WM_formR (n := 0) rfl (by omega) ?_
    rintro g55 rfl
    refine wv (vix 4 k44 underlying72 type51) ?_
    refine WM_pop (E := tyVersion) (e := 51) (A := (some ⟨g55, 0, none⟩)) (n := (gt d28 k26).length) (xs := (gt d28 k26)) (k := k44) (js := [iFoc (tSl tyVersion 51) 72 (some ⟨g37, 0, none⟩) x0.Segments.length c20 d28 k26 [.slice (some ⟨g55, 0, none⟩) (gt d28 k26).length c41], I13, iBox p23 26 K7, iBox p16 26 [.slice none 0 0, .int .i64 0], I10]) (by omega) (fun W hm => hm) (fun ck56 => ?_)
    refine tyVersion_sp ?_
    rintro v57 rfl
    refine WM_form (n := 0) rfl ?_
    rintro A58 c59 rfl m60
    let K8 : List Value := [.int .i64 ((gt (gt d28 k26) k44).Id), .slice A58 ((gt (gt d28 k26) k44).Values).length c59, .int .i64 ((gt (gt d28 k26) k44).Born), .int .i64 ((gt (gt d28 k26) k44).Died)]
    refine wv (fun W hm => rv_loadN (cs := K8) underlying51 type51 rfl rfl (hm.restCells (i := 1) rfl rfl)) ?_
    refine WM_alloc type51 rfl (Wd_none rfl) (by decide) (fun p62 => ?_)
    let I14 : It := iOwn (tSl tInt 3) [.slice A58 ((gt (gt d28 k26) k44).Values).length c59] ((gt (gt d28 k26) k44).Values)
    refine sb 0 K8 [I14, iRestF tyVersion 51 (some ⟨g55, 0, none⟩) ((gt d28 k26).length) (gt d28 k26) k44 K8, iFoc (tSl tyVersion 51) 72 (some ⟨g37, 0, none⟩) x0.Segments.length c20 d28 k26 [.slice (some ⟨g55, 0, none⟩) (gt d28 k26).length c41], I13, iBox p23 26 K7, iBox p16 26 [.slice none 0 0, .int .i64 0], I10] (fun W hm => hm) type51 ?_
    refine nt' (sr ?_)
    refine wv (vf underlying51 rfl type3) ?_
    refine wv (vl 0 3 underlying3) ?_
    refine wv (fun W hm => rv_eql rfl rfl) ?_
    refine wa (nt' (CM_seq (sr (wa (nt' (CM_block ?_))))))
    let F3 := fun k (s : Bool) => spec_ReclaimStore_b3 x1 k26 d28 k44 k s
    let R6 := rng (R := (DStore × Int)) F3
    refine CM_loop (σ := Nat × (Bool) × (Unit)) (fun s => [(1, .slice A9 x1.length c10), (2, .pointer (some (⟨p15, 0, none⟩ : Addr))), (4, .pointer (some (⟨p16, 0, none⟩ : Addr))), (6, .pointer (some (⟨p23, 0, none⟩ : Addr))), (7, .int .i64 s45), (8, .int .i64 ((k26 : Nat) : Int)), (9, .slice A47 d46.length c48), (10, .int .i64 ((k44 : Nat) : Int)), (11, .pointer (some (⟨p62, 0, none⟩ : Addr))), (12, .bool s.2.1), (13, .int .i64 ((s.1 : Nat) : Int))]) (fun s => [iBox p62 51 K8, I14, iRestF tyVersion 51 (some ⟨g55, 0, none⟩) ((gt d28 k26).length) (gt d28 k26) k44 K8, iFoc (tSl tyVersion 51) 72 (some ⟨g37, 0, none⟩) x0.Segments.length c20 d28 k26 [.slice (some ⟨g55, 0, none⟩) (gt d28 k26).length c41], I13, iBox p23 26 K7, iBox p16 26 [.slice none 0 0, .int .i64 0], I10]) (fun s => s.1 ≤ x1.length ∧ R6 (x1.length - s.1) s.1 s.2.1 = R6 (x1.length - 0) 0 (((gt (gt d28 k26) k44).Died) == (-1))) (fun s => x1.length - s.1) (0, (((gt (gt d28 k26) k44).Died) == (-1)), ()) sl11 (fun W hm => hm) ⟨(by omega), rfl⟩ ?_
    rintro ⟨k63, s64, ⟨⟩⟩ H67
    obtain ⟨hk65, hF66⟩ : k63 ≤ x1.length ∧ R6 (x1.length - k63) k63 s64 = R6 (x1.length - 0) 0 (((gt (gt d28 k26) k44).Died) == (-1)) := H67
    show CM Try.prog 78 _ _ _ _ [(1, .slice A9 x1.length c10), (2, .pointer (some (⟨p15, 0, none⟩ : Addr))), (4, .pointer (some (⟨p16, 0, none⟩ : Addr))), (6, .pointer (some (⟨p23, 0, none⟩ : Addr))), (7, .int .i64 s45), (8, .int .i64 ((k26 : Nat) : Int)), (9, .slice A47 d46.length c48), (10, .int .i64 ((k44 : Nat) : Int)), (11, .pointer (some (⟨p62, 0, none⟩ : Addr))), (12, .bool s64), (13, .int .i64 ((k63 : Nat) : Int))] [iBox p62 51 K8, I14, iRestF tyVersion 51 (some ⟨g55, 0, none⟩) ((gt d28 k26).length) (gt d28 k26) k44 K8, iFoc (tSl tyVersion 51) 72 (some ⟨g37, 0, none⟩) x0.Segments.length c20 d28 k26 [.slice (some ⟨g55, 0, none⟩) (gt d28 k26).length c41], I13, iBox p23 26 K7, iBox p16 26 [.slice none 0 0, .int .i64 0], I10]
    refine CM_seq (sr (wm (wm ?_)))
    refine wv (vlen underlying27) ?_
    refine wv vlss ?_
    refine nt' ?_
    by_cases hl68 : k63 < x1.length
    ·have g69 := dlT hl68
     refine CM_condT rfl g69 ?_
     refine CM_skip (QM_then (CM_seq (CM_block ?_)))
     refine CM_regionD (by kernel_rfl) (by kernel_rfl) ?_
     refine qm (qm ?_)
     rcases Bool.eq_false_or_eq_true s64 with g71 | g71
     ·
      refine qs g71 ?_
      refine qs g71 ?_
      refine qs g71 ?_
      refine qs g71 ?_
      refine qs g71 ?_
      refine qs g71 ?_
      refine qv (vpT g71) ?_
      refine qv (fun W hm => rv_assign rfl) ?_
      refine QR_nil (QM_block_normal (QM_then (CM_region (wm ?_))))
      refine wv (vadN k63 1 (by omega)) ?_
      refine wa (WM_nil ?_)
      have hn72 := rng_next (R := (DStore × Int)) (body := F3) (k := k63) (s := s64) (s' := true) (show k63 < x1.length from by omega) (cond_t g71 (rfl)) hF66
      exact QM_round (k63 + 1, true, ()) sl11 (fun W hm => hm) ⟨(by omega), hn72⟩ (rl (by omega))
     ·
      refine qg (fun W hm => rv_loadN (cs := K8) underlying51 type51 rfl rfl (hm.boxCells (n := 0) rfl)) g71 ?_
      refine qg vmv g71 ?_
      refine qg vmv g71 ?_
      obtain ⟨a73, rfl, hb74, he75⟩ := q11 (by omega)
      refine qg (vix 1 k63 underlying27 type3) g71 ?_
      refine qg (fun W hm => rv_load underlying3 rfl rfl ((hm.cell0 (show (a73.add (k63 * 1)).block < w.heap.size from by rw [add_block]; exact hb74.1)).trans (rdS_int he75 k63 (by omega)))) g71 ?_
      refine QR_callV (cl_fn cb27 rfl) (fun W hm => spec_IsVisible_c W _ (gt (gt d28 k26) k44) (gt x1 k63) (tyVersion_mk (x := (gt (gt d28 k26) k44)) (hm.rdSI (n := 1) rfl))) (Wd_some rfl rfl rfl (bw g71 rfl)) (by decide) ?_
      refine qv (vpF g71) ?_
      refine qv (fun W hm => rv_assign rfl) ?_
      refine QR_nil (QM_block_normal (QM_then (CM_region (wm ?_))))
      refine wv (vadN k63 1 (by omega)) ?_
      refine wa (WM_nil ?_)
      have hn76 := rng_next (R := (DStore × Int)) (body := F3) (k := k63) (s := s64) (s' := (spec_IsVisible_m (gt (gt d28 k26) k44) (gt x1 k63))) (show k63 < x1.length from by omega) (cond_f g71 (rfl)) hF66
      exact QM_round (k63 + 1, (spec_IsVisible_m (gt (gt d28 k26) k44) (gt x1 k63)), ()) sl11 (fun W hm => hm) ⟨(by omega), hn76⟩ (rl (by omega))
    ·have g69 := dlF hl68
     refine CM_condF rfl g69 ?_
     refine CM_exit (QM_then_exit (QM_then_exit ?_))
     have hE77 : R6 (x1.length - 0) 0 (((gt (gt d28 k26) k44).Died) == (-1)) = Sum.inr s64 := rng_end hl68 hF66
     refine QM_block_hit (QM_then (sr (wm (nt' ?_))))
     rcases Bool.eq_false_or_eq_true s64 with g79 | g79
     ·
      refine CM_condT rfl g79 ?_
      refine CM_region (wm ?_)
      refine wv (fun W hm => rv_loadN (cs := K8) underlying51 type51 rfl rfl (hm.boxCells (n := 0) rfl)) ?_
      refine WM_build (cs := K8) underlying72 type51 rfl (by decide) (by decide) rfl (by kernel_rfl) (Wd_none rfl) (by decide) (fun p80 => ?_)
      refine ap1 tyVersion 51 (.slice A47 d46.length c48) d46 (gt (gt d28 k26) k44) [I14] [iBox p62 51 K8, iRestF tyVersion 51 (some ⟨g55, 0, none⟩) ((gt d28 k26).length) (gt d28 k26) k44 K8, iFoc (tSl tyVersion 51) 72 (some ⟨g37, 0, none⟩) x0.Segments.length c20 d28 k26 [.slice (some ⟨g55, 0, none⟩) (gt d28 k26).length c41], iBox p23 26 K7, iBox p16 26 [.slice none 0 0, .int .i64 0], I10] K8 (pk [0, 5, 2, 1, 3, 4, 6, 7, 8]) (fun _ _ hs => Els.single (tyVersion_join (x := (gt (gt d28 k26) k44)) hs)) underlying72 type51 (show (d46.length + 1) * 48 ≤ 140737488355328 from by omega) (fun v81 => ?_)
      refine WM_form (n := 0) rfl ?_
      rintro A82 c83 rfl m84
      refine wa (WM_nil (QM_block_normal (QM_then (CM_region (wm ?_)))))
      refine wv (vadN k44 1 (by omega)) ?_
      refine wa (WM_nil ?_)
      refine QM_items (fun W hm => Mem.restNext (hm.pick [2, 0, 1, 3, 4, 5, 6] (by decide))) ?_
      have hn86 := rng_next (R := (DStore × Int)) (body := F2) (k := k44) (s := (s45, d46)) (s' := (s45, (d46 ++ [(gt (gt d28 k26) k44)]))) (show k44 < (gt d28 k26).length from by omega) (fin_inr hE77 (cond_t g79 (rfl))) hF50
      exact QM_round (k44 + 1, (s45, (d46 ++ [(gt (gt d28 k26) k44)])), (A82, c83)) sl8 (pk [0, 3, 1, 4, 5, 6]) ⟨(by omega), hn86, (show (d46 ++ [(gt (gt d28 k26) k44)]).length ≤ 0 + (k44 + 1) from by first | omega | (simp only [List.length_append, List.length_cons, List.length_nil] at *; omega))⟩ (show (gt d28 k26).length - (k44 + 1) < (gt d28 k26).length - k44 from by omega)
     ·
      refine CM_condF rfl g79 ?_
      refine CM_region (wm ?_)
      refine wv vadd ?_
      refine wa (WM_nil (QM_block_normal (QM_then (CM_region (wm ?_)))))
      refine wv (vadN k44 1 (by omega)) ?_
      refine wa (WM_nil ?_)
      refine QM_items (fun W hm => Mem.restNext (hm.pick [2, 0, 1, 3, 4, 5, 6, 7] (by decide))) ?_
      have hn87 := rng_next (R := (DStore × Int)) (body := F2) (k := k44) (s := (s45, d46)) (s' := ((IntKind.i64.wrap (s45 + 1)), d46)) (show k44 < (gt d28 k26).length from by omega) (fin_inr hE77 (cond_f g79 (rfl))) hF50
      exact QM_round (k44 + 1, ((IntKind.i64.wrap (s45 + 1)), d46), (A47, c48)) sl8 (pk [0, 3, 4, 5, 6, 7]) ⟨(by omega), hn87, (show d46.length ≤ 0 + (k44 + 1) from by first | omega | (simp only [List.length_append, List.length_cons, List.length_nil] at *; omega))⟩ (show (gt d28 k26).length - (k44 + 1) < (gt d28 k26).length - k44 from by omega)
   ·have g54 := dlF hl53
    refine CM_condF rfl g54 ?_
    refine CM_exit (QM_then_exit (QM_then_exit ?_))
    have hE88 : R5 ((gt d28 k26).length - 0) 0 (s27, []) = Sum.inr (s45, d46) := rng_end hl53 hF50
    refine QM_block_hit (QM_then (CM_region ?_))
    refine wv (vf underlying26 rfl type24) ?_
    refine wv (vl 3 0 underlying24) ?_
    refine wm (wm ?_)
    refine wv (vix 1 k26 underlying24 type72) ?_
    refine sf 0 1 [.slice A47 d46.length c48] [iRest tyVersion 51 A40 ((gt d28 k26).length) (gt d28 k26) k44, I13, iBox p23 26 K7, iBox p16 26 [.slice none 0 0, .int .i64 0], I10] (pk [1, 0, 2, 3, 4, 5]) type72 ?_
    refine WM_nil (QM_block_normal (QM_then (CM_region (wm ?_))))
    refine wv (vadN k26 1 (by omega)) ?_
    refine wa (WM_nil ?_)
    refine QM_items (fun W hm => Mem.unfocus (Mem.join (is := [I13]) (js := (iFoc (tSl tyVersion 51) 72 (some ⟨g37, 0, none⟩) x0.Segments.length c20 d28 k26 [.slice A47 d46.length c48] :: [iRest tyVersion 51 A40 ((gt d28 k26).length) (gt d28 k26) k44, iBox p23 26 K7, iBox p16 26 [.slice none 0 0, .int .i64 0], I10])) (fun _ _ hs => Sep.one hs) (hm.pick [2, 0, 1, 3, 4, 5] (by decide)))) ?_
    have hn89 := rng_next (R := (DStore × Int)) (body := F1) (k := k26) (s := (s27, d28)) (s' := (s45, (d28.set k26 d46))) (show k26 < x0.Segments.length from by omega) (fin_inr hE88 (rfl)) hF30
    exact QM_round (k26 + 1, (s45, (d28.set k26 d46)), ()) sl6 (pk [2, 0, 3, 4]) ⟨(by omega), hn89, (show ∀ j, (k26 + 1) ≤ j → gt (d28.set k26 d46) j = gt x0.Segments j from by intro j hj; rw [gt_set_ne (by omega)]; exact hi32 j (by omega))⟩ (rl (by omega))
  ·have g34 := dlF hl33
   refine CM_condF rfl g34 ?_
   refine CM_exit (QM_then_exit (QM_then_exit ?_))
   have hE90 : R4 (x0.Segments.length - 0) 0 (0, x0.Segments) = Sum.inr (s27, d28) := rng_end hl33 hF30
   refine QM_block_hit (QM_then (sr ?_))
   refine wv (fun W hm => rv_loadN (cs := [.slice A19 x0.Segments.length c20, .int .i64 x0.Now]) underlying26 type26 rfl rfl (hm.boxCells (n := 0) rfl)) ?_
   refine wm ?_
   refine sb 0 [.slice A19 x0.Segments.length c20, .int .i64 x0.Now] [I11, I12, I10] (pk [2, 0, 1, 3]) type26 ?_
   refine wa (nt' (CM_ret ?_))
   have he91 := (show spec_ReclaimStore_m x0 x1 = ((⟨d28, x0.Now⟩ : DStore), s27) from cond_t g25 (fin_inr hE90 (rfl)))
   refine QM_r2 rfl (RR_cell (n := 0) rfl rfl underlying26 type26 rfl) (RR_tmp rfl) (fun W hm => ⟨[.slice A19 x0.Segments.length c20, .int .i64 x0.Now], ?_, ?_⟩)
   ·first | rw [he91] | rfl
    try rfl
   ·rw [he91]; exact Mem.join (is := [I12]) (js := []) (fun _ _ hs => tyStore_join (x := (⟨d28, x0.Now⟩ : DStore)) hs) (hm.pick [2] (by decide))
 ·
  refine CM_condT rfl (nf g25) ?_
  refine sr ?_
  refine wv (fun W hm => rv_loadN (cs := [.slice A19 x0.Segments.length c20, .int .i64 x0.Now]) underlying26 type26 rfl rfl (hm.boxCells (n := 0) rfl)) ?_
  refine sb 0 [.slice A19 x0.Segments.length c20, .int .i64 x0.Now] [iBox p23 26 [.slice A19 x0.Segments.length c20, .int .i64 x0.Now], I9, I10] (pk [2, 0, 1, 3]) type26 ?_
  refine wa (nt' (CM_ret (QM_then_ret ?_)))
  have he92 := (show spec_ReclaimStore_m x0 x1 = (x0, 0) from cond_f g25 (rfl))
  refine QM_r2 rfl (RR_cell (n := 0) rfl rfl underlying26 type26 rfl) (RR_tmp rfl) (fun W hm => ⟨[.slice A19 x0.Segments.length c20, .int .i64 x0.Now], ?_, ?_⟩)
  ·first | rw [he92] | rfl
   try rfl
  ·rw [he92]; exact Mem.join (is := [I9]) (js := []) (fun _ _ hs => tyStore_join (x := x0) hs) (hm.pick [2] (by decide))

def spec_l2Ints_b1 (x0 : (List Int)) (x1 : (List Int)) (k13 : Nat) : Bool ⊕ (Unit) :=
 cond ((gt x0 k13) != (gt x1 k13)) (Sum.inl false) (Sum.inr ())
def spec_l2Ints_m (x0 : (List Int)) (x1 : (List Int)) : Bool :=
 cond (((x0.length : Nat) : Int) != ((x1.length : Nat) : Int)) false (Sum.elim id (fun (s : Unit) => true) (rng (R := Bool) (fun k (_ : Unit) => spec_l2Ints_b1 x0 x1 k) (x0.length - 0) 0 ()))
theorem cb74 : Cb Try.prog 74 := ⟨f74, _, func74, rfl, by decide⟩
theorem spec_l2Ints_c (w : World) (z0 : Value) (x0 : (List Int)) (z1 : Value) (x1 : (List Int)) (r_0 : rdS tInt w w.heap.size z0 x0) (r_1 : rdS tInt w w.heap.size z1 x1) :
  Calls Try.prog 74 #[z0, z1] w fun e w' => e = .returned (.bool (spec_l2Ints_m x0 x1)) ∧ Below w.heap.size w w' := by
 obtain ⟨m1, A2, c3, rfl, q4, r5⟩ := rdS_op r_0
 obtain ⟨m6, A7, c8, rfl, q9, r10⟩ := rdS_op r_1
 refine ce2 (L := [(0, .slice A2 x0.length c3), (1, .slice A7 x1.length c8)]) (N := 26) func74 ?_
 refine sr (wa (nt' (CM_seq (sr (wm ?_)))))
 refine wv (vlen underlying27) ?_
 refine wm ?_
 refine wv (vlen underlying27) ?_
 refine wv vneq ?_
 refine nt' ?_
 by_cases h11 : ((x0.length : Nat) : Int) = ((x1.length : Nat) : Int)
 ·have g12 : (((x0.length : Nat) : Int) != ((x1.length : Nat) : Int)) = false := by rw [h11]; exact bne_self_eq_false _
  refine CM_condF rfl g12 ?_
  refine CM_skip (QM_then (CM_seq (sr (wa (nt' (CM_block ?_))))))
  let F1 := fun k (_ : Unit) => spec_l2Ints_b1 x0 x1 k
  let R2 := rng (R := Bool) F1
  refine CM_loop (σ := Nat × (Unit) × (Unit)) (fun s => [(0, .slice A2 x0.length c3), (1, .slice A7 x1.length c8), (5, .int .i64 ((s.1 : Nat) : Int))]) (fun s => []) (fun s => s.1 ≤ x0.length ∧ R2 (x0.length - s.1) s.1 s.2.1 = R2 (x0.length - 0) 0 ()) (fun s => x0.length - s.1) (0, (), ()) sl3 (fun W hm => hm) ⟨(by omega), rfl⟩ ?_
  rintro ⟨k13, ⟨⟩, ⟨⟩⟩ H16
  obtain ⟨hk14, hF15⟩ : k13 ≤ x0.length ∧ R2 (x0.length - k13) k13 () = R2 (x0.length - 0) 0 () := H16
  show CM Try.prog 26 _ _ _ _ [(0, .slice A2 x0.length c3), (1, .slice A7 x1.length c8), (5, .int .i64 ((k13 : Nat) : Int))] []
  refine CM_seq (sr (wm (wm ?_)))
  refine wv (vlen underlying27) ?_
  refine wv vlss ?_
  refine nt' ?_
  by_cases hl17 : k13 < x0.length
  ·have g18 := dlT hl17
   refine CM_condT rfl g18 ?_
   refine CM_skip (QM_then (CM_seq (CM_block (CM_seq ?_))))
   refine CM_regionD (by kernel_rfl) (by kernel_rfl) ?_
   refine qm (qm ?_)
   obtain ⟨a19, rfl, hb20, he21⟩ := q4 (by omega)
   refine qv (vix 1 k13 underlying27 type3) ?_
   refine qv (fun W hm => rv_load underlying3 rfl rfl ((hm.cell0 (show (a19.add (k13 * 1)).block < w.heap.size from by rw [add_block]; exact hb20.1)).trans (rdS_int he21 k13 (by omega)))) ?_
   refine qm (qm ?_)
   obtain ⟨a22, rfl, hb23, he24⟩ := q9 (by omega)
   refine qv (vix 1 k13 underlying27 type3) ?_
   refine qv (fun W hm => rv_load underlying3 rfl rfl ((hm.cell0 (show (a22.add (k13 * 1)).block < w.heap.size from by rw [add_block]; exact hb23.1)).trans (rdS_int he24 k13 (by omega)))) ?_
   refine qv vneq ?_
   refine nq' ?_
   by_cases h25 : (gt x0 k13) = (gt x1 k13)
   ·have g26 : ((gt x0 k13) != (gt x1 k13)) = false := by rw [h25]; exact bne_self_eq_false _
    refine CM_condF rfl g26 ?_
    refine CM_skip (QM_block_normal (QM_then (CM_region (wm ?_))))
    refine wv (vadN k13 1 (by omega)) ?_
    refine wa (WM_nil ?_)
    have hn27 := rng_next (R := Bool) (body := F1) (k := k13) (s := ()) (s' := ()) (show k13 < x0.length from by omega) (cond_f g26 (rfl)) hF15
    exact QM_round (k13 + 1, (), ()) sl3 (fun W hm => hm) ⟨(by omega), hn27⟩ (rl (by omega))
   ·have g26 : ((gt x0 k13) != (gt x1 k13)) = true := bne_iff_ne.2 h25
    refine CM_condT rfl g26 ?_
    refine sr (wa (nt' (CM_ret (QM_block_ret (QM_then_ret (QM_then_ret (QM_block_ret (QM_then_ret ?_))))))))
    exact rtb (h := cond_f g12 (fin_inl (rng_ret (body := F1) (k := k13) (s := ()) (show k13 < x0.length from by omega) (cond_t g26 (rfl)) hF15) rfl))
  ·have g18 := dlF hl17
   refine CM_condF rfl g18 ?_
   refine CM_exit (QM_then_exit (QM_then_exit ?_))
   have hE28 : R2 (x0.length - 0) 0 () = Sum.inr () := rng_end hl17 hF15
   refine QM_block_hit (QM_then (sr (wa (nt' (CM_ret ?_)))))
   exact rtb (h := cond_f g12 (fin_inr hE28 (rfl)))
 ·have g12 : (((x0.length : Nat) : Int) != ((x1.length : Nat) : Int)) = true := bne_iff_ne.2 h11
  refine CM_condT rfl g12 ?_
  refine sr (wa (nt' (CM_ret (QM_then_ret ?_))))
  exact rtb (h := cond_t g12 (rfl))

def spec_l7Same_b1 (x0 : (List DVersion)) (x1 : (List DVersion)) (k13 : Nat) : Bool ⊕ (Unit) :=
 cond (((gt x0 k13).Id) != ((gt x1 k13).Id)) (Sum.inl false) (cond (((gt x0 k13).Born) != ((gt x1 k13).Born)) (Sum.inl false) (cond (((gt x0 k13).Died) != ((gt x1 k13).Died)) (Sum.inl false) (cond (spec_l2Ints_m ((gt x0 k13).Values) ((gt x1 k13).Values)) (Sum.inr ()) (Sum.inl false))))
def spec_l7Same_m (x0 : (List DVersion)) (x1 : (List DVersion)) : Bool :=
 cond (((x0.length : Nat) : Int) != ((x1.length : Nat) : Int)) false (Sum.elim id (fun (s : Unit) => true) (rng (R := Bool) (fun k (_ : Unit) => spec_l7Same_b1 x0 x1 k) (x0.length - 0) 0 ()))
theorem cb45 : Cb Try.prog 45 := ⟨f45, _, func45, rfl, by decide⟩
theorem spec_l7Same_c (w : World) (z0 : Value) (x0 : (List DVersion)) (z1 : Value) (x1 : (List DVersion)) (r_0 : rdS tyVersion w w.heap.size z0 x0) (r_1 : rdS tyVersion w w.heap.size z1 x1) :
  Calls Try.prog 45 #[z0, z1] w fun e w' => e = .returned (.bool (spec_l7Same_m x0 x1)) ∧ Below w.heap.size w w' := by
 obtain ⟨m1, A2, c3, rfl, q4, r5⟩ := rdS_op r_0
 obtain ⟨m6, A7, c8, rfl, q9, r10⟩ := rdS_op r_1
 refine ce2 (L := [(0, .slice A2 x0.length c3), (1, .slice A7 x1.length c8)]) (N := 68) func45 ?_
 refine sr (wa (nt' (CM_seq (sr (wm ?_)))))
 refine wv (vlen underlying72) ?_
 refine wm ?_
 refine wv (vlen underlying72) ?_
 refine wv vneq ?_
 refine nt' ?_
 by_cases h11 : ((x0.length : Nat) : Int) = ((x1.length : Nat) : Int)
 ·have g12 : (((x0.length : Nat) : Int) != ((x1.length : Nat) : Int)) = false := by rw [h11]; exact bne_self_eq_false _
  refine CM_condF rfl g12 ?_
  refine CM_skip (QM_then (CM_seq (sr (wa (nt' (CM_block ?_))))))
  let F1 := fun k (_ : Unit) => spec_l7Same_b1 x0 x1 k
  let R2 := rng (R := Bool) F1
  refine CM_loop (σ := Nat × (Unit) × (Unit)) (fun s => [(0, .slice A2 x0.length c3), (1, .slice A7 x1.length c8), (5, .int .i64 ((s.1 : Nat) : Int))]) (fun s => []) (fun s => s.1 ≤ x0.length ∧ R2 (x0.length - s.1) s.1 s.2.1 = R2 (x0.length - 0) 0 ()) (fun s => x0.length - s.1) (0, (), ()) sl3 (fun W hm => hm) ⟨(by omega), rfl⟩ ?_
  rintro ⟨k13, ⟨⟩, ⟨⟩⟩ H16
  obtain ⟨hk14, hF15⟩ : k13 ≤ x0.length ∧ R2 (x0.length - k13) k13 () = R2 (x0.length - 0) 0 () := H16
  show CM Try.prog 68 _ _ _ _ [(0, .slice A2 x0.length c3), (1, .slice A7 x1.length c8), (5, .int .i64 ((k13 : Nat) : Int))] []
  refine CM_seq (sr (wm (wm ?_)))
  refine wv (vlen underlying72) ?_
  refine wv vlss ?_
  refine nt' ?_
  by_cases hl17 : k13 < x0.length
  ·have g18 := dlT hl17
   refine CM_condT rfl g18 ?_
   refine CM_skip (QM_then (CM_seq (CM_block (CM_seq ?_))))
   refine CM_regionD (by kernel_rfl) (by kernel_rfl) ?_
   refine qm (qm ?_)
   obtain ⟨a19, rfl, hb20, he21⟩ := q4 (by omega)
   refine qv (vix 4 k13 underlying72 type51) ?_
   refine qv (vf underlying51 rfl type3) ?_
   obtain ⟨_, e25, hc22⟩ := he21 k13 _ (gt_some (show k13 < x0.length from by omega))
   obtain ⟨v23, rfl, r24⟩ := tyVersion_rd e25
   obtain ⟨m26, A27, c28, rfl, q29, r30⟩ := rdS_op r24
   refine qv (fun W hm => rv_load underlying3 rfl rfl ((hm.cell0 (show ((a19.add (k13 * 4)).add 0).block < w.heap.size from by rw [add_block, add_block]; exact hb20.1)).trans (hc22 0 _ rfl))) ?_
   refine qm (qm ?_)
   obtain ⟨a31, rfl, hb32, he33⟩ := q9 (by omega)
   refine qv (vix 4 k13 underlying72 type51) ?_
   refine qv (vf underlying51 rfl type3) ?_
   obtain ⟨_, e37, hc34⟩ := he33 k13 _ (gt_some (show k13 < x1.length from by omega))
   obtain ⟨v35, rfl, r36⟩ := tyVersion_rd e37
   obtain ⟨m38, A39, c40, rfl, q41, r42⟩ := rdS_op r36
   refine qv (fun W hm => rv_load underlying3 rfl rfl ((hm.cell0 (show ((a31.add (k13 * 4)).add 0).block < w.heap.size from by rw [add_block, add_block]; exact hb32.1)).trans (hc34 0 _ rfl))) ?_
   refine qv vneq ?_
   refine qm ?_
   by_cases h43 : ((gt x0 k13).Id) = ((gt x1 k13).Id)
   ·have g44 : (((gt x0 k13).Id) != ((gt x1 k13).Id)) = false := by rw [h43]; exact bne_self_eq_false _
    refine qg vmv g44 ?_
    refine qg vmv g44 ?_
    refine qg (vix 4 k13 underlying72 type51) g44 ?_
    refine qg (vf underlying51 rfl type3) g44 ?_
    refine qg (fun W hm => rv_load underlying3 rfl rfl ((hm.cell0 (show ((a19.add (k13 * 4)).add 2).block < w.heap.size from by rw [add_block, add_block]; exact hb20.1)).trans (hc22 2 _ rfl))) g44 ?_
    refine qg vmv g44 ?_
    refine qg vmv g44 ?_
    refine qg (vix 4 k13 underlying72 type51) g44 ?_
    refine qg (vf underlying51 rfl type3) g44 ?_
    refine qg (fun W hm => rv_load underlying3 rfl rfl ((hm.cell0 (show ((a31.add (k13 * 4)).add 2).block < w.heap.size from by rw [add_block, add_block]; exact hb32.1)).trans (hc34 2 _ rfl))) g44 ?_
    refine qg vneq g44 ?_
    refine qv (vpF g44) ?_
    refine qm ?_
    by_cases h45 : ((gt x0 k13).Born) = ((gt x1 k13).Born)
    ·have g46 : (((gt x0 k13).Born) != ((gt x1 k13).Born)) = false := by rw [h45]; exact bne_self_eq_false _
     refine qg vmv g46 ?_
     refine qg vmv g46 ?_
     refine qg (vix 4 k13 underlying72 type51) g46 ?_
     refine qg (vf underlying51 rfl type3) g46 ?_
     refine qg (fun W hm => rv_load underlying3 rfl rfl ((hm.cell0 (show ((a19.add (k13 * 4)).add 3).block < w.heap.size from by rw [add_block, add_block]; exact hb20.1)).trans (hc22 3 _ rfl))) g46 ?_
     refine qg vmv g46 ?_
     refine qg vmv g46 ?_
     refine qg (vix 4 k13 underlying72 type51) g46 ?_
     refine qg (vf underlying51 rfl type3) g46 ?_
     refine qg (fun W hm => rv_load underlying3 rfl rfl ((hm.cell0 (show ((a31.add (k13 * 4)).add 3).block < w.heap.size from by rw [add_block, add_block]; exact hb32.1)).trans (hc34 3 _ rfl))) g46 ?_
     refine qg vneq g46 ?_
     refine qv (vpF g46) ?_
     refine qm ?_
     by_cases h47 : ((gt x0 k13).Died) = ((gt x1 k13).Died)
     ·have g48 : (((gt x0 k13).Died) != ((gt x1 k13).Died)) = false := by rw [h47]; exact bne_self_eq_false _
      refine qg vmv g48 ?_
      refine qg vmv g48 ?_
      refine qg (vix 4 k13 underlying72 type51) g48 ?_
      refine qg (vf underlying51 rfl type27) g48 ?_
      refine qg (fun W hm => rv_load underlying27 rfl rfl ((hm.cell0 (show ((a19.add (k13 * 4)).add 1).block < w.heap.size from by rw [add_block, add_block]; exact hb20.1)).trans (hc22 1 _ rfl))) g48 ?_
      refine qg vmv g48 ?_
      refine qg vmv g48 ?_
      refine qg (vix 4 k13 underlying72 type51) g48 ?_
      refine qg (vf underlying51 rfl type27) g48 ?_
      refine qg (fun W hm => rv_load underlying27 rfl rfl ((hm.cell0 (show ((a31.add (k13 * 4)).add 1).block < w.heap.size from by rw [add_block, add_block]; exact hb32.1)).trans (hc34 1 _ rfl))) g48 ?_
      refine QR_callV (cl_fn cb74 rfl) (fun W hm => spec_l2Ints_c W _ ((gt x0 k13).Values) _ ((gt x1 k13).Values) (hm.rdS0 r30) (hm.rdS0 r42)) (Wd_some rfl rfl rfl (bw g48 rfl)) (by decide) ?_
      refine qg vnot g48 ?_
      refine qv (vpF g48) ?_
      refine nq' ?_
      rcases Bool.eq_false_or_eq_true (spec_l2Ints_m ((gt x0 k13).Values) ((gt x1 k13).Values)) with g50 | g50
      ·
       refine CM_condF rfl (nt g50) ?_
       refine CM_skip (QM_block_normal (QM_then (CM_region (wm ?_))))
       refine wv (vadN k13 1 (by omega)) ?_
       refine wa (WM_nil ?_)
       have hn51 := rng_next (R := Bool) (body := F1) (k := k13) (s := ()) (s' := ()) (show k13 < x0.length from by omega) (cond_f g44 (cond_f g46 (cond_f g48 (cond_t g50 (rfl))))) hF15
       exact QM_round (k13 + 1, (), ()) sl3 (fun W hm => hm) ⟨(by omega), hn51⟩ (rl (by omega))
      ·
       refine CM_condT rfl (nf g50) ?_
       refine sr (wa (nt' (CM_ret (QM_block_ret (QM_then_ret (QM_then_ret (QM_block_ret (QM_then_ret ?_))))))))
       exact rtb (h := cond_f g12 (fin_inl (rng_ret (body := F1) (k := k13) (s := ()) (show k13 < x0.length from by omega) (cond_f g44 (cond_f g46 (cond_f g48 (cond_f g50 (rfl))))) hF15) rfl))
     ·have g48 : (((gt x0 k13).Died) != ((gt x1 k13).Died)) = true := bne_iff_ne.2 h47
      refine qs g48 ?_
      refine qs g48 ?_
      refine qs g48 ?_
      refine qs g48 ?_
      refine qs g48 ?_
      refine qs g48 ?_
      refine qs g48 ?_
      refine qs g48 ?_
      refine qs g48 ?_
      refine qs g48 ?_
      refine qs g48 ?_
      refine qs g48 ?_
      refine qv (vpT g48) ?_
      refine nq' ?_
      refine CM_condT rfl rfl ?_
      refine sr (wa (nt' (CM_ret (QM_block_ret (QM_then_ret (QM_then_ret (QM_block_ret (QM_then_ret ?_))))))))
      exact rtb (h := cond_f g12 (fin_inl (rng_ret (body := F1) (k := k13) (s := ()) (show k13 < x0.length from by omega) (cond_f g44 (cond_f g46 (cond_t g48 (rfl)))) hF15) rfl))
    ·have g46 : (((gt x0 k13).Born) != ((gt x1 k13).Born)) = true := bne_iff_ne.2 h45
     refine qs g46 ?_
     refine qs g46 ?_
     refine qs g46 ?_
     refine qs g46 ?_
     refine qs g46 ?_
     refine qs g46 ?_
     refine qs g46 ?_
     refine qs g46 ?_
     refine qs g46 ?_
     refine qs g46 ?_
     refine qs g46 ?_
     refine qv (vpT g46) ?_
     refine qm ?_
     refine QR_skip (Wd_some rfl rfl rfl rfl) rfl (by decide) ?_
     refine QR_skip (Wd_some rfl rfl rfl rfl) rfl (by decide) ?_
     refine QR_skip (Wd_some rfl rfl rfl rfl) rfl (by decide) ?_
     refine QR_skip (Wd_some rfl rfl rfl rfl) rfl (by decide) ?_
     refine QR_skip (Wd_some rfl rfl rfl rfl) rfl (by decide) ?_
     refine QR_skip (Wd_some rfl rfl rfl rfl) rfl (by decide) ?_
     refine QR_skip (Wd_some rfl rfl rfl rfl) rfl (by decide) ?_
     refine QR_skip (Wd_some rfl rfl rfl rfl) rfl (by decide) ?_
     refine QR_skip (Wd_some rfl rfl rfl rfl) rfl (by decide) ?_
     refine QR_skip (Wd_some rfl rfl rfl rfl) rfl (by decide) ?_
     refine QR_skip (Wd_some rfl rfl rfl rfl) rfl (by decide) ?_
     refine QR_skip (Wd_some rfl rfl rfl rfl) rfl (by decide) ?_
     refine qv (vpT rfl) ?_
     refine nq' ?_
     refine CM_condT rfl rfl ?_
     refine sr (wa (nt' (CM_ret (QM_block_ret (QM_then_ret (QM_then_ret (QM_block_ret (QM_then_ret ?_))))))))
     exact rtb (h := cond_f g12 (fin_inl (rng_ret (body := F1) (k := k13) (s := ()) (show k13 < x0.length from by omega) (cond_f g44 (cond_t g46 (rfl))) hF15) rfl))
   ·have g44 : (((gt x0 k13).Id) != ((gt x1 k13).Id)) = true := bne_iff_ne.2 h43
    refine qs g44 ?_
    refine qs g44 ?_
    refine qs g44 ?_
    refine qs g44 ?_
    refine qs g44 ?_
    refine qs g44 ?_
    refine qs g44 ?_
    refine qs g44 ?_
    refine qs g44 ?_
    refine qs g44 ?_
    refine qs g44 ?_
    refine qv (vpT g44) ?_
    refine qm ?_
    refine QR_skip (Wd_some rfl rfl rfl rfl) rfl (by decide) ?_
    refine QR_skip (Wd_some rfl rfl rfl rfl) rfl (by decide) ?_
    refine QR_skip (Wd_some rfl rfl rfl rfl) rfl (by decide) ?_
    refine QR_skip (Wd_some rfl rfl rfl rfl) rfl (by decide) ?_
    refine QR_skip (Wd_some rfl rfl rfl rfl) rfl (by decide) ?_
    refine QR_skip (Wd_some rfl rfl rfl rfl) rfl (by decide) ?_
    refine QR_skip (Wd_some rfl rfl rfl rfl) rfl (by decide) ?_
    refine QR_skip (Wd_some rfl rfl rfl rfl) rfl (by decide) ?_
    refine QR_skip (Wd_some rfl rfl rfl rfl) rfl (by decide) ?_
    refine QR_skip (Wd_some rfl rfl rfl rfl) rfl (by decide) ?_
    refine QR_skip (Wd_some rfl rfl rfl rfl) rfl (by decide) ?_
    refine qv (vpT rfl) ?_
    refine qm ?_
    refine QR_skip (Wd_some rfl rfl rfl rfl) rfl (by decide) ?_
    refine QR_skip (Wd_some rfl rfl rfl rfl) rfl (by decide) ?_
    refine QR_skip (Wd_some rfl rfl rfl rfl) rfl (by decide) ?_
    refine QR_skip (Wd_some rfl rfl rfl rfl) rfl (by decide) ?_
    refine QR_skip (Wd_some rfl rfl rfl rfl) rfl (by decide) ?_
    refine QR_skip (Wd_some rfl rfl rfl rfl) rfl (by decide) ?_
    refine QR_skip (Wd_some rfl rfl rfl rfl) rfl (by decide) ?_
    refine QR_skip (Wd_some rfl rfl rfl rfl) rfl (by decide) ?_
    refine QR_skip (Wd_some rfl rfl rfl rfl) rfl (by decide) ?_
    refine QR_skip (Wd_some rfl rfl rfl rfl) rfl (by decide) ?_
    refine QR_skip (Wd_some rfl rfl rfl rfl) rfl (by decide) ?_
    refine QR_skip (Wd_some rfl rfl rfl rfl) rfl (by decide) ?_
    refine qv (vpT rfl) ?_
    refine nq' ?_
    refine CM_condT rfl rfl ?_
    refine sr (wa (nt' (CM_ret (QM_block_ret (QM_then_ret (QM_then_ret (QM_block_ret (QM_then_ret ?_))))))))
    exact rtb (h := cond_f g12 (fin_inl (rng_ret (body := F1) (k := k13) (s := ()) (show k13 < x0.length from by omega) (cond_t g44 (rfl)) hF15) rfl))
  ·have g18 := dlF hl17
   refine CM_condF rfl g18 ?_
   refine CM_exit (QM_then_exit (QM_then_exit ?_))
   have hE52 : R2 (x0.length - 0) 0 () = Sum.inr () := rng_end hl17 hF15
   refine QM_block_hit (QM_then (sr (wa (nt' (CM_ret ?_)))))
   exact rtb (h := cond_f g12 (fin_inr hE52 (rfl)))
 ·have g12 : (((x0.length : Nat) : Int) != ((x1.length : Nat) : Int)) = true := bne_iff_ne.2 h11
  refine CM_condT rfl g12 ?_
  refine sr (wa (nt' (CM_ret (QM_then_ret ?_))))
  exact rtb (h := cond_t g12 (rfl))

def spec_EqualStores_b1 (x0 : DStore) (x1 : DStore) (k21 : Nat) : Bool ⊕ (Unit) :=
 cond (spec_l7Same_m (gt x0.Segments k21) (gt x1.Segments k21)) (Sum.inr ()) (Sum.inl false)
def spec_EqualStores_m (x0 : DStore) (x1 : DStore) : Bool :=
 cond (((x0.Segments.length : Nat) : Int) != ((x1.Segments.length : Nat) : Int)) false (cond (x0.Now != x1.Now) false (Sum.elim id (fun (s : Unit) => true) (rng (R := Bool) (fun k (_ : Unit) => spec_EqualStores_b1 x0 x1 k) (x0.Segments.length - 0) 0 ())))
theorem cb10 : Cb Try.prog 10 := ⟨f10, _, func10, rfl, by decide⟩
theorem spec_EqualStores_c (w : World) (z0 : List Value) (x0 : DStore) (z1 : List Value) (x1 : DStore) (r_0 : tyStore.rd w w.heap.size z0 x0) (r_1 : tyStore.rd w w.heap.size z1 x1) :
  Calls Try.prog 10 #[.agg z0.toArray, .agg z1.toArray] w fun e w' => e = .returned (.bool (spec_EqualStores_m x0 x1)) ∧ Below w.heap.size w w' := by
 obtain ⟨v1, rfl, r2⟩ := tyStore_rd r_0
 obtain ⟨m3, A4, c5, rfl, q6, r7⟩ := rdS_op r2
 obtain ⟨v8, rfl, r9⟩ := tyStore_rd r_1
 obtain ⟨m10, A11, c12, rfl, q13, r14⟩ := rdS_op r9
 refine ce2 (L := [(0, .agg #[.slice A4 x0.Segments.length c5, .int .i64 x0.Now]), (1, .agg #[.slice A11 x1.Segments.length c12, .int .i64 x1.Now])]) (N := 39) func10 ?_
 refine sr ?_
 refine WM_box rfl (Wd_none rfl) (by decide) (fun p15 => ?_)
 refine WM_box rfl (Wd_none rfl) (by decide) (fun p16 => ?_)
 refine wa (nt' (CM_seq (sr ?_)))
 refine wv (vf underlying26 rfl type24) ?_
 refine wv (vl 1 0 underlying24) ?_
 refine wv (vlen underlying24) ?_
 refine wv (vf underlying26 rfl type24) ?_
 refine wv (vl 0 0 underlying24) ?_
 refine wv (vlen underlying24) ?_
 refine wv vneq ?_
 refine wm ?_
 by_cases h17 : ((x0.Segments.length : Nat) : Int) = ((x1.Segments.length : Nat) : Int)
 ·have g18 : (((x0.Segments.length : Nat) : Int) != ((x1.Segments.length : Nat) : Int)) = false := by rw [h17]; exact bne_self_eq_false _
  refine wg (vf underlying26 rfl type3) g18 ?_
  refine wg (vl 1 1 underlying3) g18 ?_
  refine wg (vf underlying26 rfl type3) g18 ?_
  refine wg (vl 0 1 underlying3) g18 ?_
  refine wg vneq g18 ?_
  refine wv (vpF g18) ?_
  refine nt' ?_
  by_cases h19 : x0.Now = x1.Now
  ·have g20 : (x0.Now != x1.Now) = false := by rw [h19]; exact bne_self_eq_false _
   refine CM_condF rfl g20 ?_
   refine CM_skip (QM_then (CM_seq (sr (wa (nt' (CM_block ?_))))))
   let F1 := fun k (_ : Unit) => spec_EqualStores_b1 x0 x1 k
   let R2 := rng (R := Bool) F1
   let I3 : It := iBox p16 26 [.slice A11 x1.Segments.length c12, .int .i64 x1.Now]
   let I4 : It := iBox p15 26 [.slice A4 x0.Segments.length c5, .int .i64 x0.Now]
   refine CM_loop (σ := Nat × (Unit) × (Unit)) (fun s => [(2, .pointer (some (⟨p15, 0, none⟩ : Addr))), (3, .pointer (some (⟨p16, 0, none⟩ : Addr))), (5, .int .i64 ((s.1 : Nat) : Int))]) (fun s => [I3, I4]) (fun s => s.1 ≤ x0.Segments.length ∧ R2 (x0.Segments.length - s.1) s.1 s.2.1 = R2 (x0.Segments.length - 0) 0 ()) (fun s => x0.Segments.length - s.1) (0, (), ()) sl3 (fun W hm => hm) ⟨(by omega), rfl⟩ ?_
   rintro ⟨k21, ⟨⟩, ⟨⟩⟩ H24
   obtain ⟨hk22, hF23⟩ : k21 ≤ x0.Segments.length ∧ R2 (x0.Segments.length - k21) k21 () = R2 (x0.Segments.length - 0) 0 () := H24
   show CM Try.prog 39 _ _ _ _ [(2, .pointer (some (⟨p15, 0, none⟩ : Addr))), (3, .pointer (some (⟨p16, 0, none⟩ : Addr))), (5, .int .i64 ((k21 : Nat) : Int))] [I3, I4]
   refine CM_seq (sr (wm ?_))
   refine wv (vf underlying26 rfl type24) ?_
   refine wv (vl 1 0 underlying24) ?_
   refine wv (vlen underlying24) ?_
   refine wv vlss ?_
   refine nt' ?_
   by_cases hl25 : k21 < x0.Segments.length
   ·have g26 := dlT hl25
    refine CM_condT rfl g26 ?_
    refine CM_skip (QM_then (CM_seq (CM_block (CM_seq ?_))))
    refine CM_regionD (by kernel_rfl) (by kernel_rfl) ?_
    refine qv (vf underlying26 rfl type24) ?_
    refine qv (vl 1 0 underlying24) ?_
    refine qm ?_
    obtain ⟨a27, rfl, hb28, he29⟩ := q6 (by omega)
    refine qv (vix 1 k21 underlying24 type72) ?_
    obtain ⟨_, e31, hc30⟩ := he29 k21 _ (gt_some (show k21 < x0.Segments.length from by omega))
    obtain ⟨v32, rfl, r33⟩ := e31
    obtain ⟨m34, A35, c36, rfl, q37, r38⟩ := rdS_op r33
    refine qv (fun W hm => rv_load underlying72 rfl rfl ((hm.cell0 (show (a27.add (k21 * 1)).block < w.heap.size from by rw [add_block]; exact hb28.1)).trans (hc30 0 _ rfl))) ?_
    refine qv (vf underlying26 rfl type24) ?_
    refine qv (vl 0 0 underlying24) ?_
    refine qm ?_
    obtain ⟨a39, rfl, hb40, he41⟩ := q13 (by omega)
    refine qv (vix 1 k21 underlying24 type72) ?_
    obtain ⟨_, e43, hc42⟩ := he41 k21 _ (gt_some (show k21 < x1.Segments.length from by omega))
    obtain ⟨v44, rfl, r45⟩ := e43
    obtain ⟨m46, A47, c48, rfl, q49, r50⟩ := rdS_op r45
    refine qv (fun W hm => rv_load underlying72 rfl rfl ((hm.cell0 (show (a39.add (k21 * 1)).block < w.heap.size from by rw [add_block]; exact hb40.1)).trans (hc42 0 _ rfl))) ?_
    refine QR_callV (cl_fn cb45 rfl) (fun W hm => spec_l7Same_c W _ (gt x0.Segments k21) _ (gt x1.Segments k21) (hm.rdS0 r38) (hm.rdS0 r50)) (Wd_none rfl) (by decide) ?_
    refine qv vnot ?_
    refine nq' ?_
    rcases Bool.eq_false_or_eq_true (spec_l7Same_m (gt x0.Segments k21) (gt x1.Segments k21)) with g52 | g52
    ·
     refine CM_condF rfl (nt g52) ?_
     refine CM_skip (QM_block_normal (QM_then (CM_region (wm ?_))))
     refine wv (vadN k21 1 (by omega)) ?_
     refine wa (WM_nil ?_)
     have hn53 := rng_next (R := Bool) (body := F1) (k := k21) (s := ()) (s' := ()) (show k21 < x0.Segments.length from by omega) (cond_t g52 (rfl)) hF23
     exact QM_round (k21 + 1, (), ()) sl3 (fun W hm => hm) ⟨(by omega), hn53⟩ (rl (by omega))
    ·
     refine CM_condT rfl (nf g52) ?_
     refine sr (wa (nt' (CM_ret (QM_block_ret (QM_then_ret (QM_then_ret (QM_block_ret (QM_then_ret ?_))))))))
     exact rtb (h := cond_f g18 (cond_f g20 (fin_inl (rng_ret (body := F1) (k := k21) (s := ()) (show k21 < x0.Segments.length from by omega) (cond_f g52 (rfl)) hF23) rfl)))
   ·have g26 := dlF hl25
    refine CM_condF rfl g26 ?_
    refine CM_exit (QM_then_exit (QM_then_exit ?_))
    have hE54 : R2 (x0.Segments.length - 0) 0 () = Sum.inr () := rng_end hl25 hF23
    refine QM_block_hit (QM_then (sr (wa (nt' (CM_ret ?_)))))
    exact rtb (h := cond_f g18 (cond_f g20 (fin_inr hE54 (rfl))))
  ·have g20 : (x0.Now != x1.Now) = true := bne_iff_ne.2 h19
   refine CM_condT rfl g20 ?_
   refine sr (wa (nt' (CM_ret (QM_then_ret ?_))))
   exact rtb (h := cond_f g18 (cond_t g20 (rfl)))
 ·have g18 : (((x0.Segments.length : Nat) : Int) != ((x1.Segments.length : Nat) : Int)) = true := bne_iff_ne.2 h17
  refine ws g18 ?_
  refine ws g18 ?_
  refine ws g18 ?_
  refine ws g18 ?_
  refine ws g18 ?_
  refine wv (vpT g18) ?_
  refine nt' ?_
  refine CM_condT rfl rfl ?_
  refine sr (wa (nt' (CM_ret (QM_then_ret ?_))))
  exact rtb (h := cond_t g18 (rfl))

def impl_segmentRows_b1 (x0 : DStore) (x1 : Int) (x2 : Int) (k25 : Nat) (d26 : (List DRow)) : (List DRow) ⊕ ((List DRow)) :=
 cond (impl_IsVisible_m (gt (gt x0.Segments (x1.toNat)) k25) x2) (Sum.inr (d26 ++ [(impl_rowOf_m (gt (gt x0.Segments (x1.toNat)) k25))])) (Sum.inr d26)
def impl_segmentRows_m (x0 : DStore) (x1 : Int) (x2 : Int) : (List DRow) :=
 Sum.elim id (fun (s : (List DRow)) => s) (rng (R := (List DRow)) (fun k (s : (List DRow)) => impl_segmentRows_b1 x0 x1 x2 k s) (((gt x0.Segments (x1.toNat))).length - 0) 0 [])
theorem cb55 : Cb Try.prog 55 := ⟨f55, _, func55, rfl, by decide⟩
theorem impl_segmentRows_c (w : World) (z0 : List Value) (x0 : DStore) (x1 : Int) (x2 : Int) (r_0 : tyStore.rd w w.heap.size z0 x0) (s_0 : smStore 68719476736 x0) (hx1 : 0 ≤ x1 ∧ x1.toNat < x0.Segments.length) :
  Calls Try.prog 55 #[.agg z0.toArray, .int .i64 x1, .int .i64 x2] w fun e w' => ∃ v : Value, e = .returned (v) ∧ Mem w.heap.size w [iOwn (tSl tyRow 29) [v] (impl_segmentRows_m x0 x1 x2)] w' := by
 obtain ⟨v1, rfl, r2⟩ := tyStore_rd r_0
 obtain ⟨m3, A4, c5, rfl, q6, r7⟩ := rdS_op r2
 have l8 : x0.Segments.length ≤ 68719476736 := s_0.1
 refine ce3 (L := [(0, .agg #[.slice A4 x0.Segments.length c5, .int .i64 x0.Now]), (1, .int .i64 x1), (2, .int .i64 x2)]) (N := 31) func55 ?_
 refine sr ?_
 refine WM_box rfl (Wd_none rfl) (by decide) (fun p9 => ?_)
 refine wa (nt' (sr ?_))
 refine WM_build0 (E := tyRow) underlying39 type29 (Wd_none rfl) (by decide) (fun p10 => ?_)
 refine wa (nt' (CM_seq (sr ?_)))
 refine wv (vf underlying26 rfl type24) ?_
 refine wv (vl 1 0 underlying24) ?_
 refine wm ?_
 obtain ⟨a12, rfl, hb13, he14⟩ := q6 (by omega)
 refine wv (fun W hm => rv_indexI (sz := 1) (k := x1) underlying24 type72 rfl rfl rfl (by omega) (by omega)) ?_
 obtain ⟨_, e16, hc15⟩ := he14 (x1.toNat) _ (gt_some (show (x1.toNat) < x0.Segments.length from by omega))
 have l17 : (gt x0.Segments (x1.toNat)).length ≤ 68719476736 := (s_0.2 _ (gt_mem (show (x1.toNat) < x0.Segments.length from by omega))).1
 obtain ⟨v18, rfl, r19⟩ := e16
 obtain ⟨m20, A21, c22, rfl, q23, r24⟩ := rdS_op r19
 refine wv (fun W hm => rv_load underlying72 rfl rfl ((hm.cell0 (show (a12.add ((x1.toNat) * 1)).block < w.heap.size from by rw [add_block]; exact hb13.1)).trans (hc15 0 _ rfl))) ?_
 refine wv (vlen underlying72) ?_
 refine wm (nt' (CM_block ?_))
 let F1 := fun k (s : (List DRow)) => impl_segmentRows_b1 x0 x1 x2 k s
 let R2 := rng (R := (List DRow)) F1
 let I5 : It := iBox p9 26 [.slice (some a12) x0.Segments.length c5, .int .i64 x0.Now]
 refine CM_loop (σ := Nat × ((List DRow)) × (Option Addr × Nat)) (fun s => [(2, .int .i64 x2), (7, .slice s.2.2.1 s.2.1.length s.2.2.2), (15, .slice A21 ((gt x0.Segments (x1.toNat))).length c22), (16, .int .i64 ((((gt x0.Segments (x1.toNat))).length : Nat) : Int)), (17, .int .i64 ((s.1 : Nat) : Int))]) (fun s => [iOwn (tSl tyRow 29) [.slice s.2.2.1 s.2.1.length s.2.2.2] s.2.1, I5]) (fun s => s.1 ≤ ((gt x0.Segments (x1.toNat))).length ∧ R2 (((gt x0.Segments (x1.toNat))).length - s.1) s.1 s.2.1 = R2 (((gt x0.Segments (x1.toNat))).length - 0) 0 [] ∧ s.2.1.length ≤ 0 + s.1) (fun s => ((gt x0.Segments (x1.toNat))).length - s.1) (0, [], ((some ⟨p10, 0, none⟩), 0)) sl5 (fun W hm => hm) ⟨(by omega), rfl, Nat.le_refl _⟩ ?_
 rintro ⟨k25, d26, ⟨A27, c28⟩⟩ H31
 obtain ⟨hk29, hF30, hi32⟩ : k25 ≤ ((gt x0.Segments (x1.toNat))).length ∧ R2 (((gt x0.Segments (x1.toNat))).length - k25) k25 d26 = R2 (((gt x0.Segments (x1.toNat))).length - 0) 0 [] ∧ d26.length ≤ 0 + k25 := H31
 let I6 : It := iOwn (tSl tyRow 29) [.slice A27 d26.length c28] d26
 show CM Try.prog 31 _ _ _ _ [(2, .int .i64 x2), (7, .slice A27 d26.length c28), (15, .slice A21 ((gt x0.Segments (x1.toNat))).length c22), (16, .int .i64 ((((gt x0.Segments (x1.toNat))).length : Nat) : Int)), (17, .int .i64 ((k25 : Nat) : Int))] [I6, I5]
 refine sr ?_
 refine wv vlss ?_
 refine nt' (CM_seq ?_)
 by_cases hl33 : k25 < ((gt x0.Segments (x1.toNat))).length
 ·have g34 := dlT hl33
  refine CM_condT rfl g34 ?_
  refine CM_skip (QM_then (CM_seq (CM_block (sr ?_))))
  obtain ⟨a35, rfl, hb36, he37⟩ := q23 (by omega)
  refine wv (vix 4 k25 underlying72 type51) ?_
  obtain ⟨_, e41, hc38⟩ := he37 k25 _ (gt_some (show k25 < ((gt x0.Segments (x1.toNat))).length from by omega))
  obtain ⟨v39, rfl, r40⟩ := tyVersion_rd e41
  have l42 : ((gt (gt x0.Segments (x1.toNat)) k25).Values).length ≤ 68719476736 := ((s_0.2 _ (gt_mem (show (x1.toNat) < x0.Segments.length from by omega))).2 _ (gt_mem (show k25 < ((gt x0.Segments (x1.toNat))).length from by omega)))
  obtain ⟨m43, A44, c45, rfl, q46, r47⟩ := rdS_op r40
  let K3 : List Value := [.int .i64 ((gt (gt x0.Segments (x1.toNat)) k25).Id), .slice A44 ((gt (gt x0.Segments (x1.toNat)) k25).Values).length c45, .int .i64 ((gt (gt x0.Segments (x1.toNat)) k25).Born), .int .i64 ((gt (gt x0.Segments (x1.toNat)) k25).Died)]
  refine wv (fun W hm => rv_loadN (cs := K3) underlying51 type51 rfl rfl (hm.elCells (show (a35.add (k25 * 4)).block < w.heap.size from by rw [add_block]; exact hb36.1) hc38)) ?_
  refine WM_alloc type51 rfl (Wd_none rfl) (by decide) (fun p48 => ?_)
  refine sb 0 K3 [I6, I5] (fun W hm => hm) type51 ?_
  refine nt' (sr ?_)
  refine wv (fun W hm => rv_loadN (cs := K3) underlying51 type51 rfl rfl (hm.boxCells (n := 0) rfl)) ?_
  refine wm ?_
  refine wcv (cl_fn cb26 rfl) (fun W hm => impl_IsVisible_c W _ (gt (gt x0.Segments (x1.toNat)) k25) x2 (tyVersion_mk (x := (gt (gt x0.Segments (x1.toNat)) k25)) (hm.rdS0 r47))) ?_
  refine nt' ?_
  rcases Bool.eq_false_or_eq_true (impl_IsVisible_m (gt (gt x0.Segments (x1.toNat)) k25) x2) with g50 | g50
  ·
   refine CM_condT rfl g50 ?_
   refine CM_region (wm ?_)
   refine wv (fun W hm => rv_loadN (cs := K3) underlying51 type51 rfl rfl (hm.boxCells (n := 0) rfl)) ?_
   refine wcs tyRow (impl_rowOf_m (gt (gt x0.Segments (x1.toNat)) k25)) (cl_fn cb48 rfl) (fun W hm => impl_rowOf_c W _ (gt (gt x0.Segments (x1.toNat)) k25) (tyVersion_mk (x := (gt (gt x0.Segments (x1.toNat)) k25)) (hm.rdS0 r47)) ((s_0.2 _ (gt_mem (show (x1.toNat) < x0.Segments.length from by omega))).2 _ (gt_mem (show k25 < ((gt x0.Segments (x1.toNat))).length from by omega)))) (fun z51 => ?_)
   refine tyRow_sp ?_
   rintro v52 rfl
   refine WM_form (n := 0) rfl ?_
   rintro A53 c54 rfl m55
   let K4 : List Value := [.int .i64 ((impl_rowOf_m (gt (gt x0.Segments (x1.toNat)) k25)).Id), .slice A53 ((impl_rowOf_m (gt (gt x0.Segments (x1.toNat)) k25)).Values).length c54]
   refine WM_build (cs := K4) underlying39 type29 rfl (by decide) (by decide) rfl (by kernel_rfl) (Wd_none rfl) (by decide) (fun p57 => ?_)
   refine ap1 tyRow 29 (.slice A27 d26.length c28) d26 (impl_rowOf_m (gt (gt x0.Segments (x1.toNat)) k25)) [iOwn (tSl tInt 3) [.slice A53 ((impl_rowOf_m (gt (gt x0.Segments (x1.toNat)) k25)).Values).length c54] ((impl_rowOf_m (gt (gt x0.Segments (x1.toNat)) k25)).Values)] [iBox p48 51 K3, I5] K4 (pk [0, 3, 1, 2, 4]) (fun _ _ hs => Els.single (tyRow_join (x := (impl_rowOf_m (gt (gt x0.Segments (x1.toNat)) k25))) hs)) underlying39 type29 (show (d26.length + 1) * 32 ≤ 140737488355328 from by omega) (fun v58 => ?_)
   refine WM_form (n := 0) rfl ?_
   rintro A59 c60 rfl m61
   refine wa (WM_nil (QM_block_normal (QM_then (CM_region ?_))))
   refine wv (vadN k25 1 (by omega)) ?_
   refine wm (WM_nil ?_)
   have hn63 := rng_next (R := (List DRow)) (body := F1) (k := k25) (s := d26) (s' := (d26 ++ [(impl_rowOf_m (gt (gt x0.Segments (x1.toNat)) k25))])) (show k25 < ((gt x0.Segments (x1.toNat))).length from by omega) (cond_t g50 (rfl)) hF30
   exact QM_round (k25 + 1, (d26 ++ [(impl_rowOf_m (gt (gt x0.Segments (x1.toNat)) k25))]), (A59, c60)) sl5 (pk [0, 2]) ⟨(by omega), hn63, (show (d26 ++ [(impl_rowOf_m (gt (gt x0.Segments (x1.toNat)) k25))]).length ≤ 0 + (k25 + 1) from by first | omega | (simp only [List.length_append, List.length_cons, List.length_nil] at *; omega))⟩ (show ((gt x0.Segments (x1.toNat))).length - (k25 + 1) < ((gt x0.Segments (x1.toNat))).length - k25 from by omega)
  ·
   refine CM_condF rfl g50 ?_
   refine CM_skip (QM_block_normal (QM_then (CM_region ?_)))
   refine wv (vadN k25 1 (by omega)) ?_
   refine wm (WM_nil ?_)
   have hn64 := rng_next (R := (List DRow)) (body := F1) (k := k25) (s := d26) (s' := d26) (show k25 < ((gt x0.Segments (x1.toNat))).length from by omega) (cond_f g50 (rfl)) hF30
   exact QM_round (k25 + 1, d26, (A27, c28)) sl5 (pk [1, 2]) ⟨(by omega), hn64, (show d26.length ≤ 0 + (k25 + 1) from by first | omega | (simp only [List.length_append, List.length_cons, List.length_nil] at *; omega))⟩ (show ((gt x0.Segments (x1.toNat))).length - (k25 + 1) < ((gt x0.Segments (x1.toNat))).length - k25 from by omega)
 ·have g34 := dlF hl33
  refine CM_condF rfl g34 ?_
  refine CM_exit (QM_then_exit (QM_then_exit ?_))
  have hE65 : R2 (((gt x0.Segments (x1.toNat))).length - 0) 0 [] = Sum.inr d26 := rng_end hl33 hF30
  refine QM_block_hit (QM_then (sr (wm (wa (nt' (CM_ret ?_))))))
  have he66 := (show impl_segmentRows_m x0 x1 x2 = d26 from fin_inr hE65 (rfl))
  refine QM_r1 rfl (RR_tmp rfl) (fun W hm => ⟨.slice A27 d26.length c28, ?_, ?_⟩)
  ·first | rw [he66] | rfl
  ·rw [he66]; exact (hm.pick [0] (by decide))

def impl_copyRow_m (x0 : DRow) : DRow :=
 x0
theorem cb78 : Cb Try.prog 78 := ⟨f78, _, func78, rfl, by decide⟩
theorem impl_copyRow_c (w : World) (z0 : List Value) (x0 : DRow) (r_0 : tyRow.rd w w.heap.size z0 x0) (s_0 : smRow 68719476736 x0) :
  Calls Try.prog 78 #[.agg z0.toArray] w fun e w' => ∃ v : List Value, e = .returned (.agg v.toArray) ∧ Mem w.heap.size w [iOwn tyRow v (impl_copyRow_m x0)] w' := by
 obtain ⟨v1, rfl, r2⟩ := tyRow_rd r_0
 obtain ⟨m3, A4, c5, rfl, q6, r7⟩ := rdS_op r2
 have l8 : x0.Values.length ≤ 68719476736 := s_0
 refine ce1 (L := [(0, .agg #[.int .i64 x0.Id, .slice A4 x0.Values.length c5])]) (N := 9) func78 ?_
 refine sr ?_
 refine WM_box rfl (Wd_none rfl) (by decide) (fun p9 => ?_)
 refine WM_alloc type29 rfl (Wd_none rfl) (by decide) (fun p10 => ?_)
 refine nt' (CM_seq ?_)
 let I1 : It := iBox p9 29 [.int .i64 x0.Id, .slice A4 x0.Values.length c5]
 refine rd2 7 [6] (s := [I1]) (s2 := [iBox p10 29 [.int .i64 0, .slice none 0 0], I1]) (pk [1]) (fun W hm => hm) ?_
 refine qtD 7 0 1 rfl (vf underlying29 rfl type3) ?_
 refine qtD 7 1 3 rfl (vl 1 0 underlying3) ?_
 refine qtD 7 2 7 rfl (vf underlying29 rfl type27) ?_
 refine qtD 7 3 15 rfl (vl 1 1 underlying27) ?_
 refine qoD 7 4 31 rfl ?_
 refine wcl (tSl tInt 3) x0.Values (cl_fn cb40 rfl) (fun W hm => impl_copyInts_c2 W _ x0.Values (hm.rdS0 r7) s_0) (fun z11 => ?_)
 refine WM_form (n := 0) rfl ?_
 rintro A12 c13 rfl m14
 refine qnD (pk [2]) (pk [1, 2]) ?_
 refine qtD 7 5 63 rfl (fun W hm => rv_build (cs := [.int .i64 x0.Id, .slice A12 x0.Values.length c13]) rfl (by kernel_rfl)) ?_
 refine qoD 7 6 127 rfl ?_
 let I2 : It := iOwn (tSl tInt 3) [.slice A12 x0.Values.length c13] x0.Values
 refine sb 0 [.int .i64 x0.Id, .slice A12 x0.Values.length c13] [I2, I1] (pk [1, 0, 2]) type29 ?_
 refine qxD (pk [2]) ?_
 refine QB_done (by kernel_rfl) ?_
 refine QM_then (CM_ret ?_)
 have he16 := (show impl_copyRow_m x0 = x0 from rfl)
 refine QM_r1 rfl (RR_cell (n := 0) rfl rfl underlying29 type29 rfl) (fun W hm => ⟨[.int .i64 x0.Id, .slice A12 x0.Values.length c13], ?_, ?_⟩)
 ·first | rw [he16] | rfl
 ·rw [he16]; exact Mem.join (is := [I2]) (js := []) (fun _ _ hs => tyRow_join (x := x0) hs) (hm.pick [1] (by decide))
theorem impl_copyRow_eq (x0 : DRow) : impl_copyRow_m x0 = x0 := by
 rfl
theorem impl_copyRow_c2 (w : World) (z0 : List Value) (x0 : DRow) (r_0 : tyRow.rd w w.heap.size z0 x0) (s_0 : smRow 68719476736 x0) :
  Calls Try.prog 78 #[.agg z0.toArray] w fun e w' => ∃ v : List Value, e = .returned (.agg v.toArray) ∧ Mem w.heap.size w [iOwn tyRow v x0] w' := by
 have h := impl_copyRow_c w z0 x0 r_0 s_0
 rw [impl_copyRow_eq] at h
 exact h

def impl_copyRows_b1 (x0 : (List DRow)) (k9 : Nat) (d10 : (List DRow)) : (List DRow) ⊕ ((List DRow)) :=
 Sum.inr (d10 ++ [(gt x0 k9)])
def impl_copyRows_m (x0 : (List DRow)) : (List DRow) :=
 Sum.elim id (fun (s : (List DRow)) => s) (rng (R := (List DRow)) (fun k (s : (List DRow)) => impl_copyRows_b1 x0 k s) (x0.length - 0) 0 [])
theorem cb59 : Cb Try.prog 59 := ⟨f59, _, func59, rfl, by decide⟩
theorem impl_copyRows_c (w : World) (z0 : Value) (x0 : (List DRow)) (r_0 : rdS tyRow w w.heap.size z0 x0) (s_0 : (x0.length ≤ 68719476736 ∧ ∀ y ∈ x0, smRow 68719476736 y)) :
  Calls Try.prog 59 #[z0] w fun e w' => ∃ v : Value, e = .returned (v) ∧ Mem w.heap.size w [iOwn (tSl tyRow 29) [v] (impl_copyRows_m x0)] w' := by
 obtain ⟨m1, A2, c3, rfl, q4, r5⟩ := rdS_op r_0
 have l6 : x0.length ≤ 68719476736 := s_0.1
 refine ce1 (L := [(0, .slice A2 x0.length c3)]) (N := 20) func59 ?_
 refine sr (wa (nt' (sr ?_)))
 refine WM_build0 (E := tyRow) underlying39 type29 (Wd_none rfl) (by decide) (fun p7 => ?_)
 refine wa (nt' (CM_seq (sr (wm ?_))))
 refine wv (vlen underlying39) ?_
 refine wm (nt' (CM_block ?_))
 let F1 := fun k (s : (List DRow)) => impl_copyRows_b1 x0 k s
 let R2 := rng (R := (List DRow)) F1
 refine CM_loop (σ := Nat × ((List DRow)) × (Option Addr × Nat)) (fun s => [(3, .slice s.2.2.1 s.2.1.length s.2.2.2), (7, .slice A2 x0.length c3), (8, .int .i64 ((x0.length : Nat) : Int)), (9, .int .i64 ((s.1 : Nat) : Int))]) (fun s => [iOwn (tSl tyRow 29) [.slice s.2.2.1 s.2.1.length s.2.2.2] s.2.1]) (fun s => s.1 ≤ x0.length ∧ R2 (x0.length - s.1) s.1 s.2.1 = R2 (x0.length - 0) 0 [] ∧ s.2.1.length ≤ 0 + s.1) (fun s => x0.length - s.1) (0, [], ((some ⟨p7, 0, none⟩), 0)) sl4 (fun W hm => hm) ⟨(by omega), rfl, Nat.le_refl _⟩ ?_
 rintro ⟨k9, d10, ⟨A11, c12⟩⟩ H15
 obtain ⟨hk13, hF14, hi16⟩ : k9 ≤ x0.length ∧ R2 (x0.length - k9) k9 d10 = R2 (x0.length - 0) 0 [] ∧ d10.length ≤ 0 + k9 := H15
 let I5 : It := iOwn (tSl tyRow 29) [.slice A11 d10.length c12] d10
 show CM Try.prog 20 _ _ _ _ [(3, .slice A11 d10.length c12), (7, .slice A2 x0.length c3), (8, .int .i64 ((x0.length : Nat) : Int)), (9, .int .i64 ((k9 : Nat) : Int))] [I5]
 refine sr ?_
 refine wv vlss ?_
 refine nt' (CM_seq ?_)
 by_cases hl17 : k9 < x0.length
 ·have g18 := dlT hl17
  refine CM_condT rfl g18 ?_
  refine CM_skip (QM_then (CM_seq (CM_block (sr ?_))))
  obtain ⟨a19, rfl, hb20, he21⟩ := q4 (by omega)
  refine wv (vix 2 k9 underlying39 type29) ?_
  obtain ⟨_, e25, hc22⟩ := he21 k9 _ (gt_some (show k9 < x0.length from by omega))
  obtain ⟨v23, rfl, r24⟩ := tyRow_rd e25
  have l26 : ((gt x0 k9).Values).length ≤ 68719476736 := (s_0.2 _ (gt_mem (show k9 < x0.length from by omega)))
  obtain ⟨m27, A28, c29, rfl, q30, r31⟩ := rdS_op r24
  let K3 : List Value := [.int .i64 ((gt x0 k9).Id), .slice A28 ((gt x0 k9).Values).length c29]
  refine wv (fun W hm => rv_loadN (cs := K3) underlying29 type29 rfl rfl (hm.elCells (show (a19.add (k9 * 2)).block < w.heap.size from by rw [add_block]; exact hb20.1) hc22)) ?_
  refine WM_alloc type29 rfl (Wd_none rfl) (by decide) (fun p32 => ?_)
  refine sb 0 K3 [I5] (fun W hm => hm) type29 ?_
  refine nt' (CM_region (wm ?_))
  refine wv (fun W hm => rv_loadN (cs := K3) underlying29 type29 rfl rfl (hm.boxCells (n := 0) rfl)) ?_
  refine wcs tyRow (gt x0 k9) (cl_fn cb78 rfl) (fun W hm => impl_copyRow_c2 W _ (gt x0 k9) (tyRow_mk (x := (gt x0 k9)) (hm.rdS0 r31)) (s_0.2 _ (gt_mem (show k9 < x0.length from by omega)))) (fun z33 => ?_)
  refine tyRow_sp ?_
  rintro v34 rfl
  refine WM_form (n := 0) rfl ?_
  rintro A35 c36 rfl m37
  let K4 : List Value := [.int .i64 ((gt x0 k9).Id), .slice A35 ((gt x0 k9).Values).length c36]
  refine WM_build (cs := K4) underlying39 type29 rfl (by decide) (by decide) rfl (by kernel_rfl) (Wd_none rfl) (by decide) (fun p39 => ?_)
  refine ap1 tyRow 29 (.slice A11 d10.length c12) d10 (gt x0 k9) [iOwn (tSl tInt 3) [.slice A35 ((gt x0 k9).Values).length c36] ((gt x0 k9).Values)] [iBox p32 29 K3] K4 (pk [0, 3, 1, 2]) (fun _ _ hs => Els.single (tyRow_join (x := (gt x0 k9)) hs)) underlying39 type29 (show (d10.length + 1) * 32 ≤ 140737488355328 from by omega) (fun v40 => ?_)
  refine WM_form (n := 0) rfl ?_
  rintro A41 c42 rfl m43
  refine wa (WM_nil (QM_block_normal (QM_then (CM_region ?_))))
  refine wv (vadN k9 1 (by omega)) ?_
  refine wm (WM_nil ?_)
  have hn45 := rng_next (R := (List DRow)) (body := F1) (k := k9) (s := d10) (s' := (d10 ++ [(gt x0 k9)])) (show k9 < x0.length from by omega) (rfl) hF14
  exact QM_round (k9 + 1, (d10 ++ [(gt x0 k9)]), (A41, c42)) sl4 (pk [0]) ⟨(by omega), hn45, (show (d10 ++ [(gt x0 k9)]).length ≤ 0 + (k9 + 1) from by first | omega | (simp only [List.length_append, List.length_cons, List.length_nil] at *; omega))⟩ (rl (by omega))
 ·have g18 := dlF hl17
  refine CM_condF rfl g18 ?_
  refine CM_exit (QM_then_exit (QM_then_exit ?_))
  have hE46 : R2 (x0.length - 0) 0 [] = Sum.inr d10 := rng_end hl17 hF14
  refine QM_block_hit (QM_then (sr (wm (wa (nt' (CM_ret ?_))))))
  have he47 := (show impl_copyRows_m x0 = d10 from fin_inr hE46 (rfl))
  refine QM_r1 rfl (RR_tmp rfl) (fun W hm => ⟨.slice A11 d10.length c12, ?_, ?_⟩)
  ·first | rw [he47] | rfl
  ·rw [he47]; exact hm
theorem impl_copyRows_eq (x0 : (List DRow)) : impl_copyRows_m x0 = x0 := by
 unfold impl_copyRows_m; rw [rng_app (xs := x0) (b := fun k s => impl_copyRows_b1 x0 k s) (fun _ _ => rfl)]; rfl
theorem impl_copyRows_c2 (w : World) (z0 : Value) (x0 : (List DRow)) (r_0 : rdS tyRow w w.heap.size z0 x0) (s_0 : (x0.length ≤ 68719476736 ∧ ∀ y ∈ x0, smRow 68719476736 y)) :
  Calls Try.prog 59 #[z0] w fun e w' => ∃ v : Value, e = .returned (v) ∧ Mem w.heap.size w [iOwn (tSl tyRow 29) [v] x0] w' := by
 have h := impl_copyRows_c w z0 x0 r_0 s_0
 rw [impl_copyRows_eq] at h
 exact h

def cmp_isNaN_int_m (x0 : Int) : Bool :=
 (x0 != x0)
theorem cb90 : Cb Try.prog 90 := ⟨f90, _, func90, rfl, by decide⟩
theorem cmp_isNaN_int_c (w : World) (x0 : Int) :
  Calls Try.prog 90 #[.int .i64 x0] w fun e w' => e = .returned (.bool (cmp_isNaN_int_m x0)) ∧ Below w.heap.size w w' := by
 refine ce1 (L := [(0, .int .i64 x0)]) (N := 6) func90 ?_
 refine sr (wa (nt' (sr (wm (wm ?_)))))
 refine wv vneq ?_
 refine wa (nt' (CM_ret ?_))
 exact rtb (h := rfl)

def cmp_Compare_int_m (x0 : Int) (x1 : Int) : Int :=
 cond (cmp_isNaN_int_m x0) (cond (cmp_isNaN_int_m x1) 0 (-1)) (cond (cmp_isNaN_int_m x1) 1 (cond (decide (x0 < x1)) (-1) (cond (decide (x1 < x0)) 1 0)))
theorem cb80 : Cb Try.prog 80 := ⟨f80, _, func80, rfl, by decide⟩
theorem cmp_Compare_int_c (w : World) (x0 : Int) (x1 : Int) :
  Calls Try.prog 80 #[.int .i64 x0, .int .i64 x1] w fun e w' => e = .returned (.int .i64 (cmp_Compare_int_m x0 x1)) ∧ Below w.heap.size w w' := by
 refine ce2 (L := [(0, .int .i64 x0), (1, .int .i64 x1)]) (N := 20) func80 ?_
 refine sr (wa (nt' (sr (wm ?_))))
 refine wcv (cl_fn cb90 rfl) (fun W hm => cmp_isNaN_int_c W x0) ?_
 refine wa (nt' (sr (wm ?_)))
 refine wcv (cl_fn cb90 rfl) (fun W hm => cmp_isNaN_int_c W x1) ?_
 refine wa (nt' (CM_seq (sr (wm (nt' ?_)))))
 rcases Bool.eq_false_or_eq_true (cmp_isNaN_int_m x0) with g2 | g2
 ·
  refine CM_condT rfl g2 ?_
  refine CM_seq (sr (wm (nt' ?_)))
  rcases Bool.eq_false_or_eq_true (cmp_isNaN_int_m x1) with g4 | g4
  ·
   refine CM_condT rfl g4 ?_
   refine sr (wa (nt' (CM_ret (QM_then_ret (QM_then_ret ?_)))))
   exact rti (h := cond_t g2 (cond_t g4 (rfl)))
  ·
   refine CM_condF rfl g4 ?_
   refine CM_skip (QM_then (sr (wa (nt' (CM_ret (QM_then_ret ?_))))))
   exact rti (h := cond_t g2 (cond_f g4 (rfl)))
 ·
  refine CM_condF rfl g2 ?_
  refine CM_skip (QM_then (CM_seq (sr (wm (nt' ?_)))))
  rcases Bool.eq_false_or_eq_true (cmp_isNaN_int_m x1) with g6 | g6
  ·
   refine CM_condT rfl g6 ?_
   refine sr (wa (nt' (CM_ret (QM_then_ret ?_))))
   exact rti (h := cond_f g2 (cond_t g6 (rfl)))
  ·
   refine CM_condF rfl g6 ?_
   refine CM_skip (QM_then (CM_seq (sr (wm (wm ?_)))))
   refine wv vlss ?_
   refine nt' ?_
   by_cases h7 : x0 < x1
   ·have g8 := decide_eq_true h7
    refine CM_condT rfl g8 ?_
    refine sr (wa (nt' (CM_ret (QM_then_ret ?_))))
    exact rti (h := cond_f g2 (cond_f g6 (cond_t g8 (rfl))))
   ·have g8 := decide_eq_false h7
    refine CM_condF rfl g8 ?_
    refine CM_skip (QM_then (CM_seq (sr (wm (wm ?_)))))
    refine wv (fun W hm => rv_gtr rfl rfl) ?_
    refine nt' ?_
    by_cases h9 : x1 < x0
    ·have g10 := decide_eq_true h9
     refine CM_condT rfl g10 ?_
     refine sr (wa (nt' (CM_ret (QM_then_ret ?_))))
     exact rti (h := cond_f g2 (cond_f g6 (cond_f g8 (cond_t g10 (rfl)))))
    ·have g10 := decide_eq_false h9
     refine CM_condF rfl g10 ?_
     refine CM_skip (QM_then (sr (wa (nt' (CM_ret ?_)))))
     exact rti (h := cond_f g2 (cond_f g6 (cond_f g8 (cond_f g10 (rfl)))))

def slices_Compare_int_b1 (x0 : (List Int)) (x1 : (List Int)) (k11 : Nat) : Int ⊕ (Unit) :=
 cond (decide (((x1.length : Nat) : Int) ≤ ((k11 : Nat) : Int))) (Sum.inl 1) (cond ((cmp_Compare_int_m (gt x0 k11) (gt x1 k11)) != 0) (Sum.inl (cmp_Compare_int_m (gt x0 k11) (gt x1 k11))) (Sum.inr ()))
def slices_Compare_int_m (x0 : (List Int)) (x1 : (List Int)) : Int :=
 Sum.elim id (fun (s : Unit) => cond (decide (((x0.length : Nat) : Int) < ((x1.length : Nat) : Int))) (-1) 0) (rng (R := Int) (fun k (_ : Unit) => slices_Compare_int_b1 x0 x1 k) (x0.length - 0) 0 ())
theorem cb62 : Cb Try.prog 62 := ⟨f62, _, func62, rfl, by decide⟩
theorem slices_Compare_int_c (w : World) (z0 : Value) (x0 : (List Int)) (z1 : Value) (x1 : (List Int)) (r_0 : rdS tInt w w.heap.size z0 x0) (r_1 : rdS tInt w w.heap.size z1 x1) :
  Calls Try.prog 62 #[z0, z1] w fun e w' => e = .returned (.int .i64 (slices_Compare_int_m x0 x1)) ∧ Below w.heap.size w w' := by
 obtain ⟨m1, A2, c3, rfl, q4, r5⟩ := rdS_op r_0
 obtain ⟨m6, A7, c8, rfl, q9, r10⟩ := rdS_op r_1
 refine ce2 (L := [(0, .slice A2 x0.length c3), (1, .slice A7 x1.length c8)]) (N := 36) func62 ?_
 refine sr (wa (nt' (CM_seq (sr (wm ?_)))))
 refine wv (vlen underlying27) ?_
 refine wm (nt' (CM_block ?_))
 let F1 := fun k (_ : Unit) => slices_Compare_int_b1 x0 x1 k
 let R2 := rng (R := Int) F1
 refine CM_loop (σ := Nat × (Unit) × (Unit)) (fun s => [(0, .slice A2 x0.length c3), (1, .slice A7 x1.length c8), (9, .slice A2 x0.length c3), (10, .int .i64 ((x0.length : Nat) : Int)), (11, .int .i64 ((s.1 : Nat) : Int))]) (fun s => []) (fun s => s.1 ≤ x0.length ∧ R2 (x0.length - s.1) s.1 s.2.1 = R2 (x0.length - 0) 0 ()) (fun s => x0.length - s.1) (0, (), ()) sl5 (fun W hm => hm) ⟨(by omega), rfl⟩ ?_
 rintro ⟨k11, ⟨⟩, ⟨⟩⟩ H14
 obtain ⟨hk12, hF13⟩ : k11 ≤ x0.length ∧ R2 (x0.length - k11) k11 () = R2 (x0.length - 0) 0 () := H14
 show CM Try.prog 36 _ _ _ _ [(0, .slice A2 x0.length c3), (1, .slice A7 x1.length c8), (9, .slice A2 x0.length c3), (10, .int .i64 ((x0.length : Nat) : Int)), (11, .int .i64 ((k11 : Nat) : Int))] []
 refine sr ?_
 refine wv vlss ?_
 refine nt' (CM_seq ?_)
 by_cases hl15 : k11 < x0.length
 ·have g16 := dlT hl15
  refine CM_condT rfl g16 ?_
  refine CM_skip (QM_then (CM_seq (CM_block (sr (wm ?_)))))
  obtain ⟨a17, rfl, hb18, he19⟩ := q4 (by omega)
  refine wv (vix 1 k11 underlying27 type3) ?_
  refine wv (fun W hm => rv_load underlying3 rfl rfl ((hm.cell0 (show (a17.add (k11 * 1)).block < w.heap.size from by rw [add_block]; exact hb18.1)).trans (rdS_int he19 k11 (by omega)))) ?_
  refine wa (wa (nt' (CM_seq (sr (wm (wm ?_))))))
  refine wv (vlen underlying27) ?_
  refine wv (fun W hm => rv_geq rfl rfl) ?_
  refine nt' ?_
  by_cases h20 : ((x1.length : Nat) : Int) ≤ ((k11 : Nat) : Int)
  ·have g21 := decide_eq_true h20
   refine CM_condT rfl g21 ?_
   refine sr (wa (nt' (CM_ret (QM_then_ret (QM_block_ret (QM_then_ret (QM_then_ret (QM_block_ret (QM_then_ret ?_)))))))))
   exact rti (h := fin_inl (rng_ret (body := F1) (k := k11) (s := ()) (show k11 < x0.length from by omega) (cond_t g21 (rfl)) hF13) rfl)
  ·have g21 := decide_eq_false h20
   refine CM_condF rfl g21 ?_
   refine CM_skip (QM_then (sr (wm (wm ?_))))
   obtain ⟨a22, rfl, hb23, he24⟩ := q9 (by omega)
   refine wv (vix 1 k11 underlying27 type3) ?_
   refine wv (fun W hm => rv_load underlying3 rfl rfl ((hm.cell0 (show (a22.add (k11 * 1)).block < w.heap.size from by rw [add_block]; exact hb23.1)).trans (rdS_int he24 k11 (by omega)))) ?_
   refine wa (nt' (sr (wm (wm ?_))))
   refine wcv (cl_fn cb80 rfl) (fun W hm => cmp_Compare_int_c W (gt x0 k11) (gt x1 k11)) ?_
   refine wa (nt' (sr (wm ?_)))
   refine wv vneq ?_
   refine nt' ?_
   by_cases h25 : (cmp_Compare_int_m (gt x0 k11) (gt x1 k11)) = 0
   ·have g26 : ((cmp_Compare_int_m (gt x0 k11) (gt x1 k11)) != 0) = false := by rw [h25]; exact bne_self_eq_false _
    refine CM_condF rfl g26 ?_
    refine CM_skip (QM_block_normal (QM_then (CM_region ?_)))
    refine wv (vadN k11 1 (by omega)) ?_
    refine wm (WM_nil ?_)
    have hn27 := rng_next (R := Int) (body := F1) (k := k11) (s := ()) (s' := ()) (show k11 < x0.length from by omega) (cond_f g21 (cond_f g26 (rfl))) hF13
    exact QM_round (k11 + 1, (), ()) sl5 (fun W hm => hm) ⟨(by omega), hn27⟩ (rl (by omega))
   ·have g26 : ((cmp_Compare_int_m (gt x0 k11) (gt x1 k11)) != 0) = true := bne_iff_ne.2 h25
    refine CM_condT rfl g26 ?_
    refine sr (wm (wa (nt' (CM_ret (QM_block_ret (QM_then_ret (QM_then_ret (QM_block_ret (QM_then_ret ?_)))))))))
    exact rti (h := fin_inl (rng_ret (body := F1) (k := k11) (s := ()) (show k11 < x0.length from by omega) (cond_f g21 (cond_t g26 (rfl))) hF13) rfl)
 ·have g16 := dlF hl15
  refine CM_condF rfl g16 ?_
  refine CM_exit (QM_then_exit (QM_then_exit ?_))
  have hE28 : R2 (x0.length - 0) 0 () = Sum.inr () := rng_end hl15 hF13
  refine QM_block_hit (QM_then (CM_seq (sr (wm ?_))))
  refine wv (vlen underlying27) ?_
  refine wm ?_
  refine wv (vlen underlying27) ?_
  refine wv vlss ?_
  refine nt' ?_
  by_cases h29 : ((x0.length : Nat) : Int) < ((x1.length : Nat) : Int)
  ·have g30 := decide_eq_true h29
   refine CM_condT rfl g30 ?_
   refine sr (wa (nt' (CM_ret (QM_then_ret ?_))))
   exact rti (h := fin_inr hE28 (cond_t g30 (rfl)))
  ·have g30 := decide_eq_false h29
   refine CM_condF rfl g30 ?_
   refine CM_skip (QM_then (sr (wa (nt' (CM_ret ?_)))))
   exact rti (h := fin_inr hE28 (cond_f g30 (rfl)))

def impl_SortRows_1_m (x0 : DRow) (x1 : DRow) : Int :=
 cond (decide (x0.Id < x1.Id)) (-1) (cond (decide (x1.Id < x0.Id)) 1 (slices_Compare_int_m x0.Values x1.Values))
theorem cb61 : Cb Try.prog 61 := ⟨f61, _, func61, rfl, by decide⟩
theorem impl_SortRows_1_c (w : World) (z0 : List Value) (x0 : DRow) (z1 : List Value) (x1 : DRow) (r_0 : tyRow.rd w w.heap.size z0 x0) (r_1 : tyRow.rd w w.heap.size z1 x1) :
  Calls Try.prog 61 #[.agg z0.toArray, .agg z1.toArray] w fun e w' => e = .returned (.int .i64 (impl_SortRows_1_m x0 x1)) ∧ Below w.heap.size w w' := by
 obtain ⟨v1, rfl, r2⟩ := tyRow_rd r_0
 obtain ⟨m3, A4, c5, rfl, q6, r7⟩ := rdS_op r2
 obtain ⟨v8, rfl, r9⟩ := tyRow_rd r_1
 obtain ⟨m10, A11, c12, rfl, q13, r14⟩ := rdS_op r9
 refine ce2 (L := [(0, .agg #[.int .i64 x0.Id, .slice A4 x0.Values.length c5]), (1, .agg #[.int .i64 x1.Id, .slice A11 x1.Values.length c12])]) (N := 22) func61 ?_
 refine sr ?_
 refine WM_box rfl (Wd_none rfl) (by decide) (fun p15 => ?_)
 refine WM_box rfl (Wd_none rfl) (by decide) (fun p16 => ?_)
 refine wa (nt' (CM_seq (CM_block (sr ?_))))
 refine wv (vf underlying29 rfl type3) ?_
 refine wv (vl 1 0 underlying3) ?_
 refine wv (vf underlying29 rfl type3) ?_
 refine wv (vl 0 0 underlying3) ?_
 refine wv vlss ?_
 refine wa (nt' ?_)
 by_cases h17 : x0.Id < x1.Id
 ·have g18 := decide_eq_true h17
  refine CM_condT rfl g18 ?_
  refine sr (wa (nt' (CM_ret (QM_block_ret (QM_then_ret ?_)))))
  exact rti (h := cond_t g18 (rfl))
 ·have g18 := decide_eq_false h17
  refine CM_condF rfl g18 ?_
  refine sr ?_
  refine wv (vf underlying29 rfl type3) ?_
  refine wv (vl 1 0 underlying3) ?_
  refine wv (vf underlying29 rfl type3) ?_
  refine wv (vl 0 0 underlying3) ?_
  refine wv (fun W hm => rv_gtr rfl rfl) ?_
  refine wa (nt' ?_)
  by_cases h19 : x1.Id < x0.Id
  ·have g20 := decide_eq_true h19
   refine CM_condT rfl g20 ?_
   refine sr (wa (nt' (CM_ret (QM_block_ret (QM_then_ret ?_)))))
   exact rti (h := cond_f g18 (cond_t g20 (rfl)))
  ·have g20 := decide_eq_false h19
   refine CM_condF rfl g20 ?_
   refine CM_skip (QM_block_normal (QM_then (sr ?_)))
   refine wv (vf underlying29 rfl type27) ?_
   refine wv (vl 1 1 underlying27) ?_
   refine wv (vf underlying29 rfl type27) ?_
   refine wv (vl 0 1 underlying27) ?_
   refine wcv (cl_fn cb62 rfl) (fun W hm => slices_Compare_int_c W _ x0.Values _ x1.Values (hm.rdS0 r7) (hm.rdS0 r14)) ?_
   refine wa (nt' (CM_ret ?_))
   exact rti (h := cond_f g18 (cond_f g20 (rfl)))

theorem cb92 : Cb Try.prog 92 := ⟨f92, _, func92, rfl, by decide⟩
theorem srt60_swr_c {α : Type} [Inhabited α] (K : Ck α) (hK : K.s = 2) (cf : α → α → Int) (fc : FuncId) (B : Nat) (w0 : World) (is : List It) (H : CmpOk Try.prog fc K B w0 is cf) (A : Option Addr) (n c : Nat) (hn : n ≤ 68719476736) (a : Nat) (b : Nat) (k : Nat) (xs : List (List Value × α)) (h1 : a + k ≤ n) (h2 : b + k ≤ n) (w : World) (hm : Mem B w0 (iOwn (tSl (tCk K) 29) [.slice A n c] xs :: is) w) :
  Calls Try.prog 92 #[.slice A n c, .int .i64 ((a : Nat) : Int), .int .i64 ((b : Nat) : Int), .int .i64 ((k : Nat) : Int), .func (.func fc) #[] #[]] w fun e w' => e = .returned (.tuple #[]) ∧ Mem B w0 (iOwn (tSl (tCk K) 29) [.slice A n c] (swr k a b xs) :: is) w' := by
 refine call_enterW (L := [(0, .slice A n c), (1, .int .i64 ((a : Nat) : Int)), (2, .int .i64 ((b : Nat) : Int)), (3, .int .i64 ((k : Nat) : Int)), (4, .func (.func fc) #[] #[])]) (N := 38) func92 rfl rfl (Nat.le_of_ble_eq_true rfl) (argsL_cons rfl (argsL_cons rfl (argsL_cons rfl (argsL_cons rfl (argsL_cons rfl argsL_nil))))) hm ?_
 refine sr (wa (nt' (CM_block ?_)))
 refine CM_loop (σ := Nat × List (List Value × α)) (fun s => [(0, .slice A n c), (1, .int .i64 ((a : Nat) : Int)), (2, .int .i64 ((b : Nat) : Int)), (3, .int .i64 ((k : Nat) : Int)), (10, .int .i64 ((s.1 : Nat) : Int))]) (fun s => (iOwn (tSl (tCk K) 29) [.slice A n c] s.2 :: is)) (fun s => swr (k - s.1) (a + s.1) (b + s.1) s.2 = swr k a b xs ∧ s.1 ≤ k) (fun s => k - s.1) (0, xs) sl5 (fun W hm => hm) ⟨(show swr (k - 0) (a + 0) (b + 0) xs = swr k a b xs from rfl), (show 0 ≤ k from by omega)⟩ ?_
 rintro ⟨i, d⟩ H1
 obtain ⟨hF, hi⟩ : swr (k - i) (a + i) (b + i) d = swr k a b xs ∧ i ≤ k := H1
 show CM Try.prog 38 _ _ _ _ [(0, .slice A n c), (1, .int .i64 ((a : Nat) : Int)), (2, .int .i64 ((b : Nat) : Int)), (3, .int .i64 ((k : Nat) : Int)), (10, .int .i64 ((i : Nat) : Int))] (iOwn (tSl (tCk K) 29) [.slice A n c] d :: is)
 refine CM_seq (sr (wm (wm ?_)))
 refine wv vlss ?_
 refine nt' ?_
 by_cases h2 : ((i : Nat) : Int) < ((k : Nat) : Int)
 ·have g3 := decide_eq_true h2
  refine CM_condT rfl g3 ?_
  refine CM_skip (QM_then (CM_seq (CM_block ?_)))
  refine CM_formO (n := 0) rfl (by omega) ?_
  rintro g5 rfl
  refine CM_ck ?_
  intro hR4
  let I1 : It := iOwn (tSl (tCk K) 29) [.slice (some ⟨g5, 0, none⟩) n c] ((d.set (a + i) (gt d (b + i))).set (b + i) (gt d (a + i)))
  refine CM_cut (σ := Unit) (fun _ => [(0, .slice (some ⟨g5, 0, none⟩) n c), (1, .int .i64 ((a : Nat) : Int)), (2, .int .i64 ((b : Nat) : Int)), (3, .int .i64 ((k : Nat) : Int)), (10, .int .i64 ((i : Nat) : Int))]) (fun _ => (I1 :: is)) (fun _ => True) ?_ ?_
  ·
   refine rb 24 (s := (is)) (fun W hm => (hm).tail) ?_
   refine qt 24 0 1 rfl vmv ?_
   refine qt 24 1 3 rfl vmv ?_
   refine qt 24 2 7 rfl vmv ?_
   refine qt 24 3 15 rfl (vadN a i (by omega)) ?_
   refine qt 24 4 31 rfl vmv ?_
   refine qt 24 5 63 rfl vmv ?_
   refine qt 24 6 127 rfl vmv ?_
   refine qt 24 7 255 rfl (vadN b i (by omega)) ?_
   refine qt 24 8 511 rfl vmv ?_
   refine qt 24 9 1023 rfl vmv ?_
   refine qt 24 10 2047 rfl vmv ?_
   refine qt 24 11 4095 rfl (vadN b i (by omega)) ?_
   refine qt 24 12 8191 rfl (fun W hm => rv_index (sz := K.s) (k := b + i) underlying39 type29 hK.symm rfl rfl (by omega)) ?_
   refine qt 24 14 24575 rfl vmv ?_
   refine qt 24 15 57343 rfl vmv ?_
   refine qt 24 16 122879 rfl vmv ?_
   refine qt 24 17 253951 rfl (vadN a i (by omega)) ?_
   refine qt 24 18 516095 rfl (fun W hm => rv_index (sz := K.s) (k := a + i) underlying39 type29 hK.symm rfl rfl (by omega)) ?_
   refine qa [13, 19] ?_
   refine qc 24 524287 rfl ?_ ?_
   ·
    refine wv (fun W hm => rv_loadCk underlying29 type29 hK.symm rfl hm (by omega)) ?_
    refine qn (fun W hm => (hm).tail) ?_
    refine qo 24 19 1048575 rfl ?_
    refine wv (fun W hm => rv_loadCk underlying29 type29 hK.symm rfl hm (by omega)) ?_
    refine qn (fun W hm => (hm).tail) ?_
    refine qt 24 20 2097151 rfl (fun W hm => rv_index (sz := K.s) (k := a + i) underlying39 type29 hK.symm rfl rfl (by omega)) ?_
    refine qo 24 21 4194303 rfl ?_
    refine WM_setEl (E := tCk K) (e := 29) (u := .agg (gt d (b + i)).1.toArray) (k := (a + i)) (p := g5) (n := n) (xs := d) (eis := []) (js := is) (yv := (gt d (b + i))) (fun W hm => hm) (fun _ _ hs => ⟨hs, rfl, (hR4 (b + i) (by omega))⟩) rfl type29 hK.symm (by omega) rfl rfl (Wd_none rfl) ?_
    refine qn (fun W hm => (hm).tail) ?_
    refine qt 24 22 8388607 rfl (fun W hm => rv_index (sz := K.s) (k := b + i) underlying39 type29 hK.symm rfl rfl (by omega)) ?_
    refine qo 24 23 16777215 rfl ?_
    refine WM_setEl (E := tCk K) (e := 29) (u := .agg (gt d (a + i)).1.toArray) (k := (b + i)) (p := g5) (n := n) (xs := (d.set (a + i) (gt d (b + i)))) (eis := []) (js := is) (yv := (gt d (a + i))) (fun W hm => hm) (fun _ _ hs => ⟨hs, rfl, (hR4 (a + i) (by omega))⟩) rfl type29 hK.symm (by omega) rfl rfl (Wd_none rfl) ?_
    refine qn (fun W hm => (hm).tail) ?_
    refine QB_done (by kernel_rfl) ?_
    exact QM_cut_normal () sl5 (fun W hm => hm) trivial
   refine qc 24 1040383 rfl ?_ ?_
   ·
    refine wv (fun W hm => rv_loadCk underlying29 type29 hK.symm rfl hm (by omega)) ?_
    refine qn (fun W hm => (hm).tail) ?_
    refine qo 24 13 1048575 rfl ?_
    refine wv (fun W hm => rv_loadCk underlying29 type29 hK.symm rfl hm (by omega)) ?_
    refine qn (fun W hm => (hm).tail) ?_
    refine qt 24 20 2097151 rfl (fun W hm => rv_index (sz := K.s) (k := a + i) underlying39 type29 hK.symm rfl rfl (by omega)) ?_
    refine qo 24 21 4194303 rfl ?_
    refine WM_setEl (E := tCk K) (e := 29) (u := .agg (gt d (b + i)).1.toArray) (k := (a + i)) (p := g5) (n := n) (xs := d) (eis := []) (js := is) (yv := (gt d (b + i))) (fun W hm => hm) (fun _ _ hs => ⟨hs, rfl, (hR4 (b + i) (by omega))⟩) rfl type29 hK.symm (by omega) rfl rfl (Wd_none rfl) ?_
    refine qn (fun W hm => (hm).tail) ?_
    refine qt 24 22 8388607 rfl (fun W hm => rv_index (sz := K.s) (k := b + i) underlying39 type29 hK.symm rfl rfl (by omega)) ?_
    refine qo 24 23 16777215 rfl ?_
    refine WM_setEl (E := tCk K) (e := 29) (u := .agg (gt d (a + i)).1.toArray) (k := (b + i)) (p := g5) (n := n) (xs := (d.set (a + i) (gt d (b + i)))) (eis := []) (js := is) (yv := (gt d (a + i))) (fun W hm => hm) (fun _ _ hs => ⟨hs, rfl, (hR4 (a + i) (by omega))⟩) rfl type29 hK.symm (by omega) rfl rfl (Wd_none rfl) ?_
    refine qn (fun W hm => (hm).tail) ?_
    refine QB_done (by kernel_rfl) ?_
    exact QM_cut_normal () sl5 (fun W hm => hm) trivial
   exact QBs_nil
  ·
   rintro ⟨⟩ -
   show QM 38 _ _ _ .normal [(0, .slice (some ⟨g5, 0, none⟩) n c), (1, .int .i64 ((a : Nat) : Int)), (2, .int .i64 ((b : Nat) : Int)), (3, .int .i64 ((k : Nat) : Int)), (10, .int .i64 ((i : Nat) : Int))] (I1 :: is)
   refine QM_block_normal (QM_then (CM_region (wm ?_)))
   refine wv (vadN i 1 (by omega)) ?_
   refine wa (WM_nil ?_)
   exact QM_round (i + 1, ((d.set (a + i) (gt d (b + i))).set (b + i) (gt d (a + i)))) sl5 (fun W hm => hm) ⟨(show swr (k - (i + 1)) (a + (i + 1)) (b + (i + 1)) ((d.set (a + i) (gt d (b + i))).set (b + i) (gt d (a + i))) = swr k a b xs from (swr_step (by omega)).symm.trans hF), (show (i + 1) ≤ k from by omega)⟩ (rl (by omega))
 ·have g3 := decide_eq_false h2
  refine CM_condF rfl g3 ?_
  refine CM_exit (QM_then_exit (QM_then_exit (QM_block_hit ?_)))
  have hE : swr k a b xs = d := ((swr_end (by omega)).symm.trans hF).symm
  exact QM_ret0 rfl (fun W hm => ⟨rfl, by rw [hE]; exact hm⟩)

theorem cb88 : Cb Try.prog 88 := ⟨f88, _, func88, rfl, by decide⟩
theorem srt60_ins_c {α : Type} [Inhabited α] (K : Ck α) (hK : K.s = 2) (cf : α → α → Int) (fc : FuncId) (B : Nat) (w0 : World) (is : List It) (H : CmpOk Try.prog fc K B w0 is cf) (A : Option Addr) (n c : Nat) (hn : n ≤ 68719476736) (a : Nat) (b : Nat) (xs : List (List Value × α)) (h1 : a ≤ n) (h2 : b ≤ n) (w : World) (hm : Mem B w0 (iOwn (tSl (tCk K) 29) [.slice A n c] xs :: is) w) :
  Calls Try.prog 88 #[.slice A n c, .int .i64 ((a : Nat) : Int), .int .i64 ((b : Nat) : Int), .func (.func fc) #[] #[]] w fun e w' => e = .returned (.tuple #[]) ∧ Mem B w0 (iOwn (tSl (tCk K) 29) [.slice A n c] (insL (ltc cf) a (b - a - 1) (a + 1) xs) :: is) w' := by
 refine call_enterW (L := [(0, .slice A n c), (1, .int .i64 ((a : Nat) : Int)), (2, .int .i64 ((b : Nat) : Int)), (3, .func (.func fc) #[] #[])]) (N := 53) func88 rfl rfl (Nat.le_of_ble_eq_true rfl) (argsL_cons rfl (argsL_cons rfl (argsL_cons rfl (argsL_cons rfl argsL_nil)))) hm ?_
 refine sr (wm ?_)
 refine wv (vadN a 1 (by omega)) ?_
 refine wa (nt' (CM_block ?_))
 refine CM_loop (σ := Nat × List (List Value × α)) (fun s => [(0, .slice A n c), (1, .int .i64 ((a : Nat) : Int)), (2, .int .i64 ((b : Nat) : Int)), (3, .func (.func fc) #[] #[]), (8, .int .i64 ((s.1 : Nat) : Int))]) (fun s => (iOwn (tSl (tCk K) 29) [.slice A n c] s.2 :: is)) (fun s => insL (ltc cf) a (b - s.1) s.1 s.2 = insL (ltc cf) a (b - a - 1) (a + 1) xs ∧ a < s.1) (fun s => b - s.1) (a + 1, xs) sl5 (fun W hm => hm) ⟨(show insL (ltc cf) a (b - (a + 1)) (a + 1) xs = insL (ltc cf) a (b - a - 1) (a + 1) xs from by rw [show b - (a + 1) = b - a - 1 by omega]), (show a < (a + 1) from by omega)⟩ ?_
 rintro ⟨i, d⟩ H1
 obtain ⟨hF, hai⟩ : insL (ltc cf) a (b - i) i d = insL (ltc cf) a (b - a - 1) (a + 1) xs ∧ a < i := H1
 show CM Try.prog 53 _ _ _ _ [(0, .slice A n c), (1, .int .i64 ((a : Nat) : Int)), (2, .int .i64 ((b : Nat) : Int)), (3, .func (.func fc) #[] #[]), (8, .int .i64 ((i : Nat) : Int))] (iOwn (tSl (tCk K) 29) [.slice A n c] d :: is)
 refine CM_seq (sr (wm (wm ?_)))
 refine wv vlss ?_
 refine nt' ?_
 by_cases h2 : ((i : Nat) : Int) < ((b : Nat) : Int)
 ·have g3 := decide_eq_true h2
  refine CM_condT rfl g3 ?_
  refine CM_skip (QM_then (CM_seq (CM_block (sr (wm (wa (nt' (CM_block ?_))))))))
  refine CM_loop (σ := Nat × List (List Value × α)) (fun s => [(0, .slice A n c), (1, .int .i64 ((a : Nat) : Int)), (2, .int .i64 ((b : Nat) : Int)), (3, .func (.func fc) #[] #[]), (8, .int .i64 ((i : Nat) : Int)), (9, .int .i64 ((s.1 : Nat) : Int))]) (fun s => (iOwn (tSl (tCk K) 29) [.slice A n c] s.2 :: is)) (fun s => ins1 (ltc cf) a s.1 s.2 = ins1 (ltc cf) a i d ∧ s.1 ≤ i ∧ a ≤ s.1) (fun s => s.1) (i, d) sl6 (fun W hm => hm) ⟨(show ins1 (ltc cf) a i d = ins1 (ltc cf) a i d from rfl), (show i ≤ i from by omega), (show a ≤ i from by omega)⟩ ?_
  rintro ⟨j, e⟩ H4
  obtain ⟨hG, hji, haj⟩ : ins1 (ltc cf) a j e = ins1 (ltc cf) a i d ∧ j ≤ i ∧ a ≤ j := H4
  show CM Try.prog 53 _ _ _ _ [(0, .slice A n c), (1, .int .i64 ((a : Nat) : Int)), (2, .int .i64 ((b : Nat) : Int)), (3, .func (.func fc) #[] #[]), (8, .int .i64 ((i : Nat) : Int)), (9, .int .i64 ((j : Nat) : Int))] (iOwn (tSl (tCk K) 29) [.slice A n c] e :: is)
  refine CM_seq (CM_seq ?_)
  refine CM_formO (n := 0) rfl (by omega) ?_
  rintro g5 rfl
  refine CM_regionD (by kernel_rfl) (by kernel_rfl) ?_
  refine qm (qm ?_)
  refine qv (fun W hm => rv_gtr rfl rfl) ?_
  refine qm ?_
  by_cases h6 : ((a : Nat) : Int) < ((j : Nat) : Int)
  ·have g7 := decide_eq_true h6
   refine qg vmv g7 ?_
   refine qg vmv g7 ?_
   refine qg vmv g7 ?_
   refine qg (fun W hm => rv_index (sz := K.s) (k := j) underlying39 type29 hK.symm rfl rfl (by omega)) g7 ?_
   refine qg (fun W hm => rv_loadCk underlying29 type29 hK.symm rfl hm (by omega)) g7 ?_
   refine qg vmv g7 ?_
   refine qg vmv g7 ?_
   refine qg (fun W hm => rv_subN (p := j) (q := 1) rfl rfl (by omega) (by omega)) g7 ?_
   refine qg (fun W hm => rv_index (sz := K.s) (k := j - 1) underlying39 type29 hK.symm rfl rfl (by omega)) g7 ?_
   refine qg (fun W hm => rv_loadCk underlying29 type29 hK.symm rfl hm (by omega)) g7 ?_
   refine QR_callV (cl_val (first := []) (caps := []) (vs := [.agg (gt e j).1.toArray, .agg (gt e (j - 1)).1.toArray]) (args := [.agg (gt e j).1.toArray, .agg (gt e (j - 1)).1.toArray]) H.cb rfl rfl rfl) (fun W hm => H.go W (gt e j) (gt e (j - 1)) hm.tail (hm.ck (by omega)).1 (hm.ck (by omega)).1) (Wd_some rfl rfl rfl (bw g7 rfl)) (by decide) ?_
   refine qg vlss g7 ?_
   refine qv (vpT g7) ?_
   refine nq' ?_
   by_cases h8 : (cf (gt e j).2 (gt e (j - 1)).2) < 0
   ·have g9 := decide_eq_true h8
    refine CM_condT rfl g9 ?_
    refine CM_skip (QM_then (CM_seq (CM_block (CM_ck ?_))))
    intro hR10
    let I1 : It := iOwn (tSl (tCk K) 29) [.slice (some ⟨g5, 0, none⟩) n c] ((e.set j (gt e (j - 1))).set (j - 1) (gt e j))
    refine CM_cut (σ := Unit) (fun _ => [(0, .slice (some ⟨g5, 0, none⟩) n c), (1, .int .i64 ((a : Nat) : Int)), (2, .int .i64 ((b : Nat) : Int)), (3, .func (.func fc) #[] #[]), (8, .int .i64 ((i : Nat) : Int)), (9, .int .i64 ((j : Nat) : Int))]) (fun _ => (I1 :: is)) (fun _ => True) ?_ ?_
    ·
     refine rb 18 (s := (is)) (fun W hm => (hm).tail) ?_
     refine qt 18 0 1 rfl vmv ?_
     refine qt 18 1 3 rfl vmv ?_
     refine qt 18 2 7 rfl vmv ?_
     refine qt 18 3 15 rfl vmv ?_
     refine qt 18 4 31 rfl (fun W hm => rv_subN (p := j) (q := 1) rfl rfl (by omega) (by omega)) ?_
     refine qt 18 5 63 rfl vmv ?_
     refine qt 18 6 127 rfl vmv ?_
     refine qt 18 7 255 rfl (fun W hm => rv_subN (p := j) (q := 1) rfl rfl (by omega) (by omega)) ?_
     refine qt 18 8 511 rfl (fun W hm => rv_index (sz := K.s) (k := j - 1) underlying39 type29 hK.symm rfl rfl (by omega)) ?_
     refine qt 18 10 1535 rfl vmv ?_
     refine qt 18 11 3583 rfl vmv ?_
     refine qt 18 12 7679 rfl (fun W hm => rv_index (sz := K.s) (k := j) underlying39 type29 hK.symm rfl rfl (by omega)) ?_
     refine qa [9, 13] ?_
     refine qc 18 8191 rfl ?_ ?_
     ·
      refine wv (fun W hm => rv_loadCk underlying29 type29 hK.symm rfl hm (by omega)) ?_
      refine qn (fun W hm => (hm).tail) ?_
      refine qo 18 13 16383 rfl ?_
      refine wv (fun W hm => rv_loadCk underlying29 type29 hK.symm rfl hm (by omega)) ?_
      refine qn (fun W hm => (hm).tail) ?_
      refine qt 18 14 32767 rfl (fun W hm => rv_index (sz := K.s) (k := j) underlying39 type29 hK.symm rfl rfl (by omega)) ?_
      refine qo 18 15 65535 rfl ?_
      refine WM_setEl (E := tCk K) (e := 29) (u := .agg (gt e (j - 1)).1.toArray) (k := j) (p := g5) (n := n) (xs := e) (eis := []) (js := is) (yv := (gt e (j - 1))) (fun W hm => hm) (fun _ _ hs => ⟨hs, rfl, (hR10 (j - 1) (by omega))⟩) rfl type29 hK.symm (by omega) rfl rfl (Wd_none rfl) ?_
      refine qn (fun W hm => (hm).tail) ?_
      refine qt 18 16 131071 rfl (fun W hm => rv_index (sz := K.s) (k := j - 1) underlying39 type29 hK.symm rfl rfl (by omega)) ?_
      refine qo 18 17 262143 rfl ?_
      refine WM_setEl (E := tCk K) (e := 29) (u := .agg (gt e j).1.toArray) (k := (j - 1)) (p := g5) (n := n) (xs := (e.set j (gt e (j - 1)))) (eis := []) (js := is) (yv := (gt e j)) (fun W hm => hm) (fun _ _ hs => ⟨hs, rfl, (hR10 j (by omega))⟩) rfl type29 hK.symm (by omega) rfl rfl (Wd_none rfl) ?_
      refine qn (fun W hm => (hm).tail) ?_
      refine QB_done (by kernel_rfl) ?_
      exact QM_cut_normal () sl6 (fun W hm => hm) trivial
     refine qc 18 15871 rfl ?_ ?_
     ·
      refine wv (fun W hm => rv_loadCk underlying29 type29 hK.symm rfl hm (by omega)) ?_
      refine qn (fun W hm => (hm).tail) ?_
      refine qo 18 9 16383 rfl ?_
      refine wv (fun W hm => rv_loadCk underlying29 type29 hK.symm rfl hm (by omega)) ?_
      refine qn (fun W hm => (hm).tail) ?_
      refine qt 18 14 32767 rfl (fun W hm => rv_index (sz := K.s) (k := j) underlying39 type29 hK.symm rfl rfl (by omega)) ?_
      refine qo 18 15 65535 rfl ?_
      refine WM_setEl (E := tCk K) (e := 29) (u := .agg (gt e (j - 1)).1.toArray) (k := j) (p := g5) (n := n) (xs := e) (eis := []) (js := is) (yv := (gt e (j - 1))) (fun W hm => hm) (fun _ _ hs => ⟨hs, rfl, (hR10 (j - 1) (by omega))⟩) rfl type29 hK.symm (by omega) rfl rfl (Wd_none rfl) ?_
      refine qn (fun W hm => (hm).tail) ?_
      refine qt 18 16 131071 rfl (fun W hm => rv_index (sz := K.s) (k := j - 1) underlying39 type29 hK.symm rfl rfl (by omega)) ?_
      refine qo 18 17 262143 rfl ?_
      refine WM_setEl (E := tCk K) (e := 29) (u := .agg (gt e j).1.toArray) (k := (j - 1)) (p := g5) (n := n) (xs := (e.set j (gt e (j - 1)))) (eis := []) (js := is) (yv := (gt e j)) (fun W hm => hm) (fun _ _ hs => ⟨hs, rfl, (hR10 j (by omega))⟩) rfl type29 hK.symm (by omega) rfl rfl (Wd_none rfl) ?_
      refine qn (fun W hm => (hm).tail) ?_
      refine QB_done (by kernel_rfl) ?_
      exact QM_cut_normal () sl6 (fun W hm => hm) trivial
     exact QBs_nil
    ·
     rintro ⟨⟩ -
     show QM 53 _ _ _ .normal [(0, .slice (some ⟨g5, 0, none⟩) n c), (1, .int .i64 ((a : Nat) : Int)), (2, .int .i64 ((b : Nat) : Int)), (3, .func (.func fc) #[] #[]), (8, .int .i64 ((i : Nat) : Int)), (9, .int .i64 ((j : Nat) : Int))] (I1 :: is)
     refine QM_block_normal (QM_then (CM_region (wm ?_)))
     refine wv (fun W hm => rv_subN (p := j) (q := 1) rfl rfl (by omega) (by omega)) ?_
     refine wa (WM_nil ?_)
     exact QM_round (j - 1, ((e.set j (gt e (j - 1))).set (j - 1) (gt e j))) sl6 (fun W hm => hm) ⟨(show ins1 (ltc cf) a (j - 1) ((e.set j (gt e (j - 1))).set (j - 1) (gt e j)) = ins1 (ltc cf) a i d from (ins1_t (by omega) (show decide (cf (gt e j).2 (gt e (j - 1)).2 < 0) = true from decide_eq_true (by omega))).symm.trans hG), (show (j - 1) ≤ i from by omega), (show a ≤ (j - 1) from by omega)⟩ (show (j - 1) < j from by omega)
   ·have g9 := decide_eq_false h8
    refine CM_condF rfl g9 ?_
    refine CM_exit (QM_then_exit (QM_then_exit (QM_block_hit (QM_block_normal (QM_then (CM_region (wm ?_)))))))
    refine wv (vadN i 1 (by omega)) ?_
    refine wa (WM_nil ?_)
    exact QM_round (i + 1, e) sl5 (fun W hm => hm) ⟨(show insL (ltc cf) a (b - (i + 1)) (i + 1) e = insL (ltc cf) a (b - a - 1) (a + 1) xs from (congrArg (insL (ltc cf) a (b - (i + 1)) (i + 1)) ((ins1_f (by rintro ⟨q1, q2⟩; have q3 := of_decide_eq_true (p := cf (gt e j).2 (gt e (j - 1)).2 < 0) q2; omega)).symm.trans hG)).trans ((insL_step (by omega)).symm.trans hF)), (show a < (i + 1) from by omega)⟩ (rl (by omega))
  ·have g7 := decide_eq_false h6
   refine qs g7 ?_
   refine qs g7 ?_
   refine qs g7 ?_
   refine qs g7 ?_
   refine qs g7 ?_
   refine qs g7 ?_
   refine qs g7 ?_
   refine qs g7 ?_
   refine qs g7 ?_
   refine qs g7 ?_
   refine qs g7 ?_
   refine qs g7 ?_
   refine qv (vpF g7) ?_
   refine nq' ?_
   refine CM_condF rfl rfl ?_
   refine CM_exit (QM_then_exit (QM_then_exit (QM_block_hit (QM_block_normal (QM_then (CM_region (wm ?_)))))))
   refine wv (vadN i 1 (by omega)) ?_
   refine wa (WM_nil ?_)
   exact QM_round (i + 1, e) sl5 (fun W hm => hm) ⟨(show insL (ltc cf) a (b - (i + 1)) (i + 1) e = insL (ltc cf) a (b - a - 1) (a + 1) xs from (congrArg (insL (ltc cf) a (b - (i + 1)) (i + 1)) ((ins1_f (by rintro ⟨q1, q2⟩; have q3 := of_decide_eq_true (p := cf (gt e j).2 (gt e (j - 1)).2 < 0) q2; omega)).symm.trans hG)).trans ((insL_step (by omega)).symm.trans hF)), (show a < (i + 1) from by omega)⟩ (rl (by omega))
 ·have g3 := decide_eq_false h2
  refine CM_condF rfl g3 ?_
  refine CM_exit (QM_then_exit (QM_then_exit (QM_block_hit ?_)))
  have hE : insL (ltc cf) a (b - a - 1) (a + 1) xs = d := ((insL_end (by omega)).symm.trans hF).symm
  exact QM_ret0 rfl (fun W hm => ⟨rfl, by rw [hE]; exact hm⟩)

theorem cb91 : Cb Try.prog 91 := ⟨f91, _, func91, rfl, by decide⟩
theorem srt60_rot_c {α : Type} [Inhabited α] (K : Ck α) (hK : K.s = 2) (cf : α → α → Int) (fc : FuncId) (B : Nat) (w0 : World) (is : List It) (H : CmpOk Try.prog fc K B w0 is cf) (A : Option Addr) (n c : Nat) (hn : n ≤ 68719476736) (a : Nat) (m : Nat) (b : Nat) (xs : List (List Value × α)) (h1 : a < m) (h2 : m < b) (h3 : b ≤ n) (w : World) (hm : Mem B w0 (iOwn (tSl (tCk K) 29) [.slice A n c] xs :: is) w) :
  Calls Try.prog 91 #[.slice A n c, .int .i64 ((a : Nat) : Int), .int .i64 ((m : Nat) : Int), .int .i64 ((b : Nat) : Int), .func (.func fc) #[] #[]] w fun e w' => e = .returned (.tuple #[]) ∧ Mem B w0 (iOwn (tSl (tCk K) 29) [.slice A n c] (rot (b - a) m (m - a) (b - m) xs) :: is) w' := by
 refine call_enterW (L := [(0, .slice A n c), (1, .int .i64 ((a : Nat) : Int)), (2, .int .i64 ((m : Nat) : Int)), (3, .int .i64 ((b : Nat) : Int)), (4, .func (.func fc) #[] #[])]) (N := 58) func91 rfl rfl (Nat.le_of_ble_eq_true rfl) (argsL_cons rfl (argsL_cons rfl (argsL_cons rfl (argsL_cons rfl (argsL_cons rfl argsL_nil))))) hm ?_
 refine sr (wm (wm ?_))
 refine wv (fun W hm => rv_subN (p := m) (q := a) rfl rfl (by omega) (by omega)) ?_
 refine wa (nt' (sr (wm (wm ?_))))
 refine wv (fun W hm => rv_subN (p := b) (q := m) rfl rfl (by omega) (by omega)) ?_
 refine wa (nt' (CM_seq (CM_block ?_)))
 refine CM_loop (σ := Nat × Nat × Nat × List (List Value × α)) (fun s => [(0, .slice A n c), (2, .int .i64 ((m : Nat) : Int)), (4, .func (.func fc) #[] #[]), (10, .int .i64 ((s.1 : Nat) : Int)), (11, .int .i64 ((s.2.1 : Nat) : Int))]) (fun s => (iOwn (tSl (tCk K) 29) [.slice A n c] s.2.2.2 :: is)) (fun s => rot s.2.2.1 m s.1 s.2.1 s.2.2.2 = rot (b - a) m (m - a) (b - m) xs ∧ s.1 + s.2.1 ≤ s.2.2.1 ∧ 0 < s.1 ∧ 0 < s.2.1 ∧ a + s.1 ≤ m ∧ m + s.2.1 ≤ b) (fun s => s.1 + s.2.1) (m - a, b - m, b - a, xs) sl5 (fun W hm => hm) ⟨(show rot (b - a) m (m - a) (b - m) xs = rot (b - a) m (m - a) (b - m) xs from rfl), (show (m - a) + (b - m) ≤ (b - a) from by omega), (show 0 < (m - a) from by omega), (show 0 < (b - m) from by omega), (show a + (m - a) ≤ m from by omega), (show m + (b - m) ≤ b from by omega)⟩ ?_
 rintro ⟨i, j, f, d⟩ H1
 obtain ⟨hF, hf5, hf6, hf7, hf8, hf9⟩ : rot f m i j d = rot (b - a) m (m - a) (b - m) xs ∧ i + j ≤ f ∧ 0 < i ∧ 0 < j ∧ a + i ≤ m ∧ m + j ≤ b := H1
 show CM Try.prog 58 _ _ _ _ [(0, .slice A n c), (2, .int .i64 ((m : Nat) : Int)), (4, .func (.func fc) #[] #[]), (10, .int .i64 ((i : Nat) : Int)), (11, .int .i64 ((j : Nat) : Int))] (iOwn (tSl (tCk K) 29) [.slice A n c] d :: is)
 refine CM_seq (sr (wm (wm ?_)))
 refine wv vneq ?_
 refine nt' ?_
 by_cases h2 : ((i : Nat) : Int) = ((j : Nat) : Int)
 ·have g3 : (((i : Nat) : Int) != ((j : Nat) : Int)) = false := by rw [h2]; exact bne_self_eq_false _
  refine CM_condF rfl g3 ?_
  refine CM_exit (QM_then_exit (QM_then_exit (QM_block_hit (QM_then (CM_region (wm (wm (wm ?_))))))))
  refine wv (fun W hm => rv_subN (p := m) (q := i) rfl rfl (by omega) (by omega)) ?_
  refine wm (wm (wm ?_))
  refine WM_callW (χ := Unit) (val := fun _ => .tuple #[]) (js := fun _ => (iOwn (tSl (tCk K) 29) [.slice A n c] (swr i (m - i) m d) :: is)) (cl_fn cb92 rfl) (fun W hm => (srt60_swr_c K hK cf fc B w0 is H A n c hn (m - i) m i d (by omega) (by omega) W hm).mono (fun _ _ h => ⟨(), h.1, h.2⟩)) (Wd_none rfl) (by decide) (fun _ => ?_)
  refine WM_nil ?_
  have hE : rot (b - a) m (m - a) (b - m) xs = (swr i (m - i) m d) := ((rot_eq (by omega) hf5 hf6).symm.trans hF).symm
  exact QM_ret0 rfl (fun W hm => ⟨rfl, by rw [hE]; exact hm⟩)
 ·have g3 : (((i : Nat) : Int) != ((j : Nat) : Int)) = true := bne_iff_ne.2 h2
  refine CM_condT rfl g3 ?_
  refine CM_skip (QM_then (CM_block (sr (wm (wm ?_)))))
  refine wv (fun W hm => rv_gtr rfl rfl) ?_
  refine nt' ?_
  by_cases h4 : ((j : Nat) : Int) < ((i : Nat) : Int)
  ·have g5 := decide_eq_true h4
   refine CM_condT rfl g5 ?_
   refine sr (wm (wm (wm ?_)))
   refine wv (fun W hm => rv_subN (p := m) (q := i) rfl rfl (by omega) (by omega)) ?_
   refine wm (wm (wm ?_))
   refine WM_callW (χ := Unit) (val := fun _ => .tuple #[]) (js := fun _ => (iOwn (tSl (tCk K) 29) [.slice A n c] (swr j (m - i) m d) :: is)) (cl_fn cb92 rfl) (fun W hm => (srt60_swr_c K hK cf fc B w0 is H A n c hn (m - i) m j d (by omega) (by omega) W hm).mono (fun _ _ h => ⟨(), h.1, h.2⟩)) (Wd_none rfl) (by decide) (fun _ => ?_)
   refine nt' (CM_region (wm (wm ?_)))
   refine wv (fun W hm => rv_subN (p := i) (q := j) rfl rfl (by omega) (by omega)) ?_
   refine wa (WM_nil (QM_block_normal ?_))
   exact QM_round (i - j, j, f - 1, (swr j (m - i) m d)) sl5 (fun W hm => hm) ⟨(show rot (f - 1) m (i - j) j (swr j (m - i) m d) = rot (b - a) m (m - a) (b - m) xs from (rot_gt (by omega) hf5).symm.trans hF), (show (i - j) + j ≤ (f - 1) from by omega), (show 0 < (i - j) from by omega), (show 0 < j from by omega), (show a + (i - j) ≤ m from by omega), (show m + j ≤ b from by omega)⟩ (show (i - j) + j < i + j from by omega)
  ·have g5 := decide_eq_false h4
   refine CM_condF rfl g5 ?_
   refine sr (wm (wm (wm ?_)))
   refine wv (fun W hm => rv_subN (p := m) (q := i) rfl rfl (by omega) (by omega)) ?_
   refine wm (wm ?_)
   refine wv (vadN m j (by omega)) ?_
   refine wm ?_
   refine wv (fun W hm => rv_subN (p := m + j) (q := i) rfl rfl (by omega) (by omega)) ?_
   refine wm (wm ?_)
   refine WM_callW (χ := Unit) (val := fun _ => .tuple #[]) (js := fun _ => (iOwn (tSl (tCk K) 29) [.slice A n c] (swr i (m - i) (m + j - i) d) :: is)) (cl_fn cb92 rfl) (fun W hm => (srt60_swr_c K hK cf fc B w0 is H A n c hn (m - i) (m + j - i) i d (by omega) (by omega) W hm).mono (fun _ _ h => ⟨(), h.1, h.2⟩)) (Wd_none rfl) (by decide) (fun _ => ?_)
   refine nt' (CM_region (wm (wm ?_)))
   refine wv (fun W hm => rv_subN (p := j) (q := i) rfl rfl (by omega) (by omega)) ?_
   refine wa (WM_nil (QM_block_normal ?_))
   exact QM_round (i, j - i, f - 1, (swr i (m - i) (m + j - i) d)) sl5 (fun W hm => hm) ⟨(show rot (f - 1) m i (j - i) (swr i (m - i) (m + j - i) d) = rot (b - a) m (m - a) (b - m) xs from (rot_lt (by omega) hf5).symm.trans hF), (show i + (j - i) ≤ (f - 1) from by omega), (show 0 < i from by omega), (show 0 < (j - i) from by omega), (show a + i ≤ m from by omega), (show m + (j - i) ≤ b from by omega)⟩ (show i + (j - i) < i + j from by omega)

theorem cb89 : Cb Try.prog 89 := ⟨f89, _, func89, rfl, by decide⟩
theorem srt60_symm_c {α : Type} [Inhabited α] (K : Ck α) (hK : K.s = 2) (cf : α → α → Int) (fc : FuncId) (B : Nat) (w0 : World) (is : List It) (H : CmpOk Try.prog fc K B w0 is cf) (A : Option Addr) (n c : Nat) (hn : n ≤ 68719476736) :
  ∀ (f : Nat) (a : Nat) (m : Nat) (b : Nat) (xs : List (List Value × α)) (h1 : b - a ≤ f) (h2 : a < m) (h3 : m < b) (h4 : b ≤ n) (w : World) (hm : Mem B w0 (iOwn (tSl (tCk K) 29) [.slice A n c] xs :: is) w),
  Calls Try.prog 89 #[.slice A n c, .int .i64 ((a : Nat) : Int), .int .i64 ((m : Nat) : Int), .int .i64 ((b : Nat) : Int), .func (.func fc) #[] #[]] w fun e w' => e = .returned (.tuple #[]) ∧ Mem B w0 (iOwn (tSl (tCk K) 29) [.slice A n c] (symm (ltc cf) f a m b xs) :: is) w' := by
 intro f
 revert A
 induction f with
 | zero => intro A a m b xs h1 h2 h3 h4 w hm; exact absurd h1 (by omega)
 | succ f ih =>
 intro A a m b xs h1 h2 h3 h4 w hm
 replace ih := ih A
 refine call_enterW (L := [(0, .slice A n c), (1, .int .i64 ((a : Nat) : Int)), (2, .int .i64 ((m : Nat) : Int)), (3, .int .i64 ((b : Nat) : Int)), (4, .func (.func fc) #[] #[])]) (N := 220) func89 rfl rfl (Nat.le_of_ble_eq_true rfl) (argsL_cons rfl (argsL_cons rfl (argsL_cons rfl (argsL_cons rfl (argsL_cons rfl argsL_nil))))) hm ?_
 refine CM_seq (sr (wm (wm ?_)))
 refine wv (fun W hm => rv_subN (p := m) (q := a) rfl rfl (by omega) (by omega)) ?_
 refine wv (fun W hm => rv_eql rfl rfl) ?_
 refine nt' ?_
 by_cases h1 : ((m - a : Nat) : Int) = 1
 ·have g2 := beq_iff_eq.2 h1
  refine CM_condT rfl g2 ?_
  refine sr (wm (wa (nt' (sr (wm (wa (nt' (CM_seq (CM_block ?_)))))))))
  refine CM_loop (σ := Nat × Nat × Nat) (fun s => [(0, .slice A n c), (1, .int .i64 ((a : Nat) : Int)), (4, .func (.func fc) #[] #[]), (10, .int .i64 ((s.1 : Nat) : Int)), (11, .int .i64 ((s.2.1 : Nat) : Int))]) (fun s => (iOwn (tSl (tCk K) 29) [.slice A n c] xs :: is)) (fun s => bsr (fun h => ltc cf (gt xs h) (gt xs a)) s.2.2 s.1 s.2.1 = bsr (fun h => ltc cf (gt xs h) (gt xs a)) (b - m) m b ∧ s.2.1 ≤ s.2.2 + s.1 ∧ m ≤ s.1 ∧ s.1 ≤ s.2.1 ∧ s.2.1 ≤ b) (fun s => s.2.1 - s.1) (m, b, b - m) sl5 (fun W hm => hm) ⟨(show bsr (fun h => ltc cf (gt xs h) (gt xs a)) (b - m) m b = bsr (fun h => ltc cf (gt xs h) (gt xs a)) (b - m) m b from rfl), (show b ≤ (b - m) + m from by omega), (show m ≤ m from by omega), (show m ≤ b from by omega), (show b ≤ b from by omega)⟩ ?_
  rintro ⟨i, j, f0⟩ H3
  obtain ⟨hB, hf5, hf6, hf7, hf8⟩ : bsr (fun h => ltc cf (gt xs h) (gt xs a)) f0 i j = bsr (fun h => ltc cf (gt xs h) (gt xs a)) (b - m) m b ∧ j ≤ f0 + i ∧ m ≤ i ∧ i ≤ j ∧ j ≤ b := H3
  show CM Try.prog 220 _ _ _ _ [(0, .slice A n c), (1, .int .i64 ((a : Nat) : Int)), (4, .func (.func fc) #[] #[]), (10, .int .i64 ((i : Nat) : Int)), (11, .int .i64 ((j : Nat) : Int))] (iOwn (tSl (tCk K) 29) [.slice A n c] xs :: is)
  refine CM_seq (sr (wm (wm ?_)))
  refine wv vlss ?_
  refine nt' ?_
  by_cases h4 : ((i : Nat) : Int) < ((j : Nat) : Int)
  ·have g5 := decide_eq_true h4
   refine CM_condT rfl g5 ?_
   refine CM_skip (QM_then (CM_block (sr (wm (wm ?_)))))
   refine wv (vadN i j (by omega)) ?_
   refine wv (fun W hm => rv_convIU (p := i + j) underlying3 underlying103 rfl (by omega)) ?_
   refine wv (fun W hm => rv_half rfl) ?_
   refine wv (fun W hm => rv_convUI (p := (i + j) / 2) underlying103 underlying3 rfl (by omega)) ?_
   refine wa (nt' (CM_seq ?_))
   refine CM_formO (n := 0) rfl (by omega) ?_
   rintro g6 rfl
   refine CM_regionD (by kernel_rfl) (by kernel_rfl) ?_
   refine qm (qm (qm ?_))
   refine qv (fun W hm => rv_index (sz := K.s) (k := (i + j) / 2) underlying39 type29 hK.symm rfl rfl (by omega)) ?_
   refine qv (fun W hm => rv_loadCk underlying29 type29 hK.symm rfl hm (by omega)) ?_
   refine qm (qm ?_)
   refine qv (fun W hm => rv_index (sz := K.s) (k := a) underlying39 type29 hK.symm rfl rfl (by omega)) ?_
   refine qv (fun W hm => rv_loadCk underlying29 type29 hK.symm rfl hm (by omega)) ?_
   refine QR_callV (cl_val (first := []) (caps := []) (vs := [.agg (gt xs ((i + j) / 2)).1.toArray, .agg (gt xs a).1.toArray]) (args := [.agg (gt xs ((i + j) / 2)).1.toArray, .agg (gt xs a).1.toArray]) H.cb rfl rfl rfl) (fun W hm => H.go W (gt xs ((i + j) / 2)) (gt xs a) hm.tail (hm.ck (by omega)).1 (hm.ck (by omega)).1) (Wd_none rfl) (by decide) ?_
   refine qv vlss ?_
   refine nq' ?_
   by_cases h7 : (cf (gt xs ((i + j) / 2)).2 (gt xs a).2) < 0
   ·have g8 := decide_eq_true h7
    refine CM_condT rfl g8 ?_
    refine CM_region (wm ?_)
    refine wv (fun W hm => rv_addN (p := (i + j) / 2) (q := 1) rfl rfl (by omega)) ?_
    refine wa (WM_nil (QM_block_normal ?_))
    exact QM_round ((i + j) / 2 + 1, j, f0 - 1) sl5 (fun W hm => hm) ⟨(show bsr (fun h => ltc cf (gt xs h) (gt xs a)) (f0 - 1) ((i + j) / 2 + 1) j = bsr (fun h => ltc cf (gt xs h) (gt xs a)) (b - m) m b from (bsr_t (by omega) hf5 (show decide (cf (gt xs ((i + j) / 2)).2 (gt xs a).2 < 0) = true from decide_eq_true (by omega))).symm.trans hB), (show j ≤ (f0 - 1) + ((i + j) / 2 + 1) from by omega), (show m ≤ ((i + j) / 2 + 1) from by omega), (show ((i + j) / 2 + 1) ≤ j from by omega), (show j ≤ b from by omega)⟩ (show j - ((i + j) / 2 + 1) < j - i from by omega)
   ·have g8 := decide_eq_false h7
    refine CM_condF rfl g8 ?_
    refine CM_region (wm (wa (WM_nil (QM_block_normal ?_))))
    exact QM_round (i, (i + j) / 2, f0 - 1) sl5 (fun W hm => hm) ⟨(show bsr (fun h => ltc cf (gt xs h) (gt xs a)) (f0 - 1) i ((i + j) / 2) = bsr (fun h => ltc cf (gt xs h) (gt xs a)) (b - m) m b from (bsr_f (by omega) hf5 (show decide (cf (gt xs ((i + j) / 2)).2 (gt xs a).2 < 0) = false from decide_eq_false (by omega))).symm.trans hB), (show ((i + j) / 2) ≤ (f0 - 1) + i from by omega), (show m ≤ i from by omega), (show i ≤ ((i + j) / 2) from by omega), (show ((i + j) / 2) ≤ b from by omega)⟩ (show ((i + j) / 2) - i < j - i from by omega)
  ·have g5 := decide_eq_false h4
   refine CM_condF rfl g5 ?_
   refine CM_exit (QM_then_exit (QM_then_exit ?_))
   have hA : bsr (fun h => ltc cf (gt xs h) (gt xs a)) (b - m) m b = i := hB.symm.trans (bsr_e (by omega))
   refine QM_block_hit (QM_then (CM_seq (sr (wm (wa (nt' (CM_block ?_)))))))
   refine CM_loop (σ := Nat × List (List Value × α)) (fun s => [(0, .slice A n c), (10, .int .i64 ((i : Nat) : Int)), (13, .int .i64 ((s.1 : Nat) : Int))]) (fun s => (iOwn (tSl (tCk K) 29) [.slice A n c] s.2 :: is)) (fun s => mvU (i - 1 - s.1) s.1 s.2 = mvU (i - 1 - a) a xs ∧ a ≤ s.1) (fun s => i - 1 - s.1) (a, xs) sl3 (fun W hm => hm) ⟨(show mvU (i - 1 - a) a xs = mvU (i - 1 - a) a xs from rfl), (show a ≤ a from by omega)⟩ ?_
   rintro ⟨k, d⟩ H9
   obtain ⟨hU, hf9⟩ : mvU (i - 1 - k) k d = mvU (i - 1 - a) a xs ∧ a ≤ k := H9
   show CM Try.prog 220 _ _ _ _ [(0, .slice A n c), (10, .int .i64 ((i : Nat) : Int)), (13, .int .i64 ((k : Nat) : Int))] (iOwn (tSl (tCk K) 29) [.slice A n c] d :: is)
   refine CM_seq (sr (wm (wm ?_)))
   refine wv (fun W hm => rv_subN (p := i) (q := 1) rfl rfl (by omega) (by omega)) ?_
   refine wv vlss ?_
   refine nt' ?_
   by_cases h10 : ((k : Nat) : Int) < ((i - 1 : Nat) : Int)
   ·have g11 := decide_eq_true h10
    refine CM_condT rfl g11 ?_
    refine CM_skip (QM_then (CM_seq (CM_block ?_)))
    refine CM_formO (n := 0) rfl (by omega) ?_
    rintro g13 rfl
    refine CM_ck ?_
    intro hR12
    let I1 : It := iOwn (tSl (tCk K) 29) [.slice (some ⟨g13, 0, none⟩) n c] ((d.set k (gt d (k + 1))).set (k + 1) (gt d k))
    refine CM_cut (σ := Unit) (fun _ => [(0, .slice (some ⟨g13, 0, none⟩) n c), (10, .int .i64 ((i : Nat) : Int)), (13, .int .i64 ((k : Nat) : Int))]) (fun _ => (I1 :: is)) (fun _ => True) ?_ ?_
    ·
     refine rb 18 (s := (is)) (fun W hm => (hm).tail) ?_
     refine qt 18 0 1 rfl vmv ?_
     refine qt 18 1 3 rfl vmv ?_
     refine qt 18 2 7 rfl vmv ?_
     refine qt 18 3 15 rfl vmv ?_
     refine qt 18 4 31 rfl (vadN k 1 (by omega)) ?_
     refine qt 18 5 63 rfl vmv ?_
     refine qt 18 6 127 rfl vmv ?_
     refine qt 18 7 255 rfl (vadN k 1 (by omega)) ?_
     refine qt 18 8 511 rfl (fun W hm => rv_index (sz := K.s) (k := k + 1) underlying39 type29 hK.symm rfl rfl (by omega)) ?_
     refine qt 18 10 1535 rfl vmv ?_
     refine qt 18 11 3583 rfl vmv ?_
     refine qt 18 12 7679 rfl (fun W hm => rv_index (sz := K.s) (k := k) underlying39 type29 hK.symm rfl rfl (by omega)) ?_
     refine qa [9, 13] ?_
     refine qc 18 8191 rfl ?_ ?_
     ·
      refine wv (fun W hm => rv_loadCk underlying29 type29 hK.symm rfl hm (by omega)) ?_
      refine qn (fun W hm => (hm).tail) ?_
      refine qo 18 13 16383 rfl ?_
      refine wv (fun W hm => rv_loadCk underlying29 type29 hK.symm rfl hm (by omega)) ?_
      refine qn (fun W hm => (hm).tail) ?_
      refine qt 18 14 32767 rfl (fun W hm => rv_index (sz := K.s) (k := k) underlying39 type29 hK.symm rfl rfl (by omega)) ?_
      refine qo 18 15 65535 rfl ?_
      refine WM_setEl (E := tCk K) (e := 29) (u := .agg (gt d (k + 1)).1.toArray) (k := k) (p := g13) (n := n) (xs := d) (eis := []) (js := is) (yv := (gt d (k + 1))) (fun W hm => hm) (fun _ _ hs => ⟨hs, rfl, (hR12 (k + 1) (by omega))⟩) rfl type29 hK.symm (by omega) rfl rfl (Wd_none rfl) ?_
      refine qn (fun W hm => (hm).tail) ?_
      refine qt 18 16 131071 rfl (fun W hm => rv_index (sz := K.s) (k := k + 1) underlying39 type29 hK.symm rfl rfl (by omega)) ?_
      refine qo 18 17 262143 rfl ?_
      refine WM_setEl (E := tCk K) (e := 29) (u := .agg (gt d k).1.toArray) (k := (k + 1)) (p := g13) (n := n) (xs := (d.set k (gt d (k + 1)))) (eis := []) (js := is) (yv := (gt d k)) (fun W hm => hm) (fun _ _ hs => ⟨hs, rfl, (hR12 k (by omega))⟩) rfl type29 hK.symm (by omega) rfl rfl (Wd_none rfl) ?_
      refine qn (fun W hm => (hm).tail) ?_
      refine QB_done (by kernel_rfl) ?_
      exact QM_cut_normal () sl3 (fun W hm => hm) trivial
     refine qc 18 15871 rfl ?_ ?_
     ·
      refine wv (fun W hm => rv_loadCk underlying29 type29 hK.symm rfl hm (by omega)) ?_
      refine qn (fun W hm => (hm).tail) ?_
      refine qo 18 9 16383 rfl ?_
      refine wv (fun W hm => rv_loadCk underlying29 type29 hK.symm rfl hm (by omega)) ?_
      refine qn (fun W hm => (hm).tail) ?_
      refine qt 18 14 32767 rfl (fun W hm => rv_index (sz := K.s) (k := k) underlying39 type29 hK.symm rfl rfl (by omega)) ?_
      refine qo 18 15 65535 rfl ?_
      refine WM_setEl (E := tCk K) (e := 29) (u := .agg (gt d (k + 1)).1.toArray) (k := k) (p := g13) (n := n) (xs := d) (eis := []) (js := is) (yv := (gt d (k + 1))) (fun W hm => hm) (fun _ _ hs => ⟨hs, rfl, (hR12 (k + 1) (by omega))⟩) rfl type29 hK.symm (by omega) rfl rfl (Wd_none rfl) ?_
      refine qn (fun W hm => (hm).tail) ?_
      refine qt 18 16 131071 rfl (fun W hm => rv_index (sz := K.s) (k := k + 1) underlying39 type29 hK.symm rfl rfl (by omega)) ?_
      refine qo 18 17 262143 rfl ?_
      refine WM_setEl (E := tCk K) (e := 29) (u := .agg (gt d k).1.toArray) (k := (k + 1)) (p := g13) (n := n) (xs := (d.set k (gt d (k + 1)))) (eis := []) (js := is) (yv := (gt d k)) (fun W hm => hm) (fun _ _ hs => ⟨hs, rfl, (hR12 k (by omega))⟩) rfl type29 hK.symm (by omega) rfl rfl (Wd_none rfl) ?_
      refine qn (fun W hm => (hm).tail) ?_
      refine QB_done (by kernel_rfl) ?_
      exact QM_cut_normal () sl3 (fun W hm => hm) trivial
     exact QBs_nil
    ·
     rintro ⟨⟩ -
     show QM 220 _ _ _ .normal [(0, .slice (some ⟨g13, 0, none⟩) n c), (10, .int .i64 ((i : Nat) : Int)), (13, .int .i64 ((k : Nat) : Int))] (I1 :: is)
     refine QM_block_normal (QM_then (CM_region (wm ?_)))
     refine wv (vadN k 1 (by omega)) ?_
     refine wa (WM_nil ?_)
     exact QM_round (k + 1, ((d.set k (gt d (k + 1))).set (k + 1) (gt d k))) sl3 (fun W hm => hm) ⟨(show mvU (i - 1 - (k + 1)) (k + 1) ((d.set k (gt d (k + 1))).set (k + 1) (gt d k)) = mvU (i - 1 - a) a xs from (mvU_step (by omega)).symm.trans hU), (show a ≤ (k + 1) from by omega)⟩ (rl (by omega))
   ·have g11 := decide_eq_false h10
    refine CM_condF rfl g11 ?_
    refine CM_exit (QM_then_exit (QM_then_exit (QM_block_hit (QM_then (CM_ret (QM_then_ret ?_))))))
    have hE : symm (ltc cf) (f + 1) a m b xs = d := (symm_a (by omega)).trans (by rw [hA]; exact ((mvU_end (by omega)).symm.trans hU).symm)
    exact QM_ret0r rfl (fun W hm => ⟨rfl, by rw [hE]; exact hm⟩)
 ·have g2 := beq_eq_false_iff_ne.2 h1
  refine CM_condF rfl g2 ?_
  refine CM_skip (QM_then (CM_seq (sr (wm (wm ?_)))))
  refine wv (fun W hm => rv_subN (p := b) (q := m) rfl rfl (by omega) (by omega)) ?_
  refine wv (fun W hm => rv_eql rfl rfl) ?_
  refine nt' ?_
  by_cases h14 : ((b - m : Nat) : Int) = 1
  ·have g15 := beq_iff_eq.2 h14
   refine CM_condT rfl g15 ?_
   refine sr (wm (wa (nt' (sr (wm (wa (nt' (CM_seq (CM_block ?_)))))))))
   refine CM_loop (σ := Nat × Nat × Nat) (fun s => [(0, .slice A n c), (2, .int .i64 ((m : Nat) : Int)), (4, .func (.func fc) #[] #[]), (14, .int .i64 ((s.1 : Nat) : Int)), (15, .int .i64 ((s.2.1 : Nat) : Int))]) (fun s => (iOwn (tSl (tCk K) 29) [.slice A n c] xs :: is)) (fun s => bsr (fun h => !ltc cf (gt xs m) (gt xs h)) s.2.2 s.1 s.2.1 = bsr (fun h => !ltc cf (gt xs m) (gt xs h)) (m - a) a m ∧ s.2.1 ≤ s.2.2 + s.1 ∧ a ≤ s.1 ∧ s.1 ≤ s.2.1 ∧ s.2.1 ≤ m) (fun s => s.2.1 - s.1) (a, m, m - a) sl5 (fun W hm => hm) ⟨(show bsr (fun h => !ltc cf (gt xs m) (gt xs h)) (m - a) a m = bsr (fun h => !ltc cf (gt xs m) (gt xs h)) (m - a) a m from rfl), (show m ≤ (m - a) + a from by omega), (show a ≤ a from by omega), (show a ≤ m from by omega), (show m ≤ m from by omega)⟩ ?_
   rintro ⟨i, j, f0⟩ H16
   obtain ⟨hB, hf5, hf6, hf7, hf8⟩ : bsr (fun h => !ltc cf (gt xs m) (gt xs h)) f0 i j = bsr (fun h => !ltc cf (gt xs m) (gt xs h)) (m - a) a m ∧ j ≤ f0 + i ∧ a ≤ i ∧ i ≤ j ∧ j ≤ m := H16
   show CM Try.prog 220 _ _ _ _ [(0, .slice A n c), (2, .int .i64 ((m : Nat) : Int)), (4, .func (.func fc) #[] #[]), (14, .int .i64 ((i : Nat) : Int)), (15, .int .i64 ((j : Nat) : Int))] (iOwn (tSl (tCk K) 29) [.slice A n c] xs :: is)
   refine CM_seq (sr (wm (wm ?_)))
   refine wv vlss ?_
   refine nt' ?_
   by_cases h17 : ((i : Nat) : Int) < ((j : Nat) : Int)
   ·have g18 := decide_eq_true h17
    refine CM_condT rfl g18 ?_
    refine CM_skip (QM_then (CM_block (sr (wm (wm ?_)))))
    refine wv (vadN i j (by omega)) ?_
    refine wv (fun W hm => rv_convIU (p := i + j) underlying3 underlying103 rfl (by omega)) ?_
    refine wv (fun W hm => rv_half rfl) ?_
    refine wv (fun W hm => rv_convUI (p := (i + j) / 2) underlying103 underlying3 rfl (by omega)) ?_
    refine wa (nt' (CM_seq ?_))
    refine CM_formO (n := 0) rfl (by omega) ?_
    rintro g19 rfl
    refine CM_regionD (by kernel_rfl) (by kernel_rfl) ?_
    refine qm (qm (qm ?_))
    refine qv (fun W hm => rv_index (sz := K.s) (k := m) underlying39 type29 hK.symm rfl rfl (by omega)) ?_
    refine qv (fun W hm => rv_loadCk underlying29 type29 hK.symm rfl hm (by omega)) ?_
    refine qm (qm ?_)
    refine qv (fun W hm => rv_index (sz := K.s) (k := (i + j) / 2) underlying39 type29 hK.symm rfl rfl (by omega)) ?_
    refine qv (fun W hm => rv_loadCk underlying29 type29 hK.symm rfl hm (by omega)) ?_
    refine QR_callV (cl_val (first := []) (caps := []) (vs := [.agg (gt xs m).1.toArray, .agg (gt xs ((i + j) / 2)).1.toArray]) (args := [.agg (gt xs m).1.toArray, .agg (gt xs ((i + j) / 2)).1.toArray]) H.cb rfl rfl rfl) (fun W hm => H.go W (gt xs m) (gt xs ((i + j) / 2)) hm.tail (hm.ck (by omega)).1 (hm.ck (by omega)).1) (Wd_none rfl) (by decide) ?_
    refine qv vlss ?_
    refine qv vnot ?_
    refine nq' ?_
    by_cases h20 : (cf (gt xs m).2 (gt xs ((i + j) / 2)).2) < 0
    ·have g21 := decide_eq_true h20
     refine CM_condF rfl (nt g21) ?_
     refine CM_region (wm (wa (WM_nil (QM_block_normal ?_))))
     exact QM_round (i, (i + j) / 2, f0 - 1) sl5 (fun W hm => hm) ⟨(show bsr (fun h => !ltc cf (gt xs m) (gt xs h)) (f0 - 1) i ((i + j) / 2) = bsr (fun h => !ltc cf (gt xs m) (gt xs h)) (m - a) a m from (bsr_f (by omega) hf5 (show (!decide (cf (gt xs m).2 (gt xs ((i + j) / 2)).2 < 0)) = false from by rw [decide_eq_true (show cf (gt xs m).2 (gt xs ((i + j) / 2)).2 < 0 by omega)]; rfl)).symm.trans hB), (show ((i + j) / 2) ≤ (f0 - 1) + i from by omega), (show a ≤ i from by omega), (show i ≤ ((i + j) / 2) from by omega), (show ((i + j) / 2) ≤ m from by omega)⟩ (show ((i + j) / 2) - i < j - i from by omega)
    ·have g21 := decide_eq_false h20
     refine CM_condT rfl (nf g21) ?_
     refine CM_region (wm ?_)
     refine wv (fun W hm => rv_addN (p := (i + j) / 2) (q := 1) rfl rfl (by omega)) ?_
     refine wa (WM_nil (QM_block_normal ?_))
     exact QM_round ((i + j) / 2 + 1, j, f0 - 1) sl5 (fun W hm => hm) ⟨(show bsr (fun h => !ltc cf (gt xs m) (gt xs h)) (f0 - 1) ((i + j) / 2 + 1) j = bsr (fun h => !ltc cf (gt xs m) (gt xs h)) (m - a) a m from (bsr_t (by omega) hf5 (show (!decide (cf (gt xs m).2 (gt xs ((i + j) / 2)).2 < 0)) = true from by rw [decide_eq_false (show ¬ cf (gt xs m).2 (gt xs ((i + j) / 2)).2 < 0 by omega)]; rfl)).symm.trans hB), (show j ≤ (f0 - 1) + ((i + j) / 2 + 1) from by omega), (show a ≤ ((i + j) / 2 + 1) from by omega), (show ((i + j) / 2 + 1) ≤ j from by omega), (show j ≤ m from by omega)⟩ (show j - ((i + j) / 2 + 1) < j - i from by omega)
   ·have g18 := decide_eq_false h17
    refine CM_condF rfl g18 ?_
    refine CM_exit (QM_then_exit (QM_then_exit ?_))
    have hA : bsr (fun h => !ltc cf (gt xs m) (gt xs h)) (m - a) a m = i := hB.symm.trans (bsr_e (by omega))
    refine QM_block_hit (QM_then (CM_seq (sr (wm (wa (nt' (CM_block ?_)))))))
    refine CM_loop (σ := Nat × List (List Value × α)) (fun s => [(0, .slice A n c), (14, .int .i64 ((i : Nat) : Int)), (17, .int .i64 ((s.1 : Nat) : Int))]) (fun s => (iOwn (tSl (tCk K) 29) [.slice A n c] s.2 :: is)) (fun s => mvD (s.1 - i) s.1 s.2 = mvD (m - i) m xs ∧ s.1 ≤ m) (fun s => s.1) (m, xs) sl3 (fun W hm => hm) ⟨(show mvD (m - i) m xs = mvD (m - i) m xs from rfl), (show m ≤ m from by omega)⟩ ?_
    rintro ⟨k, d⟩ H22
    obtain ⟨hU, hf9⟩ : mvD (k - i) k d = mvD (m - i) m xs ∧ k ≤ m := H22
    show CM Try.prog 220 _ _ _ _ [(0, .slice A n c), (14, .int .i64 ((i : Nat) : Int)), (17, .int .i64 ((k : Nat) : Int))] (iOwn (tSl (tCk K) 29) [.slice A n c] d :: is)
    refine CM_seq (sr (wm (wm ?_)))
    refine wv (fun W hm => rv_gtr rfl rfl) ?_
    refine nt' ?_
    by_cases h23 : ((i : Nat) : Int) < ((k : Nat) : Int)
    ·have g24 := decide_eq_true h23
     refine CM_condT rfl g24 ?_
     refine CM_skip (QM_then (CM_seq (CM_block ?_)))
     refine CM_formO (n := 0) rfl (by omega) ?_
     rintro g26 rfl
     refine CM_ck ?_
     intro hR25
     let I2 : It := iOwn (tSl (tCk K) 29) [.slice (some ⟨g26, 0, none⟩) n c] ((d.set k (gt d (k - 1))).set (k - 1) (gt d k))
     refine CM_cut (σ := Unit) (fun _ => [(0, .slice (some ⟨g26, 0, none⟩) n c), (14, .int .i64 ((i : Nat) : Int)), (17, .int .i64 ((k : Nat) : Int))]) (fun _ => (I2 :: is)) (fun _ => True) ?_ ?_
     ·
      refine rb 18 (s := (is)) (fun W hm => (hm).tail) ?_
      refine qt 18 0 1 rfl vmv ?_
      refine qt 18 1 3 rfl vmv ?_
      refine qt 18 2 7 rfl vmv ?_
      refine qt 18 3 15 rfl vmv ?_
      refine qt 18 4 31 rfl (fun W hm => rv_subN (p := k) (q := 1) rfl rfl (by omega) (by omega)) ?_
      refine qt 18 5 63 rfl vmv ?_
      refine qt 18 6 127 rfl vmv ?_
      refine qt 18 7 255 rfl (fun W hm => rv_subN (p := k) (q := 1) rfl rfl (by omega) (by omega)) ?_
      refine qt 18 8 511 rfl (fun W hm => rv_index (sz := K.s) (k := k - 1) underlying39 type29 hK.symm rfl rfl (by omega)) ?_
      refine qt 18 10 1535 rfl vmv ?_
      refine qt 18 11 3583 rfl vmv ?_
      refine qt 18 12 7679 rfl (fun W hm => rv_index (sz := K.s) (k := k) underlying39 type29 hK.symm rfl rfl (by omega)) ?_
      refine qa [9, 13] ?_
      refine qc 18 8191 rfl ?_ ?_
      ·
       refine wv (fun W hm => rv_loadCk underlying29 type29 hK.symm rfl hm (by omega)) ?_
       refine qn (fun W hm => (hm).tail) ?_
       refine qo 18 13 16383 rfl ?_
       refine wv (fun W hm => rv_loadCk underlying29 type29 hK.symm rfl hm (by omega)) ?_
       refine qn (fun W hm => (hm).tail) ?_
       refine qt 18 14 32767 rfl (fun W hm => rv_index (sz := K.s) (k := k) underlying39 type29 hK.symm rfl rfl (by omega)) ?_
       refine qo 18 15 65535 rfl ?_
       refine WM_setEl (E := tCk K) (e := 29) (u := .agg (gt d (k - 1)).1.toArray) (k := k) (p := g26) (n := n) (xs := d) (eis := []) (js := is) (yv := (gt d (k - 1))) (fun W hm => hm) (fun _ _ hs => ⟨hs, rfl, (hR25 (k - 1) (by omega))⟩) rfl type29 hK.symm (by omega) rfl rfl (Wd_none rfl) ?_
       refine qn (fun W hm => (hm).tail) ?_
       refine qt 18 16 131071 rfl (fun W hm => rv_index (sz := K.s) (k := k - 1) underlying39 type29 hK.symm rfl rfl (by omega)) ?_
       refine qo 18 17 262143 rfl ?_
       refine WM_setEl (E := tCk K) (e := 29) (u := .agg (gt d k).1.toArray) (k := (k - 1)) (p := g26) (n := n) (xs := (d.set k (gt d (k - 1)))) (eis := []) (js := is) (yv := (gt d k)) (fun W hm => hm) (fun _ _ hs => ⟨hs, rfl, (hR25 k (by omega))⟩) rfl type29 hK.symm (by omega) rfl rfl (Wd_none rfl) ?_
       refine qn (fun W hm => (hm).tail) ?_
       refine QB_done (by kernel_rfl) ?_
       exact QM_cut_normal () sl3 (fun W hm => hm) trivial
      refine qc 18 15871 rfl ?_ ?_
      ·
       refine wv (fun W hm => rv_loadCk underlying29 type29 hK.symm rfl hm (by omega)) ?_
       refine qn (fun W hm => (hm).tail) ?_
       refine qo 18 9 16383 rfl ?_
       refine wv (fun W hm => rv_loadCk underlying29 type29 hK.symm rfl hm (by omega)) ?_
       refine qn (fun W hm => (hm).tail) ?_
       refine qt 18 14 32767 rfl (fun W hm => rv_index (sz := K.s) (k := k) underlying39 type29 hK.symm rfl rfl (by omega)) ?_
       refine qo 18 15 65535 rfl ?_
       refine WM_setEl (E := tCk K) (e := 29) (u := .agg (gt d (k - 1)).1.toArray) (k := k) (p := g26) (n := n) (xs := d) (eis := []) (js := is) (yv := (gt d (k - 1))) (fun W hm => hm) (fun _ _ hs => ⟨hs, rfl, (hR25 (k - 1) (by omega))⟩) rfl type29 hK.symm (by omega) rfl rfl (Wd_none rfl) ?_
       refine qn (fun W hm => (hm).tail) ?_
       refine qt 18 16 131071 rfl (fun W hm => rv_index (sz := K.s) (k := k - 1) underlying39 type29 hK.symm rfl rfl (by omega)) ?_
       refine qo 18 17 262143 rfl ?_
       refine WM_setEl (E := tCk K) (e := 29) (u := .agg (gt d k).1.toArray) (k := (k - 1)) (p := g26) (n := n) (xs := (d.set k (gt d (k - 1)))) (eis := []) (js := is) (yv := (gt d k)) (fun W hm => hm) (fun _ _ hs => ⟨hs, rfl, (hR25 k (by omega))⟩) rfl type29 hK.symm (by omega) rfl rfl (Wd_none rfl) ?_
       refine qn (fun W hm => (hm).tail) ?_
       refine QB_done (by kernel_rfl) ?_
       exact QM_cut_normal () sl3 (fun W hm => hm) trivial
      exact QBs_nil
     ·
      rintro ⟨⟩ -
      show QM 220 _ _ _ .normal [(0, .slice (some ⟨g26, 0, none⟩) n c), (14, .int .i64 ((i : Nat) : Int)), (17, .int .i64 ((k : Nat) : Int))] (I2 :: is)
      refine QM_block_normal (QM_then (CM_region (wm ?_)))
      refine wv (fun W hm => rv_subN (p := k) (q := 1) rfl rfl (by omega) (by omega)) ?_
      refine wa (WM_nil ?_)
      exact QM_round (k - 1, ((d.set k (gt d (k - 1))).set (k - 1) (gt d k))) sl3 (fun W hm => hm) ⟨(show mvD ((k - 1) - i) (k - 1) ((d.set k (gt d (k - 1))).set (k - 1) (gt d k)) = mvD (m - i) m xs from (mvD_step (by omega)).symm.trans hU), (show (k - 1) ≤ m from by omega)⟩ (show (k - 1) < k from by omega)
    ·have g24 := decide_eq_false h23
     refine CM_condF rfl g24 ?_
     refine CM_exit (QM_then_exit (QM_then_exit (QM_block_hit (QM_then (CM_ret (QM_then_ret ?_))))))
     have hE : symm (ltc cf) (f + 1) a m b xs = d := (symm_b (by omega) (by omega)).trans (by rw [hA]; exact ((mvD_end (by omega)).symm.trans hU).symm)
     exact QM_ret0r rfl (fun W hm => ⟨rfl, by rw [hE]; exact hm⟩)
  ·have g15 := beq_eq_false_iff_ne.2 h14
   refine CM_condF rfl g15 ?_
   refine CM_skip (QM_then (sr (wm (wm ?_))))
   refine wv (vadN a b (by omega)) ?_
   refine wv (fun W hm => rv_convIU (p := a + b) underlying3 underlying103 rfl (by omega)) ?_
   refine wv (fun W hm => rv_half rfl) ?_
   refine wv (fun W hm => rv_convUI (p := (a + b) / 2) underlying103 underlying3 rfl (by omega)) ?_
   refine wa (nt' (sr (wm (wm ?_))))
   refine wv (fun W hm => rv_addN (p := (a + b) / 2) (q := m) rfl rfl (by omega)) ?_
   refine wa (nt' (sr (wa (wa (nt' (CM_seq (sr (wm (wm ?_)))))))))
   refine wv (fun W hm => rv_gtr rfl rfl) ?_
   refine nt' ?_
   refine CM_cut (σ := Nat × Nat) (fun s => [(0, .slice A n c), (1, .int .i64 ((a : Nat) : Int)), (2, .int .i64 ((m : Nat) : Int)), (3, .int .i64 ((b : Nat) : Int)), (4, .func (.func fc) #[] #[]), (18, .int .i64 (((a + b) / 2 : Nat) : Int)), (19, .int .i64 (((a + b) / 2 + m : Nat) : Int)), (20, .int .i64 ((s.1 : Nat) : Int)), (21, .int .i64 ((s.2 : Nat) : Int))]) (fun _ => (iOwn (tSl (tCk K) 29) [.slice A n c] xs :: is)) (fun s => s.1 = cond (decide ((a + b) / 2 < m)) ((a + b) / 2 + m - b) a ∧ s.2 = cond (decide ((a + b) / 2 < m)) ((a + b) / 2) m ∧ (((a + b) / 2 < m ∧ s.1 = (a + b) / 2 + m - b ∧ s.2 = (a + b) / 2) ∨ (m ≤ (a + b) / 2 ∧ s.1 = a ∧ s.2 = m))) ?_ ?_
   ·
    by_cases h27 : (((a + b) / 2 : Nat) : Int) < ((m : Nat) : Int)
    ·have g28 := decide_eq_true h27
     refine CM_condT rfl g28 ?_
     refine sr (wm (wm ?_))
     refine wv (fun W hm => rv_subN (p := (a + b) / 2 + m) (q := b) rfl rfl (by omega) (by omega)) ?_
     refine wa (nt' (CM_region (wm (wa (WM_nil ?_)))))
     exact QM_cut_normal ((a + b) / 2 + m - b, (a + b) / 2) sl9 (fun W hm => hm) ⟨by rw [decide_eq_true (show (a + b) / 2 < m by omega)]; rfl, by rw [decide_eq_true (show (a + b) / 2 < m by omega)]; rfl, .inl ⟨by omega, rfl, rfl⟩⟩
    ·have g28 := decide_eq_false h27
     refine CM_condF rfl g28 ?_
     refine sr (wm (wa (nt' (CM_region (wm (wa (WM_nil ?_)))))))
     exact QM_cut_normal (a, m) sl9 (fun W hm => hm) ⟨by rw [decide_eq_false (show ¬ (a + b) / 2 < m by omega)]; rfl, by rw [decide_eq_false (show ¬ (a + b) / 2 < m by omega)]; rfl, .inr ⟨by omega, rfl, rfl⟩⟩
   ·
    rintro ⟨s0, r0⟩ ⟨hs0, hr0, hs⟩
    show QM 220 _ _ _ .normal [(0, .slice A n c), (1, .int .i64 ((a : Nat) : Int)), (2, .int .i64 ((m : Nat) : Int)), (3, .int .i64 ((b : Nat) : Int)), (4, .func (.func fc) #[] #[]), (18, .int .i64 (((a + b) / 2 : Nat) : Int)), (19, .int .i64 (((a + b) / 2 + m : Nat) : Int)), (20, .int .i64 ((s0 : Nat) : Int)), (21, .int .i64 ((r0 : Nat) : Int))] (iOwn (tSl (tCk K) 29) [.slice A n c] xs :: is)
    refine QM_then (sr (wm ?_))
    refine wv (fun W hm => rv_subN (p := (a + b) / 2 + m) (q := 1) rfl rfl (by omega) (by omega)) ?_
    refine wa (nt' (CM_seq (CM_block ?_)))
    refine CM_loop (σ := Nat × Nat × Nat) (fun s => [(0, .slice A n c), (1, .int .i64 ((a : Nat) : Int)), (2, .int .i64 ((m : Nat) : Int)), (3, .int .i64 ((b : Nat) : Int)), (4, .func (.func fc) #[] #[]), (18, .int .i64 (((a + b) / 2 : Nat) : Int)), (19, .int .i64 (((a + b) / 2 + m : Nat) : Int)), (20, .int .i64 ((s.1 : Nat) : Int)), (21, .int .i64 ((s.2.1 : Nat) : Int)), (22, .int .i64 (((a + b) / 2 + m - 1 : Nat) : Int))]) (fun s => (iOwn (tSl (tCk K) 29) [.slice A n c] xs :: is)) (fun s => bsr (fun c => !ltc cf (gt xs ((a + b) / 2 + m - 1 - c)) (gt xs c)) s.2.2 s.1 s.2.1 = bsr (fun c => !ltc cf (gt xs ((a + b) / 2 + m - 1 - c)) (gt xs c)) (r0 - s0) s0 r0 ∧ s.2.1 ≤ s.2.2 + s.1 ∧ s0 ≤ s.1 ∧ s.1 ≤ s.2.1 ∧ s.2.1 ≤ r0) (fun s => s.2.1 - s.1) (s0, r0, r0 - s0) sl10 (fun W hm => hm) ⟨(show bsr (fun c => !ltc cf (gt xs ((a + b) / 2 + m - 1 - c)) (gt xs c)) (r0 - s0) s0 r0 = bsr (fun c => !ltc cf (gt xs ((a + b) / 2 + m - 1 - c)) (gt xs c)) (r0 - s0) s0 r0 from rfl), (show r0 ≤ (r0 - s0) + s0 from by omega), (show s0 ≤ s0 from by omega), (show s0 ≤ r0 from by omega), (show r0 ≤ r0 from by omega)⟩ ?_
    rintro ⟨i, j, f0⟩ H29
    obtain ⟨hB, hf5, hf6, hf7, hf8⟩ : bsr (fun c => !ltc cf (gt xs ((a + b) / 2 + m - 1 - c)) (gt xs c)) f0 i j = bsr (fun c => !ltc cf (gt xs ((a + b) / 2 + m - 1 - c)) (gt xs c)) (r0 - s0) s0 r0 ∧ j ≤ f0 + i ∧ s0 ≤ i ∧ i ≤ j ∧ j ≤ r0 := H29
    show CM Try.prog 220 _ _ _ _ [(0, .slice A n c), (1, .int .i64 ((a : Nat) : Int)), (2, .int .i64 ((m : Nat) : Int)), (3, .int .i64 ((b : Nat) : Int)), (4, .func (.func fc) #[] #[]), (18, .int .i64 (((a + b) / 2 : Nat) : Int)), (19, .int .i64 (((a + b) / 2 + m : Nat) : Int)), (20, .int .i64 ((i : Nat) : Int)), (21, .int .i64 ((j : Nat) : Int)), (22, .int .i64 (((a + b) / 2 + m - 1 : Nat) : Int))] (iOwn (tSl (tCk K) 29) [.slice A n c] xs :: is)
    refine CM_seq (sr (wm (wm ?_)))
    refine wv vlss ?_
    refine nt' ?_
    by_cases h30 : ((i : Nat) : Int) < ((j : Nat) : Int)
    ·have g31 := decide_eq_true h30
     refine CM_condT rfl g31 ?_
     refine CM_skip (QM_then (CM_block (sr (wm (wm ?_)))))
     refine wv (vadN i j (by omega)) ?_
     refine wv (fun W hm => rv_convIU (p := i + j) underlying3 underlying103 rfl (by omega)) ?_
     refine wv (fun W hm => rv_half rfl) ?_
     refine wv (fun W hm => rv_convUI (p := (i + j) / 2) underlying103 underlying3 rfl (by omega)) ?_
     refine wa (nt' (CM_seq ?_))
     refine CM_formO (n := 0) rfl (by omega) ?_
     rintro g32 rfl
     refine CM_regionD (by kernel_rfl) (by kernel_rfl) ?_
     refine qm (qm (qm (qm ?_)))
     refine qv (fun W hm => rv_subN (p := (a + b) / 2 + m - 1) (q := (i + j) / 2) rfl rfl (by omega) (by omega)) ?_
     refine qv (fun W hm => rv_index (sz := K.s) (k := (a + b) / 2 + m - 1 - ((i + j) / 2)) underlying39 type29 hK.symm rfl rfl (by omega)) ?_
     refine qv (fun W hm => rv_loadCk underlying29 type29 hK.symm rfl hm (by omega)) ?_
     refine qm (qm ?_)
     refine qv (fun W hm => rv_index (sz := K.s) (k := (i + j) / 2) underlying39 type29 hK.symm rfl rfl (by omega)) ?_
     refine qv (fun W hm => rv_loadCk underlying29 type29 hK.symm rfl hm (by omega)) ?_
     refine QR_callV (cl_val (first := []) (caps := []) (vs := [.agg (gt xs ((a + b) / 2 + m - 1 - ((i + j) / 2))).1.toArray, .agg (gt xs ((i + j) / 2)).1.toArray]) (args := [.agg (gt xs ((a + b) / 2 + m - 1 - ((i + j) / 2))).1.toArray, .agg (gt xs ((i + j) / 2)).1.toArray]) H.cb rfl rfl rfl) (fun W hm => H.go W (gt xs ((a + b) / 2 + m - 1 - ((i + j) / 2))) (gt xs ((i + j) / 2)) hm.tail (hm.ck (by omega)).1 (hm.ck (by omega)).1) (Wd_none rfl) (by decide) ?_
     refine qv vlss ?_
     refine qv vnot ?_
     refine nq' ?_
     by_cases h33 : (cf (gt xs ((a + b) / 2 + m - 1 - ((i + j) / 2))).2 (gt xs ((i + j) / 2)).2) < 0
     ·have g34 := decide_eq_true h33
      refine CM_condF rfl (nt g34) ?_
      refine CM_region (wm (wa (WM_nil (QM_block_normal ?_))))
      exact QM_round (i, (i + j) / 2, f0 - 1) sl10 (fun W hm => hm) ⟨(show bsr (fun c => !ltc cf (gt xs ((a + b) / 2 + m - 1 - c)) (gt xs c)) (f0 - 1) i ((i + j) / 2) = bsr (fun c => !ltc cf (gt xs ((a + b) / 2 + m - 1 - c)) (gt xs c)) (r0 - s0) s0 r0 from (bsr_f (by omega) hf5 (show (!decide (cf (gt xs ((a + b) / 2 + m - 1 - ((i + j) / 2))).2 (gt xs ((i + j) / 2)).2 < 0)) = false from by rw [decide_eq_true (show cf (gt xs ((a + b) / 2 + m - 1 - ((i + j) / 2))).2 (gt xs ((i + j) / 2)).2 < 0 by omega)]; rfl)).symm.trans hB), (show ((i + j) / 2) ≤ (f0 - 1) + i from by omega), (show s0 ≤ i from by omega), (show i ≤ ((i + j) / 2) from by omega), (show ((i + j) / 2) ≤ r0 from by omega)⟩ (show ((i + j) / 2) - i < j - i from by omega)
     ·have g34 := decide_eq_false h33
      refine CM_condT rfl (nf g34) ?_
      refine CM_region (wm ?_)
      refine wv (fun W hm => rv_addN (p := (i + j) / 2) (q := 1) rfl rfl (by omega)) ?_
      refine wa (WM_nil (QM_block_normal ?_))
      exact QM_round ((i + j) / 2 + 1, j, f0 - 1) sl10 (fun W hm => hm) ⟨(show bsr (fun c => !ltc cf (gt xs ((a + b) / 2 + m - 1 - c)) (gt xs c)) (f0 - 1) ((i + j) / 2 + 1) j = bsr (fun c => !ltc cf (gt xs ((a + b) / 2 + m - 1 - c)) (gt xs c)) (r0 - s0) s0 r0 from (bsr_t (by omega) hf5 (show (!decide (cf (gt xs ((a + b) / 2 + m - 1 - ((i + j) / 2))).2 (gt xs ((i + j) / 2)).2 < 0)) = true from by rw [decide_eq_false (show ¬ cf (gt xs ((a + b) / 2 + m - 1 - ((i + j) / 2))).2 (gt xs ((i + j) / 2)).2 < 0 by omega)]; rfl)).symm.trans hB), (show j ≤ (f0 - 1) + ((i + j) / 2 + 1) from by omega), (show s0 ≤ ((i + j) / 2 + 1) from by omega), (show ((i + j) / 2 + 1) ≤ j from by omega), (show j ≤ r0 from by omega)⟩ (show j - ((i + j) / 2 + 1) < j - i from by omega)
    ·have g31 := decide_eq_false h30
     refine CM_condF rfl g31 ?_
     refine CM_exit (QM_then_exit (QM_then_exit ?_))
     have hA : bsr (fun c => !ltc cf (gt xs ((a + b) / 2 + m - 1 - c)) (gt xs c)) (r0 - s0) s0 r0 = i := hB.symm.trans (bsr_e (by omega))
     refine QM_block_hit (QM_then (sr (wm (wm ?_))))
     refine wv (fun W hm => rv_subN (p := (a + b) / 2 + m) (q := i) rfl rfl (by omega) (by omega)) ?_
     refine wa (nt' (CM_seq (sr (wm (wm ?_)))))
     refine wv vlss ?_
     refine wm ?_
     by_cases h35 : ((i : Nat) : Int) < ((m : Nat) : Int)
     ·have g36 := decide_eq_true h35
      refine wg vmv g36 ?_
      refine wg vmv g36 ?_
      refine wg vlss g36 ?_
      refine wv (vpT g36) ?_
      refine nt' ?_
      by_cases h37 : ((m : Nat) : Int) < (((a + b) / 2 + m - i : Nat) : Int)
      ·have g38 := decide_eq_true h37
       refine CM_condT rfl g38 ?_
       refine CM_region (wm (wm (wm (wm (wm ?_)))))
       refine WM_callW (χ := Unit) (val := fun _ => .tuple #[]) (js := fun _ => (iOwn (tSl (tCk K) 29) [.slice A n c] (rot ((a + b) / 2 + m - i - i) m (m - i) ((a + b) / 2 + m - i - m) xs) :: is)) (cl_fn cb91 rfl) (fun W hm => (srt60_rot_c K hK cf fc B w0 is H A n c hn i m ((a + b) / 2 + m - i) xs (by omega) (by omega) (by omega) W hm).mono (fun _ _ h => ⟨(), h.1, h.2⟩)) (Wd_none rfl) (by decide) (fun _ => ?_)
       refine nt' (CM_seq (sr (wm (wm ?_))))
       refine wv vlss ?_
       refine wm ?_
       by_cases h39 : ((a : Nat) : Int) < ((i : Nat) : Int)
       ·have g40 := decide_eq_true h39
        refine wg vmv g40 ?_
        refine wg vmv g40 ?_
        refine wg vlss g40 ?_
        refine wv (vpT g40) ?_
        refine nt' ?_
        have g41 : (decide (((i : Nat) : Int) < (((a + b) / 2 : Nat) : Int))) = true := decide_eq_true (by omega)
        refine CM_condT rfl g41 ?_
        refine CM_region (wm (wm (wm (wm (wm ?_)))))
        refine WM_callW (χ := Unit) (val := fun _ => .tuple #[]) (js := fun _ => (iOwn (tSl (tCk K) 29) [.slice A n c] (symm (ltc cf) f a i ((a + b) / 2) (rot ((a + b) / 2 + m - i - i) m (m - i) ((a + b) / 2 + m - i - m) xs)) :: is)) (cl_fn cb89 rfl) (fun W hm => (ih a i ((a + b) / 2) (rot ((a + b) / 2 + m - i - i) m (m - i) ((a + b) / 2 + m - i - m) xs) (by omega) (by omega) (by omega) (by omega) W hm).mono (fun _ _ h => ⟨(), h.1, h.2⟩)) (Wd_none rfl) (by decide) (fun _ => ?_)
        refine nt' (sr (wm (wm ?_)))
        refine wv vlss ?_
        refine wm ?_
        have g42 : (decide ((((a + b) / 2 : Nat) : Int) < (((a + b) / 2 + m - i : Nat) : Int))) = true := decide_eq_true (by omega)
        refine wg vmv g42 ?_
        refine wg vmv g42 ?_
        refine wg vlss g42 ?_
        refine wv (vpT g42) ?_
        refine nt' ?_
        by_cases h43 : (((a + b) / 2 + m - i : Nat) : Int) < ((b : Nat) : Int)
        ·have g44 := decide_eq_true h43
         refine CM_condT rfl g44 ?_
         refine CM_region (wm (wm (wm (wm (wm ?_)))))
         refine WM_callW (χ := Unit) (val := fun _ => .tuple #[]) (js := fun _ => (iOwn (tSl (tCk K) 29) [.slice A n c] (symm (ltc cf) f ((a + b) / 2) ((a + b) / 2 + m - i) b (symm (ltc cf) f a i ((a + b) / 2) (rot ((a + b) / 2 + m - i - i) m (m - i) ((a + b) / 2 + m - i - m) xs))) :: is)) (cl_fn cb89 rfl) (fun W hm => (ih ((a + b) / 2) ((a + b) / 2 + m - i) b (symm (ltc cf) f a i ((a + b) / 2) (rot ((a + b) / 2 + m - i - i) m (m - i) ((a + b) / 2 + m - i - m) xs)) (by omega) (by omega) (by omega) (by omega) W hm).mono (fun _ _ h => ⟨(), h.1, h.2⟩)) (Wd_none rfl) (by decide) (fun _ => ?_)
         refine WM_nil ?_
         have hE : symm (ltc cf) (f + 1) a m b xs = (symm (ltc cf) f ((a + b) / 2) ((a + b) / 2 + m - i) b (symm (ltc cf) f a i ((a + b) / 2) (rot ((a + b) / 2 + m - i - i) m (m - i) ((a + b) / 2 + m - i - m) xs))) := symm_c (x1 := (rot ((a + b) / 2 + m - i - i) m (m - i) ((a + b) / 2 + m - i - m) xs)) (x2 := (symm (ltc cf) f a i ((a + b) / 2) (rot ((a + b) / 2 + m - i - i) m (m - i) ((a + b) / 2 + m - i - m) xs))) (x3 := (symm (ltc cf) f ((a + b) / 2) ((a + b) / 2 + m - i) b (symm (ltc cf) f a i ((a + b) / 2) (rot ((a + b) / 2 + m - i - i) m (m - i) ((a + b) / 2 + m - i - m) xs)))) (mid := (a + b) / 2) (n := (a + b) / 2 + m) (s0 := s0) (r0 := r0) (st := i) (en := (a + b) / 2 + m - i) (by omega) (by omega) rfl rfl hs0 hr0 hA.symm rfl ((cond_and_t (by omega) (by omega)).symm) ((cond_and_t (by omega) (by omega)).symm) ((cond_and_t (by omega) (by omega)).symm)
         exact QM_ret0 rfl (fun W hm => ⟨rfl, by rw [hE]; exact hm⟩)
        ·have g44 := decide_eq_false h43
         refine CM_condF rfl g44 ?_
         refine CM_skip ?_
         have hE : symm (ltc cf) (f + 1) a m b xs = (symm (ltc cf) f a i ((a + b) / 2) (rot ((a + b) / 2 + m - i - i) m (m - i) ((a + b) / 2 + m - i - m) xs)) := symm_c (x1 := (rot ((a + b) / 2 + m - i - i) m (m - i) ((a + b) / 2 + m - i - m) xs)) (x2 := (symm (ltc cf) f a i ((a + b) / 2) (rot ((a + b) / 2 + m - i - i) m (m - i) ((a + b) / 2 + m - i - m) xs))) (x3 := (symm (ltc cf) f a i ((a + b) / 2) (rot ((a + b) / 2 + m - i - i) m (m - i) ((a + b) / 2 + m - i - m) xs))) (mid := (a + b) / 2) (n := (a + b) / 2 + m) (s0 := s0) (r0 := r0) (st := i) (en := (a + b) / 2 + m - i) (by omega) (by omega) rfl rfl hs0 hr0 hA.symm rfl ((cond_and_t (by omega) (by omega)).symm) ((cond_and_t (by omega) (by omega)).symm) ((cond_and_f (by omega)).symm)
         exact QM_ret0 rfl (fun W hm => ⟨rfl, by rw [hE]; exact hm⟩)
       ·have g40 := decide_eq_false h39
        refine ws g40 ?_
        refine ws g40 ?_
        refine ws g40 ?_
        refine wv (vpF g40) ?_
        refine nt' ?_
        refine CM_condF rfl rfl ?_
        refine CM_skip (QM_then (sr (wm (wm ?_))))
        refine wv vlss ?_
        refine wm ?_
        have g45 : (decide ((((a + b) / 2 : Nat) : Int) < (((a + b) / 2 + m - i : Nat) : Int))) = true := decide_eq_true (by omega)
        refine wg vmv g45 ?_
        refine wg vmv g45 ?_
        refine wg vlss g45 ?_
        refine wv (vpT g45) ?_
        refine nt' ?_
        by_cases h46 : (((a + b) / 2 + m - i : Nat) : Int) < ((b : Nat) : Int)
        ·have g47 := decide_eq_true h46
         refine CM_condT rfl g47 ?_
         refine CM_region (wm (wm (wm (wm (wm ?_)))))
         refine WM_callW (χ := Unit) (val := fun _ => .tuple #[]) (js := fun _ => (iOwn (tSl (tCk K) 29) [.slice A n c] (symm (ltc cf) f ((a + b) / 2) ((a + b) / 2 + m - i) b (rot ((a + b) / 2 + m - i - i) m (m - i) ((a + b) / 2 + m - i - m) xs)) :: is)) (cl_fn cb89 rfl) (fun W hm => (ih ((a + b) / 2) ((a + b) / 2 + m - i) b (rot ((a + b) / 2 + m - i - i) m (m - i) ((a + b) / 2 + m - i - m) xs) (by omega) (by omega) (by omega) (by omega) W hm).mono (fun _ _ h => ⟨(), h.1, h.2⟩)) (Wd_none rfl) (by decide) (fun _ => ?_)
         refine WM_nil ?_
         have hE : symm (ltc cf) (f + 1) a m b xs = (symm (ltc cf) f ((a + b) / 2) ((a + b) / 2 + m - i) b (rot ((a + b) / 2 + m - i - i) m (m - i) ((a + b) / 2 + m - i - m) xs)) := symm_c (x1 := (rot ((a + b) / 2 + m - i - i) m (m - i) ((a + b) / 2 + m - i - m) xs)) (x2 := (rot ((a + b) / 2 + m - i - i) m (m - i) ((a + b) / 2 + m - i - m) xs)) (x3 := (symm (ltc cf) f ((a + b) / 2) ((a + b) / 2 + m - i) b (rot ((a + b) / 2 + m - i - i) m (m - i) ((a + b) / 2 + m - i - m) xs))) (mid := (a + b) / 2) (n := (a + b) / 2 + m) (s0 := s0) (r0 := r0) (st := i) (en := (a + b) / 2 + m - i) (by omega) (by omega) rfl rfl hs0 hr0 hA.symm rfl ((cond_and_t (by omega) (by omega)).symm) ((cond_and_f (by omega)).symm) ((cond_and_t (by omega) (by omega)).symm)
         exact QM_ret0 rfl (fun W hm => ⟨rfl, by rw [hE]; exact hm⟩)
        ·have g47 := decide_eq_false h46
         refine CM_condF rfl g47 ?_
         refine CM_skip ?_
         have hE : symm (ltc cf) (f + 1) a m b xs = (rot ((a + b) / 2 + m - i - i) m (m - i) ((a + b) / 2 + m - i - m) xs) := symm_c (x1 := (rot ((a + b) / 2 + m - i - i) m (m - i) ((a + b) / 2 + m - i - m) xs)) (x2 := (rot ((a + b) / 2 + m - i - i) m (m - i) ((a + b) / 2 + m - i - m) xs)) (x3 := (rot ((a + b) / 2 + m - i - i) m (m - i) ((a + b) / 2 + m - i - m) xs)) (mid := (a + b) / 2) (n := (a + b) / 2 + m) (s0 := s0) (r0 := r0) (st := i) (en := (a + b) / 2 + m - i) (by omega) (by omega) rfl rfl hs0 hr0 hA.symm rfl ((cond_and_t (by omega) (by omega)).symm) ((cond_and_f (by omega)).symm) ((cond_and_f (by omega)).symm)
         exact QM_ret0 rfl (fun W hm => ⟨rfl, by rw [hE]; exact hm⟩)
      ·have g38 := decide_eq_false h37
       refine CM_condF rfl g38 ?_
       refine CM_skip (QM_then (CM_seq (sr (wm (wm ?_)))))
       refine wv vlss ?_
       refine wm ?_
       by_cases h48 : ((a : Nat) : Int) < ((i : Nat) : Int)
       ·have g49 := decide_eq_true h48
        refine wg vmv g49 ?_
        refine wg vmv g49 ?_
        refine wg vlss g49 ?_
        refine wv (vpT g49) ?_
        refine nt' ?_
        have g50 : (decide (((i : Nat) : Int) < (((a + b) / 2 : Nat) : Int))) = false := decide_eq_false (by omega)
        refine CM_condF rfl g50 ?_
        refine CM_skip (QM_then (sr (wm (wm ?_))))
        refine wv vlss ?_
        refine wm ?_
        have g51 : (decide ((((a + b) / 2 : Nat) : Int) < (((a + b) / 2 + m - i : Nat) : Int))) = true := decide_eq_true (by omega)
        refine wg vmv g51 ?_
        refine wg vmv g51 ?_
        refine wg vlss g51 ?_
        refine wv (vpT g51) ?_
        refine nt' ?_
        by_cases h52 : (((a + b) / 2 + m - i : Nat) : Int) < ((b : Nat) : Int)
        ·have g53 := decide_eq_true h52
         refine CM_condT rfl g53 ?_
         refine CM_region (wm (wm (wm (wm (wm ?_)))))
         refine WM_callW (χ := Unit) (val := fun _ => .tuple #[]) (js := fun _ => (iOwn (tSl (tCk K) 29) [.slice A n c] (symm (ltc cf) f ((a + b) / 2) ((a + b) / 2 + m - i) b xs) :: is)) (cl_fn cb89 rfl) (fun W hm => (ih ((a + b) / 2) ((a + b) / 2 + m - i) b xs (by omega) (by omega) (by omega) (by omega) W hm).mono (fun _ _ h => ⟨(), h.1, h.2⟩)) (Wd_none rfl) (by decide) (fun _ => ?_)
         refine WM_nil ?_
         have hE : symm (ltc cf) (f + 1) a m b xs = (symm (ltc cf) f ((a + b) / 2) ((a + b) / 2 + m - i) b xs) := symm_c (x1 := xs) (x2 := xs) (x3 := (symm (ltc cf) f ((a + b) / 2) ((a + b) / 2 + m - i) b xs)) (mid := (a + b) / 2) (n := (a + b) / 2 + m) (s0 := s0) (r0 := r0) (st := i) (en := (a + b) / 2 + m - i) (by omega) (by omega) rfl rfl hs0 hr0 hA.symm rfl ((cond_and_f (by omega)).symm) ((cond_and_f (by omega)).symm) ((cond_and_t (by omega) (by omega)).symm)
         exact QM_ret0 rfl (fun W hm => ⟨rfl, by rw [hE]; exact hm⟩)
        ·have g53 := decide_eq_false h52
         refine CM_condF rfl g53 ?_
         refine CM_skip ?_
         have hE : symm (ltc cf) (f + 1) a m b xs = xs := symm_c (x1 := xs) (x2 := xs) (x3 := xs) (mid := (a + b) / 2) (n := (a + b) / 2 + m) (s0 := s0) (r0 := r0) (st := i) (en := (a + b) / 2 + m - i) (by omega) (by omega) rfl rfl hs0 hr0 hA.symm rfl ((cond_and_f (by omega)).symm) ((cond_and_f (by omega)).symm) ((cond_and_f (by omega)).symm)
         exact QM_ret0 rfl (fun W hm => ⟨rfl, by rw [hE]; exact hm⟩)
       ·have g49 := decide_eq_false h48
        refine ws g49 ?_
        refine ws g49 ?_
        refine ws g49 ?_
        refine wv (vpF g49) ?_
        refine nt' ?_
        refine CM_condF rfl rfl ?_
        refine CM_skip (QM_then (sr (wm (wm ?_))))
        refine wv vlss ?_
        refine wm ?_
        have g54 : (decide ((((a + b) / 2 : Nat) : Int) < (((a + b) / 2 + m - i : Nat) : Int))) = true := decide_eq_true (by omega)
        refine wg vmv g54 ?_
        refine wg vmv g54 ?_
        refine wg vlss g54 ?_
        refine wv (vpT g54) ?_
        refine nt' ?_
        by_cases h55 : (((a + b) / 2 + m - i : Nat) : Int) < ((b : Nat) : Int)
        ·have g56 := decide_eq_true h55
         refine CM_condT rfl g56 ?_
         refine CM_region (wm (wm (wm (wm (wm ?_)))))
         refine WM_callW (χ := Unit) (val := fun _ => .tuple #[]) (js := fun _ => (iOwn (tSl (tCk K) 29) [.slice A n c] (symm (ltc cf) f ((a + b) / 2) ((a + b) / 2 + m - i) b xs) :: is)) (cl_fn cb89 rfl) (fun W hm => (ih ((a + b) / 2) ((a + b) / 2 + m - i) b xs (by omega) (by omega) (by omega) (by omega) W hm).mono (fun _ _ h => ⟨(), h.1, h.2⟩)) (Wd_none rfl) (by decide) (fun _ => ?_)
         refine WM_nil ?_
         have hE : symm (ltc cf) (f + 1) a m b xs = (symm (ltc cf) f ((a + b) / 2) ((a + b) / 2 + m - i) b xs) := symm_c (x1 := xs) (x2 := xs) (x3 := (symm (ltc cf) f ((a + b) / 2) ((a + b) / 2 + m - i) b xs)) (mid := (a + b) / 2) (n := (a + b) / 2 + m) (s0 := s0) (r0 := r0) (st := i) (en := (a + b) / 2 + m - i) (by omega) (by omega) rfl rfl hs0 hr0 hA.symm rfl ((cond_and_f (by omega)).symm) ((cond_and_f (by omega)).symm) ((cond_and_t (by omega) (by omega)).symm)
         exact QM_ret0 rfl (fun W hm => ⟨rfl, by rw [hE]; exact hm⟩)
        ·have g56 := decide_eq_false h55
         refine CM_condF rfl g56 ?_
         refine CM_skip ?_
         have hE : symm (ltc cf) (f + 1) a m b xs = xs := symm_c (x1 := xs) (x2 := xs) (x3 := xs) (mid := (a + b) / 2) (n := (a + b) / 2 + m) (s0 := s0) (r0 := r0) (st := i) (en := (a + b) / 2 + m - i) (by omega) (by omega) rfl rfl hs0 hr0 hA.symm rfl ((cond_and_f (by omega)).symm) ((cond_and_f (by omega)).symm) ((cond_and_f (by omega)).symm)
         exact QM_ret0 rfl (fun W hm => ⟨rfl, by rw [hE]; exact hm⟩)
     ·have g36 := decide_eq_false h35
      refine ws g36 ?_
      refine ws g36 ?_
      refine ws g36 ?_
      refine wv (vpF g36) ?_
      refine nt' ?_
      refine CM_condF rfl rfl ?_
      refine CM_skip (QM_then (CM_seq (sr (wm (wm ?_)))))
      refine wv vlss ?_
      refine wm ?_
      by_cases h57 : ((a : Nat) : Int) < ((i : Nat) : Int)
      ·have g58 := decide_eq_true h57
       refine wg vmv g58 ?_
       refine wg vmv g58 ?_
       refine wg vlss g58 ?_
       refine wv (vpT g58) ?_
       refine nt' ?_
       by_cases h59 : ((i : Nat) : Int) < (((a + b) / 2 : Nat) : Int)
       ·have g60 := decide_eq_true h59
        refine CM_condT rfl g60 ?_
        refine CM_region (wm (wm (wm (wm (wm ?_)))))
        refine WM_callW (χ := Unit) (val := fun _ => .tuple #[]) (js := fun _ => (iOwn (tSl (tCk K) 29) [.slice A n c] (symm (ltc cf) f a i ((a + b) / 2) xs) :: is)) (cl_fn cb89 rfl) (fun W hm => (ih a i ((a + b) / 2) xs (by omega) (by omega) (by omega) (by omega) W hm).mono (fun _ _ h => ⟨(), h.1, h.2⟩)) (Wd_none rfl) (by decide) (fun _ => ?_)
        refine nt' (sr (wm (wm ?_)))
        refine wv vlss ?_
        refine wm ?_
        have g61 : (decide ((((a + b) / 2 : Nat) : Int) < (((a + b) / 2 + m - i : Nat) : Int))) = false := decide_eq_false (by omega)
        refine ws g61 ?_
        refine ws g61 ?_
        refine ws g61 ?_
        refine wv (vpF g61) ?_
        refine nt' ?_
        refine CM_condF rfl rfl ?_
        refine CM_skip ?_
        have hE : symm (ltc cf) (f + 1) a m b xs = (symm (ltc cf) f a i ((a + b) / 2) xs) := symm_c (x1 := xs) (x2 := (symm (ltc cf) f a i ((a + b) / 2) xs)) (x3 := (symm (ltc cf) f a i ((a + b) / 2) xs)) (mid := (a + b) / 2) (n := (a + b) / 2 + m) (s0 := s0) (r0 := r0) (st := i) (en := (a + b) / 2 + m - i) (by omega) (by omega) rfl rfl hs0 hr0 hA.symm rfl ((cond_and_f (by omega)).symm) ((cond_and_t (by omega) (by omega)).symm) ((cond_and_f (by omega)).symm)
        exact QM_ret0 rfl (fun W hm => ⟨rfl, by rw [hE]; exact hm⟩)
       ·have g60 := decide_eq_false h59
        refine CM_condF rfl g60 ?_
        refine CM_skip (QM_then (sr (wm (wm ?_))))
        refine wv vlss ?_
        refine wm ?_
        have g62 : (decide ((((a + b) / 2 : Nat) : Int) < (((a + b) / 2 + m - i : Nat) : Int))) = false := decide_eq_false (by omega)
        refine ws g62 ?_
        refine ws g62 ?_
        refine ws g62 ?_
        refine wv (vpF g62) ?_
        refine nt' ?_
        refine CM_condF rfl rfl ?_
        refine CM_skip ?_
        have hE : symm (ltc cf) (f + 1) a m b xs = xs := symm_c (x1 := xs) (x2 := xs) (x3 := xs) (mid := (a + b) / 2) (n := (a + b) / 2 + m) (s0 := s0) (r0 := r0) (st := i) (en := (a + b) / 2 + m - i) (by omega) (by omega) rfl rfl hs0 hr0 hA.symm rfl ((cond_and_f (by omega)).symm) ((cond_and_f (by omega)).symm) ((cond_and_f (by omega)).symm)
        exact QM_ret0 rfl (fun W hm => ⟨rfl, by rw [hE]; exact hm⟩)
      ·have g58 := decide_eq_false h57
       refine ws g58 ?_
       refine ws g58 ?_
       refine ws g58 ?_
       refine wv (vpF g58) ?_
       refine nt' ?_
       refine CM_condF rfl rfl ?_
       refine CM_skip (QM_then (sr (wm (wm ?_))))
       refine wv vlss ?_
       refine wm ?_
       have g63 : (decide ((((a + b) / 2 : Nat) : Int) < (((a + b) / 2 + m - i : Nat) : Int))) = false := decide_eq_false (by omega)
       refine ws g63 ?_
       refine ws g63 ?_
       refine ws g63 ?_
       refine wv (vpF g63) ?_
       refine nt' ?_
       refine CM_condF rfl rfl ?_
       refine CM_skip ?_
       have hE : symm (ltc cf) (f + 1) a m b xs = xs := symm_c (x1 := xs) (x2 := xs) (x3 := xs) (mid := (a + b) / 2) (n := (a + b) / 2 + m) (s0 := s0) (r0 := r0) (st := i) (en := (a + b) / 2 + m - i) (by omega) (by omega) rfl rfl hs0 hr0 hA.symm rfl ((cond_and_f (by omega)).symm) ((cond_and_f (by omega)).symm) ((cond_and_f (by omega)).symm)
       exact QM_ret0 rfl (fun W hm => ⟨rfl, by rw [hE]; exact hm⟩)

theorem cb79 : Cb Try.prog 79 := ⟨f79, _, func79, rfl, by decide⟩
theorem srt60_stable_c {α : Type} [Inhabited α] (K : Ck α) (hK : K.s = 2) (cf : α → α → Int) (fc : FuncId) (B : Nat) (w0 : World) (is : List It) (H : CmpOk Try.prog fc K B w0 is cf) (A : Option Addr) (n c : Nat) (hn : n ≤ 68719476736) (xs : List (List Value × α)) (w : World) (hm : Mem B w0 (iOwn (tSl (tCk K) 29) [.slice A n c] xs :: is) w) :
  Calls Try.prog 79 #[.slice A n c, .int .i64 ((n : Nat) : Int), .func (.func fc) #[] #[]] w fun e w' => e = .returned (.tuple #[]) ∧ Mem B w0 (iOwn (tSl (tCk K) 29) [.slice A n c] (mlev (ltc cf) n (n + 1) 20 (blk (ltc cf) n (n + 1) 0 xs)) :: is) w' := by
 refine call_enterW (L := [(0, .slice A n c), (1, .int .i64 ((n : Nat) : Int)), (2, .func (.func fc) #[] #[])]) (N := 63) func79 rfl rfl (Nat.le_of_ble_eq_true rfl) (argsL_cons rfl (argsL_cons rfl (argsL_cons rfl argsL_nil))) hm ?_
 refine sr (wa (nt' (sr (wm (wa (wa (nt' (CM_seq (CM_block ?_)))))))))
 refine CM_loop (σ := Nat × Nat × Nat × List (List Value × α)) (fun s => [(0, .slice A n c), (1, .int .i64 ((n : Nat) : Int)), (2, .func (.func fc) #[] #[]), (6, .int .i64 20), (7, .int .i64 ((s.1 : Nat) : Int)), (8, .int .i64 ((s.2.1 : Nat) : Int))]) (fun s => (iOwn (tSl (tCk K) 29) [.slice A n c] s.2.2.2 :: is)) (fun s => s.2.1 = s.1 + 20 ∧ n ≤ s.2.2.1 + s.1 ∧ s.1 ≤ n ∧ blk (ltc cf) n s.2.2.1 s.1 s.2.2.2 = blk (ltc cf) n (n + 1) 0 xs) (fun s => n - s.1) (0, 20, n + 1, xs) sl6 (fun W hm => hm) ⟨(show 20 = 0 + 20 from by omega), (show n ≤ (n + 1) + 0 from by omega), (show 0 ≤ n from by omega), (show blk (ltc cf) n (n + 1) 0 xs = blk (ltc cf) n (n + 1) 0 xs from rfl)⟩ ?_
 rintro ⟨p, q, f, d⟩ H1
 obtain ⟨hq, hf5, hf6, hF⟩ : q = p + 20 ∧ n ≤ f + p ∧ p ≤ n ∧ blk (ltc cf) n f p d = blk (ltc cf) n (n + 1) 0 xs := H1
 show CM Try.prog 63 _ _ _ _ [(0, .slice A n c), (1, .int .i64 ((n : Nat) : Int)), (2, .func (.func fc) #[] #[]), (6, .int .i64 20), (7, .int .i64 ((p : Nat) : Int)), (8, .int .i64 ((q : Nat) : Int))] (iOwn (tSl (tCk K) 29) [.slice A n c] d :: is)
 subst hq
 refine CM_seq (sr (wm (wm ?_)))
 refine wv (fun W hm => rv_leq rfl rfl) ?_
 refine nt' ?_
 by_cases h2 : ((p + 20 : Nat) : Int) ≤ ((n : Nat) : Int)
 ·have g3 := decide_eq_true h2
  refine CM_condT rfl g3 ?_
  refine CM_skip (QM_then (CM_block (sr (wm (wm (wm (wm ?_)))))))
  refine WM_callW (χ := Unit) (val := fun _ => .tuple #[]) (js := fun _ => (iOwn (tSl (tCk K) 29) [.slice A n c] (insL (ltc cf) p (p + 20 - p - 1) (p + 1) d) :: is)) (cl_fn cb88 rfl) (fun W hm => (srt60_ins_c K hK cf fc B w0 is H A n c hn p (p + 20) d (by omega) (by omega) W hm).mono (fun _ _ h => ⟨(), h.1, h.2⟩)) (Wd_none rfl) (by decide) (fun _ => ?_)
  refine nt' (sr (wm (wa (nt' (CM_region (wm (wm ?_)))))))
  refine wv (fun W hm => rv_addN (p := p + 20) (q := 20) rfl rfl (by omega)) ?_
  refine wa (WM_nil (QM_block_normal ?_))
  exact QM_round (p + 20, p + 20 + 20, f - 1, (insL (ltc cf) p (p + 20 - p - 1) (p + 1) d)) sl6 (fun W hm => hm) ⟨(show (p + 20 + 20) = (p + 20) + 20 from by omega), (show n ≤ (f - 1) + (p + 20) from by omega), (show (p + 20) ≤ n from by omega), (show blk (ltc cf) n (f - 1) (p + 20) (insL (ltc cf) p (p + 20 - p - 1) (p + 1) d) = blk (ltc cf) n (n + 1) 0 xs from (blk_step (by omega) (by omega)).symm.trans hF)⟩ (show n - (p + 20) < n - p from by omega)
 ·have g3 := decide_eq_false h2
  refine CM_condF rfl g3 ?_
  refine CM_exit (QM_then_exit (QM_then_exit ?_))
  have hY := (blk_end (lt := ltc cf) (f := f) (xs := d) (show ¬ p + 20 ≤ n by omega)).symm.trans hF
  refine QM_block_hit (QM_then (sr (wm (wm (wm (wm ?_))))))
  refine WM_callW (χ := Unit) (val := fun _ => .tuple #[]) (js := fun _ => (iOwn (tSl (tCk K) 29) [.slice A n c] (insL (ltc cf) p (n - p - 1) (p + 1) d) :: is)) (cl_fn cb88 rfl) (fun W hm => (srt60_ins_c K hK cf fc B w0 is H A n c hn p n d (by omega) (by omega) W hm).mono (fun _ _ h => ⟨(), h.1, h.2⟩)) (Wd_none rfl) (by decide) (fun _ => ?_)
  refine nt' (CM_block ?_)
  refine CM_loop (σ := Nat × Nat × List (List Value × α)) (fun s => [(0, .slice A n c), (1, .int .i64 ((n : Nat) : Int)), (2, .func (.func fc) #[] #[]), (6, .int .i64 ((s.1 : Nat) : Int))]) (fun s => (iOwn (tSl (tCk K) 29) [.slice A n c] s.2.2 :: is)) (fun s => 0 < s.1 ∧ n < s.2.1 + s.1 ∧ mlev (ltc cf) n s.2.1 s.1 s.2.2 = mlev (ltc cf) n (n + 1) 20 (blk (ltc cf) n (n + 1) 0 xs)) (fun s => n - s.1) (20, n + 1, (insL (ltc cf) p (n - p - 1) (p + 1) d)) sl4 (fun W hm => hm) ⟨(show 0 < 20 from by omega), (show n < (n + 1) + 20 from by omega), (show mlev (ltc cf) n (n + 1) 20 (insL (ltc cf) p (n - p - 1) (p + 1) d) = mlev (ltc cf) n (n + 1) 20 (blk (ltc cf) n (n + 1) 0 xs) from by rw [hY])⟩ ?_
  rintro ⟨w, f2, d2⟩ H4
  obtain ⟨hw, hf7, hF2⟩ : 0 < w ∧ n < f2 + w ∧ mlev (ltc cf) n f2 w d2 = mlev (ltc cf) n (n + 1) 20 (blk (ltc cf) n (n + 1) 0 xs) := H4
  show CM Try.prog 63 _ _ _ _ [(0, .slice A n c), (1, .int .i64 ((n : Nat) : Int)), (2, .func (.func fc) #[] #[]), (6, .int .i64 ((w : Nat) : Int))] (iOwn (tSl (tCk K) 29) [.slice A n c] d2 :: is)
  refine CM_seq (sr (wm (wm ?_)))
  refine wv vlss ?_
  refine nt' ?_
  by_cases h5 : ((w : Nat) : Int) < ((n : Nat) : Int)
  ·have g6 := decide_eq_true h5
   refine CM_condT rfl g6 ?_
   refine CM_skip (QM_then (CM_block (sr (wm ?_))))
   refine wv (fun W hm => rv_mulN (p := 2) (q := w) rfl rfl (by omega)) ?_
   refine wa (wa (nt' (CM_seq (CM_block ?_))))
   refine CM_loop (σ := Nat × Nat × Nat × List (List Value × α)) (fun s => [(0, .slice A n c), (1, .int .i64 ((n : Nat) : Int)), (2, .func (.func fc) #[] #[]), (6, .int .i64 ((w : Nat) : Int)), (7, .int .i64 ((s.1 : Nat) : Int)), (8, .int .i64 ((s.2.1 : Nat) : Int))]) (fun s => (iOwn (tSl (tCk K) 29) [.slice A n c] s.2.2.2 :: is)) (fun s => s.2.1 = s.1 + 2 * w ∧ n < s.2.2.1 + s.1 ∧ s.1 ≤ n ∧ mrg (ltc cf) n w s.2.2.1 s.1 s.2.2.2 = mrg (ltc cf) n w (n + 1) 0 d2) (fun s => n - s.1) (0, 2 * w, n + 1, d2) sl6 (fun W hm => hm) ⟨(show (2 * w) = 0 + 2 * w from by omega), (show n < (n + 1) + 0 from by omega), (show 0 ≤ n from by omega), (show mrg (ltc cf) n w (n + 1) 0 d2 = mrg (ltc cf) n w (n + 1) 0 d2 from rfl)⟩ ?_
   rintro ⟨p2, q2, f3, d3⟩ H7
   obtain ⟨hq2, hf8, hf9, hF3⟩ : q2 = p2 + 2 * w ∧ n < f3 + p2 ∧ p2 ≤ n ∧ mrg (ltc cf) n w f3 p2 d3 = mrg (ltc cf) n w (n + 1) 0 d2 := H7
   show CM Try.prog 63 _ _ _ _ [(0, .slice A n c), (1, .int .i64 ((n : Nat) : Int)), (2, .func (.func fc) #[] #[]), (6, .int .i64 ((w : Nat) : Int)), (7, .int .i64 ((p2 : Nat) : Int)), (8, .int .i64 ((q2 : Nat) : Int))] (iOwn (tSl (tCk K) 29) [.slice A n c] d3 :: is)
   subst hq2
   refine CM_seq (sr (wm (wm ?_)))
   refine wv (fun W hm => rv_leq rfl rfl) ?_
   refine nt' ?_
   by_cases h8 : ((p2 + 2 * w : Nat) : Int) ≤ ((n : Nat) : Int)
   ·have g9 := decide_eq_true h8
    refine CM_condT rfl g9 ?_
    refine CM_skip (QM_then (CM_block (sr (wm (wm (wm (wm ?_)))))))
    refine wv (vadN p2 w (by omega)) ?_
    refine wm (wm ?_)
    refine WM_callW (χ := Unit) (val := fun _ => .tuple #[]) (js := fun _ => (iOwn (tSl (tCk K) 29) [.slice A n c] (symm (ltc cf) (2 * w) p2 (p2 + w) (p2 + 2 * w) d3) :: is)) (cl_fn cb89 rfl) (fun W hm => (srt60_symm_c K hK cf fc B w0 is H A n c hn (2 * w) p2 (p2 + w) (p2 + 2 * w) d3 (by omega) (by omega) (by omega) (by omega) W hm).mono (fun _ _ h => ⟨(), h.1, h.2⟩)) (Wd_none rfl) (by decide) (fun _ => ?_)
    refine nt' (sr (wm (wa (nt' (CM_region (wm (wm ?_)))))))
    refine wv (fun W hm => rv_mulN (p := 2) (q := w) rfl rfl (by omega)) ?_
    refine wv (fun W hm => rv_addN (p := p2 + 2 * w) (q := 2 * w) rfl rfl (by omega)) ?_
    refine wa (WM_nil (QM_block_normal ?_))
    exact QM_round (p2 + 2 * w, p2 + 2 * w + 2 * w, f3 - 1, (symm (ltc cf) (2 * w) p2 (p2 + w) (p2 + 2 * w) d3)) sl6 (fun W hm => hm) ⟨(show (p2 + 2 * w + 2 * w) = (p2 + 2 * w) + 2 * w from by omega), (show n < (f3 - 1) + (p2 + 2 * w) from by omega), (show (p2 + 2 * w) ≤ n from by omega), (show mrg (ltc cf) n w (f3 - 1) (p2 + 2 * w) (symm (ltc cf) (2 * w) p2 (p2 + w) (p2 + 2 * w) d3) = mrg (ltc cf) n w (n + 1) 0 d2 from (mrg_step (by omega) (by omega)).symm.trans hF3)⟩ (show n - (p2 + 2 * w) < n - p2 from by omega)
   ·have g9 := decide_eq_false h8
    refine CM_condF rfl g9 ?_
    refine CM_exit (QM_then_exit (QM_then_exit ?_))
    have hM := (mrg_end (lt := ltc cf) (xs := d3) (show ¬ p2 + 2 * w ≤ n by omega) hf8 hf9).symm.trans hF3
    refine QM_block_hit (QM_then (CM_seq (sr (wm (wm ?_)))))
    refine wv (vadN p2 w (by omega)) ?_
    refine wa (nt' (sr (wm (wm ?_))))
    refine wv vlss ?_
    refine nt' ?_
    by_cases h10 : ((p2 + w : Nat) : Int) < ((n : Nat) : Int)
    ·have g11 := decide_eq_true h10
     refine CM_condT rfl g11 ?_
     refine CM_region (wm (wm (wm (wm (wm ?_)))))
     refine WM_callW (χ := Unit) (val := fun _ => .tuple #[]) (js := fun _ => (iOwn (tSl (tCk K) 29) [.slice A n c] (symm (ltc cf) (n - p2) p2 (p2 + w) n d3) :: is)) (cl_fn cb89 rfl) (fun W hm => (srt60_symm_c K hK cf fc B w0 is H A n c hn (n - p2) p2 (p2 + w) n d3 (by omega) (by omega) (by omega) (by omega) W hm).mono (fun _ _ h => ⟨(), h.1, h.2⟩)) (Wd_none rfl) (by decide) (fun _ => ?_)
     refine nt' (CM_region (wm ?_))
     refine wv (fun W hm => rv_mulN (p := w) (q := 2) rfl rfl (by omega)) ?_
     refine wa (WM_nil (QM_block_normal ?_))
     exact QM_round (w * 2, f2 - 1, (symm (ltc cf) (n - p2) p2 (p2 + w) n d3)) sl4 (fun W hm => hm) ⟨(show 0 < (w * 2) from by omega), (show n < (f2 - 1) + (w * 2) from by omega), (show mlev (ltc cf) n (f2 - 1) (w * 2) (symm (ltc cf) (n - p2) p2 (p2 + w) n d3) = mlev (ltc cf) n (n + 1) 20 (blk (ltc cf) n (n + 1) 0 xs) from (congrArg (mlev (ltc cf) n (f2 - 1) (w * 2)) (by rw [decide_eq_true (show p2 + w < n by omega)] at hM; exact hM)).trans ((mlev_step (by omega) (by omega)).symm.trans hF2))⟩ (show n - (w * 2) < n - w from by omega)
    ·have g11 := decide_eq_false h10
     refine CM_condF rfl g11 ?_
     refine CM_skip (QM_then (CM_region (wm ?_)))
     refine wv (fun W hm => rv_mulN (p := w) (q := 2) rfl rfl (by omega)) ?_
     refine wa (WM_nil (QM_block_normal ?_))
     exact QM_round (w * 2, f2 - 1, d3) sl4 (fun W hm => hm) ⟨(show 0 < (w * 2) from by omega), (show n < (f2 - 1) + (w * 2) from by omega), (show mlev (ltc cf) n (f2 - 1) (w * 2) d3 = mlev (ltc cf) n (n + 1) 20 (blk (ltc cf) n (n + 1) 0 xs) from (congrArg (mlev (ltc cf) n (f2 - 1) (w * 2)) (by rw [decide_eq_false (show ¬ p2 + w < n by omega)] at hM; exact hM)).trans ((mlev_step (by omega) (by omega)).symm.trans hF2))⟩ (show n - (w * 2) < n - w from by omega)
  ·have g6 := decide_eq_false h5
   refine CM_condF rfl g6 ?_
   refine CM_exit (QM_then_exit (QM_then_exit (QM_block_hit ?_)))
   have hE : mlev (ltc cf) n (n + 1) 20 (blk (ltc cf) n (n + 1) 0 xs) = d2 := ((mlev_end (by omega)).symm.trans hF2).symm
   exact QM_ret0 rfl (fun W hm => ⟨rfl, by rw [hE]; exact hm⟩)

theorem cb60 : Cb Try.prog 60 := ⟨f60, _, func60, rfl, by decide⟩
theorem srt60_sort_c {α : Type} [Inhabited α] (K : Ck α) (hK : K.s = 2) (cf : α → α → Int) (fc : FuncId) (B : Nat) (w0 : World) (is : List It) (H : CmpOk Try.prog fc K B w0 is cf) (A : Option Addr) (n c : Nat) (hn : n ≤ 68719476736) (xs : List (List Value × α)) (w : World) (hm : Mem B w0 (iOwn (tSl (tCk K) 29) [.slice A n c] xs :: is) w) :
  Calls Try.prog 60 #[.slice A n c, .func (.func fc) #[] #[]] w fun e w' => e = .returned (.tuple #[]) ∧ Mem B w0 (iOwn (tSl (tCk K) 29) [.slice A n c] (mlev (ltc cf) n (n + 1) 20 (blk (ltc cf) n (n + 1) 0 xs)) :: is) w' := by
 refine call_enterW (L := [(0, .slice A n c), (1, .func (.func fc) #[] #[])]) (N := 9) func60 rfl rfl (Nat.le_of_ble_eq_true rfl) (argsL_cons rfl (argsL_cons rfl argsL_nil)) hm ?_
 refine CM_region (wm (wm ?_))
 refine wv (vlen underlying39) ?_
 refine wm ?_
 refine WM_callW (χ := Unit) (val := fun _ => .tuple #[]) (js := fun _ => (iOwn (tSl (tCk K) 29) [.slice A n c] (mlev (ltc cf) n (n + 1) 20 (blk (ltc cf) n (n + 1) 0 xs)) :: is)) (cl_fn cb79 rfl) (fun W hm => (srt60_stable_c K hK cf fc B w0 is H A n c hn xs W hm).mono (fun _ _ h => ⟨(), h.1, h.2⟩)) (Wd_none rfl) (by decide) (fun _ => ?_)
 refine WM_nil ?_
 have hE : mlev (ltc cf) n (n + 1) 20 (blk (ltc cf) n (n + 1) 0 xs) = (mlev (ltc cf) n (n + 1) 20 (blk (ltc cf) n (n + 1) 0 xs)) := rfl
 exact QM_ret0 rfl (fun W hm => ⟨rfl, by rw [hE]; exact hm⟩)

theorem cmp_int (a b : Int) : cmp_Compare_int_m a b = if a < b then -1 else if b < a then 1 else 0 := by
  unfold cmp_Compare_int_m cmp_isNaN_int_m
  rw [bne_self_eq_false, bne_self_eq_false]
  by_cases h1 : a < b
  · rw [decide_eq_true h1, if_pos h1]; rfl
  · rw [decide_eq_false h1, if_neg h1]
    by_cases h2 : b < a
    · rw [decide_eq_true h2, if_pos h2]; rfl
    · rw [decide_eq_false h2, if_neg h2]; rfl
theorem Compare_lex (x y : List Int) : slices_Compare_int_m x y = lexI x y := by
  unfold slices_Compare_int_m
  have h : ∀ m k, m + k = x.length → Sum.elim id (fun (_ : Unit) => cond (decide (((x.length : Nat) : Int) < ((y.length : Nat) : Int))) (-1) (0 : Int)) (rng (R := Int) (fun k (_ : Unit) => slices_Compare_int_b1 x y k) m k ()) = (if k ≤ y.length then lexI (x.drop k) (y.drop k) else cond (decide (m = 0)) 0 1) := by
    intro m
    induction m with
    | zero =>
      intro k hk
      rw [rng]
      show cond (decide (((x.length : Nat) : Int) < ((y.length : Nat) : Int))) (-1) (0 : Int) = _
      rw [List.drop_of_length_le (l := x) (by omega)]
      by_cases h1 : k ≤ y.length
      · rw [if_pos h1]
        by_cases h2 : x.length < y.length
        · rw [decide_eq_true (by omega), List.drop_eq_getElem_cons (show k < y.length by omega)]; rfl
        · rw [decide_eq_false (by omega), List.drop_of_length_le (l := y) (by omega)]; rfl
      · rw [if_neg h1, decide_eq_false (by omega)]; rfl
    | succ m ih =>
      intro k hk
      rw [rng]
      show Sum.elim id _ (Sum.elim Sum.inl (fun _ => rng _ m (k + 1) ()) (slices_Compare_int_b1 x y k)) = _
      unfold slices_Compare_int_b1
      by_cases h1 : y.length ≤ k
      · rw [decide_eq_true (show ((y.length : Nat) : Int) ≤ ((k : Nat) : Int) by omega)]
        show (1 : Int) = _
        by_cases h2 : k ≤ y.length
        · rw [if_pos h2, List.drop_of_length_le (l := y) (by omega), List.drop_eq_getElem_cons (show k < x.length by omega)]; rfl
        · rw [if_neg h2, decide_eq_false (show ¬ m + 1 = 0 by omega)]; rfl
      · rw [decide_eq_false (show ¬ ((y.length : Nat) : Int) ≤ ((k : Nat) : Int) by omega), if_pos (by omega), List.drop_eq_getElem_cons (show k < x.length by omega), List.drop_eq_getElem_cons (show k < y.length by omega), lexI, ← gt_at, ← gt_at, cmp_int]
        by_cases h2 : gt x k < gt y k
        · simp only [if_pos h2]; rfl
        · simp only [if_neg h2]
          by_cases h3 : gt y k < gt x k
          · simp only [if_pos h3]; rfl
          · simp only [if_neg h3]
            have := ih (k + 1) (by omega)
            rw [if_pos (by omega)] at this
            exact this
  have h0 := h (x.length - 0) 0 (by omega)
  rw [if_pos (Nat.zero_le _)] at h0
  exact h0
theorem rows_lt (x y : DRow) : lt0 impl_SortRows_1_m x y = true ↔ (x.Id < y.Id ∨ (x.Id = y.Id ∧ lexI x.Values y.Values < 0)) := by
  show decide (impl_SortRows_1_m x y < 0) = true ↔ _
  unfold impl_SortRows_1_m
  rw [decide_eq_true_eq, Compare_lex]
  by_cases h1 : x.Id < y.Id
  · rw [decide_eq_true h1]; exact ⟨fun _ => .inl h1, fun _ => show (-1 : Int) < 0 by decide⟩
  · rw [decide_eq_false h1]
    by_cases h2 : y.Id < x.Id
    · rw [decide_eq_true h2]
      refine ⟨fun h => absurd h (show ¬ (1 : Int) < 0 by decide), fun h => ?_⟩
      rcases h with h | h <;> omega
    · rw [decide_eq_false h2]
      exact ⟨fun h => .inr ⟨by omega, h⟩, fun h => by rcases h with h | h; exact absurd h h1; exact h.2⟩
theorem impl_SortRows_1_ord : Ord (lt0 impl_SortRows_1_m) := ord_of rows_lt
  (fun x y h1 h2 => by
    rcases h1 with h1 | ⟨h1, h3⟩
    · rcases h2 with h2 | ⟨h2, _⟩ <;> omega
    · rcases h2 with h2 | ⟨_, h4⟩
      · omega
      · have := lexI_neg _ _ h3; omega)
  (fun x y z h1 h2 h3 => by
    rcases h3 with h3 | ⟨h3, h4⟩
    · rcases Int.lt_trichotomy z.Id y.Id with a | a | a
      · exact h2 (.inl a)
      · exact h1 (.inl (by omega))
      · exact h1 (.inl (by omega))
    · rcases Int.lt_trichotomy z.Id y.Id with a | a | a
      · exact h2 (.inl a)
      · have a1 : 0 ≤ lexI z.Values y.Values := by
          apply Int.not_lt.1; exact fun q => h2 (.inr ⟨a, q⟩)
        have a2 : 0 ≤ lexI y.Values x.Values := by
          apply Int.not_lt.1; exact fun q => h1 (.inr ⟨by omega, q⟩)
        have := lexI_tr _ _ _ a2 a1
        omega
      · exact h1 (.inl (by omega)))
def impl_SortRows_m (x0 : (List DRow)) : (List DRow) :=
 (stb (lt0 impl_SortRows_1_m) x0)
theorem cb20 : Cb Try.prog 20 := ⟨f20, _, func20, rfl, by decide⟩
theorem impl_SortRows_c (w : World) (z0 : Value) (x0 : (List DRow)) (r_0 : rdS tyRow w w.heap.size z0 x0) (s_0 : (x0.length ≤ 68719476736 ∧ ∀ y ∈ x0, smRow 68719476736 y)) :
  Calls Try.prog 20 #[z0] w fun e w' => ∃ v : Value, e = .returned (v) ∧ Mem w.heap.size w [iOwn (tSl tyRow 29) [v] (impl_SortRows_m x0)] w' := by
 obtain ⟨m1, A2, c3, rfl, q4, r5⟩ := rdS_op r_0
 have l6 : x0.length ≤ 68719476736 := s_0.1
 refine ce1 (L := [(0, .slice A2 x0.length c3)]) (N := 9) func20 ?_
 refine sr (wa (nt' (sr (wm ?_))))
 refine wcl (tSl tyRow 29) x0 (cl_fn cb59 rfl) (fun W hm => impl_copyRows_c2 W _ x0 (hm.rdS0 r5) s_0) (fun z7 => ?_)
 refine WM_form (n := 0) rfl ?_
 rintro A8 c9 rfl m10
 refine wa (nt' (sr (wm ?_)))
 refine WM_sort (E := tyRow) (e := 29) (xs := x0) (cf := impl_SortRows_1_m) (js := []) impl_SortRows_1_ord (fun W hm => hm) rfl cb61 (cl_fn cb60 rfl) (fun W cs ds x y hx hy => impl_SortRows_1_c W cs x ds y hx hy) (fun K hK is H ps W hm => srt60_sort_c K hK _ _ _ _ is H _ _ _ (by omega) ps W hm) (Wd_none rfl) (by decide) ?_
 refine nt' (sr (wm (wa (nt' (CM_ret ?_)))))
 have he12 := (show impl_SortRows_m x0 = (stb (lt0 impl_SortRows_1_m) x0) from rfl)
 refine QM_r1 rfl (RR_tmp rfl) (fun W hm => ⟨.slice A8 x0.length c9, ?_, ?_⟩)
 ·first | rw [he12] | rfl
 ·rw [he12]; exact hm

end Go.Proofs.Ytglapeecbnaipaa
