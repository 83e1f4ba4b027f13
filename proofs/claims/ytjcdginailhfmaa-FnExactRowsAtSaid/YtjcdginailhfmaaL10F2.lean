/-
  Contracts of functions, printed by a program of ours.
-/
import Derived.Test.YtjcdginailhfmaaL10F1
namespace Go.Proofs.Ytjcdginailhfmaa
open Go.RowKit
def impl_IsStore_b3 (x0 : DStore) (k16 : Nat) (k41 : Nat) (d42 : (List DVersion)) (k77 : Nat) : Bool ⊕ (Unit) :=
 cond (((gt (gt x0.Segments k16) k41).Id) == ((gt d42 k77).Id)) (cond (impl_meetInTime_m (gt (gt x0.Segments k16) k41) (gt d42 k77)) (Sum.inl false) (Sum.inr ())) (Sum.inr ())
def impl_IsStore_b4 (x0 : DStore) (k16 : Nat) (k41 : Nat) (d42 : (List DVersion)) (k112 : Nat) : Bool ⊕ (Unit) :=
 cond (((gt (gt x0.Segments k16) k41).Id) == ((gt d42 k112).Id)) (cond (impl_meetInTime_m (gt (gt x0.Segments k16) k41) (gt d42 k112)) (Sum.inl false) (Sum.inr ())) (Sum.inr ())
def impl_IsStore_b2 (x0 : DStore) (k16 : Nat) (k41 : Nat) (d42 : (List DVersion)) : Bool ⊕ ((List DVersion)) :=
 cond (impl_IsRow_m (impl_rowOf_m (gt (gt x0.Segments k16) k41))) (cond (impl_within_m ((gt (gt x0.Segments k16) k41).Born) 0 x0.Now) (cond (((gt (gt x0.Segments k16) k41).Died) != (-1)) (cond (impl_within_m ((gt (gt x0.Segments k16) k41).Died) (IntKind.i64.wrap (((gt (gt x0.Segments k16) k41).Born) + 1)) x0.Now) (Sum.elim Sum.inl (fun (s : Unit) => Sum.inr (d42 ++ [(gt (gt x0.Segments k16) k41)])) (rng (R := Bool) (fun k (_ : Unit) => impl_IsStore_b4 x0 k16 k41 d42 k) (d42.length - 0) 0 ())) (Sum.inl false)) (Sum.elim Sum.inl (fun (s : Unit) => Sum.inr (d42 ++ [(gt (gt x0.Segments k16) k41)])) (rng (R := Bool) (fun k (_ : Unit) => impl_IsStore_b3 x0 k16 k41 d42 k) (d42.length - 0) 0 ()))) (Sum.inl false)) (Sum.inl false)
def impl_IsStore_b1 (x0 : DStore) (k16 : Nat) (d17 : (List DVersion)) : Bool ⊕ ((List DVersion)) :=
 cond (decide (4 < ((((gt x0.Segments k16)).length : Nat) : Int))) (Sum.inl false) (Sum.elim Sum.inl (fun (s : (List DVersion)) => Sum.inr s) (rng (R := Bool) (fun k (s : (List DVersion)) => impl_IsStore_b2 x0 k16 k s) (((gt x0.Segments k16)).length - 0) 0 d17))
def impl_IsStore_m (x0 : DStore) : Bool :=
 cond (impl_within_m ((x0.Segments.length : Nat) : Int) 1 8) (cond (impl_within_m x0.Now 0 100000) (Sum.elim id (fun (s : (List DVersion)) => true) (rng (R := Bool) (fun k (s : (List DVersion)) => impl_IsStore_b1 x0 k s) (x0.Segments.length - 0) 0 [])) false) false
set_option maxRecDepth 100000 in
theorem cb73 : Cb Try.prog 73 := ⟨Try.f73, _, Try.func73, rfl, by decide⟩
set_option maxRecDepth 10000 in
set_option maxHeartbeats 4000000 in
theorem impl_IsStore_c (w : World) (z0 : List Value) (x0 : DStore) (r_0 : tyStore.rd w w.heap.size z0 x0) (s_0 : smStore 68719476736 x0) :
  Calls Try.prog 73 #[.agg z0.toArray] w fun e w' => e = .returned (.bool (impl_IsStore_m x0)) ∧ Below w.heap.size w w' := by
 obtain ⟨v1, rfl, r2⟩ := tyStore_rd r_0
 have r7 := r2
 obtain ⟨m3, A4, c5, rfl, q6⟩ := r2
 have l8 : x0.Segments.length ≤ 68719476736 := s_0.1
 refine call_enterM (L := [(0, .agg #[.slice A4 x0.Segments.length c5, .int .i64 x0.Now])]) (N := 89) Try.func73 rfl rfl (Nat.le_of_ble_eq_true rfl) (argsL_cons rfl argsL_nil) ?_
 refine sr ?_
 refine WM_box rfl (Wd_none rfl) (by decide) (fun p9 => ?_)
 refine wa ?_
 refine nt' ?_
 refine CM_seq ?_
 refine sr ?_
 refine wv (fun W hm => rv_field Try.underlying45 rfl Try.type43 (by decide) rfl rfl) ?_
 refine wv (fun W hm => rv_load Try.underlying43 rfl rfl (hm.boxCell (n := 0) (o := 0) rfl rfl)) ?_
 refine wv (fun W hm => rv_len Try.underlying43 rfl) ?_
 refine WM_callV (cl_fn cb114 rfl) (fun W hm => impl_within_c W ((x0.Segments.length : Nat) : Int) 1 8) (Wd_none rfl) (by decide) ?_
 refine wv (fun W hm => rv_not rfl) ?_
 refine wm ?_
 rcases Bool.eq_false_or_eq_true (impl_within_m ((x0.Segments.length : Nat) : Int) 1 8) with g11 | g11
 ·
  have hw := impl_within_fact g11
  refine wg (fun W hm => rv_field Try.underlying45 rfl Try.type3 (by decide) rfl rfl) (nt g11) ?_
  refine wg (fun W hm => rv_load Try.underlying3 rfl rfl (hm.boxCell (n := 0) (o := 1) rfl rfl)) (nt g11) ?_
  refine WM_callV (cl_fn cb114 rfl) (fun W hm => impl_within_c W x0.Now 0 100000) (Wd_some rfl rfl rfl (bw (nt g11) rfl)) (by decide) ?_
  refine wg (fun W hm => rv_not rfl) (nt g11) ?_
  refine wv (fun W hm => rv_pickF rfl (nt g11) rfl) ?_
  refine nt' ?_
  rcases Bool.eq_false_or_eq_true (impl_within_m x0.Now 0 100000) with g13 | g13
  ·
   have hw := impl_within_fact g13
   refine CM_condF rfl (nt g13) ?_
   refine CM_skip ?_
   refine QM_then ?_
   refine sr ?_
   refine WM_build0 (E := (tBor tyVersion w w.heap.size)) Try.underlying100 Try.type102 (Wd_none rfl) (by decide) (fun p14 => ?_)
   refine wa ?_
   refine nt' ?_
   refine CM_seq ?_
   refine sr ?_
   refine wv (fun W hm => rv_field Try.underlying45 rfl Try.type43 (by decide) rfl rfl) ?_
   refine wv (fun W hm => rv_load Try.underlying43 rfl rfl (hm.boxCell (n := 1) (o := 0) rfl rfl)) ?_
   refine wv (fun W hm => rv_len Try.underlying43 rfl) ?_
   refine wm ?_
   refine nt' ?_
   refine CM_block ?_
   refine CM_loop (σ := Nat × ((List DVersion)) × (Option Addr × Nat)) (fun s => [(1, .pointer (some (⟨p9, 0, none⟩ : Addr))), (3, .slice s.2.2.1 s.2.1.length s.2.2.2), (23, .slice A4 x0.Segments.length c5), (24, .int .i64 ((x0.Segments.length : Nat) : Int)), (25, .int .i64 ((s.1 : Nat) : Int))]) (fun s => [iOwn (tSl (tBor tyVersion w w.heap.size) 102) [.slice s.2.2.1 s.2.1.length s.2.2.2] s.2.1, iBox p9 45 [.slice A4 x0.Segments.length c5, .int .i64 x0.Now]]) (fun s => s.1 ≤ x0.Segments.length ∧ rng (R := Bool) (fun k (s : (List DVersion)) => impl_IsStore_b1 x0 k s) (x0.Segments.length - s.1) s.1 s.2.1 = rng (R := Bool) (fun k (s : (List DVersion)) => impl_IsStore_b1 x0 k s) (x0.Segments.length - 0) 0 [] ∧ s.2.1.length ≤ 0 + 4 * s.1) (fun s => x0.Segments.length - s.1) (0, [], ((some ⟨p14, 0, none⟩), 0)) (subL_cons rfl (subL_cons rfl (subL_cons rfl (subL_cons rfl (subL_cons rfl subL_nil))))) (fun W hm => hm) ⟨(by omega), rfl, Nat.le_refl _⟩ ?_
   rintro ⟨k16, d17, ⟨A18, c19⟩⟩ H22
   obtain ⟨hk20, hF21, hi23⟩ : k16 ≤ x0.Segments.length ∧ rng (R := Bool) (fun k (s : (List DVersion)) => impl_IsStore_b1 x0 k s) (x0.Segments.length - k16) k16 d17 = rng (R := Bool) (fun k (s : (List DVersion)) => impl_IsStore_b1 x0 k s) (x0.Segments.length - 0) 0 [] ∧ d17.length ≤ 0 + 4 * k16 := H22
   show CM Try.prog 89 _ _ _ _ [(1, .pointer (some (⟨p9, 0, none⟩ : Addr))), (3, .slice A18 d17.length c19), (23, .slice A4 x0.Segments.length c5), (24, .int .i64 ((x0.Segments.length : Nat) : Int)), (25, .int .i64 ((k16 : Nat) : Int))] [iOwn (tSl (tBor tyVersion w w.heap.size) 102) [.slice A18 d17.length c19] d17, iBox p9 45 [.slice A4 x0.Segments.length c5, .int .i64 x0.Now]]
   refine sr ?_
   refine wv (fun W hm => rv_lss rfl rfl) ?_
   refine nt' ?_
   refine CM_seq ?_
   by_cases hl24 : k16 < x0.Segments.length
   ·have g25 : (decide (((k16 : Nat) : Int) < ((x0.Segments.length : Nat) : Int))) = true := decide_eq_true (by omega)
    refine CM_condT rfl g25 ?_
    refine CM_skip ?_
    refine QM_then ?_
    refine CM_seq ?_
    refine CM_block ?_
    refine sr ?_
    obtain ⟨a26, rfl, hb27, he28⟩ := q6 (by omega)
    refine wv (fun W hm => rv_index (sz := 1) (k := k16) Try.underlying43 Try.type100 rfl rfl rfl (by omega)) ?_
    obtain ⟨_, e30, hc29⟩ := he28 k16 _ (gt_some (show k16 < x0.Segments.length from by omega))
    have l31 : (gt x0.Segments k16).length ≤ 68719476736 := (s_0.2 _ (gt_mem (show k16 < x0.Segments.length from by omega))).1
    obtain ⟨v32, rfl, r33⟩ := e30
    have r38 := r33
    obtain ⟨m34, A35, c36, rfl, q37⟩ := r33
    refine wv (fun W hm => rv_load Try.underlying100 rfl rfl ((hm.cell0 (show (a26.add (k16 * 1)).block < w.heap.size from by rw [add_block]; exact hb27.1)).trans (hc29 0 _ rfl))) ?_
    refine wa ?_
    refine nt' ?_
    refine CM_seq ?_
    refine sr ?_
    refine wm ?_
    refine wv (fun W hm => rv_len Try.underlying100 rfl) ?_
    refine wv (fun W hm => rv_gtr rfl rfl) ?_
    refine nt' ?_
    by_cases h39 : 4 < ((((gt x0.Segments k16)).length : Nat) : Int)
    ·have g40 : (decide (4 < ((((gt x0.Segments k16)).length : Nat) : Int))) = true := decide_eq_true h39
     refine CM_condT rfl g40 ?_
     refine sr ?_
     refine wa ?_
     refine nt' ?_
     refine CM_ret ?_
     refine QM_then_ret ?_
     refine QM_block_ret ?_
     refine QM_then_ret ?_
     refine QM_then_ret ?_
     refine QM_block_ret ?_
     refine QM_then_ret ?_
     exact QM_ret1 rfl rfl (fun W hm => ⟨ret_b (show impl_IsStore_m x0 = false from by unfold impl_IsStore_m; exact cond_t g11 (cond_t g13 (fin_inl (rng_ret (body := (fun k (s : (List DVersion)) => impl_IsStore_b1 x0 k s)) (k := k16) (s := d17) (show k16 < x0.Segments.length from by omega) (show impl_IsStore_b1 x0 k16 d17 = Sum.inl false from by unfold impl_IsStore_b1; exact cond_t g40 (rfl)) hF21) rfl))), hm.below⟩)
    ·have g40 : (decide (4 < ((((gt x0.Segments k16)).length : Nat) : Int))) = false := decide_eq_false h39
     refine CM_condF rfl g40 ?_
     refine CM_skip ?_
     refine QM_then ?_
     refine sr ?_
     refine wm ?_
     refine wv (fun W hm => rv_len Try.underlying100 rfl) ?_
     refine wm ?_
     refine nt' ?_
     refine CM_block ?_
     refine CM_loop (σ := Nat × ((List DVersion)) × (Option Addr × Nat)) (fun s => [(1, .pointer (some (⟨p9, 0, none⟩ : Addr))), (3, .slice s.2.2.1 s.2.1.length s.2.2.2), (23, .slice (some a26) x0.Segments.length c5), (24, .int .i64 ((x0.Segments.length : Nat) : Int)), (25, .int .i64 ((k16 : Nat) : Int)), (32, .slice A35 ((gt x0.Segments k16)).length c36), (33, .int .i64 ((((gt x0.Segments k16)).length : Nat) : Int)), (34, .int .i64 ((s.1 : Nat) : Int))]) (fun s => [iOwn (tSl (tBor tyVersion w w.heap.size) 102) [.slice s.2.2.1 s.2.1.length s.2.2.2] s.2.1, iBox p9 45 [.slice (some a26) x0.Segments.length c5, .int .i64 x0.Now]]) (fun s => s.1 ≤ ((gt x0.Segments k16)).length ∧ rng (R := Bool) (fun k (s : (List DVersion)) => impl_IsStore_b2 x0 k16 k s) (((gt x0.Segments k16)).length - s.1) s.1 s.2.1 = rng (R := Bool) (fun k (s : (List DVersion)) => impl_IsStore_b2 x0 k16 k s) (((gt x0.Segments k16)).length - 0) 0 d17 ∧ s.2.1.length ≤ d17.length + s.1) (fun s => ((gt x0.Segments k16)).length - s.1) (0, d17, (A18, c19)) (subL_cons rfl (subL_cons rfl (subL_cons rfl (subL_cons rfl (subL_cons rfl (subL_cons rfl (subL_cons rfl (subL_cons rfl subL_nil)))))))) (fun W hm => hm) ⟨(by omega), rfl, Nat.le_refl _⟩ ?_
     rintro ⟨k41, d42, ⟨A43, c44⟩⟩ H47
     obtain ⟨hk45, hF46, hi48⟩ : k41 ≤ ((gt x0.Segments k16)).length ∧ rng (R := Bool) (fun k (s : (List DVersion)) => impl_IsStore_b2 x0 k16 k s) (((gt x0.Segments k16)).length - k41) k41 d42 = rng (R := Bool) (fun k (s : (List DVersion)) => impl_IsStore_b2 x0 k16 k s) (((gt x0.Segments k16)).length - 0) 0 d17 ∧ d42.length ≤ d17.length + k41 := H47
     show CM Try.prog 89 _ _ _ _ [(1, .pointer (some (⟨p9, 0, none⟩ : Addr))), (3, .slice A43 d42.length c44), (23, .slice (some a26) x0.Segments.length c5), (24, .int .i64 ((x0.Segments.length : Nat) : Int)), (25, .int .i64 ((k16 : Nat) : Int)), (32, .slice A35 ((gt x0.Segments k16)).length c36), (33, .int .i64 ((((gt x0.Segments k16)).length : Nat) : Int)), (34, .int .i64 ((k41 : Nat) : Int))] [iOwn (tSl (tBor tyVersion w w.heap.size) 102) [.slice A43 d42.length c44] d42, iBox p9 45 [.slice (some a26) x0.Segments.length c5, .int .i64 x0.Now]]
     refine sr ?_
     refine wv (fun W hm => rv_lss rfl rfl) ?_
     refine nt' ?_
     refine CM_seq ?_
     by_cases hl49 : k41 < ((gt x0.Segments k16)).length
     ·have g50 : (decide (((k41 : Nat) : Int) < ((((gt x0.Segments k16)).length : Nat) : Int))) = true := decide_eq_true (by omega)
      refine CM_condT rfl g50 ?_
      refine CM_skip ?_
      refine QM_then ?_
      refine CM_seq ?_
      refine CM_block ?_
      refine sr ?_
      obtain ⟨a51, rfl, hb52, he53⟩ := q37 (by omega)
      refine wv (fun W hm => rv_index (sz := 4) (k := k41) Try.underlying100 Try.type102 rfl rfl rfl (by omega)) ?_
      obtain ⟨_, e57, hc54⟩ := he53 k41 _ (gt_some (show k41 < ((gt x0.Segments k16)).length from by omega))
      obtain ⟨v55, rfl, r56⟩ := tyVersion_rd e57
      have l58 : ((gt (gt x0.Segments k16) k41).Values).length ≤ 68719476736 := ((s_0.2 _ (gt_mem (show k16 < x0.Segments.length from by omega))).2 _ (gt_mem (show k41 < ((gt x0.Segments k16)).length from by omega)))
      have r63 := r56
      obtain ⟨m59, A60, c61, rfl, q62⟩ := r56
      refine wv (fun W hm => rv_loadN (cs := [.int .i64 ((gt (gt x0.Segments k16) k41).Id), .slice A60 ((gt (gt x0.Segments k16) k41).Values).length c61, .int .i64 ((gt (gt x0.Segments k16) k41).Born), .int .i64 ((gt (gt x0.Segments k16) k41).Died)]) Try.underlying102 Try.type102 rfl rfl (hm.elCells (show (a51.add (k41 * 4)).block < w.heap.size from by rw [add_block]; exact hb52.1) hc54)) ?_
      refine WM_alloc Try.type102 rfl (Wd_none rfl) (by decide) (fun p64 => ?_)
      refine WM_storeBox (p := p64) (o := 0) (cs' := [.int .i64 ((gt (gt x0.Segments k16) k41).Id), .slice A60 ((gt (gt x0.Segments k16) k41).Values).length c61, .int .i64 ((gt (gt x0.Segments k16) k41).Born), .int .i64 ((gt (gt x0.Segments k16) k41).Died)]) (js := [iOwn (tSl (tBor tyVersion w w.heap.size) 102) [.slice A43 d42.length c44] d42, iBox p9 45 [.slice (some a26) x0.Segments.length c5, .int .i64 x0.Now]]) (fun W hm => hm) Try.type102 rfl (Nat.le_of_ble_eq_true rfl) rfl rfl rfl rfl (Wd_none rfl) ?_
      refine nt' ?_
      refine CM_seq ?_
      refine sr ?_
      refine wv (fun W hm => rv_loadN (cs := [.int .i64 ((gt (gt x0.Segments k16) k41).Id), .slice A60 ((gt (gt x0.Segments k16) k41).Values).length c61, .int .i64 ((gt (gt x0.Segments k16) k41).Born), .int .i64 ((gt (gt x0.Segments k16) k41).Died)]) Try.underlying102 Try.type102 rfl rfl (hm.boxCells (n := 0) rfl)) ?_
      refine WM_call (χ := List Value) (val := fun x => .agg x.toArray) (js := fun x => [iOwn tyRow x (impl_rowOf_m (gt (gt x0.Segments k16) k41))]) (cl_fn cb115 rfl) (fun W hm => impl_rowOf_c W _ (gt (gt x0.Segments k16) k41) (tyVersion_mk (x := (gt (gt x0.Segments k16) k41)) (hm.rdS0 r63)) ((s_0.2 _ (gt_mem (show k16 < x0.Segments.length from by omega))).2 _ (gt_mem (show k41 < ((gt x0.Segments k16)).length from by omega)))) (Wd_none rfl) (by decide) (fun z65 => ?_)
      refine WM_split (γ := Value) (js := fun g => [iOwn (tSl tInt 3) [g] ((impl_rowOf_m (gt (gt x0.Segments k16) k41)).Values)]) (C := fun g => z65 = [.int .i64 ((impl_rowOf_m (gt (gt x0.Segments k16) k41)).Id), g]) (fun _ _ h => tyRow_split h) ?_
      rintro v66 rfl
      refine WM_form (n := 0) rfl ?_
      rintro A67 c68 rfl m69
      refine WM_callV (cl_fn cb87 rfl) (fun W hm => impl_IsRow_c W _ (impl_rowOf_m (gt (gt x0.Segments k16) k41)) (tyRow_mk (x := (impl_rowOf_m (gt (gt x0.Segments k16) k41))) (hm.rdSI (n := 0) rfl))) (Wd_none rfl) (by decide) ?_
      refine wv (fun W hm => rv_not rfl) ?_
      refine wm ?_
      rcases Bool.eq_false_or_eq_true (impl_IsRow_m (impl_rowOf_m (gt (gt x0.Segments k16) k41))) with g72 | g72
      ·
       refine wg (fun W hm => rv_field Try.underlying102 rfl Try.type3 (by decide) rfl rfl) (nt g72) ?_
       refine wg (fun W hm => rv_load Try.underlying3 rfl rfl (hm.boxCell (n := 1) (o := 2) rfl rfl)) (nt g72) ?_
       refine wg (fun W hm => rv_field Try.underlying45 rfl Try.type3 (by decide) rfl rfl) (nt g72) ?_
       refine wg (fun W hm => rv_load Try.underlying3 rfl rfl (hm.boxCell (n := 3) (o := 1) rfl rfl)) (nt g72) ?_
       refine WM_callV (cl_fn cb114 rfl) (fun W hm => impl_within_c W ((gt (gt x0.Segments k16) k41).Born) 0 x0.Now) (Wd_some rfl rfl rfl (bw (nt g72) rfl)) (by decide) ?_
       refine wg (fun W hm => rv_not rfl) (nt g72) ?_
       refine wv (fun W hm => rv_pickF rfl (nt g72) rfl) ?_
       refine wm ?_
       rcases Bool.eq_false_or_eq_true (impl_within_m ((gt (gt x0.Segments k16) k41).Born) 0 x0.Now) with g74 | g74
       ·
        have hw := impl_within_fact g74
        refine wg (fun W hm => rv_field Try.underlying102 rfl Try.type3 (by decide) rfl rfl) (nt g74) ?_
        refine wg (fun W hm => rv_load Try.underlying3 rfl rfl (hm.boxCell (n := 1) (o := 3) rfl rfl)) (nt g74) ?_
        refine wg (fun W hm => rv_neq rfl rfl) (nt g74) ?_
        refine wg (fun W hm => rv_move rfl) (nt g74) ?_
        by_cases h75 : ((gt (gt x0.Segments k16) k41).Died) = (-1)
        ·have g76 : (((gt (gt x0.Segments k16) k41).Died) != (-1)) = false := by rw [h75]; exact bne_self_eq_false _
         refine ws g76 ?_
         refine ws g76 ?_
         refine ws g76 ?_
         refine ws g76 ?_
         refine ws g76 ?_
         refine ws g76 ?_
         refine ws g76 ?_
         refine ws g76 ?_
         refine ws g76 ?_
         refine wg (fun W hm => rv_pickF rfl g76 rfl) (nt g74) ?_
         refine wv (fun W hm => rv_pickF rfl (nt g74) rfl) ?_
         refine nt' ?_
         refine CM_condF rfl rfl ?_
         refine CM_skip ?_
         refine QM_then ?_
         refine CM_seq ?_
         refine sr ?_
         refine wm ?_
         refine wv (fun W hm => rv_len Try.underlying100 rfl) ?_
         refine wm ?_
         refine nt' ?_
         refine CM_block ?_
         refine CM_loop (σ := Nat × (Unit) × (Unit)) (fun s => [(1, .pointer (some (⟨p9, 0, none⟩ : Addr))), (3, .slice A43 d42.length c44), (7, .pointer (some (⟨p64, 0, none⟩ : Addr))), (23, .slice (some a26) x0.Segments.length c5), (24, .int .i64 ((x0.Segments.length : Nat) : Int)), (25, .int .i64 ((k16 : Nat) : Int)), (32, .slice (some a51) ((gt x0.Segments k16)).length c36), (33, .int .i64 ((((gt x0.Segments k16)).length : Nat) : Int)), (34, .int .i64 ((k41 : Nat) : Int)), (66, .slice A43 d42.length c44), (67, .int .i64 ((d42.length : Nat) : Int)), (68, .int .i64 ((s.1 : Nat) : Int))]) (fun s => [iOwn (tSl tInt 3) [.slice A67 ((impl_rowOf_m (gt (gt x0.Segments k16) k41)).Values).length c68] ((impl_rowOf_m (gt (gt x0.Segments k16) k41)).Values), iBox p64 102 [.int .i64 ((gt (gt x0.Segments k16) k41).Id), .slice A60 ((gt (gt x0.Segments k16) k41).Values).length c61, .int .i64 ((gt (gt x0.Segments k16) k41).Born), .int .i64 ((gt (gt x0.Segments k16) k41).Died)], iOwn (tSl (tBor tyVersion w w.heap.size) 102) [.slice A43 d42.length c44] d42, iBox p9 45 [.slice (some a26) x0.Segments.length c5, .int .i64 x0.Now]]) (fun s => s.1 ≤ d42.length ∧ rng (R := Bool) (fun k (_ : Unit) => impl_IsStore_b3 x0 k16 k41 d42 k) (d42.length - s.1) s.1 s.2.1 = rng (R := Bool) (fun k (_ : Unit) => impl_IsStore_b3 x0 k16 k41 d42 k) (d42.length - 0) 0 ()) (fun s => d42.length - s.1) (0, (), ()) (subL_cons rfl (subL_cons rfl (subL_cons rfl (subL_cons rfl (subL_cons rfl (subL_cons rfl (subL_cons rfl (subL_cons rfl (subL_cons rfl (subL_cons rfl (subL_cons rfl (subL_cons rfl subL_nil)))))))))))) (fun W hm => hm) ⟨(by omega), rfl⟩ ?_
         rintro ⟨k77, ⟨⟩, ⟨⟩⟩ H80
         obtain ⟨hk78, hF79⟩ : k77 ≤ d42.length ∧ rng (R := Bool) (fun k (_ : Unit) => impl_IsStore_b3 x0 k16 k41 d42 k) (d42.length - k77) k77 () = rng (R := Bool) (fun k (_ : Unit) => impl_IsStore_b3 x0 k16 k41 d42 k) (d42.length - 0) 0 () := H80
         show CM Try.prog 89 _ _ _ _ [(1, .pointer (some (⟨p9, 0, none⟩ : Addr))), (3, .slice A43 d42.length c44), (7, .pointer (some (⟨p64, 0, none⟩ : Addr))), (23, .slice (some a26) x0.Segments.length c5), (24, .int .i64 ((x0.Segments.length : Nat) : Int)), (25, .int .i64 ((k16 : Nat) : Int)), (32, .slice (some a51) ((gt x0.Segments k16)).length c36), (33, .int .i64 ((((gt x0.Segments k16)).length : Nat) : Int)), (34, .int .i64 ((k41 : Nat) : Int)), (66, .slice A43 d42.length c44), (67, .int .i64 ((d42.length : Nat) : Int)), (68, .int .i64 ((k77 : Nat) : Int))] [iOwn (tSl tInt 3) [.slice A67 ((impl_rowOf_m (gt (gt x0.Segments k16) k41)).Values).length c68] ((impl_rowOf_m (gt (gt x0.Segments k16) k41)).Values), iBox p64 102 [.int .i64 ((gt (gt x0.Segments k16) k41).Id), .slice A60 ((gt (gt x0.Segments k16) k41).Values).length c61, .int .i64 ((gt (gt x0.Segments k16) k41).Born), .int .i64 ((gt (gt x0.Segments k16) k41).Died)], iOwn (tSl (tBor tyVersion w w.heap.size) 102) [.slice A43 d42.length c44] d42, iBox p9 45 [.slice (some a26) x0.Segments.length c5, .int .i64 x0.Now]]
         refine sr ?_
         refine wv (fun W hm => rv_lss rfl rfl) ?_
         refine nt' ?_
         refine CM_seq ?_
         by_cases hl81 : k77 < d42.length
         ·have g82 : (decide (((k77 : Nat) : Int) < ((d42.length : Nat) : Int))) = true := decide_eq_true (by omega)
          refine CM_condT rfl g82 ?_
          refine CM_skip ?_
          refine QM_then ?_
          refine CM_seq ?_
          refine CM_block ?_
          refine sr ?_
          refine WM_formO (n := 2) rfl (by omega) ?_
          rintro g83 rfl
          refine wv (fun W hm => rv_index (sz := 4) (k := k77) Try.underlying100 Try.type102 rfl rfl rfl (by omega)) ?_
          refine WM_expose (T := tyVersion) (wb := w) (Bb := w.heap.size) (e := 102) (g := g83) (n := d42.length) (c := c44) (xs := d42) (js := [iOwn (tSl tInt 3) [.slice A67 ((impl_rowOf_m (gt (gt x0.Segments k16) k41)).Values).length c68] ((impl_rowOf_m (gt (gt x0.Segments k16) k41)).Values), iBox p64 102 [.int .i64 ((gt (gt x0.Segments k16) k41).Id), .slice A60 ((gt (gt x0.Segments k16) k41).Values).length c61, .int .i64 ((gt (gt x0.Segments k16) k41).Born), .int .i64 ((gt (gt x0.Segments k16) k41).Died)], iBox p9 45 [.slice (some a26) x0.Segments.length c5, .int .i64 x0.Now]]) (fun W hm => (hm.pick [2, 0, 1, 3] (by decide))) ?_
          rintro ck84 rk85
          obtain ⟨_, e86, hc87⟩ := rk85.get (j := k77) (by omega)
          obtain ⟨v88, rfl, r89⟩ := tyVersion_rd e86
          have r94 := r89
          obtain ⟨m90, A91, c92, rfl, q93⟩ := r89
          refine wv (fun W hm => rv_loadN (cs := [.int .i64 ((gt d42 k77).Id), .slice A91 ((gt d42 k77).Values).length c92, .int .i64 ((gt d42 k77).Born), .int .i64 ((gt d42 k77).Died)]) Try.underlying102 Try.type102 rfl rfl (hm.rowCells (i := 0) rfl hc87)) ?_
          refine WM_alloc Try.type102 rfl (Wd_none rfl) (by decide) (fun p95 => ?_)
          refine WM_storeBox (p := p95) (o := 0) (cs' := [.int .i64 ((gt d42 k77).Id), .slice A91 ((gt d42 k77).Values).length c92, .int .i64 ((gt d42 k77).Born), .int .i64 ((gt d42 k77).Died)]) (js := [iBox g83 102 ck84, iOwn (tSl tInt 3) [.slice A67 ((impl_rowOf_m (gt (gt x0.Segments k16) k41)).Values).length c68] ((impl_rowOf_m (gt (gt x0.Segments k16) k41)).Values), iBox p64 102 [.int .i64 ((gt (gt x0.Segments k16) k41).Id), .slice A60 ((gt (gt x0.Segments k16) k41).Values).length c61, .int .i64 ((gt (gt x0.Segments k16) k41).Born), .int .i64 ((gt (gt x0.Segments k16) k41).Died)], iBox p9 45 [.slice (some a26) x0.Segments.length c5, .int .i64 x0.Now]]) (fun W hm => hm) Try.type102 rfl (Nat.le_of_ble_eq_true rfl) rfl rfl rfl rfl (Wd_none rfl) ?_
          refine nt' ?_
          refine sr ?_
          refine wv (fun W hm => rv_field Try.underlying102 rfl Try.type3 (by decide) rfl rfl) ?_
          refine wv (fun W hm => rv_load Try.underlying3 rfl rfl (hm.boxCell (n := 3) (o := 0) rfl rfl)) ?_
          refine wv (fun W hm => rv_field Try.underlying102 rfl Try.type3 (by decide) rfl rfl) ?_
          refine wv (fun W hm => rv_load Try.underlying3 rfl rfl (hm.boxCell (n := 0) (o := 0) rfl rfl)) ?_
          refine wv (fun W hm => rv_eql rfl rfl) ?_
          refine wm ?_
          by_cases h96 : ((gt (gt x0.Segments k16) k41).Id) = ((gt d42 k77).Id)
          ·have g97 : (((gt (gt x0.Segments k16) k41).Id) == ((gt d42 k77).Id)) = true := beq_iff_eq.2 h96
           refine wg (fun W hm => rv_loadN (cs := [.int .i64 ((gt (gt x0.Segments k16) k41).Id), .slice A60 ((gt (gt x0.Segments k16) k41).Values).length c61, .int .i64 ((gt (gt x0.Segments k16) k41).Born), .int .i64 ((gt (gt x0.Segments k16) k41).Died)]) Try.underlying102 Try.type102 rfl rfl (hm.boxCells (n := 3) rfl)) g97 ?_
           refine wg (fun W hm => rv_loadN (cs := [.int .i64 ((gt d42 k77).Id), .slice A91 ((gt d42 k77).Values).length c92, .int .i64 ((gt d42 k77).Born), .int .i64 ((gt d42 k77).Died)]) Try.underlying102 Try.type102 rfl rfl (hm.boxCells (n := 0) rfl)) g97 ?_
           refine WM_callV (cl_fn cb116 rfl) (fun W hm => impl_meetInTime_c W _ (gt (gt x0.Segments k16) k41) _ (gt d42 k77) (tyVersion_mk (x := (gt (gt x0.Segments k16) k41)) (hm.rdS0 r63)) (tyVersion_mk (x := (gt d42 k77)) (hm.rdS0 r94))) (Wd_some rfl rfl rfl (bw g97 rfl)) (by decide) ?_
           refine wv (fun W hm => rv_pickT rfl g97 rfl) ?_
           refine nt' ?_
           rcases Bool.eq_false_or_eq_true (impl_meetInTime_m (gt (gt x0.Segments k16) k41) (gt d42 k77)) with g99 | g99
           ·
            refine CM_condT rfl g99 ?_
            refine sr ?_
            refine wa ?_
            refine nt' ?_
            refine CM_ret ?_
            refine QM_block_ret ?_
            refine QM_then_ret ?_
            refine QM_then_ret ?_
            refine QM_block_ret ?_
            refine QM_then_ret ?_
            refine QM_block_ret ?_
            refine QM_then_ret ?_
            refine QM_then_ret ?_
            refine QM_block_ret ?_
            refine QM_block_ret ?_
            refine QM_then_ret ?_
            refine QM_then_ret ?_
            refine QM_block_ret ?_
            refine QM_then_ret ?_
            refine QM_items (fun W hm => Mem.hide rk85 (hm.pick [1, 0, 2, 3, 4] (by decide))) ?_
            exact QM_ret1 rfl rfl (fun W hm => ⟨ret_b (show impl_IsStore_m x0 = false from by unfold impl_IsStore_m; exact cond_t g11 (cond_t g13 (fin_inl (rng_ret (body := (fun k (s : (List DVersion)) => impl_IsStore_b1 x0 k s)) (k := k16) (s := d17) (show k16 < x0.Segments.length from by omega) (show impl_IsStore_b1 x0 k16 d17 = Sum.inl false from by unfold impl_IsStore_b1; exact cond_f g40 (fin_inl (rng_ret (body := (fun k (s : (List DVersion)) => impl_IsStore_b2 x0 k16 k s)) (k := k41) (s := d42) (show k41 < ((gt x0.Segments k16)).length from by omega) (show impl_IsStore_b2 x0 k16 k41 d42 = Sum.inl false from by unfold impl_IsStore_b2; exact cond_t g72 (cond_t g74 (cond_f g76 (fin_inl (rng_ret (body := (fun k (_ : Unit) => impl_IsStore_b3 x0 k16 k41 d42 k)) (k := k77) (s := ()) (show k77 < d42.length from by omega) (show impl_IsStore_b3 x0 k16 k41 d42 k77 = Sum.inl false from by unfold impl_IsStore_b3; exact cond_t g97 (cond_t g99 (rfl))) hF79) rfl)))) hF46) rfl)) hF21) rfl))), hm.below⟩)
           ·
            refine CM_condF rfl g99 ?_
            refine CM_skip ?_
            refine QM_block_normal ?_
            refine QM_then ?_
            refine CM_region ?_
            refine wv (fun W hm => rv_addN (p := k77) (q := 1) rfl rfl (by omega)) ?_
            refine wm ?_
            refine WM_nil ?_
            refine QM_items (fun W hm => Mem.hide rk85 (hm.pick [1, 0, 2, 3, 4] (by decide))) ?_
            have hn100 := rng_next (R := Bool) (body := (fun k (_ : Unit) => impl_IsStore_b3 x0 k16 k41 d42 k)) (k := k77) (s := ()) (s' := ()) (show k77 < d42.length from by omega) (show impl_IsStore_b3 x0 k16 k41 d42 k77 = Sum.inr () from by unfold impl_IsStore_b3; exact cond_t g97 (cond_f g99 (rfl))) hF79
            exact QM_round (k77 + 1, (), ()) (subL_cons rfl (subL_cons rfl (subL_cons rfl (subL_cons rfl (subL_cons rfl (subL_cons rfl (subL_cons rfl (subL_cons rfl (subL_cons rfl (subL_cons rfl (subL_cons rfl (subL_cons rfl subL_nil)))))))))))) (fun W hm => (hm.pick [2, 3, 0, 4] (by decide))) ⟨(by omega), hn100⟩ (show d42.length - (k77 + 1) < d42.length - k77 from by omega)
          ·have g97 : (((gt (gt x0.Segments k16) k41).Id) == ((gt d42 k77).Id)) = false := beq_eq_false_iff_ne.2 h96
           refine ws g97 ?_
           refine ws g97 ?_
           refine ws g97 ?_
           refine wv (fun W hm => rv_pickF rfl g97 rfl) ?_
           refine nt' ?_
           refine CM_condF rfl rfl ?_
           refine CM_skip ?_
           refine QM_block_normal ?_
           refine QM_then ?_
           refine CM_region ?_
           refine wv (fun W hm => rv_addN (p := k77) (q := 1) rfl rfl (by omega)) ?_
           refine wm ?_
           refine WM_nil ?_
           refine QM_items (fun W hm => Mem.hide rk85 (hm.pick [1, 0, 2, 3, 4] (by decide))) ?_
           have hn101 := rng_next (R := Bool) (body := (fun k (_ : Unit) => impl_IsStore_b3 x0 k16 k41 d42 k)) (k := k77) (s := ()) (s' := ()) (show k77 < d42.length from by omega) (show impl_IsStore_b3 x0 k16 k41 d42 k77 = Sum.inr () from by unfold impl_IsStore_b3; exact cond_f g97 (rfl)) hF79
           exact QM_round (k77 + 1, (), ()) (subL_cons rfl (subL_cons rfl (subL_cons rfl (subL_cons rfl (subL_cons rfl (subL_cons rfl (subL_cons rfl (subL_cons rfl (subL_cons rfl (subL_cons rfl (subL_cons rfl (subL_cons rfl subL_nil)))))))))))) (fun W hm => (hm.pick [2, 3, 0, 4] (by decide))) ⟨(by omega), hn101⟩ (show d42.length - (k77 + 1) < d42.length - k77 from by omega)
         ·have g82 : (decide (((k77 : Nat) : Int) < ((d42.length : Nat) : Int))) = false := decide_eq_false (by omega)
          refine CM_condF rfl g82 ?_
          refine CM_exit ?_
          refine QM_then_exit ?_
          refine QM_then_exit ?_
          have hE102 : rng (R := Bool) (fun k (_ : Unit) => impl_IsStore_b3 x0 k16 k41 d42 k) (d42.length - 0) 0 () = Sum.inr () := rng_end hl81 hF79
          refine QM_block_hit ?_
          refine QM_then ?_
          refine CM_region ?_
          refine wm ?_
          refine wv (fun W hm => rv_loadN (cs := [.int .i64 ((gt (gt x0.Segments k16) k41).Id), .slice A60 ((gt (gt x0.Segments k16) k41).Values).length c61, .int .i64 ((gt (gt x0.Segments k16) k41).Born), .int .i64 ((gt (gt x0.Segments k16) k41).Died)]) Try.underlying102 Try.type102 rfl rfl (hm.boxCells (n := 1) rfl)) ?_
          refine WM_build (cs := [.int .i64 ((gt (gt x0.Segments k16) k41).Id), .slice A60 ((gt (gt x0.Segments k16) k41).Values).length c61, .int .i64 ((gt (gt x0.Segments k16) k41).Born), .int .i64 ((gt (gt x0.Segments k16) k41).Died)]) Try.underlying100 Try.type102 rfl (by decide) (by decide) rfl (by kernel_rfl) (Wd_none rfl) (by decide) (fun p103 => ?_)
          refine WM_append (E := (tBor tyVersion w w.heap.size)) (e := 102) (v := .slice A43 d42.length c44) (p := p103) (q := 1) (xs := d42) (ys := [(gt (gt x0.Segments k16) k41)]) (eis := []) (js := [iOwn (tSl tInt 3) [.slice A67 ((impl_rowOf_m (gt (gt x0.Segments k16) k41)).Values).length c68] ((impl_rowOf_m (gt (gt x0.Segments k16) k41)).Values), iBox p64 102 [.int .i64 ((gt (gt x0.Segments k16) k41).Id), .slice A60 ((gt (gt x0.Segments k16) k41).Values).length c61, .int .i64 ((gt (gt x0.Segments k16) k41).Born), .int .i64 ((gt (gt x0.Segments k16) k41).Died)], iBox p9 45 [.slice (some a26) x0.Segments.length c5, .int .i64 x0.Now]]) (news := [.int .i64 ((gt (gt x0.Segments k16) k41).Id), .slice A60 ((gt (gt x0.Segments k16) k41).Values).length c61, .int .i64 ((gt (gt x0.Segments k16) k41).Born), .int .i64 ((gt (gt x0.Segments k16) k41).Died)]) (fun W hm => (hm.pick [0, 3, 1, 2, 4] (by decide))) (fun _ _ hs => by cases (Sep.nil hs); exact (els_cons (E := (tBor tyVersion w w.heap.size)) (L1 := []) ⟨rfl, (tyVersion_mk r63)⟩ els_nil)) Try.underlying100 Try.type102 rfl rfl rfl (Nat.le_of_ble_eq_true rfl) rfl rfl rfl (show (d42.length + 1) * 48 ≤ 140737488355328 from by omega) (show d42.length + 1 ≤ 9223372036854775807 from by omega) (Wd_none rfl) (by decide) (fun v104 => ?_)
          refine WM_form (n := 0) rfl ?_
          rintro A105 c106 rfl m107
          refine wa ?_
          refine WM_nil ?_
          refine QM_block_normal ?_
          refine QM_then ?_
          refine CM_region ?_
          refine wv (fun W hm => rv_addN (p := k41) (q := 1) rfl rfl (by omega)) ?_
          refine wm ?_
          refine WM_nil ?_
          have hn109 := rng_next (R := Bool) (body := (fun k (s : (List DVersion)) => impl_IsStore_b2 x0 k16 k s)) (k := k41) (s := d42) (s' := (d42 ++ [(gt (gt x0.Segments k16) k41)])) (show k41 < ((gt x0.Segments k16)).length from by omega) (show impl_IsStore_b2 x0 k16 k41 d42 = Sum.inr (d42 ++ [(gt (gt x0.Segments k16) k41)]) from by unfold impl_IsStore_b2; exact cond_t g72 (cond_t g74 (cond_f g76 (fin_inr hE102 (rfl))))) hF46
          exact QM_round (k41 + 1, (d42 ++ [(gt (gt x0.Segments k16) k41)]), (A105, c106)) (subL_cons rfl (subL_cons rfl (subL_cons rfl (subL_cons rfl (subL_cons rfl (subL_cons rfl (subL_cons rfl (subL_cons rfl subL_nil)))))))) (fun W hm => (hm.pick [0, 3] (by decide))) ⟨(by omega), hn109, (show (d42 ++ [(gt (gt x0.Segments k16) k41)]).length ≤ d17.length + (k41 + 1) from by first | omega | (simp only [List.length_append, List.length_cons, List.length_nil] at *; omega))⟩ (show ((gt x0.Segments k16)).length - (k41 + 1) < ((gt x0.Segments k16)).length - k41 from by omega)
        ·have g76 : (((gt (gt x0.Segments k16) k41).Died) != (-1)) = true := bne_iff_ne.2 h75
         refine wg (fun W hm => rv_field Try.underlying102 rfl Try.type3 (by decide) rfl rfl) g76 ?_
         refine wg (fun W hm => rv_load Try.underlying3 rfl rfl (hm.boxCell (n := 1) (o := 3) rfl rfl)) g76 ?_
         refine wg (fun W hm => rv_field Try.underlying102 rfl Try.type3 (by decide) rfl rfl) g76 ?_
         refine wg (fun W hm => rv_load Try.underlying3 rfl rfl (hm.boxCell (n := 1) (o := 2) rfl rfl)) g76 ?_
         refine wg (fun W hm => rv_add rfl rfl) g76 ?_
         refine wg (fun W hm => rv_field Try.underlying45 rfl Try.type3 (by decide) rfl rfl) g76 ?_
         refine wg (fun W hm => rv_load Try.underlying3 rfl rfl (hm.boxCell (n := 3) (o := 1) rfl rfl)) g76 ?_
         refine WM_callV (cl_fn cb114 rfl) (fun W hm => impl_within_c W ((gt (gt x0.Segments k16) k41).Died) (IntKind.i64.wrap (((gt (gt x0.Segments k16) k41).Born) + 1)) x0.Now) (Wd_some rfl rfl rfl (bw g76 rfl)) (by decide) ?_
         refine wg (fun W hm => rv_not rfl) g76 ?_
         refine wg (fun W hm => rv_pickT rfl g76 rfl) (nt g74) ?_
         refine wv (fun W hm => rv_pickF rfl (nt g74) rfl) ?_
         refine nt' ?_
         rcases Bool.eq_false_or_eq_true (impl_within_m ((gt (gt x0.Segments k16) k41).Died) (IntKind.i64.wrap (((gt (gt x0.Segments k16) k41).Born) + 1)) x0.Now) with g111 | g111
         ·
          have hw := impl_within_fact g111
          refine CM_condF rfl (nt g111) ?_
          refine CM_skip ?_
          refine QM_then ?_
          refine CM_seq ?_
          refine sr ?_
          refine wm ?_
          refine wv (fun W hm => rv_len Try.underlying100 rfl) ?_
          refine wm ?_
          refine nt' ?_
          refine CM_block ?_
          refine CM_loop (σ := Nat × (Unit) × (Unit)) (fun s => [(1, .pointer (some (⟨p9, 0, none⟩ : Addr))), (3, .slice A43 d42.length c44), (7, .pointer (some (⟨p64, 0, none⟩ : Addr))), (23, .slice (some a26) x0.Segments.length c5), (24, .int .i64 ((x0.Segments.length : Nat) : Int)), (25, .int .i64 ((k16 : Nat) : Int)), (32, .slice (some a51) ((gt x0.Segments k16)).length c36), (33, .int .i64 ((((gt x0.Segments k16)).length : Nat) : Int)), (34, .int .i64 ((k41 : Nat) : Int)), (66, .slice A43 d42.length c44), (67, .int .i64 ((d42.length : Nat) : Int)), (68, .int .i64 ((s.1 : Nat) : Int))]) (fun s => [iOwn (tSl tInt 3) [.slice A67 ((impl_rowOf_m (gt (gt x0.Segments k16) k41)).Values).length c68] ((impl_rowOf_m (gt (gt x0.Segments k16) k41)).Values), iBox p64 102 [.int .i64 ((gt (gt x0.Segments k16) k41).Id), .slice A60 ((gt (gt x0.Segments k16) k41).Values).length c61, .int .i64 ((gt (gt x0.Segments k16) k41).Born), .int .i64 ((gt (gt x0.Segments k16) k41).Died)], iOwn (tSl (tBor tyVersion w w.heap.size) 102) [.slice A43 d42.length c44] d42, iBox p9 45 [.slice (some a26) x0.Segments.length c5, .int .i64 x0.Now]]) (fun s => s.1 ≤ d42.length ∧ rng (R := Bool) (fun k (_ : Unit) => impl_IsStore_b4 x0 k16 k41 d42 k) (d42.length - s.1) s.1 s.2.1 = rng (R := Bool) (fun k (_ : Unit) => impl_IsStore_b4 x0 k16 k41 d42 k) (d42.length - 0) 0 ()) (fun s => d42.length - s.1) (0, (), ()) (subL_cons rfl (subL_cons rfl (subL_cons rfl (subL_cons rfl (subL_cons rfl (subL_cons rfl (subL_cons rfl (subL_cons rfl (subL_cons rfl (subL_cons rfl (subL_cons rfl (subL_cons rfl subL_nil)))))))))))) (fun W hm => hm) ⟨(by omega), rfl⟩ ?_
          rintro ⟨k112, ⟨⟩, ⟨⟩⟩ H115
          obtain ⟨hk113, hF114⟩ : k112 ≤ d42.length ∧ rng (R := Bool) (fun k (_ : Unit) => impl_IsStore_b4 x0 k16 k41 d42 k) (d42.length - k112) k112 () = rng (R := Bool) (fun k (_ : Unit) => impl_IsStore_b4 x0 k16 k41 d42 k) (d42.length - 0) 0 () := H115
          show CM Try.prog 89 _ _ _ _ [(1, .pointer (some (⟨p9, 0, none⟩ : Addr))), (3, .slice A43 d42.length c44), (7, .pointer (some (⟨p64, 0, none⟩ : Addr))), (23, .slice (some a26) x0.Segments.length c5), (24, .int .i64 ((x0.Segments.length : Nat) : Int)), (25, .int .i64 ((k16 : Nat) : Int)), (32, .slice (some a51) ((gt x0.Segments k16)).length c36), (33, .int .i64 ((((gt x0.Segments k16)).length : Nat) : Int)), (34, .int .i64 ((k41 : Nat) : Int)), (66, .slice A43 d42.length c44), (67, .int .i64 ((d42.length : Nat) : Int)), (68, .int .i64 ((k112 : Nat) : Int))] [iOwn (tSl tInt 3) [.slice A67 ((impl_rowOf_m (gt (gt x0.Segments k16) k41)).Values).length c68] ((impl_rowOf_m (gt (gt x0.Segments k16) k41)).Values), iBox p64 102 [.int .i64 ((gt (gt x0.Segments k16) k41).Id), .slice A60 ((gt (gt x0.Segments k16) k41).Values).length c61, .int .i64 ((gt (gt x0.Segments k16) k41).Born), .int .i64 ((gt (gt x0.Segments k16) k41).Died)], iOwn (tSl (tBor tyVersion w w.heap.size) 102) [.slice A43 d42.length c44] d42, iBox p9 45 [.slice (some a26) x0.Segments.length c5, .int .i64 x0.Now]]
          refine sr ?_
          refine wv (fun W hm => rv_lss rfl rfl) ?_
          refine nt' ?_
          refine CM_seq ?_
          by_cases hl116 : k112 < d42.length
          ·have g117 : (decide (((k112 : Nat) : Int) < ((d42.length : Nat) : Int))) = true := decide_eq_true (by omega)
           refine CM_condT rfl g117 ?_
           refine CM_skip ?_
           refine QM_then ?_
           refine CM_seq ?_
           refine CM_block ?_
           refine sr ?_
           refine WM_formO (n := 2) rfl (by omega) ?_
           rintro g118 rfl
           refine wv (fun W hm => rv_index (sz := 4) (k := k112) Try.underlying100 Try.type102 rfl rfl rfl (by omega)) ?_
           refine WM_expose (T := tyVersion) (wb := w) (Bb := w.heap.size) (e := 102) (g := g118) (n := d42.length) (c := c44) (xs := d42) (js := [iOwn (tSl tInt 3) [.slice A67 ((impl_rowOf_m (gt (gt x0.Segments k16) k41)).Values).length c68] ((impl_rowOf_m (gt (gt x0.Segments k16) k41)).Values), iBox p64 102 [.int .i64 ((gt (gt x0.Segments k16) k41).Id), .slice A60 ((gt (gt x0.Segments k16) k41).Values).length c61, .int .i64 ((gt (gt x0.Segments k16) k41).Born), .int .i64 ((gt (gt x0.Segments k16) k41).Died)], iBox p9 45 [.slice (some a26) x0.Segments.length c5, .int .i64 x0.Now]]) (fun W hm => (hm.pick [2, 0, 1, 3] (by decide))) ?_
           rintro ck119 rk120
           obtain ⟨_, e121, hc122⟩ := rk120.get (j := k112) (by omega)
           obtain ⟨v123, rfl, r124⟩ := tyVersion_rd e121
           have r129 := r124
           obtain ⟨m125, A126, c127, rfl, q128⟩ := r124
           refine wv (fun W hm => rv_loadN (cs := [.int .i64 ((gt d42 k112).Id), .slice A126 ((gt d42 k112).Values).length c127, .int .i64 ((gt d42 k112).Born), .int .i64 ((gt d42 k112).Died)]) Try.underlying102 Try.type102 rfl rfl (hm.rowCells (i := 0) rfl hc122)) ?_
           refine WM_alloc Try.type102 rfl (Wd_none rfl) (by decide) (fun p130 => ?_)
           refine WM_storeBox (p := p130) (o := 0) (cs' := [.int .i64 ((gt d42 k112).Id), .slice A126 ((gt d42 k112).Values).length c127, .int .i64 ((gt d42 k112).Born), .int .i64 ((gt d42 k112).Died)]) (js := [iBox g118 102 ck119, iOwn (tSl tInt 3) [.slice A67 ((impl_rowOf_m (gt (gt x0.Segments k16) k41)).Values).length c68] ((impl_rowOf_m (gt (gt x0.Segments k16) k41)).Values), iBox p64 102 [.int .i64 ((gt (gt x0.Segments k16) k41).Id), .slice A60 ((gt (gt x0.Segments k16) k41).Values).length c61, .int .i64 ((gt (gt x0.Segments k16) k41).Born), .int .i64 ((gt (gt x0.Segments k16) k41).Died)], iBox p9 45 [.slice (some a26) x0.Segments.length c5, .int .i64 x0.Now]]) (fun W hm => hm) Try.type102 rfl (Nat.le_of_ble_eq_true rfl) rfl rfl rfl rfl (Wd_none rfl) ?_
           refine nt' ?_
           refine sr ?_
           refine wv (fun W hm => rv_field Try.underlying102 rfl Try.type3 (by decide) rfl rfl) ?_
           refine wv (fun W hm => rv_load Try.underlying3 rfl rfl (hm.boxCell (n := 3) (o := 0) rfl rfl)) ?_
           refine wv (fun W hm => rv_field Try.underlying102 rfl Try.type3 (by decide) rfl rfl) ?_
           refine wv (fun W hm => rv_load Try.underlying3 rfl rfl (hm.boxCell (n := 0) (o := 0) rfl rfl)) ?_
           refine wv (fun W hm => rv_eql rfl rfl) ?_
           refine wm ?_
           by_cases h131 : ((gt (gt x0.Segments k16) k41).Id) = ((gt d42 k112).Id)
           ·have g132 : (((gt (gt x0.Segments k16) k41).Id) == ((gt d42 k112).Id)) = true := beq_iff_eq.2 h131
            refine wg (fun W hm => rv_loadN (cs := [.int .i64 ((gt (gt x0.Segments k16) k41).Id), .slice A60 ((gt (gt x0.Segments k16) k41).Values).length c61, .int .i64 ((gt (gt x0.Segments k16) k41).Born), .int .i64 ((gt (gt x0.Segments k16) k41).Died)]) Try.underlying102 Try.type102 rfl rfl (hm.boxCells (n := 3) rfl)) g132 ?_
            refine wg (fun W hm => rv_loadN (cs := [.int .i64 ((gt d42 k112).Id), .slice A126 ((gt d42 k112).Values).length c127, .int .i64 ((gt d42 k112).Born), .int .i64 ((gt d42 k112).Died)]) Try.underlying102 Try.type102 rfl rfl (hm.boxCells (n := 0) rfl)) g132 ?_
            refine WM_callV (cl_fn cb116 rfl) (fun W hm => impl_meetInTime_c W _ (gt (gt x0.Segments k16) k41) _ (gt d42 k112) (tyVersion_mk (x := (gt (gt x0.Segments k16) k41)) (hm.rdS0 r63)) (tyVersion_mk (x := (gt d42 k112)) (hm.rdS0 r129))) (Wd_some rfl rfl rfl (bw g132 rfl)) (by decide) ?_
            refine wv (fun W hm => rv_pickT rfl g132 rfl) ?_
            refine nt' ?_
            rcases Bool.eq_false_or_eq_true (impl_meetInTime_m (gt (gt x0.Segments k16) k41) (gt d42 k112)) with g134 | g134
            ·
             refine CM_condT rfl g134 ?_
             refine sr ?_
             refine wa ?_
             refine nt' ?_
             refine CM_ret ?_
             refine QM_block_ret ?_
             refine QM_then_ret ?_
             refine QM_then_ret ?_
             refine QM_block_ret ?_
             refine QM_then_ret ?_
             refine QM_block_ret ?_
             refine QM_then_ret ?_
             refine QM_then_ret ?_
             refine QM_block_ret ?_
             refine QM_block_ret ?_
             refine QM_then_ret ?_
             refine QM_then_ret ?_
             refine QM_block_ret ?_
             refine QM_then_ret ?_
             refine QM_items (fun W hm => Mem.hide rk120 (hm.pick [1, 0, 2, 3, 4] (by decide))) ?_
             exact QM_ret1 rfl rfl (fun W hm => ⟨ret_b (show impl_IsStore_m x0 = false from by unfold impl_IsStore_m; exact cond_t g11 (cond_t g13 (fin_inl (rng_ret (body := (fun k (s : (List DVersion)) => impl_IsStore_b1 x0 k s)) (k := k16) (s := d17) (show k16 < x0.Segments.length from by omega) (show impl_IsStore_b1 x0 k16 d17 = Sum.inl false from by unfold impl_IsStore_b1; exact cond_f g40 (fin_inl (rng_ret (body := (fun k (s : (List DVersion)) => impl_IsStore_b2 x0 k16 k s)) (k := k41) (s := d42) (show k41 < ((gt x0.Segments k16)).length from by omega) (show impl_IsStore_b2 x0 k16 k41 d42 = Sum.inl false from by unfold impl_IsStore_b2; exact cond_t g72 (cond_t g74 (cond_t g76 (cond_t g111 (fin_inl (rng_ret (body := (fun k (_ : Unit) => impl_IsStore_b4 x0 k16 k41 d42 k)) (k := k112) (s := ()) (show k112 < d42.length from by omega) (show impl_IsStore_b4 x0 k16 k41 d42 k112 = Sum.inl false from by unfold impl_IsStore_b4; exact cond_t g132 (cond_t g134 (rfl))) hF114) rfl))))) hF46) rfl)) hF21) rfl))), hm.below⟩)
            ·
             refine CM_condF rfl g134 ?_
             refine CM_skip ?_
             refine QM_block_normal ?_
             refine QM_then ?_
             refine CM_region ?_
             refine wv (fun W hm => rv_addN (p := k112) (q := 1) rfl rfl (by omega)) ?_
             refine wm ?_
             refine WM_nil ?_
             refine QM_items (fun W hm => Mem.hide rk120 (hm.pick [1, 0, 2, 3, 4] (by decide))) ?_
             have hn135 := rng_next (R := Bool) (body := (fun k (_ : Unit) => impl_IsStore_b4 x0 k16 k41 d42 k)) (k := k112) (s := ()) (s' := ()) (show k112 < d42.length from by omega) (show impl_IsStore_b4 x0 k16 k41 d42 k112 = Sum.inr () from by unfold impl_IsStore_b4; exact cond_t g132 (cond_f g134 (rfl))) hF114
             exact QM_round (k112 + 1, (), ()) (subL_cons rfl (subL_cons rfl (subL_cons rfl (subL_cons rfl (subL_cons rfl (subL_cons rfl (subL_cons rfl (subL_cons rfl (subL_cons rfl (subL_cons rfl (subL_cons rfl (subL_cons rfl subL_nil)))))))))))) (fun W hm => (hm.pick [2, 3, 0, 4] (by decide))) ⟨(by omega), hn135⟩ (show d42.length - (k112 + 1) < d42.length - k112 from by omega)
           ·have g132 : (((gt (gt x0.Segments k16) k41).Id) == ((gt d42 k112).Id)) = false := beq_eq_false_iff_ne.2 h131
            refine ws g132 ?_
            refine ws g132 ?_
            refine ws g132 ?_
            refine wv (fun W hm => rv_pickF rfl g132 rfl) ?_
            refine nt' ?_
            refine CM_condF rfl rfl ?_
            refine CM_skip ?_
            refine QM_block_normal ?_
            refine QM_then ?_
            refine CM_region ?_
            refine wv (fun W hm => rv_addN (p := k112) (q := 1) rfl rfl (by omega)) ?_
            refine wm ?_
            refine WM_nil ?_
            refine QM_items (fun W hm => Mem.hide rk120 (hm.pick [1, 0, 2, 3, 4] (by decide))) ?_
            have hn136 := rng_next (R := Bool) (body := (fun k (_ : Unit) => impl_IsStore_b4 x0 k16 k41 d42 k)) (k := k112) (s := ()) (s' := ()) (show k112 < d42.length from by omega) (show impl_IsStore_b4 x0 k16 k41 d42 k112 = Sum.inr () from by unfold impl_IsStore_b4; exact cond_f g132 (rfl)) hF114
            exact QM_round (k112 + 1, (), ()) (subL_cons rfl (subL_cons rfl (subL_cons rfl (subL_cons rfl (subL_cons rfl (subL_cons rfl (subL_cons rfl (subL_cons rfl (subL_cons rfl (subL_cons rfl (subL_cons rfl (subL_cons rfl subL_nil)))))))))))) (fun W hm => (hm.pick [2, 3, 0, 4] (by decide))) ⟨(by omega), hn136⟩ (show d42.length - (k112 + 1) < d42.length - k112 from by omega)
          ·have g117 : (decide (((k112 : Nat) : Int) < ((d42.length : Nat) : Int))) = false := decide_eq_false (by omega)
           refine CM_condF rfl g117 ?_
           refine CM_exit ?_
           refine QM_then_exit ?_
           refine QM_then_exit ?_
           have hE137 : rng (R := Bool) (fun k (_ : Unit) => impl_IsStore_b4 x0 k16 k41 d42 k) (d42.length - 0) 0 () = Sum.inr () := rng_end hl116 hF114
           refine QM_block_hit ?_
           refine QM_then ?_
           refine CM_region ?_
           refine wm ?_
           refine wv (fun W hm => rv_loadN (cs := [.int .i64 ((gt (gt x0.Segments k16) k41).Id), .slice A60 ((gt (gt x0.Segments k16) k41).Values).length c61, .int .i64 ((gt (gt x0.Segments k16) k41).Born), .int .i64 ((gt (gt x0.Segments k16) k41).Died)]) Try.underlying102 Try.type102 rfl rfl (hm.boxCells (n := 1) rfl)) ?_
           refine WM_build (cs := [.int .i64 ((gt (gt x0.Segments k16) k41).Id), .slice A60 ((gt (gt x0.Segments k16) k41).Values).length c61, .int .i64 ((gt (gt x0.Segments k16) k41).Born), .int .i64 ((gt (gt x0.Segments k16) k41).Died)]) Try.underlying100 Try.type102 rfl (by decide) (by decide) rfl (by kernel_rfl) (Wd_none rfl) (by decide) (fun p138 => ?_)
           refine WM_append (E := (tBor tyVersion w w.heap.size)) (e := 102) (v := .slice A43 d42.length c44) (p := p138) (q := 1) (xs := d42) (ys := [(gt (gt x0.Segments k16) k41)]) (eis := []) (js := [iOwn (tSl tInt 3) [.slice A67 ((impl_rowOf_m (gt (gt x0.Segments k16) k41)).Values).length c68] ((impl_rowOf_m (gt (gt x0.Segments k16) k41)).Values), iBox p64 102 [.int .i64 ((gt (gt x0.Segments k16) k41).Id), .slice A60 ((gt (gt x0.Segments k16) k41).Values).length c61, .int .i64 ((gt (gt x0.Segments k16) k41).Born), .int .i64 ((gt (gt x0.Segments k16) k41).Died)], iBox p9 45 [.slice (some a26) x0.Segments.length c5, .int .i64 x0.Now]]) (news := [.int .i64 ((gt (gt x0.Segments k16) k41).Id), .slice A60 ((gt (gt x0.Segments k16) k41).Values).length c61, .int .i64 ((gt (gt x0.Segments k16) k41).Born), .int .i64 ((gt (gt x0.Segments k16) k41).Died)]) (fun W hm => (hm.pick [0, 3, 1, 2, 4] (by decide))) (fun _ _ hs => by cases (Sep.nil hs); exact (els_cons (E := (tBor tyVersion w w.heap.size)) (L1 := []) ⟨rfl, (tyVersion_mk r63)⟩ els_nil)) Try.underlying100 Try.type102 rfl rfl rfl (Nat.le_of_ble_eq_true rfl) rfl rfl rfl (show (d42.length + 1) * 48 ≤ 140737488355328 from by omega) (show d42.length + 1 ≤ 9223372036854775807 from by omega) (Wd_none rfl) (by decide) (fun v139 => ?_)
           refine WM_form (n := 0) rfl ?_
           rintro A140 c141 rfl m142
           refine wa ?_
           refine WM_nil ?_
           refine QM_block_normal ?_
           refine QM_then ?_
           refine CM_region ?_
           refine wv (fun W hm => rv_addN (p := k41) (q := 1) rfl rfl (by omega)) ?_
           refine wm ?_
           refine WM_nil ?_
           have hn144 := rng_next (R := Bool) (body := (fun k (s : (List DVersion)) => impl_IsStore_b2 x0 k16 k s)) (k := k41) (s := d42) (s' := (d42 ++ [(gt (gt x0.Segments k16) k41)])) (show k41 < ((gt x0.Segments k16)).length from by omega) (show impl_IsStore_b2 x0 k16 k41 d42 = Sum.inr (d42 ++ [(gt (gt x0.Segments k16) k41)]) from by unfold impl_IsStore_b2; exact cond_t g72 (cond_t g74 (cond_t g76 (cond_t g111 (fin_inr hE137 (rfl)))))) hF46
           exact QM_round (k41 + 1, (d42 ++ [(gt (gt x0.Segments k16) k41)]), (A140, c141)) (subL_cons rfl (subL_cons rfl (subL_cons rfl (subL_cons rfl (subL_cons rfl (subL_cons rfl (subL_cons rfl (subL_cons rfl subL_nil)))))))) (fun W hm => (hm.pick [0, 3] (by decide))) ⟨(by omega), hn144, (show (d42 ++ [(gt (gt x0.Segments k16) k41)]).length ≤ d17.length + (k41 + 1) from by first | omega | (simp only [List.length_append, List.length_cons, List.length_nil] at *; omega))⟩ (show ((gt x0.Segments k16)).length - (k41 + 1) < ((gt x0.Segments k16)).length - k41 from by omega)
         ·
          refine CM_condT rfl (nf g111) ?_
          refine sr ?_
          refine wa ?_
          refine nt' ?_
          refine CM_ret ?_
          refine QM_then_ret ?_
          refine QM_block_ret ?_
          refine QM_then_ret ?_
          refine QM_then_ret ?_
          refine QM_block_ret ?_
          refine QM_block_ret ?_
          refine QM_then_ret ?_
          refine QM_then_ret ?_
          refine QM_block_ret ?_
          refine QM_then_ret ?_
          exact QM_ret1 rfl rfl (fun W hm => ⟨ret_b (show impl_IsStore_m x0 = false from by unfold impl_IsStore_m; exact cond_t g11 (cond_t g13 (fin_inl (rng_ret (body := (fun k (s : (List DVersion)) => impl_IsStore_b1 x0 k s)) (k := k16) (s := d17) (show k16 < x0.Segments.length from by omega) (show impl_IsStore_b1 x0 k16 d17 = Sum.inl false from by unfold impl_IsStore_b1; exact cond_f g40 (fin_inl (rng_ret (body := (fun k (s : (List DVersion)) => impl_IsStore_b2 x0 k16 k s)) (k := k41) (s := d42) (show k41 < ((gt x0.Segments k16)).length from by omega) (show impl_IsStore_b2 x0 k16 k41 d42 = Sum.inl false from by unfold impl_IsStore_b2; exact cond_t g72 (cond_t g74 (cond_t g76 (cond_f g111 (rfl))))) hF46) rfl)) hF21) rfl))), hm.below⟩)
       ·
        refine ws (nf g74) ?_
        refine ws (nf g74) ?_
        refine ws (nf g74) ?_
        refine ws (nf g74) ?_
        refine wu ?_
        refine wu ?_
        refine wu ?_
        refine wu ?_
        refine wu ?_
        refine wu ?_
        refine wu ?_
        refine wu ?_
        refine wu ?_
        refine ws (nf g74) ?_
        refine wv (fun W hm => rv_pickT rfl (nf g74) rfl) ?_
        refine nt' ?_
        refine CM_condT rfl rfl ?_
        refine sr ?_
        refine wa ?_
        refine nt' ?_
        refine CM_ret ?_
        refine QM_then_ret ?_
        refine QM_block_ret ?_
        refine QM_then_ret ?_
        refine QM_then_ret ?_
        refine QM_block_ret ?_
        refine QM_block_ret ?_
        refine QM_then_ret ?_
        refine QM_then_ret ?_
        refine QM_block_ret ?_
        refine QM_then_ret ?_
        exact QM_ret1 rfl rfl (fun W hm => ⟨ret_b (show impl_IsStore_m x0 = false from by unfold impl_IsStore_m; exact cond_t g11 (cond_t g13 (fin_inl (rng_ret (body := (fun k (s : (List DVersion)) => impl_IsStore_b1 x0 k s)) (k := k16) (s := d17) (show k16 < x0.Segments.length from by omega) (show impl_IsStore_b1 x0 k16 d17 = Sum.inl false from by unfold impl_IsStore_b1; exact cond_f g40 (fin_inl (rng_ret (body := (fun k (s : (List DVersion)) => impl_IsStore_b2 x0 k16 k s)) (k := k41) (s := d42) (show k41 < ((gt x0.Segments k16)).length from by omega) (show impl_IsStore_b2 x0 k16 k41 d42 = Sum.inl false from by unfold impl_IsStore_b2; exact cond_t g72 (cond_f g74 (rfl))) hF46) rfl)) hF21) rfl))), hm.below⟩)
      ·
       refine ws (nf g72) ?_
       refine ws (nf g72) ?_
       refine ws (nf g72) ?_
       refine ws (nf g72) ?_
       refine ws (nf g72) ?_
       refine ws (nf g72) ?_
       refine wv (fun W hm => rv_pickT rfl (nf g72) rfl) ?_
       refine wm ?_
       refine wk ?_
       refine wk ?_
       refine wk ?_
       refine wk ?_
       refine wu ?_
       refine wu ?_
       refine wu ?_
       refine wu ?_
       refine wu ?_
       refine wu ?_
       refine wu ?_
       refine wu ?_
       refine wu ?_
       refine wk ?_
       refine wv (fun W hm => rv_pickT rfl rfl rfl) ?_
       refine nt' ?_
       refine CM_condT rfl rfl ?_
       refine sr ?_
       refine wa ?_
       refine nt' ?_
       refine CM_ret ?_
       refine QM_then_ret ?_
       refine QM_block_ret ?_
       refine QM_then_ret ?_
       refine QM_then_ret ?_
       refine QM_block_ret ?_
       refine QM_block_ret ?_
       refine QM_then_ret ?_
       refine QM_then_ret ?_
       refine QM_block_ret ?_
       refine QM_then_ret ?_
       exact QM_ret1 rfl rfl (fun W hm => ⟨ret_b (show impl_IsStore_m x0 = false from by unfold impl_IsStore_m; exact cond_t g11 (cond_t g13 (fin_inl (rng_ret (body := (fun k (s : (List DVersion)) => impl_IsStore_b1 x0 k s)) (k := k16) (s := d17) (show k16 < x0.Segments.length from by omega) (show impl_IsStore_b1 x0 k16 d17 = Sum.inl false from by unfold impl_IsStore_b1; exact cond_f g40 (fin_inl (rng_ret (body := (fun k (s : (List DVersion)) => impl_IsStore_b2 x0 k16 k s)) (k := k41) (s := d42) (show k41 < ((gt x0.Segments k16)).length from by omega) (show impl_IsStore_b2 x0 k16 k41 d42 = Sum.inl false from by unfold impl_IsStore_b2; exact cond_f g72 (rfl)) hF46) rfl)) hF21) rfl))), hm.below⟩)
     ·have g50 : (decide (((k41 : Nat) : Int) < ((((gt x0.Segments k16)).length : Nat) : Int))) = false := decide_eq_false (by omega)
      refine CM_condF rfl g50 ?_
      refine CM_exit ?_
      refine QM_then_exit ?_
      refine QM_then_exit ?_
      have hE145 : rng (R := Bool) (fun k (s : (List DVersion)) => impl_IsStore_b2 x0 k16 k s) (((gt x0.Segments k16)).length - 0) 0 d17 = Sum.inr d42 := rng_end hl49 hF46
      refine QM_block_hit ?_
      refine QM_block_normal ?_
      refine QM_then ?_
      refine CM_region ?_
      refine wv (fun W hm => rv_addN (p := k16) (q := 1) rfl rfl (by omega)) ?_
      refine wm ?_
      refine WM_nil ?_
      have hn146 := rng_next (R := Bool) (body := (fun k (s : (List DVersion)) => impl_IsStore_b1 x0 k s)) (k := k16) (s := d17) (s' := d42) (show k16 < x0.Segments.length from by omega) (show impl_IsStore_b1 x0 k16 d17 = Sum.inr d42 from by unfold impl_IsStore_b1; exact cond_f g40 (fin_inr hE145 (rfl))) hF21
      exact QM_round (k16 + 1, d42, (A43, c44)) (subL_cons rfl (subL_cons rfl (subL_cons rfl (subL_cons rfl (subL_cons rfl subL_nil))))) (fun W hm => hm) ⟨(by omega), hn146, (show d42.length ≤ 0 + 4 * (k16 + 1) from by first | omega | (simp only [List.length_append, List.length_cons, List.length_nil] at *; omega))⟩ (show x0.Segments.length - (k16 + 1) < x0.Segments.length - k16 from by omega)
   ·have g25 : (decide (((k16 : Nat) : Int) < ((x0.Segments.length : Nat) : Int))) = false := decide_eq_false (by omega)
    refine CM_condF rfl g25 ?_
    refine CM_exit ?_
    refine QM_then_exit ?_
    refine QM_then_exit ?_
    have hE147 : rng (R := Bool) (fun k (s : (List DVersion)) => impl_IsStore_b1 x0 k s) (x0.Segments.length - 0) 0 [] = Sum.inr d17 := rng_end hl24 hF21
    refine QM_block_hit ?_
    refine QM_then ?_
    refine sr ?_
    refine wa ?_
    refine nt' ?_
    refine CM_ret ?_
    exact QM_ret1 rfl rfl (fun W hm => ⟨ret_b (show impl_IsStore_m x0 = true from by unfold impl_IsStore_m; exact cond_t g11 (cond_t g13 (fin_inr hE147 (rfl)))), hm.below⟩)
  ·
   refine CM_condT rfl (nf g13) ?_
   refine sr ?_
   refine wa ?_
   refine nt' ?_
   refine CM_ret ?_
   refine QM_then_ret ?_
   exact QM_ret1 rfl rfl (fun W hm => ⟨ret_b (show impl_IsStore_m x0 = false from by unfold impl_IsStore_m; exact cond_t g11 (cond_f g13 (rfl))), hm.below⟩)
 ·
  refine ws (nf g11) ?_
  refine ws (nf g11) ?_
  refine ws (nf g11) ?_
  refine ws (nf g11) ?_
  refine wv (fun W hm => rv_pickT rfl (nf g11) rfl) ?_
  refine nt' ?_
  refine CM_condT rfl rfl ?_
  refine sr ?_
  refine wa ?_
  refine nt' ?_
  refine CM_ret ?_
  refine QM_then_ret ?_
  exact QM_ret1 rfl rfl (fun W hm => ⟨ret_b (show impl_IsStore_m x0 = false from by unfold impl_IsStore_m; exact cond_f g11 (rfl)), hm.below⟩)

def impl_segmentRows_b1 (x0 : DStore) (x1 : Int) (x2 : Int) (k25 : Nat) (d26 : (List DRow)) : (List DRow) ⊕ ((List DRow)) :=
 cond (impl_IsVisible_m (gt (gt x0.Segments (x1.toNat)) k25) x2) (Sum.inr (d26 ++ [(impl_rowOf_m (gt (gt x0.Segments (x1.toNat)) k25))])) (Sum.inr d26)
def impl_segmentRows_m (x0 : DStore) (x1 : Int) (x2 : Int) : (List DRow) :=
 Sum.elim id (fun (s : (List DRow)) => s) (rng (R := (List DRow)) (fun k (s : (List DRow)) => impl_segmentRows_b1 x0 x1 x2 k s) (((gt x0.Segments (x1.toNat))).length - 0) 0 [])
set_option maxRecDepth 100000 in
theorem cb100 : Cb Try.prog 100 := ⟨Try.f100, _, Try.func100, rfl, by decide⟩
set_option maxRecDepth 10000 in
set_option maxHeartbeats 4000000 in
theorem impl_segmentRows_c (w : World) (z0 : List Value) (x0 : DStore) (x1 : Int) (x2 : Int) (r_0 : tyStore.rd w w.heap.size z0 x0) (s_0 : smStore 68719476736 x0) (hx1 : 0 ≤ x1 ∧ x1.toNat < x0.Segments.length) :
  Calls Try.prog 100 #[.agg z0.toArray, .int .i64 x1, .int .i64 x2] w fun e w' => ∃ v : Value, e = .returned (v) ∧ Mem w.heap.size w [iOwn (tSl tyRow 69) [v] (impl_segmentRows_m x0 x1 x2)] w' := by
 obtain ⟨v1, rfl, r2⟩ := tyStore_rd r_0
 have r7 := r2
 obtain ⟨m3, A4, c5, rfl, q6⟩ := r2
 have l8 : x0.Segments.length ≤ 68719476736 := s_0.1
 refine call_enterM (L := [(0, .agg #[.slice A4 x0.Segments.length c5, .int .i64 x0.Now]), (1, .int .i64 x1), (2, .int .i64 x2)]) (N := 31) Try.func100 rfl rfl (Nat.le_of_ble_eq_true rfl) (argsL_cons rfl (argsL_cons rfl (argsL_cons rfl argsL_nil))) ?_
 refine sr ?_
 refine WM_box rfl (Wd_none rfl) (by decide) (fun p9 => ?_)
 refine wa ?_
 refine nt' ?_
 refine sr ?_
 refine WM_build0 (E := tyRow) Try.underlying24 Try.type69 (Wd_none rfl) (by decide) (fun p10 => ?_)
 refine wa ?_
 refine nt' ?_
 refine CM_seq ?_
 refine sr ?_
 refine wv (fun W hm => rv_field Try.underlying45 rfl Try.type43 (by decide) rfl rfl) ?_
 refine wv (fun W hm => rv_load Try.underlying43 rfl rfl (hm.boxCell (n := 1) (o := 0) rfl rfl)) ?_
 refine wm ?_
 obtain ⟨a12, rfl, hb13, he14⟩ := q6 (by omega)
 refine wv (fun W hm => rv_indexI (sz := 1) (k := x1) Try.underlying43 Try.type100 rfl rfl rfl (by omega) (by omega)) ?_
 obtain ⟨_, e16, hc15⟩ := he14 (x1.toNat) _ (gt_some (show (x1.toNat) < x0.Segments.length from by omega))
 have l17 : (gt x0.Segments (x1.toNat)).length ≤ 68719476736 := (s_0.2 _ (gt_mem (show (x1.toNat) < x0.Segments.length from by omega))).1
 obtain ⟨v18, rfl, r19⟩ := e16
 have r24 := r19
 obtain ⟨m20, A21, c22, rfl, q23⟩ := r19
 refine wv (fun W hm => rv_load Try.underlying100 rfl rfl ((hm.cell0 (show (a12.add ((x1.toNat) * 1)).block < w.heap.size from by rw [add_block]; exact hb13.1)).trans (hc15 0 _ rfl))) ?_
 refine wv (fun W hm => rv_len Try.underlying100 rfl) ?_
 refine wm ?_
 refine nt' ?_
 refine CM_block ?_
 refine CM_loop (σ := Nat × ((List DRow)) × (Option Addr × Nat)) (fun s => [(2, .int .i64 x2), (7, .slice s.2.2.1 s.2.1.length s.2.2.2), (15, .slice A21 ((gt x0.Segments (x1.toNat))).length c22), (16, .int .i64 ((((gt x0.Segments (x1.toNat))).length : Nat) : Int)), (17, .int .i64 ((s.1 : Nat) : Int))]) (fun s => [iOwn (tSl tyRow 69) [.slice s.2.2.1 s.2.1.length s.2.2.2] s.2.1, iBox p9 45 [.slice (some a12) x0.Segments.length c5, .int .i64 x0.Now]]) (fun s => s.1 ≤ ((gt x0.Segments (x1.toNat))).length ∧ rng (R := (List DRow)) (fun k (s : (List DRow)) => impl_segmentRows_b1 x0 x1 x2 k s) (((gt x0.Segments (x1.toNat))).length - s.1) s.1 s.2.1 = rng (R := (List DRow)) (fun k (s : (List DRow)) => impl_segmentRows_b1 x0 x1 x2 k s) (((gt x0.Segments (x1.toNat))).length - 0) 0 [] ∧ s.2.1.length ≤ 0 + s.1) (fun s => ((gt x0.Segments (x1.toNat))).length - s.1) (0, [], ((some ⟨p10, 0, none⟩), 0)) (subL_cons rfl (subL_cons rfl (subL_cons rfl (subL_cons rfl (subL_cons rfl subL_nil))))) (fun W hm => hm) ⟨(by omega), rfl, Nat.le_refl _⟩ ?_
 rintro ⟨k25, d26, ⟨A27, c28⟩⟩ H31
 obtain ⟨hk29, hF30, hi32⟩ : k25 ≤ ((gt x0.Segments (x1.toNat))).length ∧ rng (R := (List DRow)) (fun k (s : (List DRow)) => impl_segmentRows_b1 x0 x1 x2 k s) (((gt x0.Segments (x1.toNat))).length - k25) k25 d26 = rng (R := (List DRow)) (fun k (s : (List DRow)) => impl_segmentRows_b1 x0 x1 x2 k s) (((gt x0.Segments (x1.toNat))).length - 0) 0 [] ∧ d26.length ≤ 0 + k25 := H31
 show CM Try.prog 31 _ _ _ _ [(2, .int .i64 x2), (7, .slice A27 d26.length c28), (15, .slice A21 ((gt x0.Segments (x1.toNat))).length c22), (16, .int .i64 ((((gt x0.Segments (x1.toNat))).length : Nat) : Int)), (17, .int .i64 ((k25 : Nat) : Int))] [iOwn (tSl tyRow 69) [.slice A27 d26.length c28] d26, iBox p9 45 [.slice (some a12) x0.Segments.length c5, .int .i64 x0.Now]]
 refine sr ?_
 refine wv (fun W hm => rv_lss rfl rfl) ?_
 refine nt' ?_
 refine CM_seq ?_
 by_cases hl33 : k25 < ((gt x0.Segments (x1.toNat))).length
 ·have g34 : (decide (((k25 : Nat) : Int) < ((((gt x0.Segments (x1.toNat))).length : Nat) : Int))) = true := decide_eq_true (by omega)
  refine CM_condT rfl g34 ?_
  refine CM_skip ?_
  refine QM_then ?_
  refine CM_seq ?_
  refine CM_block ?_
  refine sr ?_
  obtain ⟨a35, rfl, hb36, he37⟩ := q23 (by omega)
  refine wv (fun W hm => rv_index (sz := 4) (k := k25) Try.underlying100 Try.type102 rfl rfl rfl (by omega)) ?_
  obtain ⟨_, e41, hc38⟩ := he37 k25 _ (gt_some (show k25 < ((gt x0.Segments (x1.toNat))).length from by omega))
  obtain ⟨v39, rfl, r40⟩ := tyVersion_rd e41
  have l42 : ((gt (gt x0.Segments (x1.toNat)) k25).Values).length ≤ 68719476736 := ((s_0.2 _ (gt_mem (show (x1.toNat) < x0.Segments.length from by omega))).2 _ (gt_mem (show k25 < ((gt x0.Segments (x1.toNat))).length from by omega)))
  have r47 := r40
  obtain ⟨m43, A44, c45, rfl, q46⟩ := r40
  refine wv (fun W hm => rv_loadN (cs := [.int .i64 ((gt (gt x0.Segments (x1.toNat)) k25).Id), .slice A44 ((gt (gt x0.Segments (x1.toNat)) k25).Values).length c45, .int .i64 ((gt (gt x0.Segments (x1.toNat)) k25).Born), .int .i64 ((gt (gt x0.Segments (x1.toNat)) k25).Died)]) Try.underlying102 Try.type102 rfl rfl (hm.elCells (show (a35.add (k25 * 4)).block < w.heap.size from by rw [add_block]; exact hb36.1) hc38)) ?_
  refine WM_alloc Try.type102 rfl (Wd_none rfl) (by decide) (fun p48 => ?_)
  refine WM_storeBox (p := p48) (o := 0) (cs' := [.int .i64 ((gt (gt x0.Segments (x1.toNat)) k25).Id), .slice A44 ((gt (gt x0.Segments (x1.toNat)) k25).Values).length c45, .int .i64 ((gt (gt x0.Segments (x1.toNat)) k25).Born), .int .i64 ((gt (gt x0.Segments (x1.toNat)) k25).Died)]) (js := [iOwn (tSl tyRow 69) [.slice A27 d26.length c28] d26, iBox p9 45 [.slice (some a12) x0.Segments.length c5, .int .i64 x0.Now]]) (fun W hm => hm) Try.type102 rfl (Nat.le_of_ble_eq_true rfl) rfl rfl rfl rfl (Wd_none rfl) ?_
  refine nt' ?_
  refine sr ?_
  refine wv (fun W hm => rv_loadN (cs := [.int .i64 ((gt (gt x0.Segments (x1.toNat)) k25).Id), .slice A44 ((gt (gt x0.Segments (x1.toNat)) k25).Values).length c45, .int .i64 ((gt (gt x0.Segments (x1.toNat)) k25).Born), .int .i64 ((gt (gt x0.Segments (x1.toNat)) k25).Died)]) Try.underlying102 Try.type102 rfl rfl (hm.boxCells (n := 0) rfl)) ?_
  refine wm ?_
  refine WM_callV (cl_fn cb117 rfl) (fun W hm => impl_IsVisible_c W _ (gt (gt x0.Segments (x1.toNat)) k25) x2 (tyVersion_mk (x := (gt (gt x0.Segments (x1.toNat)) k25)) (hm.rdS0 r47))) (Wd_none rfl) (by decide) ?_
  refine nt' ?_
  rcases Bool.eq_false_or_eq_true (impl_IsVisible_m (gt (gt x0.Segments (x1.toNat)) k25) x2) with g50 | g50
  ·
   refine CM_condT rfl g50 ?_
   refine CM_region ?_
   refine wm ?_
   refine wv (fun W hm => rv_loadN (cs := [.int .i64 ((gt (gt x0.Segments (x1.toNat)) k25).Id), .slice A44 ((gt (gt x0.Segments (x1.toNat)) k25).Values).length c45, .int .i64 ((gt (gt x0.Segments (x1.toNat)) k25).Born), .int .i64 ((gt (gt x0.Segments (x1.toNat)) k25).Died)]) Try.underlying102 Try.type102 rfl rfl (hm.boxCells (n := 0) rfl)) ?_
   refine WM_call (χ := List Value) (val := fun x => .agg x.toArray) (js := fun x => [iOwn tyRow x (impl_rowOf_m (gt (gt x0.Segments (x1.toNat)) k25))]) (cl_fn cb115 rfl) (fun W hm => impl_rowOf_c W _ (gt (gt x0.Segments (x1.toNat)) k25) (tyVersion_mk (x := (gt (gt x0.Segments (x1.toNat)) k25)) (hm.rdS0 r47)) ((s_0.2 _ (gt_mem (show (x1.toNat) < x0.Segments.length from by omega))).2 _ (gt_mem (show k25 < ((gt x0.Segments (x1.toNat))).length from by omega)))) (Wd_none rfl) (by decide) (fun z51 => ?_)
   refine WM_split (γ := Value) (js := fun g => [iOwn (tSl tInt 3) [g] ((impl_rowOf_m (gt (gt x0.Segments (x1.toNat)) k25)).Values)]) (C := fun g => z51 = [.int .i64 ((impl_rowOf_m (gt (gt x0.Segments (x1.toNat)) k25)).Id), g]) (fun _ _ h => tyRow_split h) ?_
   rintro v52 rfl
   refine WM_form (n := 0) rfl ?_
   rintro A53 c54 rfl m55
   refine WM_build (cs := [.int .i64 ((impl_rowOf_m (gt (gt x0.Segments (x1.toNat)) k25)).Id), .slice A53 ((impl_rowOf_m (gt (gt x0.Segments (x1.toNat)) k25)).Values).length c54]) Try.underlying24 Try.type69 rfl (by decide) (by decide) rfl (by kernel_rfl) (Wd_none rfl) (by decide) (fun p57 => ?_)
   refine WM_append (E := tyRow) (e := 69) (v := .slice A27 d26.length c28) (p := p57) (q := 1) (xs := d26) (ys := [(impl_rowOf_m (gt (gt x0.Segments (x1.toNat)) k25))]) (eis := [iOwn (tSl tInt 3) [.slice A53 ((impl_rowOf_m (gt (gt x0.Segments (x1.toNat)) k25)).Values).length c54] ((impl_rowOf_m (gt (gt x0.Segments (x1.toNat)) k25)).Values)]) (js := [iBox p48 102 [.int .i64 ((gt (gt x0.Segments (x1.toNat)) k25).Id), .slice A44 ((gt (gt x0.Segments (x1.toNat)) k25).Values).length c45, .int .i64 ((gt (gt x0.Segments (x1.toNat)) k25).Born), .int .i64 ((gt (gt x0.Segments (x1.toNat)) k25).Died)], iBox p9 45 [.slice (some a12) x0.Segments.length c5, .int .i64 x0.Now]]) (news := [.int .i64 ((impl_rowOf_m (gt (gt x0.Segments (x1.toNat)) k25)).Id), .slice A53 ((impl_rowOf_m (gt (gt x0.Segments (x1.toNat)) k25)).Values).length c54]) (fun W hm => (hm.pick [0, 3, 1, 2, 4] (by decide))) (fun _ _ hs => Els.single (tyRow_join (x := (impl_rowOf_m (gt (gt x0.Segments (x1.toNat)) k25))) hs)) Try.underlying24 Try.type69 rfl rfl rfl (Nat.le_of_ble_eq_true rfl) rfl rfl rfl (show (d26.length + 1) * 32 ≤ 140737488355328 from by omega) (show d26.length + 1 ≤ 9223372036854775807 from by omega) (Wd_none rfl) (by decide) (fun v58 => ?_)
   refine WM_form (n := 0) rfl ?_
   rintro A59 c60 rfl m61
   refine wa ?_
   refine WM_nil ?_
   refine QM_block_normal ?_
   refine QM_then ?_
   refine CM_region ?_
   refine wv (fun W hm => rv_addN (p := k25) (q := 1) rfl rfl (by omega)) ?_
   refine wm ?_
   refine WM_nil ?_
   have hn63 := rng_next (R := (List DRow)) (body := (fun k (s : (List DRow)) => impl_segmentRows_b1 x0 x1 x2 k s)) (k := k25) (s := d26) (s' := (d26 ++ [(impl_rowOf_m (gt (gt x0.Segments (x1.toNat)) k25))])) (show k25 < ((gt x0.Segments (x1.toNat))).length from by omega) (show impl_segmentRows_b1 x0 x1 x2 k25 d26 = Sum.inr (d26 ++ [(impl_rowOf_m (gt (gt x0.Segments (x1.toNat)) k25))]) from by unfold impl_segmentRows_b1; exact cond_t g50 (rfl)) hF30
   exact QM_round (k25 + 1, (d26 ++ [(impl_rowOf_m (gt (gt x0.Segments (x1.toNat)) k25))]), (A59, c60)) (subL_cons rfl (subL_cons rfl (subL_cons rfl (subL_cons rfl (subL_cons rfl subL_nil))))) (fun W hm => (hm.pick [0, 2] (by decide))) ⟨(by omega), hn63, (show (d26 ++ [(impl_rowOf_m (gt (gt x0.Segments (x1.toNat)) k25))]).length ≤ 0 + (k25 + 1) from by first | omega | (simp only [List.length_append, List.length_cons, List.length_nil] at *; omega))⟩ (show ((gt x0.Segments (x1.toNat))).length - (k25 + 1) < ((gt x0.Segments (x1.toNat))).length - k25 from by omega)
  ·
   refine CM_condF rfl g50 ?_
   refine CM_skip ?_
   refine QM_block_normal ?_
   refine QM_then ?_
   refine CM_region ?_
   refine wv (fun W hm => rv_addN (p := k25) (q := 1) rfl rfl (by omega)) ?_
   refine wm ?_
   refine WM_nil ?_
   have hn64 := rng_next (R := (List DRow)) (body := (fun k (s : (List DRow)) => impl_segmentRows_b1 x0 x1 x2 k s)) (k := k25) (s := d26) (s' := d26) (show k25 < ((gt x0.Segments (x1.toNat))).length from by omega) (show impl_segmentRows_b1 x0 x1 x2 k25 d26 = Sum.inr d26 from by unfold impl_segmentRows_b1; exact cond_f g50 (rfl)) hF30
   exact QM_round (k25 + 1, d26, (A27, c28)) (subL_cons rfl (subL_cons rfl (subL_cons rfl (subL_cons rfl (subL_cons rfl subL_nil))))) (fun W hm => (hm.pick [1, 2] (by decide))) ⟨(by omega), hn64, (show d26.length ≤ 0 + (k25 + 1) from by first | omega | (simp only [List.length_append, List.length_cons, List.length_nil] at *; omega))⟩ (show ((gt x0.Segments (x1.toNat))).length - (k25 + 1) < ((gt x0.Segments (x1.toNat))).length - k25 from by omega)
 ·have g34 : (decide (((k25 : Nat) : Int) < ((((gt x0.Segments (x1.toNat))).length : Nat) : Int))) = false := decide_eq_false (by omega)
  refine CM_condF rfl g34 ?_
  refine CM_exit ?_
  refine QM_then_exit ?_
  refine QM_then_exit ?_
  have hE65 : rng (R := (List DRow)) (fun k (s : (List DRow)) => impl_segmentRows_b1 x0 x1 x2 k s) (((gt x0.Segments (x1.toNat))).length - 0) 0 [] = Sum.inr d26 := rng_end hl33 hF30
  refine QM_block_hit ?_
  refine QM_then ?_
  refine sr ?_
  refine wm ?_
  refine wa ?_
  refine nt' ?_
  refine CM_ret ?_
  refine QM_r1 rfl (RR_tmp rfl) (fun W hm => ⟨.slice A27 d26.length c28, ?_, ?_⟩)
  ·first | rw [(show impl_segmentRows_m x0 x1 x2 = d26 from by unfold impl_segmentRows_m; exact fin_inr hE65 (rfl))] | rfl
  ·rw [(show impl_segmentRows_m x0 x1 x2 = d26 from by unfold impl_segmentRows_m; exact fin_inr hE65 (rfl))]; exact (hm.pick [0] (by decide))

def impl_copyRow_m (x0 : DRow) : DRow :=
 x0
set_option maxRecDepth 100000 in
theorem cb61 : Cb Try.prog 61 := ⟨Try.f61, _, Try.func61, rfl, by decide⟩
set_option maxRecDepth 10000 in
set_option maxHeartbeats 4000000 in
theorem impl_copyRow_c (w : World) (z0 : List Value) (x0 : DRow) (r_0 : tyRow.rd w w.heap.size z0 x0) (s_0 : smRow 68719476736 x0) :
  Calls Try.prog 61 #[.agg z0.toArray] w fun e w' => ∃ v : List Value, e = .returned (.agg v.toArray) ∧ Mem w.heap.size w [iOwn tyRow v (impl_copyRow_m x0)] w' := by
 obtain ⟨v1, rfl, r2⟩ := tyRow_rd r_0
 have r7 := r2
 obtain ⟨m3, A4, c5, rfl, q6⟩ := r2
 have l8 : x0.Values.length ≤ 68719476736 := s_0
 refine call_enterM (L := [(0, .agg #[.int .i64 x0.Id, .slice A4 x0.Values.length c5])]) (N := 9) Try.func61 rfl rfl (Nat.le_of_ble_eq_true rfl) (argsL_cons rfl argsL_nil) ?_
 refine sr ?_
 refine WM_box rfl (Wd_none rfl) (by decide) (fun p9 => ?_)
 refine WM_alloc Try.type69 rfl (Wd_none rfl) (by decide) (fun p10 => ?_)
 refine nt' ?_
 refine CM_seq ?_
 refine rb 7 (s := [iBox p9 69 [.int .i64 x0.Id, .slice A4 x0.Values.length c5]]) (fun W hm => (hm.pick [1] (by decide))) ?_
 refine qt 7 0 1 rfl (fun W hm => rv_field Try.underlying69 rfl Try.type3 (by decide) rfl rfl) ?_
 refine qt 7 1 3 rfl (fun W hm => rv_load Try.underlying3 rfl rfl (hm.boxCell (n := 0) (o := 0) rfl rfl)) ?_
 refine qt 7 2 7 rfl (fun W hm => rv_field Try.underlying69 rfl Try.type33 (by decide) rfl rfl) ?_
 refine qt 7 3 15 rfl (fun W hm => rv_load Try.underlying33 rfl rfl (hm.boxCell (n := 0) (o := 1) rfl rfl)) ?_
 refine qo 7 4 31 rfl ?_
 refine WM_call (χ := Value) (val := fun x => x) (js := fun x => [iOwn (tSl tInt 3) [x] x0.Values]) (cl_fn cb95 rfl) (fun W hm => impl_copyInts_c2 W _ x0.Values (hm.rdS0 r7) s_0) (Wd_none rfl) (by decide) (fun z11 => ?_)
 refine WM_form (n := 0) rfl ?_
 rintro A12 c13 rfl m14
 refine qn (fun W hm => (hm.pick [2] (by decide))) ?_
 refine qt 7 5 63 rfl (fun W hm => rv_build (cs := [.int .i64 x0.Id, .slice A12 x0.Values.length c13]) rfl (by kernel_rfl)) ?_
 refine qo 7 6 127 rfl ?_
 refine WM_storeBox (p := p10) (o := 0) (cs' := [.int .i64 x0.Id, .slice A12 x0.Values.length c13]) (js := [iOwn (tSl tInt 3) [.slice A12 x0.Values.length c13] x0.Values, iBox p9 69 [.int .i64 x0.Id, .slice A4 x0.Values.length c5]]) (fun W hm => (hm.pick [1, 0, 2] (by decide))) Try.type69 rfl (Nat.le_of_ble_eq_true rfl) rfl rfl rfl rfl (Wd_none rfl) ?_
 refine qn (fun W hm => (hm.pick [2] (by decide))) ?_
 refine QB_done (by kernel_rfl) ?_
 refine QM_then ?_
 refine CM_ret ?_
 refine QM_r1 rfl (RR_cell (n := 0) rfl rfl Try.underlying69 Try.type69 rfl) (fun W hm => ⟨[.int .i64 x0.Id, .slice A12 x0.Values.length c13], ?_, ?_⟩)
 ·first | rw [(show impl_copyRow_m x0 = x0 from by unfold impl_copyRow_m; exact rfl)] | rfl
 ·rw [(show impl_copyRow_m x0 = x0 from by unfold impl_copyRow_m; exact rfl)]; exact Mem.join (is := [iOwn (tSl tInt 3) [.slice A12 x0.Values.length c13] x0.Values]) (js := []) (fun _ _ hs => tyRow_join (x := x0) hs) (hm.pick [1] (by decide))
theorem impl_copyRow_eq (x0 : DRow) : impl_copyRow_m x0 = x0 := by
 rfl
theorem impl_copyRow_c2 (w : World) (z0 : List Value) (x0 : DRow) (r_0 : tyRow.rd w w.heap.size z0 x0) (s_0 : smRow 68719476736 x0) :
  Calls Try.prog 61 #[.agg z0.toArray] w fun e w' => ∃ v : List Value, e = .returned (.agg v.toArray) ∧ Mem w.heap.size w [iOwn tyRow v x0] w' := by
 have h := impl_copyRow_c w z0 x0 r_0 s_0
 rw [impl_copyRow_eq] at h
 exact h

def impl_copyRows_b1 (x0 : (List DRow)) (k9 : Nat) (d10 : (List DRow)) : (List DRow) ⊕ ((List DRow)) :=
 Sum.inr (d10 ++ [(gt x0 k9)])
def impl_copyRows_m (x0 : (List DRow)) : (List DRow) :=
 Sum.elim id (fun (s : (List DRow)) => s) (rng (R := (List DRow)) (fun k (s : (List DRow)) => impl_copyRows_b1 x0 k s) (x0.length - 0) 0 [])
set_option maxRecDepth 100000 in
theorem cb124 : Cb Try.prog 124 := ⟨Try.f124, _, Try.func124, rfl, by decide⟩
set_option maxRecDepth 10000 in
set_option maxHeartbeats 4000000 in
theorem impl_copyRows_c (w : World) (z0 : Value) (x0 : (List DRow)) (r_0 : rdS tyRow w w.heap.size z0 x0) (s_0 : (x0.length ≤ 68719476736 ∧ ∀ y ∈ x0, smRow 68719476736 y)) :
  Calls Try.prog 124 #[z0] w fun e w' => ∃ v : Value, e = .returned (v) ∧ Mem w.heap.size w [iOwn (tSl tyRow 69) [v] (impl_copyRows_m x0)] w' := by
 have r5 := r_0
 obtain ⟨m1, A2, c3, rfl, q4⟩ := r_0
 have l6 : x0.length ≤ 68719476736 := s_0.1
 refine call_enterM (L := [(0, .slice A2 x0.length c3)]) (N := 20) Try.func124 rfl rfl (Nat.le_of_ble_eq_true rfl) (argsL_cons rfl argsL_nil) ?_
 refine sr ?_
 refine wa ?_
 refine nt' ?_
 refine sr ?_
 refine WM_build0 (E := tyRow) Try.underlying24 Try.type69 (Wd_none rfl) (by decide) (fun p7 => ?_)
 refine wa ?_
 refine nt' ?_
 refine CM_seq ?_
 refine sr ?_
 refine wm ?_
 refine wv (fun W hm => rv_len Try.underlying24 rfl) ?_
 refine wm ?_
 refine nt' ?_
 refine CM_block ?_
 refine CM_loop (σ := Nat × ((List DRow)) × (Option Addr × Nat)) (fun s => [(3, .slice s.2.2.1 s.2.1.length s.2.2.2), (7, .slice A2 x0.length c3), (8, .int .i64 ((x0.length : Nat) : Int)), (9, .int .i64 ((s.1 : Nat) : Int))]) (fun s => [iOwn (tSl tyRow 69) [.slice s.2.2.1 s.2.1.length s.2.2.2] s.2.1]) (fun s => s.1 ≤ x0.length ∧ rng (R := (List DRow)) (fun k (s : (List DRow)) => impl_copyRows_b1 x0 k s) (x0.length - s.1) s.1 s.2.1 = rng (R := (List DRow)) (fun k (s : (List DRow)) => impl_copyRows_b1 x0 k s) (x0.length - 0) 0 [] ∧ s.2.1.length ≤ 0 + s.1) (fun s => x0.length - s.1) (0, [], ((some ⟨p7, 0, none⟩), 0)) (subL_cons rfl (subL_cons rfl (subL_cons rfl (subL_cons rfl subL_nil)))) (fun W hm => hm) ⟨(by omega), rfl, Nat.le_refl _⟩ ?_
 rintro ⟨k9, d10, ⟨A11, c12⟩⟩ H15
 obtain ⟨hk13, hF14, hi16⟩ : k9 ≤ x0.length ∧ rng (R := (List DRow)) (fun k (s : (List DRow)) => impl_copyRows_b1 x0 k s) (x0.length - k9) k9 d10 = rng (R := (List DRow)) (fun k (s : (List DRow)) => impl_copyRows_b1 x0 k s) (x0.length - 0) 0 [] ∧ d10.length ≤ 0 + k9 := H15
 show CM Try.prog 20 _ _ _ _ [(3, .slice A11 d10.length c12), (7, .slice A2 x0.length c3), (8, .int .i64 ((x0.length : Nat) : Int)), (9, .int .i64 ((k9 : Nat) : Int))] [iOwn (tSl tyRow 69) [.slice A11 d10.length c12] d10]
 refine sr ?_
 refine wv (fun W hm => rv_lss rfl rfl) ?_
 refine nt' ?_
 refine CM_seq ?_
 by_cases hl17 : k9 < x0.length
 ·have g18 : (decide (((k9 : Nat) : Int) < ((x0.length : Nat) : Int))) = true := decide_eq_true (by omega)
  refine CM_condT rfl g18 ?_
  refine CM_skip ?_
  refine QM_then ?_
  refine CM_seq ?_
  refine CM_block ?_
  refine sr ?_
  obtain ⟨a19, rfl, hb20, he21⟩ := q4 (by omega)
  refine wv (fun W hm => rv_index (sz := 2) (k := k9) Try.underlying24 Try.type69 rfl rfl rfl (by omega)) ?_
  obtain ⟨_, e25, hc22⟩ := he21 k9 _ (gt_some (show k9 < x0.length from by omega))
  obtain ⟨v23, rfl, r24⟩ := tyRow_rd e25
  have l26 : ((gt x0 k9).Values).length ≤ 68719476736 := (s_0.2 _ (gt_mem (show k9 < x0.length from by omega)))
  have r31 := r24
  obtain ⟨m27, A28, c29, rfl, q30⟩ := r24
  refine wv (fun W hm => rv_loadN (cs := [.int .i64 ((gt x0 k9).Id), .slice A28 ((gt x0 k9).Values).length c29]) Try.underlying69 Try.type69 rfl rfl (hm.elCells (show (a19.add (k9 * 2)).block < w.heap.size from by rw [add_block]; exact hb20.1) hc22)) ?_
  refine WM_alloc Try.type69 rfl (Wd_none rfl) (by decide) (fun p32 => ?_)
  refine WM_storeBox (p := p32) (o := 0) (cs' := [.int .i64 ((gt x0 k9).Id), .slice A28 ((gt x0 k9).Values).length c29]) (js := [iOwn (tSl tyRow 69) [.slice A11 d10.length c12] d10]) (fun W hm => hm) Try.type69 rfl (Nat.le_of_ble_eq_true rfl) rfl rfl rfl rfl (Wd_none rfl) ?_
  refine nt' ?_
  refine CM_region ?_
  refine wm ?_
  refine wv (fun W hm => rv_loadN (cs := [.int .i64 ((gt x0 k9).Id), .slice A28 ((gt x0 k9).Values).length c29]) Try.underlying69 Try.type69 rfl rfl (hm.boxCells (n := 0) rfl)) ?_
  refine WM_call (χ := List Value) (val := fun x => .agg x.toArray) (js := fun x => [iOwn tyRow x (gt x0 k9)]) (cl_fn cb61 rfl) (fun W hm => impl_copyRow_c2 W _ (gt x0 k9) (tyRow_mk (x := (gt x0 k9)) (hm.rdS0 r31)) (s_0.2 _ (gt_mem (show k9 < x0.length from by omega)))) (Wd_none rfl) (by decide) (fun z33 => ?_)
  refine WM_split (γ := Value) (js := fun g => [iOwn (tSl tInt 3) [g] ((gt x0 k9).Values)]) (C := fun g => z33 = [.int .i64 ((gt x0 k9).Id), g]) (fun _ _ h => tyRow_split h) ?_
  rintro v34 rfl
  refine WM_form (n := 0) rfl ?_
  rintro A35 c36 rfl m37
  refine WM_build (cs := [.int .i64 ((gt x0 k9).Id), .slice A35 ((gt x0 k9).Values).length c36]) Try.underlying24 Try.type69 rfl (by decide) (by decide) rfl (by kernel_rfl) (Wd_none rfl) (by decide) (fun p39 => ?_)
  refine WM_append (E := tyRow) (e := 69) (v := .slice A11 d10.length c12) (p := p39) (q := 1) (xs := d10) (ys := [(gt x0 k9)]) (eis := [iOwn (tSl tInt 3) [.slice A35 ((gt x0 k9).Values).length c36] ((gt x0 k9).Values)]) (js := [iBox p32 69 [.int .i64 ((gt x0 k9).Id), .slice A28 ((gt x0 k9).Values).length c29]]) (news := [.int .i64 ((gt x0 k9).Id), .slice A35 ((gt x0 k9).Values).length c36]) (fun W hm => (hm.pick [0, 3, 1, 2] (by decide))) (fun _ _ hs => Els.single (tyRow_join (x := (gt x0 k9)) hs)) Try.underlying24 Try.type69 rfl rfl rfl (Nat.le_of_ble_eq_true rfl) rfl rfl rfl (show (d10.length + 1) * 32 ≤ 140737488355328 from by omega) (show d10.length + 1 ≤ 9223372036854775807 from by omega) (Wd_none rfl) (by decide) (fun v40 => ?_)
  refine WM_form (n := 0) rfl ?_
  rintro A41 c42 rfl m43
  refine wa ?_
  refine WM_nil ?_
  refine QM_block_normal ?_
  refine QM_then ?_
  refine CM_region ?_
  refine wv (fun W hm => rv_addN (p := k9) (q := 1) rfl rfl (by omega)) ?_
  refine wm ?_
  refine WM_nil ?_
  have hn45 := rng_next (R := (List DRow)) (body := (fun k (s : (List DRow)) => impl_copyRows_b1 x0 k s)) (k := k9) (s := d10) (s' := (d10 ++ [(gt x0 k9)])) (show k9 < x0.length from by omega) (show impl_copyRows_b1 x0 k9 d10 = Sum.inr (d10 ++ [(gt x0 k9)]) from by unfold impl_copyRows_b1; exact rfl) hF14
  exact QM_round (k9 + 1, (d10 ++ [(gt x0 k9)]), (A41, c42)) (subL_cons rfl (subL_cons rfl (subL_cons rfl (subL_cons rfl subL_nil)))) (fun W hm => (hm.pick [0] (by decide))) ⟨(by omega), hn45, (show (d10 ++ [(gt x0 k9)]).length ≤ 0 + (k9 + 1) from by first | omega | (simp only [List.length_append, List.length_cons, List.length_nil] at *; omega))⟩ (show x0.length - (k9 + 1) < x0.length - k9 from by omega)
 ·have g18 : (decide (((k9 : Nat) : Int) < ((x0.length : Nat) : Int))) = false := decide_eq_false (by omega)
  refine CM_condF rfl g18 ?_
  refine CM_exit ?_
  refine QM_then_exit ?_
  refine QM_then_exit ?_
  have hE46 : rng (R := (List DRow)) (fun k (s : (List DRow)) => impl_copyRows_b1 x0 k s) (x0.length - 0) 0 [] = Sum.inr d10 := rng_end hl17 hF14
  refine QM_block_hit ?_
  refine QM_then ?_
  refine sr ?_
  refine wm ?_
  refine wa ?_
  refine nt' ?_
  refine CM_ret ?_
  refine QM_r1 rfl (RR_tmp rfl) (fun W hm => ⟨.slice A11 d10.length c12, ?_, ?_⟩)
  ·first | rw [(show impl_copyRows_m x0 = d10 from by unfold impl_copyRows_m; exact fin_inr hE46 (rfl))] | rfl
  ·rw [(show impl_copyRows_m x0 = d10 from by unfold impl_copyRows_m; exact fin_inr hE46 (rfl))]; exact hm
theorem impl_copyRows_eq (x0 : (List DRow)) : impl_copyRows_m x0 = x0 := by
 unfold impl_copyRows_m; rw [rng_app (xs := x0) (b := fun k s => impl_copyRows_b1 x0 k s) (fun _ _ => rfl)]; rfl
theorem impl_copyRows_c2 (w : World) (z0 : Value) (x0 : (List DRow)) (r_0 : rdS tyRow w w.heap.size z0 x0) (s_0 : (x0.length ≤ 68719476736 ∧ ∀ y ∈ x0, smRow 68719476736 y)) :
  Calls Try.prog 124 #[z0] w fun e w' => ∃ v : Value, e = .returned (v) ∧ Mem w.heap.size w [iOwn (tSl tyRow 69) [v] x0] w' := by
 have h := impl_copyRows_c w z0 x0 r_0 s_0
 rw [impl_copyRows_eq] at h
 exact h

def cmp_isNaN_int_m (x0 : Int) : Bool :=
 (x0 != x0)
set_option maxRecDepth 100000 in
theorem cb134 : Cb Try.prog 134 := ⟨Try.f134, _, Try.func134, rfl, by decide⟩
set_option maxRecDepth 10000 in
set_option maxHeartbeats 4000000 in
theorem cmp_isNaN_int_c (w : World) (x0 : Int) :
  Calls Try.prog 134 #[.int .i64 x0] w fun e w' => e = .returned (.bool (cmp_isNaN_int_m x0)) ∧ Below w.heap.size w w' := by
 refine call_enterM (L := [(0, .int .i64 x0)]) (N := 6) Try.func134 rfl rfl (Nat.le_of_ble_eq_true rfl) (argsL_cons rfl argsL_nil) ?_
 refine sr ?_
 refine wa ?_
 refine nt' ?_
 refine sr ?_
 refine wm ?_
 refine wm ?_
 refine wv (fun W hm => rv_neq rfl rfl) ?_
 refine wa ?_
 refine nt' ?_
 refine CM_ret ?_
 exact QM_ret1 rfl rfl (fun W hm => ⟨ret_b (show cmp_isNaN_int_m x0 = (x0 != x0) from by unfold cmp_isNaN_int_m; exact rfl), hm.below⟩)

def cmp_Compare_int_m (x0 : Int) (x1 : Int) : Int :=
 cond (cmp_isNaN_int_m x0) (cond (cmp_isNaN_int_m x1) 0 (-1)) (cond (cmp_isNaN_int_m x1) 1 (cond (decide (x0 < x1)) (-1) (cond (decide (x1 < x0)) 1 0)))
set_option maxRecDepth 100000 in
theorem cb122 : Cb Try.prog 122 := ⟨Try.f122, _, Try.func122, rfl, by decide⟩
set_option maxRecDepth 10000 in
set_option maxHeartbeats 4000000 in
theorem cmp_Compare_int_c (w : World) (x0 : Int) (x1 : Int) :
  Calls Try.prog 122 #[.int .i64 x0, .int .i64 x1] w fun e w' => e = .returned (.int .i64 (cmp_Compare_int_m x0 x1)) ∧ Below w.heap.size w w' := by
 refine call_enterM (L := [(0, .int .i64 x0), (1, .int .i64 x1)]) (N := 20) Try.func122 rfl rfl (Nat.le_of_ble_eq_true rfl) (argsL_cons rfl (argsL_cons rfl argsL_nil)) ?_
 refine sr ?_
 refine wa ?_
 refine nt' ?_
 refine sr ?_
 refine wm ?_
 refine WM_callV (cl_fn cb134 rfl) (fun W hm => cmp_isNaN_int_c W x0) (Wd_none rfl) (by decide) ?_
 refine wa ?_
 refine nt' ?_
 refine sr ?_
 refine wm ?_
 refine WM_callV (cl_fn cb134 rfl) (fun W hm => cmp_isNaN_int_c W x1) (Wd_none rfl) (by decide) ?_
 refine wa ?_
 refine nt' ?_
 refine CM_seq ?_
 refine sr ?_
 refine wm ?_
 refine nt' ?_
 rcases Bool.eq_false_or_eq_true (cmp_isNaN_int_m x0) with g2 | g2
 ·
  refine CM_condT rfl g2 ?_
  refine CM_seq ?_
  refine sr ?_
  refine wm ?_
  refine nt' ?_
  rcases Bool.eq_false_or_eq_true (cmp_isNaN_int_m x1) with g4 | g4
  ·
   refine CM_condT rfl g4 ?_
   refine sr ?_
   refine wa ?_
   refine nt' ?_
   refine CM_ret ?_
   refine QM_then_ret ?_
   refine QM_then_ret ?_
   exact QM_ret1 rfl rfl (fun W hm => ⟨ret_i (show cmp_Compare_int_m x0 x1 = 0 from by unfold cmp_Compare_int_m; exact cond_t g2 (cond_t g4 (rfl))), hm.below⟩)
  ·
   refine CM_condF rfl g4 ?_
   refine CM_skip ?_
   refine QM_then ?_
   refine sr ?_
   refine wa ?_
   refine nt' ?_
   refine CM_ret ?_
   refine QM_then_ret ?_
   exact QM_ret1 rfl rfl (fun W hm => ⟨ret_i (show cmp_Compare_int_m x0 x1 = (-1) from by unfold cmp_Compare_int_m; exact cond_t g2 (cond_f g4 (rfl))), hm.below⟩)
 ·
  refine CM_condF rfl g2 ?_
  refine CM_skip ?_
  refine QM_then ?_
  refine CM_seq ?_
  refine sr ?_
  refine wm ?_
  refine nt' ?_
  rcases Bool.eq_false_or_eq_true (cmp_isNaN_int_m x1) with g6 | g6
  ·
   refine CM_condT rfl g6 ?_
   refine sr ?_
   refine wa ?_
   refine nt' ?_
   refine CM_ret ?_
   refine QM_then_ret ?_
   exact QM_ret1 rfl rfl (fun W hm => ⟨ret_i (show cmp_Compare_int_m x0 x1 = 1 from by unfold cmp_Compare_int_m; exact cond_f g2 (cond_t g6 (rfl))), hm.below⟩)
  ·
   refine CM_condF rfl g6 ?_
   refine CM_skip ?_
   refine QM_then ?_
   refine CM_seq ?_
   refine sr ?_
   refine wm ?_
   refine wm ?_
   refine wv (fun W hm => rv_lss rfl rfl) ?_
   refine nt' ?_
   by_cases h7 : x0 < x1
   ·have g8 : (decide (x0 < x1)) = true := decide_eq_true h7
    refine CM_condT rfl g8 ?_
    refine sr ?_
    refine wa ?_
    refine nt' ?_
    refine CM_ret ?_
    refine QM_then_ret ?_
    exact QM_ret1 rfl rfl (fun W hm => ⟨ret_i (show cmp_Compare_int_m x0 x1 = (-1) from by unfold cmp_Compare_int_m; exact cond_f g2 (cond_f g6 (cond_t g8 (rfl)))), hm.below⟩)
   ·have g8 : (decide (x0 < x1)) = false := decide_eq_false h7
    refine CM_condF rfl g8 ?_
    refine CM_skip ?_
    refine QM_then ?_
    refine CM_seq ?_
    refine sr ?_
    refine wm ?_
    refine wm ?_
    refine wv (fun W hm => rv_gtr rfl rfl) ?_
    refine nt' ?_
    by_cases h9 : x1 < x0
    ·have g10 : (decide (x1 < x0)) = true := decide_eq_true h9
     refine CM_condT rfl g10 ?_
     refine sr ?_
     refine wa ?_
     refine nt' ?_
     refine CM_ret ?_
     refine QM_then_ret ?_
     exact QM_ret1 rfl rfl (fun W hm => ⟨ret_i (show cmp_Compare_int_m x0 x1 = 1 from by unfold cmp_Compare_int_m; exact cond_f g2 (cond_f g6 (cond_f g8 (cond_t g10 (rfl))))), hm.below⟩)
    ·have g10 : (decide (x1 < x0)) = false := decide_eq_false h9
     refine CM_condF rfl g10 ?_
     refine CM_skip ?_
     refine QM_then ?_
     refine sr ?_
     refine wa ?_
     refine nt' ?_
     refine CM_ret ?_
     exact QM_ret1 rfl rfl (fun W hm => ⟨ret_i (show cmp_Compare_int_m x0 x1 = 0 from by unfold cmp_Compare_int_m; exact cond_f g2 (cond_f g6 (cond_f g8 (cond_f g10 (rfl))))), hm.below⟩)

def slices_Compare_int_b1 (x0 : (List Int)) (x1 : (List Int)) (k11 : Nat) : Int ⊕ (Unit) :=
 cond (decide (((x1.length : Nat) : Int) ≤ ((k11 : Nat) : Int))) (Sum.inl 1) (cond ((cmp_Compare_int_m (gt x0 k11) (gt x1 k11)) != 0) (Sum.inl (cmp_Compare_int_m (gt x0 k11) (gt x1 k11))) (Sum.inr ()))
def slices_Compare_int_m (x0 : (List Int)) (x1 : (List Int)) : Int :=
 Sum.elim id (fun (s : Unit) => cond (decide (((x0.length : Nat) : Int) < ((x1.length : Nat) : Int))) (-1) 0) (rng (R := Int) (fun k (_ : Unit) => slices_Compare_int_b1 x0 x1 k) (x0.length - 0) 0 ())
set_option maxRecDepth 100000 in
theorem cb127 : Cb Try.prog 127 := ⟨Try.f127, _, Try.func127, rfl, by decide⟩
set_option maxRecDepth 10000 in
set_option maxHeartbeats 4000000 in
theorem slices_Compare_int_c (w : World) (z0 : Value) (x0 : (List Int)) (z1 : Value) (x1 : (List Int)) (r_0 : rdS tInt w w.heap.size z0 x0) (r_1 : rdS tInt w w.heap.size z1 x1) :
  Calls Try.prog 127 #[z0, z1] w fun e w' => e = .returned (.int .i64 (slices_Compare_int_m x0 x1)) ∧ Below w.heap.size w w' := by
 have r5 := r_0
 obtain ⟨m1, A2, c3, rfl, q4⟩ := r_0
 have r10 := r_1
 obtain ⟨m6, A7, c8, rfl, q9⟩ := r_1
 refine call_enterM (L := [(0, .slice A2 x0.length c3), (1, .slice A7 x1.length c8)]) (N := 36) Try.func127 rfl rfl (Nat.le_of_ble_eq_true rfl) (argsL_cons rfl (argsL_cons rfl argsL_nil)) ?_
 refine sr ?_
 refine wa ?_
 refine nt' ?_
 refine CM_seq ?_
 refine sr ?_
 refine wm ?_
 refine wv (fun W hm => rv_len Try.underlying33 rfl) ?_
 refine wm ?_
 refine nt' ?_
 refine CM_block ?_
 refine CM_loop (σ := Nat × (Unit) × (Unit)) (fun s => [(0, .slice A2 x0.length c3), (1, .slice A7 x1.length c8), (9, .slice A2 x0.length c3), (10, .int .i64 ((x0.length : Nat) : Int)), (11, .int .i64 ((s.1 : Nat) : Int))]) (fun s => []) (fun s => s.1 ≤ x0.length ∧ rng (R := Int) (fun k (_ : Unit) => slices_Compare_int_b1 x0 x1 k) (x0.length - s.1) s.1 s.2.1 = rng (R := Int) (fun k (_ : Unit) => slices_Compare_int_b1 x0 x1 k) (x0.length - 0) 0 ()) (fun s => x0.length - s.1) (0, (), ()) (subL_cons rfl (subL_cons rfl (subL_cons rfl (subL_cons rfl (subL_cons rfl subL_nil))))) (fun W hm => hm) ⟨(by omega), rfl⟩ ?_
 rintro ⟨k11, ⟨⟩, ⟨⟩⟩ H14
 obtain ⟨hk12, hF13⟩ : k11 ≤ x0.length ∧ rng (R := Int) (fun k (_ : Unit) => slices_Compare_int_b1 x0 x1 k) (x0.length - k11) k11 () = rng (R := Int) (fun k (_ : Unit) => slices_Compare_int_b1 x0 x1 k) (x0.length - 0) 0 () := H14
 show CM Try.prog 36 _ _ _ _ [(0, .slice A2 x0.length c3), (1, .slice A7 x1.length c8), (9, .slice A2 x0.length c3), (10, .int .i64 ((x0.length : Nat) : Int)), (11, .int .i64 ((k11 : Nat) : Int))] []
 refine sr ?_
 refine wv (fun W hm => rv_lss rfl rfl) ?_
 refine nt' ?_
 refine CM_seq ?_
 by_cases hl15 : k11 < x0.length
 ·have g16 : (decide (((k11 : Nat) : Int) < ((x0.length : Nat) : Int))) = true := decide_eq_true (by omega)
  refine CM_condT rfl g16 ?_
  refine CM_skip ?_
  refine QM_then ?_
  refine CM_seq ?_
  refine CM_block ?_
  refine sr ?_
  refine wm ?_
  obtain ⟨a17, rfl, hb18, he19⟩ := q4 (by omega)
  refine wv (fun W hm => rv_index (sz := 1) (k := k11) Try.underlying33 Try.type3 rfl rfl rfl (by omega)) ?_
  refine wv (fun W hm => rv_load Try.underlying3 rfl rfl ((hm.cell0 (show (a17.add (k11 * 1)).block < w.heap.size from by rw [add_block]; exact hb18.1)).trans (rdS_int he19 k11 (by omega)))) ?_
  refine wa ?_
  refine wa ?_
  refine nt' ?_
  refine CM_seq ?_
  refine sr ?_
  refine wm ?_
  refine wm ?_
  refine wv (fun W hm => rv_len Try.underlying33 rfl) ?_
  refine wv (fun W hm => rv_geq rfl rfl) ?_
  refine nt' ?_
  by_cases h20 : ((x1.length : Nat) : Int) ≤ ((k11 : Nat) : Int)
  ·have g21 : (decide (((x1.length : Nat) : Int) ≤ ((k11 : Nat) : Int))) = true := decide_eq_true h20
   refine CM_condT rfl g21 ?_
   refine sr ?_
   refine wa ?_
   refine nt' ?_
   refine CM_ret ?_
   refine QM_then_ret ?_
   refine QM_block_ret ?_
   refine QM_then_ret ?_
   refine QM_then_ret ?_
   refine QM_block_ret ?_
   refine QM_then_ret ?_
   exact QM_ret1 rfl rfl (fun W hm => ⟨ret_i (show slices_Compare_int_m x0 x1 = 1 from by unfold slices_Compare_int_m; exact fin_inl (rng_ret (body := (fun k (_ : Unit) => slices_Compare_int_b1 x0 x1 k)) (k := k11) (s := ()) (show k11 < x0.length from by omega) (show slices_Compare_int_b1 x0 x1 k11 = Sum.inl 1 from by unfold slices_Compare_int_b1; exact cond_t g21 (rfl)) hF13) rfl), hm.below⟩)
  ·have g21 : (decide (((x1.length : Nat) : Int) ≤ ((k11 : Nat) : Int))) = false := decide_eq_false h20
   refine CM_condF rfl g21 ?_
   refine CM_skip ?_
   refine QM_then ?_
   refine sr ?_
   refine wm ?_
   refine wm ?_
   obtain ⟨a22, rfl, hb23, he24⟩ := q9 (by omega)
   refine wv (fun W hm => rv_index (sz := 1) (k := k11) Try.underlying33 Try.type3 rfl rfl rfl (by omega)) ?_
   refine wv (fun W hm => rv_load Try.underlying3 rfl rfl ((hm.cell0 (show (a22.add (k11 * 1)).block < w.heap.size from by rw [add_block]; exact hb23.1)).trans (rdS_int he24 k11 (by omega)))) ?_
   refine wa ?_
   refine nt' ?_
   refine sr ?_
   refine wm ?_
   refine wm ?_
   refine WM_callV (cl_fn cb122 rfl) (fun W hm => cmp_Compare_int_c W (gt x0 k11) (gt x1 k11)) (Wd_none rfl) (by decide) ?_
   refine wa ?_
   refine nt' ?_
   refine sr ?_
   refine wm ?_
   refine wv (fun W hm => rv_neq rfl rfl) ?_
   refine nt' ?_
   by_cases h25 : (cmp_Compare_int_m (gt x0 k11) (gt x1 k11)) = 0
   ·have g26 : ((cmp_Compare_int_m (gt x0 k11) (gt x1 k11)) != 0) = false := by rw [h25]; exact bne_self_eq_false _
    refine CM_condF rfl g26 ?_
    refine CM_skip ?_
    refine QM_block_normal ?_
    refine QM_then ?_
    refine CM_region ?_
    refine wv (fun W hm => rv_addN (p := k11) (q := 1) rfl rfl (by omega)) ?_
    refine wm ?_
    refine WM_nil ?_
    have hn27 := rng_next (R := Int) (body := (fun k (_ : Unit) => slices_Compare_int_b1 x0 x1 k)) (k := k11) (s := ()) (s' := ()) (show k11 < x0.length from by omega) (show slices_Compare_int_b1 x0 x1 k11 = Sum.inr () from by unfold slices_Compare_int_b1; exact cond_f g21 (cond_f g26 (rfl))) hF13
    exact QM_round (k11 + 1, (), ()) (subL_cons rfl (subL_cons rfl (subL_cons rfl (subL_cons rfl (subL_cons rfl subL_nil))))) (fun W hm => hm) ⟨(by omega), hn27⟩ (show x0.length - (k11 + 1) < x0.length - k11 from by omega)
   ·have g26 : ((cmp_Compare_int_m (gt x0 k11) (gt x1 k11)) != 0) = true := bne_iff_ne.2 h25
    refine CM_condT rfl g26 ?_
    refine sr ?_
    refine wm ?_
    refine wa ?_
    refine nt' ?_
    refine CM_ret ?_
    refine QM_block_ret ?_
    refine QM_then_ret ?_
    refine QM_then_ret ?_
    refine QM_block_ret ?_
    refine QM_then_ret ?_
    exact QM_ret1 rfl rfl (fun W hm => ⟨ret_i (show slices_Compare_int_m x0 x1 = (cmp_Compare_int_m (gt x0 k11) (gt x1 k11)) from by unfold slices_Compare_int_m; exact fin_inl (rng_ret (body := (fun k (_ : Unit) => slices_Compare_int_b1 x0 x1 k)) (k := k11) (s := ()) (show k11 < x0.length from by omega) (show slices_Compare_int_b1 x0 x1 k11 = Sum.inl (cmp_Compare_int_m (gt x0 k11) (gt x1 k11)) from by unfold slices_Compare_int_b1; exact cond_f g21 (cond_t g26 (rfl))) hF13) rfl), hm.below⟩)
 ·have g16 : (decide (((k11 : Nat) : Int) < ((x0.length : Nat) : Int))) = false := decide_eq_false (by omega)
  refine CM_condF rfl g16 ?_
  refine CM_exit ?_
  refine QM_then_exit ?_
  refine QM_then_exit ?_
  have hE28 : rng (R := Int) (fun k (_ : Unit) => slices_Compare_int_b1 x0 x1 k) (x0.length - 0) 0 () = Sum.inr () := rng_end hl15 hF13
  refine QM_block_hit ?_
  refine QM_then ?_
  refine CM_seq ?_
  refine sr ?_
  refine wm ?_
  refine wv (fun W hm => rv_len Try.underlying33 rfl) ?_
  refine wm ?_
  refine wv (fun W hm => rv_len Try.underlying33 rfl) ?_
  refine wv (fun W hm => rv_lss rfl rfl) ?_
  refine nt' ?_
  by_cases h29 : ((x0.length : Nat) : Int) < ((x1.length : Nat) : Int)
  ·have g30 : (decide (((x0.length : Nat) : Int) < ((x1.length : Nat) : Int))) = true := decide_eq_true h29
   refine CM_condT rfl g30 ?_
   refine sr ?_
   refine wa ?_
   refine nt' ?_
   refine CM_ret ?_
   refine QM_then_ret ?_
   exact QM_ret1 rfl rfl (fun W hm => ⟨ret_i (show slices_Compare_int_m x0 x1 = (-1) from by unfold slices_Compare_int_m; exact fin_inr hE28 (cond_t g30 (rfl))), hm.below⟩)
  ·have g30 : (decide (((x0.length : Nat) : Int) < ((x1.length : Nat) : Int))) = false := decide_eq_false h29
   refine CM_condF rfl g30 ?_
   refine CM_skip ?_
   refine QM_then ?_
   refine sr ?_
   refine wa ?_
   refine nt' ?_
   refine CM_ret ?_
   exact QM_ret1 rfl rfl (fun W hm => ⟨ret_i (show slices_Compare_int_m x0 x1 = 0 from by unfold slices_Compare_int_m; exact fin_inr hE28 (cond_f g30 (rfl))), hm.below⟩)

def impl_SortRows_1_m (x0 : DRow) (x1 : DRow) : Int :=
 cond (decide (x0.Id < x1.Id)) (-1) (cond (decide (x1.Id < x0.Id)) 1 (slices_Compare_int_m x0.Values x1.Values))
set_option maxRecDepth 100000 in
theorem cb126 : Cb Try.prog 126 := ⟨Try.f126, _, Try.func126, rfl, by decide⟩
set_option maxRecDepth 10000 in
set_option maxHeartbeats 4000000 in
theorem impl_SortRows_1_c (w : World) (z0 : List Value) (x0 : DRow) (z1 : List Value) (x1 : DRow) (r_0 : tyRow.rd w w.heap.size z0 x0) (r_1 : tyRow.rd w w.heap.size z1 x1) :
  Calls Try.prog 126 #[.agg z0.toArray, .agg z1.toArray] w fun e w' => e = .returned (.int .i64 (impl_SortRows_1_m x0 x1)) ∧ Below w.heap.size w w' := by
 obtain ⟨v1, rfl, r2⟩ := tyRow_rd r_0
 have r7 := r2
 obtain ⟨m3, A4, c5, rfl, q6⟩ := r2
 obtain ⟨v8, rfl, r9⟩ := tyRow_rd r_1
 have r14 := r9
 obtain ⟨m10, A11, c12, rfl, q13⟩ := r9
 refine call_enterM (L := [(0, .agg #[.int .i64 x0.Id, .slice A4 x0.Values.length c5]), (1, .agg #[.int .i64 x1.Id, .slice A11 x1.Values.length c12])]) (N := 22) Try.func126 rfl rfl (Nat.le_of_ble_eq_true rfl) (argsL_cons rfl (argsL_cons rfl argsL_nil)) ?_
 refine sr ?_
 refine WM_box rfl (Wd_none rfl) (by decide) (fun p15 => ?_)
 refine WM_box rfl (Wd_none rfl) (by decide) (fun p16 => ?_)
 refine wa ?_
 refine nt' ?_
 refine CM_seq ?_
 refine CM_block ?_
 refine sr ?_
 refine wv (fun W hm => rv_field Try.underlying69 rfl Try.type3 (by decide) rfl rfl) ?_
 refine wv (fun W hm => rv_load Try.underlying3 rfl rfl (hm.boxCell (n := 1) (o := 0) rfl rfl)) ?_
 refine wv (fun W hm => rv_field Try.underlying69 rfl Try.type3 (by decide) rfl rfl) ?_
 refine wv (fun W hm => rv_load Try.underlying3 rfl rfl (hm.boxCell (n := 0) (o := 0) rfl rfl)) ?_
 refine wv (fun W hm => rv_lss rfl rfl) ?_
 refine wa ?_
 refine nt' ?_
 by_cases h17 : x0.Id < x1.Id
 ·have g18 : (decide (x0.Id < x1.Id)) = true := decide_eq_true h17
  refine CM_condT rfl g18 ?_
  refine sr ?_
  refine wa ?_
  refine nt' ?_
  refine CM_ret ?_
  refine QM_block_ret ?_
  refine QM_then_ret ?_
  exact QM_ret1 rfl rfl (fun W hm => ⟨ret_i (show impl_SortRows_1_m x0 x1 = (-1) from by unfold impl_SortRows_1_m; exact cond_t g18 (rfl)), hm.below⟩)
 ·have g18 : (decide (x0.Id < x1.Id)) = false := decide_eq_false h17
  refine CM_condF rfl g18 ?_
  refine sr ?_
  refine wv (fun W hm => rv_field Try.underlying69 rfl Try.type3 (by decide) rfl rfl) ?_
  refine wv (fun W hm => rv_load Try.underlying3 rfl rfl (hm.boxCell (n := 1) (o := 0) rfl rfl)) ?_
  refine wv (fun W hm => rv_field Try.underlying69 rfl Try.type3 (by decide) rfl rfl) ?_
  refine wv (fun W hm => rv_load Try.underlying3 rfl rfl (hm.boxCell (n := 0) (o := 0) rfl rfl)) ?_
  refine wv (fun W hm => rv_gtr rfl rfl) ?_
  refine wa ?_
  refine nt' ?_
  by_cases h19 : x1.Id < x0.Id
  ·have g20 : (decide (x1.Id < x0.Id)) = true := decide_eq_true h19
   refine CM_condT rfl g20 ?_
   refine sr ?_
   refine wa ?_
   refine nt' ?_
   refine CM_ret ?_
   refine QM_block_ret ?_
   refine QM_then_ret ?_
   exact QM_ret1 rfl rfl (fun W hm => ⟨ret_i (show impl_SortRows_1_m x0 x1 = 1 from by unfold impl_SortRows_1_m; exact cond_f g18 (cond_t g20 (rfl))), hm.below⟩)
  ·have g20 : (decide (x1.Id < x0.Id)) = false := decide_eq_false h19
   refine CM_condF rfl g20 ?_
   refine CM_skip ?_
   refine QM_block_normal ?_
   refine QM_then ?_
   refine sr ?_
   refine wv (fun W hm => rv_field Try.underlying69 rfl Try.type33 (by decide) rfl rfl) ?_
   refine wv (fun W hm => rv_load Try.underlying33 rfl rfl (hm.boxCell (n := 1) (o := 1) rfl rfl)) ?_
   refine wv (fun W hm => rv_field Try.underlying69 rfl Try.type33 (by decide) rfl rfl) ?_
   refine wv (fun W hm => rv_load Try.underlying33 rfl rfl (hm.boxCell (n := 0) (o := 1) rfl rfl)) ?_
   refine WM_callV (cl_fn cb127 rfl) (fun W hm => slices_Compare_int_c W _ x0.Values _ x1.Values (hm.rdS0 r7) (hm.rdS0 r14)) (Wd_none rfl) (by decide) ?_
   refine wa ?_
   refine nt' ?_
   refine CM_ret ?_
   exact QM_ret1 rfl rfl (fun W hm => ⟨ret_i (show impl_SortRows_1_m x0 x1 = (slices_Compare_int_m x0.Values x1.Values) from by unfold impl_SortRows_1_m; exact cond_f g18 (cond_f g20 (rfl))), hm.below⟩)

set_option maxRecDepth 100000 in
theorem cb142 : Cb Try.prog 142 := ⟨Try.f142, _, Try.func142, rfl, by decide⟩
set_option maxRecDepth 10000 in
set_option maxHeartbeats 4000000 in
theorem srt125_swr_c {α : Type} [Inhabited α] (K : Ck α) (hK : K.s = 2) (cf : α → α → Int) (fc : FuncId) (B : Nat) (w0 : World) (is : List It) (H : CmpOk Try.prog fc K B w0 is cf) (A : Option Addr) (n c : Nat) (hn : n ≤ 68719476736) (a : Nat) (b : Nat) (k : Nat) (xs : List (List Value × α)) (h1 : a + k ≤ n) (h2 : b + k ≤ n) (w : World) (hm : Mem B w0 (iOwn (tSl (tCk K) 69) [.slice A n c] xs :: is) w) :
  Calls Try.prog 142 #[.slice A n c, .int .i64 ((a : Nat) : Int), .int .i64 ((b : Nat) : Int), .int .i64 ((k : Nat) : Int), .func (.func fc) #[] #[]] w fun e w' => e = .returned (.tuple #[]) ∧ Mem B w0 (iOwn (tSl (tCk K) 69) [.slice A n c] (swr k a b xs) :: is) w' := by
 refine call_enterW (L := [(0, .slice A n c), (1, .int .i64 ((a : Nat) : Int)), (2, .int .i64 ((b : Nat) : Int)), (3, .int .i64 ((k : Nat) : Int)), (4, .func (.func fc) #[] #[])]) (N := 38) Try.func142 rfl rfl (Nat.le_of_ble_eq_true rfl) (argsL_cons rfl (argsL_cons rfl (argsL_cons rfl (argsL_cons rfl (argsL_cons rfl argsL_nil))))) hm ?_
 refine sr ?_
 refine wa ?_
 refine nt' ?_
 refine CM_block ?_
 refine CM_loop (σ := Nat × List (List Value × α)) (fun s => [(0, .slice A n c), (1, .int .i64 ((a : Nat) : Int)), (2, .int .i64 ((b : Nat) : Int)), (3, .int .i64 ((k : Nat) : Int)), (10, .int .i64 ((s.1 : Nat) : Int))]) (fun s => (iOwn (tSl (tCk K) 69) [.slice A n c] s.2 :: is)) (fun s => swr (k - s.1) (a + s.1) (b + s.1) s.2 = swr k a b xs ∧ s.1 ≤ k) (fun s => k - s.1) (0, xs) (subL_cons rfl (subL_cons rfl (subL_cons rfl (subL_cons rfl (subL_cons rfl subL_nil))))) (fun W hm => hm) ⟨(show swr (k - 0) (a + 0) (b + 0) xs = swr k a b xs from rfl), (show 0 ≤ k from by omega)⟩ ?_
 rintro ⟨i, d⟩ H1
 obtain ⟨hF, hi⟩ : swr (k - i) (a + i) (b + i) d = swr k a b xs ∧ i ≤ k := H1
 show CM Try.prog 38 _ _ _ _ [(0, .slice A n c), (1, .int .i64 ((a : Nat) : Int)), (2, .int .i64 ((b : Nat) : Int)), (3, .int .i64 ((k : Nat) : Int)), (10, .int .i64 ((i : Nat) : Int))] (iOwn (tSl (tCk K) 69) [.slice A n c] d :: is)
 refine CM_seq ?_
 refine sr ?_
 refine wm ?_
 refine wm ?_
 refine wv (fun W hm => rv_lss rfl rfl) ?_
 refine nt' ?_
 by_cases h2 : ((i : Nat) : Int) < ((k : Nat) : Int)
 ·have g3 : (decide (((i : Nat) : Int) < ((k : Nat) : Int))) = true := decide_eq_true h2
  refine CM_condT rfl g3 ?_
  refine CM_skip ?_
  refine QM_then ?_
  refine CM_seq ?_
  refine CM_block ?_
  refine CM_formO (n := 0) rfl (by omega) ?_
  rintro g5 rfl
  refine CM_ck ?_
  intro hR4
  refine CM_cut (σ := Unit) (fun _ => [(0, .slice (some ⟨g5, 0, none⟩) n c), (1, .int .i64 ((a : Nat) : Int)), (2, .int .i64 ((b : Nat) : Int)), (3, .int .i64 ((k : Nat) : Int)), (10, .int .i64 ((i : Nat) : Int))]) (fun _ => (iOwn (tSl (tCk K) 69) [.slice (some ⟨g5, 0, none⟩) n c] ((d.set (a + i) (gt d (b + i))).set (b + i) (gt d (a + i))) :: is)) (fun _ => True) ?_ ?_
  ·
   refine rb 24 (s := (is)) (fun W hm => (hm).tail) ?_
   refine qt 24 0 1 rfl (fun W hm => rv_move rfl) ?_
   refine qt 24 1 3 rfl (fun W hm => rv_move rfl) ?_
   refine qt 24 2 7 rfl (fun W hm => rv_move rfl) ?_
   refine qt 24 3 15 rfl (fun W hm => rv_addN (p := a) (q := i) rfl rfl (by omega)) ?_
   refine qt 24 4 31 rfl (fun W hm => rv_move rfl) ?_
   refine qt 24 5 63 rfl (fun W hm => rv_move rfl) ?_
   refine qt 24 6 127 rfl (fun W hm => rv_move rfl) ?_
   refine qt 24 7 255 rfl (fun W hm => rv_addN (p := b) (q := i) rfl rfl (by omega)) ?_
   refine qt 24 8 511 rfl (fun W hm => rv_move rfl) ?_
   refine qt 24 9 1023 rfl (fun W hm => rv_move rfl) ?_
   refine qt 24 10 2047 rfl (fun W hm => rv_move rfl) ?_
   refine qt 24 11 4095 rfl (fun W hm => rv_addN (p := b) (q := i) rfl rfl (by omega)) ?_
   refine qt 24 12 8191 rfl (fun W hm => rv_index (sz := K.s) (k := b + i) Try.underlying24 Try.type69 hK.symm rfl rfl (by omega)) ?_
   refine qt 24 14 24575 rfl (fun W hm => rv_move rfl) ?_
   refine qt 24 15 57343 rfl (fun W hm => rv_move rfl) ?_
   refine qt 24 16 122879 rfl (fun W hm => rv_move rfl) ?_
   refine qt 24 17 253951 rfl (fun W hm => rv_addN (p := a) (q := i) rfl rfl (by omega)) ?_
   refine qt 24 18 516095 rfl (fun W hm => rv_index (sz := K.s) (k := a + i) Try.underlying24 Try.type69 hK.symm rfl rfl (by omega)) ?_
   refine qa [13, 19] ?_
   refine qc 24 524287 rfl ?_ ?_
   ·
    refine wv (fun W hm => rv_loadCk Try.underlying69 Try.type69 hK.symm rfl hm (by omega)) ?_
    refine qn (fun W hm => (hm).tail) ?_
    refine qo 24 19 1048575 rfl ?_
    refine wv (fun W hm => rv_loadCk Try.underlying69 Try.type69 hK.symm rfl hm (by omega)) ?_
    refine qn (fun W hm => (hm).tail) ?_
    refine qt 24 20 2097151 rfl (fun W hm => rv_index (sz := K.s) (k := a + i) Try.underlying24 Try.type69 hK.symm rfl rfl (by omega)) ?_
    refine qo 24 21 4194303 rfl ?_
    refine WM_setEl (E := tCk K) (e := 69) (u := .agg (gt d (b + i)).1.toArray) (k := (a + i)) (p := g5) (n := n) (xs := d) (eis := []) (js := is) (yv := (gt d (b + i))) (fun W hm => hm) (fun _ _ hs => ⟨hs, rfl, (hR4 (b + i) (by omega))⟩) rfl Try.type69 hK.symm (by omega) rfl rfl (Wd_none rfl) ?_
    refine qn (fun W hm => (hm).tail) ?_
    refine qt 24 22 8388607 rfl (fun W hm => rv_index (sz := K.s) (k := b + i) Try.underlying24 Try.type69 hK.symm rfl rfl (by omega)) ?_
    refine qo 24 23 16777215 rfl ?_
    refine WM_setEl (E := tCk K) (e := 69) (u := .agg (gt d (a + i)).1.toArray) (k := (b + i)) (p := g5) (n := n) (xs := (d.set (a + i) (gt d (b + i)))) (eis := []) (js := is) (yv := (gt d (a + i))) (fun W hm => hm) (fun _ _ hs => ⟨hs, rfl, (hR4 (a + i) (by omega))⟩) rfl Try.type69 hK.symm (by omega) rfl rfl (Wd_none rfl) ?_
    refine qn (fun W hm => (hm).tail) ?_
    refine QB_done (by kernel_rfl) ?_
    exact QM_cut_normal () (subL_cons rfl (subL_cons rfl (subL_cons rfl (subL_cons rfl (subL_cons rfl subL_nil))))) (fun W hm => hm) trivial
   refine qc 24 1040383 rfl ?_ ?_
   ·
    refine wv (fun W hm => rv_loadCk Try.underlying69 Try.type69 hK.symm rfl hm (by omega)) ?_
    refine qn (fun W hm => (hm).tail) ?_
    refine qo 24 13 1048575 rfl ?_
    refine wv (fun W hm => rv_loadCk Try.underlying69 Try.type69 hK.symm rfl hm (by omega)) ?_
    refine qn (fun W hm => (hm).tail) ?_
    refine qt 24 20 2097151 rfl (fun W hm => rv_index (sz := K.s) (k := a + i) Try.underlying24 Try.type69 hK.symm rfl rfl (by omega)) ?_
    refine qo 24 21 4194303 rfl ?_
    refine WM_setEl (E := tCk K) (e := 69) (u := .agg (gt d (b + i)).1.toArray) (k := (a + i)) (p := g5) (n := n) (xs := d) (eis := []) (js := is) (yv := (gt d (b + i))) (fun W hm => hm) (fun _ _ hs => ⟨hs, rfl, (hR4 (b + i) (by omega))⟩) rfl Try.type69 hK.symm (by omega) rfl rfl (Wd_none rfl) ?_
    refine qn (fun W hm => (hm).tail) ?_
    refine qt 24 22 8388607 rfl (fun W hm => rv_index (sz := K.s) (k := b + i) Try.underlying24 Try.type69 hK.symm rfl rfl (by omega)) ?_
    refine qo 24 23 16777215 rfl ?_
    refine WM_setEl (E := tCk K) (e := 69) (u := .agg (gt d (a + i)).1.toArray) (k := (b + i)) (p := g5) (n := n) (xs := (d.set (a + i) (gt d (b + i)))) (eis := []) (js := is) (yv := (gt d (a + i))) (fun W hm => hm) (fun _ _ hs => ⟨hs, rfl, (hR4 (a + i) (by omega))⟩) rfl Try.type69 hK.symm (by omega) rfl rfl (Wd_none rfl) ?_
    refine qn (fun W hm => (hm).tail) ?_
    refine QB_done (by kernel_rfl) ?_
    exact QM_cut_normal () (subL_cons rfl (subL_cons rfl (subL_cons rfl (subL_cons rfl (subL_cons rfl subL_nil))))) (fun W hm => hm) trivial
   exact QBs_nil
  ·
   rintro ⟨⟩ -
   show QM 38 _ _ _ .normal [(0, .slice (some ⟨g5, 0, none⟩) n c), (1, .int .i64 ((a : Nat) : Int)), (2, .int .i64 ((b : Nat) : Int)), (3, .int .i64 ((k : Nat) : Int)), (10, .int .i64 ((i : Nat) : Int))] (iOwn (tSl (tCk K) 69) [.slice (some ⟨g5, 0, none⟩) n c] ((d.set (a + i) (gt d (b + i))).set (b + i) (gt d (a + i))) :: is)
   refine QM_block_normal ?_
   refine QM_then ?_
   refine CM_region ?_
   refine wm ?_
   refine wv (fun W hm => rv_addN (p := i) (q := 1) rfl rfl (by omega)) ?_
   refine wa ?_
   refine WM_nil ?_
   exact QM_round (i + 1, ((d.set (a + i) (gt d (b + i))).set (b + i) (gt d (a + i)))) (subL_cons rfl (subL_cons rfl (subL_cons rfl (subL_cons rfl (subL_cons rfl subL_nil))))) (fun W hm => hm) ⟨(show swr (k - (i + 1)) (a + (i + 1)) (b + (i + 1)) ((d.set (a + i) (gt d (b + i))).set (b + i) (gt d (a + i))) = swr k a b xs from (swr_step (by omega)).symm.trans hF), (show (i + 1) ≤ k from by omega)⟩ (show k - (i + 1) < k - i from by omega)
 ·have g3 : (decide (((i : Nat) : Int) < ((k : Nat) : Int))) = false := decide_eq_false h2
  refine CM_condF rfl g3 ?_
  refine CM_exit ?_
  refine QM_then_exit ?_
  refine QM_then_exit ?_
  refine QM_block_hit ?_
  have hE : swr k a b xs = d := ((swr_end (by omega)).symm.trans hF).symm
  exact QM_ret0 rfl (fun W hm => ⟨rfl, by rw [hE]; exact hm⟩)

set_option maxRecDepth 100000 in
theorem cb138 : Cb Try.prog 138 := ⟨Try.f138, _, Try.func138, rfl, by decide⟩
set_option maxRecDepth 10000 in
set_option maxHeartbeats 4000000 in
theorem srt125_ins_c {α : Type} [Inhabited α] (K : Ck α) (hK : K.s = 2) (cf : α → α → Int) (fc : FuncId) (B : Nat) (w0 : World) (is : List It) (H : CmpOk Try.prog fc K B w0 is cf) (A : Option Addr) (n c : Nat) (hn : n ≤ 68719476736) (a : Nat) (b : Nat) (xs : List (List Value × α)) (h1 : a ≤ n) (h2 : b ≤ n) (w : World) (hm : Mem B w0 (iOwn (tSl (tCk K) 69) [.slice A n c] xs :: is) w) :
  Calls Try.prog 138 #[.slice A n c, .int .i64 ((a : Nat) : Int), .int .i64 ((b : Nat) : Int), .func (.func fc) #[] #[]] w fun e w' => e = .returned (.tuple #[]) ∧ Mem B w0 (iOwn (tSl (tCk K) 69) [.slice A n c] (insL (ltc cf) a (b - a - 1) (a + 1) xs) :: is) w' := by
 refine call_enterW (L := [(0, .slice A n c), (1, .int .i64 ((a : Nat) : Int)), (2, .int .i64 ((b : Nat) : Int)), (3, .func (.func fc) #[] #[])]) (N := 53) Try.func138 rfl rfl (Nat.le_of_ble_eq_true rfl) (argsL_cons rfl (argsL_cons rfl (argsL_cons rfl (argsL_cons rfl argsL_nil)))) hm ?_
 refine sr ?_
 refine wm ?_
 refine wv (fun W hm => rv_addN (p := a) (q := 1) rfl rfl (by omega)) ?_
 refine wa ?_
 refine nt' ?_
 refine CM_block ?_
 refine CM_loop (σ := Nat × List (List Value × α)) (fun s => [(0, .slice A n c), (1, .int .i64 ((a : Nat) : Int)), (2, .int .i64 ((b : Nat) : Int)), (3, .func (.func fc) #[] #[]), (8, .int .i64 ((s.1 : Nat) : Int))]) (fun s => (iOwn (tSl (tCk K) 69) [.slice A n c] s.2 :: is)) (fun s => insL (ltc cf) a (b - s.1) s.1 s.2 = insL (ltc cf) a (b - a - 1) (a + 1) xs ∧ a < s.1) (fun s => b - s.1) (a + 1, xs) (subL_cons rfl (subL_cons rfl (subL_cons rfl (subL_cons rfl (subL_cons rfl subL_nil))))) (fun W hm => hm) ⟨(show insL (ltc cf) a (b - (a + 1)) (a + 1) xs = insL (ltc cf) a (b - a - 1) (a + 1) xs from by rw [show b - (a + 1) = b - a - 1 by omega]), (show a < (a + 1) from by omega)⟩ ?_
 rintro ⟨i, d⟩ H1
 obtain ⟨hF, hai⟩ : insL (ltc cf) a (b - i) i d = insL (ltc cf) a (b - a - 1) (a + 1) xs ∧ a < i := H1
 show CM Try.prog 53 _ _ _ _ [(0, .slice A n c), (1, .int .i64 ((a : Nat) : Int)), (2, .int .i64 ((b : Nat) : Int)), (3, .func (.func fc) #[] #[]), (8, .int .i64 ((i : Nat) : Int))] (iOwn (tSl (tCk K) 69) [.slice A n c] d :: is)
 refine CM_seq ?_
 refine sr ?_
 refine wm ?_
 refine wm ?_
 refine wv (fun W hm => rv_lss rfl rfl) ?_
 refine nt' ?_
 by_cases h2 : ((i : Nat) : Int) < ((b : Nat) : Int)
 ·have g3 : (decide (((i : Nat) : Int) < ((b : Nat) : Int))) = true := decide_eq_true h2
  refine CM_condT rfl g3 ?_
  refine CM_skip ?_
  refine QM_then ?_
  refine CM_seq ?_
  refine CM_block ?_
  refine sr ?_
  refine wm ?_
  refine wa ?_
  refine nt' ?_
  refine CM_block ?_
  refine CM_loop (σ := Nat × List (List Value × α)) (fun s => [(0, .slice A n c), (1, .int .i64 ((a : Nat) : Int)), (2, .int .i64 ((b : Nat) : Int)), (3, .func (.func fc) #[] #[]), (8, .int .i64 ((i : Nat) : Int)), (9, .int .i64 ((s.1 : Nat) : Int))]) (fun s => (iOwn (tSl (tCk K) 69) [.slice A n c] s.2 :: is)) (fun s => ins1 (ltc cf) a s.1 s.2 = ins1 (ltc cf) a i d ∧ s.1 ≤ i ∧ a ≤ s.1) (fun s => s.1) (i, d) (subL_cons rfl (subL_cons rfl (subL_cons rfl (subL_cons rfl (subL_cons rfl (subL_cons rfl subL_nil)))))) (fun W hm => hm) ⟨(show ins1 (ltc cf) a i d = ins1 (ltc cf) a i d from rfl), (show i ≤ i from by omega), (show a ≤ i from by omega)⟩ ?_
  rintro ⟨j, e⟩ H4
  obtain ⟨hG, hji, haj⟩ : ins1 (ltc cf) a j e = ins1 (ltc cf) a i d ∧ j ≤ i ∧ a ≤ j := H4
  show CM Try.prog 53 _ _ _ _ [(0, .slice A n c), (1, .int .i64 ((a : Nat) : Int)), (2, .int .i64 ((b : Nat) : Int)), (3, .func (.func fc) #[] #[]), (8, .int .i64 ((i : Nat) : Int)), (9, .int .i64 ((j : Nat) : Int))] (iOwn (tSl (tCk K) 69) [.slice A n c] e :: is)
  refine CM_seq ?_
  refine CM_seq ?_
  refine CM_formO (n := 0) rfl (by omega) ?_
  rintro g5 rfl
  refine CM_regionD (by kernel_rfl) (by kernel_rfl) ?_
  refine qm ?_
  refine qm ?_
  refine qv (fun W hm => rv_gtr rfl rfl) ?_
  refine qm ?_
  by_cases h6 : ((a : Nat) : Int) < ((j : Nat) : Int)
  ·have g7 : (decide (((a : Nat) : Int) < ((j : Nat) : Int))) = true := decide_eq_true h6
   refine qg (fun W hm => rv_move rfl) g7 ?_
   refine qg (fun W hm => rv_move rfl) g7 ?_
   refine qg (fun W hm => rv_move rfl) g7 ?_
   refine qg (fun W hm => rv_index (sz := K.s) (k := j) Try.underlying24 Try.type69 hK.symm rfl rfl (by omega)) g7 ?_
   refine qg (fun W hm => rv_loadCk Try.underlying69 Try.type69 hK.symm rfl hm (by omega)) g7 ?_
   refine qg (fun W hm => rv_move rfl) g7 ?_
   refine qg (fun W hm => rv_move rfl) g7 ?_
   refine qg (fun W hm => rv_subN (p := j) (q := 1) rfl rfl (by omega) (by omega)) g7 ?_
   refine qg (fun W hm => rv_index (sz := K.s) (k := j - 1) Try.underlying24 Try.type69 hK.symm rfl rfl (by omega)) g7 ?_
   refine qg (fun W hm => rv_loadCk Try.underlying69 Try.type69 hK.symm rfl hm (by omega)) g7 ?_
   refine QR_callV (cl_val (first := []) (caps := []) (vs := [.agg (gt e j).1.toArray, .agg (gt e (j - 1)).1.toArray]) (args := [.agg (gt e j).1.toArray, .agg (gt e (j - 1)).1.toArray]) H.cb rfl rfl rfl) (fun W hm => H.go W (gt e j) (gt e (j - 1)) hm.tail (hm.ck (by omega)).1 (hm.ck (by omega)).1) (Wd_some rfl rfl rfl (bw g7 rfl)) (by decide) ?_
   refine qg (fun W hm => rv_lss rfl rfl) g7 ?_
   refine qv (fun W hm => rv_pickT rfl g7 rfl) ?_
   refine nq' ?_
   by_cases h8 : (cf (gt e j).2 (gt e (j - 1)).2) < 0
   ·have g9 : (decide ((cf (gt e j).2 (gt e (j - 1)).2) < 0)) = true := decide_eq_true h8
    refine CM_condT rfl g9 ?_
    refine CM_skip ?_
    refine QM_then ?_
    refine CM_seq ?_
    refine CM_block ?_
    refine CM_ck ?_
    intro hR10
    refine CM_cut (σ := Unit) (fun _ => [(0, .slice (some ⟨g5, 0, none⟩) n c), (1, .int .i64 ((a : Nat) : Int)), (2, .int .i64 ((b : Nat) : Int)), (3, .func (.func fc) #[] #[]), (8, .int .i64 ((i : Nat) : Int)), (9, .int .i64 ((j : Nat) : Int))]) (fun _ => (iOwn (tSl (tCk K) 69) [.slice (some ⟨g5, 0, none⟩) n c] ((e.set j (gt e (j - 1))).set (j - 1) (gt e j)) :: is)) (fun _ => True) ?_ ?_
    ·
     refine rb 18 (s := (is)) (fun W hm => (hm).tail) ?_
     refine qt 18 0 1 rfl (fun W hm => rv_move rfl) ?_
     refine qt 18 1 3 rfl (fun W hm => rv_move rfl) ?_
     refine qt 18 2 7 rfl (fun W hm => rv_move rfl) ?_
     refine qt 18 3 15 rfl (fun W hm => rv_move rfl) ?_
     refine qt 18 4 31 rfl (fun W hm => rv_subN (p := j) (q := 1) rfl rfl (by omega) (by omega)) ?_
     refine qt 18 5 63 rfl (fun W hm => rv_move rfl) ?_
     refine qt 18 6 127 rfl (fun W hm => rv_move rfl) ?_
     refine qt 18 7 255 rfl (fun W hm => rv_subN (p := j) (q := 1) rfl rfl (by omega) (by omega)) ?_
     refine qt 18 8 511 rfl (fun W hm => rv_index (sz := K.s) (k := j - 1) Try.underlying24 Try.type69 hK.symm rfl rfl (by omega)) ?_
     refine qt 18 10 1535 rfl (fun W hm => rv_move rfl) ?_
     refine qt 18 11 3583 rfl (fun W hm => rv_move rfl) ?_
     refine qt 18 12 7679 rfl (fun W hm => rv_index (sz := K.s) (k := j) Try.underlying24 Try.type69 hK.symm rfl rfl (by omega)) ?_
     refine qa [9, 13] ?_
     refine qc 18 8191 rfl ?_ ?_
     ·
      refine wv (fun W hm => rv_loadCk Try.underlying69 Try.type69 hK.symm rfl hm (by omega)) ?_
      refine qn (fun W hm => (hm).tail) ?_
      refine qo 18 13 16383 rfl ?_
      refine wv (fun W hm => rv_loadCk Try.underlying69 Try.type69 hK.symm rfl hm (by omega)) ?_
      refine qn (fun W hm => (hm).tail) ?_
      refine qt 18 14 32767 rfl (fun W hm => rv_index (sz := K.s) (k := j) Try.underlying24 Try.type69 hK.symm rfl rfl (by omega)) ?_
      refine qo 18 15 65535 rfl ?_
      refine WM_setEl (E := tCk K) (e := 69) (u := .agg (gt e (j - 1)).1.toArray) (k := j) (p := g5) (n := n) (xs := e) (eis := []) (js := is) (yv := (gt e (j - 1))) (fun W hm => hm) (fun _ _ hs => ⟨hs, rfl, (hR10 (j - 1) (by omega))⟩) rfl Try.type69 hK.symm (by omega) rfl rfl (Wd_none rfl) ?_
      refine qn (fun W hm => (hm).tail) ?_
      refine qt 18 16 131071 rfl (fun W hm => rv_index (sz := K.s) (k := j - 1) Try.underlying24 Try.type69 hK.symm rfl rfl (by omega)) ?_
      refine qo 18 17 262143 rfl ?_
      refine WM_setEl (E := tCk K) (e := 69) (u := .agg (gt e j).1.toArray) (k := (j - 1)) (p := g5) (n := n) (xs := (e.set j (gt e (j - 1)))) (eis := []) (js := is) (yv := (gt e j)) (fun W hm => hm) (fun _ _ hs => ⟨hs, rfl, (hR10 j (by omega))⟩) rfl Try.type69 hK.symm (by omega) rfl rfl (Wd_none rfl) ?_
      refine qn (fun W hm => (hm).tail) ?_
      refine QB_done (by kernel_rfl) ?_
      exact QM_cut_normal () (subL_cons rfl (subL_cons rfl (subL_cons rfl (subL_cons rfl (subL_cons rfl (subL_cons rfl subL_nil)))))) (fun W hm => hm) trivial
     refine qc 18 15871 rfl ?_ ?_
     ·
      refine wv (fun W hm => rv_loadCk Try.underlying69 Try.type69 hK.symm rfl hm (by omega)) ?_
      refine qn (fun W hm => (hm).tail) ?_
      refine qo 18 9 16383 rfl ?_
      refine wv (fun W hm => rv_loadCk Try.underlying69 Try.type69 hK.symm rfl hm (by omega)) ?_
      refine qn (fun W hm => (hm).tail) ?_
      refine qt 18 14 32767 rfl (fun W hm => rv_index (sz := K.s) (k := j) Try.underlying24 Try.type69 hK.symm rfl rfl (by omega)) ?_
      refine qo 18 15 65535 rfl ?_
      refine WM_setEl (E := tCk K) (e := 69) (u := .agg (gt e (j - 1)).1.toArray) (k := j) (p := g5) (n := n) (xs := e) (eis := []) (js := is) (yv := (gt e (j - 1))) (fun W hm => hm) (fun _ _ hs => ⟨hs, rfl, (hR10 (j - 1) (by omega))⟩) rfl Try.type69 hK.symm (by omega) rfl rfl (Wd_none rfl) ?_
      refine qn (fun W hm => (hm).tail) ?_
      refine qt 18 16 131071 rfl (fun W hm => rv_index (sz := K.s) (k := j - 1) Try.underlying24 Try.type69 hK.symm rfl rfl (by omega)) ?_
      refine qo 18 17 262143 rfl ?_
      refine WM_setEl (E := tCk K) (e := 69) (u := .agg (gt e j).1.toArray) (k := (j - 1)) (p := g5) (n := n) (xs := (e.set j (gt e (j - 1)))) (eis := []) (js := is) (yv := (gt e j)) (fun W hm => hm) (fun _ _ hs => ⟨hs, rfl, (hR10 j (by omega))⟩) rfl Try.type69 hK.symm (by omega) rfl rfl (Wd_none rfl) ?_
      refine qn (fun W hm => (hm).tail) ?_
      refine QB_done (by kernel_rfl) ?_
      exact QM_cut_normal () (subL_cons rfl (subL_cons rfl (subL_cons rfl (subL_cons rfl (subL_cons rfl (subL_cons rfl subL_nil)))))) (fun W hm => hm) trivial
     exact QBs_nil
    ·
     rintro ⟨⟩ -
     show QM 53 _ _ _ .normal [(0, .slice (some ⟨g5, 0, none⟩) n c), (1, .int .i64 ((a : Nat) : Int)), (2, .int .i64 ((b : Nat) : Int)), (3, .func (.func fc) #[] #[]), (8, .int .i64 ((i : Nat) : Int)), (9, .int .i64 ((j : Nat) : Int))] (iOwn (tSl (tCk K) 69) [.slice (some ⟨g5, 0, none⟩) n c] ((e.set j (gt e (j - 1))).set (j - 1) (gt e j)) :: is)
     refine QM_block_normal ?_
     refine QM_then ?_
     refine CM_region ?_
     refine wm ?_
     refine wv (fun W hm => rv_subN (p := j) (q := 1) rfl rfl (by omega) (by omega)) ?_
     refine wa ?_
     refine WM_nil ?_
     exact QM_round (j - 1, ((e.set j (gt e (j - 1))).set (j - 1) (gt e j))) (subL_cons rfl (subL_cons rfl (subL_cons rfl (subL_cons rfl (subL_cons rfl (subL_cons rfl subL_nil)))))) (fun W hm => hm) ⟨(show ins1 (ltc cf) a (j - 1) ((e.set j (gt e (j - 1))).set (j - 1) (gt e j)) = ins1 (ltc cf) a i d from (ins1_t (by omega) (show decide (cf (gt e j).2 (gt e (j - 1)).2 < 0) = true from decide_eq_true (by omega))).symm.trans hG), (show (j - 1) ≤ i from by omega), (show a ≤ (j - 1) from by omega)⟩ (show (j - 1) < j from by omega)
   ·have g9 : (decide ((cf (gt e j).2 (gt e (j - 1)).2) < 0)) = false := decide_eq_false h8
    refine CM_condF rfl g9 ?_
    refine CM_exit ?_
    refine QM_then_exit ?_
    refine QM_then_exit ?_
    refine QM_block_hit ?_
    refine QM_block_normal ?_
    refine QM_then ?_
    refine CM_region ?_
    refine wm ?_
    refine wv (fun W hm => rv_addN (p := i) (q := 1) rfl rfl (by omega)) ?_
    refine wa ?_
    refine WM_nil ?_
    exact QM_round (i + 1, e) (subL_cons rfl (subL_cons rfl (subL_cons rfl (subL_cons rfl (subL_cons rfl subL_nil))))) (fun W hm => hm) ⟨(show insL (ltc cf) a (b - (i + 1)) (i + 1) e = insL (ltc cf) a (b - a - 1) (a + 1) xs from (congrArg (insL (ltc cf) a (b - (i + 1)) (i + 1)) ((ins1_f (by rintro ⟨q1, q2⟩; have q3 := of_decide_eq_true (p := cf (gt e j).2 (gt e (j - 1)).2 < 0) q2; omega)).symm.trans hG)).trans ((insL_step (by omega)).symm.trans hF)), (show a < (i + 1) from by omega)⟩ (show b - (i + 1) < b - i from by omega)
  ·have g7 : (decide (((a : Nat) : Int) < ((j : Nat) : Int))) = false := decide_eq_false h6
   refine qs g7 ?_
   refine qs g7 ?_
   refine qs g7 ?_
   refine qs g7 ?_
   refine qs g7 ?_
   refine qs g7 ?_
   refine qs g7 ?_
   refine qs g7 ?_
   refine qs g7 ?_
   refine qs g7 ?_
   refine qs g7 ?_
   refine qs g7 ?_
   refine qv (fun W hm => rv_pickF rfl g7 rfl) ?_
   refine nq' ?_
   refine CM_condF rfl rfl ?_
   refine CM_exit ?_
   refine QM_then_exit ?_
   refine QM_then_exit ?_
   refine QM_block_hit ?_
   refine QM_block_normal ?_
   refine QM_then ?_
   refine CM_region ?_
   refine wm ?_
   refine wv (fun W hm => rv_addN (p := i) (q := 1) rfl rfl (by omega)) ?_
   refine wa ?_
   refine WM_nil ?_
   exact QM_round (i + 1, e) (subL_cons rfl (subL_cons rfl (subL_cons rfl (subL_cons rfl (subL_cons rfl subL_nil))))) (fun W hm => hm) ⟨(show insL (ltc cf) a (b - (i + 1)) (i + 1) e = insL (ltc cf) a (b - a - 1) (a + 1) xs from (congrArg (insL (ltc cf) a (b - (i + 1)) (i + 1)) ((ins1_f (by rintro ⟨q1, q2⟩; have q3 := of_decide_eq_true (p := cf (gt e j).2 (gt e (j - 1)).2 < 0) q2; omega)).symm.trans hG)).trans ((insL_step (by omega)).symm.trans hF)), (show a < (i + 1) from by omega)⟩ (show b - (i + 1) < b - i from by omega)
 ·have g3 : (decide (((i : Nat) : Int) < ((b : Nat) : Int))) = false := decide_eq_false h2
  refine CM_condF rfl g3 ?_
  refine CM_exit ?_
  refine QM_then_exit ?_
  refine QM_then_exit ?_
  refine QM_block_hit ?_
  have hE : insL (ltc cf) a (b - a - 1) (a + 1) xs = d := ((insL_end (by omega)).symm.trans hF).symm
  exact QM_ret0 rfl (fun W hm => ⟨rfl, by rw [hE]; exact hm⟩)

set_option maxRecDepth 100000 in
theorem cb141 : Cb Try.prog 141 := ⟨Try.f141, _, Try.func141, rfl, by decide⟩
set_option maxRecDepth 10000 in
set_option maxHeartbeats 4000000 in
theorem srt125_rot_c {α : Type} [Inhabited α] (K : Ck α) (hK : K.s = 2) (cf : α → α → Int) (fc : FuncId) (B : Nat) (w0 : World) (is : List It) (H : CmpOk Try.prog fc K B w0 is cf) (A : Option Addr) (n c : Nat) (hn : n ≤ 68719476736) (a : Nat) (m : Nat) (b : Nat) (xs : List (List Value × α)) (h1 : a < m) (h2 : m < b) (h3 : b ≤ n) (w : World) (hm : Mem B w0 (iOwn (tSl (tCk K) 69) [.slice A n c] xs :: is) w) :
  Calls Try.prog 141 #[.slice A n c, .int .i64 ((a : Nat) : Int), .int .i64 ((m : Nat) : Int), .int .i64 ((b : Nat) : Int), .func (.func fc) #[] #[]] w fun e w' => e = .returned (.tuple #[]) ∧ Mem B w0 (iOwn (tSl (tCk K) 69) [.slice A n c] (rot (b - a) m (m - a) (b - m) xs) :: is) w' := by
 refine call_enterW (L := [(0, .slice A n c), (1, .int .i64 ((a : Nat) : Int)), (2, .int .i64 ((m : Nat) : Int)), (3, .int .i64 ((b : Nat) : Int)), (4, .func (.func fc) #[] #[])]) (N := 58) Try.func141 rfl rfl (Nat.le_of_ble_eq_true rfl) (argsL_cons rfl (argsL_cons rfl (argsL_cons rfl (argsL_cons rfl (argsL_cons rfl argsL_nil))))) hm ?_
 refine sr ?_
 refine wm ?_
 refine wm ?_
 refine wv (fun W hm => rv_subN (p := m) (q := a) rfl rfl (by omega) (by omega)) ?_
 refine wa ?_
 refine nt' ?_
 refine sr ?_
 refine wm ?_
 refine wm ?_
 refine wv (fun W hm => rv_subN (p := b) (q := m) rfl rfl (by omega) (by omega)) ?_
 refine wa ?_
 refine nt' ?_
 refine CM_seq ?_
 refine CM_block ?_
 refine CM_loop (σ := Nat × Nat × Nat × List (List Value × α)) (fun s => [(0, .slice A n c), (2, .int .i64 ((m : Nat) : Int)), (4, .func (.func fc) #[] #[]), (10, .int .i64 ((s.1 : Nat) : Int)), (11, .int .i64 ((s.2.1 : Nat) : Int))]) (fun s => (iOwn (tSl (tCk K) 69) [.slice A n c] s.2.2.2 :: is)) (fun s => rot s.2.2.1 m s.1 s.2.1 s.2.2.2 = rot (b - a) m (m - a) (b - m) xs ∧ s.1 + s.2.1 ≤ s.2.2.1 ∧ 0 < s.1 ∧ 0 < s.2.1 ∧ a + s.1 ≤ m ∧ m + s.2.1 ≤ b) (fun s => s.1 + s.2.1) (m - a, b - m, b - a, xs) (subL_cons rfl (subL_cons rfl (subL_cons rfl (subL_cons rfl (subL_cons rfl subL_nil))))) (fun W hm => hm) ⟨(show rot (b - a) m (m - a) (b - m) xs = rot (b - a) m (m - a) (b - m) xs from rfl), (show (m - a) + (b - m) ≤ (b - a) from by omega), (show 0 < (m - a) from by omega), (show 0 < (b - m) from by omega), (show a + (m - a) ≤ m from by omega), (show m + (b - m) ≤ b from by omega)⟩ ?_
 rintro ⟨i, j, f, d⟩ H1
 obtain ⟨hF, hf5, hf6, hf7, hf8, hf9⟩ : rot f m i j d = rot (b - a) m (m - a) (b - m) xs ∧ i + j ≤ f ∧ 0 < i ∧ 0 < j ∧ a + i ≤ m ∧ m + j ≤ b := H1
 show CM Try.prog 58 _ _ _ _ [(0, .slice A n c), (2, .int .i64 ((m : Nat) : Int)), (4, .func (.func fc) #[] #[]), (10, .int .i64 ((i : Nat) : Int)), (11, .int .i64 ((j : Nat) : Int))] (iOwn (tSl (tCk K) 69) [.slice A n c] d :: is)
 refine CM_seq ?_
 refine sr ?_
 refine wm ?_
 refine wm ?_
 refine wv (fun W hm => rv_neq rfl rfl) ?_
 refine nt' ?_
 by_cases h2 : ((i : Nat) : Int) = ((j : Nat) : Int)
 ·have g3 : (((i : Nat) : Int) != ((j : Nat) : Int)) = false := by rw [h2]; exact bne_self_eq_false _
  refine CM_condF rfl g3 ?_
  refine CM_exit ?_
  refine QM_then_exit ?_
  refine QM_then_exit ?_
  refine QM_block_hit ?_
  refine QM_then ?_
  refine CM_region ?_
  refine wm ?_
  refine wm ?_
  refine wm ?_
  refine wv (fun W hm => rv_subN (p := m) (q := i) rfl rfl (by omega) (by omega)) ?_
  refine wm ?_
  refine wm ?_
  refine wm ?_
  refine WM_callW (χ := Unit) (val := fun _ => .tuple #[]) (js := fun _ => (iOwn (tSl (tCk K) 69) [.slice A n c] (swr i (m - i) m d) :: is)) (cl_fn cb142 rfl) (fun W hm => (srt125_swr_c K hK cf fc B w0 is H A n c hn (m - i) m i d (by omega) (by omega) W hm).mono (fun _ _ h => ⟨(), h.1, h.2⟩)) (Wd_none rfl) (by decide) (fun _ => ?_)
  refine WM_nil ?_
  have hE : rot (b - a) m (m - a) (b - m) xs = (swr i (m - i) m d) := ((rot_eq (by omega) hf5 hf6).symm.trans hF).symm
  exact QM_ret0 rfl (fun W hm => ⟨rfl, by rw [hE]; exact hm⟩)
 ·have g3 : (((i : Nat) : Int) != ((j : Nat) : Int)) = true := bne_iff_ne.2 h2
  refine CM_condT rfl g3 ?_
  refine CM_skip ?_
  refine QM_then ?_
  refine CM_block ?_
  refine sr ?_
  refine wm ?_
  refine wm ?_
  refine wv (fun W hm => rv_gtr rfl rfl) ?_
  refine nt' ?_
  by_cases h4 : ((j : Nat) : Int) < ((i : Nat) : Int)
  ·have g5 : (decide (((j : Nat) : Int) < ((i : Nat) : Int))) = true := decide_eq_true h4
   refine CM_condT rfl g5 ?_
   refine sr ?_
   refine wm ?_
   refine wm ?_
   refine wm ?_
   refine wv (fun W hm => rv_subN (p := m) (q := i) rfl rfl (by omega) (by omega)) ?_
   refine wm ?_
   refine wm ?_
   refine wm ?_
   refine WM_callW (χ := Unit) (val := fun _ => .tuple #[]) (js := fun _ => (iOwn (tSl (tCk K) 69) [.slice A n c] (swr j (m - i) m d) :: is)) (cl_fn cb142 rfl) (fun W hm => (srt125_swr_c K hK cf fc B w0 is H A n c hn (m - i) m j d (by omega) (by omega) W hm).mono (fun _ _ h => ⟨(), h.1, h.2⟩)) (Wd_none rfl) (by decide) (fun _ => ?_)
   refine nt' ?_
   refine CM_region ?_
   refine wm ?_
   refine wm ?_
   refine wv (fun W hm => rv_subN (p := i) (q := j) rfl rfl (by omega) (by omega)) ?_
   refine wa ?_
   refine WM_nil ?_
   refine QM_block_normal ?_
   exact QM_round (i - j, j, f - 1, (swr j (m - i) m d)) (subL_cons rfl (subL_cons rfl (subL_cons rfl (subL_cons rfl (subL_cons rfl subL_nil))))) (fun W hm => hm) ⟨(show rot (f - 1) m (i - j) j (swr j (m - i) m d) = rot (b - a) m (m - a) (b - m) xs from (rot_gt (by omega) hf5).symm.trans hF), (show (i - j) + j ≤ (f - 1) from by omega), (show 0 < (i - j) from by omega), (show 0 < j from by omega), (show a + (i - j) ≤ m from by omega), (show m + j ≤ b from by omega)⟩ (show (i - j) + j < i + j from by omega)
  ·have g5 : (decide (((j : Nat) : Int) < ((i : Nat) : Int))) = false := decide_eq_false h4
   refine CM_condF rfl g5 ?_
   refine sr ?_
   refine wm ?_
   refine wm ?_
   refine wm ?_
   refine wv (fun W hm => rv_subN (p := m) (q := i) rfl rfl (by omega) (by omega)) ?_
   refine wm ?_
   refine wm ?_
   refine wv (fun W hm => rv_addN (p := m) (q := j) rfl rfl (by omega)) ?_
   refine wm ?_
   refine wv (fun W hm => rv_subN (p := m + j) (q := i) rfl rfl (by omega) (by omega)) ?_
   refine wm ?_
   refine wm ?_
   refine WM_callW (χ := Unit) (val := fun _ => .tuple #[]) (js := fun _ => (iOwn (tSl (tCk K) 69) [.slice A n c] (swr i (m - i) (m + j - i) d) :: is)) (cl_fn cb142 rfl) (fun W hm => (srt125_swr_c K hK cf fc B w0 is H A n c hn (m - i) (m + j - i) i d (by omega) (by omega) W hm).mono (fun _ _ h => ⟨(), h.1, h.2⟩)) (Wd_none rfl) (by decide) (fun _ => ?_)
   refine nt' ?_
   refine CM_region ?_
   refine wm ?_
   refine wm ?_
   refine wv (fun W hm => rv_subN (p := j) (q := i) rfl rfl (by omega) (by omega)) ?_
   refine wa ?_
   refine WM_nil ?_
   refine QM_block_normal ?_
   exact QM_round (i, j - i, f - 1, (swr i (m - i) (m + j - i) d)) (subL_cons rfl (subL_cons rfl (subL_cons rfl (subL_cons rfl (subL_cons rfl subL_nil))))) (fun W hm => hm) ⟨(show rot (f - 1) m i (j - i) (swr i (m - i) (m + j - i) d) = rot (b - a) m (m - a) (b - m) xs from (rot_lt (by omega) hf5).symm.trans hF), (show i + (j - i) ≤ (f - 1) from by omega), (show 0 < i from by omega), (show 0 < (j - i) from by omega), (show a + i ≤ m from by omega), (show m + (j - i) ≤ b from by omega)⟩ (show i + (j - i) < i + j from by omega)

set_option maxRecDepth 100000 in
theorem cb139 : Cb Try.prog 139 := ⟨Try.f139, _, Try.func139, rfl, by decide⟩
set_option maxRecDepth 10000 in
set_option maxHeartbeats 4000000 in
theorem srt125_symm_c {α : Type} [Inhabited α] (K : Ck α) (hK : K.s = 2) (cf : α → α → Int) (fc : FuncId) (B : Nat) (w0 : World) (is : List It) (H : CmpOk Try.prog fc K B w0 is cf) (A : Option Addr) (n c : Nat) (hn : n ≤ 68719476736) :
  ∀ (f : Nat) (a : Nat) (m : Nat) (b : Nat) (xs : List (List Value × α)) (h1 : b - a ≤ f) (h2 : a < m) (h3 : m < b) (h4 : b ≤ n) (w : World) (hm : Mem B w0 (iOwn (tSl (tCk K) 69) [.slice A n c] xs :: is) w),
  Calls Try.prog 139 #[.slice A n c, .int .i64 ((a : Nat) : Int), .int .i64 ((m : Nat) : Int), .int .i64 ((b : Nat) : Int), .func (.func fc) #[] #[]] w fun e w' => e = .returned (.tuple #[]) ∧ Mem B w0 (iOwn (tSl (tCk K) 69) [.slice A n c] (symm (ltc cf) f a m b xs) :: is) w' := by
 intro f
 revert A
 induction f with
 | zero => intro A a m b xs h1 h2 h3 h4 w hm; exact absurd h1 (by omega)
 | succ f ih =>
 intro A a m b xs h1 h2 h3 h4 w hm
 replace ih := ih A
 refine call_enterW (L := [(0, .slice A n c), (1, .int .i64 ((a : Nat) : Int)), (2, .int .i64 ((m : Nat) : Int)), (3, .int .i64 ((b : Nat) : Int)), (4, .func (.func fc) #[] #[])]) (N := 220) Try.func139 rfl rfl (Nat.le_of_ble_eq_true rfl) (argsL_cons rfl (argsL_cons rfl (argsL_cons rfl (argsL_cons rfl (argsL_cons rfl argsL_nil))))) hm ?_
 refine CM_seq ?_
 refine sr ?_
 refine wm ?_
 refine wm ?_
 refine wv (fun W hm => rv_subN (p := m) (q := a) rfl rfl (by omega) (by omega)) ?_
 refine wv (fun W hm => rv_eql rfl rfl) ?_
 refine nt' ?_
 by_cases h1 : ((m - a : Nat) : Int) = 1
 ·have g2 : (((m - a : Nat) : Int) == 1) = true := beq_iff_eq.2 h1
  refine CM_condT rfl g2 ?_
  refine sr ?_
  refine wm ?_
  refine wa ?_
  refine nt' ?_
  refine sr ?_
  refine wm ?_
  refine wa ?_
  refine nt' ?_
  refine CM_seq ?_
  refine CM_block ?_
  refine CM_loop (σ := Nat × Nat × Nat) (fun s => [(0, .slice A n c), (1, .int .i64 ((a : Nat) : Int)), (4, .func (.func fc) #[] #[]), (10, .int .i64 ((s.1 : Nat) : Int)), (11, .int .i64 ((s.2.1 : Nat) : Int))]) (fun s => (iOwn (tSl (tCk K) 69) [.slice A n c] xs :: is)) (fun s => bsr (fun h => ltc cf (gt xs h) (gt xs a)) s.2.2 s.1 s.2.1 = bsr (fun h => ltc cf (gt xs h) (gt xs a)) (b - m) m b ∧ s.2.1 ≤ s.2.2 + s.1 ∧ m ≤ s.1 ∧ s.1 ≤ s.2.1 ∧ s.2.1 ≤ b) (fun s => s.2.1 - s.1) (m, b, b - m) (subL_cons rfl (subL_cons rfl (subL_cons rfl (subL_cons rfl (subL_cons rfl subL_nil))))) (fun W hm => hm) ⟨(show bsr (fun h => ltc cf (gt xs h) (gt xs a)) (b - m) m b = bsr (fun h => ltc cf (gt xs h) (gt xs a)) (b - m) m b from rfl), (show b ≤ (b - m) + m from by omega), (show m ≤ m from by omega), (show m ≤ b from by omega), (show b ≤ b from by omega)⟩ ?_
  rintro ⟨i, j, f0⟩ H3
  obtain ⟨hB, hf5, hf6, hf7, hf8⟩ : bsr (fun h => ltc cf (gt xs h) (gt xs a)) f0 i j = bsr (fun h => ltc cf (gt xs h) (gt xs a)) (b - m) m b ∧ j ≤ f0 + i ∧ m ≤ i ∧ i ≤ j ∧ j ≤ b := H3
  show CM Try.prog 220 _ _ _ _ [(0, .slice A n c), (1, .int .i64 ((a : Nat) : Int)), (4, .func (.func fc) #[] #[]), (10, .int .i64 ((i : Nat) : Int)), (11, .int .i64 ((j : Nat) : Int))] (iOwn (tSl (tCk K) 69) [.slice A n c] xs :: is)
  refine CM_seq ?_
  refine sr ?_
  refine wm ?_
  refine wm ?_
  refine wv (fun W hm => rv_lss rfl rfl) ?_
  refine nt' ?_
  by_cases h4 : ((i : Nat) : Int) < ((j : Nat) : Int)
  ·have g5 : (decide (((i : Nat) : Int) < ((j : Nat) : Int))) = true := decide_eq_true h4
   refine CM_condT rfl g5 ?_
   refine CM_skip ?_
   refine QM_then ?_
   refine CM_block ?_
   refine sr ?_
   refine wm ?_
   refine wm ?_
   refine wv (fun W hm => rv_addN (p := i) (q := j) rfl rfl (by omega)) ?_
   refine wv (fun W hm => rv_convIU (p := i + j) Try.underlying3 Try.underlying152 rfl (by omega)) ?_
   refine wv (fun W hm => rv_half rfl) ?_
   refine wv (fun W hm => rv_convUI (p := (i + j) / 2) Try.underlying152 Try.underlying3 rfl (by omega)) ?_
   refine wa ?_
   refine nt' ?_
   refine CM_seq ?_
   refine CM_formO (n := 0) rfl (by omega) ?_
   rintro g6 rfl
   refine CM_regionD (by kernel_rfl) (by kernel_rfl) ?_
   refine qm ?_
   refine qm ?_
   refine qm ?_
   refine qv (fun W hm => rv_index (sz := K.s) (k := (i + j) / 2) Try.underlying24 Try.type69 hK.symm rfl rfl (by omega)) ?_
   refine qv (fun W hm => rv_loadCk Try.underlying69 Try.type69 hK.symm rfl hm (by omega)) ?_
   refine qm ?_
   refine qm ?_
   refine qv (fun W hm => rv_index (sz := K.s) (k := a) Try.underlying24 Try.type69 hK.symm rfl rfl (by omega)) ?_
   refine qv (fun W hm => rv_loadCk Try.underlying69 Try.type69 hK.symm rfl hm (by omega)) ?_
   refine QR_callV (cl_val (first := []) (caps := []) (vs := [.agg (gt xs ((i + j) / 2)).1.toArray, .agg (gt xs a).1.toArray]) (args := [.agg (gt xs ((i + j) / 2)).1.toArray, .agg (gt xs a).1.toArray]) H.cb rfl rfl rfl) (fun W hm => H.go W (gt xs ((i + j) / 2)) (gt xs a) hm.tail (hm.ck (by omega)).1 (hm.ck (by omega)).1) (Wd_none rfl) (by decide) ?_
   refine qv (fun W hm => rv_lss rfl rfl) ?_
   refine nq' ?_
   by_cases h7 : (cf (gt xs ((i + j) / 2)).2 (gt xs a).2) < 0
   ·have g8 : (decide ((cf (gt xs ((i + j) / 2)).2 (gt xs a).2) < 0)) = true := decide_eq_true h7
    refine CM_condT rfl g8 ?_
    refine CM_region ?_
    refine wm ?_
    refine wv (fun W hm => rv_addN (p := (i + j) / 2) (q := 1) rfl rfl (by omega)) ?_
    refine wa ?_
    refine WM_nil ?_
    refine QM_block_normal ?_
    exact QM_round ((i + j) / 2 + 1, j, f0 - 1) (subL_cons rfl (subL_cons rfl (subL_cons rfl (subL_cons rfl (subL_cons rfl subL_nil))))) (fun W hm => hm) ⟨(show bsr (fun h => ltc cf (gt xs h) (gt xs a)) (f0 - 1) ((i + j) / 2 + 1) j = bsr (fun h => ltc cf (gt xs h) (gt xs a)) (b - m) m b from (bsr_t (by omega) hf5 (show decide (cf (gt xs ((i + j) / 2)).2 (gt xs a).2 < 0) = true from decide_eq_true (by omega))).symm.trans hB), (show j ≤ (f0 - 1) + ((i + j) / 2 + 1) from by omega), (show m ≤ ((i + j) / 2 + 1) from by omega), (show ((i + j) / 2 + 1) ≤ j from by omega), (show j ≤ b from by omega)⟩ (show j - ((i + j) / 2 + 1) < j - i from by omega)
   ·have g8 : (decide ((cf (gt xs ((i + j) / 2)).2 (gt xs a).2) < 0)) = false := decide_eq_false h7
    refine CM_condF rfl g8 ?_
    refine CM_region ?_
    refine wm ?_
    refine wa ?_
    refine WM_nil ?_
    refine QM_block_normal ?_
    exact QM_round (i, (i + j) / 2, f0 - 1) (subL_cons rfl (subL_cons rfl (subL_cons rfl (subL_cons rfl (subL_cons rfl subL_nil))))) (fun W hm => hm) ⟨(show bsr (fun h => ltc cf (gt xs h) (gt xs a)) (f0 - 1) i ((i + j) / 2) = bsr (fun h => ltc cf (gt xs h) (gt xs a)) (b - m) m b from (bsr_f (by omega) hf5 (show decide (cf (gt xs ((i + j) / 2)).2 (gt xs a).2 < 0) = false from decide_eq_false (by omega))).symm.trans hB), (show ((i + j) / 2) ≤ (f0 - 1) + i from by omega), (show m ≤ i from by omega), (show i ≤ ((i + j) / 2) from by omega), (show ((i + j) / 2) ≤ b from by omega)⟩ (show ((i + j) / 2) - i < j - i from by omega)
  ·have g5 : (decide (((i : Nat) : Int) < ((j : Nat) : Int))) = false := decide_eq_false h4
   refine CM_condF rfl g5 ?_
   refine CM_exit ?_
   refine QM_then_exit ?_
   refine QM_then_exit ?_
   have hA : bsr (fun h => ltc cf (gt xs h) (gt xs a)) (b - m) m b = i := hB.symm.trans (bsr_e (by omega))
   refine QM_block_hit ?_
   refine QM_then ?_
   refine CM_seq ?_
   refine sr ?_
   refine wm ?_
   refine wa ?_
   refine nt' ?_
   refine CM_block ?_
   refine CM_loop (σ := Nat × List (List Value × α)) (fun s => [(0, .slice A n c), (10, .int .i64 ((i : Nat) : Int)), (13, .int .i64 ((s.1 : Nat) : Int))]) (fun s => (iOwn (tSl (tCk K) 69) [.slice A n c] s.2 :: is)) (fun s => mvU (i - 1 - s.1) s.1 s.2 = mvU (i - 1 - a) a xs ∧ a ≤ s.1) (fun s => i - 1 - s.1) (a, xs) (subL_cons rfl (subL_cons rfl (subL_cons rfl subL_nil))) (fun W hm => hm) ⟨(show mvU (i - 1 - a) a xs = mvU (i - 1 - a) a xs from rfl), (show a ≤ a from by omega)⟩ ?_
   rintro ⟨k, d⟩ H9
   obtain ⟨hU, hf9⟩ : mvU (i - 1 - k) k d = mvU (i - 1 - a) a xs ∧ a ≤ k := H9
   show CM Try.prog 220 _ _ _ _ [(0, .slice A n c), (10, .int .i64 ((i : Nat) : Int)), (13, .int .i64 ((k : Nat) : Int))] (iOwn (tSl (tCk K) 69) [.slice A n c] d :: is)
   refine CM_seq ?_
   refine sr ?_
   refine wm ?_
   refine wm ?_
   refine wv (fun W hm => rv_subN (p := i) (q := 1) rfl rfl (by omega) (by omega)) ?_
   refine wv (fun W hm => rv_lss rfl rfl) ?_
   refine nt' ?_
   by_cases h10 : ((k : Nat) : Int) < ((i - 1 : Nat) : Int)
   ·have g11 : (decide (((k : Nat) : Int) < ((i - 1 : Nat) : Int))) = true := decide_eq_true h10
    refine CM_condT rfl g11 ?_
    refine CM_skip ?_
    refine QM_then ?_
    refine CM_seq ?_
    refine CM_block ?_
    refine CM_formO (n := 0) rfl (by omega) ?_
    rintro g13 rfl
    refine CM_ck ?_
    intro hR12
    refine CM_cut (σ := Unit) (fun _ => [(0, .slice (some ⟨g13, 0, none⟩) n c), (10, .int .i64 ((i : Nat) : Int)), (13, .int .i64 ((k : Nat) : Int))]) (fun _ => (iOwn (tSl (tCk K) 69) [.slice (some ⟨g13, 0, none⟩) n c] ((d.set k (gt d (k + 1))).set (k + 1) (gt d k)) :: is)) (fun _ => True) ?_ ?_
    ·
     refine rb 18 (s := (is)) (fun W hm => (hm).tail) ?_
     refine qt 18 0 1 rfl (fun W hm => rv_move rfl) ?_
     refine qt 18 1 3 rfl (fun W hm => rv_move rfl) ?_
     refine qt 18 2 7 rfl (fun W hm => rv_move rfl) ?_
     refine qt 18 3 15 rfl (fun W hm => rv_move rfl) ?_
     refine qt 18 4 31 rfl (fun W hm => rv_addN (p := k) (q := 1) rfl rfl (by omega)) ?_
     refine qt 18 5 63 rfl (fun W hm => rv_move rfl) ?_
     refine qt 18 6 127 rfl (fun W hm => rv_move rfl) ?_
     refine qt 18 7 255 rfl (fun W hm => rv_addN (p := k) (q := 1) rfl rfl (by omega)) ?_
     refine qt 18 8 511 rfl (fun W hm => rv_index (sz := K.s) (k := k + 1) Try.underlying24 Try.type69 hK.symm rfl rfl (by omega)) ?_
     refine qt 18 10 1535 rfl (fun W hm => rv_move rfl) ?_
     refine qt 18 11 3583 rfl (fun W hm => rv_move rfl) ?_
     refine qt 18 12 7679 rfl (fun W hm => rv_index (sz := K.s) (k := k) Try.underlying24 Try.type69 hK.symm rfl rfl (by omega)) ?_
     refine qa [9, 13] ?_
     refine qc 18 8191 rfl ?_ ?_
     ·
      refine wv (fun W hm => rv_loadCk Try.underlying69 Try.type69 hK.symm rfl hm (by omega)) ?_
      refine qn (fun W hm => (hm).tail) ?_
      refine qo 18 13 16383 rfl ?_
      refine wv (fun W hm => rv_loadCk Try.underlying69 Try.type69 hK.symm rfl hm (by omega)) ?_
      refine qn (fun W hm => (hm).tail) ?_
      refine qt 18 14 32767 rfl (fun W hm => rv_index (sz := K.s) (k := k) Try.underlying24 Try.type69 hK.symm rfl rfl (by omega)) ?_
      refine qo 18 15 65535 rfl ?_
      refine WM_setEl (E := tCk K) (e := 69) (u := .agg (gt d (k + 1)).1.toArray) (k := k) (p := g13) (n := n) (xs := d) (eis := []) (js := is) (yv := (gt d (k + 1))) (fun W hm => hm) (fun _ _ hs => ⟨hs, rfl, (hR12 (k + 1) (by omega))⟩) rfl Try.type69 hK.symm (by omega) rfl rfl (Wd_none rfl) ?_
      refine qn (fun W hm => (hm).tail) ?_
      refine qt 18 16 131071 rfl (fun W hm => rv_index (sz := K.s) (k := k + 1) Try.underlying24 Try.type69 hK.symm rfl rfl (by omega)) ?_
      refine qo 18 17 262143 rfl ?_
      refine WM_setEl (E := tCk K) (e := 69) (u := .agg (gt d k).1.toArray) (k := (k + 1)) (p := g13) (n := n) (xs := (d.set k (gt d (k + 1)))) (eis := []) (js := is) (yv := (gt d k)) (fun W hm => hm) (fun _ _ hs => ⟨hs, rfl, (hR12 k (by omega))⟩) rfl Try.type69 hK.symm (by omega) rfl rfl (Wd_none rfl) ?_
      refine qn (fun W hm => (hm).tail) ?_
      refine QB_done (by kernel_rfl) ?_
      exact QM_cut_normal () (subL_cons rfl (subL_cons rfl (subL_cons rfl subL_nil))) (fun W hm => hm) trivial
     refine qc 18 15871 rfl ?_ ?_
     ·
      refine wv (fun W hm => rv_loadCk Try.underlying69 Try.type69 hK.symm rfl hm (by omega)) ?_
      refine qn (fun W hm => (hm).tail) ?_
      refine qo 18 9 16383 rfl ?_
      refine wv (fun W hm => rv_loadCk Try.underlying69 Try.type69 hK.symm rfl hm (by omega)) ?_
      refine qn (fun W hm => (hm).tail) ?_
      refine qt 18 14 32767 rfl (fun W hm => rv_index (sz := K.s) (k := k) Try.underlying24 Try.type69 hK.symm rfl rfl (by omega)) ?_
      refine qo 18 15 65535 rfl ?_
      refine WM_setEl (E := tCk K) (e := 69) (u := .agg (gt d (k + 1)).1.toArray) (k := k) (p := g13) (n := n) (xs := d) (eis := []) (js := is) (yv := (gt d (k + 1))) (fun W hm => hm) (fun _ _ hs => ⟨hs, rfl, (hR12 (k + 1) (by omega))⟩) rfl Try.type69 hK.symm (by omega) rfl rfl (Wd_none rfl) ?_
      refine qn (fun W hm => (hm).tail) ?_
      refine qt 18 16 131071 rfl (fun W hm => rv_index (sz := K.s) (k := k + 1) Try.underlying24 Try.type69 hK.symm rfl rfl (by omega)) ?_
      refine qo 18 17 262143 rfl ?_
      refine WM_setEl (E := tCk K) (e := 69) (u := .agg (gt d k).1.toArray) (k := (k + 1)) (p := g13) (n := n) (xs := (d.set k (gt d (k + 1)))) (eis := []) (js := is) (yv := (gt d k)) (fun W hm => hm) (fun _ _ hs => ⟨hs, rfl, (hR12 k (by omega))⟩) rfl Try.type69 hK.symm (by omega) rfl rfl (Wd_none rfl) ?_
      refine qn (fun W hm => (hm).tail) ?_
      refine QB_done (by kernel_rfl) ?_
      exact QM_cut_normal () (subL_cons rfl (subL_cons rfl (subL_cons rfl subL_nil))) (fun W hm => hm) trivial
     exact QBs_nil
    ·
     rintro ⟨⟩ -
     show QM 220 _ _ _ .normal [(0, .slice (some ⟨g13, 0, none⟩) n c), (10, .int .i64 ((i : Nat) : Int)), (13, .int .i64 ((k : Nat) : Int))] (iOwn (tSl (tCk K) 69) [.slice (some ⟨g13, 0, none⟩) n c] ((d.set k (gt d (k + 1))).set (k + 1) (gt d k)) :: is)
     refine QM_block_normal ?_
     refine QM_then ?_
     refine CM_region ?_
     refine wm ?_
     refine wv (fun W hm => rv_addN (p := k) (q := 1) rfl rfl (by omega)) ?_
     refine wa ?_
     refine WM_nil ?_
     exact QM_round (k + 1, ((d.set k (gt d (k + 1))).set (k + 1) (gt d k))) (subL_cons rfl (subL_cons rfl (subL_cons rfl subL_nil))) (fun W hm => hm) ⟨(show mvU (i - 1 - (k + 1)) (k + 1) ((d.set k (gt d (k + 1))).set (k + 1) (gt d k)) = mvU (i - 1 - a) a xs from (mvU_step (by omega)).symm.trans hU), (show a ≤ (k + 1) from by omega)⟩ (show i - 1 - (k + 1) < i - 1 - k from by omega)
   ·have g11 : (decide (((k : Nat) : Int) < ((i - 1 : Nat) : Int))) = false := decide_eq_false h10
    refine CM_condF rfl g11 ?_
    refine CM_exit ?_
    refine QM_then_exit ?_
    refine QM_then_exit ?_
    refine QM_block_hit ?_
    refine QM_then ?_
    refine CM_ret ?_
    refine QM_then_ret ?_
    have hE : symm (ltc cf) (f + 1) a m b xs = d := (symm_a (by omega)).trans (by rw [hA]; exact ((mvU_end (by omega)).symm.trans hU).symm)
    exact QM_ret0r rfl (fun W hm => ⟨rfl, by rw [hE]; exact hm⟩)
 ·have g2 : (((m - a : Nat) : Int) == 1) = false := beq_eq_false_iff_ne.2 h1
  refine CM_condF rfl g2 ?_
  refine CM_skip ?_
  refine QM_then ?_
  refine CM_seq ?_
  refine sr ?_
  refine wm ?_
  refine wm ?_
  refine wv (fun W hm => rv_subN (p := b) (q := m) rfl rfl (by omega) (by omega)) ?_
  refine wv (fun W hm => rv_eql rfl rfl) ?_
  refine nt' ?_
  by_cases h14 : ((b - m : Nat) : Int) = 1
  ·have g15 : (((b - m : Nat) : Int) == 1) = true := beq_iff_eq.2 h14
   refine CM_condT rfl g15 ?_
   refine sr ?_
   refine wm ?_
   refine wa ?_
   refine nt' ?_
   refine sr ?_
   refine wm ?_
   refine wa ?_
   refine nt' ?_
   refine CM_seq ?_
   refine CM_block ?_
   refine CM_loop (σ := Nat × Nat × Nat) (fun s => [(0, .slice A n c), (2, .int .i64 ((m : Nat) : Int)), (4, .func (.func fc) #[] #[]), (14, .int .i64 ((s.1 : Nat) : Int)), (15, .int .i64 ((s.2.1 : Nat) : Int))]) (fun s => (iOwn (tSl (tCk K) 69) [.slice A n c] xs :: is)) (fun s => bsr (fun h => !ltc cf (gt xs m) (gt xs h)) s.2.2 s.1 s.2.1 = bsr (fun h => !ltc cf (gt xs m) (gt xs h)) (m - a) a m ∧ s.2.1 ≤ s.2.2 + s.1 ∧ a ≤ s.1 ∧ s.1 ≤ s.2.1 ∧ s.2.1 ≤ m) (fun s => s.2.1 - s.1) (a, m, m - a) (subL_cons rfl (subL_cons rfl (subL_cons rfl (subL_cons rfl (subL_cons rfl subL_nil))))) (fun W hm => hm) ⟨(show bsr (fun h => !ltc cf (gt xs m) (gt xs h)) (m - a) a m = bsr (fun h => !ltc cf (gt xs m) (gt xs h)) (m - a) a m from rfl), (show m ≤ (m - a) + a from by omega), (show a ≤ a from by omega), (show a ≤ m from by omega), (show m ≤ m from by omega)⟩ ?_
   rintro ⟨i, j, f0⟩ H16
   obtain ⟨hB, hf5, hf6, hf7, hf8⟩ : bsr (fun h => !ltc cf (gt xs m) (gt xs h)) f0 i j = bsr (fun h => !ltc cf (gt xs m) (gt xs h)) (m - a) a m ∧ j ≤ f0 + i ∧ a ≤ i ∧ i ≤ j ∧ j ≤ m := H16
   show CM Try.prog 220 _ _ _ _ [(0, .slice A n c), (2, .int .i64 ((m : Nat) : Int)), (4, .func (.func fc) #[] #[]), (14, .int .i64 ((i : Nat) : Int)), (15, .int .i64 ((j : Nat) : Int))] (iOwn (tSl (tCk K) 69) [.slice A n c] xs :: is)
   refine CM_seq ?_
   refine sr ?_
   refine wm ?_
   refine wm ?_
   refine wv (fun W hm => rv_lss rfl rfl) ?_
   refine nt' ?_
   by_cases h17 : ((i : Nat) : Int) < ((j : Nat) : Int)
   ·have g18 : (decide (((i : Nat) : Int) < ((j : Nat) : Int))) = true := decide_eq_true h17
    refine CM_condT rfl g18 ?_
    refine CM_skip ?_
    refine QM_then ?_
    refine CM_block ?_
    refine sr ?_
    refine wm ?_
    refine wm ?_
    refine wv (fun W hm => rv_addN (p := i) (q := j) rfl rfl (by omega)) ?_
    refine wv (fun W hm => rv_convIU (p := i + j) Try.underlying3 Try.underlying152 rfl (by omega)) ?_
    refine wv (fun W hm => rv_half rfl) ?_
    refine wv (fun W hm => rv_convUI (p := (i + j) / 2) Try.underlying152 Try.underlying3 rfl (by omega)) ?_
    refine wa ?_
    refine nt' ?_
    refine CM_seq ?_
    refine CM_formO (n := 0) rfl (by omega) ?_
    rintro g19 rfl
    refine CM_regionD (by kernel_rfl) (by kernel_rfl) ?_
    refine qm ?_
    refine qm ?_
    refine qm ?_
    refine qv (fun W hm => rv_index (sz := K.s) (k := m) Try.underlying24 Try.type69 hK.symm rfl rfl (by omega)) ?_
    refine qv (fun W hm => rv_loadCk Try.underlying69 Try.type69 hK.symm rfl hm (by omega)) ?_
    refine qm ?_
    refine qm ?_
    refine qv (fun W hm => rv_index (sz := K.s) (k := (i + j) / 2) Try.underlying24 Try.type69 hK.symm rfl rfl (by omega)) ?_
    refine qv (fun W hm => rv_loadCk Try.underlying69 Try.type69 hK.symm rfl hm (by omega)) ?_
    refine QR_callV (cl_val (first := []) (caps := []) (vs := [.agg (gt xs m).1.toArray, .agg (gt xs ((i + j) / 2)).1.toArray]) (args := [.agg (gt xs m).1.toArray, .agg (gt xs ((i + j) / 2)).1.toArray]) H.cb rfl rfl rfl) (fun W hm => H.go W (gt xs m) (gt xs ((i + j) / 2)) hm.tail (hm.ck (by omega)).1 (hm.ck (by omega)).1) (Wd_none rfl) (by decide) ?_
    refine qv (fun W hm => rv_lss rfl rfl) ?_
    refine qv (fun W hm => rv_not rfl) ?_
    refine nq' ?_
    by_cases h20 : (cf (gt xs m).2 (gt xs ((i + j) / 2)).2) < 0
    ·have g21 : (decide ((cf (gt xs m).2 (gt xs ((i + j) / 2)).2) < 0)) = true := decide_eq_true h20
     refine CM_condF rfl (nt g21) ?_
     refine CM_region ?_
     refine wm ?_
     refine wa ?_
     refine WM_nil ?_
     refine QM_block_normal ?_
     exact QM_round (i, (i + j) / 2, f0 - 1) (subL_cons rfl (subL_cons rfl (subL_cons rfl (subL_cons rfl (subL_cons rfl subL_nil))))) (fun W hm => hm) ⟨(show bsr (fun h => !ltc cf (gt xs m) (gt xs h)) (f0 - 1) i ((i + j) / 2) = bsr (fun h => !ltc cf (gt xs m) (gt xs h)) (m - a) a m from (bsr_f (by omega) hf5 (show (!decide (cf (gt xs m).2 (gt xs ((i + j) / 2)).2 < 0)) = false from by rw [decide_eq_true (show cf (gt xs m).2 (gt xs ((i + j) / 2)).2 < 0 by omega)]; rfl)).symm.trans hB), (show ((i + j) / 2) ≤ (f0 - 1) + i from by omega), (show a ≤ i from by omega), (show i ≤ ((i + j) / 2) from by omega), (show ((i + j) / 2) ≤ m from by omega)⟩ (show ((i + j) / 2) - i < j - i from by omega)
    ·have g21 : (decide ((cf (gt xs m).2 (gt xs ((i + j) / 2)).2) < 0)) = false := decide_eq_false h20
     refine CM_condT rfl (nf g21) ?_
     refine CM_region ?_
     refine wm ?_
     refine wv (fun W hm => rv_addN (p := (i + j) / 2) (q := 1) rfl rfl (by omega)) ?_
     refine wa ?_
     refine WM_nil ?_
     refine QM_block_normal ?_
     exact QM_round ((i + j) / 2 + 1, j, f0 - 1) (subL_cons rfl (subL_cons rfl (subL_cons rfl (subL_cons rfl (subL_cons rfl subL_nil))))) (fun W hm => hm) ⟨(show bsr (fun h => !ltc cf (gt xs m) (gt xs h)) (f0 - 1) ((i + j) / 2 + 1) j = bsr (fun h => !ltc cf (gt xs m) (gt xs h)) (m - a) a m from (bsr_t (by omega) hf5 (show (!decide (cf (gt xs m).2 (gt xs ((i + j) / 2)).2 < 0)) = true from by rw [decide_eq_false (show ¬ cf (gt xs m).2 (gt xs ((i + j) / 2)).2 < 0 by omega)]; rfl)).symm.trans hB), (show j ≤ (f0 - 1) + ((i + j) / 2 + 1) from by omega), (show a ≤ ((i + j) / 2 + 1) from by omega), (show ((i + j) / 2 + 1) ≤ j from by omega), (show j ≤ m from by omega)⟩ (show j - ((i + j) / 2 + 1) < j - i from by omega)
   ·have g18 : (decide (((i : Nat) : Int) < ((j : Nat) : Int))) = false := decide_eq_false h17
    refine CM_condF rfl g18 ?_
    refine CM_exit ?_
    refine QM_then_exit ?_
    refine QM_then_exit ?_
    have hA : bsr (fun h => !ltc cf (gt xs m) (gt xs h)) (m - a) a m = i := hB.symm.trans (bsr_e (by omega))
    refine QM_block_hit ?_
    refine QM_then ?_
    refine CM_seq ?_
    refine sr ?_
    refine wm ?_
    refine wa ?_
    refine nt' ?_
    refine CM_block ?_
    refine CM_loop (σ := Nat × List (List Value × α)) (fun s => [(0, .slice A n c), (14, .int .i64 ((i : Nat) : Int)), (17, .int .i64 ((s.1 : Nat) : Int))]) (fun s => (iOwn (tSl (tCk K) 69) [.slice A n c] s.2 :: is)) (fun s => mvD (s.1 - i) s.1 s.2 = mvD (m - i) m xs ∧ s.1 ≤ m) (fun s => s.1) (m, xs) (subL_cons rfl (subL_cons rfl (subL_cons rfl subL_nil))) (fun W hm => hm) ⟨(show mvD (m - i) m xs = mvD (m - i) m xs from rfl), (show m ≤ m from by omega)⟩ ?_
    rintro ⟨k, d⟩ H22
    obtain ⟨hU, hf9⟩ : mvD (k - i) k d = mvD (m - i) m xs ∧ k ≤ m := H22
    show CM Try.prog 220 _ _ _ _ [(0, .slice A n c), (14, .int .i64 ((i : Nat) : Int)), (17, .int .i64 ((k : Nat) : Int))] (iOwn (tSl (tCk K) 69) [.slice A n c] d :: is)
    refine CM_seq ?_
    refine sr ?_
    refine wm ?_
    refine wm ?_
    refine wv (fun W hm => rv_gtr rfl rfl) ?_
    refine nt' ?_
    by_cases h23 : ((i : Nat) : Int) < ((k : Nat) : Int)
    ·have g24 : (decide (((i : Nat) : Int) < ((k : Nat) : Int))) = true := decide_eq_true h23
     refine CM_condT rfl g24 ?_
     refine CM_skip ?_
     refine QM_then ?_
     refine CM_seq ?_
     refine CM_block ?_
     refine CM_formO (n := 0) rfl (by omega) ?_
     rintro g26 rfl
     refine CM_ck ?_
     intro hR25
     refine CM_cut (σ := Unit) (fun _ => [(0, .slice (some ⟨g26, 0, none⟩) n c), (14, .int .i64 ((i : Nat) : Int)), (17, .int .i64 ((k : Nat) : Int))]) (fun _ => (iOwn (tSl (tCk K) 69) [.slice (some ⟨g26, 0, none⟩) n c] ((d.set k (gt d (k - 1))).set (k - 1) (gt d k)) :: is)) (fun _ => True) ?_ ?_
     ·
      refine rb 18 (s := (is)) (fun W hm => (hm).tail) ?_
      refine qt 18 0 1 rfl (fun W hm => rv_move rfl) ?_
      refine qt 18 1 3 rfl (fun W hm => rv_move rfl) ?_
      refine qt 18 2 7 rfl (fun W hm => rv_move rfl) ?_
      refine qt 18 3 15 rfl (fun W hm => rv_move rfl) ?_
      refine qt 18 4 31 rfl (fun W hm => rv_subN (p := k) (q := 1) rfl rfl (by omega) (by omega)) ?_
      refine qt 18 5 63 rfl (fun W hm => rv_move rfl) ?_
      refine qt 18 6 127 rfl (fun W hm => rv_move rfl) ?_
      refine qt 18 7 255 rfl (fun W hm => rv_subN (p := k) (q := 1) rfl rfl (by omega) (by omega)) ?_
      refine qt 18 8 511 rfl (fun W hm => rv_index (sz := K.s) (k := k - 1) Try.underlying24 Try.type69 hK.symm rfl rfl (by omega)) ?_
      refine qt 18 10 1535 rfl (fun W hm => rv_move rfl) ?_
      refine qt 18 11 3583 rfl (fun W hm => rv_move rfl) ?_
      refine qt 18 12 7679 rfl (fun W hm => rv_index (sz := K.s) (k := k) Try.underlying24 Try.type69 hK.symm rfl rfl (by omega)) ?_
      refine qa [9, 13] ?_
      refine qc 18 8191 rfl ?_ ?_
      ·
       refine wv (fun W hm => rv_loadCk Try.underlying69 Try.type69 hK.symm rfl hm (by omega)) ?_
       refine qn (fun W hm => (hm).tail) ?_
       refine qo 18 13 16383 rfl ?_
       refine wv (fun W hm => rv_loadCk Try.underlying69 Try.type69 hK.symm rfl hm (by omega)) ?_
       refine qn (fun W hm => (hm).tail) ?_
       refine qt 18 14 32767 rfl (fun W hm => rv_index (sz := K.s) (k := k) Try.underlying24 Try.type69 hK.symm rfl rfl (by omega)) ?_
       refine qo 18 15 65535 rfl ?_
       refine WM_setEl (E := tCk K) (e := 69) (u := .agg (gt d (k - 1)).1.toArray) (k := k) (p := g26) (n := n) (xs := d) (eis := []) (js := is) (yv := (gt d (k - 1))) (fun W hm => hm) (fun _ _ hs => ⟨hs, rfl, (hR25 (k - 1) (by omega))⟩) rfl Try.type69 hK.symm (by omega) rfl rfl (Wd_none rfl) ?_
       refine qn (fun W hm => (hm).tail) ?_
       refine qt 18 16 131071 rfl (fun W hm => rv_index (sz := K.s) (k := k - 1) Try.underlying24 Try.type69 hK.symm rfl rfl (by omega)) ?_
       refine qo 18 17 262143 rfl ?_
       refine WM_setEl (E := tCk K) (e := 69) (u := .agg (gt d k).1.toArray) (k := (k - 1)) (p := g26) (n := n) (xs := (d.set k (gt d (k - 1)))) (eis := []) (js := is) (yv := (gt d k)) (fun W hm => hm) (fun _ _ hs => ⟨hs, rfl, (hR25 k (by omega))⟩) rfl Try.type69 hK.symm (by omega) rfl rfl (Wd_none rfl) ?_
       refine qn (fun W hm => (hm).tail) ?_
       refine QB_done (by kernel_rfl) ?_
       exact QM_cut_normal () (subL_cons rfl (subL_cons rfl (subL_cons rfl subL_nil))) (fun W hm => hm) trivial
      refine qc 18 15871 rfl ?_ ?_
      ·
       refine wv (fun W hm => rv_loadCk Try.underlying69 Try.type69 hK.symm rfl hm (by omega)) ?_
       refine qn (fun W hm => (hm).tail) ?_
       refine qo 18 9 16383 rfl ?_
       refine wv (fun W hm => rv_loadCk Try.underlying69 Try.type69 hK.symm rfl hm (by omega)) ?_
       refine qn (fun W hm => (hm).tail) ?_
       refine qt 18 14 32767 rfl (fun W hm => rv_index (sz := K.s) (k := k) Try.underlying24 Try.type69 hK.symm rfl rfl (by omega)) ?_
       refine qo 18 15 65535 rfl ?_
       refine WM_setEl (E := tCk K) (e := 69) (u := .agg (gt d (k - 1)).1.toArray) (k := k) (p := g26) (n := n) (xs := d) (eis := []) (js := is) (yv := (gt d (k - 1))) (fun W hm => hm) (fun _ _ hs => ⟨hs, rfl, (hR25 (k - 1) (by omega))⟩) rfl Try.type69 hK.symm (by omega) rfl rfl (Wd_none rfl) ?_
       refine qn (fun W hm => (hm).tail) ?_
       refine qt 18 16 131071 rfl (fun W hm => rv_index (sz := K.s) (k := k - 1) Try.underlying24 Try.type69 hK.symm rfl rfl (by omega)) ?_
       refine qo 18 17 262143 rfl ?_
       refine WM_setEl (E := tCk K) (e := 69) (u := .agg (gt d k).1.toArray) (k := (k - 1)) (p := g26) (n := n) (xs := (d.set k (gt d (k - 1)))) (eis := []) (js := is) (yv := (gt d k)) (fun W hm => hm) (fun _ _ hs => ⟨hs, rfl, (hR25 k (by omega))⟩) rfl Try.type69 hK.symm (by omega) rfl rfl (Wd_none rfl) ?_
       refine qn (fun W hm => (hm).tail) ?_
       refine QB_done (by kernel_rfl) ?_
       exact QM_cut_normal () (subL_cons rfl (subL_cons rfl (subL_cons rfl subL_nil))) (fun W hm => hm) trivial
      exact QBs_nil
     ·
      rintro ⟨⟩ -
      show QM 220 _ _ _ .normal [(0, .slice (some ⟨g26, 0, none⟩) n c), (14, .int .i64 ((i : Nat) : Int)), (17, .int .i64 ((k : Nat) : Int))] (iOwn (tSl (tCk K) 69) [.slice (some ⟨g26, 0, none⟩) n c] ((d.set k (gt d (k - 1))).set (k - 1) (gt d k)) :: is)
      refine QM_block_normal ?_
      refine QM_then ?_
      refine CM_region ?_
      refine wm ?_
      refine wv (fun W hm => rv_subN (p := k) (q := 1) rfl rfl (by omega) (by omega)) ?_
      refine wa ?_
      refine WM_nil ?_
      exact QM_round (k - 1, ((d.set k (gt d (k - 1))).set (k - 1) (gt d k))) (subL_cons rfl (subL_cons rfl (subL_cons rfl subL_nil))) (fun W hm => hm) ⟨(show mvD ((k - 1) - i) (k - 1) ((d.set k (gt d (k - 1))).set (k - 1) (gt d k)) = mvD (m - i) m xs from (mvD_step (by omega)).symm.trans hU), (show (k - 1) ≤ m from by omega)⟩ (show (k - 1) < k from by omega)
    ·have g24 : (decide (((i : Nat) : Int) < ((k : Nat) : Int))) = false := decide_eq_false h23
     refine CM_condF rfl g24 ?_
     refine CM_exit ?_
     refine QM_then_exit ?_
     refine QM_then_exit ?_
     refine QM_block_hit ?_
     refine QM_then ?_
     refine CM_ret ?_
     refine QM_then_ret ?_
     have hE : symm (ltc cf) (f + 1) a m b xs = d := (symm_b (by omega) (by omega)).trans (by rw [hA]; exact ((mvD_end (by omega)).symm.trans hU).symm)
     exact QM_ret0r rfl (fun W hm => ⟨rfl, by rw [hE]; exact hm⟩)
  ·have g15 : (((b - m : Nat) : Int) == 1) = false := beq_eq_false_iff_ne.2 h14
   refine CM_condF rfl g15 ?_
   refine CM_skip ?_
   refine QM_then ?_
   refine sr ?_
   refine wm ?_
   refine wm ?_
   refine wv (fun W hm => rv_addN (p := a) (q := b) rfl rfl (by omega)) ?_
   refine wv (fun W hm => rv_convIU (p := a + b) Try.underlying3 Try.underlying152 rfl (by omega)) ?_
   refine wv (fun W hm => rv_half rfl) ?_
   refine wv (fun W hm => rv_convUI (p := (a + b) / 2) Try.underlying152 Try.underlying3 rfl (by omega)) ?_
   refine wa ?_
   refine nt' ?_
   refine sr ?_
   refine wm ?_
   refine wm ?_
   refine wv (fun W hm => rv_addN (p := (a + b) / 2) (q := m) rfl rfl (by omega)) ?_
   refine wa ?_
   refine nt' ?_
   refine sr ?_
   refine wa ?_
   refine wa ?_
   refine nt' ?_
   refine CM_seq ?_
   refine sr ?_
   refine wm ?_
   refine wm ?_
   refine wv (fun W hm => rv_gtr rfl rfl) ?_
   refine nt' ?_
   refine CM_cut (σ := Nat × Nat) (fun s => [(0, .slice A n c), (1, .int .i64 ((a : Nat) : Int)), (2, .int .i64 ((m : Nat) : Int)), (3, .int .i64 ((b : Nat) : Int)), (4, .func (.func fc) #[] #[]), (18, .int .i64 (((a + b) / 2 : Nat) : Int)), (19, .int .i64 (((a + b) / 2 + m : Nat) : Int)), (20, .int .i64 ((s.1 : Nat) : Int)), (21, .int .i64 ((s.2 : Nat) : Int))]) (fun _ => (iOwn (tSl (tCk K) 69) [.slice A n c] xs :: is)) (fun s => s.1 = cond (decide ((a + b) / 2 < m)) ((a + b) / 2 + m - b) a ∧ s.2 = cond (decide ((a + b) / 2 < m)) ((a + b) / 2) m ∧ (((a + b) / 2 < m ∧ s.1 = (a + b) / 2 + m - b ∧ s.2 = (a + b) / 2) ∨ (m ≤ (a + b) / 2 ∧ s.1 = a ∧ s.2 = m))) ?_ ?_
   ·
    by_cases h27 : (((a + b) / 2 : Nat) : Int) < ((m : Nat) : Int)
    ·have g28 : (decide ((((a + b) / 2 : Nat) : Int) < ((m : Nat) : Int))) = true := decide_eq_true h27
     refine CM_condT rfl g28 ?_
     refine sr ?_
     refine wm ?_
     refine wm ?_
     refine wv (fun W hm => rv_subN (p := (a + b) / 2 + m) (q := b) rfl rfl (by omega) (by omega)) ?_
     refine wa ?_
     refine nt' ?_
     refine CM_region ?_
     refine wm ?_
     refine wa ?_
     refine WM_nil ?_
     exact QM_cut_normal ((a + b) / 2 + m - b, (a + b) / 2) (subL_cons rfl (subL_cons rfl (subL_cons rfl (subL_cons rfl (subL_cons rfl (subL_cons rfl (subL_cons rfl (subL_cons rfl (subL_cons rfl subL_nil))))))))) (fun W hm => hm) ⟨by rw [decide_eq_true (show (a + b) / 2 < m by omega)]; rfl, by rw [decide_eq_true (show (a + b) / 2 < m by omega)]; rfl, .inl ⟨by omega, rfl, rfl⟩⟩
    ·have g28 : (decide ((((a + b) / 2 : Nat) : Int) < ((m : Nat) : Int))) = false := decide_eq_false h27
     refine CM_condF rfl g28 ?_
     refine sr ?_
     refine wm ?_
     refine wa ?_
     refine nt' ?_
     refine CM_region ?_
     refine wm ?_
     refine wa ?_
     refine WM_nil ?_
     exact QM_cut_normal (a, m) (subL_cons rfl (subL_cons rfl (subL_cons rfl (subL_cons rfl (subL_cons rfl (subL_cons rfl (subL_cons rfl (subL_cons rfl (subL_cons rfl subL_nil))))))))) (fun W hm => hm) ⟨by rw [decide_eq_false (show ¬ (a + b) / 2 < m by omega)]; rfl, by rw [decide_eq_false (show ¬ (a + b) / 2 < m by omega)]; rfl, .inr ⟨by omega, rfl, rfl⟩⟩
   ·
    rintro ⟨s0, r0⟩ ⟨hs0, hr0, hs⟩
    show QM 220 _ _ _ .normal [(0, .slice A n c), (1, .int .i64 ((a : Nat) : Int)), (2, .int .i64 ((m : Nat) : Int)), (3, .int .i64 ((b : Nat) : Int)), (4, .func (.func fc) #[] #[]), (18, .int .i64 (((a + b) / 2 : Nat) : Int)), (19, .int .i64 (((a + b) / 2 + m : Nat) : Int)), (20, .int .i64 ((s0 : Nat) : Int)), (21, .int .i64 ((r0 : Nat) : Int))] (iOwn (tSl (tCk K) 69) [.slice A n c] xs :: is)
    refine QM_then ?_
    refine sr ?_
    refine wm ?_
    refine wv (fun W hm => rv_subN (p := (a + b) / 2 + m) (q := 1) rfl rfl (by omega) (by omega)) ?_
    refine wa ?_
    refine nt' ?_
    refine CM_seq ?_
    refine CM_block ?_
    refine CM_loop (σ := Nat × Nat × Nat) (fun s => [(0, .slice A n c), (1, .int .i64 ((a : Nat) : Int)), (2, .int .i64 ((m : Nat) : Int)), (3, .int .i64 ((b : Nat) : Int)), (4, .func (.func fc) #[] #[]), (18, .int .i64 (((a + b) / 2 : Nat) : Int)), (19, .int .i64 (((a + b) / 2 + m : Nat) : Int)), (20, .int .i64 ((s.1 : Nat) : Int)), (21, .int .i64 ((s.2.1 : Nat) : Int)), (22, .int .i64 (((a + b) / 2 + m - 1 : Nat) : Int))]) (fun s => (iOwn (tSl (tCk K) 69) [.slice A n c] xs :: is)) (fun s => bsr (fun c => !ltc cf (gt xs ((a + b) / 2 + m - 1 - c)) (gt xs c)) s.2.2 s.1 s.2.1 = bsr (fun c => !ltc cf (gt xs ((a + b) / 2 + m - 1 - c)) (gt xs c)) (r0 - s0) s0 r0 ∧ s.2.1 ≤ s.2.2 + s.1 ∧ s0 ≤ s.1 ∧ s.1 ≤ s.2.1 ∧ s.2.1 ≤ r0) (fun s => s.2.1 - s.1) (s0, r0, r0 - s0) (subL_cons rfl (subL_cons rfl (subL_cons rfl (subL_cons rfl (subL_cons rfl (subL_cons rfl (subL_cons rfl (subL_cons rfl (subL_cons rfl (subL_cons rfl subL_nil)))))))))) (fun W hm => hm) ⟨(show bsr (fun c => !ltc cf (gt xs ((a + b) / 2 + m - 1 - c)) (gt xs c)) (r0 - s0) s0 r0 = bsr (fun c => !ltc cf (gt xs ((a + b) / 2 + m - 1 - c)) (gt xs c)) (r0 - s0) s0 r0 from rfl), (show r0 ≤ (r0 - s0) + s0 from by omega), (show s0 ≤ s0 from by omega), (show s0 ≤ r0 from by omega), (show r0 ≤ r0 from by omega)⟩ ?_
    rintro ⟨i, j, f0⟩ H29
    obtain ⟨hB, hf5, hf6, hf7, hf8⟩ : bsr (fun c => !ltc cf (gt xs ((a + b) / 2 + m - 1 - c)) (gt xs c)) f0 i j = bsr (fun c => !ltc cf (gt xs ((a + b) / 2 + m - 1 - c)) (gt xs c)) (r0 - s0) s0 r0 ∧ j ≤ f0 + i ∧ s0 ≤ i ∧ i ≤ j ∧ j ≤ r0 := H29
    show CM Try.prog 220 _ _ _ _ [(0, .slice A n c), (1, .int .i64 ((a : Nat) : Int)), (2, .int .i64 ((m : Nat) : Int)), (3, .int .i64 ((b : Nat) : Int)), (4, .func (.func fc) #[] #[]), (18, .int .i64 (((a + b) / 2 : Nat) : Int)), (19, .int .i64 (((a + b) / 2 + m : Nat) : Int)), (20, .int .i64 ((i : Nat) : Int)), (21, .int .i64 ((j : Nat) : Int)), (22, .int .i64 (((a + b) / 2 + m - 1 : Nat) : Int))] (iOwn (tSl (tCk K) 69) [.slice A n c] xs :: is)
    refine CM_seq ?_
    refine sr ?_
    refine wm ?_
    refine wm ?_
    refine wv (fun W hm => rv_lss rfl rfl) ?_
    refine nt' ?_
    by_cases h30 : ((i : Nat) : Int) < ((j : Nat) : Int)
    ·have g31 : (decide (((i : Nat) : Int) < ((j : Nat) : Int))) = true := decide_eq_true h30
     refine CM_condT rfl g31 ?_
     refine CM_skip ?_
     refine QM_then ?_
     refine CM_block ?_
     refine sr ?_
     refine wm ?_
     refine wm ?_
     refine wv (fun W hm => rv_addN (p := i) (q := j) rfl rfl (by omega)) ?_
     refine wv (fun W hm => rv_convIU (p := i + j) Try.underlying3 Try.underlying152 rfl (by omega)) ?_
     refine wv (fun W hm => rv_half rfl) ?_
     refine wv (fun W hm => rv_convUI (p := (i + j) / 2) Try.underlying152 Try.underlying3 rfl (by omega)) ?_
     refine wa ?_
     refine nt' ?_
     refine CM_seq ?_
     refine CM_formO (n := 0) rfl (by omega) ?_
     rintro g32 rfl
     refine CM_regionD (by kernel_rfl) (by kernel_rfl) ?_
     refine qm ?_
     refine qm ?_
     refine qm ?_
     refine qm ?_
     refine qv (fun W hm => rv_subN (p := (a + b) / 2 + m - 1) (q := (i + j) / 2) rfl rfl (by omega) (by omega)) ?_
     refine qv (fun W hm => rv_index (sz := K.s) (k := (a + b) / 2 + m - 1 - ((i + j) / 2)) Try.underlying24 Try.type69 hK.symm rfl rfl (by omega)) ?_
     refine qv (fun W hm => rv_loadCk Try.underlying69 Try.type69 hK.symm rfl hm (by omega)) ?_
     refine qm ?_
     refine qm ?_
     refine qv (fun W hm => rv_index (sz := K.s) (k := (i + j) / 2) Try.underlying24 Try.type69 hK.symm rfl rfl (by omega)) ?_
     refine qv (fun W hm => rv_loadCk Try.underlying69 Try.type69 hK.symm rfl hm (by omega)) ?_
     refine QR_callV (cl_val (first := []) (caps := []) (vs := [.agg (gt xs ((a + b) / 2 + m - 1 - ((i + j) / 2))).1.toArray, .agg (gt xs ((i + j) / 2)).1.toArray]) (args := [.agg (gt xs ((a + b) / 2 + m - 1 - ((i + j) / 2))).1.toArray, .agg (gt xs ((i + j) / 2)).1.toArray]) H.cb rfl rfl rfl) (fun W hm => H.go W (gt xs ((a + b) / 2 + m - 1 - ((i + j) / 2))) (gt xs ((i + j) / 2)) hm.tail (hm.ck (by omega)).1 (hm.ck (by omega)).1) (Wd_none rfl) (by decide) ?_
     refine qv (fun W hm => rv_lss rfl rfl) ?_
     refine qv (fun W hm => rv_not rfl) ?_
     refine nq' ?_
     by_cases h33 : (cf (gt xs ((a + b) / 2 + m - 1 - ((i + j) / 2))).2 (gt xs ((i + j) / 2)).2) < 0
     ·have g34 : (decide ((cf (gt xs ((a + b) / 2 + m - 1 - ((i + j) / 2))).2 (gt xs ((i + j) / 2)).2) < 0)) = true := decide_eq_true h33
      refine CM_condF rfl (nt g34) ?_
      refine CM_region ?_
      refine wm ?_
      refine wa ?_
      refine WM_nil ?_
      refine QM_block_normal ?_
      exact QM_round (i, (i + j) / 2, f0 - 1) (subL_cons rfl (subL_cons rfl (subL_cons rfl (subL_cons rfl (subL_cons rfl (subL_cons rfl (subL_cons rfl (subL_cons rfl (subL_cons rfl (subL_cons rfl subL_nil)))))))))) (fun W hm => hm) ⟨(show bsr (fun c => !ltc cf (gt xs ((a + b) / 2 + m - 1 - c)) (gt xs c)) (f0 - 1) i ((i + j) / 2) = bsr (fun c => !ltc cf (gt xs ((a + b) / 2 + m - 1 - c)) (gt xs c)) (r0 - s0) s0 r0 from (bsr_f (by omega) hf5 (show (!decide (cf (gt xs ((a + b) / 2 + m - 1 - ((i + j) / 2))).2 (gt xs ((i + j) / 2)).2 < 0)) = false from by rw [decide_eq_true (show cf (gt xs ((a + b) / 2 + m - 1 - ((i + j) / 2))).2 (gt xs ((i + j) / 2)).2 < 0 by omega)]; rfl)).symm.trans hB), (show ((i + j) / 2) ≤ (f0 - 1) + i from by omega), (show s0 ≤ i from by omega), (show i ≤ ((i + j) / 2) from by omega), (show ((i + j) / 2) ≤ r0 from by omega)⟩ (show ((i + j) / 2) - i < j - i from by omega)
     ·have g34 : (decide ((cf (gt xs ((a + b) / 2 + m - 1 - ((i + j) / 2))).2 (gt xs ((i + j) / 2)).2) < 0)) = false := decide_eq_false h33
      refine CM_condT rfl (nf g34) ?_
      refine CM_region ?_
      refine wm ?_
      refine wv (fun W hm => rv_addN (p := (i + j) / 2) (q := 1) rfl rfl (by omega)) ?_
      refine wa ?_
      refine WM_nil ?_
      refine QM_block_normal ?_
      exact QM_round ((i + j) / 2 + 1, j, f0 - 1) (subL_cons rfl (subL_cons rfl (subL_cons rfl (subL_cons rfl (subL_cons rfl (subL_cons rfl (subL_cons rfl (subL_cons rfl (subL_cons rfl (subL_cons rfl subL_nil)))))))))) (fun W hm => hm) ⟨(show bsr (fun c => !ltc cf (gt xs ((a + b) / 2 + m - 1 - c)) (gt xs c)) (f0 - 1) ((i + j) / 2 + 1) j = bsr (fun c => !ltc cf (gt xs ((a + b) / 2 + m - 1 - c)) (gt xs c)) (r0 - s0) s0 r0 from (bsr_t (by omega) hf5 (show (!decide (cf (gt xs ((a + b) / 2 + m - 1 - ((i + j) / 2))).2 (gt xs ((i + j) / 2)).2 < 0)) = true from by rw [decide_eq_false (show ¬ cf (gt xs ((a + b) / 2 + m - 1 - ((i + j) / 2))).2 (gt xs ((i + j) / 2)).2 < 0 by omega)]; rfl)).symm.trans hB), (show j ≤ (f0 - 1) + ((i + j) / 2 + 1) from by omega), (show s0 ≤ ((i + j) / 2 + 1) from by omega), (show ((i + j) / 2 + 1) ≤ j from by omega), (show j ≤ r0 from by omega)⟩ (show j - ((i + j) / 2 + 1) < j - i from by omega)
    ·have g31 : (decide (((i : Nat) : Int) < ((j : Nat) : Int))) = false := decide_eq_false h30
     refine CM_condF rfl g31 ?_
     refine CM_exit ?_
     refine QM_then_exit ?_
     refine QM_then_exit ?_
     have hA : bsr (fun c => !ltc cf (gt xs ((a + b) / 2 + m - 1 - c)) (gt xs c)) (r0 - s0) s0 r0 = i := hB.symm.trans (bsr_e (by omega))
     refine QM_block_hit ?_
     refine QM_then ?_
     refine sr ?_
     refine wm ?_
     refine wm ?_
     refine wv (fun W hm => rv_subN (p := (a + b) / 2 + m) (q := i) rfl rfl (by omega) (by omega)) ?_
     refine wa ?_
     refine nt' ?_
     refine CM_seq ?_
     refine sr ?_
     refine wm ?_
     refine wm ?_
     refine wv (fun W hm => rv_lss rfl rfl) ?_
     refine wm ?_
     by_cases h35 : ((i : Nat) : Int) < ((m : Nat) : Int)
     ·have g36 : (decide (((i : Nat) : Int) < ((m : Nat) : Int))) = true := decide_eq_true h35
      refine wg (fun W hm => rv_move rfl) g36 ?_
      refine wg (fun W hm => rv_move rfl) g36 ?_
      refine wg (fun W hm => rv_lss rfl rfl) g36 ?_
      refine wv (fun W hm => rv_pickT rfl g36 rfl) ?_
      refine nt' ?_
      by_cases h37 : ((m : Nat) : Int) < (((a + b) / 2 + m - i : Nat) : Int)
      ·have g38 : (decide (((m : Nat) : Int) < (((a + b) / 2 + m - i : Nat) : Int))) = true := decide_eq_true h37
       refine CM_condT rfl g38 ?_
       refine CM_region ?_
       refine wm ?_
       refine wm ?_
       refine wm ?_
       refine wm ?_
       refine wm ?_
       refine WM_callW (χ := Unit) (val := fun _ => .tuple #[]) (js := fun _ => (iOwn (tSl (tCk K) 69) [.slice A n c] (rot ((a + b) / 2 + m - i - i) m (m - i) ((a + b) / 2 + m - i - m) xs) :: is)) (cl_fn cb141 rfl) (fun W hm => (srt125_rot_c K hK cf fc B w0 is H A n c hn i m ((a + b) / 2 + m - i) xs (by omega) (by omega) (by omega) W hm).mono (fun _ _ h => ⟨(), h.1, h.2⟩)) (Wd_none rfl) (by decide) (fun _ => ?_)
       refine nt' ?_
       refine CM_seq ?_
       refine sr ?_
       refine wm ?_
       refine wm ?_
       refine wv (fun W hm => rv_lss rfl rfl) ?_
       refine wm ?_
       by_cases h39 : ((a : Nat) : Int) < ((i : Nat) : Int)
       ·have g40 : (decide (((a : Nat) : Int) < ((i : Nat) : Int))) = true := decide_eq_true h39
        refine wg (fun W hm => rv_move rfl) g40 ?_
        refine wg (fun W hm => rv_move rfl) g40 ?_
        refine wg (fun W hm => rv_lss rfl rfl) g40 ?_
        refine wv (fun W hm => rv_pickT rfl g40 rfl) ?_
        refine nt' ?_
        have g41 : (decide (((i : Nat) : Int) < (((a + b) / 2 : Nat) : Int))) = true := decide_eq_true (by omega)
        refine CM_condT rfl g41 ?_
        refine CM_region ?_
        refine wm ?_
        refine wm ?_
        refine wm ?_
        refine wm ?_
        refine wm ?_
        refine WM_callW (χ := Unit) (val := fun _ => .tuple #[]) (js := fun _ => (iOwn (tSl (tCk K) 69) [.slice A n c] (symm (ltc cf) f a i ((a + b) / 2) (rot ((a + b) / 2 + m - i - i) m (m - i) ((a + b) / 2 + m - i - m) xs)) :: is)) (cl_fn cb139 rfl) (fun W hm => (ih a i ((a + b) / 2) (rot ((a + b) / 2 + m - i - i) m (m - i) ((a + b) / 2 + m - i - m) xs) (by omega) (by omega) (by omega) (by omega) W hm).mono (fun _ _ h => ⟨(), h.1, h.2⟩)) (Wd_none rfl) (by decide) (fun _ => ?_)
        refine nt' ?_
        refine sr ?_
        refine wm ?_
        refine wm ?_
        refine wv (fun W hm => rv_lss rfl rfl) ?_
        refine wm ?_
        have g42 : (decide ((((a + b) / 2 : Nat) : Int) < (((a + b) / 2 + m - i : Nat) : Int))) = true := decide_eq_true (by omega)
        refine wg (fun W hm => rv_move rfl) g42 ?_
        refine wg (fun W hm => rv_move rfl) g42 ?_
        refine wg (fun W hm => rv_lss rfl rfl) g42 ?_
        refine wv (fun W hm => rv_pickT rfl g42 rfl) ?_
        refine nt' ?_
        by_cases h43 : (((a + b) / 2 + m - i : Nat) : Int) < ((b : Nat) : Int)
        ·have g44 : (decide ((((a + b) / 2 + m - i : Nat) : Int) < ((b : Nat) : Int))) = true := decide_eq_true h43
         refine CM_condT rfl g44 ?_
         refine CM_region ?_
         refine wm ?_
         refine wm ?_
         refine wm ?_
         refine wm ?_
         refine wm ?_
         refine WM_callW (χ := Unit) (val := fun _ => .tuple #[]) (js := fun _ => (iOwn (tSl (tCk K) 69) [.slice A n c] (symm (ltc cf) f ((a + b) / 2) ((a + b) / 2 + m - i) b (symm (ltc cf) f a i ((a + b) / 2) (rot ((a + b) / 2 + m - i - i) m (m - i) ((a + b) / 2 + m - i - m) xs))) :: is)) (cl_fn cb139 rfl) (fun W hm => (ih ((a + b) / 2) ((a + b) / 2 + m - i) b (symm (ltc cf) f a i ((a + b) / 2) (rot ((a + b) / 2 + m - i - i) m (m - i) ((a + b) / 2 + m - i - m) xs)) (by omega) (by omega) (by omega) (by omega) W hm).mono (fun _ _ h => ⟨(), h.1, h.2⟩)) (Wd_none rfl) (by decide) (fun _ => ?_)
         refine WM_nil ?_
         have hE : symm (ltc cf) (f + 1) a m b xs = (symm (ltc cf) f ((a + b) / 2) ((a + b) / 2 + m - i) b (symm (ltc cf) f a i ((a + b) / 2) (rot ((a + b) / 2 + m - i - i) m (m - i) ((a + b) / 2 + m - i - m) xs))) := symm_c (x1 := (rot ((a + b) / 2 + m - i - i) m (m - i) ((a + b) / 2 + m - i - m) xs)) (x2 := (symm (ltc cf) f a i ((a + b) / 2) (rot ((a + b) / 2 + m - i - i) m (m - i) ((a + b) / 2 + m - i - m) xs))) (x3 := (symm (ltc cf) f ((a + b) / 2) ((a + b) / 2 + m - i) b (symm (ltc cf) f a i ((a + b) / 2) (rot ((a + b) / 2 + m - i - i) m (m - i) ((a + b) / 2 + m - i - m) xs)))) (mid := (a + b) / 2) (n := (a + b) / 2 + m) (s0 := s0) (r0 := r0) (st := i) (en := (a + b) / 2 + m - i) (by omega) (by omega) rfl rfl hs0 hr0 hA.symm rfl ((cond_and_t (by omega) (by omega)).symm) ((cond_and_t (by omega) (by omega)).symm) ((cond_and_t (by omega) (by omega)).symm)
         exact QM_ret0 rfl (fun W hm => ⟨rfl, by rw [hE]; exact hm⟩)
        ·have g44 : (decide ((((a + b) / 2 + m - i : Nat) : Int) < ((b : Nat) : Int))) = false := decide_eq_false h43
         refine CM_condF rfl g44 ?_
         refine CM_skip ?_
         have hE : symm (ltc cf) (f + 1) a m b xs = (symm (ltc cf) f a i ((a + b) / 2) (rot ((a + b) / 2 + m - i - i) m (m - i) ((a + b) / 2 + m - i - m) xs)) := symm_c (x1 := (rot ((a + b) / 2 + m - i - i) m (m - i) ((a + b) / 2 + m - i - m) xs)) (x2 := (symm (ltc cf) f a i ((a + b) / 2) (rot ((a + b) / 2 + m - i - i) m (m - i) ((a + b) / 2 + m - i - m) xs))) (x3 := (symm (ltc cf) f a i ((a + b) / 2) (rot ((a + b) / 2 + m - i - i) m (m - i) ((a + b) / 2 + m - i - m) xs))) (mid := (a + b) / 2) (n := (a + b) / 2 + m) (s0 := s0) (r0 := r0) (st := i) (en := (a + b) / 2 + m - i) (by omega) (by omega) rfl rfl hs0 hr0 hA.symm rfl ((cond_and_t (by omega) (by omega)).symm) ((cond_and_t (by omega) (by omega)).symm) ((cond_and_f (by omega)).symm)
         exact QM_ret0 rfl (fun W hm => ⟨rfl, by rw [hE]; exact hm⟩)
       ·have g40 : (decide (((a : Nat) : Int) < ((i : Nat) : Int))) = false := decide_eq_false h39
        refine ws g40 ?_
        refine ws g40 ?_
        refine ws g40 ?_
        refine wv (fun W hm => rv_pickF rfl g40 rfl) ?_
        refine nt' ?_
        refine CM_condF rfl rfl ?_
        refine CM_skip ?_
        refine QM_then ?_
        refine sr ?_
        refine wm ?_
        refine wm ?_
        refine wv (fun W hm => rv_lss rfl rfl) ?_
        refine wm ?_
        have g45 : (decide ((((a + b) / 2 : Nat) : Int) < (((a + b) / 2 + m - i : Nat) : Int))) = true := decide_eq_true (by omega)
        refine wg (fun W hm => rv_move rfl) g45 ?_
        refine wg (fun W hm => rv_move rfl) g45 ?_
        refine wg (fun W hm => rv_lss rfl rfl) g45 ?_
        refine wv (fun W hm => rv_pickT rfl g45 rfl) ?_
        refine nt' ?_
        by_cases h46 : (((a + b) / 2 + m - i : Nat) : Int) < ((b : Nat) : Int)
        ·have g47 : (decide ((((a + b) / 2 + m - i : Nat) : Int) < ((b : Nat) : Int))) = true := decide_eq_true h46
         refine CM_condT rfl g47 ?_
         refine CM_region ?_
         refine wm ?_
         refine wm ?_
         refine wm ?_
         refine wm ?_
         refine wm ?_
         refine WM_callW (χ := Unit) (val := fun _ => .tuple #[]) (js := fun _ => (iOwn (tSl (tCk K) 69) [.slice A n c] (symm (ltc cf) f ((a + b) / 2) ((a + b) / 2 + m - i) b (rot ((a + b) / 2 + m - i - i) m (m - i) ((a + b) / 2 + m - i - m) xs)) :: is)) (cl_fn cb139 rfl) (fun W hm => (ih ((a + b) / 2) ((a + b) / 2 + m - i) b (rot ((a + b) / 2 + m - i - i) m (m - i) ((a + b) / 2 + m - i - m) xs) (by omega) (by omega) (by omega) (by omega) W hm).mono (fun _ _ h => ⟨(), h.1, h.2⟩)) (Wd_none rfl) (by decide) (fun _ => ?_)
         refine WM_nil ?_
         have hE : symm (ltc cf) (f + 1) a m b xs = (symm (ltc cf) f ((a + b) / 2) ((a + b) / 2 + m - i) b (rot ((a + b) / 2 + m - i - i) m (m - i) ((a + b) / 2 + m - i - m) xs)) := symm_c (x1 := (rot ((a + b) / 2 + m - i - i) m (m - i) ((a + b) / 2 + m - i - m) xs)) (x2 := (rot ((a + b) / 2 + m - i - i) m (m - i) ((a + b) / 2 + m - i - m) xs)) (x3 := (symm (ltc cf) f ((a + b) / 2) ((a + b) / 2 + m - i) b (rot ((a + b) / 2 + m - i - i) m (m - i) ((a + b) / 2 + m - i - m) xs))) (mid := (a + b) / 2) (n := (a + b) / 2 + m) (s0 := s0) (r0 := r0) (st := i) (en := (a + b) / 2 + m - i) (by omega) (by omega) rfl rfl hs0 hr0 hA.symm rfl ((cond_and_t (by omega) (by omega)).symm) ((cond_and_f (by omega)).symm) ((cond_and_t (by omega) (by omega)).symm)
         exact QM_ret0 rfl (fun W hm => ⟨rfl, by rw [hE]; exact hm⟩)
        ·have g47 : (decide ((((a + b) / 2 + m - i : Nat) : Int) < ((b : Nat) : Int))) = false := decide_eq_false h46
         refine CM_condF rfl g47 ?_
         refine CM_skip ?_
         have hE : symm (ltc cf) (f + 1) a m b xs = (rot ((a + b) / 2 + m - i - i) m (m - i) ((a + b) / 2 + m - i - m) xs) := symm_c (x1 := (rot ((a + b) / 2 + m - i - i) m (m - i) ((a + b) / 2 + m - i - m) xs)) (x2 := (rot ((a + b) / 2 + m - i - i) m (m - i) ((a + b) / 2 + m - i - m) xs)) (x3 := (rot ((a + b) / 2 + m - i - i) m (m - i) ((a + b) / 2 + m - i - m) xs)) (mid := (a + b) / 2) (n := (a + b) / 2 + m) (s0 := s0) (r0 := r0) (st := i) (en := (a + b) / 2 + m - i) (by omega) (by omega) rfl rfl hs0 hr0 hA.symm rfl ((cond_and_t (by omega) (by omega)).symm) ((cond_and_f (by omega)).symm) ((cond_and_f (by omega)).symm)
         exact QM_ret0 rfl (fun W hm => ⟨rfl, by rw [hE]; exact hm⟩)
      ·have g38 : (decide (((m : Nat) : Int) < (((a + b) / 2 + m - i : Nat) : Int))) = false := decide_eq_false h37
       refine CM_condF rfl g38 ?_
       refine CM_skip ?_
       refine QM_then ?_
       refine CM_seq ?_
       refine sr ?_
       refine wm ?_
       refine wm ?_
       refine wv (fun W hm => rv_lss rfl rfl) ?_
       refine wm ?_
       by_cases h48 : ((a : Nat) : Int) < ((i : Nat) : Int)
       ·have g49 : (decide (((a : Nat) : Int) < ((i : Nat) : Int))) = true := decide_eq_true h48
        refine wg (fun W hm => rv_move rfl) g49 ?_
        refine wg (fun W hm => rv_move rfl) g49 ?_
        refine wg (fun W hm => rv_lss rfl rfl) g49 ?_
        refine wv (fun W hm => rv_pickT rfl g49 rfl) ?_
        refine nt' ?_
        have g50 : (decide (((i : Nat) : Int) < (((a + b) / 2 : Nat) : Int))) = false := decide_eq_false (by omega)
        refine CM_condF rfl g50 ?_
        refine CM_skip ?_
        refine QM_then ?_
        refine sr ?_
        refine wm ?_
        refine wm ?_
        refine wv (fun W hm => rv_lss rfl rfl) ?_
        refine wm ?_
        have g51 : (decide ((((a + b) / 2 : Nat) : Int) < (((a + b) / 2 + m - i : Nat) : Int))) = true := decide_eq_true (by omega)
        refine wg (fun W hm => rv_move rfl) g51 ?_
        refine wg (fun W hm => rv_move rfl) g51 ?_
        refine wg (fun W hm => rv_lss rfl rfl) g51 ?_
        refine wv (fun W hm => rv_pickT rfl g51 rfl) ?_
        refine nt' ?_
        by_cases h52 : (((a + b) / 2 + m - i : Nat) : Int) < ((b : Nat) : Int)
        ·have g53 : (decide ((((a + b) / 2 + m - i : Nat) : Int) < ((b : Nat) : Int))) = true := decide_eq_true h52
         refine CM_condT rfl g53 ?_
         refine CM_region ?_
         refine wm ?_
         refine wm ?_
         refine wm ?_
         refine wm ?_
         refine wm ?_
         refine WM_callW (χ := Unit) (val := fun _ => .tuple #[]) (js := fun _ => (iOwn (tSl (tCk K) 69) [.slice A n c] (symm (ltc cf) f ((a + b) / 2) ((a + b) / 2 + m - i) b xs) :: is)) (cl_fn cb139 rfl) (fun W hm => (ih ((a + b) / 2) ((a + b) / 2 + m - i) b xs (by omega) (by omega) (by omega) (by omega) W hm).mono (fun _ _ h => ⟨(), h.1, h.2⟩)) (Wd_none rfl) (by decide) (fun _ => ?_)
         refine WM_nil ?_
         have hE : symm (ltc cf) (f + 1) a m b xs = (symm (ltc cf) f ((a + b) / 2) ((a + b) / 2 + m - i) b xs) := symm_c (x1 := xs) (x2 := xs) (x3 := (symm (ltc cf) f ((a + b) / 2) ((a + b) / 2 + m - i) b xs)) (mid := (a + b) / 2) (n := (a + b) / 2 + m) (s0 := s0) (r0 := r0) (st := i) (en := (a + b) / 2 + m - i) (by omega) (by omega) rfl rfl hs0 hr0 hA.symm rfl ((cond_and_f (by omega)).symm) ((cond_and_f (by omega)).symm) ((cond_and_t (by omega) (by omega)).symm)
         exact QM_ret0 rfl (fun W hm => ⟨rfl, by rw [hE]; exact hm⟩)
        ·have g53 : (decide ((((a + b) / 2 + m - i : Nat) : Int) < ((b : Nat) : Int))) = false := decide_eq_false h52
         refine CM_condF rfl g53 ?_
         refine CM_skip ?_
         have hE : symm (ltc cf) (f + 1) a m b xs = xs := symm_c (x1 := xs) (x2 := xs) (x3 := xs) (mid := (a + b) / 2) (n := (a + b) / 2 + m) (s0 := s0) (r0 := r0) (st := i) (en := (a + b) / 2 + m - i) (by omega) (by omega) rfl rfl hs0 hr0 hA.symm rfl ((cond_and_f (by omega)).symm) ((cond_and_f (by omega)).symm) ((cond_and_f (by omega)).symm)
         exact QM_ret0 rfl (fun W hm => ⟨rfl, by rw [hE]; exact hm⟩)
       ·have g49 : (decide (((a : Nat) : Int) < ((i : Nat) : Int))) = false := decide_eq_false h48
        refine ws g49 ?_
        refine ws g49 ?_
        refine ws g49 ?_
        refine wv (fun W hm => rv_pickF rfl g49 rfl) ?_
        refine nt' ?_
        refine CM_condF rfl rfl ?_
        refine CM_skip ?_
        refine QM_then ?_
        refine sr ?_
        refine wm ?_
        refine wm ?_
        refine wv (fun W hm => rv_lss rfl rfl) ?_
        refine wm ?_
        have g54 : (decide ((((a + b) / 2 : Nat) : Int) < (((a + b) / 2 + m - i : Nat) : Int))) = true := decide_eq_true (by omega)
        refine wg (fun W hm => rv_move rfl) g54 ?_
        refine wg (fun W hm => rv_move rfl) g54 ?_
        refine wg (fun W hm => rv_lss rfl rfl) g54 ?_
        refine wv (fun W hm => rv_pickT rfl g54 rfl) ?_
        refine nt' ?_
        by_cases h55 : (((a + b) / 2 + m - i : Nat) : Int) < ((b : Nat) : Int)
        ·have g56 : (decide ((((a + b) / 2 + m - i : Nat) : Int) < ((b : Nat) : Int))) = true := decide_eq_true h55
         refine CM_condT rfl g56 ?_
         refine CM_region ?_
         refine wm ?_
         refine wm ?_
         refine wm ?_
         refine wm ?_
         refine wm ?_
         refine WM_callW (χ := Unit) (val := fun _ => .tuple #[]) (js := fun _ => (iOwn (tSl (tCk K) 69) [.slice A n c] (symm (ltc cf) f ((a + b) / 2) ((a + b) / 2 + m - i) b xs) :: is)) (cl_fn cb139 rfl) (fun W hm => (ih ((a + b) / 2) ((a + b) / 2 + m - i) b xs (by omega) (by omega) (by omega) (by omega) W hm).mono (fun _ _ h => ⟨(), h.1, h.2⟩)) (Wd_none rfl) (by decide) (fun _ => ?_)
         refine WM_nil ?_
         have hE : symm (ltc cf) (f + 1) a m b xs = (symm (ltc cf) f ((a + b) / 2) ((a + b) / 2 + m - i) b xs) := symm_c (x1 := xs) (x2 := xs) (x3 := (symm (ltc cf) f ((a + b) / 2) ((a + b) / 2 + m - i) b xs)) (mid := (a + b) / 2) (n := (a + b) / 2 + m) (s0 := s0) (r0 := r0) (st := i) (en := (a + b) / 2 + m - i) (by omega) (by omega) rfl rfl hs0 hr0 hA.symm rfl ((cond_and_f (by omega)).symm) ((cond_and_f (by omega)).symm) ((cond_and_t (by omega) (by omega)).symm)
         exact QM_ret0 rfl (fun W hm => ⟨rfl, by rw [hE]; exact hm⟩)
        ·have g56 : (decide ((((a + b) / 2 + m - i : Nat) : Int) < ((b : Nat) : Int))) = false := decide_eq_false h55
         refine CM_condF rfl g56 ?_
         refine CM_skip ?_
         have hE : symm (ltc cf) (f + 1) a m b xs = xs := symm_c (x1 := xs) (x2 := xs) (x3 := xs) (mid := (a + b) / 2) (n := (a + b) / 2 + m) (s0 := s0) (r0 := r0) (st := i) (en := (a + b) / 2 + m - i) (by omega) (by omega) rfl rfl hs0 hr0 hA.symm rfl ((cond_and_f (by omega)).symm) ((cond_and_f (by omega)).symm) ((cond_and_f (by omega)).symm)
         exact QM_ret0 rfl (fun W hm => ⟨rfl, by rw [hE]; exact hm⟩)
     ·have g36 : (decide (((i : Nat) : Int) < ((m : Nat) : Int))) = false := decide_eq_false h35
      refine ws g36 ?_
      refine ws g36 ?_
      refine ws g36 ?_
      refine wv (fun W hm => rv_pickF rfl g36 rfl) ?_
      refine nt' ?_
      refine CM_condF rfl rfl ?_
      refine CM_skip ?_
      refine QM_then ?_
      refine CM_seq ?_
      refine sr ?_
      refine wm ?_
      refine wm ?_
      refine wv (fun W hm => rv_lss rfl rfl) ?_
      refine wm ?_
      by_cases h57 : ((a : Nat) : Int) < ((i : Nat) : Int)
      ·have g58 : (decide (((a : Nat) : Int) < ((i : Nat) : Int))) = true := decide_eq_true h57
       refine wg (fun W hm => rv_move rfl) g58 ?_
       refine wg (fun W hm => rv_move rfl) g58 ?_
       refine wg (fun W hm => rv_lss rfl rfl) g58 ?_
       refine wv (fun W hm => rv_pickT rfl g58 rfl) ?_
       refine nt' ?_
       by_cases h59 : ((i : Nat) : Int) < (((a + b) / 2 : Nat) : Int)
       ·have g60 : (decide (((i : Nat) : Int) < (((a + b) / 2 : Nat) : Int))) = true := decide_eq_true h59
        refine CM_condT rfl g60 ?_
        refine CM_region ?_
        refine wm ?_
        refine wm ?_
        refine wm ?_
        refine wm ?_
        refine wm ?_
        refine WM_callW (χ := Unit) (val := fun _ => .tuple #[]) (js := fun _ => (iOwn (tSl (tCk K) 69) [.slice A n c] (symm (ltc cf) f a i ((a + b) / 2) xs) :: is)) (cl_fn cb139 rfl) (fun W hm => (ih a i ((a + b) / 2) xs (by omega) (by omega) (by omega) (by omega) W hm).mono (fun _ _ h => ⟨(), h.1, h.2⟩)) (Wd_none rfl) (by decide) (fun _ => ?_)
        refine nt' ?_
        refine sr ?_
        refine wm ?_
        refine wm ?_
        refine wv (fun W hm => rv_lss rfl rfl) ?_
        refine wm ?_
        have g61 : (decide ((((a + b) / 2 : Nat) : Int) < (((a + b) / 2 + m - i : Nat) : Int))) = false := decide_eq_false (by omega)
        refine ws g61 ?_
        refine ws g61 ?_
        refine ws g61 ?_
        refine wv (fun W hm => rv_pickF rfl g61 rfl) ?_
        refine nt' ?_
        refine CM_condF rfl rfl ?_
        refine CM_skip ?_
        have hE : symm (ltc cf) (f + 1) a m b xs = (symm (ltc cf) f a i ((a + b) / 2) xs) := symm_c (x1 := xs) (x2 := (symm (ltc cf) f a i ((a + b) / 2) xs)) (x3 := (symm (ltc cf) f a i ((a + b) / 2) xs)) (mid := (a + b) / 2) (n := (a + b) / 2 + m) (s0 := s0) (r0 := r0) (st := i) (en := (a + b) / 2 + m - i) (by omega) (by omega) rfl rfl hs0 hr0 hA.symm rfl ((cond_and_f (by omega)).symm) ((cond_and_t (by omega) (by omega)).symm) ((cond_and_f (by omega)).symm)
        exact QM_ret0 rfl (fun W hm => ⟨rfl, by rw [hE]; exact hm⟩)
       ·have g60 : (decide (((i : Nat) : Int) < (((a + b) / 2 : Nat) : Int))) = false := decide_eq_false h59
        refine CM_condF rfl g60 ?_
        refine CM_skip ?_
        refine QM_then ?_
        refine sr ?_
        refine wm ?_
        refine wm ?_
        refine wv (fun W hm => rv_lss rfl rfl) ?_
        refine wm ?_
        have g62 : (decide ((((a + b) / 2 : Nat) : Int) < (((a + b) / 2 + m - i : Nat) : Int))) = false := decide_eq_false (by omega)
        refine ws g62 ?_
        refine ws g62 ?_
        refine ws g62 ?_
        refine wv (fun W hm => rv_pickF rfl g62 rfl) ?_
        refine nt' ?_
        refine CM_condF rfl rfl ?_
        refine CM_skip ?_
        have hE : symm (ltc cf) (f + 1) a m b xs = xs := symm_c (x1 := xs) (x2 := xs) (x3 := xs) (mid := (a + b) / 2) (n := (a + b) / 2 + m) (s0 := s0) (r0 := r0) (st := i) (en := (a + b) / 2 + m - i) (by omega) (by omega) rfl rfl hs0 hr0 hA.symm rfl ((cond_and_f (by omega)).symm) ((cond_and_f (by omega)).symm) ((cond_and_f (by omega)).symm)
        exact QM_ret0 rfl (fun W hm => ⟨rfl, by rw [hE]; exact hm⟩)
      ·have g58 : (decide (((a : Nat) : Int) < ((i : Nat) : Int))) = false := decide_eq_false h57
       refine ws g58 ?_
       refine ws g58 ?_
       refine ws g58 ?_
       refine wv (fun W hm => rv_pickF rfl g58 rfl) ?_
       refine nt' ?_
       refine CM_condF rfl rfl ?_
       refine CM_skip ?_
       refine QM_then ?_
       refine sr ?_
       refine wm ?_
       refine wm ?_
       refine wv (fun W hm => rv_lss rfl rfl) ?_
       refine wm ?_
       have g63 : (decide ((((a + b) / 2 : Nat) : Int) < (((a + b) / 2 + m - i : Nat) : Int))) = false := decide_eq_false (by omega)
       refine ws g63 ?_
       refine ws g63 ?_
       refine ws g63 ?_
       refine wv (fun W hm => rv_pickF rfl g63 rfl) ?_
       refine nt' ?_
       refine CM_condF rfl rfl ?_
       refine CM_skip ?_
       have hE : symm (ltc cf) (f + 1) a m b xs = xs := symm_c (x1 := xs) (x2 := xs) (x3 := xs) (mid := (a + b) / 2) (n := (a + b) / 2 + m) (s0 := s0) (r0 := r0) (st := i) (en := (a + b) / 2 + m - i) (by omega) (by omega) rfl rfl hs0 hr0 hA.symm rfl ((cond_and_f (by omega)).symm) ((cond_and_f (by omega)).symm) ((cond_and_f (by omega)).symm)
       exact QM_ret0 rfl (fun W hm => ⟨rfl, by rw [hE]; exact hm⟩)

set_option maxRecDepth 100000 in
theorem cb136 : Cb Try.prog 136 := ⟨Try.f136, _, Try.func136, rfl, by decide⟩
set_option maxRecDepth 10000 in
set_option maxHeartbeats 4000000 in
theorem srt125_stable_c {α : Type} [Inhabited α] (K : Ck α) (hK : K.s = 2) (cf : α → α → Int) (fc : FuncId) (B : Nat) (w0 : World) (is : List It) (H : CmpOk Try.prog fc K B w0 is cf) (A : Option Addr) (n c : Nat) (hn : n ≤ 68719476736) (xs : List (List Value × α)) (w : World) (hm : Mem B w0 (iOwn (tSl (tCk K) 69) [.slice A n c] xs :: is) w) :
  Calls Try.prog 136 #[.slice A n c, .int .i64 ((n : Nat) : Int), .func (.func fc) #[] #[]] w fun e w' => e = .returned (.tuple #[]) ∧ Mem B w0 (iOwn (tSl (tCk K) 69) [.slice A n c] (mlev (ltc cf) n (n + 1) 20 (blk (ltc cf) n (n + 1) 0 xs)) :: is) w' := by
 refine call_enterW (L := [(0, .slice A n c), (1, .int .i64 ((n : Nat) : Int)), (2, .func (.func fc) #[] #[])]) (N := 63) Try.func136 rfl rfl (Nat.le_of_ble_eq_true rfl) (argsL_cons rfl (argsL_cons rfl (argsL_cons rfl argsL_nil))) hm ?_
 refine sr ?_
 refine wa ?_
 refine nt' ?_
 refine sr ?_
 refine wm ?_
 refine wa ?_
 refine wa ?_
 refine nt' ?_
 refine CM_seq ?_
 refine CM_block ?_
 refine CM_loop (σ := Nat × Nat × Nat × List (List Value × α)) (fun s => [(0, .slice A n c), (1, .int .i64 ((n : Nat) : Int)), (2, .func (.func fc) #[] #[]), (6, .int .i64 20), (7, .int .i64 ((s.1 : Nat) : Int)), (8, .int .i64 ((s.2.1 : Nat) : Int))]) (fun s => (iOwn (tSl (tCk K) 69) [.slice A n c] s.2.2.2 :: is)) (fun s => s.2.1 = s.1 + 20 ∧ n ≤ s.2.2.1 + s.1 ∧ s.1 ≤ n ∧ blk (ltc cf) n s.2.2.1 s.1 s.2.2.2 = blk (ltc cf) n (n + 1) 0 xs) (fun s => n - s.1) (0, 20, n + 1, xs) (subL_cons rfl (subL_cons rfl (subL_cons rfl (subL_cons rfl (subL_cons rfl (subL_cons rfl subL_nil)))))) (fun W hm => hm) ⟨(show 20 = 0 + 20 from by omega), (show n ≤ (n + 1) + 0 from by omega), (show 0 ≤ n from by omega), (show blk (ltc cf) n (n + 1) 0 xs = blk (ltc cf) n (n + 1) 0 xs from rfl)⟩ ?_
 rintro ⟨p, q, f, d⟩ H1
 obtain ⟨hq, hf5, hf6, hF⟩ : q = p + 20 ∧ n ≤ f + p ∧ p ≤ n ∧ blk (ltc cf) n f p d = blk (ltc cf) n (n + 1) 0 xs := H1
 show CM Try.prog 63 _ _ _ _ [(0, .slice A n c), (1, .int .i64 ((n : Nat) : Int)), (2, .func (.func fc) #[] #[]), (6, .int .i64 20), (7, .int .i64 ((p : Nat) : Int)), (8, .int .i64 ((q : Nat) : Int))] (iOwn (tSl (tCk K) 69) [.slice A n c] d :: is)
 subst hq
 refine CM_seq ?_
 refine sr ?_
 refine wm ?_
 refine wm ?_
 refine wv (fun W hm => rv_leq rfl rfl) ?_
 refine nt' ?_
 by_cases h2 : ((p + 20 : Nat) : Int) ≤ ((n : Nat) : Int)
 ·have g3 : (decide (((p + 20 : Nat) : Int) ≤ ((n : Nat) : Int))) = true := decide_eq_true h2
  refine CM_condT rfl g3 ?_
  refine CM_skip ?_
  refine QM_then ?_
  refine CM_block ?_
  refine sr ?_
  refine wm ?_
  refine wm ?_
  refine wm ?_
  refine wm ?_
  refine WM_callW (χ := Unit) (val := fun _ => .tuple #[]) (js := fun _ => (iOwn (tSl (tCk K) 69) [.slice A n c] (insL (ltc cf) p (p + 20 - p - 1) (p + 1) d) :: is)) (cl_fn cb138 rfl) (fun W hm => (srt125_ins_c K hK cf fc B w0 is H A n c hn p (p + 20) d (by omega) (by omega) W hm).mono (fun _ _ h => ⟨(), h.1, h.2⟩)) (Wd_none rfl) (by decide) (fun _ => ?_)
  refine nt' ?_
  refine sr ?_
  refine wm ?_
  refine wa ?_
  refine nt' ?_
  refine CM_region ?_
  refine wm ?_
  refine wm ?_
  refine wv (fun W hm => rv_addN (p := p + 20) (q := 20) rfl rfl (by omega)) ?_
  refine wa ?_
  refine WM_nil ?_
  refine QM_block_normal ?_
  exact QM_round (p + 20, p + 20 + 20, f - 1, (insL (ltc cf) p (p + 20 - p - 1) (p + 1) d)) (subL_cons rfl (subL_cons rfl (subL_cons rfl (subL_cons rfl (subL_cons rfl (subL_cons rfl subL_nil)))))) (fun W hm => hm) ⟨(show (p + 20 + 20) = (p + 20) + 20 from by omega), (show n ≤ (f - 1) + (p + 20) from by omega), (show (p + 20) ≤ n from by omega), (show blk (ltc cf) n (f - 1) (p + 20) (insL (ltc cf) p (p + 20 - p - 1) (p + 1) d) = blk (ltc cf) n (n + 1) 0 xs from (blk_step (by omega) (by omega)).symm.trans hF)⟩ (show n - (p + 20) < n - p from by omega)
 ·have g3 : (decide (((p + 20 : Nat) : Int) ≤ ((n : Nat) : Int))) = false := decide_eq_false h2
  refine CM_condF rfl g3 ?_
  refine CM_exit ?_
  refine QM_then_exit ?_
  refine QM_then_exit ?_
  have hY := (blk_end (lt := ltc cf) (f := f) (xs := d) (show ¬ p + 20 ≤ n by omega)).symm.trans hF
  refine QM_block_hit ?_
  refine QM_then ?_
  refine sr ?_
  refine wm ?_
  refine wm ?_
  refine wm ?_
  refine wm ?_
  refine WM_callW (χ := Unit) (val := fun _ => .tuple #[]) (js := fun _ => (iOwn (tSl (tCk K) 69) [.slice A n c] (insL (ltc cf) p (n - p - 1) (p + 1) d) :: is)) (cl_fn cb138 rfl) (fun W hm => (srt125_ins_c K hK cf fc B w0 is H A n c hn p n d (by omega) (by omega) W hm).mono (fun _ _ h => ⟨(), h.1, h.2⟩)) (Wd_none rfl) (by decide) (fun _ => ?_)
  refine nt' ?_
  refine CM_block ?_
  refine CM_loop (σ := Nat × Nat × List (List Value × α)) (fun s => [(0, .slice A n c), (1, .int .i64 ((n : Nat) : Int)), (2, .func (.func fc) #[] #[]), (6, .int .i64 ((s.1 : Nat) : Int))]) (fun s => (iOwn (tSl (tCk K) 69) [.slice A n c] s.2.2 :: is)) (fun s => 0 < s.1 ∧ n < s.2.1 + s.1 ∧ mlev (ltc cf) n s.2.1 s.1 s.2.2 = mlev (ltc cf) n (n + 1) 20 (blk (ltc cf) n (n + 1) 0 xs)) (fun s => n - s.1) (20, n + 1, (insL (ltc cf) p (n - p - 1) (p + 1) d)) (subL_cons rfl (subL_cons rfl (subL_cons rfl (subL_cons rfl subL_nil)))) (fun W hm => hm) ⟨(show 0 < 20 from by omega), (show n < (n + 1) + 20 from by omega), (show mlev (ltc cf) n (n + 1) 20 (insL (ltc cf) p (n - p - 1) (p + 1) d) = mlev (ltc cf) n (n + 1) 20 (blk (ltc cf) n (n + 1) 0 xs) from by rw [hY])⟩ ?_
  rintro ⟨w, f2, d2⟩ H4
  obtain ⟨hw, hf7, hF2⟩ : 0 < w ∧ n < f2 + w ∧ mlev (ltc cf) n f2 w d2 = mlev (ltc cf) n (n + 1) 20 (blk (ltc cf) n (n + 1) 0 xs) := H4
  show CM Try.prog 63 _ _ _ _ [(0, .slice A n c), (1, .int .i64 ((n : Nat) : Int)), (2, .func (.func fc) #[] #[]), (6, .int .i64 ((w : Nat) : Int))] (iOwn (tSl (tCk K) 69) [.slice A n c] d2 :: is)
  refine CM_seq ?_
  refine sr ?_
  refine wm ?_
  refine wm ?_
  refine wv (fun W hm => rv_lss rfl rfl) ?_
  refine nt' ?_
  by_cases h5 : ((w : Nat) : Int) < ((n : Nat) : Int)
  ·have g6 : (decide (((w : Nat) : Int) < ((n : Nat) : Int))) = true := decide_eq_true h5
   refine CM_condT rfl g6 ?_
   refine CM_skip ?_
   refine QM_then ?_
   refine CM_block ?_
   refine sr ?_
   refine wm ?_
   refine wv (fun W hm => rv_mulN (p := 2) (q := w) rfl rfl (by omega)) ?_
   refine wa ?_
   refine wa ?_
   refine nt' ?_
   refine CM_seq ?_
   refine CM_block ?_
   refine CM_loop (σ := Nat × Nat × Nat × List (List Value × α)) (fun s => [(0, .slice A n c), (1, .int .i64 ((n : Nat) : Int)), (2, .func (.func fc) #[] #[]), (6, .int .i64 ((w : Nat) : Int)), (7, .int .i64 ((s.1 : Nat) : Int)), (8, .int .i64 ((s.2.1 : Nat) : Int))]) (fun s => (iOwn (tSl (tCk K) 69) [.slice A n c] s.2.2.2 :: is)) (fun s => s.2.1 = s.1 + 2 * w ∧ n < s.2.2.1 + s.1 ∧ s.1 ≤ n ∧ mrg (ltc cf) n w s.2.2.1 s.1 s.2.2.2 = mrg (ltc cf) n w (n + 1) 0 d2) (fun s => n - s.1) (0, 2 * w, n + 1, d2) (subL_cons rfl (subL_cons rfl (subL_cons rfl (subL_cons rfl (subL_cons rfl (subL_cons rfl subL_nil)))))) (fun W hm => hm) ⟨(show (2 * w) = 0 + 2 * w from by omega), (show n < (n + 1) + 0 from by omega), (show 0 ≤ n from by omega), (show mrg (ltc cf) n w (n + 1) 0 d2 = mrg (ltc cf) n w (n + 1) 0 d2 from rfl)⟩ ?_
   rintro ⟨p2, q2, f3, d3⟩ H7
   obtain ⟨hq2, hf8, hf9, hF3⟩ : q2 = p2 + 2 * w ∧ n < f3 + p2 ∧ p2 ≤ n ∧ mrg (ltc cf) n w f3 p2 d3 = mrg (ltc cf) n w (n + 1) 0 d2 := H7
   show CM Try.prog 63 _ _ _ _ [(0, .slice A n c), (1, .int .i64 ((n : Nat) : Int)), (2, .func (.func fc) #[] #[]), (6, .int .i64 ((w : Nat) : Int)), (7, .int .i64 ((p2 : Nat) : Int)), (8, .int .i64 ((q2 : Nat) : Int))] (iOwn (tSl (tCk K) 69) [.slice A n c] d3 :: is)
   subst hq2
   refine CM_seq ?_
   refine sr ?_
   refine wm ?_
   refine wm ?_
   refine wv (fun W hm => rv_leq rfl rfl) ?_
   refine nt' ?_
   by_cases h8 : ((p2 + 2 * w : Nat) : Int) ≤ ((n : Nat) : Int)
   ·have g9 : (decide (((p2 + 2 * w : Nat) : Int) ≤ ((n : Nat) : Int))) = true := decide_eq_true h8
    refine CM_condT rfl g9 ?_
    refine CM_skip ?_
    refine QM_then ?_
    refine CM_block ?_
    refine sr ?_
    refine wm ?_
    refine wm ?_
    refine wm ?_
    refine wm ?_
    refine wv (fun W hm => rv_addN (p := p2) (q := w) rfl rfl (by omega)) ?_
    refine wm ?_
    refine wm ?_
    refine WM_callW (χ := Unit) (val := fun _ => .tuple #[]) (js := fun _ => (iOwn (tSl (tCk K) 69) [.slice A n c] (symm (ltc cf) (2 * w) p2 (p2 + w) (p2 + 2 * w) d3) :: is)) (cl_fn cb139 rfl) (fun W hm => (srt125_symm_c K hK cf fc B w0 is H A n c hn (2 * w) p2 (p2 + w) (p2 + 2 * w) d3 (by omega) (by omega) (by omega) (by omega) W hm).mono (fun _ _ h => ⟨(), h.1, h.2⟩)) (Wd_none rfl) (by decide) (fun _ => ?_)
    refine nt' ?_
    refine sr ?_
    refine wm ?_
    refine wa ?_
    refine nt' ?_
    refine CM_region ?_
    refine wm ?_
    refine wm ?_
    refine wv (fun W hm => rv_mulN (p := 2) (q := w) rfl rfl (by omega)) ?_
    refine wv (fun W hm => rv_addN (p := p2 + 2 * w) (q := 2 * w) rfl rfl (by omega)) ?_
    refine wa ?_
    refine WM_nil ?_
    refine QM_block_normal ?_
    exact QM_round (p2 + 2 * w, p2 + 2 * w + 2 * w, f3 - 1, (symm (ltc cf) (2 * w) p2 (p2 + w) (p2 + 2 * w) d3)) (subL_cons rfl (subL_cons rfl (subL_cons rfl (subL_cons rfl (subL_cons rfl (subL_cons rfl subL_nil)))))) (fun W hm => hm) ⟨(show (p2 + 2 * w + 2 * w) = (p2 + 2 * w) + 2 * w from by omega), (show n < (f3 - 1) + (p2 + 2 * w) from by omega), (show (p2 + 2 * w) ≤ n from by omega), (show mrg (ltc cf) n w (f3 - 1) (p2 + 2 * w) (symm (ltc cf) (2 * w) p2 (p2 + w) (p2 + 2 * w) d3) = mrg (ltc cf) n w (n + 1) 0 d2 from (mrg_step (by omega) (by omega)).symm.trans hF3)⟩ (show n - (p2 + 2 * w) < n - p2 from by omega)
   ·have g9 : (decide (((p2 + 2 * w : Nat) : Int) ≤ ((n : Nat) : Int))) = false := decide_eq_false h8
    refine CM_condF rfl g9 ?_
    refine CM_exit ?_
    refine QM_then_exit ?_
    refine QM_then_exit ?_
    have hM := (mrg_end (lt := ltc cf) (xs := d3) (show ¬ p2 + 2 * w ≤ n by omega) hf8 hf9).symm.trans hF3
    refine QM_block_hit ?_
    refine QM_then ?_
    refine CM_seq ?_
    refine sr ?_
    refine wm ?_
    refine wm ?_
    refine wv (fun W hm => rv_addN (p := p2) (q := w) rfl rfl (by omega)) ?_
    refine wa ?_
    refine nt' ?_
    refine sr ?_
    refine wm ?_
    refine wm ?_
    refine wv (fun W hm => rv_lss rfl rfl) ?_
    refine nt' ?_
    by_cases h10 : ((p2 + w : Nat) : Int) < ((n : Nat) : Int)
    ·have g11 : (decide (((p2 + w : Nat) : Int) < ((n : Nat) : Int))) = true := decide_eq_true h10
     refine CM_condT rfl g11 ?_
     refine CM_region ?_
     refine wm ?_
     refine wm ?_
     refine wm ?_
     refine wm ?_
     refine wm ?_
     refine WM_callW (χ := Unit) (val := fun _ => .tuple #[]) (js := fun _ => (iOwn (tSl (tCk K) 69) [.slice A n c] (symm (ltc cf) (n - p2) p2 (p2 + w) n d3) :: is)) (cl_fn cb139 rfl) (fun W hm => (srt125_symm_c K hK cf fc B w0 is H A n c hn (n - p2) p2 (p2 + w) n d3 (by omega) (by omega) (by omega) (by omega) W hm).mono (fun _ _ h => ⟨(), h.1, h.2⟩)) (Wd_none rfl) (by decide) (fun _ => ?_)
     refine nt' ?_
     refine CM_region ?_
     refine wm ?_
     refine wv (fun W hm => rv_mulN (p := w) (q := 2) rfl rfl (by omega)) ?_
     refine wa ?_
     refine WM_nil ?_
     refine QM_block_normal ?_
     exact QM_round (w * 2, f2 - 1, (symm (ltc cf) (n - p2) p2 (p2 + w) n d3)) (subL_cons rfl (subL_cons rfl (subL_cons rfl (subL_cons rfl subL_nil)))) (fun W hm => hm) ⟨(show 0 < (w * 2) from by omega), (show n < (f2 - 1) + (w * 2) from by omega), (show mlev (ltc cf) n (f2 - 1) (w * 2) (symm (ltc cf) (n - p2) p2 (p2 + w) n d3) = mlev (ltc cf) n (n + 1) 20 (blk (ltc cf) n (n + 1) 0 xs) from (congrArg (mlev (ltc cf) n (f2 - 1) (w * 2)) (by rw [decide_eq_true (show p2 + w < n by omega)] at hM; exact hM)).trans ((mlev_step (by omega) (by omega)).symm.trans hF2))⟩ (show n - (w * 2) < n - w from by omega)
    ·have g11 : (decide (((p2 + w : Nat) : Int) < ((n : Nat) : Int))) = false := decide_eq_false h10
     refine CM_condF rfl g11 ?_
     refine CM_skip ?_
     refine QM_then ?_
     refine CM_region ?_
     refine wm ?_
     refine wv (fun W hm => rv_mulN (p := w) (q := 2) rfl rfl (by omega)) ?_
     refine wa ?_
     refine WM_nil ?_
     refine QM_block_normal ?_
     exact QM_round (w * 2, f2 - 1, d3) (subL_cons rfl (subL_cons rfl (subL_cons rfl (subL_cons rfl subL_nil)))) (fun W hm => hm) ⟨(show 0 < (w * 2) from by omega), (show n < (f2 - 1) + (w * 2) from by omega), (show mlev (ltc cf) n (f2 - 1) (w * 2) d3 = mlev (ltc cf) n (n + 1) 20 (blk (ltc cf) n (n + 1) 0 xs) from (congrArg (mlev (ltc cf) n (f2 - 1) (w * 2)) (by rw [decide_eq_false (show ¬ p2 + w < n by omega)] at hM; exact hM)).trans ((mlev_step (by omega) (by omega)).symm.trans hF2))⟩ (show n - (w * 2) < n - w from by omega)
  ·have g6 : (decide (((w : Nat) : Int) < ((n : Nat) : Int))) = false := decide_eq_false h5
   refine CM_condF rfl g6 ?_
   refine CM_exit ?_
   refine QM_then_exit ?_
   refine QM_then_exit ?_
   refine QM_block_hit ?_
   have hE : mlev (ltc cf) n (n + 1) 20 (blk (ltc cf) n (n + 1) 0 xs) = d2 := ((mlev_end (by omega)).symm.trans hF2).symm
   exact QM_ret0 rfl (fun W hm => ⟨rfl, by rw [hE]; exact hm⟩)

set_option maxRecDepth 100000 in
theorem cb125 : Cb Try.prog 125 := ⟨Try.f125, _, Try.func125, rfl, by decide⟩
set_option maxRecDepth 10000 in
set_option maxHeartbeats 4000000 in
theorem srt125_sort_c {α : Type} [Inhabited α] (K : Ck α) (hK : K.s = 2) (cf : α → α → Int) (fc : FuncId) (B : Nat) (w0 : World) (is : List It) (H : CmpOk Try.prog fc K B w0 is cf) (A : Option Addr) (n c : Nat) (hn : n ≤ 68719476736) (xs : List (List Value × α)) (w : World) (hm : Mem B w0 (iOwn (tSl (tCk K) 69) [.slice A n c] xs :: is) w) :
  Calls Try.prog 125 #[.slice A n c, .func (.func fc) #[] #[]] w fun e w' => e = .returned (.tuple #[]) ∧ Mem B w0 (iOwn (tSl (tCk K) 69) [.slice A n c] (mlev (ltc cf) n (n + 1) 20 (blk (ltc cf) n (n + 1) 0 xs)) :: is) w' := by
 refine call_enterW (L := [(0, .slice A n c), (1, .func (.func fc) #[] #[])]) (N := 9) Try.func125 rfl rfl (Nat.le_of_ble_eq_true rfl) (argsL_cons rfl (argsL_cons rfl argsL_nil)) hm ?_
 refine CM_region ?_
 refine wm ?_
 refine wm ?_
 refine wv (fun W hm => rv_len Try.underlying24 rfl) ?_
 refine wm ?_
 refine WM_callW (χ := Unit) (val := fun _ => .tuple #[]) (js := fun _ => (iOwn (tSl (tCk K) 69) [.slice A n c] (mlev (ltc cf) n (n + 1) 20 (blk (ltc cf) n (n + 1) 0 xs)) :: is)) (cl_fn cb136 rfl) (fun W hm => (srt125_stable_c K hK cf fc B w0 is H A n c hn xs W hm).mono (fun _ _ h => ⟨(), h.1, h.2⟩)) (Wd_none rfl) (by decide) (fun _ => ?_)
 refine WM_nil ?_
 have hE : mlev (ltc cf) n (n + 1) 20 (blk (ltc cf) n (n + 1) 0 xs) = (mlev (ltc cf) n (n + 1) 20 (blk (ltc cf) n (n + 1) 0 xs)) := rfl
 exact QM_ret0 rfl (fun W hm => ⟨rfl, by rw [hE]; exact hm⟩)

theorem cmp_int (a b : Int) : cmp_Compare_int_m a b = if a < b then -1 else if b < a then 1 else 0 := by
  unfold cmp_Compare_int_m cmp_isNaN_int_m
  rw [bne_self_eq_false, bne_self_eq_false]
  by_cases h1 : a < b
  · rw [decide_eq_true h1, if_pos h1]; rfl
  · rw [decide_eq_false h1, if_neg h1]
    by_cases h2 : b < a
    · rw [decide_eq_true h2, if_pos h2]; rfl
    · rw [decide_eq_false h2, if_neg h2]; rfl
theorem Compare_lex (x y : List Int) : slices_Compare_int_m x y = lexI x y := by
  unfold slices_Compare_int_m
  have h : ∀ m k, m + k = x.length → Sum.elim id (fun (_ : Unit) => cond (decide (((x.length : Nat) : Int) < ((y.length : Nat) : Int))) (-1) (0 : Int)) (rng (R := Int) (fun k (_ : Unit) => slices_Compare_int_b1 x y k) m k ()) = (if k ≤ y.length then lexI (x.drop k) (y.drop k) else cond (decide (m = 0)) 0 1) := by
    intro m
    induction m with
    | zero =>
      intro k hk
      rw [rng]
      show cond (decide (((x.length : Nat) : Int) < ((y.length : Nat) : Int))) (-1) (0 : Int) = _
      rw [List.drop_of_length_le (l := x) (by omega)]
      by_cases h1 : k ≤ y.length
      · rw [if_pos h1]
        by_cases h2 : x.length < y.length
        · rw [decide_eq_true (by omega), List.drop_eq_getElem_cons (show k < y.length by omega)]; rfl
        · rw [decide_eq_false (by omega), List.drop_of_length_le (l := y) (by omega)]; rfl
      · rw [if_neg h1, decide_eq_false (by omega)]; rfl
    | succ m ih =>
      intro k hk
      rw [rng]
      show Sum.elim id _ (Sum.elim Sum.inl (fun _ => rng _ m (k + 1) ()) (slices_Compare_int_b1 x y k)) = _
      unfold slices_Compare_int_b1
      by_cases h1 : y.length ≤ k
      · rw [decide_eq_true (show ((y.length : Nat) : Int) ≤ ((k : Nat) : Int) by omega)]
        show (1 : Int) = _
        by_cases h2 : k ≤ y.length
        · rw [if_pos h2, List.drop_of_length_le (l := y) (by omega), List.drop_eq_getElem_cons (show k < x.length by omega)]; rfl
        · rw [if_neg h2, decide_eq_false (show ¬ m + 1 = 0 by omega)]; rfl
      · rw [decide_eq_false (show ¬ ((y.length : Nat) : Int) ≤ ((k : Nat) : Int) by omega), if_pos (by omega), List.drop_eq_getElem_cons (show k < x.length by omega), List.drop_eq_getElem_cons (show k < y.length by omega), lexI, ← gt_at, ← gt_at, cmp_int]
        by_cases h2 : gt x k < gt y k
        · simp only [if_pos h2]; rfl
        · simp only [if_neg h2]
          by_cases h3 : gt y k < gt x k
          · simp only [if_pos h3]; rfl
          · simp only [if_neg h3]
            have := ih (k + 1) (by omega)
            rw [if_pos (by omega)] at this
            exact this
  have h0 := h (x.length - 0) 0 (by omega)
  rw [if_pos (Nat.zero_le _)] at h0
  exact h0
theorem rows_lt (x y : DRow) : lt0 impl_SortRows_1_m x y = true ↔ (x.Id < y.Id ∨ (x.Id = y.Id ∧ lexI x.Values y.Values < 0)) := by
  show decide (impl_SortRows_1_m x y < 0) = true ↔ _
  unfold impl_SortRows_1_m
  rw [decide_eq_true_eq, Compare_lex]
  by_cases h1 : x.Id < y.Id
  · rw [decide_eq_true h1]; exact ⟨fun _ => .inl h1, fun _ => show (-1 : Int) < 0 by decide⟩
  · rw [decide_eq_false h1]
    by_cases h2 : y.Id < x.Id
    · rw [decide_eq_true h2]
      refine ⟨fun h => absurd h (show ¬ (1 : Int) < 0 by decide), fun h => ?_⟩
      rcases h with h | h <;> omega
    · rw [decide_eq_false h2]
      exact ⟨fun h => .inr ⟨by omega, h⟩, fun h => by rcases h with h | h; exact absurd h h1; exact h.2⟩
theorem impl_SortRows_1_ord : Ord (lt0 impl_SortRows_1_m) := ord_of rows_lt
  (fun x y h1 h2 => by
    rcases h1 with h1 | ⟨h1, h3⟩
    · rcases h2 with h2 | ⟨h2, _⟩ <;> omega
    · rcases h2 with h2 | ⟨_, h4⟩
      · omega
      · have := lexI_neg _ _ h3; omega)
  (fun x y z h1 h2 h3 => by
    rcases h3 with h3 | ⟨h3, h4⟩
    · rcases Int.lt_trichotomy z.Id y.Id with a | a | a
      · exact h2 (.inl a)
      · exact h1 (.inl (by omega))
      · exact h1 (.inl (by omega))
    · rcases Int.lt_trichotomy z.Id y.Id with a | a | a
      · exact h2 (.inl a)
      · have a1 : 0 ≤ lexI z.Values y.Values := by
          apply Int.not_lt.1; exact fun q => h2 (.inr ⟨a, q⟩)
        have a2 : 0 ≤ lexI y.Values x.Values := by
          apply Int.not_lt.1; exact fun q => h1 (.inr ⟨by omega, q⟩)
        have := lexI_tr _ _ _ a2 a1
        omega
      · exact h1 (.inl (by omega)))
def impl_SortRows_m (x0 : (List DRow)) : (List DRow) :=
 (stb (lt0 impl_SortRows_1_m) x0)
set_option maxRecDepth 100000 in
theorem cb101 : Cb Try.prog 101 := ⟨Try.f101, _, Try.func101, rfl, by decide⟩
set_option maxRecDepth 10000 in
set_option maxHeartbeats 4000000 in
theorem impl_SortRows_c (w : World) (z0 : Value) (x0 : (List DRow)) (r_0 : rdS tyRow w w.heap.size z0 x0) (s_0 : (x0.length ≤ 68719476736 ∧ ∀ y ∈ x0, smRow 68719476736 y)) :
  Calls Try.prog 101 #[z0] w fun e w' => ∃ v : Value, e = .returned (v) ∧ Mem w.heap.size w [iOwn (tSl tyRow 69) [v] (impl_SortRows_m x0)] w' := by
 have r5 := r_0
 obtain ⟨m1, A2, c3, rfl, q4⟩ := r_0
 have l6 : x0.length ≤ 68719476736 := s_0.1
 refine call_enterM (L := [(0, .slice A2 x0.length c3)]) (N := 9) Try.func101 rfl rfl (Nat.le_of_ble_eq_true rfl) (argsL_cons rfl argsL_nil) ?_
 refine sr ?_
 refine wa ?_
 refine nt' ?_
 refine sr ?_
 refine wm ?_
 refine WM_call (χ := Value) (val := fun x => x) (js := fun x => [iOwn (tSl tyRow 69) [x] x0]) (cl_fn cb124 rfl) (fun W hm => impl_copyRows_c2 W _ x0 (hm.rdS0 r5) s_0) (Wd_none rfl) (by decide) (fun z7 => ?_)
 refine WM_form (n := 0) rfl ?_
 rintro A8 c9 rfl m10
 refine wa ?_
 refine nt' ?_
 refine sr ?_
 refine wm ?_
 refine WM_sort (E := tyRow) (e := 69) (xs := x0) (cf := impl_SortRows_1_m) (js := []) impl_SortRows_1_ord (fun W hm => hm) rfl cb126 (cl_fn cb125 rfl) (fun W cs ds x y hx hy => impl_SortRows_1_c W cs x ds y hx hy) (fun K hK is H ps W hm => srt125_sort_c K hK _ _ _ _ is H _ _ _ (by omega) ps W hm) (Wd_none rfl) (by decide) ?_
 refine nt' ?_
 refine sr ?_
 refine wm ?_
 refine wa ?_
 refine nt' ?_
 refine CM_ret ?_
 refine QM_r1 rfl (RR_tmp rfl) (fun W hm => ⟨.slice A8 x0.length c9, ?_, ?_⟩)
 ·first | rw [(show impl_SortRows_m x0 = (stb (lt0 impl_SortRows_1_m) x0) from by unfold impl_SortRows_m; exact rfl)] | rfl
 ·rw [(show impl_SortRows_m x0 = (stb (lt0 impl_SortRows_1_m) x0) from by unfold impl_SortRows_m; exact rfl)]; exact hm

def okI (now : Int) (seen : List DVersion) (v : DVersion) : Bool := spec_l7Version_m v now && seen.all fun w => !(v.Id == w.Id && impl_meetInTime_m v w)
theorem seenF_append (ok : List DVersion → DVersion → Bool) : ∀ (s t seen : List DVersion), seenF ok seen (s ++ t) = (seenF ok seen s && seenF ok (seen ++ s) t)
  | [], t, seen => by simp [seenF]
  | v :: s, t, seen => by
    show (ok seen v && seenF ok (seen ++ [v]) (s ++ t)) = _
    rw [seenF_append ok s t]
    simp [seenF, Bool.and_assoc]
theorem chkF_seen (ok : List DVersion → DVersion → Bool) : ∀ (l seen : List DVersion), chkF (fun d v => ok d v) (fun d v => d ++ [v]) l seen = cond (seenF ok seen l) (some (seen ++ l)) none
  | [], seen => by simp [chkF, seenF]
  | v :: l, seen => by
    rw [chkF, chkF_seen ok l]
    show _ = cond (ok seen v && seenF ok (seen ++ [v]) l) _ _
    cases ok seen v <;> simp
theorem Version_eq (v : DVersion) (now : Int) : spec_l7Version_m v now = (spec_IsRow_m (⟨v.Id, v.Values⟩ : DRow) && decide (0 ≤ v.Born ∧ v.Born ≤ now) && (v.Died == (-1) || decide (IntKind.i64.wrap (v.Born + 1) ≤ v.Died ∧ v.Died ≤ now))) := by
  unfold spec_l7Version_m
  rw [spec_l1In_iff, spec_l1In_iff]
  cases spec_IsRow_m (⟨v.Id, v.Values⟩ : DRow) <;> cases decide (0 ≤ v.Born ∧ v.Born ≤ now) <;> cases v.Died == (-1) <;> rfl
theorem impl_Store_b34 (x : DStore) (i j : Nat) (d : List DVersion) : rng (R := Bool) (fun k (_ : Unit) => impl_IsStore_b3 x i j d k) (d.length - 0) 0 () = cond (d.all fun w => !((gt (gt x.Segments i) j).Id == w.Id && impl_meetInTime_m (gt (gt x.Segments i) j) w)) (.inr ()) (.inl false) :=
  rng_allB fun k _ => by
    unfold impl_IsStore_b3
    cases (gt (gt x.Segments i) j).Id == (gt d k).Id <;> cases impl_meetInTime_m (gt (gt x.Segments i) j) (gt d k) <;> rfl
theorem impl_Store_b2 (x : DStore) (i j : Nat) (d : List DVersion) : impl_IsStore_b2 x i j d = cond (okI x.Now d (gt (gt x.Segments i) j)) (.inr (d ++ [gt (gt x.Segments i) j])) (.inl false) := by
  have h4 : (fun k (_ : Unit) => impl_IsStore_b4 x i j d k) = fun k (_ : Unit) => impl_IsStore_b3 x i j d k := rfl
  unfold impl_IsStore_b2 okI
  rw [h4, impl_Store_b34, Version_eq, impl_within_iff, impl_within_iff]
  have hr : impl_IsRow_m (impl_rowOf_m (gt (gt x.Segments i) j)) = spec_IsRow_m (⟨(gt (gt x.Segments i) j).Id, (gt (gt x.Segments i) j).Values⟩ : DRow) := rfl
  rw [hr]
  have hn : ((gt (gt x.Segments i) j).Died != (-1)) = !((gt (gt x.Segments i) j).Died == (-1)) := rfl
  rw [hn]
  cases spec_IsRow_m (⟨(gt (gt x.Segments i) j).Id, (gt (gt x.Segments i) j).Values⟩ : DRow) <;> cases decide (0 ≤ (gt (gt x.Segments i) j).Born ∧ (gt (gt x.Segments i) j).Born ≤ x.Now) <;> cases (gt (gt x.Segments i) j).Died == (-1) <;>
    cases decide (IntKind.i64.wrap ((gt (gt x.Segments i) j).Born + 1) ≤ (gt (gt x.Segments i) j).Died ∧ (gt (gt x.Segments i) j).Died ≤ x.Now) <;> cases (d.all fun w => !((gt (gt x.Segments i) j).Id == w.Id && impl_meetInTime_m (gt (gt x.Segments i) j) w)) <;> rfl
theorem impl_Store_b1 (x : DStore) (i : Nat) (d : List DVersion) : impl_IsStore_b1 x i d = cond (decide ((gt x.Segments i).length ≤ 4) && seenF (okI x.Now) d (gt x.Segments i)) (.inr (d ++ gt x.Segments i)) (.inl false) := by
  unfold impl_IsStore_b1
  rw [rng_chk (xs := gt x.Segments i) (r := false) (c := fun d v => okI x.Now d v) (f := fun d v => d ++ [v]) (fun j s _ => impl_Store_b2 x i j s), chkF_seen]
  by_cases h : (gt x.Segments i).length ≤ 4
  · rw [decide_eq_true h, decide_eq_false (show ¬ 4 < ((gt x.Segments i).length : Int) by omega)]
    cases seenF (okI x.Now) d (gt x.Segments i) <;> rfl
  · rw [decide_eq_false h, decide_eq_true (show 4 < ((gt x.Segments i).length : Int) by omega)]
    rfl
theorem chkF_segs (ok : List DVersion → DVersion → Bool) : ∀ (l : List (List DVersion)) (d : List DVersion), chkF (fun d s => decide (s.length ≤ 4) && seenF ok d s) (fun d s => d ++ s) l d = cond (l.all (fun s => decide (s.length ≤ 4)) && seenF ok d l.flatten) (some (d ++ l.flatten)) none
  | [], d => by simp [chkF, seenF]
  | s :: l, d => by
    rw [chkF, chkF_segs ok l, List.flatten_cons, seenF_append, List.all_cons]
    cases decide (s.length ≤ 4) <;> cases seenF ok d s <;> cases l.all (fun s => decide (s.length ≤ 4)) <;> simp
theorem impl_IsStore_form (x : DStore) : impl_IsStore_m x = storeB (okI x.Now) x := by
  unfold impl_IsStore_m storeB
  rw [rng_chk (xs := x.Segments) (r := false) (c := fun d s => decide (s.length ≤ 4) && seenF (okI x.Now) d s) (f := fun d s => d ++ s) (fun j s _ => impl_Store_b1 x j s), chkF_segs, impl_within_iff, impl_within_iff]
  cases decide (1 ≤ (x.Segments.length : Int) ∧ (x.Segments.length : Int) ≤ 8) <;> cases decide (0 ≤ x.Now ∧ x.Now ≤ 100000) <;> cases x.Segments.all (fun s => decide (s.length ≤ 4)) <;> cases seenF (okI x.Now) [] x.Segments.flatten <;> rfl
theorem segRows_form (x : DStore) (i : Nat) (t : Int) : impl_segmentRows_m x ((i : Nat) : Int) t = segR (fun v => impl_IsVisible_m v t) (gt x.Segments i) := by
  unfold impl_segmentRows_m
  rw [Int.toNat_natCast]
  rw [rng_fold (xs := gt x.Segments i) (f := fun d v => cond (impl_IsVisible_m v t) (d ++ [(⟨v.Id, v.Values⟩ : DRow)]) d) (b := fun k s => impl_segmentRows_b1 x ((i : Nat) : Int) t k s) (fun j s _ => by unfold impl_segmentRows_b1; rw [Int.toNat_natCast]; cases impl_IsVisible_m (gt (gt x.Segments i) j) t <;> rfl), foldl_filterMap]
  rfl
theorem segRows_len (x : DStore) (i : Nat) (t : Int) : (impl_segmentRows_m x ((i : Nat) : Int) t).length ≤ (gt x.Segments i).length := by
  rw [segRows_form]; exact segR_len _ _
theorem segRows_sm {B : Nat} {x : DStore} {i : Nat} (h : smStore B x) (hi : i < x.Segments.length) (t : Int) : ∀ y ∈ impl_segmentRows_m x ((i : Nat) : Int) t, smRow B y := by
  rw [segRows_form]
  exact segR_sm (h.2 _ (gt_mem hi)).2
def impl_RowsAt_b1 (x0 : DStore) (x1 : Int) (k14 : Nat) (d15 : (List DRow)) : (List DRow) ⊕ ((List DRow)) :=
 Sum.inr (d15 ++ (impl_segmentRows_m x0 ((k14 : Nat) : Int) x1))
def impl_RowsAt_m (x0 : DStore) (x1 : Int) : (List DRow) :=
 cond (impl_IsStore_m x0) (Sum.elim id (fun (s : (List DRow)) => (impl_SortRows_m s)) (rng (R := (List DRow)) (fun k (s : (List DRow)) => impl_RowsAt_b1 x0 x1 k s) (x0.Segments.length - 0) 0 [])) []
set_option maxRecDepth 100000 in
theorem cb55 : Cb Try.prog 55 := ⟨Try.f55, _, Try.func55, rfl, by decide⟩
set_option maxRecDepth 10000 in
set_option maxHeartbeats 4000000 in
theorem impl_RowsAt_c (w : World) (z0 : List Value) (x0 : DStore) (x1 : Int) (r_0 : tyStore.rd w w.heap.size z0 x0) (s_0 : smStore 68719476736 x0) :
  Calls Try.prog 55 #[.agg z0.toArray, .int .i64 x1] w fun e w' => ∃ v : Value, e = .returned (v) ∧ Mem w.heap.size w [iOwn (tSl tyRow 69) [v] (impl_RowsAt_m x0 x1)] w' := by
 obtain ⟨v1, rfl, r2⟩ := tyStore_rd r_0
 have r7 := r2
 obtain ⟨m3, A4, c5, rfl, q6⟩ := r2
 have l8 : x0.Segments.length ≤ 68719476736 := s_0.1
 refine call_enterM (L := [(0, .agg #[.slice A4 x0.Segments.length c5, .int .i64 x0.Now]), (1, .int .i64 x1)]) (N := 27) Try.func55 rfl rfl (Nat.le_of_ble_eq_true rfl) (argsL_cons rfl (argsL_cons rfl argsL_nil)) ?_
 refine sr ?_
 refine WM_box rfl (Wd_none rfl) (by decide) (fun p9 => ?_)
 refine wa ?_
 refine nt' ?_
 refine sr ?_
 refine WM_build0 (E := tyRow) Try.underlying24 Try.type69 (Wd_none rfl) (by decide) (fun p10 => ?_)
 refine wa ?_
 refine nt' ?_
 refine CM_seq ?_
 refine sr ?_
 refine wv (fun W hm => rv_loadN (cs := [.slice A4 x0.Segments.length c5, .int .i64 x0.Now]) Try.underlying45 Try.type45 rfl rfl (hm.boxCells (n := 1) rfl)) ?_
 refine WM_callV (cl_fn cb73 rfl) (fun W hm => impl_IsStore_c W _ x0 (tyStore_mk (x := x0) (hm.rdS0 r7)) s_0) (Wd_none rfl) (by decide) ?_
 refine wv (fun W hm => rv_not rfl) ?_
 refine nt' ?_
 rcases Bool.eq_false_or_eq_true (impl_IsStore_m x0) with g13 | g13
 ·
  have HQ := storeB_hq (ok := okI x0.Now) (by rw [← impl_IsStore_form]; exact g13)
  refine CM_condF rfl (nt g13) ?_
  refine CM_skip ?_
  refine QM_then ?_
  refine CM_seq ?_
  refine sr ?_
  refine wv (fun W hm => rv_field Try.underlying45 rfl Try.type43 (by decide) rfl rfl) ?_
  refine wv (fun W hm => rv_load Try.underlying43 rfl rfl (hm.boxCell (n := 1) (o := 0) rfl rfl)) ?_
  refine wv (fun W hm => rv_len Try.underlying43 rfl) ?_
  refine wm ?_
  refine nt' ?_
  refine CM_block ?_
  refine CM_loop (σ := Nat × ((List DRow)) × (Option Addr × Nat)) (fun s => [(1, .int .i64 x1), (2, .pointer (some (⟨p9, 0, none⟩ : Addr))), (5, .slice s.2.2.1 s.2.1.length s.2.2.2), (14, .int .i64 ((x0.Segments.length : Nat) : Int)), (15, .int .i64 ((s.1 : Nat) : Int))]) (fun s => [iOwn (tSl tyRow 69) [.slice s.2.2.1 s.2.1.length s.2.2.2] s.2.1, iBox p9 45 [.slice A4 x0.Segments.length c5, .int .i64 x0.Now]]) (fun s => s.1 ≤ x0.Segments.length ∧ rng (R := (List DRow)) (fun k (s : (List DRow)) => impl_RowsAt_b1 x0 x1 k s) (x0.Segments.length - s.1) s.1 s.2.1 = rng (R := (List DRow)) (fun k (s : (List DRow)) => impl_RowsAt_b1 x0 x1 k s) (x0.Segments.length - 0) 0 [] ∧ s.2.1.length ≤ ((x0.Segments.take s.1).map List.length).sum ∧ ∀ y ∈ s.2.1, smRow 68719476736 y) (fun s => x0.Segments.length - s.1) (0, [], ((some ⟨p10, 0, none⟩), 0)) (subL_cons rfl (subL_cons rfl (subL_cons rfl (subL_cons rfl (subL_cons rfl subL_nil))))) (fun W hm => hm) ⟨(by omega), rfl, Nat.zero_le _, fun _ h => by cases h⟩ ?_
  rintro ⟨k14, d15, ⟨A16, c17⟩⟩ H20
  obtain ⟨hk18, hF19, hi21, hi22⟩ : k14 ≤ x0.Segments.length ∧ rng (R := (List DRow)) (fun k (s : (List DRow)) => impl_RowsAt_b1 x0 x1 k s) (x0.Segments.length - k14) k14 d15 = rng (R := (List DRow)) (fun k (s : (List DRow)) => impl_RowsAt_b1 x0 x1 k s) (x0.Segments.length - 0) 0 [] ∧ d15.length ≤ ((x0.Segments.take k14).map List.length).sum ∧ ∀ y ∈ d15, smRow 68719476736 y := H20
  show CM Try.prog 27 _ _ _ _ [(1, .int .i64 x1), (2, .pointer (some (⟨p9, 0, none⟩ : Addr))), (5, .slice A16 d15.length c17), (14, .int .i64 ((x0.Segments.length : Nat) : Int)), (15, .int .i64 ((k14 : Nat) : Int))] [iOwn (tSl tyRow 69) [.slice A16 d15.length c17] d15, iBox p9 45 [.slice A4 x0.Segments.length c5, .int .i64 x0.Now]]
  refine sr ?_
  refine wv (fun W hm => rv_lss rfl rfl) ?_
  refine nt' ?_
  refine CM_seq ?_
  by_cases hl23 : k14 < x0.Segments.length
  ·have g24 : (decide (((k14 : Nat) : Int) < ((x0.Segments.length : Nat) : Int))) = true := decide_eq_true (by omega)
   have hq1 := sum_take_succ (w := List.length) (xs := x0.Segments) (j := k14) (by omega)
   have hq2 := sum_take_le (w := List.length) (xs := x0.Segments) (k14 + 1)
   have hq3 := segRows_len x0 k14 x1
   refine CM_condT rfl g24 ?_
   refine CM_skip ?_
   refine QM_then ?_
   refine CM_seq ?_
   refine CM_block ?_
   refine sr ?_
   refine wm ?_
   refine wa ?_
   refine nt' ?_
   refine CM_region ?_
   refine wm ?_
   refine wv (fun W hm => rv_loadN (cs := [.slice A4 x0.Segments.length c5, .int .i64 x0.Now]) Try.underlying45 Try.type45 rfl rfl (hm.boxCells (n := 1) rfl)) ?_
   refine wm ?_
   refine wm ?_
   refine WM_call (χ := Value) (val := fun x => x) (js := fun x => [iOwn (tSl tyRow 69) [x] (impl_segmentRows_m x0 ((k14 : Nat) : Int) x1)]) (cl_fn cb100 rfl) (fun W hm => impl_segmentRows_c W _ x0 ((k14 : Nat) : Int) x1 (tyStore_mk (x := x0) (hm.rdS0 r7)) s_0 (⟨by omega, by omega⟩)) (Wd_none rfl) (by decide) (fun z25 => ?_)
   refine WM_form (n := 0) rfl ?_
   rintro A26 c27 rfl m28
   refine WM_appendM (E := tyRow) (e := 69) (v := .slice A16 d15.length c17) (u := .slice A26 (impl_segmentRows_m x0 ((k14 : Nat) : Int) x1).length c27) (xs := d15) (ys := (impl_segmentRows_m x0 ((k14 : Nat) : Int) x1)) (js := [iBox p9 45 [.slice A4 x0.Segments.length c5, .int .i64 x0.Now]]) (fun W hm => (hm.pick [1, 0, 2] (by decide))) Try.underlying24 Try.type69 rfl rfl rfl (Nat.le_of_ble_eq_true rfl) rfl rfl (show (d15.length + (impl_segmentRows_m x0 ((k14 : Nat) : Int) x1).length) * 32 ≤ 140737488355328 from by first | omega | (simp only [List.length_append, List.length_cons, List.length_nil, List.length_take, List.length_drop] at *; omega)) (show d15.length + (impl_segmentRows_m x0 ((k14 : Nat) : Int) x1).length ≤ 9223372036854775807 from by first | omega | (simp only [List.length_append, List.length_cons, List.length_nil, List.length_take, List.length_drop] at *; omega)) (Wd_none rfl) (by decide) (fun v30 => ?_)
   refine WM_form (n := 0) rfl ?_
   rintro A31 c32 rfl m33
   refine wa ?_
   refine WM_nil ?_
   refine QM_block_normal ?_
   refine QM_then ?_
   refine CM_region ?_
   refine wv (fun W hm => rv_addN (p := k14) (q := 1) rfl rfl (by omega)) ?_
   refine wm ?_
   refine WM_nil ?_
   have hn35 := rng_next (R := (List DRow)) (body := (fun k (s : (List DRow)) => impl_RowsAt_b1 x0 x1 k s)) (k := k14) (s := d15) (s' := (d15 ++ (impl_segmentRows_m x0 ((k14 : Nat) : Int) x1))) (show k14 < x0.Segments.length from by omega) (show impl_RowsAt_b1 x0 x1 k14 d15 = Sum.inr (d15 ++ (impl_segmentRows_m x0 ((k14 : Nat) : Int) x1)) from by unfold impl_RowsAt_b1; exact rfl) hF19
   exact QM_round (k14 + 1, (d15 ++ (impl_segmentRows_m x0 ((k14 : Nat) : Int) x1)), (A31, c32)) (subL_cons rfl (subL_cons rfl (subL_cons rfl (subL_cons rfl (subL_cons rfl subL_nil))))) (fun W hm => hm) ⟨(by omega), hn35, (show (d15 ++ (impl_segmentRows_m x0 ((k14 : Nat) : Int) x1)).length ≤ ((x0.Segments.take (k14 + 1)).map List.length).sum from by rw [List.length_append]; omega), (show ∀ y ∈ (d15 ++ (impl_segmentRows_m x0 ((k14 : Nat) : Int) x1)), smRow 68719476736 y from by intro y hy; rcases List.mem_append.1 hy with hy | hy; exact hi22 y hy; exact segRows_sm s_0 (by omega) x1 y hy)⟩ (show x0.Segments.length - (k14 + 1) < x0.Segments.length - k14 from by omega)
  ·have g24 : (decide (((k14 : Nat) : Int) < ((x0.Segments.length : Nat) : Int))) = false := decide_eq_false (by omega)
   refine CM_condF rfl g24 ?_
   refine CM_exit ?_
   refine QM_then_exit ?_
   refine QM_then_exit ?_
   have hE36 : rng (R := (List DRow)) (fun k (s : (List DRow)) => impl_RowsAt_b1 x0 x1 k s) (x0.Segments.length - 0) 0 [] = Sum.inr d15 := rng_end hl23 hF19
   have hq4 := sum_take_le (w := List.length) (xs := x0.Segments) k14
   have hsm : d15.length ≤ 68719476736 ∧ ∀ y ∈ d15, smRow 68719476736 y := ⟨by omega, hi22⟩
   refine QM_block_hit ?_
   refine QM_then ?_
   refine sr ?_
   refine wm ?_
   refine WM_call (χ := Value) (val := fun x => x) (js := fun x => [iOwn (tSl tyRow 69) [x] (impl_SortRows_m d15)]) (cl_fn cb101 rfl) (fun W hm => impl_SortRows_c W _ d15 (hm.rdSI (n := 0) rfl) hsm) (Wd_none rfl) (by decide) (fun z37 => ?_)
   refine WM_form (n := 0) rfl ?_
   rintro A38 c39 rfl m40
   refine wa ?_
   refine nt' ?_
   refine CM_ret ?_
   refine QM_r1 rfl (RR_tmp rfl) (fun W hm => ⟨.slice A38 (impl_SortRows_m d15).length c39, ?_, ?_⟩)
   ·first | rw [(show impl_RowsAt_m x0 x1 = (impl_SortRows_m d15) from by unfold impl_RowsAt_m; exact cond_t g13 (fin_inr hE36 (rfl)))] | rfl
   ·rw [(show impl_RowsAt_m x0 x1 = (impl_SortRows_m d15) from by unfold impl_RowsAt_m; exact cond_t g13 (fin_inr hE36 (rfl)))]; exact (hm.pick [0] (by decide))
 ·
  refine CM_condT rfl (nf g13) ?_
  refine sr ?_
  refine wm ?_
  refine wa ?_
  refine nt' ?_
  refine CM_ret ?_
  refine QM_then_ret ?_
  refine QM_r1 rfl (RR_tmp rfl) (fun W hm => ⟨.slice (some ⟨p10, 0, none⟩) 0 0, ?_, ?_⟩)
  ·first | rw [(show impl_RowsAt_m x0 x1 = [] from by unfold impl_RowsAt_m; exact cond_f g13 (rfl))] | rfl
  ·rw [(show impl_RowsAt_m x0 x1 = [] from by unfold impl_RowsAt_m; exact cond_f g13 (rfl))]; exact (hm.pick [0] (by decide))

def laws_eqIntS_b1 (x0 : (List Int)) (x1 : (List Int)) (k13 : Nat) : Bool ⊕ (Unit) :=
 cond ((gt x0 k13) != (gt x1 k13)) (Sum.inl false) (Sum.inr ())
def laws_eqIntS_m (x0 : (List Int)) (x1 : (List Int)) : Bool :=
 cond (((x0.length : Nat) : Int) != ((x1.length : Nat) : Int)) false (Sum.elim id (fun (s : Unit) => true) (rng (R := Bool) (fun k (_ : Unit) => laws_eqIntS_b1 x0 x1 k) (x0.length - 0) 0 ()))
set_option maxRecDepth 100000 in
theorem cb23 : Cb Try.prog 23 := ⟨Try.f23, _, Try.func23, rfl, by decide⟩
set_option maxRecDepth 10000 in
set_option maxHeartbeats 4000000 in
theorem laws_eqIntS_c (w : World) (z0 : Value) (x0 : (List Int)) (z1 : Value) (x1 : (List Int)) (r_0 : rdS tInt w w.heap.size z0 x0) (r_1 : rdS tInt w w.heap.size z1 x1) :
  Calls Try.prog 23 #[z0, z1] w fun e w' => e = .returned (.bool (laws_eqIntS_m x0 x1)) ∧ Below w.heap.size w w' := by
 have r5 := r_0
 obtain ⟨m1, A2, c3, rfl, q4⟩ := r_0
 have r10 := r_1
 obtain ⟨m6, A7, c8, rfl, q9⟩ := r_1
 refine call_enterM (L := [(0, .slice A2 x0.length c3), (1, .slice A7 x1.length c8)]) (N := 26) Try.func23 rfl rfl (Nat.le_of_ble_eq_true rfl) (argsL_cons rfl (argsL_cons rfl argsL_nil)) ?_
 refine sr ?_
 refine wa ?_
 refine nt' ?_
 refine CM_seq ?_
 refine sr ?_
 refine wm ?_
 refine wv (fun W hm => rv_len Try.underlying33 rfl) ?_
 refine wm ?_
 refine wv (fun W hm => rv_len Try.underlying33 rfl) ?_
 refine wv (fun W hm => rv_neq rfl rfl) ?_
 refine nt' ?_
 by_cases h11 : ((x0.length : Nat) : Int) = ((x1.length : Nat) : Int)
 ·have g12 : (((x0.length : Nat) : Int) != ((x1.length : Nat) : Int)) = false := by rw [h11]; exact bne_self_eq_false _
  refine CM_condF rfl g12 ?_
  refine CM_skip ?_
  refine QM_then ?_
  refine CM_seq ?_
  refine sr ?_
  refine wa ?_
  refine nt' ?_
  refine CM_block ?_
  refine CM_loop (σ := Nat × (Unit) × (Unit)) (fun s => [(0, .slice A2 x0.length c3), (1, .slice A7 x1.length c8), (5, .int .i64 ((s.1 : Nat) : Int))]) (fun s => []) (fun s => s.1 ≤ x0.length ∧ rng (R := Bool) (fun k (_ : Unit) => laws_eqIntS_b1 x0 x1 k) (x0.length - s.1) s.1 s.2.1 = rng (R := Bool) (fun k (_ : Unit) => laws_eqIntS_b1 x0 x1 k) (x0.length - 0) 0 ()) (fun s => x0.length - s.1) (0, (), ()) (subL_cons rfl (subL_cons rfl (subL_cons rfl subL_nil))) (fun W hm => hm) ⟨(by omega), rfl⟩ ?_
  rintro ⟨k13, ⟨⟩, ⟨⟩⟩ H16
  obtain ⟨hk14, hF15⟩ : k13 ≤ x0.length ∧ rng (R := Bool) (fun k (_ : Unit) => laws_eqIntS_b1 x0 x1 k) (x0.length - k13) k13 () = rng (R := Bool) (fun k (_ : Unit) => laws_eqIntS_b1 x0 x1 k) (x0.length - 0) 0 () := H16
  show CM Try.prog 26 _ _ _ _ [(0, .slice A2 x0.length c3), (1, .slice A7 x1.length c8), (5, .int .i64 ((k13 : Nat) : Int))] []
  refine CM_seq ?_
  refine sr ?_
  refine wm ?_
  refine wm ?_
  refine wv (fun W hm => rv_len Try.underlying33 rfl) ?_
  refine wv (fun W hm => rv_lss rfl rfl) ?_
  refine nt' ?_
  by_cases hl17 : k13 < x0.length
  ·have g18 : (decide (((k13 : Nat) : Int) < ((x0.length : Nat) : Int))) = true := decide_eq_true (by omega)
   refine CM_condT rfl g18 ?_
   refine CM_skip ?_
   refine QM_then ?_
   refine CM_seq ?_
   refine CM_block ?_
   refine CM_seq ?_
   refine CM_regionD (by kernel_rfl) (by kernel_rfl) ?_
   refine qm ?_
   refine qm ?_
   obtain ⟨a19, rfl, hb20, he21⟩ := q4 (by omega)
   refine qv (fun W hm => rv_index (sz := 1) (k := k13) Try.underlying33 Try.type3 rfl rfl rfl (by omega)) ?_
   refine qv (fun W hm => rv_load Try.underlying3 rfl rfl ((hm.cell0 (show (a19.add (k13 * 1)).block < w.heap.size from by rw [add_block]; exact hb20.1)).trans (rdS_int he21 k13 (by omega)))) ?_
   refine qm ?_
   refine qm ?_
   obtain ⟨a22, rfl, hb23, he24⟩ := q9 (by omega)
   refine qv (fun W hm => rv_index (sz := 1) (k := k13) Try.underlying33 Try.type3 rfl rfl rfl (by omega)) ?_
   refine qv (fun W hm => rv_load Try.underlying3 rfl rfl ((hm.cell0 (show (a22.add (k13 * 1)).block < w.heap.size from by rw [add_block]; exact hb23.1)).trans (rdS_int he24 k13 (by omega)))) ?_
   refine qv (fun W hm => rv_neq rfl rfl) ?_
   refine nq' ?_
   by_cases h25 : (gt x0 k13) = (gt x1 k13)
   ·have g26 : ((gt x0 k13) != (gt x1 k13)) = false := by rw [h25]; exact bne_self_eq_false _
    refine CM_condF rfl g26 ?_
    refine CM_skip ?_
    refine QM_block_normal ?_
    refine QM_then ?_
    refine CM_region ?_
    refine wm ?_
    refine wv (fun W hm => rv_addN (p := k13) (q := 1) rfl rfl (by omega)) ?_
    refine wa ?_
    refine WM_nil ?_
    have hn27 := rng_next (R := Bool) (body := (fun k (_ : Unit) => laws_eqIntS_b1 x0 x1 k)) (k := k13) (s := ()) (s' := ()) (show k13 < x0.length from by omega) (show laws_eqIntS_b1 x0 x1 k13 = Sum.inr () from by unfold laws_eqIntS_b1; exact cond_f g26 (rfl)) hF15
    exact QM_round (k13 + 1, (), ()) (subL_cons rfl (subL_cons rfl (subL_cons rfl subL_nil))) (fun W hm => hm) ⟨(by omega), hn27⟩ (show x0.length - (k13 + 1) < x0.length - k13 from by omega)
   ·have g26 : ((gt x0 k13) != (gt x1 k13)) = true := bne_iff_ne.2 h25
    refine CM_condT rfl g26 ?_
    refine sr ?_
    refine wa ?_
    refine nt' ?_
    refine CM_ret ?_
    refine QM_block_ret ?_
    refine QM_then_ret ?_
    refine QM_then_ret ?_
    refine QM_block_ret ?_
    refine QM_then_ret ?_
    exact QM_ret1 rfl rfl (fun W hm => ⟨ret_b (show laws_eqIntS_m x0 x1 = false from by unfold laws_eqIntS_m; exact cond_f g12 (fin_inl (rng_ret (body := (fun k (_ : Unit) => laws_eqIntS_b1 x0 x1 k)) (k := k13) (s := ()) (show k13 < x0.length from by omega) (show laws_eqIntS_b1 x0 x1 k13 = Sum.inl false from by unfold laws_eqIntS_b1; exact cond_t g26 (rfl)) hF15) rfl)), hm.below⟩)
  ·have g18 : (decide (((k13 : Nat) : Int) < ((x0.length : Nat) : Int))) = false := decide_eq_false (by omega)
   refine CM_condF rfl g18 ?_
   refine CM_exit ?_
   refine QM_then_exit ?_
   refine QM_then_exit ?_
   have hE28 : rng (R := Bool) (fun k (_ : Unit) => laws_eqIntS_b1 x0 x1 k) (x0.length - 0) 0 () = Sum.inr () := rng_end hl17 hF15
   refine QM_block_hit ?_
   refine QM_then ?_
   refine sr ?_
   refine wa ?_
   refine nt' ?_
   refine CM_ret ?_
   exact QM_ret1 rfl rfl (fun W hm => ⟨ret_b (show laws_eqIntS_m x0 x1 = true from by unfold laws_eqIntS_m; exact cond_f g12 (fin_inr hE28 (rfl))), hm.below⟩)
 ·have g12 : (((x0.length : Nat) : Int) != ((x1.length : Nat) : Int)) = true := bne_iff_ne.2 h11
  refine CM_condT rfl g12 ?_
  refine sr ?_
  refine wa ?_
  refine nt' ?_
  refine CM_ret ?_
  refine QM_then_ret ?_
  exact QM_ret1 rfl rfl (fun W hm => ⟨ret_b (show laws_eqIntS_m x0 x1 = false from by unfold laws_eqIntS_m; exact cond_t g12 (rfl)), hm.below⟩)

def laws_eqRow_m (x0 : DRow) (x1 : DRow) : Bool :=
 cond (x0.Id != x1.Id) false (cond (laws_eqIntS_m x0.Values x1.Values) true false)
set_option maxRecDepth 100000 in
theorem cb62 : Cb Try.prog 62 := ⟨Try.f62, _, Try.func62, rfl, by decide⟩
set_option maxRecDepth 10000 in
set_option maxHeartbeats 4000000 in
theorem laws_eqRow_c (w : World) (z0 : List Value) (x0 : DRow) (z1 : List Value) (x1 : DRow) (r_0 : tyRow.rd w w.heap.size z0 x0) (r_1 : tyRow.rd w w.heap.size z1 x1) :
  Calls Try.prog 62 #[.agg z0.toArray, .agg z1.toArray] w fun e w' => e = .returned (.bool (laws_eqRow_m x0 x1)) ∧ Below w.heap.size w w' := by
 obtain ⟨v1, rfl, r2⟩ := tyRow_rd r_0
 have r7 := r2
 obtain ⟨m3, A4, c5, rfl, q6⟩ := r2
 obtain ⟨v8, rfl, r9⟩ := tyRow_rd r_1
 have r14 := r9
 obtain ⟨m10, A11, c12, rfl, q13⟩ := r9
 refine call_enterM (L := [(0, .agg #[.int .i64 x0.Id, .slice A4 x0.Values.length c5]), (1, .agg #[.int .i64 x1.Id, .slice A11 x1.Values.length c12])]) (N := 16) Try.func62 rfl rfl (Nat.le_of_ble_eq_true rfl) (argsL_cons rfl (argsL_cons rfl argsL_nil)) ?_
 refine sr ?_
 refine WM_box rfl (Wd_none rfl) (by decide) (fun p15 => ?_)
 refine WM_box rfl (Wd_none rfl) (by decide) (fun p16 => ?_)
 refine wa ?_
 refine nt' ?_
 refine CM_seq ?_
 refine sr ?_
 refine wv (fun W hm => rv_field Try.underlying69 rfl Try.type3 (by decide) rfl rfl) ?_
 refine wv (fun W hm => rv_load Try.underlying3 rfl rfl (hm.boxCell (n := 1) (o := 0) rfl rfl)) ?_
 refine wv (fun W hm => rv_field Try.underlying69 rfl Try.type3 (by decide) rfl rfl) ?_
 refine wv (fun W hm => rv_load Try.underlying3 rfl rfl (hm.boxCell (n := 0) (o := 0) rfl rfl)) ?_
 refine wv (fun W hm => rv_neq rfl rfl) ?_
 refine nt' ?_
 by_cases h17 : x0.Id = x1.Id
 ·have g18 : (x0.Id != x1.Id) = false := by rw [h17]; exact bne_self_eq_false _
  refine CM_condF rfl g18 ?_
  refine CM_skip ?_
  refine QM_then ?_
  refine CM_seq ?_
  refine sr ?_
  refine wv (fun W hm => rv_field Try.underlying69 rfl Try.type33 (by decide) rfl rfl) ?_
  refine wv (fun W hm => rv_load Try.underlying33 rfl rfl (hm.boxCell (n := 1) (o := 1) rfl rfl)) ?_
  refine wv (fun W hm => rv_field Try.underlying69 rfl Try.type33 (by decide) rfl rfl) ?_
  refine wv (fun W hm => rv_load Try.underlying33 rfl rfl (hm.boxCell (n := 0) (o := 1) rfl rfl)) ?_
  refine WM_callV (cl_fn cb23 rfl) (fun W hm => laws_eqIntS_c W _ x0.Values _ x1.Values (hm.rdS0 r7) (hm.rdS0 r14)) (Wd_none rfl) (by decide) ?_
  refine wv (fun W hm => rv_not rfl) ?_
  refine nt' ?_
  rcases Bool.eq_false_or_eq_true (laws_eqIntS_m x0.Values x1.Values) with g20 | g20
  ·
   refine CM_condF rfl (nt g20) ?_
   refine CM_skip ?_
   refine QM_then ?_
   refine sr ?_
   refine wa ?_
   refine nt' ?_
   refine CM_ret ?_
   exact QM_ret1 rfl rfl (fun W hm => ⟨ret_b (show laws_eqRow_m x0 x1 = true from by unfold laws_eqRow_m; exact cond_f g18 (cond_t g20 (rfl))), hm.below⟩)
  ·
   refine CM_condT rfl (nf g20) ?_
   refine sr ?_
   refine wa ?_
   refine nt' ?_
   refine CM_ret ?_
   refine QM_then_ret ?_
   exact QM_ret1 rfl rfl (fun W hm => ⟨ret_b (show laws_eqRow_m x0 x1 = false from by unfold laws_eqRow_m; exact cond_f g18 (cond_f g20 (rfl))), hm.below⟩)
 ·have g18 : (x0.Id != x1.Id) = true := bne_iff_ne.2 h17
  refine CM_condT rfl g18 ?_
  refine sr ?_
  refine wa ?_
  refine nt' ?_
  refine CM_ret ?_
  refine QM_then_ret ?_
  exact QM_ret1 rfl rfl (fun W hm => ⟨ret_b (show laws_eqRow_m x0 x1 = false from by unfold laws_eqRow_m; exact cond_t g18 (rfl)), hm.below⟩)

end Go.Proofs.Ytjcdginailhfmaa
