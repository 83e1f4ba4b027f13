/-
  Contracts of functions, printed by a program of ours.
-/
import Derived.Test.YtfdaaliffcfjjaaGreatDoorL3F1
namespace Go.Proofs.YtfdaaliffcfjjaaGreatDoor
open Go.RowKit
set_option maxRecDepth 100000
set_option maxHeartbeats 4000000
open _root_.Go.Proofs.Tryz
def spec_IsStore_b3 (x0 : DStore) (k42 : Nat) (k62 : Nat) : Bool ⊕ (Unit) :=
 cond (spec_l7Apart_m (gt (spec_l7All_m x0) k42) (gt (spec_l7All_m x0) k62)) (Sum.inr ()) (Sum.inl false)
def spec_IsStore_b2 (x0 : DStore) (k42 : Nat) : Bool ⊕ (Unit) :=
 cond (spec_l7Version_m (gt (spec_l7All_m x0) k42) x0.Now) (Sum.elim Sum.inl (fun (s : Unit) => Sum.inr ()) (rng (R := Bool) (fun k (_ : Unit) => spec_IsStore_b3 x0 k42 k) (k42 - 0) 0 ())) (Sum.inl false)
def spec_IsStore_b1 (x0 : DStore) (k14 : Nat) : Bool ⊕ (Unit) :=
 cond (decide (4 < ((((gt x0.Segments k14)).length : Nat) : Int))) (Sum.inl false) (Sum.inr ())
def spec_IsStore_m (x0 : DStore) : Bool :=
 cond (spec_l1In_m ((x0.Segments.length : Nat) : Int) 1 8) (cond (spec_l1In_m x0.Now 0 100000) (Sum.elim id (fun (s1_ : Unit) => Sum.elim id (fun (s : Unit) => true) (rng (R := Bool) (fun k (_ : Unit) => spec_IsStore_b2 x0 k) ((spec_l7All_m x0).length - 0) 0 ())) (rng (R := Bool) (fun k (_ : Unit) => spec_IsStore_b1 x0 k) (x0.Segments.length - 0) 0 ())) false) false
theorem spec_IsStore_hq {x0 : DStore} (h : ((x0.Segments.length : Nat) : Int) ≤ 8) (hE : rng (R := Bool) (fun k (_ : Unit) => spec_IsStore_b1 x0 k) (x0.Segments.length - 0) 0 () = .inr ()) : (x0.Segments.map List.length).sum ≤ 68719476736 := by
 have h1 := sum_le_mul (w := List.length) (c := 4) (xs := x0.Segments) fun j hj => by
  have h2 := rng_noneU _ _ hE j (Nat.zero_le _) (by omega)
  unfold spec_IsStore_b1 at h2
  by_cases h3 : 4 < ((gt x0.Segments j).length : Int)
  ·rw [decide_eq_true h3] at h2; cases h2
  ·omega
 omega
theorem cb102 : Cb Tryz.prog 102 := ⟨f102, _, func102, rfl, by decide⟩
theorem spec_IsStore_c (w : World) (z0 : List Value) (x0 : DStore) (r_0 : tyStore.rd w w.heap.size z0 x0) (s_0 : smStore 68719476736 x0) :
  Calls Tryz.prog 102 #[.agg z0.toArray] w fun e w' => e = .returned (.bool (spec_IsStore_m x0)) ∧ Below w.heap.size w w' := by
 obtain ⟨v1, rfl, r2⟩ := tyStore_rd r_0
 obtain ⟨m3, A4, c5, rfl, q6, r7⟩ := rdS_op r2
 have l8 : x0.Segments.length ≤ 68719476736 := s_0.1
 refine ce1 (L := [(0, .agg #[.slice A4 x0.Segments.length c5, .int .i64 x0.Now])]) (N := 63) func102 ?_
 refine sr ?_
 refine WM_box rfl (Wd_none rfl) (by decide) (fun p9 => ?_)
 refine wa (nt' (CM_seq (sr ?_)))
 refine wv (vf underlying81 rfl type79) ?_
 refine wv (vl 0 0 underlying79) ?_
 refine wv (vlen underlying79) ?_
 refine wcv (cl_fn cb40 rfl) (fun W hm => spec_l1In_c W ((x0.Segments.length : Nat) : Int) 1 8) ?_
 refine wv vnot ?_
 refine wm ?_
 rcases Bool.eq_false_or_eq_true (spec_l1In_m ((x0.Segments.length : Nat) : Int) 1 8) with g11 | g11
 ·
  have hw := spec_l1In_fact g11
  refine wg (vf underlying81 rfl type3) (nt g11) ?_
  refine wg (vl 0 1 underlying3) (nt g11) ?_
  refine WM_callV (cl_fn cb40 rfl) (fun W hm => spec_l1In_c W x0.Now 0 100000) (Wd_some rfl rfl rfl (bw (nt g11) rfl)) (by decide) ?_
  refine wg vnot (nt g11) ?_
  refine wv (vpF (nt g11)) ?_
  refine nt' ?_
  rcases Bool.eq_false_or_eq_true (spec_l1In_m x0.Now 0 100000) with g13 | g13
  ·
   have hw := spec_l1In_fact g13
   refine CM_condF rfl (nt g13) ?_
   refine CM_skip (QM_then (CM_seq (sr (wa (nt' (CM_block ?_))))))
   let F1 := fun k (_ : Unit) => spec_IsStore_b1 x0 k
   let R4 := rng (R := Bool) F1
   let I7 : It := iBox p9 81 [.slice A4 x0.Segments.length c5, .int .i64 x0.Now]
   refine CM_loop (σ := Nat × (Unit) × (Unit)) (fun s => [(1, .pointer (some (⟨p9, 0, none⟩ : Addr))), (3, .int .i64 ((s.1 : Nat) : Int))]) (fun s => [I7]) (fun s => s.1 ≤ x0.Segments.length ∧ R4 (x0.Segments.length - s.1) s.1 s.2.1 = R4 (x0.Segments.length - 0) 0 ()) (fun s => x0.Segments.length - s.1) (0, (), ()) sl2 (fun W hm => hm) ⟨(by omega), rfl⟩ ?_
   rintro ⟨k14, ⟨⟩, ⟨⟩⟩ H17
   obtain ⟨hk15, hF16⟩ : k14 ≤ x0.Segments.length ∧ R4 (x0.Segments.length - k14) k14 () = R4 (x0.Segments.length - 0) 0 () := H17
   show CM Tryz.prog 63 _ _ _ _ [(1, .pointer (some (⟨p9, 0, none⟩ : Addr))), (3, .int .i64 ((k14 : Nat) : Int))] [I7]
   refine CM_seq (sr (wm ?_))
   refine wv (vf underlying81 rfl type79) ?_
   refine wv (vl 0 0 underlying79) ?_
   refine wv (vlen underlying79) ?_
   refine wv vlss ?_
   refine nt' ?_
   by_cases hl18 : k14 < x0.Segments.length
   ·have g19 := dlT hl18
    refine CM_condT rfl g19 ?_
    refine CM_skip (QM_then (CM_seq (CM_block (sr ?_))))
    refine wv (vf underlying81 rfl type79) ?_
    refine wv (vl 0 0 underlying79) ?_
    refine wm ?_
    obtain ⟨a20, rfl, hb21, he22⟩ := q6 (by omega)
    refine wv (vix 1 k14 underlying79 type119) ?_
    obtain ⟨_, e24, hc23⟩ := he22 k14 _ (gt_some (show k14 < x0.Segments.length from by omega))
    have l25 : (gt x0.Segments k14).length ≤ 68719476736 := (s_0.2 _ (gt_mem (show k14 < x0.Segments.length from by omega))).1
    obtain ⟨v26, rfl, r27⟩ := e24
    obtain ⟨m28, A29, c30, rfl, q31, r32⟩ := rdS_op r27
    refine wv (fun W hm => rv_load underlying119 rfl rfl ((hm.cell0 (show (a20.add (k14 * 1)).block < w.heap.size from by rw [add_block]; exact hb21.1)).trans (hc23 0 _ rfl))) ?_
    refine wv (vlen underlying119) ?_
    refine wv (fun W hm => rv_gtr rfl rfl) ?_
    refine nt' ?_
    by_cases h33 : 4 < ((((gt x0.Segments k14)).length : Nat) : Int)
    ·have g34 := decide_eq_true h33
     refine CM_condT rfl g34 ?_
     refine sr (wa (nt' (CM_ret (QM_block_ret (QM_then_ret (QM_then_ret (QM_block_ret (QM_then_ret ?_))))))))
     exact rtb (h := cond_t g11 (cond_t g13 (fin_inl (rng_ret (body := F1) (k := k14) (s := ()) (show k14 < x0.Segments.length from by omega) (cond_t g34 (rfl)) hF16) rfl)))
    ·have g34 := decide_eq_false h33
     refine CM_condF rfl g34 ?_
     refine CM_skip (QM_block_normal (QM_then (CM_region (wm ?_))))
     refine wv (vadN k14 1 (by omega)) ?_
     refine wa (WM_nil ?_)
     have hn35 := rng_next (R := Bool) (body := F1) (k := k14) (s := ()) (s' := ()) (show k14 < x0.Segments.length from by omega) (cond_f g34 (rfl)) hF16
     exact QM_round (k14 + 1, (), ()) sl2 (fun W hm => hm) ⟨(by omega), hn35⟩ (rl (by omega))
   ·have g19 := dlF hl18
    refine CM_condF rfl g19 ?_
    refine CM_exit (QM_then_exit (QM_then_exit ?_))
    have hE36 : R4 (x0.Segments.length - 0) 0 () = Sum.inr () := rng_end hl18 hF16
    have HQ := spec_IsStore_hq (by omega) hE36
    refine QM_block_hit (QM_then (sr ?_))
    refine wv (fun W hm => rv_loadN (cs := [.slice A4 x0.Segments.length c5, .int .i64 x0.Now]) underlying81 type81 rfl rfl (hm.boxCells (n := 0) rfl)) ?_
    refine WM_callW (χ := Value) (val := fun x => x) (js := fun x => (iOwn (tSl (tBor tyVersion w w.heap.size) 121) [x] (spec_l7All_m x0) :: [I7])) (cl_fn cb105 rfl) (fun W hm => spec_l7All_c w.heap.size w [I7] W _ x0 (tyStore_mk r7) s_0 (HQ) hm) (Wd_none rfl) (by decide) (fun v37 => ?_)
    refine WM_form (n := 0) rfl ?_
    rintro A38 c39 rfl m40
    refine wa (nt' (CM_seq (sr (wa (nt' (CM_block ?_))))))
    let F2 := fun k (_ : Unit) => spec_IsStore_b2 x0 k
    let R5 := rng (R := Bool) F2
    let I8 : It := iOwn (tSl (tBor tyVersion w w.heap.size) 121) [.slice A38 (spec_l7All_m x0).length c39] (spec_l7All_m x0)
    refine CM_loop (σ := Nat × (Unit) × (Unit)) (fun s => [(1, .pointer (some (⟨p9, 0, none⟩ : Addr))), (4, .slice A38 (spec_l7All_m x0).length c39), (5, .int .i64 ((s.1 : Nat) : Int))]) (fun s => [I8, I7]) (fun s => s.1 ≤ (spec_l7All_m x0).length ∧ R5 ((spec_l7All_m x0).length - s.1) s.1 s.2.1 = R5 ((spec_l7All_m x0).length - 0) 0 ()) (fun s => (spec_l7All_m x0).length - s.1) (0, (), ()) sl3 (fun W hm => hm) ⟨(by omega), rfl⟩ ?_
    rintro ⟨k42, ⟨⟩, ⟨⟩⟩ H45
    obtain ⟨hk43, hF44⟩ : k42 ≤ (spec_l7All_m x0).length ∧ R5 ((spec_l7All_m x0).length - k42) k42 () = R5 ((spec_l7All_m x0).length - 0) 0 () := H45
    show CM Tryz.prog 63 _ _ _ _ [(1, .pointer (some (⟨p9, 0, none⟩ : Addr))), (4, .slice A38 (spec_l7All_m x0).length c39), (5, .int .i64 ((k42 : Nat) : Int))] [I8, I7]
    refine CM_seq (sr (wm (wm ?_)))
    refine wv (vlen underlying119) ?_
    refine wv vlss ?_
    refine nt' ?_
    by_cases hl46 : k42 < (spec_l7All_m x0).length
    ·have g47 := dlT hl46
     refine CM_condT rfl g47 ?_
     refine CM_skip (QM_then (CM_seq (CM_block (CM_seq (CM_seq ?_)))))
     refine CM_formO (n := 0) rfl (by omega) ?_
     rintro g48 rfl
     refine CM_expose (T := tyVersion) (wb := w) (Bb := w.heap.size) (e := 121) (g := g48) (n := (spec_l7All_m x0).length) (c := c39) (xs := (spec_l7All_m x0)) (js := [I7]) (fun W hm => hm) ?_
     rintro ck49 rk50
     refine CM_regionD (by kernel_rfl) (by kernel_rfl) ?_
     refine qm (qm ?_)
     refine qv (vix 4 k42 underlying119 type121) ?_
     obtain ⟨_, e51, hc52⟩ := rk50.get (j := k42) (by omega)
     obtain ⟨v53, rfl, r54⟩ := tyVersion_rd e51
     obtain ⟨m55, A56, c57, rfl, q58, r59⟩ := rdS_op r54
     refine qv (fun W hm => rv_loadN (cs := [.int .i64 ((gt (spec_l7All_m x0) k42).Id), .slice A56 ((gt (spec_l7All_m x0) k42).Values).length c57, .int .i64 ((gt (spec_l7All_m x0) k42).Born), .int .i64 ((gt (spec_l7All_m x0) k42).Died)]) underlying121 type121 rfl rfl (hm.rowCells (i := 0) rfl hc52)) ?_
     refine qv (vf underlying81 rfl type3) ?_
     refine qv (vl 1 1 underlying3) ?_
     refine QR_callV (cl_fn cb123 rfl) (fun W hm => spec_l7Version_c W _ (gt (spec_l7All_m x0) k42) x0.Now (tyVersion_mk (x := (gt (spec_l7All_m x0) k42)) (hm.rdS0 r59))) (Wd_none rfl) (by decide) ?_
     refine qv vnot ?_
     refine nq' ?_
     rcases Bool.eq_false_or_eq_true (spec_l7Version_m (gt (spec_l7All_m x0) k42) x0.Now) with g61 | g61
     ·
      refine CM_condF rfl (nt g61) ?_
      refine CM_skip (QM_then (sr (wa (nt' (CM_block ?_)))))
      refine CM_items (fun W hm => Mem.hide rk50 hm) ?_
      let F3 := fun k (_ : Unit) => spec_IsStore_b3 x0 k42 k
      let R6 := rng (R := Bool) F3
      let I9 : It := iOwn (tSl (tBor tyVersion w w.heap.size) 121) [.slice (some ⟨g48, 0, none⟩) (spec_l7All_m x0).length c39] (spec_l7All_m x0)
      refine CM_loop (σ := Nat × (Unit) × (Unit)) (fun s => [(1, .pointer (some (⟨p9, 0, none⟩ : Addr))), (4, .slice (some ⟨g48, 0, none⟩) (spec_l7All_m x0).length c39), (5, .int .i64 ((k42 : Nat) : Int)), (6, .int .i64 ((s.1 : Nat) : Int))]) (fun s => [I9, I7]) (fun s => s.1 ≤ k42 ∧ R6 (k42 - s.1) s.1 s.2.1 = R6 (k42 - 0) 0 ()) (fun s => k42 - s.1) (0, (), ()) sl4 (fun W hm => hm) ⟨(by omega), rfl⟩ ?_
      rintro ⟨k62, ⟨⟩, ⟨⟩⟩ H65
      obtain ⟨hk63, hF64⟩ : k62 ≤ k42 ∧ R6 (k42 - k62) k62 () = R6 (k42 - 0) 0 () := H65
      show CM Tryz.prog 63 _ _ _ _ [(1, .pointer (some (⟨p9, 0, none⟩ : Addr))), (4, .slice (some ⟨g48, 0, none⟩) (spec_l7All_m x0).length c39), (5, .int .i64 ((k42 : Nat) : Int)), (6, .int .i64 ((k62 : Nat) : Int))] [I9, I7]
      refine CM_seq (sr (wm (wm ?_)))
      refine wv vlss ?_
      refine nt' ?_
      by_cases hl66 : k62 < k42
      ·have g67 := dlT hl66
       refine CM_condT rfl g67 ?_
       refine CM_skip (QM_then (CM_seq (CM_block (CM_seq ?_))))
       refine CM_expose (T := tyVersion) (wb := w) (Bb := w.heap.size) (e := 121) (g := g48) (n := (spec_l7All_m x0).length) (c := c39) (xs := (spec_l7All_m x0)) (js := [I7]) (fun W hm => hm) ?_
       rintro ck68 rk69
       refine CM_regionD (by kernel_rfl) (by kernel_rfl) ?_
       refine qm (qm ?_)
       refine qv (vix 4 k42 underlying119 type121) ?_
       obtain ⟨_, e70, hc71⟩ := rk69.get (j := k42) (by omega)
       obtain ⟨v72, rfl, r73⟩ := tyVersion_rd e70
       obtain ⟨m74, A75, c76, rfl, q77, r78⟩ := rdS_op r73
       refine qv (fun W hm => rv_loadN (cs := [.int .i64 ((gt (spec_l7All_m x0) k42).Id), .slice A75 ((gt (spec_l7All_m x0) k42).Values).length c76, .int .i64 ((gt (spec_l7All_m x0) k42).Born), .int .i64 ((gt (spec_l7All_m x0) k42).Died)]) underlying121 type121 rfl rfl (hm.rowCells (i := 0) rfl hc71)) ?_
       refine qm (qm ?_)
       refine qv (vix 4 k62 underlying119 type121) ?_
       obtain ⟨_, e79, hc80⟩ := rk69.get (j := k62) (by omega)
       obtain ⟨v81, rfl, r82⟩ := tyVersion_rd e79
       obtain ⟨m83, A84, c85, rfl, q86, r87⟩ := rdS_op r82
       refine qv (fun W hm => rv_loadN (cs := [.int .i64 ((gt (spec_l7All_m x0) k62).Id), .slice A84 ((gt (spec_l7All_m x0) k62).Values).length c85, .int .i64 ((gt (spec_l7All_m x0) k62).Born), .int .i64 ((gt (spec_l7All_m x0) k62).Died)]) underlying121 type121 rfl rfl (hm.rowCells (i := 0) rfl hc80)) ?_
       refine QR_callV (cl_fn cb124 rfl) (fun W hm => spec_l7Apart_c W _ (gt (spec_l7All_m x0) k42) _ (gt (spec_l7All_m x0) k62) (tyVersion_mk (x := (gt (spec_l7All_m x0) k42)) (hm.rdS0 r78)) (tyVersion_mk (x := (gt (spec_l7All_m x0) k62)) (hm.rdS0 r87))) (Wd_none rfl) (by decide) ?_
       refine qv vnot ?_
       refine nq' ?_
       rcases Bool.eq_false_or_eq_true (spec_l7Apart_m (gt (spec_l7All_m x0) k42) (gt (spec_l7All_m x0) k62)) with g89 | g89
       ·
        refine CM_condF rfl (nt g89) ?_
        refine CM_skip (QM_block_normal (QM_then (CM_region (wm ?_))))
        refine wv (vadN k62 1 (by omega)) ?_
        refine wa (WM_nil ?_)
        refine QM_items (fun W hm => Mem.hide rk69 hm) ?_
        have hn90 := rng_next (R := Bool) (body := F3) (k := k62) (s := ()) (s' := ()) (show k62 < k42 from by omega) (cond_t g89 (rfl)) hF64
        exact QM_round (k62 + 1, (), ()) sl4 (fun W hm => hm) ⟨(by omega), hn90⟩ (rl (by omega))
       ·
        refine CM_condT rfl (nf g89) ?_
        refine sr (wa (nt' (CM_ret (QM_block_ret (QM_then_ret (QM_then_ret (QM_block_ret (QM_block_ret (QM_then_ret (QM_then_ret (QM_block_ret (QM_then_ret ?_))))))))))))
        refine QM_items (fun W hm => Mem.hide rk69 hm) ?_
        exact rtb (h := cond_t g11 (cond_t g13 (fin_inr hE36 (fin_inl (rng_ret (body := F2) (k := k42) (s := ()) (show k42 < (spec_l7All_m x0).length from by omega) (cond_t g61 (fin_inl (rng_ret (body := F3) (k := k62) (s := ()) (show k62 < k42 from by omega) (cond_f g89 (rfl)) hF64) rfl)) hF44) rfl))))
      ·have g67 := dlF hl66
       refine CM_condF rfl g67 ?_
       refine CM_exit (QM_then_exit (QM_then_exit ?_))
       have hE91 : R6 (k42 - 0) 0 () = Sum.inr () := rng_end hl66 hF64
       refine QM_block_hit (QM_block_normal (QM_then (CM_region (wm ?_))))
       refine wv (vadN k42 1 (by omega)) ?_
       refine wa (WM_nil ?_)
       have hn92 := rng_next (R := Bool) (body := F2) (k := k42) (s := ()) (s' := ()) (show k42 < (spec_l7All_m x0).length from by omega) (cond_t g61 (fin_inr hE91 (rfl))) hF44
       exact QM_round (k42 + 1, (), ()) sl3 (fun W hm => hm) ⟨(by omega), hn92⟩ (show (spec_l7All_m x0).length - (k42 + 1) < (spec_l7All_m x0).length - k42 from by omega)
     ·
      refine CM_condT rfl (nf g61) ?_
      refine sr (wa (nt' (CM_ret (QM_then_ret (QM_block_ret (QM_then_ret (QM_then_ret (QM_block_ret (QM_then_ret ?_)))))))))
      refine QM_items (fun W hm => Mem.hide rk50 hm) ?_
      exact rtb (h := cond_t g11 (cond_t g13 (fin_inr hE36 (fin_inl (rng_ret (body := F2) (k := k42) (s := ()) (show k42 < (spec_l7All_m x0).length from by omega) (cond_f g61 (rfl)) hF44) rfl))))
    ·have g47 := dlF hl46
     refine CM_condF rfl g47 ?_
     refine CM_exit (QM_then_exit (QM_then_exit ?_))
     have hE93 : R5 ((spec_l7All_m x0).length - 0) 0 () = Sum.inr () := rng_end hl46 hF44
     refine QM_block_hit (QM_then (sr (wa (nt' (CM_ret ?_)))))
     exact rtb (h := cond_t g11 (cond_t g13 (fin_inr hE36 (fin_inr hE93 (rfl)))))
  ·
   refine CM_condT rfl (nf g13) ?_
   refine sr (wa (nt' (CM_ret (QM_then_ret ?_))))
   exact rtb (h := cond_t g11 (cond_f g13 (rfl)))
 ·
  refine ws (nf g11) ?_
  refine ws (nf g11) ?_
  refine ws (nf g11) ?_
  refine ws (nf g11) ?_
  refine wv (vpT (nf g11)) ?_
  refine nt' ?_
  refine CM_condT rfl rfl ?_
  refine sr (wa (nt' (CM_ret (QM_then_ret ?_))))
  exact rtb (h := cond_f g11 (rfl))

def spec_IsUpdate_m (x0 : DUpdate) : Bool :=
 cond (x0.Kind == 1) (cond (spec_IsRow_m x0.Row) (cond (x0.Field == 0) (x0.Value == 0) false) false) (cond (x0.Kind == 2) (cond (spec_l1In_m x0.Row.Id 0 999) (cond (((x0.Row.Values.length : Nat) : Int) == 0) (cond (x0.Field == 0) (x0.Value == 0) false) false) false) (cond (x0.Kind == 3) (cond (spec_l1In_m x0.Row.Id 0 999) (cond (((x0.Row.Values.length : Nat) : Int) == 0) (cond (spec_l1In_m x0.Field 0 2) (spec_l1In_m x0.Value 0 99) false) false) false) false))
theorem cb16 : Cb Tryz.prog 16 := ⟨f16, _, func16, rfl, by decide⟩
theorem spec_IsUpdate_c (w : World) (z0 : List Value) (x0 : DUpdate) (r_0 : tyUpdate.rd w w.heap.size z0 x0) :
  Calls Tryz.prog 16 #[.agg z0.toArray] w fun e w' => e = .returned (.bool (spec_IsUpdate_m x0)) ∧ Below w.heap.size w w' := by
 obtain ⟨v1, rfl, r2⟩ := tyUpdate_rd r_0
 obtain ⟨m3, A4, c5, rfl, q6, r7⟩ := rdS_op r2
 refine ce1 (L := [(0, .agg #[.int .i64 x0.Kind, .int .i64 x0.Row.Id, .slice A4 x0.Row.Values.length c5, .int .i64 x0.Field, .int .i64 x0.Value])]) (N := 66) func16 ?_
 refine sr ?_
 refine WM_box rfl (Wd_none rfl) (by decide) (fun p8 => ?_)
 refine wa (nt' (CM_seq (sr ?_)))
 refine wv (vf underlying32 rfl type3) ?_
 refine wv (vl 0 0 underlying3) ?_
 refine nt' (CM_block (sr ?_))
 refine wv (fun W hm => rv_eql rfl rfl) ?_
 refine wa (nt' ?_)
 by_cases h9 : x0.Kind = 1
 ·have g10 := beq_iff_eq.2 h9
  refine CM_condT rfl g10 ?_
  refine sr ?_
  refine wv (vf underlying32 rfl type26) ?_
  refine wv (fun W hm => rv_loadN (cs := [.int .i64 x0.Row.Id, .slice A4 x0.Row.Values.length c5]) underlying26 type26 rfl rfl (hm.boxPart (n := 0) rfl rfl)) ?_
  refine wcv (cl_fn cb14 rfl) (fun W hm => spec_IsRow_c W _ x0.Row (tyRow_mk (x := x0.Row) (hm.rdS0 r7))) ?_
  refine wm ?_
  rcases Bool.eq_false_or_eq_true (spec_IsRow_m x0.Row) with g12 | g12
  ·
   refine wg (vf underlying32 rfl type3) g12 ?_
   refine wg (vl 0 3 underlying3) g12 ?_
   refine wg (fun W hm => rv_eql rfl rfl) g12 ?_
   refine wv (vpT g12) ?_
   refine wm ?_
   by_cases h13 : x0.Field = 0
   ·have g14 := beq_iff_eq.2 h13
    refine wg (vf underlying32 rfl type3) g14 ?_
    refine wg (vl 0 4 underlying3) g14 ?_
    refine wg (fun W hm => rv_eql rfl rfl) g14 ?_
    refine wv (vpT g14) ?_
    refine wa (nt' (CM_ret (QM_block_ret (QM_then_ret ?_))))
    exact rtb (h := cond_t g10 (cond_t g12 (cond_t g14 (rfl))))
   ·have g14 := beq_eq_false_iff_ne.2 h13
    refine ws g14 ?_
    refine ws g14 ?_
    refine ws g14 ?_
    refine wv (vpF g14) ?_
    refine wa (nt' (CM_ret (QM_block_ret (QM_then_ret ?_))))
    exact rtb (h := cond_t g10 (cond_t g12 (cond_f g14 (rfl))))
  ·
   refine ws g12 ?_
   refine ws g12 ?_
   refine ws g12 ?_
   refine wv (vpF g12) ?_
   refine wm ?_
   refine wk ?_
   refine wk ?_
   refine wk ?_
   refine wv (vpF rfl) ?_
   refine wa (nt' (CM_ret (QM_block_ret (QM_then_ret ?_))))
   exact rtb (h := cond_t g10 (cond_f g12 (rfl)))
 ·have g10 := beq_eq_false_iff_ne.2 h9
  refine CM_condF rfl g10 ?_
  refine sr ?_
  refine wv (fun W hm => rv_eql rfl rfl) ?_
  refine wa (nt' ?_)
  by_cases h15 : x0.Kind = 2
  ·have g16 := beq_iff_eq.2 h15
   refine CM_condT rfl g16 ?_
   refine sr ?_
   refine wv (vf underlying32 rfl type26) ?_
   refine wv (fun W hm => rv_fieldA (o := 1) underlying26 rfl type3 (by decide) rfl rfl) ?_
   refine wv (vl 0 1 underlying3) ?_
   refine wcv (cl_fn cb40 rfl) (fun W hm => spec_l1In_c W x0.Row.Id 0 999) ?_
   refine wm ?_
   rcases Bool.eq_false_or_eq_true (spec_l1In_m x0.Row.Id 0 999) with g18 | g18
   ·
    have hw := spec_l1In_fact g18
    refine wg (vf underlying32 rfl type26) g18 ?_
    refine wg (fun W hm => rv_fieldA (o := 2) underlying26 rfl type24 (by decide) rfl rfl) g18 ?_
    refine wg (vl 0 2 underlying24) g18 ?_
    refine wg (vlen underlying24) g18 ?_
    refine wg (fun W hm => rv_eql rfl rfl) g18 ?_
    refine wv (vpT g18) ?_
    refine wm ?_
    by_cases h19 : ((x0.Row.Values.length : Nat) : Int) = 0
    ·have g20 := beq_iff_eq.2 h19
     refine wg (vf underlying32 rfl type3) g20 ?_
     refine wg (vl 0 3 underlying3) g20 ?_
     refine wg (fun W hm => rv_eql rfl rfl) g20 ?_
     refine wv (vpT g20) ?_
     refine wm ?_
     by_cases h21 : x0.Field = 0
     ·have g22 := beq_iff_eq.2 h21
      refine wg (vf underlying32 rfl type3) g22 ?_
      refine wg (vl 0 4 underlying3) g22 ?_
      refine wg (fun W hm => rv_eql rfl rfl) g22 ?_
      refine wv (vpT g22) ?_
      refine wa (nt' (CM_ret (QM_block_ret (QM_then_ret ?_))))
      exact rtb (h := cond_f g10 (cond_t g16 (cond_t g18 (cond_t g20 (cond_t g22 (rfl))))))
     ·have g22 := beq_eq_false_iff_ne.2 h21
      refine ws g22 ?_
      refine ws g22 ?_
      refine ws g22 ?_
      refine wv (vpF g22) ?_
      refine wa (nt' (CM_ret (QM_block_ret (QM_then_ret ?_))))
      exact rtb (h := cond_f g10 (cond_t g16 (cond_t g18 (cond_t g20 (cond_f g22 (rfl))))))
    ·have g20 := beq_eq_false_iff_ne.2 h19
     refine ws g20 ?_
     refine ws g20 ?_
     refine ws g20 ?_
     refine wv (vpF g20) ?_
     refine wm ?_
     refine wk ?_
     refine wk ?_
     refine wk ?_
     refine wv (vpF rfl) ?_
     refine wa (nt' (CM_ret (QM_block_ret (QM_then_ret ?_))))
     exact rtb (h := cond_f g10 (cond_t g16 (cond_t g18 (cond_f g20 (rfl)))))
   ·
    refine ws g18 ?_
    refine ws g18 ?_
    refine ws g18 ?_
    refine ws g18 ?_
    refine ws g18 ?_
    refine wv (vpF g18) ?_
    refine wm ?_
    refine wk ?_
    refine wk ?_
    refine wk ?_
    refine wv (vpF rfl) ?_
    refine wm ?_
    refine wk ?_
    refine wk ?_
    refine wk ?_
    refine wv (vpF rfl) ?_
    refine wa (nt' (CM_ret (QM_block_ret (QM_then_ret ?_))))
    exact rtb (h := cond_f g10 (cond_t g16 (cond_f g18 (rfl))))
  ·have g16 := beq_eq_false_iff_ne.2 h15
   refine CM_condF rfl g16 ?_
   refine sr ?_
   refine wv (fun W hm => rv_eql rfl rfl) ?_
   refine wa (nt' ?_)
   by_cases h23 : x0.Kind = 3
   ·have g24 := beq_iff_eq.2 h23
    refine CM_condT rfl g24 ?_
    refine sr ?_
    refine wv (vf underlying32 rfl type26) ?_
    refine wv (fun W hm => rv_fieldA (o := 1) underlying26 rfl type3 (by decide) rfl rfl) ?_
    refine wv (vl 0 1 underlying3) ?_
    refine wcv (cl_fn cb40 rfl) (fun W hm => spec_l1In_c W x0.Row.Id 0 999) ?_
    refine wm ?_
    rcases Bool.eq_false_or_eq_true (spec_l1In_m x0.Row.Id 0 999) with g26 | g26
    ·
     have hw := spec_l1In_fact g26
     refine wg (vf underlying32 rfl type26) g26 ?_
     refine wg (fun W hm => rv_fieldA (o := 2) underlying26 rfl type24 (by decide) rfl rfl) g26 ?_
     refine wg (vl 0 2 underlying24) g26 ?_
     refine wg (vlen underlying24) g26 ?_
     refine wg (fun W hm => rv_eql rfl rfl) g26 ?_
     refine wv (vpT g26) ?_
     refine wm ?_
     by_cases h27 : ((x0.Row.Values.length : Nat) : Int) = 0
     ·have g28 := beq_iff_eq.2 h27
      refine wg (vf underlying32 rfl type3) g28 ?_
      refine wg (vl 0 3 underlying3) g28 ?_
      refine WM_callV (cl_fn cb40 rfl) (fun W hm => spec_l1In_c W x0.Field 0 2) (Wd_some rfl rfl rfl (bw g28 rfl)) (by decide) ?_
      refine wv (vpT g28) ?_
      refine wm ?_
      rcases Bool.eq_false_or_eq_true (spec_l1In_m x0.Field 0 2) with g30 | g30
      ·
       have hw := spec_l1In_fact g30
       refine wg (vf underlying32 rfl type3) g30 ?_
       refine wg (vl 0 4 underlying3) g30 ?_
       refine WM_callV (cl_fn cb40 rfl) (fun W hm => spec_l1In_c W x0.Value 0 99) (Wd_some rfl rfl rfl (bw g30 rfl)) (by decide) ?_
       refine wv (vpT g30) ?_
       refine wa (nt' (CM_ret (QM_block_ret (QM_then_ret ?_))))
       exact rtb (h := cond_f g10 (cond_f g16 (cond_t g24 (cond_t g26 (cond_t g28 (cond_t g30 (rfl)))))))
      ·
       refine ws g30 ?_
       refine ws g30 ?_
       refine ws g30 ?_
       refine wv (vpF g30) ?_
       refine wa (nt' (CM_ret (QM_block_ret (QM_then_ret ?_))))
       exact rtb (h := cond_f g10 (cond_f g16 (cond_t g24 (cond_t g26 (cond_t g28 (cond_f g30 (rfl)))))))
     ·have g28 := beq_eq_false_iff_ne.2 h27
      refine ws g28 ?_
      refine ws g28 ?_
      refine ws g28 ?_
      refine wv (vpF g28) ?_
      refine wm ?_
      refine wk ?_
      refine wk ?_
      refine wk ?_
      refine wv (vpF rfl) ?_
      refine wa (nt' (CM_ret (QM_block_ret (QM_then_ret ?_))))
      exact rtb (h := cond_f g10 (cond_f g16 (cond_t g24 (cond_t g26 (cond_f g28 (rfl))))))
    ·
     refine ws g26 ?_
     refine ws g26 ?_
     refine ws g26 ?_
     refine ws g26 ?_
     refine ws g26 ?_
     refine wv (vpF g26) ?_
     refine wm ?_
     refine wk ?_
     refine wk ?_
     refine wk ?_
     refine wv (vpF rfl) ?_
     refine wm ?_
     refine wk ?_
     refine wk ?_
     refine wk ?_
     refine wv (vpF rfl) ?_
     refine wa (nt' (CM_ret (QM_block_ret (QM_then_ret ?_))))
     exact rtb (h := cond_f g10 (cond_f g16 (cond_t g24 (cond_f g26 (rfl)))))
   ·have g24 := beq_eq_false_iff_ne.2 h23
    refine CM_condF rfl g24 ?_
    refine CM_skip (QM_block_normal (QM_then (sr (wa (nt' (CM_ret ?_))))))
    exact rtb (h := cond_f g10 (cond_f g16 (cond_f g24 (rfl))))

def spec_l8Find_b2 (x0 : DStore) (x1 : Int) (k9 : Nat) (k27 : Nat) : (Int × Int) ⊕ (Unit) :=
 cond (((gt (gt x0.Segments k9) k27).Id) == x1) (cond (((gt (gt x0.Segments k9) k27).Died) == (-1)) (Sum.inl (((k9 : Nat) : Int), ((k27 : Nat) : Int))) (Sum.inr ())) (Sum.inr ())
def spec_l8Find_b1 (x0 : DStore) (x1 : Int) (k9 : Nat) : (Int × Int) ⊕ (Unit) :=
 Sum.elim Sum.inl (fun (s : Unit) => Sum.inr ()) (rng (R := (Int × Int)) (fun k (_ : Unit) => spec_l8Find_b2 x0 x1 k9 k) (((gt x0.Segments k9)).length - 0) 0 ())
def spec_l8Find_m (x0 : DStore) (x1 : Int) : (Int × Int) :=
 Sum.elim id (fun (s : Unit) => ((-1), (-1))) (rng (R := (Int × Int)) (fun k (_ : Unit) => spec_l8Find_b1 x0 x1 k) (x0.Segments.length - 0) 0 ())
theorem cb103 : Cb Tryz.prog 103 := ⟨f103, _, func103, rfl, by decide⟩
theorem spec_l8Find_c (w : World) (z0 : List Value) (x0 : DStore) (x1 : Int) (r_0 : tyStore.rd w w.heap.size z0 x0) :
  Calls Tryz.prog 103 #[.agg z0.toArray, .int .i64 x1] w fun e w' => e = .returned (.tuple #[.int .i64 ((spec_l8Find_m x0 x1).1), .int .i64 ((spec_l8Find_m x0 x1).2)]) ∧ Below w.heap.size w w' := by
 obtain ⟨v1, rfl, r2⟩ := tyStore_rd r_0
 obtain ⟨m3, A4, c5, rfl, q6, r7⟩ := rdS_op r2
 refine ce2 (L := [(0, .agg #[.slice A4 x0.Segments.length c5, .int .i64 x0.Now]), (1, .int .i64 x1)]) (N := 50) func103 ?_
 refine sr ?_
 refine WM_box rfl (Wd_none rfl) (by decide) (fun p8 => ?_)
 refine wa (wa (nt' (CM_seq (sr (wa (nt' (CM_block ?_)))))))
 let F1 := fun k (_ : Unit) => spec_l8Find_b1 x0 x1 k
 let R3 := rng (R := (Int × Int)) F1
 let I5 : It := iBox p8 81 [.slice A4 x0.Segments.length c5, .int .i64 x0.Now]
 refine CM_loop (σ := Nat × (Unit) × (Unit)) (fun s => [(1, .int .i64 x1), (2, .pointer (some (⟨p8, 0, none⟩ : Addr))), (6, .int .i64 ((s.1 : Nat) : Int))]) (fun s => [I5]) (fun s => s.1 ≤ x0.Segments.length ∧ R3 (x0.Segments.length - s.1) s.1 s.2.1 = R3 (x0.Segments.length - 0) 0 ()) (fun s => x0.Segments.length - s.1) (0, (), ()) sl3 (fun W hm => hm) ⟨(by omega), rfl⟩ ?_
 rintro ⟨k9, ⟨⟩, ⟨⟩⟩ H12
 obtain ⟨hk10, hF11⟩ : k9 ≤ x0.Segments.length ∧ R3 (x0.Segments.length - k9) k9 () = R3 (x0.Segments.length - 0) 0 () := H12
 show CM Tryz.prog 50 _ _ _ _ [(1, .int .i64 x1), (2, .pointer (some (⟨p8, 0, none⟩ : Addr))), (6, .int .i64 ((k9 : Nat) : Int))] [I5]
 refine CM_seq (sr (wm ?_))
 refine wv (vf underlying81 rfl type79) ?_
 refine wv (vl 0 0 underlying79) ?_
 refine wv (vlen underlying79) ?_
 refine wv vlss ?_
 refine nt' ?_
 by_cases hl13 : k9 < x0.Segments.length
 ·have g14 := dlT hl13
  refine CM_condT rfl g14 ?_
  refine CM_skip (QM_then (CM_seq (CM_block (sr (wa (nt' (CM_block ?_)))))))
  obtain ⟨a15, rfl, hb16, he17⟩ := q6 (by omega)
  obtain ⟨_, e19, hc18⟩ := he17 k9 _ (gt_some (show k9 < x0.Segments.length from by omega))
  obtain ⟨v20, rfl, r21⟩ := e19
  obtain ⟨m22, A23, c24, rfl, q25, r26⟩ := rdS_op r21
  let F2 := fun k (_ : Unit) => spec_l8Find_b2 x0 x1 k9 k
  let R4 := rng (R := (Int × Int)) F2
  let I6 : It := iBox p8 81 [.slice (some a15) x0.Segments.length c5, .int .i64 x0.Now]
  refine CM_loop (σ := Nat × (Unit) × (Unit)) (fun s => [(1, .int .i64 x1), (2, .pointer (some (⟨p8, 0, none⟩ : Addr))), (6, .int .i64 ((k9 : Nat) : Int)), (7, .int .i64 ((s.1 : Nat) : Int))]) (fun s => [I6]) (fun s => s.1 ≤ ((gt x0.Segments k9)).length ∧ R4 (((gt x0.Segments k9)).length - s.1) s.1 s.2.1 = R4 (((gt x0.Segments k9)).length - 0) 0 ()) (fun s => ((gt x0.Segments k9)).length - s.1) (0, (), ()) sl4 (fun W hm => hm) ⟨(by omega), rfl⟩ ?_
  rintro ⟨k27, ⟨⟩, ⟨⟩⟩ H30
  obtain ⟨hk28, hF29⟩ : k27 ≤ ((gt x0.Segments k9)).length ∧ R4 (((gt x0.Segments k9)).length - k27) k27 () = R4 (((gt x0.Segments k9)).length - 0) 0 () := H30
  show CM Tryz.prog 50 _ _ _ _ [(1, .int .i64 x1), (2, .pointer (some (⟨p8, 0, none⟩ : Addr))), (6, .int .i64 ((k9 : Nat) : Int)), (7, .int .i64 ((k27 : Nat) : Int))] [I6]
  refine CM_seq (sr (wm ?_))
  refine wv (vf underlying81 rfl type79) ?_
  refine wv (vl 0 0 underlying79) ?_
  refine wm ?_
  refine wv (vix 1 k9 underlying79 type119) ?_
  refine wv (fun W hm => rv_load underlying119 rfl rfl ((hm.cell0 (show (a15.add (k9 * 1)).block < w.heap.size from by rw [add_block]; exact hb16.1)).trans (hc18 0 _ rfl))) ?_
  refine wv (vlen underlying119) ?_
  refine wv vlss ?_
  refine nt' ?_
  by_cases hl31 : k27 < ((gt x0.Segments k9)).length
  ·have g32 := dlT hl31
   refine CM_condT rfl g32 ?_
   refine CM_skip (QM_then (CM_seq (CM_block (sr ?_))))
   refine wv (vf underlying81 rfl type79) ?_
   refine wv (vl 0 0 underlying79) ?_
   refine wm ?_
   refine wv (vix 1 k9 underlying79 type119) ?_
   refine wv (fun W hm => rv_load underlying119 rfl rfl ((hm.cell0 (show (a15.add (k9 * 1)).block < w.heap.size from by rw [add_block]; exact hb16.1)).trans (hc18 0 _ rfl))) ?_
   refine wm ?_
   obtain ⟨a33, rfl, hb34, he35⟩ := q25 (by omega)
   refine wv (vix 4 k27 underlying119 type121) ?_
   refine wv (vf underlying121 rfl type3) ?_
   obtain ⟨_, e39, hc36⟩ := he35 k27 _ (gt_some (show k27 < ((gt x0.Segments k9)).length from by omega))
   obtain ⟨v37, rfl, r38⟩ := tyVersion_rd e39
   obtain ⟨m40, A41, c42, rfl, q43, r44⟩ := rdS_op r38
   refine wv (fun W hm => rv_load underlying3 rfl rfl ((hm.cell0 (show ((a33.add (k27 * 4)).add 0).block < w.heap.size from by rw [add_block, add_block]; exact hb34.1)).trans (hc36 0 _ rfl))) ?_
   refine wm ?_
   refine wv (fun W hm => rv_eql rfl rfl) ?_
   refine wm ?_
   by_cases h45 : ((gt (gt x0.Segments k9) k27).Id) = x1
   ·have g46 := beq_iff_eq.2 h45
    refine wg (vf underlying81 rfl type79) g46 ?_
    refine wg (vl 0 0 underlying79) g46 ?_
    refine wg vmv g46 ?_
    refine wg (vix 1 k9 underlying79 type119) g46 ?_
    refine wg (fun W hm => rv_load underlying119 rfl rfl ((hm.cell0 (show (a15.add (k9 * 1)).block < w.heap.size from by rw [add_block]; exact hb16.1)).trans (hc18 0 _ rfl))) g46 ?_
    refine wg vmv g46 ?_
    refine wg (vix 4 k27 underlying119 type121) g46 ?_
    refine wg (vf underlying121 rfl type3) g46 ?_
    refine wg (fun W hm => rv_load underlying3 rfl rfl ((hm.cell0 (show ((a33.add (k27 * 4)).add 3).block < w.heap.size from by rw [add_block, add_block]; exact hb34.1)).trans (hc36 3 _ rfl))) g46 ?_
    refine wg (fun W hm => rv_eql rfl rfl) g46 ?_
    refine wv (vpT g46) ?_
    refine nt' ?_
    by_cases h47 : ((gt (gt x0.Segments k9) k27).Died) = (-1)
    ·have g48 := beq_iff_eq.2 h47
     refine CM_condT rfl g48 ?_
     refine sr (wm (wm (wa (wa (nt' (CM_ret (QM_block_ret (QM_then_ret (QM_then_ret (QM_block_ret (QM_block_ret (QM_then_ret (QM_then_ret (QM_block_ret (QM_then_ret ?_)))))))))))))))
     have he49 := (show spec_l8Find_m x0 x1 = (((k9 : Nat) : Int), ((k27 : Nat) : Int)) from fin_inl (rng_ret (body := F1) (k := k9) (s := ()) (show k9 < x0.Segments.length from by omega) (fin_inl (rng_ret (body := F2) (k := k27) (s := ()) (show k27 < ((gt x0.Segments k9)).length from by omega) (cond_t g46 (cond_t g48 (rfl))) hF29) rfl) hF11) rfl)
     exact QM_r2 rfl (RR_tmp rfl) (RR_tmp rfl) (fun W hm => ⟨by rw [he49]; first | done | rfl, hm.below⟩)
    ·have g48 := beq_eq_false_iff_ne.2 h47
     refine CM_condF rfl g48 ?_
     refine CM_skip (QM_block_normal (QM_then (CM_region (wm ?_))))
     refine wv (vadN k27 1 (by omega)) ?_
     refine wa (WM_nil ?_)
     have hn50 := rng_next (R := (Int × Int)) (body := F2) (k := k27) (s := ()) (s' := ()) (show k27 < ((gt x0.Segments k9)).length from by omega) (cond_t g46 (cond_f g48 (rfl))) hF29
     exact QM_round (k27 + 1, (), ()) sl4 (fun W hm => hm) ⟨(by omega), hn50⟩ (show ((gt x0.Segments k9)).length - (k27 + 1) < ((gt x0.Segments k9)).length - k27 from by omega)
   ·have g46 := beq_eq_false_iff_ne.2 h45
    refine ws g46 ?_
    refine ws g46 ?_
    refine ws g46 ?_
    refine ws g46 ?_
    refine ws g46 ?_
    refine ws g46 ?_
    refine ws g46 ?_
    refine ws g46 ?_
    refine ws g46 ?_
    refine ws g46 ?_
    refine wv (vpF g46) ?_
    refine nt' ?_
    refine CM_condF rfl rfl ?_
    refine CM_skip (QM_block_normal (QM_then (CM_region (wm ?_))))
    refine wv (vadN k27 1 (by omega)) ?_
    refine wa (WM_nil ?_)
    have hn51 := rng_next (R := (Int × Int)) (body := F2) (k := k27) (s := ()) (s' := ()) (show k27 < ((gt x0.Segments k9)).length from by omega) (cond_f g46 (rfl)) hF29
    exact QM_round (k27 + 1, (), ()) sl4 (fun W hm => hm) ⟨(by omega), hn51⟩ (show ((gt x0.Segments k9)).length - (k27 + 1) < ((gt x0.Segments k9)).length - k27 from by omega)
  ·have g32 := dlF hl31
   refine CM_condF rfl g32 ?_
   refine CM_exit (QM_then_exit (QM_then_exit ?_))
   have hE52 : R4 (((gt x0.Segments k9)).length - 0) 0 () = Sum.inr () := rng_end hl31 hF29
   refine QM_block_hit (QM_block_normal (QM_then (CM_region (wm ?_))))
   refine wv (vadN k9 1 (by omega)) ?_
   refine wa (WM_nil ?_)
   have hn53 := rng_next (R := (Int × Int)) (body := F1) (k := k9) (s := ()) (s' := ()) (show k9 < x0.Segments.length from by omega) (fin_inr hE52 (rfl)) hF11
   exact QM_round (k9 + 1, (), ()) sl3 (fun W hm => hm) ⟨(by omega), hn53⟩ (rl (by omega))
 ·have g14 := dlF hl13
  refine CM_condF rfl g14 ?_
  refine CM_exit (QM_then_exit (QM_then_exit ?_))
  have hE54 : R3 (x0.Segments.length - 0) 0 () = Sum.inr () := rng_end hl13 hF11
  refine QM_block_hit (QM_then (sr (wa (wa (nt' (CM_ret ?_))))))
  have he55 := (show spec_l8Find_m x0 x1 = ((-1), (-1)) from fin_inr hE54 (rfl))
  exact QM_r2 rfl (RR_tmp rfl) (RR_tmp rfl) (fun W hm => ⟨by rw [he55]; first | done | rfl, hm.below⟩)

def spec_l8Room_b1 (x0 : DStore) (k9 : Nat) : Int ⊕ (Unit) :=
 cond (decide (((((gt x0.Segments k9)).length : Nat) : Int) < 4)) (Sum.inl ((k9 : Nat) : Int)) (Sum.inr ())
def spec_l8Room_m (x0 : DStore) : Int :=
 Sum.elim id (fun (s : Unit) => (-1)) (rng (R := Int) (fun k (_ : Unit) => spec_l8Room_b1 x0 k) (x0.Segments.length - 0) 0 ())
theorem cb104 : Cb Tryz.prog 104 := ⟨f104, _, func104, rfl, by decide⟩
theorem spec_l8Room_c (w : World) (z0 : List Value) (x0 : DStore) (r_0 : tyStore.rd w w.heap.size z0 x0) :
  Calls Tryz.prog 104 #[.agg z0.toArray] w fun e w' => e = .returned (.int .i64 (spec_l8Room_m x0)) ∧ Below w.heap.size w w' := by
 obtain ⟨v1, rfl, r2⟩ := tyStore_rd r_0
 obtain ⟨m3, A4, c5, rfl, q6, r7⟩ := rdS_op r2
 refine ce1 (L := [(0, .agg #[.slice A4 x0.Segments.length c5, .int .i64 x0.Now])]) (N := 19) func104 ?_
 refine sr ?_
 refine WM_box rfl (Wd_none rfl) (by decide) (fun p8 => ?_)
 refine wa (nt' (CM_seq (sr (wa (nt' (CM_block ?_))))))
 let F1 := fun k (_ : Unit) => spec_l8Room_b1 x0 k
 let R2 := rng (R := Int) F1
 let I3 : It := iBox p8 81 [.slice A4 x0.Segments.length c5, .int .i64 x0.Now]
 refine CM_loop (σ := Nat × (Unit) × (Unit)) (fun s => [(1, .pointer (some (⟨p8, 0, none⟩ : Addr))), (3, .int .i64 ((s.1 : Nat) : Int))]) (fun s => [I3]) (fun s => s.1 ≤ x0.Segments.length ∧ R2 (x0.Segments.length - s.1) s.1 s.2.1 = R2 (x0.Segments.length - 0) 0 ()) (fun s => x0.Segments.length - s.1) (0, (), ()) sl2 (fun W hm => hm) ⟨(by omega), rfl⟩ ?_
 rintro ⟨k9, ⟨⟩, ⟨⟩⟩ H12
 obtain ⟨hk10, hF11⟩ : k9 ≤ x0.Segments.length ∧ R2 (x0.Segments.length - k9) k9 () = R2 (x0.Segments.length - 0) 0 () := H12
 show CM Tryz.prog 19 _ _ _ _ [(1, .pointer (some (⟨p8, 0, none⟩ : Addr))), (3, .int .i64 ((k9 : Nat) : Int))] [I3]
 refine CM_seq (sr (wm ?_))
 refine wv (vf underlying81 rfl type79) ?_
 refine wv (vl 0 0 underlying79) ?_
 refine wv (vlen underlying79) ?_
 refine wv vlss ?_
 refine nt' ?_
 by_cases hl13 : k9 < x0.Segments.length
 ·have g14 := dlT hl13
  refine CM_condT rfl g14 ?_
  refine CM_skip (QM_then (CM_seq (CM_block (sr ?_))))
  refine wv (vf underlying81 rfl type79) ?_
  refine wv (vl 0 0 underlying79) ?_
  refine wm ?_
  obtain ⟨a15, rfl, hb16, he17⟩ := q6 (by omega)
  refine wv (vix 1 k9 underlying79 type119) ?_
  obtain ⟨_, e19, hc18⟩ := he17 k9 _ (gt_some (show k9 < x0.Segments.length from by omega))
  obtain ⟨v20, rfl, r21⟩ := e19
  obtain ⟨m22, A23, c24, rfl, q25, r26⟩ := rdS_op r21
  refine wv (fun W hm => rv_load underlying119 rfl rfl ((hm.cell0 (show (a15.add (k9 * 1)).block < w.heap.size from by rw [add_block]; exact hb16.1)).trans (hc18 0 _ rfl))) ?_
  refine wv (vlen underlying119) ?_
  refine wv vlss ?_
  refine nt' ?_
  by_cases h27 : ((((gt x0.Segments k9)).length : Nat) : Int) < 4
  ·have g28 := decide_eq_true h27
   refine CM_condT rfl g28 ?_
   refine sr (wm (wa (nt' (CM_ret (QM_block_ret (QM_then_ret (QM_then_ret (QM_block_ret (QM_then_ret ?_)))))))))
   exact rti (h := fin_inl (rng_ret (body := F1) (k := k9) (s := ()) (show k9 < x0.Segments.length from by omega) (cond_t g28 (rfl)) hF11) rfl)
  ·have g28 := decide_eq_false h27
   refine CM_condF rfl g28 ?_
   refine CM_skip (QM_block_normal (QM_then (CM_region (wm ?_))))
   refine wv (vadN k9 1 (by omega)) ?_
   refine wa (WM_nil ?_)
   have hn29 := rng_next (R := Int) (body := F1) (k := k9) (s := ()) (s' := ()) (show k9 < x0.Segments.length from by omega) (cond_f g28 (rfl)) hF11
   exact QM_round (k9 + 1, (), ()) sl2 (fun W hm => hm) ⟨(by omega), hn29⟩ (rl (by omega))
 ·have g14 := dlF hl13
  refine CM_condF rfl g14 ?_
  refine CM_exit (QM_then_exit (QM_then_exit ?_))
  have hE30 : R2 (x0.Segments.length - 0) 0 () = Sum.inr () := rng_end hl13 hF11
  refine QM_block_hit (QM_then (sr (wa (nt' (CM_ret ?_)))))
  exact rti (h := fin_inr hE30 (rfl))

def okS (now : Int) (seen : List DVersion) (v : DVersion) : Bool := spec_l7Version_m v now && seen.all fun w => spec_l7Apart_m v w
def seenF (ok : List DVersion → DVersion → Bool) : List DVersion → List DVersion → Bool
  | _, [] => true
  | seen, v :: l => ok seen v && seenF ok (seen ++ [v]) l
theorem Version_eq (v : DVersion) (now : Int) : spec_l7Version_m v now = (spec_IsRow_m (⟨v.Id, v.Values⟩ : DRow) && decide (0 ≤ v.Born ∧ v.Born ≤ now) && (v.Died == (-1) || decide (IntKind.i64.wrap (v.Born + 1) ≤ v.Died ∧ v.Died ≤ now))) := by
  unfold spec_l7Version_m
  rw [spec_l1In_iff, spec_l1In_iff]
  cases spec_IsRow_m (⟨v.Id, v.Values⟩ : DRow) <;> cases decide (0 ≤ v.Born ∧ v.Born ≤ now) <;> cases v.Died == (-1) <;> rfl
def storeB (ok : List DVersion → DVersion → Bool) (x : DStore) : Bool := decide (1 ≤ (x.Segments.length : Int) ∧ (x.Segments.length : Int) ≤ 8) && decide (0 ≤ x.Now ∧ x.Now ≤ 100000) && x.Segments.all (fun s => decide (s.length ≤ 4)) && seenF ok [] x.Segments.flatten
theorem foldl_flat {α : Type} : ∀ (l : List (List α)) (d : List α), l.foldl (fun d s => d ++ s) d = d ++ l.flatten
  | [], d => by simp
  | s :: l, d => by rw [List.foldl_cons, foldl_flat l]; simp
theorem l7All_form (x : DStore) : spec_l7All_m x = x.Segments.flatten := by
  unfold spec_l7All_m
  rw [rng_fold (xs := x.Segments) (f := fun d s => d ++ s) (b := fun k s => spec_l7All_b1 x k s) (fun j s _ => rfl), foldl_flat]
  rfl
theorem seen_idx (now : Int) (l : List DVersion) (b : Nat → Unit → Bool ⊕ Unit) (hb : ∀ i, i < l.length → b i () = cond (okS now (l.take i) (gt l i)) (.inr ()) (.inl false)) : rng b (l.length - 0) 0 () = cond (seenF (okS now) [] l) (.inr ()) (.inl false) := by
  have h : ∀ m k, m + k = l.length → rng b m k () = cond (seenF (okS now) (l.take k) (l.drop k)) (.inr ()) (.inl false) := by
    intro m
    induction m with
    | zero => intro k hk; rw [rng, List.drop_of_length_le (by omega)]; rfl
    | succ m ih =>
      intro k hk
      have hlt : k < l.length := by omega
      rw [rng, hb k hlt, List.drop_eq_getElem_cons hlt, ← gt_at hlt]
      show _ = cond (okS now (l.take k) (gt l k) && seenF (okS now) (l.take k ++ [gt l k]) (l.drop (k + 1))) _ _
      have ht : l.take k ++ [gt l k] = l.take (k + 1) := by rw [List.take_add_one, List.getElem?_eq_getElem hlt, ← gt_at hlt]; rfl
      rw [ht]
      cases okS now (l.take k) (gt l k) with
      | true => exact ih (k + 1) (by omega)
      | false => rfl
  have := h (l.length - 0) 0 (by omega)
  simpa using this
theorem spec_IsStore_form (x : DStore) : spec_IsStore_m x = storeB (okS x.Now) x := by
  unfold spec_IsStore_m storeB
  rw [rng_allB (xs := x.Segments) (r := false) (p := fun s => decide (s.length ≤ 4)) (fun j _ => by
    unfold spec_IsStore_b1
    by_cases h : (gt x.Segments j).length ≤ 4
    · rw [decide_eq_true h, decide_eq_false (show ¬ 4 < ((gt x.Segments j).length : Int) by omega)]; rfl
    · rw [decide_eq_false h, decide_eq_true (show 4 < ((gt x.Segments j).length : Int) by omega)]; rfl)]
  rw [seen_idx x.Now (spec_l7All_m x) _ (fun i hi => by
    show spec_IsStore_b2 x i = _
    unfold spec_IsStore_b2 okS
    rw [rng_take (xs := spec_l7All_m x) (Nat.le_of_lt hi), rng_allB (xs := (spec_l7All_m x).take i) (r := false) (p := fun w => spec_l7Apart_m (gt (spec_l7All_m x) i) w) (fun k hk => by
      rw [List.length_take] at hk
      rw [gt_take (by omega)]
      rfl)]
    cases spec_l7Version_m (gt (spec_l7All_m x) i) x.Now <;> cases ((spec_l7All_m x).take i).all (fun w => spec_l7Apart_m (gt (spec_l7All_m x) i) w) <;> rfl), l7All_form, spec_l1In_iff, spec_l1In_iff]
  cases decide (1 ≤ (x.Segments.length : Int) ∧ (x.Segments.length : Int) ≤ 8) <;> cases decide (0 ≤ x.Now ∧ x.Now ≤ 100000) <;> cases x.Segments.all (fun s => decide (s.length ≤ 4)) <;> cases seenF (okS x.Now) [] x.Segments.flatten <;> rfl
theorem spec_IsRow_len {r : DRow} (h : spec_IsRow_m r = true) : r.Values.length = 3 := by
  unfold spec_IsRow_m at h
  rw [rng_allN (p := fun k => spec_l1In_m (gt r.Values k) 0 99) (r := false) (fun k _ => by
    unfold spec_IsRow_b1
    cases spec_l1In_m (gt r.Values k) 0 99 <;> rfl)] at h
  by_cases h1 : r.Values.length = 3
  · exact h1
  · rw [beq_eq_false_iff_ne.2 (show ¬ ((r.Values.length : Nat) : Int) = 3 by omega)] at h
    revert h
    cases (List.range r.Values.length).all (fun k => spec_l1In_m (gt r.Values k) 0 99) <;> cases spec_l1In_m r.Id 0 999 <;> intro h <;> cases h
theorem seenF_mem {ok : List DVersion → DVersion → Bool} : ∀ (l seen : List DVersion), seenF ok seen l = true → ∀ v ∈ l, ∃ s, ok s v = true
  | [], _, _, v, hv => by cases hv
  | x :: l, seen, h, v, hv => by
    have h2 : (ok seen x && seenF ok (seen ++ [x]) l) = true := h
    rw [Bool.and_eq_true] at h2
    rcases List.mem_cons.1 hv with rfl | hv
    · exact ⟨_, h2.1⟩
    · exact seenF_mem l _ h2.2 v hv
theorem spec_Store_vers {x : DStore} (h : spec_IsStore_m x = true) : (1 ≤ x.Segments.length ∧ x.Segments.length ≤ 8) ∧ (0 ≤ x.Now ∧ x.Now ≤ 100000) ∧ (∀ s ∈ x.Segments, s.length ≤ 4) ∧ ∀ s ∈ x.Segments, ∀ v ∈ s, spec_l7Version_m v x.Now = true := by
  rw [spec_IsStore_form] at h
  unfold storeB at h
  simp only [Bool.and_eq_true, decide_eq_true_eq, List.all_eq_true] at h
  obtain ⟨⟨⟨h1, h2⟩, h3⟩, h4⟩ := h
  refine ⟨by omega, h2, h3, fun s hs v hv => ?_⟩
  obtain ⟨d, h5⟩ := seenF_mem _ _ h4 v (List.mem_flatten.2 ⟨s, hs, hv⟩)
  unfold okS at h5
  rw [Bool.and_eq_true] at h5
  exact h5.1
theorem spec_Version_len {v : DVersion} {now : Int} (h : spec_l7Version_m v now = true) : v.Values.length = 3 := by
  rw [Version_eq] at h
  simp only [Bool.and_eq_true] at h
  exact spec_IsRow_len (r := ⟨v.Id, v.Values⟩) h.1.1
theorem spec_Find_fact {x : DStore} (h : spec_IsStore_m x = true) (id : Int) : (spec_l8Find_m x id).1 < 0 ∨ (0 ≤ (spec_l8Find_m x id).1 ∧ (spec_l8Find_m x id).1.toNat < x.Segments.length ∧ 0 ≤ (spec_l8Find_m x id).2 ∧ (spec_l8Find_m x id).2.toNat < (gt x.Segments (spec_l8Find_m x id).1.toNat).length ∧ (gt (gt x.Segments (spec_l8Find_m x id).1.toNat) (spec_l8Find_m x id).2.toNat).Values.length = 3 ∧ (spec_l8Find_m x id).1 < (x.Segments.length : Int) ∧ (spec_l8Find_m x id).2 < ((gt x.Segments (spec_l8Find_m x id).1.toNat).length : Int)) := by
  have hv := (spec_Store_vers h).2.2.2
  have key : (∃ r, rng (R := Int × Int) (fun k (_ : Unit) => spec_l8Find_b1 x id k) (x.Segments.length - 0) 0 () = .inl r ∧ (0 ≤ r.1 ∧ r.1.toNat < x.Segments.length ∧ 0 ≤ r.2 ∧ r.2.toNat < (gt x.Segments r.1.toNat).length ∧ (gt (gt x.Segments r.1.toNat) r.2.toNat).Values.length = 3)) ∨ rng (R := Int × Int) (fun k (_ : Unit) => spec_l8Find_b1 x id k) (x.Segments.length - 0) 0 () = .inr () := by
    refine rng_find (n := x.Segments.length) (fun j hj => ?_) _ _ (by omega)
    show (∃ r, spec_l8Find_b1 x id j = .inl r ∧ _) ∨ spec_l8Find_b1 x id j = .inr ()
    unfold spec_l8Find_b1
    have k2 := rng_find (P := fun r : Int × Int => 0 ≤ r.1 ∧ r.1.toNat < x.Segments.length ∧ 0 ≤ r.2 ∧ r.2.toNat < (gt x.Segments r.1.toNat).length ∧ (gt (gt x.Segments r.1.toNat) r.2.toNat).Values.length = 3) (n := (gt x.Segments j).length) (b := fun k (_ : Unit) => spec_l8Find_b2 x id j k) (fun k hk => by
      show (∃ r, spec_l8Find_b2 x id j k = .inl r ∧ _) ∨ spec_l8Find_b2 x id j k = .inr ()
      unfold spec_l8Find_b2
      cases (gt (gt x.Segments j) k).Id == id with
      | false => exact .inr rfl
      | true =>
        cases (gt (gt x.Segments j) k).Died == -1 with
        | false => exact .inr rfl
        | true =>
          refine .inl ⟨_, rfl, ?_⟩
          simp only [Int.toNat_natCast]
          exact ⟨by omega, hj, by omega, hk, spec_Version_len (hv _ (gt_mem hj) _ (gt_mem hk))⟩) _ 0 rfl
    rcases k2 with ⟨r, e1, e2⟩ | e1
    · exact .inl ⟨r, by rw [Nat.sub_zero, e1]; rfl, e2⟩
    · exact .inr (by rw [Nat.sub_zero, e1]; rfl)
  unfold spec_l8Find_m
  rcases key with ⟨r, e1, e2⟩ | e1
  · rw [e1]; obtain ⟨q1, q2, q3, q4, q5⟩ := e2; exact .inr ⟨q1, q2, q3, q4, q5, (by show r.1 < _; omega), (by show r.2 < ((gt x.Segments r.1.toNat).length : Int); omega)⟩
  · rw [e1]; exact .inl (by decide)
theorem spec_Room_fact (x : DStore) : spec_l8Room_m x < 0 ∨ (0 ≤ spec_l8Room_m x ∧ (spec_l8Room_m x).toNat < x.Segments.length ∧ (gt x.Segments (spec_l8Room_m x).toNat).length < 4) := by
  unfold spec_l8Room_m
  rcases rng_find (P := fun r : Int => 0 ≤ r ∧ r.toNat < x.Segments.length ∧ (gt x.Segments r.toNat).length < 4) (n := x.Segments.length) (b := fun k (_ : Unit) => spec_l8Room_b1 x k) (fun j hj => by
    show (∃ r, spec_l8Room_b1 x j = .inl r ∧ _) ∨ spec_l8Room_b1 x j = .inr ()
    unfold spec_l8Room_b1
    by_cases h : ((gt x.Segments j).length : Int) < 4
    · rw [decide_eq_true h]
      refine .inl ⟨_, rfl, ?_⟩
      simp only [Int.toNat_natCast]
      omega
    · rw [decide_eq_false h]; exact .inr rfl) (x.Segments.length - 0) 0 (by omega) with ⟨r, e1, e2⟩ | e1
  · rw [e1]; exact .inr e2
  · rw [e1]; exact .inl (by decide)
theorem spec_Update_fact {u : DUpdate} (h : spec_IsUpdate_m u = true) : (u.Kind = 1 ∨ u.Kind = 2 ∨ u.Kind = 3) ∧ (u.Kind = 3 → 0 ≤ u.Field ∧ u.Field ≤ 2) ∧ (u.Kind = 1 → u.Row.Values.length = 3) ∧ (u.Kind ≠ 1 → u.Row.Values.length = 0) := by
  unfold spec_IsUpdate_m at h
  by_cases h1 : u.Kind = 1
  · rw [beq_iff_eq.2 h1, cond_true] at h
    cases h2 : spec_IsRow_m u.Row with
    | true => have := spec_IsRow_len h2; exact ⟨by omega, by omega, by omega, by omega⟩
    | false => rw [h2] at h; cases h
  · rw [beq_eq_false_iff_ne.2 h1, cond_false] at h
    by_cases h0 : ((u.Row.Values.length : Nat) : Int) = 0
    · by_cases h2 : u.Kind = 2
      · exact ⟨by omega, by omega, by omega, by omega⟩
      · rw [beq_eq_false_iff_ne.2 h2, cond_false] at h
        by_cases h3 : u.Kind = 3
        · rw [beq_iff_eq.2 h3, cond_true] at h
          cases h4 : spec_l1In_m u.Row.Id 0 999 with
          | false => rw [h4] at h; cases h
          | true =>
            rw [h4, cond_true, beq_iff_eq.2 h0, cond_true] at h
            cases h5 : spec_l1In_m u.Field 0 2 with
            | false => rw [h5] at h; cases h
            | true => have := spec_l1In_fact h5; exact ⟨by omega, by omega, by omega, by omega⟩
        · rw [beq_eq_false_iff_ne.2 h3, cond_false] at h; cases h
    · rw [beq_eq_false_iff_ne.2 h0] at h
      revert h
      cases (u.Kind == 2) <;> cases (u.Kind == 3) <;> cases spec_l1In_m u.Row.Id 0 999 <;> intro h <;> cases h
abbrev spec_ApplyUpdate_v1 (x0 : DStore) (x1 : DUpdate) : (List DVersion) :=
 ((gt x0.Segments (((spec_l8Find_m x0 x1.Row.Id).1).toNat)).set (((spec_l8Find_m x0 x1.Row.Id).2).toNat) (⟨(gt (gt x0.Segments (((spec_l8Find_m x0 x1.Row.Id).1).toNat)) (((spec_l8Find_m x0 x1.Row.Id).2).toNat)).Id, (gt (gt x0.Segments (((spec_l8Find_m x0 x1.Row.Id).1).toNat)) (((spec_l8Find_m x0 x1.Row.Id).2).toNat)).Values, (gt (gt x0.Segments (((spec_l8Find_m x0 x1.Row.Id).1).toNat)) (((spec_l8Find_m x0 x1.Row.Id).2).toNat)).Born, (IntKind.i64.wrap (x0.Now + 1))⟩ : DVersion))
abbrev spec_ApplyUpdate_v2 (x0 : DStore) (x1 : DUpdate) : (List DVersion) :=
 ((gt (x0.Segments.set (((spec_l8Find_m x0 x1.Row.Id).1).toNat) (spec_ApplyUpdate_v1 x0 x1)) ((spec_l8Room_m x0).toNat)) ++ [(⟨x1.Row.Id, (((gt (gt x0.Segments (((spec_l8Find_m x0 x1.Row.Id).1).toNat)) (((spec_l8Find_m x0 x1.Row.Id).2).toNat)).Values).set (x1.Field.toNat) x1.Value), (IntKind.i64.wrap (x0.Now + 1)), (-1)⟩ : DVersion)])
abbrev spec_ApplyUpdate_v3 (x0 : DStore) (x1 : DUpdate) : (List DVersion) :=
 ((gt (x0.Segments.set (((spec_l8Find_m x0 x1.Row.Id).1).toNat) (spec_ApplyUpdate_v1 x0 x1)) ((spec_l8Room_m x0).toNat)) ++ [(⟨x1.Row.Id, (gt (gt x0.Segments (((spec_l8Find_m x0 x1.Row.Id).1).toNat)) (((spec_l8Find_m x0 x1.Row.Id).2).toNat)).Values, (IntKind.i64.wrap (x0.Now + 1)), (-1)⟩ : DVersion)])
abbrev spec_ApplyUpdate_v4 (x0 : DStore) (x1 : DUpdate) : (List (List DVersion)) :=
 (x0.Segments.set ((spec_l8Room_m x0).toNat) ((gt x0.Segments ((spec_l8Room_m x0).toNat)) ++ [(⟨x1.Row.Id, (x1.Row.Values.set (x1.Field.toNat) x1.Value), (IntKind.i64.wrap (x0.Now + 1)), (-1)⟩ : DVersion)]))
def spec_ApplyUpdate_m (x0 : DStore) (x1 : DUpdate) : (DStore × Bool) :=
 cond (spec_IsStore_m x0) (cond (spec_IsUpdate_m x1) (cond (decide (100000 ≤ x0.Now)) (x0, false) (cond ((x1.Kind == 1) != (decide (((spec_l8Find_m x0 x1.Row.Id).1) < 0))) (x0, false) (cond (x1.Kind != 2) (cond (decide ((spec_l8Room_m x0) < 0)) (x0, false) (cond (decide (0 ≤ ((spec_l8Find_m x0 x1.Row.Id).1))) (cond (x1.Kind == 3) ((⟨((x0.Segments.set (((spec_l8Find_m x0 x1.Row.Id).1).toNat) (spec_ApplyUpdate_v1 x0 x1)).set ((spec_l8Room_m x0).toNat) (spec_ApplyUpdate_v2 x0 x1)), (IntKind.i64.wrap (x0.Now + 1))⟩ : DStore), true) ((⟨((x0.Segments.set (((spec_l8Find_m x0 x1.Row.Id).1).toNat) (spec_ApplyUpdate_v1 x0 x1)).set ((spec_l8Room_m x0).toNat) (spec_ApplyUpdate_v3 x0 x1)), (IntKind.i64.wrap (x0.Now + 1))⟩ : DStore), true)) (cond (x1.Kind == 3) ((⟨(spec_ApplyUpdate_v4 x0 x1), (IntKind.i64.wrap (x0.Now + 1))⟩ : DStore), true) ((⟨(x0.Segments.set ((spec_l8Room_m x0).toNat) ((gt x0.Segments ((spec_l8Room_m x0).toNat)) ++ [(⟨x1.Row.Id, x1.Row.Values, (IntKind.i64.wrap (x0.Now + 1)), (-1)⟩ : DVersion)])), (IntKind.i64.wrap (x0.Now + 1))⟩ : DStore), true)))) (cond (decide (0 ≤ ((spec_l8Find_m x0 x1.Row.Id).1))) (cond (x1.Kind == 3) ((⟨(x0.Segments.set (((spec_l8Find_m x0 x1.Row.Id).1).toNat) (spec_ApplyUpdate_v1 x0 x1)), (IntKind.i64.wrap (x0.Now + 1))⟩ : DStore), true) ((⟨(x0.Segments.set (((spec_l8Find_m x0 x1.Row.Id).1).toNat) (spec_ApplyUpdate_v1 x0 x1)), (IntKind.i64.wrap (x0.Now + 1))⟩ : DStore), true)) (cond (x1.Kind == 3) ((⟨x0.Segments, (IntKind.i64.wrap (x0.Now + 1))⟩ : DStore), true) ((⟨x0.Segments, (IntKind.i64.wrap (x0.Now + 1))⟩ : DStore), true)))))) (x0, false)) (x0, false)
theorem cb79 : Cb Tryz.prog 79 := ⟨f79, _, func79, rfl, by decide⟩
theorem spec_ApplyUpdate_c (w : World) (z0 : List Value) (x0 : DStore) (z1 : List Value) (x1 : DUpdate) (r_0 : tyStore.rd w w.heap.size z0 x0) (r_1 : tyUpdate.rd w w.heap.size z1 x1) (s_0 : smStore 68719476736 x0) (s_1 : smUpdate 68719476736 x1) :
  Calls Tryz.prog 79 #[.agg z0.toArray, .agg z1.toArray] w fun e w' => ∃ v : List Value, e = .returned (.tuple #[.agg v.toArray, .bool ((spec_ApplyUpdate_m x0 x1).2)]) ∧ Mem w.heap.size w [iOwn tyStore v (spec_ApplyUpdate_m x0 x1).1] w' := by
 obtain ⟨v1, rfl, r2⟩ := tyStore_rd r_0
 obtain ⟨m3, A4, c5, rfl, q6, r7⟩ := rdS_op r2
 obtain ⟨v8, rfl, r9⟩ := tyUpdate_rd r_1
 obtain ⟨m10, A11, c12, rfl, q13, r14⟩ := rdS_op r9
 have l15 : x0.Segments.length ≤ 68719476736 := s_0.1
 have l16 : x1.Row.Values.length ≤ 68719476736 := s_1
 refine ce2 (L := [(0, .agg #[.slice A4 x0.Segments.length c5, .int .i64 x0.Now]), (1, .agg #[.int .i64 x1.Kind, .int .i64 x1.Row.Id, .slice A11 x1.Row.Values.length c12, .int .i64 x1.Field, .int .i64 x1.Value])]) (N := 118) func79 ?_
 refine sr ?_
 refine WM_box rfl (Wd_none rfl) (by decide) (fun p17 => ?_)
 refine WM_box rfl (Wd_none rfl) (by decide) (fun p18 => ?_)
 refine WM_alloc type81 rfl (Wd_none rfl) (by decide) (fun p19 => ?_)
 refine wa (nt' (sr ?_))
 refine wv (fun W hm => rv_loadN (cs := [.slice A4 x0.Segments.length c5, .int .i64 x0.Now]) underlying81 type81 rfl rfl (hm.boxCells (n := 2) rfl)) ?_
 refine wcs tyStore x0 (cl_fn cb101 rfl) (fun W hm => spec_l7Copy_c2 W _ x0 (tyStore_mk (x := x0) (hm.rdS0 r7)) s_0) (fun z20 => ?_)
 refine tyStore_sp ?_
 rintro v21 rfl
 refine WM_form (n := 0) rfl ?_
 rintro A22 c23 rfl m24
 refine WM_alloc type81 rfl (Wd_none rfl) (by decide) (fun p26 => ?_)
 let K1 : List Value := [.int .i64 x1.Kind, .int .i64 x1.Row.Id, .slice A11 x1.Row.Values.length c12, .int .i64 x1.Field, .int .i64 x1.Value]
 let I31 : It := iOwn (tSl (tSl tyVersion 121) 119) [.slice A22 x0.Segments.length c23] x0.Segments
 let I32 : It := iBox p17 81 [.slice A4 x0.Segments.length c5, .int .i64 x0.Now]
 refine sb 0 [.slice A22 x0.Segments.length c23, .int .i64 x0.Now] [I31, iBox p19 81 [.slice none 0 0, .int .i64 0], iBox p18 32 K1, I32] (fun W hm => hm) type81 ?_
 refine nt' (CM_seq (sr ?_))
 refine wv (fun W hm => rv_loadN (cs := [.slice A4 x0.Segments.length c5, .int .i64 x0.Now]) underlying81 type81 rfl rfl (hm.boxCells (n := 4) rfl)) ?_
 refine wcv (cl_fn cb102 rfl) (fun W hm => spec_IsStore_c W _ x0 (tyStore_mk (x := x0) (hm.rdS0 r7)) s_0) ?_
 refine wv vnot ?_
 refine wm ?_
 rcases Bool.eq_false_or_eq_true (spec_IsStore_m x0) with g28 | g28
 ·
  have hst := g28
  refine wg (fun W hm => rv_loadN (cs := K1) underlying32 type32 rfl rfl (hm.boxCells (n := 3) rfl)) (nt g28) ?_
  refine WM_callV (cl_fn cb16 rfl) (fun W hm => spec_IsUpdate_c W _ x1 (tyUpdate_mk (x := x1) (hm.rdS0 r14))) (Wd_some rfl rfl rfl (bw (nt g28) rfl)) (by decide) ?_
  refine wg vnot (nt g28) ?_
  refine wv (vpF (nt g28)) ?_
  refine wm ?_
  rcases Bool.eq_false_or_eq_true (spec_IsUpdate_m x1) with g30 | g30
  ·
   obtain ⟨hu1, hu2, hu3, hu4⟩ := spec_Update_fact g30
   refine wg (vf underlying81 rfl type3) (nt g30) ?_
   refine wg (vl 4 1 underlying3) (nt g30) ?_
   refine wg (fun W hm => rv_geq rfl rfl) (nt g30) ?_
   refine wv (vpF (nt g30)) ?_
   refine nt' ?_
   by_cases h31 : 100000 ≤ x0.Now
   ·have g32 := decide_eq_true h31
    refine CM_condT rfl g32 ?_
    refine sr ?_
    refine wv (fun W hm => rv_loadN (cs := [.slice A22 x0.Segments.length c23, .int .i64 x0.Now]) underlying81 type81 rfl rfl (hm.boxCells (n := 0) rfl)) ?_
    refine sb 0 [.slice A22 x0.Segments.length c23, .int .i64 x0.Now] [iBox p26 81 [.slice A22 x0.Segments.length c23, .int .i64 x0.Now], I31, iBox p18 32 K1, I32] (pk [2, 0, 1, 3, 4]) type81 ?_
    refine wa (nt' (CM_ret (QM_then_ret ?_)))
    have he33 := (show spec_ApplyUpdate_m x0 x1 = (x0, false) from cond_t g28 (cond_t g30 (cond_t g32 (rfl))))
    refine QM_r2 rfl (RR_cell (n := 0) rfl rfl underlying81 type81 rfl) (RR_tmp rfl) (fun W hm => ⟨[.slice A22 x0.Segments.length c23, .int .i64 x0.Now], ?_, ?_⟩)
    ·first | rw [he33] | rfl
     try rfl
    ·rw [he33]; exact Mem.join (is := [I31]) (js := []) (fun _ _ hs => tyStore_join (x := x0) hs) (hm.pick [2] (by decide))
   ·have g32 := decide_eq_false h31
    refine CM_condF rfl g32 ?_
    refine CM_skip (QM_then (sr ?_))
    refine wv (fun W hm => rv_loadN (cs := [.slice A4 x0.Segments.length c5, .int .i64 x0.Now]) underlying81 type81 rfl rfl (hm.boxCells (n := 4) rfl)) ?_
    refine wv (vf underlying32 rfl type26) ?_
    refine wv (fun W hm => rv_fieldA (o := 1) underlying26 rfl type3 (by decide) rfl rfl) ?_
    refine wv (vl 3 1 underlying3) ?_
    refine wcv (cl_fn cb103 rfl) (fun W hm => spec_l8Find_c W _ x0 x1.Row.Id (tyStore_mk (x := x0) (hm.rdS0 r7))) ?_
    have hf := spec_Find_fact (x := x0) hst x1.Row.Id
    refine wm ?_
    refine wv (fun W hm => rv_extract rfl rfl) ?_
    refine wv (fun W hm => rv_extract rfl rfl) ?_
    refine wa (wa (nt' (sr ?_)))
    refine wv (fun W hm => rv_loadN (cs := [.slice A4 x0.Segments.length c5, .int .i64 x0.Now]) underlying81 type81 rfl rfl (hm.boxCells (n := 4) rfl)) ?_
    refine wcv (cl_fn cb104 rfl) (fun W hm => spec_l8Room_c W _ x0 (tyStore_mk (x := x0) (hm.rdS0 r7))) ?_
    have hr := spec_Room_fact x0
    refine wa (nt' (CM_seq (sr ?_)))
    refine wv (vf underlying32 rfl type3) ?_
    refine wv (vl 3 0 underlying3) ?_
    refine wv (fun W hm => rv_eql rfl rfl) ?_
    refine wm ?_
    refine wv vlss ?_
    refine wv (fun W hm => rv_neqB underlying4 rfl rfl) ?_
    refine wm ?_
    rcases Bool.eq_false_or_eq_true ((x1.Kind == 1) != (decide (((spec_l8Find_m x0 x1.Row.Id).1) < 0))) with g35 | g35
    ·
     refine ws g35 ?_
     refine ws g35 ?_
     refine ws g35 ?_
     refine ws g35 ?_
     refine wu ?_
     refine wu ?_
     refine ws g35 ?_
     refine wv (vpT g35) ?_
     refine nt' ?_
     refine CM_condT rfl rfl ?_
     refine sr ?_
     refine wv (fun W hm => rv_loadN (cs := [.slice A22 x0.Segments.length c23, .int .i64 x0.Now]) underlying81 type81 rfl rfl (hm.boxCells (n := 0) rfl)) ?_
     refine sb 0 [.slice A22 x0.Segments.length c23, .int .i64 x0.Now] [iBox p26 81 [.slice A22 x0.Segments.length c23, .int .i64 x0.Now], I31, iBox p18 32 K1, I32] (pk [2, 0, 1, 3, 4]) type81 ?_
     refine wa (nt' (CM_ret (QM_then_ret ?_)))
     have he36 := (show spec_ApplyUpdate_m x0 x1 = (x0, false) from cond_t g28 (cond_t g30 (cond_f g32 (cond_t g35 (rfl)))))
     refine QM_r2 rfl (RR_cell (n := 0) rfl rfl underlying81 type81 rfl) (RR_tmp rfl) (fun W hm => ⟨[.slice A22 x0.Segments.length c23, .int .i64 x0.Now], ?_, ?_⟩)
     ·first | rw [he36] | rfl
      try rfl
     ·rw [he36]; exact Mem.join (is := [I31]) (js := []) (fun _ _ hs => tyStore_join (x := x0) hs) (hm.pick [2] (by decide))
    ·
     have hne := bne_dec g35
     refine wg (vf underlying32 rfl type3) g35 ?_
     refine wg (vl 3 0 underlying3) g35 ?_
     refine wg vneq g35 ?_
     refine wg vmv g35 ?_
     by_cases h37 : x1.Kind = 2
     ·have g38 : (x1.Kind != 2) = false := by rw [h37]; exact bne_self_eq_false _
      refine ws g38 ?_
      refine ws g38 ?_
      refine wg (vpF g38) g35 ?_
      refine wv (vpF g35) ?_
      refine nt' ?_
      refine CM_condF rfl rfl ?_
      refine CM_skip (QM_then (sr ?_))
      refine wv (vf underlying81 rfl type3) ?_
      refine wv (vl 4 1 underlying3) ?_
      refine wv vadd ?_
      refine wv (vf underlying81 rfl type3) ?_
      let K2 : List Value := [.slice A22 x0.Segments.length c23, .int .i64 (IntKind.i64.wrap (x0.Now + 1))]
      refine sb 1 K2 [I31, iBox p19 81 [.slice none 0 0, .int .i64 0], iBox p18 32 K1, I32] (fun W hm => hm) type3 ?_
      refine nt' (CM_seq ?_)
      refine rd2 13 [12] (s := [iBox p26 81 K2, I31, iBox p19 81 [.slice none 0 0, .int .i64 0], iBox p18 32 K1, I32]) (s2 := [iBox p26 81 K2, I31, iBox p19 81 [.slice none 0 0, .int .i64 0], iBox p18 32 K1, I32]) (fun W hm => hm) (fun W hm => hm) ?_
      refine QD_mid (σ := Option Addr × Nat × Nat) (fun s => [iBox p26 81 K2, I31, iBox p19 81 [.slice none 0 0, .int .i64 0], iBox p18 32 K1, I32]) 13 4095 1 (fun s => [(3, .pointer (some (⟨p18, 0, none⟩ : Addr))), (4, .pointer (some (⟨p19, 0, none⟩ : Addr))), (6, .pointer (some (⟨p26, 0, none⟩ : Addr))), (7, .int .i64 ((spec_l8Find_m x0 x1.Row.Id).1)), (8, .int .i64 ((spec_l8Find_m x0 x1.Row.Id).2)), (9, .int .i64 (spec_l8Room_m x0)), (67, .agg #[.int .i64 x1.Row.Id, .slice s.1 x1.Row.Values.length s.2.1, .int .i64 (IntKind.i64.wrap (x0.Now + 1)), .int .i64 (-1)]), (10, .pointer (some (⟨s.2.2, 0, none⟩ : Addr)))]) (fun s => [iBox s.2.2 121 [.int .i64 0, .slice none 0 0, .int .i64 0, .int .i64 0], iOwn (tSl tInt 3) [.slice s.1 x1.Row.Values.length s.2.1] x1.Row.Values, iBox p26 81 K2, I31, iBox p19 81 [.slice none 0 0, .int .i64 0], iBox p18 32 K1, I32]) ?_ (fun H => ?_)
      ·
       rintro ⟨A42, c43, p46⟩
       let I33 : It := iOwn (tSl tInt 3) [.slice A42 x1.Row.Values.length c43] x1.Row.Values
       show QD _ _ _ _ _ _ _ _ [(3, .pointer (some (⟨p18, 0, none⟩ : Addr))), (4, .pointer (some (⟨p19, 0, none⟩ : Addr))), (6, .pointer (some (⟨p26, 0, none⟩ : Addr))), (7, .int .i64 ((spec_l8Find_m x0 x1.Row.Id).1)), (8, .int .i64 ((spec_l8Find_m x0 x1.Row.Id).2)), (9, .int .i64 (spec_l8Room_m x0)), (67, .agg #[.int .i64 x1.Row.Id, .slice A42 x1.Row.Values.length c43, .int .i64 (IntKind.i64.wrap (x0.Now + 1)), .int .i64 (-1)]), (10, .pointer (some (⟨p46, 0, none⟩ : Addr)))] _ [iBox p26 81 K2, I31, iBox p19 81 [.slice none 0 0, .int .i64 0], iBox p18 32 K1, I32] _ [iBox p46 121 [.int .i64 0, .slice none 0 0, .int .i64 0, .int .i64 0], I33, iBox p26 81 K2, I31, iBox p19 81 [.slice none 0 0, .int .i64 0], iBox p18 32 K1, I32]
       refine QD_len (n := 1) rfl ?_
       intro m47 m48
       refine qoD 13 12 8191 rfl ?_
       let K3 : List Value := [.int .i64 x1.Row.Id, .slice A42 x1.Row.Values.length c43, .int .i64 (IntKind.i64.wrap (x0.Now + 1)), .int .i64 (-1)]
       refine sb 0 K3 [I33, iBox p26 81 K2, I31, iBox p19 81 [.slice none 0 0, .int .i64 0], iBox p18 32 K1, I32] (fun W hm => hm) type121 ?_
       refine qxD (pk [2, 3, 4, 5, 6]) ?_
       refine QB_done (by kernel_rfl) ?_
       refine QM_then (CM_seq (sr (wm ?_)))
       refine wv (fun W hm => rv_geq rfl rfl) ?_
       refine nt' ?_
       by_cases h49 : 0 ≤ ((spec_l8Find_m x0 x1.Row.Id).1)
       ·have g50 := decide_eq_true h49
        refine CM_condT rfl g50 ?_
        refine sr ?_
        refine WM_build0 (E := tInt) underlying24 type3 (Wd_none rfl) (by decide) (fun p51 => ?_)
        refine wv (vf underlying81 rfl type79) ?_
        refine wv (vl 3 0 underlying79) ?_
        refine wm ?_
        refine WM_formO (n := 4) rfl (by omega) ?_
        rintro g53 rfl
        refine wv (fun W hm => rv_indexI (sz := 1) (k := (spec_l8Find_m x0 x1.Row.Id).1) underlying79 type119 rfl rfl rfl (by omega) (by omega)) ?_
        let K4 : List Value := [.slice (some ⟨g53, 0, none⟩) x0.Segments.length c23, .int .i64 (IntKind.i64.wrap (x0.Now + 1))]
        refine WM_focus (E := (tSl tyVersion 121)) (e := 119) (A := (some ⟨g53, 0, none⟩)) (n := x0.Segments.length) (c := c23) (xs := x0.Segments) (k := (((spec_l8Find_m x0 x1.Row.Id).1).toNat)) (js := [iOwn (tSl tInt 3) [.slice (some ⟨p51, 0, none⟩) 0 0] [], iBox p46 121 K3, I33, iBox p26 81 K4, iBox p19 81 [.slice none 0 0, .int .i64 0], iBox p18 32 K1, I32]) (by omega) (pk [4, 0, 1, 2, 3, 5, 6, 7]) (fun ck54 => ?_)
        refine WM_split (γ := Value) (js := fun g => [iOwn (tSl tyVersion 121) [g] (gt x0.Segments (((spec_l8Find_m x0 x1.Row.Id).1).toNat))]) (C := fun g => ck54 = [g]) (fun _ _ h => tSl_split h) ?_
        rintro v55 rfl
        refine WM_form (n := 0) rfl ?_
        rintro A56 c57 rfl m58
        refine wv (fun W hm => rv_load underlying119 rfl rfl (hm.focInt (i := 1) rfl rfl)) ?_
        refine wm ?_
        refine WM_formO (n := 0) rfl (by omega) ?_
        rintro g60 rfl
        refine wv (fun W hm => rv_indexI (sz := 4) (k := (spec_l8Find_m x0 x1.Row.Id).2) underlying119 type121 rfl rfl rfl (by omega) (by omega)) ?_
        refine wv (vf underlying121 rfl type24) ?_
        let K5 : List Value := [.slice (some ⟨g60, 0, none⟩) (gt x0.Segments (((spec_l8Find_m x0 x1.Row.Id).1).toNat)).length c57]
        refine WM_focus (E := tyVersion) (e := 121) (A := (some ⟨g60, 0, none⟩)) (n := (gt x0.Segments (((spec_l8Find_m x0 x1.Row.Id).1).toNat)).length) (c := c57) (xs := (gt x0.Segments (((spec_l8Find_m x0 x1.Row.Id).1).toNat))) (k := (((spec_l8Find_m x0 x1.Row.Id).2).toNat)) (js := [iFoc (tSl tyVersion 121) 119 (some ⟨g53, 0, none⟩) x0.Segments.length c23 x0.Segments (((spec_l8Find_m x0 x1.Row.Id).1).toNat) K5, iOwn (tSl tInt 3) [.slice (some ⟨p51, 0, none⟩) 0 0] [], iBox p46 121 K3, I33, iBox p26 81 K4, iBox p19 81 [.slice none 0 0, .int .i64 0], iBox p18 32 K1, I32]) (by omega) (fun W hm => hm) (fun ck61 => ?_)
        refine tyVersion_sp ?_
        rintro v62 rfl
        refine WM_form (n := 0) rfl ?_
        rintro A63 c64 rfl m65
        refine wv (fun W hm => rv_load underlying24 rfl rfl (hm.focCells (i := 1) rfl rfl 1 _ rfl)) ?_
        let K6 : List Value := [.slice A63 ((gt (gt x0.Segments (((spec_l8Find_m x0 x1.Row.Id).1).toNat)) (((spec_l8Find_m x0 x1.Row.Id).2).toNat)).Values).length c64]
        let K7 : List Value := [.int .i64 ((gt (gt x0.Segments (((spec_l8Find_m x0 x1.Row.Id).1).toNat)) (((spec_l8Find_m x0 x1.Row.Id).2).toNat)).Id), .slice A63 ((gt (gt x0.Segments (((spec_l8Find_m x0 x1.Row.Id).1).toNat)) (((spec_l8Find_m x0 x1.Row.Id).2).toNat)).Values).length c64, .int .i64 ((gt (gt x0.Segments (((spec_l8Find_m x0 x1.Row.Id).1).toNat)) (((spec_l8Find_m x0 x1.Row.Id).2).toNat)).Born), .int .i64 ((gt (gt x0.Segments (((spec_l8Find_m x0 x1.Row.Id).1).toNat)) (((spec_l8Find_m x0 x1.Row.Id).2).toNat)).Died)]
        let I34 : It := iOwn (tSl tInt 3) K6 ((gt (gt x0.Segments (((spec_l8Find_m x0 x1.Row.Id).1).toNat)) (((spec_l8Find_m x0 x1.Row.Id).2).toNat)).Values)
        refine apR tInt tInt 3 (.slice (some ⟨p51, 0, none⟩) 0 0) [] ((gt (gt x0.Segments (((spec_l8Find_m x0 x1.Row.Id).1).toNat)) (((spec_l8Find_m x0 x1.Row.Id).2).toNat)).Values) [I34, iFoc tyVersion 121 (some ⟨g60, 0, none⟩) ((gt x0.Segments (((spec_l8Find_m x0 x1.Row.Id).1).toNat)).length) c57 (gt x0.Segments (((spec_l8Find_m x0 x1.Row.Id).1).toNat)) (((spec_l8Find_m x0 x1.Row.Id).2).toNat) K7, iFoc (tSl tyVersion 121) 119 (some ⟨g53, 0, none⟩) x0.Segments.length c23 x0.Segments (((spec_l8Find_m x0 x1.Row.Id).1).toNat) K5, iBox p46 121 K3, I33, iBox p26 81 K4, iBox p19 81 [.slice none 0 0, .int .i64 0], iBox p18 32 K1, I32] (pk [3, 0, 1, 2, 4, 5, 6, 7, 8, 9]) (fun W hm => src_flat flat_int (hm.rdSI (n := 0) rfl)) underlying24 type3 (show (0 + ((gt (gt x0.Segments (((spec_l8Find_m x0 x1.Row.Id).1).toNat)) (((spec_l8Find_m x0 x1.Row.Id).2).toNat)).Values).length) * 8 ≤ 140737488355328 from by omega) (fun v67 => ?_)
        refine WM_form (n := 0) rfl ?_
        rintro A68 c69 rfl m70
        refine wv (vf underlying121 rfl type24) ?_
        let K8 : List Value := [.int .i64 x1.Row.Id, .slice A68 ((gt (gt x0.Segments (((spec_l8Find_m x0 x1.Row.Id).1).toNat)) (((spec_l8Find_m x0 x1.Row.Id).2).toNat)).Values).length c69, .int .i64 (IntKind.i64.wrap (x0.Now + 1)), .int .i64 (-1)]
        let K9 : List Value := [.slice A68 ((gt (gt x0.Segments (((spec_l8Find_m x0 x1.Row.Id).1).toNat)) (((spec_l8Find_m x0 x1.Row.Id).2).toNat)).Values).length c69]
        let I35 : It := iOwn (tSl tInt 3) K9 ((gt (gt x0.Segments (((spec_l8Find_m x0 x1.Row.Id).1).toNat)) (((spec_l8Find_m x0 x1.Row.Id).2).toNat)).Values)
        refine sb 1 K8 [I35, I34, iFoc tyVersion 121 (some ⟨g60, 0, none⟩) ((gt x0.Segments (((spec_l8Find_m x0 x1.Row.Id).1).toNat)).length) c57 (gt x0.Segments (((spec_l8Find_m x0 x1.Row.Id).1).toNat)) (((spec_l8Find_m x0 x1.Row.Id).2).toNat) K7, iFoc (tSl tyVersion 121) 119 (some ⟨g53, 0, none⟩) x0.Segments.length c23 x0.Segments (((spec_l8Find_m x0 x1.Row.Id).1).toNat) K5, I33, iBox p26 81 K4, iBox p19 81 [.slice none 0 0, .int .i64 0], iBox p18 32 K1, I32] (pk [4, 0, 1, 2, 3, 5, 6, 7, 8, 9]) type24 ?_
        refine nt' ?_
        refine rb 11 (s := [iBox p46 121 K8, I35, I34, iFoc (tSl tyVersion 121) 119 (some ⟨g53, 0, none⟩) x0.Segments.length c23 x0.Segments (((spec_l8Find_m x0 x1.Row.Id).1).toNat) K5, I33, iBox p26 81 K4, iBox p19 81 [.slice none 0 0, .int .i64 0], iBox p18 32 K1, I32]) (pk [0, 1, 2, 4, 5, 6, 7, 8, 9]) ?_
        refine qt 11 0 1 rfl (vf underlying81 rfl type79) ?_
        refine qt 11 1 3 rfl (vl 5 0 underlying79) ?_
        refine qt 11 2 7 rfl vmv ?_
        refine qt 11 3 15 rfl (fun W hm => rv_indexI (sz := 1) (k := (spec_l8Find_m x0 x1.Row.Id).1) underlying79 type119 rfl rfl rfl (by omega) (by omega)) ?_
        refine qt 11 4 31 rfl (fun W hm => rv_load underlying119 rfl rfl (hm.focInt (i := 3) rfl rfl)) ?_
        refine qt 11 5 63 rfl vmv ?_
        refine qt 11 6 127 rfl (vf underlying81 rfl type3) ?_
        refine qt 11 7 255 rfl (vl 5 1 underlying3) ?_
        refine qt 11 8 511 rfl (fun W hm => rv_indexI (sz := 4) (k := (spec_l8Find_m x0 x1.Row.Id).2) underlying119 type121 rfl rfl rfl (by omega) (by omega)) ?_
        refine qt 11 9 1023 rfl (vf underlying121 rfl type3) ?_
        refine qo 11 10 2047 rfl ?_
        let K10 : List Value := [.int .i64 ((gt (gt x0.Segments (((spec_l8Find_m x0 x1.Row.Id).1).toNat)) (((spec_l8Find_m x0 x1.Row.Id).2).toNat)).Id), .slice A63 ((gt (gt x0.Segments (((spec_l8Find_m x0 x1.Row.Id).1).toNat)) (((spec_l8Find_m x0 x1.Row.Id).2).toNat)).Values).length c64, .int .i64 ((gt (gt x0.Segments (((spec_l8Find_m x0 x1.Row.Id).1).toNat)) (((spec_l8Find_m x0 x1.Row.Id).2).toNat)).Born), .int .i64 (IntKind.i64.wrap (x0.Now + 1))]
        refine sf 3 4 K10 [iBox p46 121 K8, I35, I34, iFoc (tSl tyVersion 121) 119 (some ⟨g53, 0, none⟩) x0.Segments.length c23 x0.Segments (((spec_l8Find_m x0 x1.Row.Id).1).toNat) K5, I33, iBox p26 81 K4, iBox p19 81 [.slice none 0 0, .int .i64 0], iBox p18 32 K1, I32] (pk [3, 0, 1, 2, 4, 5, 6, 7, 8, 9]) type3 ?_
        refine qn (pk [1, 2, 3, 4, 5, 6, 7, 8, 9]) ?_
        refine QB_done (by kernel_rfl) ?_
        refine QM_then (CM_seq (sr ?_))
        refine wv (vf underlying32 rfl type3) ?_
        refine wv (vl 8 0 underlying3) ?_
        refine wv (fun W hm => rv_eql rfl rfl) ?_
        refine nt' ?_
        by_cases h72 : x1.Kind = 3
        ·have g73 := beq_iff_eq.2 h72
         refine CM_condT rfl g73 ?_
         refine CM_region ?_
         refine wv (vf underlying121 rfl type24) ?_
         refine wv (vl 1 1 underlying24) ?_
         refine wv (vf underlying32 rfl type3) ?_
         refine wv (vl 8 3 underlying3) ?_
         refine wv (vf underlying32 rfl type3) ?_
         refine wv (vl 8 4 underlying3) ?_
         refine WM_formO (n := 2) rfl (by omega) ?_
         rintro g74 rfl
         refine wv (fun W hm => rv_indexI (sz := 1) (k := x1.Field) underlying24 type3 rfl rfl rfl (by omega) (by omega)) ?_
         refine WM_setEl (E := tInt) (e := 3) (u := .int .i64 x1.Value) (k := (x1.Field.toNat)) (p := g74) (n := ((gt (gt x0.Segments (((spec_l8Find_m x0 x1.Row.Id).1).toNat)) (((spec_l8Find_m x0 x1.Row.Id).2).toNat)).Values).length) (xs := (gt (gt x0.Segments (((spec_l8Find_m x0 x1.Row.Id).1).toNat)) (((spec_l8Find_m x0 x1.Row.Id).2).toNat)).Values) (eis := []) (js := [iFoc tyVersion 121 (some ⟨g60, 0, none⟩) ((gt x0.Segments (((spec_l8Find_m x0 x1.Row.Id).1).toNat)).length) c57 (gt x0.Segments (((spec_l8Find_m x0 x1.Row.Id).1).toNat)) (((spec_l8Find_m x0 x1.Row.Id).2).toNat) K10, iBox p46 121 [.int .i64 x1.Row.Id, .slice (some ⟨g74, 0, none⟩) ((gt (gt x0.Segments (((spec_l8Find_m x0 x1.Row.Id).1).toNat)) (((spec_l8Find_m x0 x1.Row.Id).2).toNat)).Values).length c69, .int .i64 (IntKind.i64.wrap (x0.Now + 1)), .int .i64 (-1)], I34, iFoc (tSl tyVersion 121) 119 (some ⟨g53, 0, none⟩) x0.Segments.length c23 x0.Segments (((spec_l8Find_m x0 x1.Row.Id).1).toNat) K5, I33, iBox p26 81 K4, iBox p19 81 [.slice none 0 0, .int .i64 0], iBox p18 32 K1, I32]) (yv := x1.Value) (pk [2, 0, 1, 3, 4, 5, 6, 7, 8, 9]) (fun _ _ hs => (Sep.nil hs ▸ tInt_own)) rfl type3 rfl (by omega) rfl rfl (Wd_none rfl) ?_
         refine nt' (CM_seq (sr ?_))
         refine wv (vf underlying32 rfl type3) ?_
         refine wv (vl 8 0 underlying3) ?_
         refine wv vneq ?_
         refine nt' ?_
         refine CM_condF rfl g38 ?_
         refine CM_skip (QM_then (CM_seq ?_))
         refine CM_items (pk [1, 3, 4, 6, 7]) ?_
         refine CM_region ?_
         refine wv (fun W hm => rv_loadN (cs := K4) underlying81 type81 rfl rfl (hm.boxCells (n := 3) rfl)) ?_
         refine sb 0 K4 [iFoc tyVersion 121 (some ⟨g60, 0, none⟩) ((gt x0.Segments (((spec_l8Find_m x0 x1.Row.Id).1).toNat)).length) c57 (gt x0.Segments (((spec_l8Find_m x0 x1.Row.Id).1).toNat)) (((spec_l8Find_m x0 x1.Row.Id).2).toNat) K10, I34, iFoc (tSl tyVersion 121) 119 (some ⟨g53, 0, none⟩) x0.Segments.length c23 x0.Segments (((spec_l8Find_m x0 x1.Row.Id).1).toNat) K5, iBox p26 81 K4] (pk [4, 0, 1, 2, 3]) type81 ?_
         refine wa (nt' (CM_ret ?_))
         refine QM_items (fun W hm => Mem.unfocus (Mem.join (is := [I34]) (js := (iFoc tyVersion 121 (some ⟨g60, 0, none⟩) ((gt x0.Segments (((spec_l8Find_m x0 x1.Row.Id).1).toNat)).length) c57 (gt x0.Segments (((spec_l8Find_m x0 x1.Row.Id).1).toNat)) (((spec_l8Find_m x0 x1.Row.Id).2).toNat) K10 :: [iBox p19 81 K4, iFoc (tSl tyVersion 121) 119 (some ⟨g53, 0, none⟩) x0.Segments.length c23 x0.Segments (((spec_l8Find_m x0 x1.Row.Id).1).toNat) K5, iBox p26 81 K4])) (fun _ _ hs => tyVersion_join (x := (⟨(gt (gt x0.Segments (((spec_l8Find_m x0 x1.Row.Id).1).toNat)) (((spec_l8Find_m x0 x1.Row.Id).2).toNat)).Id, (gt (gt x0.Segments (((spec_l8Find_m x0 x1.Row.Id).1).toNat)) (((spec_l8Find_m x0 x1.Row.Id).2).toNat)).Values, (gt (gt x0.Segments (((spec_l8Find_m x0 x1.Row.Id).1).toNat)) (((spec_l8Find_m x0 x1.Row.Id).2).toNat)).Born, (IntKind.i64.wrap (x0.Now + 1))⟩ : DVersion)) hs) (hm.pick [2, 1, 0, 3, 4] (by decide)))) ?_
         refine QM_items (fun W hm => Mem.unfocus (Mem.join (is := [iOwn (tSl tyVersion 121) K5 (spec_ApplyUpdate_v1 x0 x1)]) (js := (iFoc (tSl tyVersion 121) 119 (some ⟨g53, 0, none⟩) x0.Segments.length c23 x0.Segments (((spec_l8Find_m x0 x1.Row.Id).1).toNat) K5 :: [iBox p19 81 K4, iBox p26 81 K4])) (fun _ _ hs => Sep.one hs) (hm.pick [0, 2, 1, 3] (by decide)))) ?_
         have he75 := (show spec_ApplyUpdate_m x0 x1 = ((⟨(x0.Segments.set (((spec_l8Find_m x0 x1.Row.Id).1).toNat) (spec_ApplyUpdate_v1 x0 x1)), (IntKind.i64.wrap (x0.Now + 1))⟩ : DStore), true) from cond_t g28 (cond_t g30 (cond_f g32 (cond_f g35 (cond_f g38 (cond_t g50 (cond_t g73 (rfl))))))))
         refine QM_r2 rfl (RR_cell (n := 1) rfl rfl underlying81 type81 rfl) (RR_tmp rfl) (fun W hm => ⟨K4, ?_, ?_⟩)
         ·first | rw [he75] | rfl
          try rfl
         ·rw [he75]; exact Mem.join (is := [iOwn (tSl (tSl tyVersion 121) 119) [.slice (some ⟨g53, 0, none⟩) x0.Segments.length c23] (x0.Segments.set (((spec_l8Find_m x0 x1.Row.Id).1).toNat) (spec_ApplyUpdate_v1 x0 x1))]) (js := []) (fun _ _ hs => tyStore_join (x := (⟨(x0.Segments.set (((spec_l8Find_m x0 x1.Row.Id).1).toNat) (spec_ApplyUpdate_v1 x0 x1)), (IntKind.i64.wrap (x0.Now + 1))⟩ : DStore)) hs) (hm.pick [0] (by decide))
        ·have g73 := beq_eq_false_iff_ne.2 h72
         refine CM_condF rfl g73 ?_
         refine CM_skip (QM_then (CM_seq (sr ?_)))
         refine wv (vf underlying32 rfl type3) ?_
         refine wv (vl 8 0 underlying3) ?_
         refine wv vneq ?_
         refine nt' ?_
         refine CM_condF rfl g38 ?_
         refine CM_skip (QM_then (CM_seq ?_))
         refine CM_items (pk [0, 3, 4, 6, 7]) ?_
         refine CM_region ?_
         refine wv (fun W hm => rv_loadN (cs := K4) underlying81 type81 rfl rfl (hm.boxCells (n := 3) rfl)) ?_
         refine sb 0 K4 [iFoc tyVersion 121 (some ⟨g60, 0, none⟩) ((gt x0.Segments (((spec_l8Find_m x0 x1.Row.Id).1).toNat)).length) c57 (gt x0.Segments (((spec_l8Find_m x0 x1.Row.Id).1).toNat)) (((spec_l8Find_m x0 x1.Row.Id).2).toNat) K10, I34, iFoc (tSl tyVersion 121) 119 (some ⟨g53, 0, none⟩) x0.Segments.length c23 x0.Segments (((spec_l8Find_m x0 x1.Row.Id).1).toNat) K5, iBox p26 81 K4] (pk [4, 0, 1, 2, 3]) type81 ?_
         refine wa (nt' (CM_ret ?_))
         refine QM_items (fun W hm => Mem.unfocus (Mem.join (is := [I34]) (js := (iFoc tyVersion 121 (some ⟨g60, 0, none⟩) ((gt x0.Segments (((spec_l8Find_m x0 x1.Row.Id).1).toNat)).length) c57 (gt x0.Segments (((spec_l8Find_m x0 x1.Row.Id).1).toNat)) (((spec_l8Find_m x0 x1.Row.Id).2).toNat) K10 :: [iBox p19 81 K4, iFoc (tSl tyVersion 121) 119 (some ⟨g53, 0, none⟩) x0.Segments.length c23 x0.Segments (((spec_l8Find_m x0 x1.Row.Id).1).toNat) K5, iBox p26 81 K4])) (fun _ _ hs => tyVersion_join (x := (⟨(gt (gt x0.Segments (((spec_l8Find_m x0 x1.Row.Id).1).toNat)) (((spec_l8Find_m x0 x1.Row.Id).2).toNat)).Id, (gt (gt x0.Segments (((spec_l8Find_m x0 x1.Row.Id).1).toNat)) (((spec_l8Find_m x0 x1.Row.Id).2).toNat)).Values, (gt (gt x0.Segments (((spec_l8Find_m x0 x1.Row.Id).1).toNat)) (((spec_l8Find_m x0 x1.Row.Id).2).toNat)).Born, (IntKind.i64.wrap (x0.Now + 1))⟩ : DVersion)) hs) (hm.pick [2, 1, 0, 3, 4] (by decide)))) ?_
         refine QM_items (fun W hm => Mem.unfocus (Mem.join (is := [iOwn (tSl tyVersion 121) K5 (spec_ApplyUpdate_v1 x0 x1)]) (js := (iFoc (tSl tyVersion 121) 119 (some ⟨g53, 0, none⟩) x0.Segments.length c23 x0.Segments (((spec_l8Find_m x0 x1.Row.Id).1).toNat) K5 :: [iBox p19 81 K4, iBox p26 81 K4])) (fun _ _ hs => Sep.one hs) (hm.pick [0, 2, 1, 3] (by decide)))) ?_
         have he76 := (show spec_ApplyUpdate_m x0 x1 = ((⟨(x0.Segments.set (((spec_l8Find_m x0 x1.Row.Id).1).toNat) (spec_ApplyUpdate_v1 x0 x1)), (IntKind.i64.wrap (x0.Now + 1))⟩ : DStore), true) from cond_t g28 (cond_t g30 (cond_f g32 (cond_f g35 (cond_f g38 (cond_t g50 (cond_f g73 (rfl))))))))
         refine QM_r2 rfl (RR_cell (n := 1) rfl rfl underlying81 type81 rfl) (RR_tmp rfl) (fun W hm => ⟨K4, ?_, ?_⟩)
         ·first | rw [he76] | rfl
          try rfl
         ·rw [he76]; exact Mem.join (is := [iOwn (tSl (tSl tyVersion 121) 119) [.slice (some ⟨g53, 0, none⟩) x0.Segments.length c23] (x0.Segments.set (((spec_l8Find_m x0 x1.Row.Id).1).toNat) (spec_ApplyUpdate_v1 x0 x1))]) (js := []) (fun _ _ hs => tyStore_join (x := (⟨(x0.Segments.set (((spec_l8Find_m x0 x1.Row.Id).1).toNat) (spec_ApplyUpdate_v1 x0 x1)), (IntKind.i64.wrap (x0.Now + 1))⟩ : DStore)) hs) (hm.pick [0] (by decide))
       ·have g50 := decide_eq_false h49
        refine CM_condF rfl g50 ?_
        refine CM_skip (QM_then (CM_seq (sr ?_)))
        refine wv (vf underlying32 rfl type3) ?_
        refine wv (vl 5 0 underlying3) ?_
        refine wv (fun W hm => rv_eql rfl rfl) ?_
        refine nt' ?_
        by_cases h77 : x1.Kind = 3
        ·have g78 := beq_iff_eq.2 h77
         refine CM_condT rfl g78 ?_
         refine CM_region ?_
         refine wv (vf underlying121 rfl type24) ?_
         refine wv (vl 0 1 underlying24) ?_
         refine wv (vf underlying32 rfl type3) ?_
         refine wv (vl 5 3 underlying3) ?_
         refine wv (vf underlying32 rfl type3) ?_
         refine wv (vl 5 4 underlying3) ?_
         refine WM_formO (n := 1) rfl (by omega) ?_
         rintro g79 rfl
         refine wv (fun W hm => rv_indexI (sz := 1) (k := x1.Field) underlying24 type3 rfl rfl rfl (by omega) (by omega)) ?_
         refine WM_setEl (E := tInt) (e := 3) (u := .int .i64 x1.Value) (k := (x1.Field.toNat)) (p := g79) (n := x1.Row.Values.length) (xs := x1.Row.Values) (eis := []) (js := [iBox p46 121 [.int .i64 x1.Row.Id, .slice (some ⟨g79, 0, none⟩) x1.Row.Values.length c43, .int .i64 (IntKind.i64.wrap (x0.Now + 1)), .int .i64 (-1)], iBox p26 81 K2, I31, iBox p19 81 [.slice none 0 0, .int .i64 0], iBox p18 32 K1, I32]) (yv := x1.Value) (pk [1, 0, 2, 3, 4, 5, 6]) (fun _ _ hs => (Sep.nil hs ▸ tInt_own)) rfl type3 rfl (by omega) rfl rfl (Wd_none rfl) ?_
         refine nt' (CM_seq (sr ?_))
         refine wv (vf underlying32 rfl type3) ?_
         refine wv (vl 5 0 underlying3) ?_
         refine wv vneq ?_
         refine nt' ?_
         refine CM_condF rfl g38 ?_
         refine CM_skip (QM_then (CM_seq ?_))
         refine CM_items (pk [2, 3, 4]) ?_
         refine CM_region ?_
         refine wv (fun W hm => rv_loadN (cs := K2) underlying81 type81 rfl rfl (hm.boxCells (n := 0) rfl)) ?_
         refine sb 0 K2 [iBox p26 81 K2, I31] (pk [2, 0, 1]) type81 ?_
         refine wa (nt' (CM_ret ?_))
         have he80 := (show spec_ApplyUpdate_m x0 x1 = ((⟨x0.Segments, (IntKind.i64.wrap (x0.Now + 1))⟩ : DStore), true) from cond_t g28 (cond_t g30 (cond_f g32 (cond_f g35 (cond_f g38 (cond_f g50 (cond_t g78 (rfl))))))))
         refine QM_r2 rfl (RR_cell (n := 0) rfl rfl underlying81 type81 rfl) (RR_tmp rfl) (fun W hm => ⟨K2, ?_, ?_⟩)
         ·first | rw [he80] | rfl
          try rfl
         ·rw [he80]; exact Mem.join (is := [I31]) (js := []) (fun _ _ hs => tyStore_join (x := (⟨x0.Segments, (IntKind.i64.wrap (x0.Now + 1))⟩ : DStore)) hs) (hm.pick [2] (by decide))
        ·have g78 := beq_eq_false_iff_ne.2 h77
         refine CM_condF rfl g78 ?_
         refine CM_skip (QM_then (CM_seq (sr ?_)))
         refine wv (vf underlying32 rfl type3) ?_
         refine wv (vl 5 0 underlying3) ?_
         refine wv vneq ?_
         refine nt' ?_
         refine CM_condF rfl g38 ?_
         refine CM_skip (QM_then (CM_seq ?_))
         refine CM_items (pk [2, 3, 4]) ?_
         refine CM_region ?_
         refine wv (fun W hm => rv_loadN (cs := K2) underlying81 type81 rfl rfl (hm.boxCells (n := 0) rfl)) ?_
         refine sb 0 K2 [iBox p26 81 K2, I31] (pk [2, 0, 1]) type81 ?_
         refine wa (nt' (CM_ret ?_))
         have he81 := (show spec_ApplyUpdate_m x0 x1 = ((⟨x0.Segments, (IntKind.i64.wrap (x0.Now + 1))⟩ : DStore), true) from cond_t g28 (cond_t g30 (cond_f g32 (cond_f g35 (cond_f g38 (cond_f g50 (cond_f g78 (rfl))))))))
         refine QM_r2 rfl (RR_cell (n := 0) rfl rfl underlying81 type81 rfl) (RR_tmp rfl) (fun W hm => ⟨K2, ?_, ?_⟩)
         ·first | rw [he81] | rfl
          try rfl
         ·rw [he81]; exact Mem.join (is := [I31]) (js := []) (fun _ _ hs => tyStore_join (x := (⟨x0.Segments, (IntKind.i64.wrap (x0.Now + 1))⟩ : DStore)) hs) (hm.pick [2] (by decide))
      ·
       refine qtD 13 0 1 rfl (vf underlying32 rfl type26) ?_
       refine qtD 13 1 3 rfl (fun W hm => rv_fieldA (o := 1) underlying26 rfl type3 (by decide) rfl rfl) ?_
       refine qtD 13 2 7 rfl (vl 3 1 underlying3) ?_
       refine qtD 13 4 23 rfl (vf underlying32 rfl type26) ?_
       refine qtD 13 5 55 rfl (fun W hm => rv_fieldA (o := 2) underlying26 rfl type24 (by decide) rfl rfl) ?_
       refine qtD 13 6 119 rfl (vl 3 2 underlying24) ?_
       refine qtD 13 8 375 rfl (vf underlying81 rfl type3) ?_
       refine qtD 13 9 887 rfl (vl 0 1 underlying3) ?_
       refine qaD [3, 11] ?_
       refine qcD 13 895 rfl ?_ ?_
       ·
        refine WM_build0 (E := tInt) underlying24 type3 (Wd_none rfl) (by decide) (fun p82 => ?_)
        refine qnD (pk [1, 2, 3, 4, 5]) (pk [1, 2, 3, 4, 5]) ?_
        refine qaD [7, 11] ?_
        refine qcD 13 1023 rfl ?_ ?_
        ·
         refine apR tInt tInt 3 (.slice (some ⟨p82, 0, none⟩) 0 0) [] x1.Row.Values [iBox p26 81 K2, I31, iBox p19 81 [.slice none 0 0, .int .i64 0], iBox p18 32 K1, I32] (fun W hm => hm) (fun W hm => src_flat flat_int (hm.rdS0 r14)) underlying24 type3 (show (0 + x1.Row.Values.length) * 8 ≤ 140737488355328 from by omega) (fun v84 => ?_)
         refine WM_form (n := 0) rfl ?_
         rintro A85 c86 rfl m87
         refine qnD (pk [1, 2, 3, 4, 5]) (pk [1, 2, 3, 4, 5]) ?_
         refine qtD 13 10 2047 rfl (fun W hm => rv_build (cs := [.int .i64 x1.Row.Id, .slice A85 x1.Row.Values.length c86, .int .i64 (IntKind.i64.wrap (x0.Now + 1)), .int .i64 (-1)]) rfl (by kernel_rfl)) ?_
         refine qoD 13 11 4095 rfl ?_
         refine WM_alloc type121 rfl (Wd_none rfl) (by decide) (fun p89 => ?_)
         refine qnD (pk [2, 3, 4, 5, 6]) (pk [2, 3, 4, 5, 6]) ?_
         exact QD_sub sl8 (fun W hm => hm) (H (A85, c86, p89))
        refine qcD 13 2943 rfl ?_ ?_
        ·
         refine WM_alloc type121 rfl (Wd_none rfl) (by decide) (fun p90 => ?_)
         refine qnD (pk [2, 3, 4, 5, 6]) (pk [2, 3, 4, 5, 6]) ?_
         refine qoD 13 7 3071 rfl ?_
         refine apR tInt tInt 3 (.slice (some ⟨p82, 0, none⟩) 0 0) [] x1.Row.Values [iBox p90 121 [.int .i64 0, .slice none 0 0, .int .i64 0, .int .i64 0], iBox p26 81 K2, I31, iBox p19 81 [.slice none 0 0, .int .i64 0], iBox p18 32 K1, I32] (pk [1, 0, 2, 3, 4, 5, 6]) (fun W hm => src_flat flat_int (hm.rdS0 r14)) underlying24 type3 (show (0 + x1.Row.Values.length) * 8 ≤ 140737488355328 from by omega) (fun v91 => ?_)
         refine WM_form (n := 0) rfl ?_
         rintro A92 c93 rfl m94
         refine qnD (pk [2, 3, 4, 5, 6]) (pk [2, 3, 4, 5, 6]) ?_
         refine qtD 13 10 4095 rfl (fun W hm => rv_build (cs := [.int .i64 x1.Row.Id, .slice A92 x1.Row.Values.length c93, .int .i64 (IntKind.i64.wrap (x0.Now + 1)), .int .i64 (-1)]) rfl (by kernel_rfl)) ?_
         exact QD_sub sl8 (pk [1, 0, 2, 3, 4, 5, 6]) (H (A92, c93, p90))
        exact QDs_nil
       refine qcD 13 2935 rfl ?_ ?_
       ·
        refine WM_alloc type121 rfl (Wd_none rfl) (by decide) (fun p96 => ?_)
        refine qnD (pk [1, 2, 3, 4, 5]) (pk [1, 2, 3, 4, 5]) ?_
        refine qoD 13 3 2943 rfl ?_
        refine WM_build0 (E := tInt) underlying24 type3 (Wd_none rfl) (by decide) (fun p97 => ?_)
        refine qnD (pk [2, 3, 4, 5, 6]) (pk [2, 3, 4, 5, 6]) ?_
        refine qoD 13 7 3071 rfl ?_
        refine apR tInt tInt 3 (.slice (some ⟨p97, 0, none⟩) 0 0) [] x1.Row.Values [iBox p96 121 [.int .i64 0, .slice none 0 0, .int .i64 0, .int .i64 0], iBox p26 81 K2, I31, iBox p19 81 [.slice none 0 0, .int .i64 0], iBox p18 32 K1, I32] (fun W hm => hm) (fun W hm => src_flat flat_int (hm.rdS0 r14)) underlying24 type3 (show (0 + x1.Row.Values.length) * 8 ≤ 140737488355328 from by omega) (fun v99 => ?_)
        refine WM_form (n := 0) rfl ?_
        rintro A100 c101 rfl m102
        refine qnD (pk [2, 3, 4, 5, 6]) (pk [2, 3, 4, 5, 6]) ?_
        refine qtD 13 10 4095 rfl (fun W hm => rv_build (cs := [.int .i64 x1.Row.Id, .slice A100 x1.Row.Values.length c101, .int .i64 (IntKind.i64.wrap (x0.Now + 1)), .int .i64 (-1)]) rfl (by kernel_rfl)) ?_
        exact QD_sub sl8 (pk [1, 0, 2, 3, 4, 5, 6]) (H (A100, c101, p96))
       exact QDs_nil
     ·have g38 : (x1.Kind != 2) = true := bne_iff_ne.2 h37
      refine wg vmv g38 ?_
      refine wg vlss g38 ?_
      refine wg (vpT g38) g35 ?_
      refine wv (vpF g35) ?_
      refine nt' ?_
      by_cases h104 : (spec_l8Room_m x0) < 0
      ·have g105 := decide_eq_true h104
       refine CM_condT rfl g105 ?_
       refine sr ?_
       refine wv (fun W hm => rv_loadN (cs := [.slice A22 x0.Segments.length c23, .int .i64 x0.Now]) underlying81 type81 rfl rfl (hm.boxCells (n := 0) rfl)) ?_
       refine sb 0 [.slice A22 x0.Segments.length c23, .int .i64 x0.Now] [iBox p26 81 [.slice A22 x0.Segments.length c23, .int .i64 x0.Now], I31, iBox p18 32 K1, I32] (pk [2, 0, 1, 3, 4]) type81 ?_
       refine wa (nt' (CM_ret (QM_then_ret ?_)))
       have he106 := (show spec_ApplyUpdate_m x0 x1 = (x0, false) from cond_t g28 (cond_t g30 (cond_f g32 (cond_f g35 (cond_t g38 (cond_t g105 (rfl)))))))
       refine QM_r2 rfl (RR_cell (n := 0) rfl rfl underlying81 type81 rfl) (RR_tmp rfl) (fun W hm => ⟨[.slice A22 x0.Segments.length c23, .int .i64 x0.Now], ?_, ?_⟩)
       ·first | rw [he106] | rfl
        try rfl
       ·rw [he106]; exact Mem.join (is := [I31]) (js := []) (fun _ _ hs => tyStore_join (x := x0) hs) (hm.pick [2] (by decide))
      ·have g105 := decide_eq_false h104
       refine CM_condF rfl g105 ?_
       refine CM_skip (QM_then (sr ?_))
       refine wv (vf underlying81 rfl type3) ?_
       refine wv (vl 4 1 underlying3) ?_
       refine wv vadd ?_
       refine wv (vf underlying81 rfl type3) ?_
       let K11 : List Value := [.slice A22 x0.Segments.length c23, .int .i64 (IntKind.i64.wrap (x0.Now + 1))]
       refine sb 1 K11 [I31, iBox p19 81 [.slice none 0 0, .int .i64 0], iBox p18 32 K1, I32] (fun W hm => hm) type3 ?_
       refine nt' (CM_seq ?_)
       refine rd2 13 [12] (s := [iBox p26 81 K11, I31, iBox p19 81 [.slice none 0 0, .int .i64 0], iBox p18 32 K1, I32]) (s2 := [iBox p26 81 K11, I31, iBox p19 81 [.slice none 0 0, .int .i64 0], iBox p18 32 K1, I32]) (fun W hm => hm) (fun W hm => hm) ?_
       refine QD_mid (σ := Option Addr × Nat × Nat) (fun s => [iBox p26 81 K11, I31, iBox p19 81 [.slice none 0 0, .int .i64 0], iBox p18 32 K1, I32]) 13 4095 1 (fun s => [(3, .pointer (some (⟨p18, 0, none⟩ : Addr))), (4, .pointer (some (⟨p19, 0, none⟩ : Addr))), (6, .pointer (some (⟨p26, 0, none⟩ : Addr))), (7, .int .i64 ((spec_l8Find_m x0 x1.Row.Id).1)), (8, .int .i64 ((spec_l8Find_m x0 x1.Row.Id).2)), (9, .int .i64 (spec_l8Room_m x0)), (67, .agg #[.int .i64 x1.Row.Id, .slice s.1 x1.Row.Values.length s.2.1, .int .i64 (IntKind.i64.wrap (x0.Now + 1)), .int .i64 (-1)]), (10, .pointer (some (⟨s.2.2, 0, none⟩ : Addr)))]) (fun s => [iBox s.2.2 121 [.int .i64 0, .slice none 0 0, .int .i64 0, .int .i64 0], iOwn (tSl tInt 3) [.slice s.1 x1.Row.Values.length s.2.1] x1.Row.Values, iBox p26 81 K11, I31, iBox p19 81 [.slice none 0 0, .int .i64 0], iBox p18 32 K1, I32]) ?_ (fun H => ?_)
       ·
        rintro ⟨A110, c111, p114⟩
        let I36 : It := iOwn (tSl tInt 3) [.slice A110 x1.Row.Values.length c111] x1.Row.Values
        show QD _ _ _ _ _ _ _ _ [(3, .pointer (some (⟨p18, 0, none⟩ : Addr))), (4, .pointer (some (⟨p19, 0, none⟩ : Addr))), (6, .pointer (some (⟨p26, 0, none⟩ : Addr))), (7, .int .i64 ((spec_l8Find_m x0 x1.Row.Id).1)), (8, .int .i64 ((spec_l8Find_m x0 x1.Row.Id).2)), (9, .int .i64 (spec_l8Room_m x0)), (67, .agg #[.int .i64 x1.Row.Id, .slice A110 x1.Row.Values.length c111, .int .i64 (IntKind.i64.wrap (x0.Now + 1)), .int .i64 (-1)]), (10, .pointer (some (⟨p114, 0, none⟩ : Addr)))] _ [iBox p26 81 K11, I31, iBox p19 81 [.slice none 0 0, .int .i64 0], iBox p18 32 K1, I32] _ [iBox p114 121 [.int .i64 0, .slice none 0 0, .int .i64 0, .int .i64 0], I36, iBox p26 81 K11, I31, iBox p19 81 [.slice none 0 0, .int .i64 0], iBox p18 32 K1, I32]
        refine QD_len (n := 1) rfl ?_
        intro m115 m116
        refine qoD 13 12 8191 rfl ?_
        let K12 : List Value := [.int .i64 x1.Row.Id, .slice A110 x1.Row.Values.length c111, .int .i64 (IntKind.i64.wrap (x0.Now + 1)), .int .i64 (-1)]
        refine sb 0 K12 [I36, iBox p26 81 K11, I31, iBox p19 81 [.slice none 0 0, .int .i64 0], iBox p18 32 K1, I32] (fun W hm => hm) type121 ?_
        refine qxD (pk [2, 3, 4, 5, 6]) ?_
        refine QB_done (by kernel_rfl) ?_
        refine QM_then (CM_seq (sr (wm ?_)))
        refine wv (fun W hm => rv_geq rfl rfl) ?_
        refine nt' ?_
        by_cases h117 : 0 ≤ ((spec_l8Find_m x0 x1.Row.Id).1)
        ·have g118 := decide_eq_true h117
         refine CM_condT rfl g118 ?_
         refine sr ?_
         refine WM_build0 (E := tInt) underlying24 type3 (Wd_none rfl) (by decide) (fun p119 => ?_)
         refine wv (vf underlying81 rfl type79) ?_
         refine wv (vl 3 0 underlying79) ?_
         refine wm ?_
         refine WM_formO (n := 4) rfl (by omega) ?_
         rintro g121 rfl
         refine wv (fun W hm => rv_indexI (sz := 1) (k := (spec_l8Find_m x0 x1.Row.Id).1) underlying79 type119 rfl rfl rfl (by omega) (by omega)) ?_
         let K13 : List Value := [.slice (some ⟨g121, 0, none⟩) x0.Segments.length c23, .int .i64 (IntKind.i64.wrap (x0.Now + 1))]
         refine WM_focus (E := (tSl tyVersion 121)) (e := 119) (A := (some ⟨g121, 0, none⟩)) (n := x0.Segments.length) (c := c23) (xs := x0.Segments) (k := (((spec_l8Find_m x0 x1.Row.Id).1).toNat)) (js := [iOwn (tSl tInt 3) [.slice (some ⟨p119, 0, none⟩) 0 0] [], iBox p114 121 K12, I36, iBox p26 81 K13, iBox p19 81 [.slice none 0 0, .int .i64 0], iBox p18 32 K1, I32]) (by omega) (pk [4, 0, 1, 2, 3, 5, 6, 7]) (fun ck122 => ?_)
         refine WM_split (γ := Value) (js := fun g => [iOwn (tSl tyVersion 121) [g] (gt x0.Segments (((spec_l8Find_m x0 x1.Row.Id).1).toNat))]) (C := fun g => ck122 = [g]) (fun _ _ h => tSl_split h) ?_
         rintro v123 rfl
         refine WM_form (n := 0) rfl ?_
         rintro A124 c125 rfl m126
         refine wv (fun W hm => rv_load underlying119 rfl rfl (hm.focInt (i := 1) rfl rfl)) ?_
         refine wm ?_
         refine WM_formO (n := 0) rfl (by omega) ?_
         rintro g128 rfl
         refine wv (fun W hm => rv_indexI (sz := 4) (k := (spec_l8Find_m x0 x1.Row.Id).2) underlying119 type121 rfl rfl rfl (by omega) (by omega)) ?_
         refine wv (vf underlying121 rfl type24) ?_
         let K14 : List Value := [.slice (some ⟨g128, 0, none⟩) (gt x0.Segments (((spec_l8Find_m x0 x1.Row.Id).1).toNat)).length c125]
         refine WM_focus (E := tyVersion) (e := 121) (A := (some ⟨g128, 0, none⟩)) (n := (gt x0.Segments (((spec_l8Find_m x0 x1.Row.Id).1).toNat)).length) (c := c125) (xs := (gt x0.Segments (((spec_l8Find_m x0 x1.Row.Id).1).toNat))) (k := (((spec_l8Find_m x0 x1.Row.Id).2).toNat)) (js := [iFoc (tSl tyVersion 121) 119 (some ⟨g121, 0, none⟩) x0.Segments.length c23 x0.Segments (((spec_l8Find_m x0 x1.Row.Id).1).toNat) K14, iOwn (tSl tInt 3) [.slice (some ⟨p119, 0, none⟩) 0 0] [], iBox p114 121 K12, I36, iBox p26 81 K13, iBox p19 81 [.slice none 0 0, .int .i64 0], iBox p18 32 K1, I32]) (by omega) (fun W hm => hm) (fun ck129 => ?_)
         refine tyVersion_sp ?_
         rintro v130 rfl
         refine WM_form (n := 0) rfl ?_
         rintro A131 c132 rfl m133
         refine wv (fun W hm => rv_load underlying24 rfl rfl (hm.focCells (i := 1) rfl rfl 1 _ rfl)) ?_
         let K15 : List Value := [.slice A131 ((gt (gt x0.Segments (((spec_l8Find_m x0 x1.Row.Id).1).toNat)) (((spec_l8Find_m x0 x1.Row.Id).2).toNat)).Values).length c132]
         let K16 : List Value := [.int .i64 ((gt (gt x0.Segments (((spec_l8Find_m x0 x1.Row.Id).1).toNat)) (((spec_l8Find_m x0 x1.Row.Id).2).toNat)).Id), .slice A131 ((gt (gt x0.Segments (((spec_l8Find_m x0 x1.Row.Id).1).toNat)) (((spec_l8Find_m x0 x1.Row.Id).2).toNat)).Values).length c132, .int .i64 ((gt (gt x0.Segments (((spec_l8Find_m x0 x1.Row.Id).1).toNat)) (((spec_l8Find_m x0 x1.Row.Id).2).toNat)).Born), .int .i64 ((gt (gt x0.Segments (((spec_l8Find_m x0 x1.Row.Id).1).toNat)) (((spec_l8Find_m x0 x1.Row.Id).2).toNat)).Died)]
         let I37 : It := iOwn (tSl tInt 3) K15 ((gt (gt x0.Segments (((spec_l8Find_m x0 x1.Row.Id).1).toNat)) (((spec_l8Find_m x0 x1.Row.Id).2).toNat)).Values)
         refine apR tInt tInt 3 (.slice (some ⟨p119, 0, none⟩) 0 0) [] ((gt (gt x0.Segments (((spec_l8Find_m x0 x1.Row.Id).1).toNat)) (((spec_l8Find_m x0 x1.Row.Id).2).toNat)).Values) [I37, iFoc tyVersion 121 (some ⟨g128, 0, none⟩) ((gt x0.Segments (((spec_l8Find_m x0 x1.Row.Id).1).toNat)).length) c125 (gt x0.Segments (((spec_l8Find_m x0 x1.Row.Id).1).toNat)) (((spec_l8Find_m x0 x1.Row.Id).2).toNat) K16, iFoc (tSl tyVersion 121) 119 (some ⟨g121, 0, none⟩) x0.Segments.length c23 x0.Segments (((spec_l8Find_m x0 x1.Row.Id).1).toNat) K14, iBox p114 121 K12, I36, iBox p26 81 K13, iBox p19 81 [.slice none 0 0, .int .i64 0], iBox p18 32 K1, I32] (pk [3, 0, 1, 2, 4, 5, 6, 7, 8, 9]) (fun W hm => src_flat flat_int (hm.rdSI (n := 0) rfl)) underlying24 type3 (show (0 + ((gt (gt x0.Segments (((spec_l8Find_m x0 x1.Row.Id).1).toNat)) (((spec_l8Find_m x0 x1.Row.Id).2).toNat)).Values).length) * 8 ≤ 140737488355328 from by omega) (fun v135 => ?_)
         refine WM_form (n := 0) rfl ?_
         rintro A136 c137 rfl m138
         refine wv (vf underlying121 rfl type24) ?_
         let K17 : List Value := [.int .i64 x1.Row.Id, .slice A136 ((gt (gt x0.Segments (((spec_l8Find_m x0 x1.Row.Id).1).toNat)) (((spec_l8Find_m x0 x1.Row.Id).2).toNat)).Values).length c137, .int .i64 (IntKind.i64.wrap (x0.Now + 1)), .int .i64 (-1)]
         let K18 : List Value := [.slice A136 ((gt (gt x0.Segments (((spec_l8Find_m x0 x1.Row.Id).1).toNat)) (((spec_l8Find_m x0 x1.Row.Id).2).toNat)).Values).length c137]
         let I38 : It := iOwn (tSl tInt 3) K18 ((gt (gt x0.Segments (((spec_l8Find_m x0 x1.Row.Id).1).toNat)) (((spec_l8Find_m x0 x1.Row.Id).2).toNat)).Values)
         refine sb 1 K17 [I38, I37, iFoc tyVersion 121 (some ⟨g128, 0, none⟩) ((gt x0.Segments (((spec_l8Find_m x0 x1.Row.Id).1).toNat)).length) c125 (gt x0.Segments (((spec_l8Find_m x0 x1.Row.Id).1).toNat)) (((spec_l8Find_m x0 x1.Row.Id).2).toNat) K16, iFoc (tSl tyVersion 121) 119 (some ⟨g121, 0, none⟩) x0.Segments.length c23 x0.Segments (((spec_l8Find_m x0 x1.Row.Id).1).toNat) K14, I36, iBox p26 81 K13, iBox p19 81 [.slice none 0 0, .int .i64 0], iBox p18 32 K1, I32] (pk [4, 0, 1, 2, 3, 5, 6, 7, 8, 9]) type24 ?_
         refine nt' ?_
         refine rb 11 (s := [iBox p114 121 K17, I38, I37, iFoc (tSl tyVersion 121) 119 (some ⟨g121, 0, none⟩) x0.Segments.length c23 x0.Segments (((spec_l8Find_m x0 x1.Row.Id).1).toNat) K14, I36, iBox p26 81 K13, iBox p19 81 [.slice none 0 0, .int .i64 0], iBox p18 32 K1, I32]) (pk [0, 1, 2, 4, 5, 6, 7, 8, 9]) ?_
         refine qt 11 0 1 rfl (vf underlying81 rfl type79) ?_
         refine qt 11 1 3 rfl (vl 5 0 underlying79) ?_
         refine qt 11 2 7 rfl vmv ?_
         refine qt 11 3 15 rfl (fun W hm => rv_indexI (sz := 1) (k := (spec_l8Find_m x0 x1.Row.Id).1) underlying79 type119 rfl rfl rfl (by omega) (by omega)) ?_
         refine qt 11 4 31 rfl (fun W hm => rv_load underlying119 rfl rfl (hm.focInt (i := 3) rfl rfl)) ?_
         refine qt 11 5 63 rfl vmv ?_
         refine qt 11 6 127 rfl (vf underlying81 rfl type3) ?_
         refine qt 11 7 255 rfl (vl 5 1 underlying3) ?_
         refine qt 11 8 511 rfl (fun W hm => rv_indexI (sz := 4) (k := (spec_l8Find_m x0 x1.Row.Id).2) underlying119 type121 rfl rfl rfl (by omega) (by omega)) ?_
         refine qt 11 9 1023 rfl (vf underlying121 rfl type3) ?_
         refine qo 11 10 2047 rfl ?_
         let K19 : List Value := [.int .i64 ((gt (gt x0.Segments (((spec_l8Find_m x0 x1.Row.Id).1).toNat)) (((spec_l8Find_m x0 x1.Row.Id).2).toNat)).Id), .slice A131 ((gt (gt x0.Segments (((spec_l8Find_m x0 x1.Row.Id).1).toNat)) (((spec_l8Find_m x0 x1.Row.Id).2).toNat)).Values).length c132, .int .i64 ((gt (gt x0.Segments (((spec_l8Find_m x0 x1.Row.Id).1).toNat)) (((spec_l8Find_m x0 x1.Row.Id).2).toNat)).Born), .int .i64 (IntKind.i64.wrap (x0.Now + 1))]
         refine sf 3 4 K19 [iBox p114 121 K17, I38, I37, iFoc (tSl tyVersion 121) 119 (some ⟨g121, 0, none⟩) x0.Segments.length c23 x0.Segments (((spec_l8Find_m x0 x1.Row.Id).1).toNat) K14, I36, iBox p26 81 K13, iBox p19 81 [.slice none 0 0, .int .i64 0], iBox p18 32 K1, I32] (pk [3, 0, 1, 2, 4, 5, 6, 7, 8, 9]) type3 ?_
         refine qn (pk [1, 2, 3, 4, 5, 6, 7, 8, 9]) ?_
         refine QB_done (by kernel_rfl) ?_
         refine QM_then (CM_seq (sr ?_))
         refine wv (vf underlying32 rfl type3) ?_
         refine wv (vl 8 0 underlying3) ?_
         refine wv (fun W hm => rv_eql rfl rfl) ?_
         refine nt' ?_
         by_cases h140 : x1.Kind = 3
         ·have g141 := beq_iff_eq.2 h140
          refine CM_condT rfl g141 ?_
          refine CM_region ?_
          refine wv (vf underlying121 rfl type24) ?_
          refine wv (vl 1 1 underlying24) ?_
          refine wv (vf underlying32 rfl type3) ?_
          refine wv (vl 8 3 underlying3) ?_
          refine wv (vf underlying32 rfl type3) ?_
          refine wv (vl 8 4 underlying3) ?_
          refine WM_formO (n := 2) rfl (by omega) ?_
          rintro g142 rfl
          refine wv (fun W hm => rv_indexI (sz := 1) (k := x1.Field) underlying24 type3 rfl rfl rfl (by omega) (by omega)) ?_
          let K20 : List Value := [.int .i64 x1.Row.Id, .slice (some ⟨g142, 0, none⟩) ((gt (gt x0.Segments (((spec_l8Find_m x0 x1.Row.Id).1).toNat)) (((spec_l8Find_m x0 x1.Row.Id).2).toNat)).Values).length c137, .int .i64 (IntKind.i64.wrap (x0.Now + 1)), .int .i64 (-1)]
          refine WM_setEl (E := tInt) (e := 3) (u := .int .i64 x1.Value) (k := (x1.Field.toNat)) (p := g142) (n := ((gt (gt x0.Segments (((spec_l8Find_m x0 x1.Row.Id).1).toNat)) (((spec_l8Find_m x0 x1.Row.Id).2).toNat)).Values).length) (xs := (gt (gt x0.Segments (((spec_l8Find_m x0 x1.Row.Id).1).toNat)) (((spec_l8Find_m x0 x1.Row.Id).2).toNat)).Values) (eis := []) (js := [iFoc tyVersion 121 (some ⟨g128, 0, none⟩) ((gt x0.Segments (((spec_l8Find_m x0 x1.Row.Id).1).toNat)).length) c125 (gt x0.Segments (((spec_l8Find_m x0 x1.Row.Id).1).toNat)) (((spec_l8Find_m x0 x1.Row.Id).2).toNat) K19, iBox p114 121 K20, I37, iFoc (tSl tyVersion 121) 119 (some ⟨g121, 0, none⟩) x0.Segments.length c23 x0.Segments (((spec_l8Find_m x0 x1.Row.Id).1).toNat) K14, I36, iBox p26 81 K13, iBox p19 81 [.slice none 0 0, .int .i64 0], iBox p18 32 K1, I32]) (yv := x1.Value) (pk [2, 0, 1, 3, 4, 5, 6, 7, 8, 9]) (fun _ _ hs => (Sep.nil hs ▸ tInt_own)) rfl type3 rfl (by omega) rfl rfl (Wd_none rfl) ?_
          refine nt' (CM_seq (sr ?_))
          refine wv (vf underlying32 rfl type3) ?_
          refine wv (vl 8 0 underlying3) ?_
          refine wv vneq ?_
          refine nt' ?_
          refine CM_condT rfl g38 ?_
          refine CM_items (pk [0, 1, 2, 3, 4, 6, 7]) ?_
          let K21 : List Value := [.slice (some ⟨g142, 0, none⟩) ((gt (gt x0.Segments (((spec_l8Find_m x0 x1.Row.Id).1).toNat)) (((spec_l8Find_m x0 x1.Row.Id).2).toNat)).Values).length c137]
          let I39 : It := iOwn (tSl tInt 3) K21 (((gt (gt x0.Segments (((spec_l8Find_m x0 x1.Row.Id).1).toNat)) (((spec_l8Find_m x0 x1.Row.Id).2).toNat)).Values).set (x1.Field.toNat) x1.Value)
          refine CM_items (fun W hm => Mem.unfocus (Mem.join (is := [I37]) (js := (iFoc tyVersion 121 (some ⟨g128, 0, none⟩) ((gt x0.Segments (((spec_l8Find_m x0 x1.Row.Id).1).toNat)).length) c125 (gt x0.Segments (((spec_l8Find_m x0 x1.Row.Id).1).toNat)) (((spec_l8Find_m x0 x1.Row.Id).2).toNat) K19 :: [I39, iBox p114 121 K20, iFoc (tSl tyVersion 121) 119 (some ⟨g121, 0, none⟩) x0.Segments.length c23 x0.Segments (((spec_l8Find_m x0 x1.Row.Id).1).toNat) K14, iBox p26 81 K13, iBox p19 81 [.slice none 0 0, .int .i64 0]])) (fun _ _ hs => tyVersion_join (x := (⟨(gt (gt x0.Segments (((spec_l8Find_m x0 x1.Row.Id).1).toNat)) (((spec_l8Find_m x0 x1.Row.Id).2).toNat)).Id, (gt (gt x0.Segments (((spec_l8Find_m x0 x1.Row.Id).1).toNat)) (((spec_l8Find_m x0 x1.Row.Id).2).toNat)).Values, (gt (gt x0.Segments (((spec_l8Find_m x0 x1.Row.Id).1).toNat)) (((spec_l8Find_m x0 x1.Row.Id).2).toNat)).Born, (IntKind.i64.wrap (x0.Now + 1))⟩ : DVersion)) hs) (hm.pick [3, 1, 0, 2, 4, 5, 6] (by decide)))) ?_
          refine CM_items (fun W hm => Mem.unfocus (Mem.join (is := [iOwn (tSl tyVersion 121) K14 (spec_ApplyUpdate_v1 x0 x1)]) (js := (iFoc (tSl tyVersion 121) 119 (some ⟨g121, 0, none⟩) x0.Segments.length c23 x0.Segments (((spec_l8Find_m x0 x1.Row.Id).1).toNat) K14 :: [I39, iBox p114 121 K20, iBox p26 81 K13, iBox p19 81 [.slice none 0 0, .int .i64 0]])) (fun _ _ hs => Sep.one hs) (hm.pick [0, 3, 1, 2, 4, 5] (by decide)))) ?_
          refine CM_focus (E := (tSl tyVersion 121)) (e := 119) (A := (some ⟨g121, 0, none⟩)) (n := x0.Segments.length) (c := c23) (xs := (x0.Segments.set (((spec_l8Find_m x0 x1.Row.Id).1).toNat) (spec_ApplyUpdate_v1 x0 x1))) (k := ((spec_l8Room_m x0).toNat)) (js := [I39, iBox p114 121 K20, iBox p26 81 K13, iBox p19 81 [.slice none 0 0, .int .i64 0]]) (by omega) (fun W hm => hm) (fun ck143 => ?_)
          refine CM_split (γ := Value) (js := fun g => [iOwn (tSl tyVersion 121) [g] (gt (x0.Segments.set (((spec_l8Find_m x0 x1.Row.Id).1).toNat) (spec_ApplyUpdate_v1 x0 x1)) ((spec_l8Room_m x0).toNat))]) (C := fun g => ck143 = [g]) (fun _ _ h => tSl_split h) ?_
          rintro v144 rfl
          refine CM_form (n := 0) rfl ?_
          rintro A145 c146 rfl m147
          let K22 : List Value := [.slice A145 (gt (x0.Segments.set (((spec_l8Find_m x0 x1.Row.Id).1).toNat) (spec_ApplyUpdate_v1 x0 x1)) ((spec_l8Room_m x0).toNat)).length c146]
          refine rd2 13 [12] (s := [iBox p114 121 K20, iBox p26 81 K13, iBox p19 81 [.slice none 0 0, .int .i64 0]]) (s2 := [iFoc (tSl tyVersion 121) 119 (some ⟨g121, 0, none⟩) x0.Segments.length c23 (x0.Segments.set (((spec_l8Find_m x0 x1.Row.Id).1).toNat) (spec_ApplyUpdate_v1 x0 x1)) ((spec_l8Room_m x0).toNat) K22, iBox p114 121 K20, iBox p26 81 K13, iBox p19 81 [.slice none 0 0, .int .i64 0]]) (pk [3, 4, 5]) (pk [1, 3, 4, 5]) ?_
          refine qtD 13 0 1 rfl (vf underlying81 rfl type79) ?_
          refine qtD 13 1 3 rfl (vl 2 0 underlying79) ?_
          refine qtD 13 2 7 rfl vmv ?_
          refine qtD 13 3 15 rfl (vf underlying81 rfl type79) ?_
          refine qtD 13 4 31 rfl (vl 2 0 underlying79) ?_
          refine qtD 13 5 63 rfl vmv ?_
          refine qtD 13 6 127 rfl (fun W hm => rv_indexI (sz := 1) (k := (spec_l8Room_m x0)) underlying79 type119 rfl rfl rfl (by omega) (by omega)) ?_
          refine qtD 13 7 255 rfl (fun W hm => rv_load underlying119 rfl rfl (hm.focInt (i := 0) rfl rfl)) ?_
          refine qtD 13 8 511 rfl (fun W hm => rv_loadN (cs := K20) underlying121 type121 rfl rfl (hm.boxCells (n := 1) rfl)) ?_
          refine qoD 13 9 1023 rfl ?_
          refine WM_build (cs := K20) underlying119 type121 rfl (by decide) (by decide) rfl (by kernel_rfl) (Wd_none rfl) (by decide) (fun p149 => ?_)
          refine qnD (pk [4, 5, 6]) (pk [2, 4, 5, 6]) ?_
          refine qoD 13 10 2047 rfl ?_
          refine ap1 tyVersion 121 (.slice A145 (gt (x0.Segments.set (((spec_l8Find_m x0 x1.Row.Id).1).toNat) (spec_ApplyUpdate_v1 x0 x1)) ((spec_l8Room_m x0).toNat)).length c146) (gt (x0.Segments.set (((spec_l8Find_m x0 x1.Row.Id).1).toNat) (spec_ApplyUpdate_v1 x0 x1)) ((spec_l8Room_m x0).toNat)) (⟨x1.Row.Id, (((gt (gt x0.Segments (((spec_l8Find_m x0 x1.Row.Id).1).toNat)) (((spec_l8Find_m x0 x1.Row.Id).2).toNat)).Values).set (x1.Field.toNat) x1.Value), (IntKind.i64.wrap (x0.Now + 1)), (-1)⟩ : DVersion) [I39] [iFoc (tSl tyVersion 121) 119 (some ⟨g121, 0, none⟩) x0.Segments.length c23 (x0.Segments.set (((spec_l8Find_m x0 x1.Row.Id).1).toNat) (spec_ApplyUpdate_v1 x0 x1)) ((spec_l8Room_m x0).toNat) K22, iBox p114 121 K20, iBox p26 81 K13, iBox p19 81 [.slice none 0 0, .int .i64 0]] K20 (pk [0, 1, 3, 2, 4, 5, 6]) (fun _ _ hs => Els.single (tyVersion_join (x := (⟨x1.Row.Id, (((gt (gt x0.Segments (((spec_l8Find_m x0 x1.Row.Id).1).toNat)) (((spec_l8Find_m x0 x1.Row.Id).2).toNat)).Values).set (x1.Field.toNat) x1.Value), (IntKind.i64.wrap (x0.Now + 1)), (-1)⟩ : DVersion)) hs)) underlying119 type121 (show ((gt (x0.Segments.set (((spec_l8Find_m x0 x1.Row.Id).1).toNat) (spec_ApplyUpdate_v1 x0 x1)) ((spec_l8Room_m x0).toNat)).length + 1) * 48 ≤ 140737488355328 from by first | omega | (have hx := gtset_len (xs := x0.Segments) (i := (spec_l8Find_m x0 x1.Row.Id).1.toNat) (y := spec_ApplyUpdate_v1 x0 x1) List.length_set ((spec_l8Room_m x0).toNat); omega)) (fun v150 => ?_)
          refine WM_form (n := 0) rfl ?_
          rintro A151 c152 rfl m153
          refine qnD (pk [2, 3, 4]) (pk [1, 2, 3, 4]) ?_
          refine qtD 13 11 4095 rfl (fun W hm => rv_indexI (sz := 1) (k := (spec_l8Room_m x0)) underlying79 type119 rfl rfl rfl (by omega) (by omega)) ?_
          refine qoD 13 12 8191 rfl ?_
          let I40 : It := iOwn (tSl tyVersion 121) [.slice A151 (spec_ApplyUpdate_v2 x0 x1).length c152] (spec_ApplyUpdate_v2 x0 x1)
          refine sf 0 1 [.slice A151 (spec_ApplyUpdate_v2 x0 x1).length c152] [I40, iBox p114 121 K20, iBox p26 81 K13, iBox p19 81 [.slice none 0 0, .int .i64 0]] (pk [1, 0, 2, 3, 4]) type119 ?_
          refine qxD (pk [2, 3, 4]) ?_
          refine QB_done (by kernel_rfl) ?_
          refine QM_then (sr ?_)
          refine wv (fun W hm => rv_loadN (cs := K13) underlying81 type81 rfl rfl (hm.boxCells (n := 3) rfl)) ?_
          refine sb 0 K13 [iFoc (tSl tyVersion 121) 119 (some ⟨g121, 0, none⟩) x0.Segments.length c23 (x0.Segments.set (((spec_l8Find_m x0 x1.Row.Id).1).toNat) (spec_ApplyUpdate_v1 x0 x1)) ((spec_l8Room_m x0).toNat) [.slice A151 (spec_ApplyUpdate_v2 x0 x1).length c152], I40, iBox p114 121 K20, iBox p26 81 K13] (pk [4, 0, 1, 2, 3]) type81 ?_
          refine wa (nt' (CM_ret ?_))
          refine QM_items (fun W hm => Mem.unfocus (Mem.join (is := [I40]) (js := (iFoc (tSl tyVersion 121) 119 (some ⟨g121, 0, none⟩) x0.Segments.length c23 (x0.Segments.set (((spec_l8Find_m x0 x1.Row.Id).1).toNat) (spec_ApplyUpdate_v1 x0 x1)) ((spec_l8Room_m x0).toNat) [.slice A151 (spec_ApplyUpdate_v2 x0 x1).length c152] :: [iBox p19 81 K13, iBox p114 121 K20, iBox p26 81 K13])) (fun _ _ hs => Sep.one hs) (hm.pick [2, 1, 0, 3, 4] (by decide)))) ?_
          have he155 := (show spec_ApplyUpdate_m x0 x1 = ((⟨((x0.Segments.set (((spec_l8Find_m x0 x1.Row.Id).1).toNat) (spec_ApplyUpdate_v1 x0 x1)).set ((spec_l8Room_m x0).toNat) (spec_ApplyUpdate_v2 x0 x1)), (IntKind.i64.wrap (x0.Now + 1))⟩ : DStore), true) from cond_t g28 (cond_t g30 (cond_f g32 (cond_f g35 (cond_t g38 (cond_f g105 (cond_t g118 (cond_t g141 (rfl)))))))))
          refine QM_r2 rfl (RR_cell (n := 1) rfl rfl underlying81 type81 rfl) (RR_tmp rfl) (fun W hm => ⟨K13, ?_, ?_⟩)
          ·first | rw [he155] | rfl
           try rfl
          ·rw [he155]; exact Mem.join (is := [iOwn (tSl (tSl tyVersion 121) 119) [.slice (some ⟨g121, 0, none⟩) x0.Segments.length c23] ((x0.Segments.set (((spec_l8Find_m x0 x1.Row.Id).1).toNat) (spec_ApplyUpdate_v1 x0 x1)).set ((spec_l8Room_m x0).toNat) (spec_ApplyUpdate_v2 x0 x1))]) (js := []) (fun _ _ hs => tyStore_join (x := (⟨((x0.Segments.set (((spec_l8Find_m x0 x1.Row.Id).1).toNat) (spec_ApplyUpdate_v1 x0 x1)).set ((spec_l8Room_m x0).toNat) (spec_ApplyUpdate_v2 x0 x1)), (IntKind.i64.wrap (x0.Now + 1))⟩ : DStore)) hs) (hm.pick [0] (by decide))
         ·have g141 := beq_eq_false_iff_ne.2 h140
          refine CM_condF rfl g141 ?_
          refine CM_skip (QM_then (CM_seq (sr ?_)))
          refine wv (vf underlying32 rfl type3) ?_
          refine wv (vl 8 0 underlying3) ?_
          refine wv vneq ?_
          refine nt' ?_
          refine CM_condT rfl g38 ?_
          refine CM_items (pk [0, 1, 2, 3, 4, 6, 7]) ?_
          refine CM_items (fun W hm => Mem.unfocus (Mem.join (is := [I37]) (js := (iFoc tyVersion 121 (some ⟨g128, 0, none⟩) ((gt x0.Segments (((spec_l8Find_m x0 x1.Row.Id).1).toNat)).length) c125 (gt x0.Segments (((spec_l8Find_m x0 x1.Row.Id).1).toNat)) (((spec_l8Find_m x0 x1.Row.Id).2).toNat) K19 :: [iBox p114 121 K17, I38, iFoc (tSl tyVersion 121) 119 (some ⟨g121, 0, none⟩) x0.Segments.length c23 x0.Segments (((spec_l8Find_m x0 x1.Row.Id).1).toNat) K14, iBox p26 81 K13, iBox p19 81 [.slice none 0 0, .int .i64 0]])) (fun _ _ hs => tyVersion_join (x := (⟨(gt (gt x0.Segments (((spec_l8Find_m x0 x1.Row.Id).1).toNat)) (((spec_l8Find_m x0 x1.Row.Id).2).toNat)).Id, (gt (gt x0.Segments (((spec_l8Find_m x0 x1.Row.Id).1).toNat)) (((spec_l8Find_m x0 x1.Row.Id).2).toNat)).Values, (gt (gt x0.Segments (((spec_l8Find_m x0 x1.Row.Id).1).toNat)) (((spec_l8Find_m x0 x1.Row.Id).2).toNat)).Born, (IntKind.i64.wrap (x0.Now + 1))⟩ : DVersion)) hs) (hm.pick [3, 0, 1, 2, 4, 5, 6] (by decide)))) ?_
          refine CM_items (fun W hm => Mem.unfocus (Mem.join (is := [iOwn (tSl tyVersion 121) K14 (spec_ApplyUpdate_v1 x0 x1)]) (js := (iFoc (tSl tyVersion 121) 119 (some ⟨g121, 0, none⟩) x0.Segments.length c23 x0.Segments (((spec_l8Find_m x0 x1.Row.Id).1).toNat) K14 :: [iBox p114 121 K17, I38, iBox p26 81 K13, iBox p19 81 [.slice none 0 0, .int .i64 0]])) (fun _ _ hs => Sep.one hs) (hm.pick [0, 3, 1, 2, 4, 5] (by decide)))) ?_
          refine CM_focus (E := (tSl tyVersion 121)) (e := 119) (A := (some ⟨g121, 0, none⟩)) (n := x0.Segments.length) (c := c23) (xs := (x0.Segments.set (((spec_l8Find_m x0 x1.Row.Id).1).toNat) (spec_ApplyUpdate_v1 x0 x1))) (k := ((spec_l8Room_m x0).toNat)) (js := [iBox p114 121 K17, I38, iBox p26 81 K13, iBox p19 81 [.slice none 0 0, .int .i64 0]]) (by omega) (fun W hm => hm) (fun ck156 => ?_)
          refine CM_split (γ := Value) (js := fun g => [iOwn (tSl tyVersion 121) [g] (gt (x0.Segments.set (((spec_l8Find_m x0 x1.Row.Id).1).toNat) (spec_ApplyUpdate_v1 x0 x1)) ((spec_l8Room_m x0).toNat))]) (C := fun g => ck156 = [g]) (fun _ _ h => tSl_split h) ?_
          rintro v157 rfl
          refine CM_form (n := 0) rfl ?_
          rintro A158 c159 rfl m160
          let K23 : List Value := [.slice A158 (gt (x0.Segments.set (((spec_l8Find_m x0 x1.Row.Id).1).toNat) (spec_ApplyUpdate_v1 x0 x1)) ((spec_l8Room_m x0).toNat)).length c159]
          refine rd2 13 [12] (s := [iBox p114 121 K17, iBox p26 81 K13, iBox p19 81 [.slice none 0 0, .int .i64 0]]) (s2 := [iFoc (tSl tyVersion 121) 119 (some ⟨g121, 0, none⟩) x0.Segments.length c23 (x0.Segments.set (((spec_l8Find_m x0 x1.Row.Id).1).toNat) (spec_ApplyUpdate_v1 x0 x1)) ((spec_l8Room_m x0).toNat) K23, iBox p114 121 K17, iBox p26 81 K13, iBox p19 81 [.slice none 0 0, .int .i64 0]]) (pk [2, 4, 5]) (pk [1, 2, 4, 5]) ?_
          refine qtD 13 0 1 rfl (vf underlying81 rfl type79) ?_
          refine qtD 13 1 3 rfl (vl 2 0 underlying79) ?_
          refine qtD 13 2 7 rfl vmv ?_
          refine qtD 13 3 15 rfl (vf underlying81 rfl type79) ?_
          refine qtD 13 4 31 rfl (vl 2 0 underlying79) ?_
          refine qtD 13 5 63 rfl vmv ?_
          refine qtD 13 6 127 rfl (fun W hm => rv_indexI (sz := 1) (k := (spec_l8Room_m x0)) underlying79 type119 rfl rfl rfl (by omega) (by omega)) ?_
          refine qtD 13 7 255 rfl (fun W hm => rv_load underlying119 rfl rfl (hm.focInt (i := 0) rfl rfl)) ?_
          refine qtD 13 8 511 rfl (fun W hm => rv_loadN (cs := K17) underlying121 type121 rfl rfl (hm.boxCells (n := 1) rfl)) ?_
          refine qoD 13 9 1023 rfl ?_
          refine WM_build (cs := K17) underlying119 type121 rfl (by decide) (by decide) rfl (by kernel_rfl) (Wd_none rfl) (by decide) (fun p162 => ?_)
          refine qnD (pk [3, 5, 6]) (pk [2, 3, 5, 6]) ?_
          refine qoD 13 10 2047 rfl ?_
          refine ap1 tyVersion 121 (.slice A158 (gt (x0.Segments.set (((spec_l8Find_m x0 x1.Row.Id).1).toNat) (spec_ApplyUpdate_v1 x0 x1)) ((spec_l8Room_m x0).toNat)).length c159) (gt (x0.Segments.set (((spec_l8Find_m x0 x1.Row.Id).1).toNat) (spec_ApplyUpdate_v1 x0 x1)) ((spec_l8Room_m x0).toNat)) (⟨x1.Row.Id, (gt (gt x0.Segments (((spec_l8Find_m x0 x1.Row.Id).1).toNat)) (((spec_l8Find_m x0 x1.Row.Id).2).toNat)).Values, (IntKind.i64.wrap (x0.Now + 1)), (-1)⟩ : DVersion) [I38] [iFoc (tSl tyVersion 121) 119 (some ⟨g121, 0, none⟩) x0.Segments.length c23 (x0.Segments.set (((spec_l8Find_m x0 x1.Row.Id).1).toNat) (spec_ApplyUpdate_v1 x0 x1)) ((spec_l8Room_m x0).toNat) K23, iBox p114 121 K17, iBox p26 81 K13, iBox p19 81 [.slice none 0 0, .int .i64 0]] K17 (pk [0, 1, 4, 2, 3, 5, 6]) (fun _ _ hs => Els.single (tyVersion_join (x := (⟨x1.Row.Id, (gt (gt x0.Segments (((spec_l8Find_m x0 x1.Row.Id).1).toNat)) (((spec_l8Find_m x0 x1.Row.Id).2).toNat)).Values, (IntKind.i64.wrap (x0.Now + 1)), (-1)⟩ : DVersion)) hs)) underlying119 type121 (show ((gt (x0.Segments.set (((spec_l8Find_m x0 x1.Row.Id).1).toNat) (spec_ApplyUpdate_v1 x0 x1)) ((spec_l8Room_m x0).toNat)).length + 1) * 48 ≤ 140737488355328 from by first | omega | (have hx := gtset_len (xs := x0.Segments) (i := (spec_l8Find_m x0 x1.Row.Id).1.toNat) (y := spec_ApplyUpdate_v1 x0 x1) List.length_set ((spec_l8Room_m x0).toNat); omega)) (fun v163 => ?_)
          refine WM_form (n := 0) rfl ?_
          rintro A164 c165 rfl m166
          refine qnD (pk [2, 3, 4]) (pk [1, 2, 3, 4]) ?_
          refine qtD 13 11 4095 rfl (fun W hm => rv_indexI (sz := 1) (k := (spec_l8Room_m x0)) underlying79 type119 rfl rfl rfl (by omega) (by omega)) ?_
          refine qoD 13 12 8191 rfl ?_
          let I41 : It := iOwn (tSl tyVersion 121) [.slice A164 (spec_ApplyUpdate_v3 x0 x1).length c165] (spec_ApplyUpdate_v3 x0 x1)
          refine sf 0 1 [.slice A164 (spec_ApplyUpdate_v3 x0 x1).length c165] [I41, iBox p114 121 K17, iBox p26 81 K13, iBox p19 81 [.slice none 0 0, .int .i64 0]] (pk [1, 0, 2, 3, 4]) type119 ?_
          refine qxD (pk [2, 3, 4]) ?_
          refine QB_done (by kernel_rfl) ?_
          refine QM_then (sr ?_)
          refine wv (fun W hm => rv_loadN (cs := K13) underlying81 type81 rfl rfl (hm.boxCells (n := 3) rfl)) ?_
          refine sb 0 K13 [iFoc (tSl tyVersion 121) 119 (some ⟨g121, 0, none⟩) x0.Segments.length c23 (x0.Segments.set (((spec_l8Find_m x0 x1.Row.Id).1).toNat) (spec_ApplyUpdate_v1 x0 x1)) ((spec_l8Room_m x0).toNat) [.slice A164 (spec_ApplyUpdate_v3 x0 x1).length c165], I41, iBox p114 121 K17, iBox p26 81 K13] (pk [4, 0, 1, 2, 3]) type81 ?_
          refine wa (nt' (CM_ret ?_))
          refine QM_items (fun W hm => Mem.unfocus (Mem.join (is := [I41]) (js := (iFoc (tSl tyVersion 121) 119 (some ⟨g121, 0, none⟩) x0.Segments.length c23 (x0.Segments.set (((spec_l8Find_m x0 x1.Row.Id).1).toNat) (spec_ApplyUpdate_v1 x0 x1)) ((spec_l8Room_m x0).toNat) [.slice A164 (spec_ApplyUpdate_v3 x0 x1).length c165] :: [iBox p19 81 K13, iBox p114 121 K17, iBox p26 81 K13])) (fun _ _ hs => Sep.one hs) (hm.pick [2, 1, 0, 3, 4] (by decide)))) ?_
          have he168 := (show spec_ApplyUpdate_m x0 x1 = ((⟨((x0.Segments.set (((spec_l8Find_m x0 x1.Row.Id).1).toNat) (spec_ApplyUpdate_v1 x0 x1)).set ((spec_l8Room_m x0).toNat) (spec_ApplyUpdate_v3 x0 x1)), (IntKind.i64.wrap (x0.Now + 1))⟩ : DStore), true) from cond_t g28 (cond_t g30 (cond_f g32 (cond_f g35 (cond_t g38 (cond_f g105 (cond_t g118 (cond_f g141 (rfl)))))))))
          refine QM_r2 rfl (RR_cell (n := 1) rfl rfl underlying81 type81 rfl) (RR_tmp rfl) (fun W hm => ⟨K13, ?_, ?_⟩)
          ·first | rw [he168] | rfl
           try rfl
          ·rw [he168]; exact Mem.join (is := [iOwn (tSl (tSl tyVersion 121) 119) [.slice (some ⟨g121, 0, none⟩) x0.Segments.length c23] ((x0.Segments.set (((spec_l8Find_m x0 x1.Row.Id).1).toNat) (spec_ApplyUpdate_v1 x0 x1)).set ((spec_l8Room_m x0).toNat) (spec_ApplyUpdate_v3 x0 x1))]) (js := []) (fun _ _ hs => tyStore_join (x := (⟨((x0.Segments.set (((spec_l8Find_m x0 x1.Row.Id).1).toNat) (spec_ApplyUpdate_v1 x0 x1)).set ((spec_l8Room_m x0).toNat) (spec_ApplyUpdate_v3 x0 x1)), (IntKind.i64.wrap (x0.Now + 1))⟩ : DStore)) hs) (hm.pick [0] (by decide))
        ·have g118 := decide_eq_false h117
         refine CM_condF rfl g118 ?_
         refine CM_skip (QM_then (CM_seq (sr ?_)))
         refine wv (vf underlying32 rfl type3) ?_
         refine wv (vl 5 0 underlying3) ?_
         refine wv (fun W hm => rv_eql rfl rfl) ?_
         refine nt' ?_
         by_cases h169 : x1.Kind = 3
         ·have g170 := beq_iff_eq.2 h169
          refine CM_condT rfl g170 ?_
          refine CM_region ?_
          refine wv (vf underlying121 rfl type24) ?_
          refine wv (vl 0 1 underlying24) ?_
          refine wv (vf underlying32 rfl type3) ?_
          refine wv (vl 5 3 underlying3) ?_
          refine wv (vf underlying32 rfl type3) ?_
          refine wv (vl 5 4 underlying3) ?_
          refine WM_formO (n := 1) rfl (by omega) ?_
          rintro g171 rfl
          refine wv (fun W hm => rv_indexI (sz := 1) (k := x1.Field) underlying24 type3 rfl rfl rfl (by omega) (by omega)) ?_
          let K24 : List Value := [.int .i64 x1.Row.Id, .slice (some ⟨g171, 0, none⟩) x1.Row.Values.length c111, .int .i64 (IntKind.i64.wrap (x0.Now + 1)), .int .i64 (-1)]
          refine WM_setEl (E := tInt) (e := 3) (u := .int .i64 x1.Value) (k := (x1.Field.toNat)) (p := g171) (n := x1.Row.Values.length) (xs := x1.Row.Values) (eis := []) (js := [iBox p114 121 K24, iBox p26 81 K11, I31, iBox p19 81 [.slice none 0 0, .int .i64 0], iBox p18 32 K1, I32]) (yv := x1.Value) (pk [1, 0, 2, 3, 4, 5, 6]) (fun _ _ hs => (Sep.nil hs ▸ tInt_own)) rfl type3 rfl (by omega) rfl rfl (Wd_none rfl) ?_
          refine nt' (CM_seq (sr ?_))
          refine wv (vf underlying32 rfl type3) ?_
          refine wv (vl 5 0 underlying3) ?_
          refine wv vneq ?_
          refine nt' ?_
          refine CM_condT rfl g38 ?_
          refine CM_formO (n := 3) rfl (by omega) ?_
          rintro g172 rfl
          let K25 : List Value := [.slice (some ⟨g172, 0, none⟩) x0.Segments.length c23, .int .i64 (IntKind.i64.wrap (x0.Now + 1))]
          let I42 : It := iOwn (tSl tInt 3) [.slice (some ⟨g171, 0, none⟩) x1.Row.Values.length c111] (x1.Row.Values.set (x1.Field.toNat) x1.Value)
          refine CM_focus (E := (tSl tyVersion 121)) (e := 119) (A := (some ⟨g172, 0, none⟩)) (n := x0.Segments.length) (c := c23) (xs := x0.Segments) (k := ((spec_l8Room_m x0).toNat)) (js := [I42, iBox p114 121 K24, iBox p26 81 K25, iBox p19 81 [.slice none 0 0, .int .i64 0], iBox p18 32 K1, I32]) (by omega) (pk [3, 0, 1, 2, 4, 5, 6]) (fun ck173 => ?_)
          refine CM_split (γ := Value) (js := fun g => [iOwn (tSl tyVersion 121) [g] (gt x0.Segments ((spec_l8Room_m x0).toNat))]) (C := fun g => ck173 = [g]) (fun _ _ h => tSl_split h) ?_
          rintro v174 rfl
          refine CM_form (n := 0) rfl ?_
          rintro A175 c176 rfl m177
          let K26 : List Value := [.slice A175 (gt x0.Segments ((spec_l8Room_m x0).toNat)).length c176]
          refine rd2 13 [12] (s := [iBox p114 121 K24, iBox p26 81 K25, iBox p19 81 [.slice none 0 0, .int .i64 0], iBox p18 32 K1, I32]) (s2 := [iFoc (tSl tyVersion 121) 119 (some ⟨g172, 0, none⟩) x0.Segments.length c23 x0.Segments ((spec_l8Room_m x0).toNat) K26, iBox p114 121 K24, iBox p26 81 K25, iBox p19 81 [.slice none 0 0, .int .i64 0], iBox p18 32 K1, I32]) (pk [3, 4, 5, 6, 7]) (pk [1, 3, 4, 5, 6, 7]) ?_
          refine qtD 13 0 1 rfl (vf underlying81 rfl type79) ?_
          refine qtD 13 1 3 rfl (vl 2 0 underlying79) ?_
          refine qtD 13 2 7 rfl vmv ?_
          refine qtD 13 3 15 rfl (vf underlying81 rfl type79) ?_
          refine qtD 13 4 31 rfl (vl 2 0 underlying79) ?_
          refine qtD 13 5 63 rfl vmv ?_
          refine qtD 13 6 127 rfl (fun W hm => rv_indexI (sz := 1) (k := (spec_l8Room_m x0)) underlying79 type119 rfl rfl rfl (by omega) (by omega)) ?_
          refine qtD 13 7 255 rfl (fun W hm => rv_load underlying119 rfl rfl (hm.focInt (i := 0) rfl rfl)) ?_
          refine qtD 13 8 511 rfl (fun W hm => rv_loadN (cs := K24) underlying121 type121 rfl rfl (hm.boxCells (n := 1) rfl)) ?_
          refine qoD 13 9 1023 rfl ?_
          refine WM_build (cs := K24) underlying119 type121 rfl (by decide) (by decide) rfl (by kernel_rfl) (Wd_none rfl) (by decide) (fun p179 => ?_)
          refine qnD (pk [4, 5, 6, 7, 8]) (pk [2, 4, 5, 6, 7, 8]) ?_
          refine qoD 13 10 2047 rfl ?_
          refine ap1 tyVersion 121 (.slice A175 (gt x0.Segments ((spec_l8Room_m x0).toNat)).length c176) (gt x0.Segments ((spec_l8Room_m x0).toNat)) (⟨x1.Row.Id, (x1.Row.Values.set (x1.Field.toNat) x1.Value), (IntKind.i64.wrap (x0.Now + 1)), (-1)⟩ : DVersion) [I42] [iFoc (tSl tyVersion 121) 119 (some ⟨g172, 0, none⟩) x0.Segments.length c23 x0.Segments ((spec_l8Room_m x0).toNat) K26, iBox p114 121 K24, iBox p26 81 K25, iBox p19 81 [.slice none 0 0, .int .i64 0], iBox p18 32 K1, I32] K24 (pk [0, 1, 3, 2, 4, 5, 6, 7, 8]) (fun _ _ hs => Els.single (tyVersion_join (x := (⟨x1.Row.Id, (x1.Row.Values.set (x1.Field.toNat) x1.Value), (IntKind.i64.wrap (x0.Now + 1)), (-1)⟩ : DVersion)) hs)) underlying119 type121 (show ((gt x0.Segments ((spec_l8Room_m x0).toNat)).length + 1) * 48 ≤ 140737488355328 from by first | omega | (have hx := gtset_len (xs := x0.Segments) (i := (spec_l8Find_m x0 x1.Row.Id).1.toNat) (y := spec_ApplyUpdate_v1 x0 x1) List.length_set ((spec_l8Room_m x0).toNat); omega)) (fun v180 => ?_)
          refine WM_form (n := 0) rfl ?_
          rintro A181 c182 rfl m183
          refine qnD (pk [2, 3, 4, 5, 6]) (pk [1, 2, 3, 4, 5, 6]) ?_
          refine qtD 13 11 4095 rfl (fun W hm => rv_indexI (sz := 1) (k := (spec_l8Room_m x0)) underlying79 type119 rfl rfl rfl (by omega) (by omega)) ?_
          refine qoD 13 12 8191 rfl ?_
          let K27 : List Value := [.slice A181 ((gt x0.Segments ((spec_l8Room_m x0).toNat)) ++ [(⟨x1.Row.Id, (x1.Row.Values.set (x1.Field.toNat) x1.Value), (IntKind.i64.wrap (x0.Now + 1)), (-1)⟩ : DVersion)]).length c182]
          let I43 : It := iOwn (tSl tyVersion 121) K27 ((gt x0.Segments ((spec_l8Room_m x0).toNat)) ++ [(⟨x1.Row.Id, (x1.Row.Values.set (x1.Field.toNat) x1.Value), (IntKind.i64.wrap (x0.Now + 1)), (-1)⟩ : DVersion)])
          refine sf 0 1 K27 [I43, iBox p114 121 K24, iBox p26 81 K25, iBox p19 81 [.slice none 0 0, .int .i64 0], iBox p18 32 K1, I32] (pk [1, 0, 2, 3, 4, 5, 6]) type119 ?_
          refine qxD (pk [2, 3, 4, 5, 6]) ?_
          refine QB_done (by kernel_rfl) ?_
          refine QM_then (CM_seq ?_)
          refine CM_items (pk [0, 1, 3, 4]) ?_
          refine CM_region ?_
          refine wv (fun W hm => rv_loadN (cs := K25) underlying81 type81 rfl rfl (hm.boxCells (n := 2) rfl)) ?_
          refine sb 0 K25 [iFoc (tSl tyVersion 121) 119 (some ⟨g172, 0, none⟩) x0.Segments.length c23 x0.Segments ((spec_l8Room_m x0).toNat) K27, I43, iBox p26 81 K25] (pk [3, 0, 1, 2]) type81 ?_
          refine wa (nt' (CM_ret ?_))
          refine QM_items (fun W hm => Mem.unfocus (Mem.join (is := [I43]) (js := (iFoc (tSl tyVersion 121) 119 (some ⟨g172, 0, none⟩) x0.Segments.length c23 x0.Segments ((spec_l8Room_m x0).toNat) K27 :: [iBox p19 81 K25, iBox p26 81 K25])) (fun _ _ hs => Sep.one hs) (hm.pick [2, 1, 0, 3] (by decide)))) ?_
          have he185 := (show spec_ApplyUpdate_m x0 x1 = ((⟨(spec_ApplyUpdate_v4 x0 x1), (IntKind.i64.wrap (x0.Now + 1))⟩ : DStore), true) from cond_t g28 (cond_t g30 (cond_f g32 (cond_f g35 (cond_t g38 (cond_f g105 (cond_f g118 (cond_t g170 (rfl)))))))))
          refine QM_r2 rfl (RR_cell (n := 1) rfl rfl underlying81 type81 rfl) (RR_tmp rfl) (fun W hm => ⟨K25, ?_, ?_⟩)
          ·first | rw [he185] | rfl
           try rfl
          ·rw [he185]; exact Mem.join (is := [iOwn (tSl (tSl tyVersion 121) 119) [.slice (some ⟨g172, 0, none⟩) x0.Segments.length c23] (spec_ApplyUpdate_v4 x0 x1)]) (js := []) (fun _ _ hs => tyStore_join (x := (⟨(spec_ApplyUpdate_v4 x0 x1), (IntKind.i64.wrap (x0.Now + 1))⟩ : DStore)) hs) (hm.pick [0] (by decide))
         ·have g170 := beq_eq_false_iff_ne.2 h169
          refine CM_condF rfl g170 ?_
          refine CM_skip (QM_then (CM_seq (sr ?_)))
          refine wv (vf underlying32 rfl type3) ?_
          refine wv (vl 5 0 underlying3) ?_
          refine wv vneq ?_
          refine nt' ?_
          refine CM_condT rfl g38 ?_
          refine CM_formO (n := 3) rfl (by omega) ?_
          rintro g186 rfl
          let K28 : List Value := [.slice (some ⟨g186, 0, none⟩) x0.Segments.length c23, .int .i64 (IntKind.i64.wrap (x0.Now + 1))]
          refine CM_focus (E := (tSl tyVersion 121)) (e := 119) (A := (some ⟨g186, 0, none⟩)) (n := x0.Segments.length) (c := c23) (xs := x0.Segments) (k := ((spec_l8Room_m x0).toNat)) (js := [iBox p114 121 K12, I36, iBox p26 81 K28, iBox p19 81 [.slice none 0 0, .int .i64 0], iBox p18 32 K1, I32]) (by omega) (pk [3, 0, 1, 2, 4, 5, 6]) (fun ck187 => ?_)
          refine CM_split (γ := Value) (js := fun g => [iOwn (tSl tyVersion 121) [g] (gt x0.Segments ((spec_l8Room_m x0).toNat))]) (C := fun g => ck187 = [g]) (fun _ _ h => tSl_split h) ?_
          rintro v188 rfl
          refine CM_form (n := 0) rfl ?_
          rintro A189 c190 rfl m191
          let K29 : List Value := [.slice A189 (gt x0.Segments ((spec_l8Room_m x0).toNat)).length c190]
          refine rd2 13 [12] (s := [iBox p114 121 K12, iBox p26 81 K28, iBox p19 81 [.slice none 0 0, .int .i64 0], iBox p18 32 K1, I32]) (s2 := [iFoc (tSl tyVersion 121) 119 (some ⟨g186, 0, none⟩) x0.Segments.length c23 x0.Segments ((spec_l8Room_m x0).toNat) K29, iBox p114 121 K12, iBox p26 81 K28, iBox p19 81 [.slice none 0 0, .int .i64 0], iBox p18 32 K1, I32]) (pk [2, 4, 5, 6, 7]) (pk [1, 2, 4, 5, 6, 7]) ?_
          refine qtD 13 0 1 rfl (vf underlying81 rfl type79) ?_
          refine qtD 13 1 3 rfl (vl 2 0 underlying79) ?_
          refine qtD 13 2 7 rfl vmv ?_
          refine qtD 13 3 15 rfl (vf underlying81 rfl type79) ?_
          refine qtD 13 4 31 rfl (vl 2 0 underlying79) ?_
          refine qtD 13 5 63 rfl vmv ?_
          refine qtD 13 6 127 rfl (fun W hm => rv_indexI (sz := 1) (k := (spec_l8Room_m x0)) underlying79 type119 rfl rfl rfl (by omega) (by omega)) ?_
          refine qtD 13 7 255 rfl (fun W hm => rv_load underlying119 rfl rfl (hm.focInt (i := 0) rfl rfl)) ?_
          refine qtD 13 8 511 rfl (fun W hm => rv_loadN (cs := K12) underlying121 type121 rfl rfl (hm.boxCells (n := 1) rfl)) ?_
          refine qoD 13 9 1023 rfl ?_
          refine WM_build (cs := K12) underlying119 type121 rfl (by decide) (by decide) rfl (by kernel_rfl) (Wd_none rfl) (by decide) (fun p193 => ?_)
          refine qnD (pk [3, 5, 6, 7, 8]) (pk [2, 3, 5, 6, 7, 8]) ?_
          refine qoD 13 10 2047 rfl ?_
          refine ap1 tyVersion 121 (.slice A189 (gt x0.Segments ((spec_l8Room_m x0).toNat)).length c190) (gt x0.Segments ((spec_l8Room_m x0).toNat)) (⟨x1.Row.Id, x1.Row.Values, (IntKind.i64.wrap (x0.Now + 1)), (-1)⟩ : DVersion) [I36] [iFoc (tSl tyVersion 121) 119 (some ⟨g186, 0, none⟩) x0.Segments.length c23 x0.Segments ((spec_l8Room_m x0).toNat) K29, iBox p114 121 K12, iBox p26 81 K28, iBox p19 81 [.slice none 0 0, .int .i64 0], iBox p18 32 K1, I32] K12 (pk [0, 1, 4, 2, 3, 5, 6, 7, 8]) (fun _ _ hs => Els.single (tyVersion_join (x := (⟨x1.Row.Id, x1.Row.Values, (IntKind.i64.wrap (x0.Now + 1)), (-1)⟩ : DVersion)) hs)) underlying119 type121 (show ((gt x0.Segments ((spec_l8Room_m x0).toNat)).length + 1) * 48 ≤ 140737488355328 from by first | omega | (have hx := gtset_len (xs := x0.Segments) (i := (spec_l8Find_m x0 x1.Row.Id).1.toNat) (y := spec_ApplyUpdate_v1 x0 x1) List.length_set ((spec_l8Room_m x0).toNat); omega)) (fun v194 => ?_)
          refine WM_form (n := 0) rfl ?_
          rintro A195 c196 rfl m197
          refine qnD (pk [2, 3, 4, 5, 6]) (pk [1, 2, 3, 4, 5, 6]) ?_
          refine qtD 13 11 4095 rfl (fun W hm => rv_indexI (sz := 1) (k := (spec_l8Room_m x0)) underlying79 type119 rfl rfl rfl (by omega) (by omega)) ?_
          refine qoD 13 12 8191 rfl ?_
          let K30 : List Value := [.slice A195 ((gt x0.Segments ((spec_l8Room_m x0).toNat)) ++ [(⟨x1.Row.Id, x1.Row.Values, (IntKind.i64.wrap (x0.Now + 1)), (-1)⟩ : DVersion)]).length c196]
          let I44 : It := iOwn (tSl tyVersion 121) K30 ((gt x0.Segments ((spec_l8Room_m x0).toNat)) ++ [(⟨x1.Row.Id, x1.Row.Values, (IntKind.i64.wrap (x0.Now + 1)), (-1)⟩ : DVersion)])
          refine sf 0 1 K30 [I44, iBox p114 121 K12, iBox p26 81 K28, iBox p19 81 [.slice none 0 0, .int .i64 0], iBox p18 32 K1, I32] (pk [1, 0, 2, 3, 4, 5, 6]) type119 ?_
          refine qxD (pk [2, 3, 4, 5, 6]) ?_
          refine QB_done (by kernel_rfl) ?_
          refine QM_then (CM_seq ?_)
          refine CM_items (pk [0, 1, 3, 4]) ?_
          refine CM_region ?_
          refine wv (fun W hm => rv_loadN (cs := K28) underlying81 type81 rfl rfl (hm.boxCells (n := 2) rfl)) ?_
          refine sb 0 K28 [iFoc (tSl tyVersion 121) 119 (some ⟨g186, 0, none⟩) x0.Segments.length c23 x0.Segments ((spec_l8Room_m x0).toNat) K30, I44, iBox p26 81 K28] (pk [3, 0, 1, 2]) type81 ?_
          refine wa (nt' (CM_ret ?_))
          refine QM_items (fun W hm => Mem.unfocus (Mem.join (is := [I44]) (js := (iFoc (tSl tyVersion 121) 119 (some ⟨g186, 0, none⟩) x0.Segments.length c23 x0.Segments ((spec_l8Room_m x0).toNat) K30 :: [iBox p19 81 K28, iBox p26 81 K28])) (fun _ _ hs => Sep.one hs) (hm.pick [2, 1, 0, 3] (by decide)))) ?_
          have he199 := (show spec_ApplyUpdate_m x0 x1 = ((⟨(x0.Segments.set ((spec_l8Room_m x0).toNat) ((gt x0.Segments ((spec_l8Room_m x0).toNat)) ++ [(⟨x1.Row.Id, x1.Row.Values, (IntKind.i64.wrap (x0.Now + 1)), (-1)⟩ : DVersion)])), (IntKind.i64.wrap (x0.Now + 1))⟩ : DStore), true) from cond_t g28 (cond_t g30 (cond_f g32 (cond_f g35 (cond_t g38 (cond_f g105 (cond_f g118 (cond_f g170 (rfl)))))))))
          refine QM_r2 rfl (RR_cell (n := 1) rfl rfl underlying81 type81 rfl) (RR_tmp rfl) (fun W hm => ⟨K28, ?_, ?_⟩)
          ·first | rw [he199] | rfl
           try rfl
          ·rw [he199]; exact Mem.join (is := [iOwn (tSl (tSl tyVersion 121) 119) [.slice (some ⟨g186, 0, none⟩) x0.Segments.length c23] (x0.Segments.set ((spec_l8Room_m x0).toNat) ((gt x0.Segments ((spec_l8Room_m x0).toNat)) ++ [(⟨x1.Row.Id, x1.Row.Values, (IntKind.i64.wrap (x0.Now + 1)), (-1)⟩ : DVersion)]))]) (js := []) (fun _ _ hs => tyStore_join (x := (⟨(x0.Segments.set ((spec_l8Room_m x0).toNat) ((gt x0.Segments ((spec_l8Room_m x0).toNat)) ++ [(⟨x1.Row.Id, x1.Row.Values, (IntKind.i64.wrap (x0.Now + 1)), (-1)⟩ : DVersion)])), (IntKind.i64.wrap (x0.Now + 1))⟩ : DStore)) hs) (hm.pick [0] (by decide))
       ·
        refine qtD 13 0 1 rfl (vf underlying32 rfl type26) ?_
        refine qtD 13 1 3 rfl (fun W hm => rv_fieldA (o := 1) underlying26 rfl type3 (by decide) rfl rfl) ?_
        refine qtD 13 2 7 rfl (vl 3 1 underlying3) ?_
        refine qtD 13 4 23 rfl (vf underlying32 rfl type26) ?_
        refine qtD 13 5 55 rfl (fun W hm => rv_fieldA (o := 2) underlying26 rfl type24 (by decide) rfl rfl) ?_
        refine qtD 13 6 119 rfl (vl 3 2 underlying24) ?_
        refine qtD 13 8 375 rfl (vf underlying81 rfl type3) ?_
        refine qtD 13 9 887 rfl (vl 0 1 underlying3) ?_
        refine qaD [3, 11] ?_
        refine qcD 13 895 rfl ?_ ?_
        ·
         refine WM_build0 (E := tInt) underlying24 type3 (Wd_none rfl) (by decide) (fun p200 => ?_)
         refine qnD (pk [1, 2, 3, 4, 5]) (pk [1, 2, 3, 4, 5]) ?_
         refine qaD [7, 11] ?_
         refine qcD 13 1023 rfl ?_ ?_
         ·
          refine apR tInt tInt 3 (.slice (some ⟨p200, 0, none⟩) 0 0) [] x1.Row.Values [iBox p26 81 K11, I31, iBox p19 81 [.slice none 0 0, .int .i64 0], iBox p18 32 K1, I32] (fun W hm => hm) (fun W hm => src_flat flat_int (hm.rdS0 r14)) underlying24 type3 (show (0 + x1.Row.Values.length) * 8 ≤ 140737488355328 from by omega) (fun v202 => ?_)
          refine WM_form (n := 0) rfl ?_
          rintro A203 c204 rfl m205
          refine qnD (pk [1, 2, 3, 4, 5]) (pk [1, 2, 3, 4, 5]) ?_
          refine qtD 13 10 2047 rfl (fun W hm => rv_build (cs := [.int .i64 x1.Row.Id, .slice A203 x1.Row.Values.length c204, .int .i64 (IntKind.i64.wrap (x0.Now + 1)), .int .i64 (-1)]) rfl (by kernel_rfl)) ?_
          refine qoD 13 11 4095 rfl ?_
          refine WM_alloc type121 rfl (Wd_none rfl) (by decide) (fun p207 => ?_)
          refine qnD (pk [2, 3, 4, 5, 6]) (pk [2, 3, 4, 5, 6]) ?_
          exact QD_sub sl8 (fun W hm => hm) (H (A203, c204, p207))
         refine qcD 13 2943 rfl ?_ ?_
         ·
          refine WM_alloc type121 rfl (Wd_none rfl) (by decide) (fun p208 => ?_)
          refine qnD (pk [2, 3, 4, 5, 6]) (pk [2, 3, 4, 5, 6]) ?_
          refine qoD 13 7 3071 rfl ?_
          refine apR tInt tInt 3 (.slice (some ⟨p200, 0, none⟩) 0 0) [] x1.Row.Values [iBox p208 121 [.int .i64 0, .slice none 0 0, .int .i64 0, .int .i64 0], iBox p26 81 K11, I31, iBox p19 81 [.slice none 0 0, .int .i64 0], iBox p18 32 K1, I32] (pk [1, 0, 2, 3, 4, 5, 6]) (fun W hm => src_flat flat_int (hm.rdS0 r14)) underlying24 type3 (show (0 + x1.Row.Values.length) * 8 ≤ 140737488355328 from by omega) (fun v209 => ?_)
          refine WM_form (n := 0) rfl ?_
          rintro A210 c211 rfl m212
          refine qnD (pk [2, 3, 4, 5, 6]) (pk [2, 3, 4, 5, 6]) ?_
          refine qtD 13 10 4095 rfl (fun W hm => rv_build (cs := [.int .i64 x1.Row.Id, .slice A210 x1.Row.Values.length c211, .int .i64 (IntKind.i64.wrap (x0.Now + 1)), .int .i64 (-1)]) rfl (by kernel_rfl)) ?_
          exact QD_sub sl8 (pk [1, 0, 2, 3, 4, 5, 6]) (H (A210, c211, p208))
         exact QDs_nil
        refine qcD 13 2935 rfl ?_ ?_
        ·
         refine WM_alloc type121 rfl (Wd_none rfl) (by decide) (fun p214 => ?_)
         refine qnD (pk [1, 2, 3, 4, 5]) (pk [1, 2, 3, 4, 5]) ?_
         refine qoD 13 3 2943 rfl ?_
         refine WM_build0 (E := tInt) underlying24 type3 (Wd_none rfl) (by decide) (fun p215 => ?_)
         refine qnD (pk [2, 3, 4, 5, 6]) (pk [2, 3, 4, 5, 6]) ?_
         refine qoD 13 7 3071 rfl ?_
         refine apR tInt tInt 3 (.slice (some ⟨p215, 0, none⟩) 0 0) [] x1.Row.Values [iBox p214 121 [.int .i64 0, .slice none 0 0, .int .i64 0, .int .i64 0], iBox p26 81 K11, I31, iBox p19 81 [.slice none 0 0, .int .i64 0], iBox p18 32 K1, I32] (fun W hm => hm) (fun W hm => src_flat flat_int (hm.rdS0 r14)) underlying24 type3 (show (0 + x1.Row.Values.length) * 8 ≤ 140737488355328 from by omega) (fun v217 => ?_)
         refine WM_form (n := 0) rfl ?_
         rintro A218 c219 rfl m220
         refine qnD (pk [2, 3, 4, 5, 6]) (pk [2, 3, 4, 5, 6]) ?_
         refine qtD 13 10 4095 rfl (fun W hm => rv_build (cs := [.int .i64 x1.Row.Id, .slice A218 x1.Row.Values.length c219, .int .i64 (IntKind.i64.wrap (x0.Now + 1)), .int .i64 (-1)]) rfl (by kernel_rfl)) ?_
         exact QD_sub sl8 (pk [1, 0, 2, 3, 4, 5, 6]) (H (A218, c219, p214))
        exact QDs_nil
  ·
   refine ws (nf g30) ?_
   refine ws (nf g30) ?_
   refine ws (nf g30) ?_
   refine wv (vpT (nf g30)) ?_
   refine nt' ?_
   refine CM_condT rfl rfl ?_
   refine sr ?_
   refine wv (fun W hm => rv_loadN (cs := [.slice A22 x0.Segments.length c23, .int .i64 x0.Now]) underlying81 type81 rfl rfl (hm.boxCells (n := 0) rfl)) ?_
   refine sb 0 [.slice A22 x0.Segments.length c23, .int .i64 x0.Now] [iBox p26 81 [.slice A22 x0.Segments.length c23, .int .i64 x0.Now], I31, iBox p18 32 K1, I32] (pk [2, 0, 1, 3, 4]) type81 ?_
   refine wa (nt' (CM_ret (QM_then_ret ?_)))
   have he222 := (show spec_ApplyUpdate_m x0 x1 = (x0, false) from cond_t g28 (cond_f g30 (rfl)))
   refine QM_r2 rfl (RR_cell (n := 0) rfl rfl underlying81 type81 rfl) (RR_tmp rfl) (fun W hm => ⟨[.slice A22 x0.Segments.length c23, .int .i64 x0.Now], ?_, ?_⟩)
   ·first | rw [he222] | rfl
    try rfl
   ·rw [he222]; exact Mem.join (is := [I31]) (js := []) (fun _ _ hs => tyStore_join (x := x0) hs) (hm.pick [2] (by decide))
 ·
  refine ws (nf g28) ?_
  refine ws (nf g28) ?_
  refine ws (nf g28) ?_
  refine wv (vpT (nf g28)) ?_
  refine wm ?_
  refine wk ?_
  refine wk ?_
  refine wk ?_
  refine wv (vpT rfl) ?_
  refine nt' ?_
  refine CM_condT rfl rfl ?_
  refine sr ?_
  refine wv (fun W hm => rv_loadN (cs := [.slice A22 x0.Segments.length c23, .int .i64 x0.Now]) underlying81 type81 rfl rfl (hm.boxCells (n := 0) rfl)) ?_
  refine sb 0 [.slice A22 x0.Segments.length c23, .int .i64 x0.Now] [iBox p26 81 [.slice A22 x0.Segments.length c23, .int .i64 x0.Now], I31, iBox p18 32 K1, I32] (pk [2, 0, 1, 3, 4]) type81 ?_
  refine wa (nt' (CM_ret (QM_then_ret ?_)))
  have he223 := (show spec_ApplyUpdate_m x0 x1 = (x0, false) from cond_f g28 (rfl))
  refine QM_r2 rfl (RR_cell (n := 0) rfl rfl underlying81 type81 rfl) (RR_tmp rfl) (fun W hm => ⟨[.slice A22 x0.Segments.length c23, .int .i64 x0.Now], ?_, ?_⟩)
  ·first | rw [he223] | rfl
   try rfl
  ·rw [he223]; exact Mem.join (is := [I31]) (js := []) (fun _ _ hs => tyStore_join (x := x0) hs) (hm.pick [2] (by decide))

def smP (n : Nat) (z : List DVersion) : Prop := z.length ≤ n ∧ ∀ v ∈ z, v.Values.length ≤ 3
theorem smP_set {n : Nat} {z : List DVersion} (h : smP n z) (k : Nat) {v : DVersion} (hv : v.Values.length ≤ 3) : smP n (z.set k v) :=
  ⟨by rw [List.length_set]; exact h.1, fun y hy => (List.mem_or_eq_of_mem_set hy).elim (h.2 y) (fun e => e ▸ hv)⟩
theorem smP_app {n : Nat} {z : List DVersion} (h : smP n z) {v : DVersion} (hv : v.Values.length ≤ 3) : smP (n + 1) (z ++ [v]) :=
  ⟨by simp only [List.length_append, List.length_cons, List.length_nil]; have := h.1; omega, fun y hy => (List.mem_append.1 hy).elim (h.2 y) (fun e => by rw [List.mem_singleton.1 e]; exact hv)⟩
theorem smP_gt {n : Nat} {s : List (List DVersion)} (h : ∀ z ∈ s, smP n z) (i : Nat) : smP n (gt s i) := by
  by_cases hi : i < s.length
  · exact h _ (gt_mem hi)
  · have : gt s i = [] := by unfold gt; rw [List.getD_eq_getElem?_getD, List.getElem?_eq_none (by omega)]; rfl
    rw [this]; exact ⟨Nat.zero_le _, fun v hv => by cases hv⟩
theorem smP_vals {n : Nat} {z : List DVersion} (h : smP n z) (k : Nat) : (gt z k).Values.length ≤ 3 := by
  by_cases hk : k < z.length
  · exact h.2 _ (gt_mem hk)
  · have : gt z k = default := by unfold gt; rw [List.getD_eq_getElem?_getD, List.getElem?_eq_none (by omega)]; rfl
    rw [this]; exact Nat.zero_le _
theorem smP_mono {n m : Nat} (h : n ≤ m) {z : List DVersion} (hz : smP n z) : smP m z := ⟨Nat.le_trans hz.1 h, hz.2⟩
theorem smP_sets {n : Nat} {s : List (List DVersion)} (h : ∀ z ∈ s, smP n z) (i : Nat) {y : List DVersion} (hy : smP n y) : ∀ z ∈ s.set i y, smP n z := fun z hz => (List.mem_or_eq_of_mem_set hz).elim (h z) (fun e => e ▸ hy)
theorem spec_ApplyUpdate_key (x : DStore) (u : DUpdate) : (spec_ApplyUpdate_m x u).1 = x ∨ ((spec_ApplyUpdate_m x u).1.Segments.length ≤ 8 ∧ ∀ z ∈ (spec_ApplyUpdate_m x u).1.Segments, smP 5 z) := by
  unfold spec_ApplyUpdate_m
  cases hs : spec_IsStore_m x with
  | false => exact .inl rfl
  | true =>
  cases hu : spec_IsUpdate_m u with
  | false => exact .inl rfl
  | true =>
    obtain ⟨⟨_, hl⟩, _, h4, hv⟩ := spec_Store_vers hs
    obtain ⟨_, _, u1, u2⟩ := spec_Update_fact hu
    have hp : ∀ z ∈ x.Segments, smP 4 z := fun z hz => ⟨h4 z hz, fun v hvz => by rw [spec_Version_len (hv z hz v hvz)]; omega⟩
    have hp5 : ∀ z ∈ x.Segments, smP 5 z := fun z hz => smP_mono (by omega) (hp z hz)
    have hr : u.Row.Values.length ≤ 3 := by by_cases k : u.Kind = 1 <;> omega
    have hv1 : smP 4 (spec_ApplyUpdate_v1 x u) := smP_set (smP_gt hp _) _ (smP_vals (smP_gt hp _) _)
    have hs1 := smP_sets hp (spec_l8Find_m x u.Row.Id).1.toNat hv1
    have hs5 := smP_sets hp5 (spec_l8Find_m x u.Row.Id).1.toNat (smP_mono (m := 5) (by omega) hv1)
    have hlv := smP_vals (smP_gt hp (spec_l8Find_m x u.Row.Id).1.toNat) (spec_l8Find_m x u.Row.Id).2.toNat
    cases decide (100000 ≤ x.Now) with
    | true => exact .inl rfl
    | false =>
    cases ((u.Kind == 1) != decide ((spec_l8Find_m x u.Row.Id).1 < 0)) with
    | true => exact .inl rfl
    | false =>
    cases (u.Kind != 2) with
    | false =>
      cases decide (0 ≤ (spec_l8Find_m x u.Row.Id).1) <;> cases (u.Kind == 3) <;> first | exact (.inr ⟨hl, hp5⟩) | exact (.inr ⟨by show (List.set _ _ _).length ≤ 8; rw [List.length_set]; exact hl, hs5⟩)
    | true =>
    cases decide (spec_l8Room_m x < 0) with
    | true => exact .inl rfl
    | false =>
      cases decide (0 ≤ (spec_l8Find_m x u.Row.Id).1) with
      | true =>
        cases (u.Kind == 3)
        · exact .inr ⟨(by first | (show (List.set (List.set _ _ _) _ _).length ≤ 8; simp only [List.length_set]; exact hl) | (show (List.set _ _ _).length ≤ 8; simp only [List.length_set]; exact hl)), (smP_sets hs5 _ (smP_app (smP_gt hs1 _) hlv))⟩
        · exact .inr ⟨(by first | (show (List.set (List.set _ _ _) _ _).length ≤ 8; simp only [List.length_set]; exact hl) | (show (List.set _ _ _).length ≤ 8; simp only [List.length_set]; exact hl)), (smP_sets hs5 _ (smP_app (smP_gt hs1 _) (by rw [List.length_set]; exact hlv)))⟩
      | false =>
        cases (u.Kind == 3)
        · exact .inr ⟨(by first | (show (List.set (List.set _ _ _) _ _).length ≤ 8; simp only [List.length_set]; exact hl) | (show (List.set _ _ _).length ≤ 8; simp only [List.length_set]; exact hl)), (smP_sets hp5 _ (smP_app (smP_gt hp _) hr))⟩
        · exact .inr ⟨(by first | (show (List.set (List.set _ _ _) _ _).length ≤ 8; simp only [List.length_set]; exact hl) | (show (List.set _ _ _).length ≤ 8; simp only [List.length_set]; exact hl)), (smP_sets hp5 _ (smP_app (smP_gt hp _) (by rw [List.length_set]; exact hr)))⟩
theorem rngb_invP {R S : Type} {b : Nat → S → R ⊕ (S ⊕ S)} {P : Nat → S → Prop} {Q : S → Prop} (h : ∀ k s, P k s → (∃ s', b k s = .inr (.inr s') ∧ P (k + 1) s') ∨ ∃ s', b k s = .inr (.inl s') ∧ Q s') : ∀ m k s, P k s → ∃ s', rngb b m k s = .inr s' ∧ (Q s' ∨ P (k + m) s')
  | 0, _, s, hp => ⟨s, rfl, .inr hp⟩
  | m + 1, k, s, hp => by
    rcases h k s hp with ⟨s', h1, h2⟩ | ⟨s', h1, h2⟩
    · obtain ⟨s'', h3, h4⟩ := rngb_invP (P := P) (Q := Q) h m (k + 1) s' h2
      exact ⟨s'', by rw [rngb, h1]; exact h3, by rw [show k + (m + 1) = k + 1 + m by omega]; exact h4⟩
    · exact ⟨s', by rw [rngb, h1]; rfl, .inl h2⟩
def rowsP (l : List DRow) : Prop := (∀ r ∈ l, 0 ≤ r.Id ∧ r.Id ≤ 999 ∧ r.Values.length = 3 ∧ ∀ v ∈ r.Values, 0 ≤ v ∧ v ≤ 99) ∧ ∀ j, j + 1 < l.length → (gt l j).Id < (gt l (j + 1)).Id
theorem gt_app_lt {α : Type} [Inhabited α] {l : List α} {x : α} {j : Nat} (h : j < l.length) : gt (l ++ [x]) j = gt l j := by
  unfold gt
  rw [List.getD_eq_getElem?_getD, List.getD_eq_getElem?_getD, List.getElem?_append_left h]
theorem gt_app_eq {α : Type} [Inhabited α] {l : List α} {x : α} {j : Nat} (h : j = l.length) : gt (l ++ [x]) j = x := by
  subst h
  unfold gt
  rw [List.getD_eq_getElem?_getD, List.getElem?_append_right (Nat.le_refl _), Nat.sub_self]
  rfl
theorem spec_l3Rows_fact (b : List Int) (D : Dl1Cur) (x1 : Int) (h0 : 0 ≤ x1) (h1 : x1 ≤ 100) : rowsP (spec_l3Rows_m b D x1).1 ∧ (((spec_l3Rows_m b D x1).1.length : Nat) : Int) ≤ x1 := by
  have hw2 := wrap_id (n := x1 + 1) (by omega) (by omega)
  unfold spec_l3Rows_m
  rw [hw2]
  have hb1 := spec_l1Below_rng b D 3
  have hb2 := spec_l1Below_rng b (spec_l1Below_m b D 3).2 (x1 + 1)
  have hn1 := hb1.2.1 (by omega)
  have hn2 := hb2.2.1 (by omega)
  generalize (spec_l1Below_m b D 3).1 = id0 at hb1 hn1
  generalize hG : spec_l1Below_m b (spec_l1Below_m b D 3).2 (x1 + 1) = G at hb2 hn2
  obtain ⟨s', h2, h3⟩ := rngb_invP (R := ((List DRow) × Dl1Cur)) (b := fun k (s : (List DRow) × Int × Int × Nat × Int) => spec_l3Rows_b1 b k s.1 s.2.1 s.2.2.1 s.2.2.2.1 s.2.2.2.2)
    (P := fun k s => rowsP s.1 ∧ s.1.length = k ∧ 0 ≤ s.2.2.1 ∧ s.2.2.1 + (k : Int) = G.1 ∧ 0 ≤ s.2.1 ∧ s.2.1 ≤ 2 + 3 * (k : Int) ∧ ∀ r ∈ s.1, r.Id < s.2.1)
    (Q := fun s => rowsP s.1 ∧ ((s.1.length : Nat) : Int) ≤ x1) (fun k s ⟨p1, p2, p3, p4, p5, p6, p7⟩ => by
      show (∃ s', spec_l3Rows_b1 b k s.1 s.2.1 s.2.2.1 s.2.2.2.1 s.2.2.2.2 = _ ∧ _) ∨ ∃ s', spec_l3Rows_b1 b k s.1 s.2.1 s.2.2.1 s.2.2.2.1 s.2.2.2.2 = _ ∧ _
      unfold spec_l3Rows_b1
      by_cases h : 0 < s.2.2.1
      · rw [decide_eq_true h, cond_true]
        have hr := spec_l3Row_fact b (⟨s.2.2.2.1, s.2.2.2.2⟩ : Dl1Cur) s.2.1
        have hb := spec_l1Below_rng b (spec_l3Row_m b (⟨s.2.2.2.1, s.2.2.2.2⟩ : Dl1Cur) s.2.1).2 3
        have hb' := hb.2.1 (by omega)
        have w1 := wrap_id (n := s.2.1 + 1) (by omega) (by omega)
        have w2 := wrap_id (n := s.2.1 + 1 + (spec_l1Below_m b (spec_l3Row_m b (⟨s.2.2.2.1, s.2.2.2.2⟩ : Dl1Cur) s.2.1).2 3).1) (by omega) (by omega)
        have w3 := wrap_id (n := s.2.2.1 - 1) (by omega) (by omega)
        refine .inl ⟨_, rfl, ⟨fun r hr2 => ?_, fun j hj => ?_⟩, ?_, ?_, ?_, ?_, ?_, fun r hr2 => ?_⟩
        · rcases List.mem_append.1 hr2 with hr2 | hr2
          · exact p1.1 r hr2
          · rw [List.mem_singleton.1 hr2]
            exact ⟨by rw [hr.1]; exact p5, by rw [hr.1]; omega, hr.2.1, hr.2.2⟩
        · have hj' : j + 1 < (s.1 ++ [(spec_l3Row_m b (⟨s.2.2.2.1, s.2.2.2.2⟩ : Dl1Cur) s.2.1).1]).length := hj
          rw [List.length_append] at hj'
          show (gt (s.1 ++ [(spec_l3Row_m b (⟨s.2.2.2.1, s.2.2.2.2⟩ : Dl1Cur) s.2.1).1]) j).Id < (gt (s.1 ++ [(spec_l3Row_m b (⟨s.2.2.2.1, s.2.2.2.2⟩ : Dl1Cur) s.2.1).1]) (j + 1)).Id
          have hlen : ([(spec_l3Row_m b (⟨s.2.2.2.1, s.2.2.2.2⟩ : Dl1Cur) s.2.1).1]).length = 1 := rfl
          by_cases hj2 : j + 1 < s.1.length
          · rw [gt_app_lt (by omega), gt_app_lt hj2]
            exact p1.2 j hj2
          · rw [gt_app_lt (by omega), gt_app_eq (by omega), hr.1]
            exact p7 _ (gt_mem (by omega))
        · show (s.1 ++ [_]).length = k + 1
          rw [List.length_append, p2]; rfl
        · show 0 ≤ IntKind.i64.wrap (s.2.2.1 - 1); omega
        · show IntKind.i64.wrap (s.2.2.1 - 1) + ((k + 1 : Nat) : Int) = G.1; omega
        · show 0 ≤ IntKind.i64.wrap (IntKind.i64.wrap (s.2.1 + 1) + _); rw [w1, w2]; omega
        · show IntKind.i64.wrap (IntKind.i64.wrap (s.2.1 + 1) + _) ≤ 2 + 3 * ((k + 1 : Nat) : Int); rw [w1, w2]; omega
        · show r.Id < IntKind.i64.wrap (IntKind.i64.wrap (s.2.1 + 1) + _)
          rw [w1, w2]
          rcases List.mem_append.1 hr2 with hr2 | hr2
          · have := p7 r hr2; omega
          · rw [List.mem_singleton.1 hr2, hr.1]; omega
      · rw [decide_eq_false h, cond_false]
        exact .inr ⟨s, rfl, p1, by omega⟩) (G.1.toNat + 1 - 0) 0 ([], id0, G.1, G.2.i, G.2.h) ⟨⟨fun r hr => (by cases hr), fun j hj => (by simp at hj)⟩, rfl, hb2.1, (by simp), hb1.1, (by simp; omega), fun r hr => (by cases hr)⟩
  rw [h2]
  rcases h3 with h3 | h3
  · exact h3
  · exfalso
    have h4 := h3.2.2.1
    have h5 := h3.2.2.2.1
    omega
theorem rowsP_are {l : List DRow} (h : rowsP l) (hl : l.length ≤ 32) : spec_AreRows_m l = true := by
  unfold spec_AreRows_m
  have hr : rng (R := Bool) (fun k (_ : Unit) => spec_AreRows_b1 l k) (l.length - 0) 0 () = .inr () := by
    have key : ∀ m k, m + k = l.length → rng (R := Bool) (fun k (_ : Unit) => spec_AreRows_b1 l k) m k () = .inr () := by
      intro m
      induction m with
      | zero => intro k _; rfl
      | succ m ih =>
        intro k hk
        have hb : spec_AreRows_b1 l k = .inr () := by
          unfold spec_AreRows_b1
          obtain ⟨a1, a2, a3, a4⟩ := h.1 _ (gt_mem (show k < l.length by omega))
          have hir : spec_IsRow_m (gt l k) = true := by
            unfold spec_IsRow_m
            rw [rng_all (b := fun k' (_ : Unit) => spec_IsRow_b1 (gt l k) k') (fun k' hk' => by
              show spec_IsRow_b1 (gt l k) k' = .inr ()
              unfold spec_IsRow_b1
              rw [spec_l1In_iff, decide_eq_true (a4 _ (gt_mem hk'))]
              rfl)]
            show cond (spec_l1In_m (gt l k).Id 0 999) (((gt l k).Values.length : Int) == 3) false = true
            rw [spec_l1In_iff, decide_eq_true (show 0 ≤ (gt l k).Id ∧ (gt l k).Id ≤ 999 from ⟨a1, a2⟩), a3]
            rfl
          rw [hir, cond_true]
          by_cases h0 : 0 < ((k : Nat) : Int)
          · rw [decide_eq_true h0, cond_true]
            have h2 := h.2 (k - 1) (by omega)
            rw [show k - 1 + 1 = k by omega] at h2
            rw [decide_eq_false (by omega), cond_false]
          · rw [decide_eq_false h0, cond_false]
        rw [rng, hb]
        exact ih (k + 1) (by omega)
    exact key _ _ (by omega)
  rw [hr]
  show decide (((l.length : Nat) : Int) ≤ 32) = true
  exact decide_eq_true (by omega)
theorem cond_smU {B : Nat} {b : Bool} {p q : DUpdate × Dl1Cur} (h1 : smUpdate B p.1) (h2 : smUpdate B q.1) : smUpdate B (cond b p q).1 := by cases b <;> assumption
theorem l3Row_sm (b : List Int) (D : Dl1Cur) (i : Int) : (spec_l3Row_m b D i).1.Values.length ≤ 68719476736 := by rw [(spec_l3Row_fact b D i).2.1]; decide
theorem spec_l8Update_sm (b : List Int) (D : Dl1Cur) (s : DStore) : smUpdate 68719476736 (spec_l8Update_m b D s).1 := by
  unfold spec_l8Update_m
  repeat' (first | exact l3Row_sm _ _ _ | exact Nat.zero_le _ | apply cond_smU)
theorem rowsP_sm {l : List DRow} (h : rowsP l) (hl : l.length ≤ 32) : l.length ≤ 68719476736 ∧ ∀ y ∈ l, smRow 68719476736 y := ⟨by omega, fun y hy => by show y.Values.length ≤ _; rw [(h.1 y hy).2.2.1]; omega⟩
def stD (n : Nat) (s : DStore) : Prop := n ≤ 40 ∧ 1 ≤ s.Segments.length ∧ s.Segments.length ≤ 8 ∧ ∀ z ∈ s.Segments, smP n z
theorem stD_sm {n : Nat} {s : DStore} (h : stD n s) : smStore 68719476736 s := ⟨by have := h.2.2.1; omega, fun z hz => ⟨by have := (h.2.2.2 z hz).1; have := h.1; omega, fun v hv => by have := (h.2.2.2 z hz).2 v hv; show v.Values.length ≤ _; omega⟩⟩
theorem stD_hq {n : Nat} {s : DStore} (h : stD n s) : (s.Segments.map List.length).sum ≤ 68719476736 := by
  have h1 := sum_le_mul (w := List.length) (c := 40) (xs := s.Segments) (fun j hj => Nat.le_trans (h.2.2.2 _ (gt_mem hj)).1 h.1)
  have := h.2.2.1
  omega
theorem cond_len {n : Nat} {b : Bool} {p q : DStore × Bool} (h1 : p.1.Segments.length = n) (h2 : q.1.Segments.length = n) : (cond b p q).1.Segments.length = n := by cases b <;> assumption
theorem spec_ApplyUpdate_len (x : DStore) (u : DUpdate) : (spec_ApplyUpdate_m x u).1.Segments.length = x.Segments.length := by
  unfold spec_ApplyUpdate_m
  repeat' (first | exact rfl | exact List.length_set | exact (List.length_set.trans List.length_set) | apply cond_len)
theorem spec_ApplyUpdate_stD {n : Nat} {x : DStore} (hn : 5 ≤ n) (h : stD n x) (u : DUpdate) : stD n (spec_ApplyUpdate_m x u).1 := by
  have hl := spec_ApplyUpdate_len x u
  rcases spec_ApplyUpdate_key x u with e | ⟨e1, e2⟩
  · rw [e]; exact h
  · exact ⟨h.1, by rw [hl]; exact h.2.1, e1, fun z hz => smP_mono (by omega) (e2 z hz)⟩
theorem spec_NewStore_stD {l : List DRow} {n : Int} (h : rowsP l) (hl : l.length ≤ 8) (h1 : 2 ≤ n) (h2 : n ≤ 8) : stD 20 (spec_NewStore_m l n).1 := by
  have w1 := wrap_id (n := n * 4) (by omega) (by omega)
  unfold spec_NewStore_m
  rw [rowsP_are h (by omega), cond_true, spec_l1In_iff, decide_eq_true (show 1 ≤ n ∧ n ≤ 8 by omega), cond_true, w1, decide_eq_false (show ¬ n * 4 < ((l.length : Nat) : Int) by omega), cond_false]
  obtain ⟨s', e1, e2, e3⟩ := rng_invP (R := (DStore × Bool)) (b := fun k (s : (List (List DVersion))) => spec_NewStore_b1 l n k s) (P := fun k s => s.length = k ∧ ∀ z ∈ s, smP 20 z) (fun k s hp => by
    show ∃ s', spec_NewStore_b1 l n k s = .inr s' ∧ _
    unfold spec_NewStore_b1
    obtain ⟨q, f1, f2⟩ := rngb_invP (R := (DStore × Bool)) (b := fun k' (s : (List DVersion) × Int) => spec_NewStore_b2 l n k' s.1 s.2) (P := fun _ s => (∀ v ∈ s.1, v.Values.length ≤ 3) ∧ 0 ≤ s.2 ∧ 2 * ((s.1.length : Nat) : Int) ≤ s.2 ∧ (s.1.length = 0 ∨ s.2 < 16)) (Q := fun s => smP 20 s.1) (fun k' s ⟨g1, g2, g3, g4⟩ => by
      show (∃ s', spec_NewStore_b2 l n k' s.1 s.2 = _ ∧ _) ∨ ∃ s', spec_NewStore_b2 l n k' s.1 s.2 = _ ∧ _
      unfold spec_NewStore_b2
      by_cases hc : s.2 < ((l.length : Nat) : Int)
      · rw [decide_eq_true hc, cond_true]
        have w2 := wrap_id (n := s.2 + n) (by omega) (by omega)
        refine .inl ⟨_, rfl, fun v hv => ?_, ?_, ?_, ?_⟩
        · rcases List.mem_append.1 hv with hv | hv
          · exact g1 v hv
          · rw [List.mem_singleton.1 hv]
            show (gt l s.2.toNat).Values.length ≤ 3
            rw [(h.1 _ (gt_mem (show s.2.toNat < l.length by omega))).2.2.1]
            exact Nat.le_refl _
        · show 0 ≤ IntKind.i64.wrap (s.2 + n); omega
        · show 2 * (((s.1 ++ [_]).length : Nat) : Int) ≤ IntKind.i64.wrap (s.2 + n)
          rw [List.length_append, w2]
          show 2 * (((s.1.length + 1 : Nat)) : Int) ≤ _
          omega
        · right; show IntKind.i64.wrap (s.2 + n) < 16; omega
      · rw [decide_eq_false hc, cond_false]
        exact .inr ⟨s, rfl, by omega, g1⟩) (l.length + 1 - 0) 0 ([], ((k : Nat) : Int)) ⟨fun v hv => (by cases hv), by simp, by simp, .inl rfl⟩
    rw [f1]
    refine ⟨_, rfl, by show (s ++ [q.1]).length = k + 1; rw [List.length_append, hp.1]; rfl, fun z hz => ?_⟩
    have hz' : z ∈ s ++ [q.1] := hz
    rcases List.mem_append.1 hz' with hz | hz
    · exact hp.2 z hz
    · rw [List.mem_singleton.1 hz]
      rcases f2 with f2 | f2
      · exact f2
      · exact ⟨by have := f2.2.2; omega, f2.1⟩) (n.toNat - 0) 0 [] ⟨rfl, fun z hz => by cases hz⟩
  rw [e1]
  exact ⟨by decide, by show 1 ≤ s'.length; omega, by show s'.length ≤ 8; omega, e3⟩
def spec_l7Store_b1 (x0b : List Int) (k23 : Nat) (s24 : Int) (s25 : Nat) (s26 : Int) (d28 : (List (List DVersion))) (s31 : Int) : (DStore × Dl1Cur) ⊕ ((Int × Nat × Int × (List (List DVersion)) × Int) ⊕ (Int × Nat × Int × (List (List DVersion)) × Int)) :=
 cond (decide (0 < s24)) (Sum.inr (Sum.inr ((IntKind.i64.wrap (s24 - 1)), (spec_l8Update_m x0b (⟨s25, s26⟩ : Dl1Cur) (⟨d28, s31⟩ : DStore)).2.i, (spec_l8Update_m x0b (⟨s25, s26⟩ : Dl1Cur) (⟨d28, s31⟩ : DStore)).2.h, ((spec_ApplyUpdate_m (⟨d28, s31⟩ : DStore) (spec_l8Update_m x0b (⟨s25, s26⟩ : Dl1Cur) (⟨d28, s31⟩ : DStore)).1).1).Segments, ((spec_ApplyUpdate_m (⟨d28, s31⟩ : DStore) (spec_l8Update_m x0b (⟨s25, s26⟩ : Dl1Cur) (⟨d28, s31⟩ : DStore)).1).1).Now))) (Sum.inr (Sum.inl (s24, s25, s26, d28, s31)))
def spec_l7Store_m (x0b : List Int) (x0 : Dl1Cur) : (DStore × Dl1Cur) :=
 Sum.elim id (fun (s : Int × Nat × Int × (List (List DVersion)) × Int) => ((⟨s.2.2.2.1, s.2.2.2.2⟩ : DStore), (⟨s.2.1, s.2.2.1⟩ : Dl1Cur))) (rngb (R := (DStore × Dl1Cur)) (fun k (s : Int × Nat × Int × (List (List DVersion)) × Int) => spec_l7Store_b1 x0b k s.1 s.2.1 s.2.2.1 s.2.2.2.1 s.2.2.2.2) ((((spec_l1Below_m x0b (spec_l1Below_m x0b ((spec_l3Rows_m x0b x0 7).2) 3).2 6).1)).toNat + 1 - 0) 0 ((spec_l1Below_m x0b (spec_l1Below_m x0b ((spec_l3Rows_m x0b x0 7).2) 3).2 6).1, ((spec_l1Below_m x0b (spec_l1Below_m x0b ((spec_l3Rows_m x0b x0 7).2) 3).2 6).2).i, ((spec_l1Below_m x0b (spec_l1Below_m x0b ((spec_l3Rows_m x0b x0 7).2) 3).2 6).2).h, ((spec_NewStore_m ((spec_l3Rows_m x0b x0 7).1) (IntKind.i64.wrap (2 + (spec_l1Below_m x0b ((spec_l3Rows_m x0b x0 7).2) 3).1))).1).Segments, ((spec_NewStore_m ((spec_l3Rows_m x0b x0 7).1) (IntKind.i64.wrap (2 + (spec_l1Below_m x0b ((spec_l3Rows_m x0b x0 7).2) 3).1))).1).Now))
theorem cb58 : Cb Tryz.prog 58 := ⟨f58, _, func58, rfl, by decide⟩
theorem spec_l7Store_c (B : Nat) (w0 : World) (is : List It) (w : World) (p : Nat) (z0 : Value) (x0b : List Int) (x0 : Dl1Cur) (r_0 : rdS tU8 w0 B z0 x0b) (s_0 : x0b.length ≤ 68719476736) (hm : Mem B w0 (iBox p 73 [z0, .int .i64 ((x0.i : Nat) : Int), .int .i64 x0.h] :: is) w) :
  Calls Tryz.prog 58 #[.pointer (some ⟨p, 0, none⟩)] w fun e w' => ∃ x : List Value, e = .returned (.agg x.toArray) ∧ Mem B w0 (iOwn tyStore x ((spec_l7Store_m x0b x0).1) :: iBox p 73 [z0, .int .i64 ((((spec_l7Store_m x0b x0).2).i : Nat) : Int), .int .i64 ((spec_l7Store_m x0b x0).2).h] :: is) w' := by
 obtain ⟨m1, A2, c3, rfl, q4, r5⟩ := rdS_op r_0
 refine call_enterW (L := [(0, .pointer (some ⟨p, 0, none⟩))]) (N := 33) func58 rfl rfl (Nat.le_of_ble_eq_true rfl) (argsL_cons rfl argsL_nil) hm ?_
 have l6 : x0b.length ≤ 68719476736 := s_0
 refine sr ?_
 refine WM_alloc type81 rfl (Wd_none rfl) (by decide) (fun p7 => ?_)
 refine nt' (sr (wm ?_))
 refine WM_callW (χ := Value) (val := fun x => x) (js := fun x => (iOwn (tSl tyRow 26) [x] ((spec_l3Rows_m x0b x0 7).1) :: iBox p 73 [.slice A2 x0b.length c3, .int .i64 ((((spec_l3Rows_m x0b x0 7).2).i : Nat) : Int), .int .i64 ((spec_l3Rows_m x0b x0 7).2).h] :: (iBox p7 81 [.slice none 0 0, .int .i64 0] :: is))) (cl_fn cb63 rfl) (fun W hm => spec_l3Rows_c B w0 (iBox p7 81 [.slice none 0 0, .int .i64 0] :: is) W p _ x0b x0 r5 7 s_0 (⟨by omega, by omega⟩) (hm.front (n := 1) rfl)) (Wd_none rfl) (by decide) (fun z8 => ?_)
 have hrw := spec_l3Rows_fact x0b x0 7 (by omega) (by omega)
 refine WM_form (n := 0) rfl ?_
 rintro A9 c10 rfl m11
 refine wm ?_
 let I9 : It := iOwn (tSl tyRow 26) [.slice A9 ((spec_l3Rows_m x0b x0 7).1).length c10] ((spec_l3Rows_m x0b x0 7).1)
 refine WM_callW (χ := Unit) (val := fun x => .int .i64 ((spec_l1Below_m x0b ((spec_l3Rows_m x0b x0 7).2) 3).1)) (js := fun x => (iBox p 73 [.slice A2 x0b.length c3, .int .i64 ((((spec_l1Below_m x0b ((spec_l3Rows_m x0b x0 7).2) 3).2).i : Nat) : Int), .int .i64 ((spec_l1Below_m x0b ((spec_l3Rows_m x0b x0 7).2) 3).2).h] :: (I9 :: iBox p7 81 [.slice none 0 0, .int .i64 0] :: is))) (cl_fn cb51 rfl) (fun W hm => spec_l1Below_c B w0 (I9 :: iBox p7 81 [.slice none 0 0, .int .i64 0] :: is) W p _ x0b ((spec_l3Rows_m x0b x0 7).2) r5 3 s_0 (hm.front (n := 1) rfl)) (Wd_none rfl) (by decide) (fun z13 => ?_)
 have hb := spec_l1Below_rng x0b ((spec_l3Rows_m x0b x0 7).2) 3
 obtain ⟨G14, hG14⟩ : ∃ G, G = (spec_l1Below_m x0b ((spec_l3Rows_m x0b x0 7).2) 3) := ⟨_, rfl⟩
 rw [← hG14]
 rw [← hG14] at hb
 refine wv vadd ?_
 refine WM_call (χ := List Value) (val := fun x => .tuple #[.agg x.toArray, .bool ((spec_NewStore_m ((spec_l3Rows_m x0b x0 7).1) (IntKind.i64.wrap (2 + G14.1))).2)]) (js := fun x => [iOwn tyStore x ((spec_NewStore_m ((spec_l3Rows_m x0b x0 7).1) (IntKind.i64.wrap (2 + G14.1))).1)]) (cl_fn cb78 rfl) (fun W hm => spec_NewStore_c W _ ((spec_l3Rows_m x0b x0 7).1) (IntKind.i64.wrap (2 + G14.1)) (hm.rdSI (n := 1) rfl) (rowsP_sm hrw.1 (by omega))) (Wd_none rfl) (by decide) (fun z15 => ?_)
 have hw5 := wrap_id (n := 2 + G14.1) (by omega) (by omega)
 have hst0 := spec_NewStore_stD (n := IntKind.i64.wrap (2 + G14.1)) hrw.1 (by omega) (by omega) (by omega)
 refine tyStore_sp ?_
 rintro v16 rfl
 refine WM_form (n := 0) rfl ?_
 rintro A17 c18 rfl m19
 refine wm ?_
 refine wv (fun W hm => rv_extract rfl rfl) ?_
 refine wv (fun W hm => rv_extract rfl rfl) ?_
 refine WM_alloc type81 rfl (Wd_none rfl) (by decide) (fun p21 => ?_)
 let K3 : List Value := [.slice A17 (((spec_NewStore_m ((spec_l3Rows_m x0b x0 7).1) (IntKind.i64.wrap (2 + G14.1))).1).Segments).length c18, .int .i64 (((spec_NewStore_m ((spec_l3Rows_m x0b x0 7).1) (IntKind.i64.wrap (2 + G14.1))).1).Now)]
 refine WM_storeBox (p := p21) (o := 0) (cs' := K3) (fun w hm => hm.front (n := 0) rfl) type81 rfl (Nat.le_of_ble_eq_true rfl) rfl rfl rfl rfl (Wd_none rfl) ?_
 refine wa (nt' (CM_seq (sr (wm ?_))))
 let K4 : List Value := [.slice A17 (((spec_NewStore_m ((spec_l3Rows_m x0b x0 7).1) (IntKind.i64.wrap (2 + G14.1))).1).Segments).length c18]
 let I10 : It := iOwn (tSl (tSl tyVersion 121) 119) K4 (((spec_NewStore_m ((spec_l3Rows_m x0b x0 7).1) (IntKind.i64.wrap (2 + G14.1))).1).Segments)
 refine WM_callW (χ := Unit) (val := fun x => .int .i64 ((spec_l1Below_m x0b G14.2 6).1)) (js := fun x => (iBox p 73 [.slice A2 x0b.length c3, .int .i64 ((((spec_l1Below_m x0b G14.2 6).2).i : Nat) : Int), .int .i64 ((spec_l1Below_m x0b G14.2 6).2).h] :: (iBox p21 81 K3 :: I10 :: I9 :: iBox p7 81 [.slice none 0 0, .int .i64 0] :: is))) (cl_fn cb51 rfl) (fun W hm => spec_l1Below_c B w0 (iBox p21 81 K3 :: I10 :: I9 :: iBox p7 81 [.slice none 0 0, .int .i64 0] :: is) W p _ x0b G14.2 r5 6 s_0 (hm.front (n := 2) rfl)) (Wd_none rfl) (by decide) (fun z22 => ?_)
 have hb := spec_l1Below_rng x0b G14.2 6
 refine wa (nt' ?_)
 let F1 := fun k (s : Int × Nat × Int × (List (List DVersion)) × Int) => spec_l7Store_b1 x0b k s.1 s.2.1 s.2.2.1 s.2.2.2.1 s.2.2.2.2
 let R2 := rngb (R := (DStore × Dl1Cur)) F1
 refine CM_cut (σ := (Int × Nat × Int × (List (List DVersion)) × Int) × (Option Addr × Nat)) (fun s => [(2, .pointer (some (⟨p7, 0, none⟩ : Addr))), (3, .pointer (some (⟨p21, 0, none⟩ : Addr)))]) (fun s => (iBox p 73 [.slice A2 x0b.length c3, .int .i64 ((s.1.2.1 : Nat) : Int), .int .i64 s.1.2.2.1] :: iBox p21 81 [.slice s.2.1 s.1.2.2.2.1.length s.2.2, .int .i64 s.1.2.2.2.2] :: iOwn (tSl (tSl tyVersion 121) 119) [.slice s.2.1 s.1.2.2.2.1.length s.2.2] s.1.2.2.2.1 :: I9 :: iBox p7 81 [.slice none 0 0, .int .i64 0] :: is)) (fun s => R2 ((((spec_l1Below_m x0b G14.2 6).1)).toNat + 1 - 0) 0 ((spec_l1Below_m x0b G14.2 6).1, ((spec_l1Below_m x0b G14.2 6).2).i, ((spec_l1Below_m x0b G14.2 6).2).h, ((spec_NewStore_m ((spec_l3Rows_m x0b x0 7).1) (IntKind.i64.wrap (2 + G14.1))).1).Segments, ((spec_NewStore_m ((spec_l3Rows_m x0b x0 7).1) (IntKind.i64.wrap (2 + G14.1))).1).Now) = Sum.inr s.1) ?_ ?_
 ·
  refine CM_block ?_
  refine CM_loop (σ := Nat × (Int × Nat × Int × (List (List DVersion)) × Int) × (Option Addr × Nat)) (fun s => [(0, .pointer (some (⟨p, 0, none⟩ : Addr))), (2, .pointer (some (⟨p7, 0, none⟩ : Addr))), (3, .pointer (some (⟨p21, 0, none⟩ : Addr))), (5, .int .i64 s.2.1.1)]) (fun s => (iBox p 73 [.slice A2 x0b.length c3, .int .i64 ((s.2.1.2.1 : Nat) : Int), .int .i64 s.2.1.2.2.1] :: iBox p21 81 [.slice s.2.2.1 s.2.1.2.2.2.1.length s.2.2.2, .int .i64 s.2.1.2.2.2.2] :: iOwn (tSl (tSl tyVersion 121) 119) [.slice s.2.2.1 s.2.1.2.2.2.1.length s.2.2.2] s.2.1.2.2.2.1 :: I9 :: iBox p7 81 [.slice none 0 0, .int .i64 0] :: is)) (fun s => s.1 + ((s.2.1.1).toNat) + 1 ≤ (((spec_l1Below_m x0b G14.2 6).1)).toNat + 1 ∧ R2 ((((spec_l1Below_m x0b G14.2 6).1)).toNat + 1 - s.1) s.1 s.2.1 = R2 ((((spec_l1Below_m x0b G14.2 6).1)).toNat + 1 - 0) 0 ((spec_l1Below_m x0b G14.2 6).1, ((spec_l1Below_m x0b G14.2 6).2).i, ((spec_l1Below_m x0b G14.2 6).2).h, ((spec_NewStore_m ((spec_l3Rows_m x0b x0 7).1) (IntKind.i64.wrap (2 + G14.1))).1).Segments, ((spec_NewStore_m ((spec_l3Rows_m x0b x0 7).1) (IntKind.i64.wrap (2 + G14.1))).1).Now) ∧ stD 20 (⟨s.2.1.2.2.2.1, s.2.1.2.2.2.2⟩ : DStore) ∧ 0 ≤ s.2.1.1 ∧ s.2.1.1 ≤ 6) (fun s => (((spec_l1Below_m x0b G14.2 6).1)).toNat + 1 - s.1) (0, ((spec_l1Below_m x0b G14.2 6).1, ((spec_l1Below_m x0b G14.2 6).2).i, ((spec_l1Below_m x0b G14.2 6).2).h, ((spec_NewStore_m ((spec_l3Rows_m x0b x0 7).1) (IntKind.i64.wrap (2 + G14.1))).1).Segments, ((spec_NewStore_m ((spec_l3Rows_m x0b x0 7).1) (IntKind.i64.wrap (2 + G14.1))).1).Now), (A17, c18)) sl4 (fun W hm => hm) ⟨(show 0 + ((((spec_l1Below_m x0b G14.2 6).1)).toNat) + 1 ≤ (((spec_l1Below_m x0b G14.2 6).1)).toNat + 1 from by omega), rfl, hst0, (show 0 ≤ ((spec_l1Below_m x0b G14.2 6).1) from by omega), (show ((spec_l1Below_m x0b G14.2 6).1) ≤ 6 from by omega)⟩ ?_
  rintro ⟨k23, ⟨s24, s25, s26, d28, s31⟩, ⟨A29, c30⟩⟩ H34
  obtain ⟨hk32, hF33, hi35, hi36, hi37⟩ : k23 + ((s24).toNat) + 1 ≤ (((spec_l1Below_m x0b G14.2 6).1)).toNat + 1 ∧ R2 ((((spec_l1Below_m x0b G14.2 6).1)).toNat + 1 - k23) k23 (s24, s25, s26, d28, s31) = R2 ((((spec_l1Below_m x0b G14.2 6).1)).toNat + 1 - 0) 0 ((spec_l1Below_m x0b G14.2 6).1, ((spec_l1Below_m x0b G14.2 6).2).i, ((spec_l1Below_m x0b G14.2 6).2).h, ((spec_NewStore_m ((spec_l3Rows_m x0b x0 7).1) (IntKind.i64.wrap (2 + G14.1))).1).Segments, ((spec_NewStore_m ((spec_l3Rows_m x0b x0 7).1) (IntKind.i64.wrap (2 + G14.1))).1).Now) ∧ stD 20 (⟨d28, s31⟩ : DStore) ∧ 0 ≤ s24 ∧ s24 ≤ 6 := H34
  let K5 : List Value := [.slice A2 x0b.length c3, .int .i64 ((s25 : Nat) : Int), .int .i64 s26]
  let I11 : It := iBox p21 81 [.slice A29 d28.length c30, .int .i64 s31]
  let I12 : It := iOwn (tSl (tSl tyVersion 121) 119) [.slice A29 d28.length c30] d28
  show CM Tryz.prog 33 _ _ _ _ [(0, .pointer (some (⟨p, 0, none⟩ : Addr))), (2, .pointer (some (⟨p7, 0, none⟩ : Addr))), (3, .pointer (some (⟨p21, 0, none⟩ : Addr))), (5, .int .i64 s24)] (iBox p 73 K5 :: I11 :: I12 :: I9 :: iBox p7 81 [.slice none 0 0, .int .i64 0] :: is)
  have HQ := stD_hq hi35
  have hsm := stD_sm hi35
  have hw1 := wrap_id (n := s24 - 1) (by omega) (by omega)
  refine CM_seq (sr (wm ?_))
  refine wv (fun W hm => rv_gtr rfl rfl) ?_
  refine nt' ?_
  by_cases h38 : 0 < s24
  ·have g39 := decide_eq_true h38
   refine CM_condT rfl g39 ?_
   refine CM_skip (QM_then (CM_seq (CM_block (CM_seq ?_))))
   obtain ⟨G40, hG40⟩ : ∃ G, G = (spec_l8Update_m x0b (⟨s25, s26⟩ : Dl1Cur) (⟨d28, s31⟩ : DStore)) := ⟨_, rfl⟩
   refine rd2 11 [9] (s := (I11 :: I9 :: iBox p7 81 [.slice none 0 0, .int .i64 0] :: is)) (s2 := (I11 :: I9 :: iBox p7 81 [.slice none 0 0, .int .i64 0] :: is)) (fun W hm => (((((hm.front (n := 4) rfl).front (n := 4) rfl).front (n := 3) rfl).front (n := 3) rfl).tail.front (n := 3) rfl).tail) (fun W hm => (((((hm.front (n := 4) rfl).front (n := 4) rfl).front (n := 3) rfl).front (n := 3) rfl).tail.front (n := 3) rfl).tail) ?_
   let K6 : List Value := [.slice A2 x0b.length c3, .int .i64 ((G40.2.i : Nat) : Int), .int .i64 G40.2.h]
   refine QD_mid (σ := Option Addr × Nat × Nat × Option Addr × Nat) (fun s => (I11 :: I9 :: iBox p7 81 [.slice none 0 0, .int .i64 0] :: is)) 11 511 2 (fun s => [(0, .pointer (some (⟨p, 0, none⟩ : Addr))), (2, .pointer (some (⟨p7, 0, none⟩ : Addr))), (3, .pointer (some (⟨p21, 0, none⟩ : Addr))), (5, .int .i64 s24), (29, .agg #[.slice s.1 (((spec_ApplyUpdate_m (⟨d28, s31⟩ : DStore) G40.1).1).Segments).length s.2.1, .int .i64 (((spec_ApplyUpdate_m (⟨d28, s31⟩ : DStore) G40.1).1).Now)]), (30, .bool (spec_ApplyUpdate_m (⟨d28, s31⟩ : DStore) G40.1).2), (6, .pointer (some (⟨s.2.2.1, 0, none⟩ : Addr)))]) (fun s => (iBox s.2.2.1 81 [.slice none 0 0, .int .i64 0] :: iOwn (tSl (tSl tyVersion 121) 119) [.slice s.1 (((spec_ApplyUpdate_m (⟨d28, s31⟩ : DStore) G40.1).1).Segments).length s.2.1] (((spec_ApplyUpdate_m (⟨d28, s31⟩ : DStore) G40.1).1).Segments) :: I12 :: iOwn (tSl tInt 3) [.slice s.2.2.2.1 G40.1.Row.Values.length s.2.2.2.2] G40.1.Row.Values :: iBox p 73 K6 :: I11 :: I9 :: iBox p7 81 [.slice none 0 0, .int .i64 0] :: is)) ?_ (fun H => ?_)
   ·
    rintro ⟨A51, c52, p55, A43, c44⟩
    show QD _ _ _ _ _ _ _ _ [(0, .pointer (some (⟨p, 0, none⟩ : Addr))), (2, .pointer (some (⟨p7, 0, none⟩ : Addr))), (3, .pointer (some (⟨p21, 0, none⟩ : Addr))), (5, .int .i64 s24), (29, .agg #[.slice A51 (((spec_ApplyUpdate_m (⟨d28, s31⟩ : DStore) G40.1).1).Segments).length c52, .int .i64 (((spec_ApplyUpdate_m (⟨d28, s31⟩ : DStore) G40.1).1).Now)]), (30, .bool (spec_ApplyUpdate_m (⟨d28, s31⟩ : DStore) G40.1).2), (6, .pointer (some (⟨p55, 0, none⟩ : Addr)))] _ (I11 :: I9 :: iBox p7 81 [.slice none 0 0, .int .i64 0] :: is) _ (iBox p55 81 [.slice none 0 0, .int .i64 0] :: iOwn (tSl (tSl tyVersion 121) 119) [.slice A51 (((spec_ApplyUpdate_m (⟨d28, s31⟩ : DStore) G40.1).1).Segments).length c52] (((spec_ApplyUpdate_m (⟨d28, s31⟩ : DStore) G40.1).1).Segments) :: I12 :: iOwn (tSl tInt 3) [.slice A43 G40.1.Row.Values.length c44] G40.1.Row.Values :: iBox p 73 K6 :: I11 :: I9 :: iBox p7 81 [.slice none 0 0, .int .i64 0] :: is)
    refine QD_len (n := 1) rfl ?_
    intro m56 m57
    refine QD_len (n := 3) rfl ?_
    intro m58 m59
    refine qoD 11 9 1023 rfl ?_
    let K7 : List Value := [.slice A51 (((spec_ApplyUpdate_m (⟨d28, s31⟩ : DStore) G40.1).1).Segments).length c52, .int .i64 (((spec_ApplyUpdate_m (⟨d28, s31⟩ : DStore) G40.1).1).Now)]
    refine WM_storeBox (p := p55) (o := 0) (cs' := K7) (fun w hm => hm.front (n := 0) rfl) type81 rfl (Nat.le_of_ble_eq_true rfl) rfl rfl rfl rfl (Wd_none rfl) ?_
    refine qxD (fun W hm => ((((((((hm.front (n := 7) rfl).front (n := 7) rfl).front (n := 7) rfl).front (n := 3) rfl).tail.front (n := 3) rfl).tail.front (n := 3) rfl).tail.front (n := 3) rfl).tail.front (n := 3) rfl).tail) ?_
    refine qt 11 10 2047 rfl (fun W hm => rv_assign rfl) ?_
    refine QB_done (by kernel_rfl) ?_
    refine QM_then (CM_region ?_)
    refine wv (fun W hm => rv_loadN (cs := K7) underlying81 type81 rfl rfl (hm.boxCells (n := 0) rfl)) ?_
    refine WM_storeBox (p := p21) (o := 0) (cs' := K7) (fun w hm => hm.front (n := 5) rfl) type81 rfl (Nat.le_of_ble_eq_true rfl) rfl rfl rfl rfl (Wd_none rfl) ?_
    refine WM_nil (QM_block_normal (QM_then (CM_region (wm ?_))))
    refine wv (fun W hm => rv_sub rfl rfl) ?_
    refine wa (WM_nil ?_)
    have hn60 := rngb_next (R := (DStore × Dl1Cur)) (body := F1) (k := k23) (s := (s24, s25, s26, d28, s31)) (s' := ((IntKind.i64.wrap (s24 - 1)), G40.2.i, G40.2.h, ((spec_ApplyUpdate_m (⟨d28, s31⟩ : DStore) G40.1).1).Segments, ((spec_ApplyUpdate_m (⟨d28, s31⟩ : DStore) G40.1).1).Now)) (show k23 < (((spec_l1Below_m x0b G14.2 6).1)).toNat + 1 from by omega) (by subst hG14 hG40; exact cond_t g39 (rfl)) hF33
    exact QM_round (k23 + 1, ((IntKind.i64.wrap (s24 - 1)), G40.2.i, G40.2.h, ((spec_ApplyUpdate_m (⟨d28, s31⟩ : DStore) G40.1).1).Segments, ((spec_ApplyUpdate_m (⟨d28, s31⟩ : DStore) G40.1).1).Now), (A51, c52)) sl4 (fun W hm => ((((((((hm.front (n := 7) rfl).front (n := 7) rfl).front (n := 4) rfl).front (n := 3) rfl).front (n := 7) rfl).front (n := 5) rfl).tail.front (n := 5) rfl).tail.front (n := 5) rfl).tail) ⟨(show (k23 + 1) + (((IntKind.i64.wrap (s24 - 1))).toNat) + 1 ≤ (((spec_l1Below_m x0b G14.2 6).1)).toNat + 1 from by omega), hn60, (show stD 20 (⟨(((spec_ApplyUpdate_m (⟨d28, s31⟩ : DStore) G40.1).1).Segments), (((spec_ApplyUpdate_m (⟨d28, s31⟩ : DStore) G40.1).1).Now)⟩ : DStore) from by exact spec_ApplyUpdate_stD (by omega) hi35 _), (show 0 ≤ (IntKind.i64.wrap (s24 - 1)) from by omega), (show (IntKind.i64.wrap (s24 - 1)) ≤ 6 from by omega)⟩ (show (((spec_l1Below_m x0b G14.2 6).1)).toNat + 1 - (k23 + 1) < (((spec_l1Below_m x0b G14.2 6).1)).toNat + 1 - k23 from by omega)
   ·
    refine qtD 11 0 1 rfl (fun W hm => rv_loadN (cs := [.slice A29 d28.length c30, .int .i64 s31]) underlying81 type81 rfl rfl (hm.boxCells (n := 0) rfl)) ?_
    refine qtD 11 1 3 rfl vmv ?_
    refine qtD 11 2 7 rfl (fun W hm => rv_loadN (cs := [.slice A29 d28.length c30, .int .i64 s31]) underlying81 type81 rfl rfl (hm.boxCells (n := 0) rfl)) ?_
    refine qaD [3, 8] ?_
    refine qcD 11 15 rfl ?_ ?_
    ·
     let I13 : It := iOwn tyStore [.slice A29 d28.length c30, .int .i64 s31] (⟨d28, s31⟩ : DStore)
     refine WM_items (js := (I13 :: (iBox p 73 K5 :: I11 :: I9 :: iBox p7 81 [.slice none 0 0, .int .i64 0] :: is))) (fun W hm => Mem.join (is := [I12]) (js := (iBox p 73 K5 :: I11 :: I9 :: iBox p7 81 [.slice none 0 0, .int .i64 0] :: is)) (fun _ _ hs => tyStore_join (x := (⟨d28, s31⟩ : DStore)) hs) (hm.front (n := 2) rfl)) ?_
     refine WM_callW (χ := List Value) (val := fun x => .agg x.toArray) (js := fun x => (iOwn tyUpdate x ((spec_l8Update_m x0b (⟨s25, s26⟩ : Dl1Cur) (⟨d28, s31⟩ : DStore)).1) :: iBox p 73 [.slice A2 x0b.length c3, .int .i64 ((((spec_l8Update_m x0b (⟨s25, s26⟩ : Dl1Cur) (⟨d28, s31⟩ : DStore)).2).i : Nat) : Int), .int .i64 ((spec_l8Update_m x0b (⟨s25, s26⟩ : Dl1Cur) (⟨d28, s31⟩ : DStore)).2).h] :: I13 :: (I11 :: I9 :: iBox p7 81 [.slice none 0 0, .int .i64 0] :: is))) (cl_fn cb80 rfl) (fun W hm => spec_l8Update_c B w0 (I11 :: I9 :: iBox p7 81 [.slice none 0 0, .int .i64 0] :: is) W p _ x0b (⟨s25, s26⟩ : Dl1Cur) r5 _ (⟨d28, s31⟩ : DStore) s_0 hsm (HQ) ((hm.front (n := 0) rfl).front (n := 1) rfl)) (Wd_none rfl) (by decide) (fun z61 => ?_)
     have hus := spec_l8Update_sm x0b (⟨s25, s26⟩ : Dl1Cur) (⟨d28, s31⟩ : DStore)
     rw [← hG40]
     rw [← hG40] at hus
     refine tyUpdate_sp ?_
     rintro v62 rfl
     refine WM_form (n := 0) rfl ?_
     rintro A63 c64 rfl m65
     refine WM_items (js := (I13 :: iOwn (tSl tInt 3) [.slice A63 G40.1.Row.Values.length c64] G40.1.Row.Values :: iBox p 73 K6 :: I11 :: I9 :: iBox p7 81 [.slice none 0 0, .int .i64 0] :: is)) (fun W hm => (hm.front (n := 2) rfl)) ?_
     refine tyStore_sp ?_
     rintro v68 h67
     simp +zetaDelta only [List.cons.injEq] at h67
     obtain ⟨rfl, -, -⟩ := h67
     refine qnD (fun W hm => ((((((hm.front (n := 5) rfl).front (n := 5) rfl).front (n := 5) rfl).front (n := 3) rfl).tail.front (n := 3) rfl).tail.front (n := 3) rfl).tail) (fun W hm => ((((((hm.front (n := 5) rfl).front (n := 5) rfl).front (n := 5) rfl).front (n := 3) rfl).tail.front (n := 3) rfl).tail.front (n := 3) rfl).tail) ?_
     refine qaD [4, 8] ?_
     refine qcD 11 31 rfl ?_ ?_
     ·
      refine WM_call (χ := List Value) (val := fun x => .tuple #[.agg x.toArray, .bool ((spec_ApplyUpdate_m (⟨d28, s31⟩ : DStore) G40.1).2)]) (js := fun x => [iOwn tyStore x ((spec_ApplyUpdate_m (⟨d28, s31⟩ : DStore) G40.1).1)]) (cl_fn cb79 rfl) (fun W hm => spec_ApplyUpdate_c W _ (⟨d28, s31⟩ : DStore) _ G40.1 (tyStore_mk (x := (⟨d28, s31⟩ : DStore)) (hm.rdSI (n := 0) rfl)) (tyUpdate_mk (x := G40.1) (hm.rdSI (n := 1) rfl)) hsm hus) (Wd_none rfl) (by decide) (fun z69 => ?_)
      refine tyStore_sp ?_
      rintro v70 rfl
      refine WM_form (n := 0) rfl ?_
      rintro A71 c72 rfl m73
      refine qnD (fun W hm => (((((((hm.front (n := 6) rfl).front (n := 6) rfl).front (n := 6) rfl).front (n := 3) rfl).tail.front (n := 3) rfl).tail.front (n := 3) rfl).tail.front (n := 3) rfl).tail) (fun W hm => (((((((hm.front (n := 6) rfl).front (n := 6) rfl).front (n := 6) rfl).front (n := 3) rfl).tail.front (n := 3) rfl).tail.front (n := 3) rfl).tail.front (n := 3) rfl).tail) ?_
      refine qtD 11 5 63 rfl vmv ?_
      refine qtD 11 6 127 rfl (fun W hm => rv_extract rfl rfl) ?_
      refine qtP 11 7 255 rfl (fun W => rv_extract rfl rfl) ?_
      refine qoD 11 8 511 rfl ?_
      refine WM_alloc type81 rfl (Wd_none rfl) (by decide) (fun p75 => ?_)
      refine qnD (fun W hm => ((((((((hm.front (n := 7) rfl).front (n := 7) rfl).front (n := 7) rfl).front (n := 3) rfl).tail.front (n := 3) rfl).tail.front (n := 3) rfl).tail.front (n := 3) rfl).tail.front (n := 3) rfl).tail) (fun W hm => ((((((((hm.front (n := 7) rfl).front (n := 7) rfl).front (n := 7) rfl).front (n := 3) rfl).tail.front (n := 3) rfl).tail.front (n := 3) rfl).tail.front (n := 3) rfl).tail.front (n := 3) rfl).tail) ?_
      exact QD_sub sl7 (fun W hm => hm) (H (A71, c72, p75, A63, c64))
     refine qcD 11 271 rfl ?_ ?_
     ·
      refine WM_alloc type81 rfl (Wd_none rfl) (by decide) (fun p76 => ?_)
      refine qnD (fun W hm => (((((((hm.front (n := 6) rfl).front (n := 6) rfl).front (n := 6) rfl).front (n := 3) rfl).tail.front (n := 3) rfl).tail.front (n := 3) rfl).tail.front (n := 3) rfl).tail) (fun W hm => (((((((hm.front (n := 6) rfl).front (n := 6) rfl).front (n := 6) rfl).front (n := 3) rfl).tail.front (n := 3) rfl).tail.front (n := 3) rfl).tail.front (n := 3) rfl).tail) ?_
      refine qoD 11 4 287 rfl ?_
      refine WM_call (χ := List Value) (val := fun x => .tuple #[.agg x.toArray, .bool ((spec_ApplyUpdate_m (⟨d28, s31⟩ : DStore) G40.1).2)]) (js := fun x => [iOwn tyStore x ((spec_ApplyUpdate_m (⟨d28, s31⟩ : DStore) G40.1).1)]) (cl_fn cb79 rfl) (fun W hm => spec_ApplyUpdate_c W _ (⟨d28, s31⟩ : DStore) _ G40.1 (tyStore_mk (x := (⟨d28, s31⟩ : DStore)) (hm.rdSI (n := 1) rfl)) (tyUpdate_mk (x := G40.1) (hm.rdSI (n := 2) rfl)) hsm hus) (Wd_none rfl) (by decide) (fun z77 => ?_)
      refine tyStore_sp ?_
      rintro v78 rfl
      refine WM_form (n := 0) rfl ?_
      rintro A79 c80 rfl m81
      refine qnD (fun W hm => ((((((((hm.front (n := 7) rfl).front (n := 7) rfl).front (n := 7) rfl).front (n := 3) rfl).tail.front (n := 3) rfl).tail.front (n := 3) rfl).tail.front (n := 3) rfl).tail.front (n := 3) rfl).tail) (fun W hm => ((((((((hm.front (n := 7) rfl).front (n := 7) rfl).front (n := 7) rfl).front (n := 3) rfl).tail.front (n := 3) rfl).tail.front (n := 3) rfl).tail.front (n := 3) rfl).tail.front (n := 3) rfl).tail) ?_
      refine qtD 11 5 319 rfl vmv ?_
      refine qtD 11 6 383 rfl (fun W hm => rv_extract rfl rfl) ?_
      refine qtP 11 7 511 rfl (fun W => rv_extract rfl rfl) ?_
      exact QD_sub sl7 (fun W hm => ((((((((hm.front (n := 7) rfl).front (n := 7) rfl).front (n := 7) rfl).front (n := 7) rfl).front (n := 7) rfl).front (n := 7) rfl).front (n := 6) rfl).front (n := 7) rfl)) (H (A79, c80, p76, A63, c64))
     exact QDs_nil
    refine qcD 11 263 rfl ?_ ?_
    ·
     refine WM_alloc type81 rfl (Wd_none rfl) (by decide) (fun p83 => ?_)
     refine qnD (fun W hm => ((((((hm.front (n := 5) rfl).front (n := 5) rfl).front (n := 4) rfl).front (n := 3) rfl).tail.front (n := 3) rfl).tail.front (n := 3) rfl).tail) (fun W hm => ((((((hm.front (n := 5) rfl).front (n := 5) rfl).front (n := 4) rfl).front (n := 3) rfl).tail.front (n := 3) rfl).tail.front (n := 3) rfl).tail) ?_
     refine qoD 11 3 271 rfl ?_
     let I14 : It := iOwn tyStore [.slice A29 d28.length c30, .int .i64 s31] (⟨d28, s31⟩ : DStore)
     refine WM_items (js := (I14 :: (iBox p83 81 [.slice none 0 0, .int .i64 0] :: iBox p 73 K5 :: I11 :: I9 :: iBox p7 81 [.slice none 0 0, .int .i64 0] :: is))) (fun W hm => Mem.join (is := [I12]) (js := (iBox p83 81 [.slice none 0 0, .int .i64 0] :: iBox p 73 K5 :: I11 :: I9 :: iBox p7 81 [.slice none 0 0, .int .i64 0] :: is)) (fun _ _ hs => tyStore_join (x := (⟨d28, s31⟩ : DStore)) hs) (hm.front (n := 3) rfl)) ?_
     refine WM_callW (χ := List Value) (val := fun x => .agg x.toArray) (js := fun x => (iOwn tyUpdate x ((spec_l8Update_m x0b (⟨s25, s26⟩ : Dl1Cur) (⟨d28, s31⟩ : DStore)).1) :: iBox p 73 [.slice A2 x0b.length c3, .int .i64 ((((spec_l8Update_m x0b (⟨s25, s26⟩ : Dl1Cur) (⟨d28, s31⟩ : DStore)).2).i : Nat) : Int), .int .i64 ((spec_l8Update_m x0b (⟨s25, s26⟩ : Dl1Cur) (⟨d28, s31⟩ : DStore)).2).h] :: I14 :: (iBox p83 81 [.slice none 0 0, .int .i64 0] :: I11 :: I9 :: iBox p7 81 [.slice none 0 0, .int .i64 0] :: is))) (cl_fn cb80 rfl) (fun W hm => spec_l8Update_c B w0 (iBox p83 81 [.slice none 0 0, .int .i64 0] :: I11 :: I9 :: iBox p7 81 [.slice none 0 0, .int .i64 0] :: is) W p _ x0b (⟨s25, s26⟩ : Dl1Cur) r5 _ (⟨d28, s31⟩ : DStore) s_0 hsm (HQ) ((hm.front (n := 0) rfl).front (n := 2) rfl)) (Wd_none rfl) (by decide) (fun z84 => ?_)
     have hus := spec_l8Update_sm x0b (⟨s25, s26⟩ : Dl1Cur) (⟨d28, s31⟩ : DStore)
     rw [← hG40]
     rw [← hG40] at hus
     refine tyUpdate_sp ?_
     rintro v85 rfl
     refine WM_form (n := 0) rfl ?_
     rintro A86 c87 rfl m88
     refine WM_items (js := (I14 :: iOwn (tSl tInt 3) [.slice A86 G40.1.Row.Values.length c87] G40.1.Row.Values :: iBox p 73 K6 :: iBox p83 81 [.slice none 0 0, .int .i64 0] :: I11 :: I9 :: iBox p7 81 [.slice none 0 0, .int .i64 0] :: is)) (fun W hm => (hm.front (n := 2) rfl)) ?_
     refine tyStore_sp ?_
     rintro v91 h90
     simp +zetaDelta only [List.cons.injEq] at h90
     obtain ⟨rfl, -, -⟩ := h90
     refine qnD (fun W hm => (((((((hm.front (n := 6) rfl).front (n := 6) rfl).front (n := 6) rfl).front (n := 3) rfl).tail.front (n := 3) rfl).tail.front (n := 3) rfl).tail.front (n := 3) rfl).tail) (fun W hm => (((((((hm.front (n := 6) rfl).front (n := 6) rfl).front (n := 6) rfl).front (n := 3) rfl).tail.front (n := 3) rfl).tail.front (n := 3) rfl).tail.front (n := 3) rfl).tail) ?_
     refine qoD 11 4 287 rfl ?_
     refine WM_call (χ := List Value) (val := fun x => .tuple #[.agg x.toArray, .bool ((spec_ApplyUpdate_m (⟨d28, s31⟩ : DStore) G40.1).2)]) (js := fun x => [iOwn tyStore x ((spec_ApplyUpdate_m (⟨d28, s31⟩ : DStore) G40.1).1)]) (cl_fn cb79 rfl) (fun W hm => spec_ApplyUpdate_c W _ (⟨d28, s31⟩ : DStore) _ G40.1 (tyStore_mk (x := (⟨d28, s31⟩ : DStore)) (hm.rdSI (n := 0) rfl)) (tyUpdate_mk (x := G40.1) (hm.rdSI (n := 1) rfl)) hsm hus) (Wd_none rfl) (by decide) (fun z92 => ?_)
     refine tyStore_sp ?_
     rintro v93 rfl
     refine WM_form (n := 0) rfl ?_
     rintro A94 c95 rfl m96
     refine qnD (fun W hm => ((((((((hm.front (n := 7) rfl).front (n := 7) rfl).front (n := 7) rfl).front (n := 3) rfl).tail.front (n := 3) rfl).tail.front (n := 3) rfl).tail.front (n := 3) rfl).tail.front (n := 3) rfl).tail) (fun W hm => ((((((((hm.front (n := 7) rfl).front (n := 7) rfl).front (n := 7) rfl).front (n := 3) rfl).tail.front (n := 3) rfl).tail.front (n := 3) rfl).tail.front (n := 3) rfl).tail.front (n := 3) rfl).tail) ?_
     refine qtD 11 5 319 rfl vmv ?_
     refine qtD 11 6 383 rfl (fun W hm => rv_extract rfl rfl) ?_
     refine qtP 11 7 511 rfl (fun W => rv_extract rfl rfl) ?_
     exact QD_sub sl7 (fun W hm => ((((((((hm.front (n := 7) rfl).front (n := 7) rfl).front (n := 7) rfl).front (n := 6) rfl).front (n := 6) rfl).front (n := 6) rfl).front (n := 6) rfl).front (n := 7) rfl)) (H (A94, c95, p83, A86, c87))
    exact QDs_nil
  ·have g39 := decide_eq_false h38
   refine CM_condF rfl g39 ?_
   refine CM_exit (QM_then_exit (QM_then_exit (QM_block_hit ?_)))
   have hE98 := rngb_brk (R := (DStore × Dl1Cur)) (body := F1) (k := k23) (s := (s24, s25, s26, d28, s31)) (s' := (s24, s25, s26, d28, s31)) (show k23 < (((spec_l1Below_m x0b G14.2 6).1)).toNat + 1 from by omega) (by subst hG14; exact cond_f g39 (rfl)) hF33
   exact QM_cut_normal ((s24, s25, s26, d28, s31), (A29, c30)) sl2 (fun W hm => hm) hE98
 ·
  rintro ⟨⟨s24, s25, s26, d28, s31⟩, ⟨A29, c30⟩⟩ H100
  have hE99 : R2 ((((spec_l1Below_m x0b G14.2 6).1)).toNat + 1 - 0) 0 ((spec_l1Below_m x0b G14.2 6).1, ((spec_l1Below_m x0b G14.2 6).2).i, ((spec_l1Below_m x0b G14.2 6).2).h, ((spec_NewStore_m ((spec_l3Rows_m x0b x0 7).1) (IntKind.i64.wrap (2 + G14.1))).1).Segments, ((spec_NewStore_m ((spec_l3Rows_m x0b x0 7).1) (IntKind.i64.wrap (2 + G14.1))).1).Now) = Sum.inr (s24, s25, s26, d28, s31) := H100
  let K8 : List Value := [.slice A2 x0b.length c3, .int .i64 ((s25 : Nat) : Int), .int .i64 s26]
  let I15 : It := iBox p21 81 [.slice A29 d28.length c30, .int .i64 s31]
  let I16 : It := iOwn (tSl (tSl tyVersion 121) 119) [.slice A29 d28.length c30] d28
  show QM 33 _ _ _ .normal [(2, .pointer (some (⟨p7, 0, none⟩ : Addr))), (3, .pointer (some (⟨p21, 0, none⟩ : Addr)))] (iBox p 73 K8 :: I15 :: I16 :: I9 :: iBox p7 81 [.slice none 0 0, .int .i64 0] :: is)
  refine QM_then (sr ?_)
  refine wv (fun W hm => rv_loadN (cs := [.slice A29 d28.length c30, .int .i64 s31]) underlying81 type81 rfl rfl (hm.boxCells (n := 1) rfl)) ?_
  refine WM_storeBox (p := p7) (o := 0) (cs' := [.slice A29 d28.length c30, .int .i64 s31]) (fun w hm => hm.front (n := 4) rfl) type81 rfl (Nat.le_of_ble_eq_true rfl) rfl rfl rfl rfl (Wd_none rfl) ?_
  refine nt' (CM_ret ?_)
  let I17 : It := iBox p7 81 [.slice A29 d28.length c30, .int .i64 s31]
  refine QM_items (js := (iOwn tyStore [.slice A29 d28.length c30, .int .i64 s31] (⟨d28, s31⟩ : DStore) :: (I17 :: iBox p 73 K8 :: I15 :: I9 :: is))) (fun W hm => Mem.join (is := [I16]) (js := (I17 :: iBox p 73 K8 :: I15 :: I9 :: is)) (fun _ _ hs => tyStore_join (x := (⟨d28, s31⟩ : DStore)) hs) (hm.front (n := 3) rfl)) ?_
  have he101 := (show spec_l7Store_m x0b x0 = ((⟨d28, s31⟩ : DStore), (⟨s25, s26⟩ : Dl1Cur)) from by subst hG14; exact fin_inr hE99 (rfl))
  refine QM_r1 rfl (RR_cell (n := 1) rfl rfl underlying81 type81 rfl) (fun W hm => ⟨[.slice A29 d28.length c30, .int .i64 s31], ?_, ?_⟩)
  ·first | rw [he101] | rfl
  ·rw [he101]; exact (((((hm.front (n := 2) rfl).front (n := 1) rfl).front (n := 2) rfl).tail.front (n := 2) rfl).tail.front (n := 2) rfl).tail

def spec_l8Any_m (x0b : List Int) (x0 : Dl1Cur) (x1 : DStore) : (DUpdate × Dl1Cur) :=
 cond ((spec_l1Below_m x0b ((spec_l8Update_m x0b x0 x1).2) 8).1 == 0) ((⟨(spec_l1Below_m x0b (spec_l1Below_m x0b ((spec_l8Update_m x0b x0 x1).2) 8).2 5).1, ((spec_l8Update_m x0b x0 x1).1).Row, ((spec_l8Update_m x0b x0 x1).1).Field, ((spec_l8Update_m x0b x0 x1).1).Value⟩ : DUpdate), ((spec_l1Below_m x0b (spec_l1Below_m x0b ((spec_l8Update_m x0b x0 x1).2) 8).2 5).2)) (cond ((spec_l1Below_m x0b ((spec_l8Update_m x0b x0 x1).2) 8).1 == 1) ((⟨((spec_l8Update_m x0b x0 x1).1).Kind, ((spec_l8Update_m x0b x0 x1).1).Row, ((spec_l8Update_m x0b x0 x1).1).Field, (spec_l1PickInt_m x0b (spec_l1Below_m x0b ((spec_l8Update_m x0b x0 x1).2) 8).2 [(-1), 0, 99, 100]).1⟩ : DUpdate), (spec_l1PickInt_m x0b (spec_l1Below_m x0b ((spec_l8Update_m x0b x0 x1).2) 8).2 [(-1), 0, 99, 100]).2) (cond ((spec_l1Below_m x0b ((spec_l8Update_m x0b x0 x1).2) 8).1 == 2) ((⟨((spec_l8Update_m x0b x0 x1).1).Kind, (⟨(spec_l1PickInt_m x0b (spec_l1Below_m x0b ((spec_l8Update_m x0b x0 x1).2) 8).2 [(-1), 999, 1000]).1, ((spec_l8Update_m x0b x0 x1).1).Row.Values⟩ : DRow), ((spec_l8Update_m x0b x0 x1).1).Field, ((spec_l8Update_m x0b x0 x1).1).Value⟩ : DUpdate), (spec_l1PickInt_m x0b (spec_l1Below_m x0b ((spec_l8Update_m x0b x0 x1).2) 8).2 [(-1), 999, 1000]).2) (((spec_l8Update_m x0b x0 x1).1), (spec_l1Below_m x0b ((spec_l8Update_m x0b x0 x1).2) 8).2)))
theorem cb59 : Cb Tryz.prog 59 := ⟨f59, _, func59, rfl, by decide⟩
theorem spec_l8Any_c (B : Nat) (w0 : World) (is : List It) (w : World) (p : Nat) (z0 : Value) (x0b : List Int) (x0 : Dl1Cur) (r_0 : rdS tU8 w0 B z0 x0b) (z1 : List Value) (x1 : DStore) (s_0 : x0b.length ≤ 68719476736) (s_1 : smStore 68719476736 x1) (HQ : (x1.Segments.map List.length).sum ≤ 68719476736) (hm : Mem B w0 (iBox p 73 [z0, .int .i64 ((x0.i : Nat) : Int), .int .i64 x0.h] :: iOwn tyStore z1 x1 :: is) w) :
  Calls Tryz.prog 59 #[.pointer (some ⟨p, 0, none⟩), .agg z1.toArray] w fun e w' => ∃ x : List Value, e = .returned (.agg x.toArray) ∧ Mem B w0 (iOwn tyUpdate x ((spec_l8Any_m x0b x0 x1).1) :: iBox p 73 [z0, .int .i64 ((((spec_l8Any_m x0b x0 x1).2).i : Nat) : Int), .int .i64 ((spec_l8Any_m x0b x0 x1).2).h] :: iOwn tyStore z1 x1 :: is) w' := by
 obtain ⟨m1, A2, c3, rfl, q4, r5⟩ := rdS_op r_0
 refine call_enterW (L := [(0, .pointer (some ⟨p, 0, none⟩)), (1, .agg z1.toArray)]) (N := 30) func59 rfl rfl (Nat.le_of_ble_eq_true rfl) (argsL_cons rfl (argsL_cons rfl argsL_nil)) hm ?_
 let K1 : List Value := [.slice A2 x0b.length c3, .int .i64 ((x0.i : Nat) : Int), .int .i64 x0.h]
 refine CM_items (js := (iOwn tyStore z1 x1 :: iBox p 73 K1 :: is)) (fun W hm => (hm.front (n := 1) rfl)) ?_
 refine CM_split (γ := Value) (js := fun g => [iOwn (tSl (tSl tyVersion 121) 119) [g] x1.Segments]) (C := fun g => z1 = [g, .int .i64 x1.Now]) (fun _ _ h => tyStore_split h) ?_
 rintro v6 rfl
 refine CM_form (n := 0) rfl ?_
 rintro A7 c8 rfl m9
 have l11 : x0b.length ≤ 68719476736 := s_0
 have l12 : x1.Segments.length ≤ 68719476736 := s_1.1
 refine sr ?_
 refine WM_box rfl (Wd_none rfl) (by decide) (fun p13 => ?_)
 refine WM_alloc type32 rfl (Wd_none rfl) (by decide) (fun p14 => ?_)
 refine nt' (sr (wm ?_))
 refine wv (fun W hm => rv_loadN (cs := [.slice A7 x1.Segments.length c8, .int .i64 x1.Now]) underlying81 type81 rfl rfl (hm.boxCells (n := 1) rfl)) ?_
 let K2 : List Value := [.int .i64 0, .int .i64 0, .slice none 0 0, .int .i64 0, .int .i64 0]
 let I12 : It := iOwn tyStore [.slice A7 x1.Segments.length c8, .int .i64 x1.Now] x1
 let I13 : It := iBox p13 81 [.slice A7 x1.Segments.length c8, .int .i64 x1.Now]
 let I14 : It := iOwn (tSl (tSl tyVersion 121) 119) [.slice A7 x1.Segments.length c8] x1.Segments
 refine WM_items (js := (I12 :: (iBox p14 32 K2 :: I13 :: iBox p 73 K1 :: is))) (fun W hm => Mem.join (is := [I14]) (js := (iBox p14 32 K2 :: I13 :: iBox p 73 K1 :: is)) (fun _ _ hs => tyStore_join (x := x1) hs) (hm.front (n := 2) rfl)) ?_
 refine WM_callW (χ := List Value) (val := fun x => .agg x.toArray) (js := fun x => (iOwn tyUpdate x ((spec_l8Update_m x0b x0 x1).1) :: iBox p 73 [.slice A2 x0b.length c3, .int .i64 ((((spec_l8Update_m x0b x0 x1).2).i : Nat) : Int), .int .i64 ((spec_l8Update_m x0b x0 x1).2).h] :: I12 :: (iBox p14 32 K2 :: I13 :: is))) (cl_fn cb80 rfl) (fun W hm => spec_l8Update_c B w0 (iBox p14 32 K2 :: I13 :: is) W p _ x0b x0 r5 _ x1 s_0 s_1 (HQ) ((hm.front (n := 0) rfl).front (n := 3) rfl)) (Wd_none rfl) (by decide) (fun z15 => ?_)
 refine tyUpdate_sp ?_
 rintro v16 rfl
 refine WM_form (n := 0) rfl ?_
 rintro A17 c18 rfl m19
 let K3 : List Value := [.slice A17 (((spec_l8Update_m x0b x0 x1).1).Row.Values).length c18]
 let I15 : It := iOwn (tSl tInt 3) K3 (((spec_l8Update_m x0b x0 x1).1).Row.Values)
 refine WM_items (js := (I12 :: I15 :: iBox p 73 [.slice A2 x0b.length c3, .int .i64 ((((spec_l8Update_m x0b x0 x1).2).i : Nat) : Int), .int .i64 (((spec_l8Update_m x0b x0 x1).2).h)] :: iBox p14 32 K2 :: I13 :: is)) (fun W hm => (hm.front (n := 2) rfl)) ?_
 refine tyStore_sp ?_
 rintro v22 h21
 simp +zetaDelta only [List.cons.injEq] at h21
 obtain ⟨rfl, -, -⟩ := h21
 refine WM_alloc type32 rfl (Wd_none rfl) (by decide) (fun p23 => ?_)
 let K4 : List Value := [.int .i64 (((spec_l8Update_m x0b x0 x1).1).Kind), .int .i64 (((spec_l8Update_m x0b x0 x1).1).Row.Id), .slice A17 (((spec_l8Update_m x0b x0 x1).1).Row.Values).length c18, .int .i64 (((spec_l8Update_m x0b x0 x1).1).Field), .int .i64 (((spec_l8Update_m x0b x0 x1).1).Value)]
 refine WM_storeBox (p := p23) (o := 0) (cs' := K4) (fun w hm => hm.front (n := 0) rfl) type32 rfl (Nat.le_of_ble_eq_true rfl) rfl rfl rfl rfl (Wd_none rfl) ?_
 refine nt' (CM_seq (sr (wm ?_)))
 refine WM_callW (χ := Unit) (val := fun x => .int .i64 ((spec_l1Below_m x0b ((spec_l8Update_m x0b x0 x1).2) 8).1)) (js := fun x => (iBox p 73 [.slice A2 x0b.length c3, .int .i64 ((((spec_l1Below_m x0b ((spec_l8Update_m x0b x0 x1).2) 8).2).i : Nat) : Int), .int .i64 ((spec_l1Below_m x0b ((spec_l8Update_m x0b x0 x1).2) 8).2).h] :: (iBox p23 32 K4 :: I14 :: I15 :: iBox p14 32 K2 :: I13 :: is))) (cl_fn cb51 rfl) (fun W hm => spec_l1Below_c B w0 (iBox p23 32 K4 :: I14 :: I15 :: iBox p14 32 K2 :: I13 :: is) W p _ x0b ((spec_l8Update_m x0b x0 x1).2) r5 8 s_0 (hm.front (n := 3) rfl)) (Wd_none rfl) (by decide) (fun z24 => ?_)
 have hb := spec_l1Below_rng x0b ((spec_l8Update_m x0b x0 x1).2) 8
 obtain ⟨G25, hG25⟩ : ∃ G, G = (spec_l1Below_m x0b ((spec_l8Update_m x0b x0 x1).2) 8) := ⟨_, rfl⟩
 rw [← hG25]
 rw [← hG25] at hb
 refine nt' (CM_block (sr ?_))
 refine wv (fun W hm => rv_eql rfl rfl) ?_
 refine wa (nt' ?_)
 by_cases h26 : G25.1 = 0
 ·have g27 := beq_iff_eq.2 h26
  refine CM_condT rfl g27 ?_
  refine CM_region (wm ?_)
  refine WM_callW (χ := Unit) (val := fun x => .int .i64 ((spec_l1Below_m x0b G25.2 5).1)) (js := fun x => (iBox p 73 [.slice A2 x0b.length c3, .int .i64 ((((spec_l1Below_m x0b G25.2 5).2).i : Nat) : Int), .int .i64 ((spec_l1Below_m x0b G25.2 5).2).h] :: (iBox p23 32 K4 :: I14 :: I15 :: iBox p14 32 K2 :: I13 :: is))) (cl_fn cb51 rfl) (fun W hm => spec_l1Below_c B w0 (iBox p23 32 K4 :: I14 :: I15 :: iBox p14 32 K2 :: I13 :: is) W p _ x0b G25.2 r5 5 s_0 (hm.front (n := 0) rfl)) (Wd_none rfl) (by decide) (fun z28 => ?_)
  have hb := spec_l1Below_rng x0b G25.2 5
  refine wv (vf underlying32 rfl type3) ?_
  let K5 : List Value := [.int .i64 ((spec_l1Below_m x0b G25.2 5).1), .int .i64 (((spec_l8Update_m x0b x0 x1).1).Row.Id), .slice A17 (((spec_l8Update_m x0b x0 x1).1).Row.Values).length c18, .int .i64 (((spec_l8Update_m x0b x0 x1).1).Field), .int .i64 (((spec_l8Update_m x0b x0 x1).1).Value)]
  refine WM_storeBox (p := p23) (o := 0) (cs' := K5) (fun w hm => hm.front (n := 1) rfl) type3 rfl (Nat.le_of_ble_eq_true rfl) rfl rfl rfl rfl (Wd_none rfl) ?_
  refine WM_nil (QM_block_normal (QM_then (sr ?_)))
  refine wv (fun W hm => rv_loadN (cs := K5) underlying32 type32 rfl rfl (hm.boxCells (n := 0) rfl)) ?_
  refine WM_storeBox (p := p14) (o := 0) (cs' := K5) (fun w hm => hm.front (n := 4) rfl) type32 rfl (Nat.le_of_ble_eq_true rfl) rfl rfl rfl rfl (Wd_none rfl) ?_
  refine nt' (CM_ret ?_)
  let K6 : List Value := [.slice A2 x0b.length c3, .int .i64 ((((spec_l1Below_m x0b G25.2 5).2).i : Nat) : Int), .int .i64 (((spec_l1Below_m x0b G25.2 5).2).h)]
  refine QM_items (js := (I12 :: (iBox p14 32 K5 :: iBox p23 32 K5 :: iBox p 73 K6 :: I15 :: I13 :: is))) (fun W hm => Mem.join (is := [I14]) (js := (iBox p14 32 K5 :: iBox p23 32 K5 :: iBox p 73 K6 :: I15 :: I13 :: is)) (fun _ _ hs => tyStore_join (x := x1) hs) (hm.front (n := 3) rfl)) ?_
  refine QM_items (js := (iOwn tyUpdate K5 (⟨(spec_l1Below_m x0b G25.2 5).1, ((spec_l8Update_m x0b x0 x1).1).Row, ((spec_l8Update_m x0b x0 x1).1).Field, ((spec_l8Update_m x0b x0 x1).1).Value⟩ : DUpdate) :: (I12 :: iBox p14 32 K5 :: iBox p23 32 K5 :: iBox p 73 K6 :: I13 :: is))) (fun W hm => Mem.join (is := [I15]) (js := (I12 :: iBox p14 32 K5 :: iBox p23 32 K5 :: iBox p 73 K6 :: I13 :: is)) (fun _ _ hs => tyUpdate_join (x := (⟨(spec_l1Below_m x0b G25.2 5).1, ((spec_l8Update_m x0b x0 x1).1).Row, ((spec_l8Update_m x0b x0 x1).1).Field, ((spec_l8Update_m x0b x0 x1).1).Value⟩ : DUpdate)) hs) (hm.front (n := 4) rfl)) ?_
  have he29 := (show spec_l8Any_m x0b x0 x1 = ((⟨(spec_l1Below_m x0b G25.2 5).1, ((spec_l8Update_m x0b x0 x1).1).Row, ((spec_l8Update_m x0b x0 x1).1).Field, ((spec_l8Update_m x0b x0 x1).1).Value⟩ : DUpdate), ((spec_l1Below_m x0b G25.2 5).2)) from by subst hG25; exact cond_t g27 (rfl))
  refine QM_r1 rfl (RR_cell (n := 2) rfl rfl underlying32 type32 rfl) (fun W hm => ⟨K5, ?_, ?_⟩)
  ·first | rw [he29] | rfl
  ·rw [he29]; exact ((((((hm.front (n := 1) rfl).front (n := 4) rfl).front (n := 2) rfl).front (n := 3) rfl).tail.front (n := 3) rfl).tail.front (n := 3) rfl).tail
 ·have g27 := beq_eq_false_iff_ne.2 h26
  refine CM_condF rfl g27 ?_
  refine sr ?_
  refine wv (fun W hm => rv_eql rfl rfl) ?_
  refine wa (nt' ?_)
  by_cases h30 : G25.1 = 1
  ·have g31 := beq_iff_eq.2 h30
   refine CM_condT rfl g31 ?_
   refine CM_region (wm ?_)
   refine WM_build (cs := [.int .i64 (-1), .int .i64 0, .int .i64 99, .int .i64 100]) underlying24 type3 rfl (by decide) (by decide) rfl (by kernel_rfl) (Wd_none rfl) (by decide) (fun p32 => ?_)
   refine WM_items (fun W hm => Mem.litOwn (E := tInt) (xs := [(-1), 0, 99, 100]) rfl (show 4 ≤ maxLen from by decide) (fun _ => (els_cons (E := tInt) (L1 := []) tInt_own (els_cons (E := tInt) (L1 := []) tInt_own (els_cons (E := tInt) (L1 := []) tInt_own (els_cons (E := tInt) (L1 := []) tInt_own els_nil))))) (hm.front (n := 0) rfl)) ?_
   let I16 : It := iOwn (tSl tInt 3) [.slice (some ⟨p32, 0, none⟩) 4 4] [(-1), 0, 99, 100]
   refine WM_callW (χ := Unit) (val := fun x => .int .i64 ((spec_l1PickInt_m x0b G25.2 [(-1), 0, 99, 100]).1)) (js := fun x => (iBox p 73 [.slice A2 x0b.length c3, .int .i64 ((((spec_l1PickInt_m x0b G25.2 [(-1), 0, 99, 100]).2).i : Nat) : Int), .int .i64 ((spec_l1PickInt_m x0b G25.2 [(-1), 0, 99, 100]).2).h] :: I16 :: (iBox p23 32 K4 :: I14 :: I15 :: iBox p14 32 K2 :: I13 :: is))) (cl_fn cb52 rfl) (fun W hm => spec_l1PickInt_c B w0 (iBox p23 32 K4 :: I14 :: I15 :: iBox p14 32 K2 :: I13 :: is) W p _ x0b G25.2 r5 _ [(-1), 0, 99, 100] s_0 (Nat.le_of_ble_eq_true rfl) (by first | decide | exact Nat.succ_pos _) ((hm.front (n := 0) rfl).front (n := 1) rfl)) (Wd_none rfl) (by decide) (fun z34 => ?_)
   obtain ⟨G35, hG35⟩ : ∃ G, G = (spec_l1PickInt_m x0b G25.2 [(-1), 0, 99, 100]) := ⟨_, rfl⟩
   rw [← hG35]
   refine wv (vf underlying32 rfl type3) ?_
   let K7 : List Value := [.int .i64 (((spec_l8Update_m x0b x0 x1).1).Kind), .int .i64 (((spec_l8Update_m x0b x0 x1).1).Row.Id), .slice A17 (((spec_l8Update_m x0b x0 x1).1).Row.Values).length c18, .int .i64 (((spec_l8Update_m x0b x0 x1).1).Field), .int .i64 G35.1]
   refine WM_storeBox (p := p23) (o := 4) (cs' := K7) (fun w hm => hm.front (n := 2) rfl) type3 rfl (Nat.le_of_ble_eq_true rfl) rfl rfl rfl rfl (Wd_none rfl) ?_
   refine WM_nil (QM_block_normal (QM_then (sr ?_)))
   refine wv (fun W hm => rv_loadN (cs := K7) underlying32 type32 rfl rfl (hm.boxCells (n := 0) rfl)) ?_
   refine WM_storeBox (p := p14) (o := 0) (cs' := K7) (fun w hm => hm.front (n := 5) rfl) type32 rfl (Nat.le_of_ble_eq_true rfl) rfl rfl rfl rfl (Wd_none rfl) ?_
   refine nt' (CM_ret ?_)
   let K8 : List Value := [.slice A2 x0b.length c3, .int .i64 ((G35.2.i : Nat) : Int), .int .i64 G35.2.h]
   refine QM_items (js := (I12 :: (iBox p14 32 K7 :: iBox p23 32 K7 :: iBox p 73 K8 :: I16 :: I15 :: I13 :: is))) (fun W hm => Mem.join (is := [I14]) (js := (iBox p14 32 K7 :: iBox p23 32 K7 :: iBox p 73 K8 :: I16 :: I15 :: I13 :: is)) (fun _ _ hs => tyStore_join (x := x1) hs) (hm.front (n := 4) rfl)) ?_
   refine QM_items (js := (iOwn tyUpdate K7 (⟨((spec_l8Update_m x0b x0 x1).1).Kind, ((spec_l8Update_m x0b x0 x1).1).Row, ((spec_l8Update_m x0b x0 x1).1).Field, G35.1⟩ : DUpdate) :: (I12 :: iBox p14 32 K7 :: iBox p23 32 K7 :: iBox p 73 K8 :: I16 :: I13 :: is))) (fun W hm => Mem.join (is := [I15]) (js := (I12 :: iBox p14 32 K7 :: iBox p23 32 K7 :: iBox p 73 K8 :: I16 :: I13 :: is)) (fun _ _ hs => tyUpdate_join (x := (⟨((spec_l8Update_m x0b x0 x1).1).Kind, ((spec_l8Update_m x0b x0 x1).1).Row, ((spec_l8Update_m x0b x0 x1).1).Field, G35.1⟩ : DUpdate)) hs) (hm.front (n := 5) rfl)) ?_
   have he36 := (show spec_l8Any_m x0b x0 x1 = ((⟨((spec_l8Update_m x0b x0 x1).1).Kind, ((spec_l8Update_m x0b x0 x1).1).Row, ((spec_l8Update_m x0b x0 x1).1).Field, G35.1⟩ : DUpdate), G35.2) from by subst hG25 hG35; exact cond_f g27 (cond_t g31 (rfl)))
   refine QM_r1 rfl (RR_cell (n := 2) rfl rfl underlying32 type32 rfl) (fun W hm => ⟨K7, ?_, ?_⟩)
   ·first | rw [he36] | rfl
   ·rw [he36]; exact (((((((hm.front (n := 1) rfl).front (n := 4) rfl).front (n := 2) rfl).front (n := 3) rfl).tail.front (n := 3) rfl).tail.front (n := 3) rfl).tail.front (n := 3) rfl).tail
  ·have g31 := beq_eq_false_iff_ne.2 h30
   refine CM_condF rfl g31 ?_
   refine sr ?_
   refine wv (fun W hm => rv_eql rfl rfl) ?_
   refine wa (nt' ?_)
   by_cases h37 : G25.1 = 2
   ·have g38 := beq_iff_eq.2 h37
    refine CM_condT rfl g38 ?_
    refine CM_region (wm ?_)
    refine WM_build (cs := [.int .i64 (-1), .int .i64 999, .int .i64 1000]) underlying24 type3 rfl (by decide) (by decide) rfl (by kernel_rfl) (Wd_none rfl) (by decide) (fun p39 => ?_)
    refine WM_items (fun W hm => Mem.litOwn (E := tInt) (xs := [(-1), 999, 1000]) rfl (show 3 ≤ maxLen from by decide) (fun _ => (els_cons (E := tInt) (L1 := []) tInt_own (els_cons (E := tInt) (L1 := []) tInt_own (els_cons (E := tInt) (L1 := []) tInt_own els_nil)))) (hm.front (n := 0) rfl)) ?_
    let I17 : It := iOwn (tSl tInt 3) [.slice (some ⟨p39, 0, none⟩) 3 3] [(-1), 999, 1000]
    refine WM_callW (χ := Unit) (val := fun x => .int .i64 ((spec_l1PickInt_m x0b G25.2 [(-1), 999, 1000]).1)) (js := fun x => (iBox p 73 [.slice A2 x0b.length c3, .int .i64 ((((spec_l1PickInt_m x0b G25.2 [(-1), 999, 1000]).2).i : Nat) : Int), .int .i64 ((spec_l1PickInt_m x0b G25.2 [(-1), 999, 1000]).2).h] :: I17 :: (iBox p23 32 K4 :: I14 :: I15 :: iBox p14 32 K2 :: I13 :: is))) (cl_fn cb52 rfl) (fun W hm => spec_l1PickInt_c B w0 (iBox p23 32 K4 :: I14 :: I15 :: iBox p14 32 K2 :: I13 :: is) W p _ x0b G25.2 r5 _ [(-1), 999, 1000] s_0 (Nat.le_of_ble_eq_true rfl) (by first | decide | exact Nat.succ_pos _) ((hm.front (n := 0) rfl).front (n := 1) rfl)) (Wd_none rfl) (by decide) (fun z41 => ?_)
    obtain ⟨G42, hG42⟩ : ∃ G, G = (spec_l1PickInt_m x0b G25.2 [(-1), 999, 1000]) := ⟨_, rfl⟩
    rw [← hG42]
    refine wv (vf underlying32 rfl type26) ?_
    refine wv (fun W hm => rv_fieldA (o := 1) underlying26 rfl type3 (by decide) rfl rfl) ?_
    let K9 : List Value := [.int .i64 (((spec_l8Update_m x0b x0 x1).1).Kind), .int .i64 G42.1, .slice A17 (((spec_l8Update_m x0b x0 x1).1).Row.Values).length c18, .int .i64 (((spec_l8Update_m x0b x0 x1).1).Field), .int .i64 (((spec_l8Update_m x0b x0 x1).1).Value)]
    refine WM_storeBox (p := p23) (o := 1) (cs' := K9) (fun w hm => hm.front (n := 2) rfl) type3 rfl (Nat.le_of_ble_eq_true rfl) rfl rfl rfl rfl (Wd_none rfl) ?_
    refine WM_nil (QM_block_normal (QM_then (sr ?_)))
    refine wv (fun W hm => rv_loadN (cs := K9) underlying32 type32 rfl rfl (hm.boxCells (n := 0) rfl)) ?_
    refine WM_storeBox (p := p14) (o := 0) (cs' := K9) (fun w hm => hm.front (n := 5) rfl) type32 rfl (Nat.le_of_ble_eq_true rfl) rfl rfl rfl rfl (Wd_none rfl) ?_
    refine nt' (CM_ret ?_)
    let K10 : List Value := [.slice A2 x0b.length c3, .int .i64 ((G42.2.i : Nat) : Int), .int .i64 G42.2.h]
    refine QM_items (js := (I12 :: (iBox p14 32 K9 :: iBox p23 32 K9 :: iBox p 73 K10 :: I17 :: I15 :: I13 :: is))) (fun W hm => Mem.join (is := [I14]) (js := (iBox p14 32 K9 :: iBox p23 32 K9 :: iBox p 73 K10 :: I17 :: I15 :: I13 :: is)) (fun _ _ hs => tyStore_join (x := x1) hs) (hm.front (n := 4) rfl)) ?_
    refine QM_items (js := (iOwn tyUpdate K9 (⟨((spec_l8Update_m x0b x0 x1).1).Kind, (⟨G42.1, ((spec_l8Update_m x0b x0 x1).1).Row.Values⟩ : DRow), ((spec_l8Update_m x0b x0 x1).1).Field, ((spec_l8Update_m x0b x0 x1).1).Value⟩ : DUpdate) :: (I12 :: iBox p14 32 K9 :: iBox p23 32 K9 :: iBox p 73 K10 :: I17 :: I13 :: is))) (fun W hm => Mem.join (is := [I15]) (js := (I12 :: iBox p14 32 K9 :: iBox p23 32 K9 :: iBox p 73 K10 :: I17 :: I13 :: is)) (fun _ _ hs => tyUpdate_join (x := (⟨((spec_l8Update_m x0b x0 x1).1).Kind, (⟨G42.1, ((spec_l8Update_m x0b x0 x1).1).Row.Values⟩ : DRow), ((spec_l8Update_m x0b x0 x1).1).Field, ((spec_l8Update_m x0b x0 x1).1).Value⟩ : DUpdate)) hs) (hm.front (n := 5) rfl)) ?_
    have he43 := (show spec_l8Any_m x0b x0 x1 = ((⟨((spec_l8Update_m x0b x0 x1).1).Kind, (⟨G42.1, ((spec_l8Update_m x0b x0 x1).1).Row.Values⟩ : DRow), ((spec_l8Update_m x0b x0 x1).1).Field, ((spec_l8Update_m x0b x0 x1).1).Value⟩ : DUpdate), G42.2) from by subst hG25 hG42; exact cond_f g27 (cond_f g31 (cond_t g38 (rfl))))
    refine QM_r1 rfl (RR_cell (n := 2) rfl rfl underlying32 type32 rfl) (fun W hm => ⟨K9, ?_, ?_⟩)
    ·first | rw [he43] | rfl
    ·rw [he43]; exact (((((((hm.front (n := 1) rfl).front (n := 4) rfl).front (n := 2) rfl).front (n := 3) rfl).tail.front (n := 3) rfl).tail.front (n := 3) rfl).tail.front (n := 3) rfl).tail
   ·have g38 := beq_eq_false_iff_ne.2 h37
    refine CM_condF rfl g38 ?_
    refine CM_skip (QM_block_normal (QM_then (sr ?_)))
    refine wv (fun W hm => rv_loadN (cs := K4) underlying32 type32 rfl rfl (hm.boxCells (n := 1) rfl)) ?_
    refine WM_storeBox (p := p14) (o := 0) (cs' := K4) (fun w hm => hm.front (n := 4) rfl) type32 rfl (Nat.le_of_ble_eq_true rfl) rfl rfl rfl rfl (Wd_none rfl) ?_
    refine nt' (CM_ret ?_)
    let K11 : List Value := [.slice A2 x0b.length c3, .int .i64 ((G25.2.i : Nat) : Int), .int .i64 G25.2.h]
    refine QM_items (js := (I12 :: (iBox p14 32 K4 :: iBox p 73 K11 :: iBox p23 32 K4 :: I15 :: I13 :: is))) (fun W hm => Mem.join (is := [I14]) (js := (iBox p14 32 K4 :: iBox p 73 K11 :: iBox p23 32 K4 :: I15 :: I13 :: is)) (fun _ _ hs => tyStore_join (x := x1) hs) (hm.front (n := 3) rfl)) ?_
    refine QM_items (js := (iOwn tyUpdate K4 ((spec_l8Update_m x0b x0 x1).1) :: (I12 :: iBox p14 32 K4 :: iBox p 73 K11 :: iBox p23 32 K4 :: I13 :: is))) (fun W hm => Mem.join (is := [I15]) (js := (I12 :: iBox p14 32 K4 :: iBox p 73 K11 :: iBox p23 32 K4 :: I13 :: is)) (fun _ _ hs => tyUpdate_join (x := ((spec_l8Update_m x0b x0 x1).1)) hs) (hm.front (n := 4) rfl)) ?_
    have he44 := (show spec_l8Any_m x0b x0 x1 = (((spec_l8Update_m x0b x0 x1).1), G25.2) from by subst hG25; exact cond_f g27 (cond_f g31 (cond_f g38 (rfl))))
    refine QM_r1 rfl (RR_cell (n := 2) rfl rfl underlying32 type32 rfl) (fun W hm => ⟨K4, ?_, ?_⟩)
    ·first | rw [he44] | rfl
    ·rw [he44]; exact ((((((hm.front (n := 1) rfl).front (n := 3) rfl).front (n := 2) rfl).front (n := 3) rfl).tail.front (n := 3) rfl).tail.front (n := 3) rfl).tail

theorem spec_l7Store_stD (b : List Int) (D : Dl1Cur) : stD 20 (spec_l7Store_m b D).1 := by
  unfold spec_l7Store_m
  have hrw := spec_l3Rows_fact b D 7 (by omega) (by omega)
  have hb := spec_l1Below_rng b (spec_l3Rows_m b D 7).2 3
  have hb' := hb.2.1 (by omega)
  have w5 := wrap_id (n := 2 + (spec_l1Below_m b (spec_l3Rows_m b D 7).2 3).1) (by omega) (by omega)
  have h0 := spec_NewStore_stD (n := IntKind.i64.wrap (2 + (spec_l1Below_m b (spec_l3Rows_m b D 7).2 3).1)) hrw.1 (by omega) (by omega) (by omega)
  have key : ∀ (m k : Nat) (s : Int × Nat × Int × (List (List DVersion)) × Int), stD 20 (⟨s.2.2.2.1, s.2.2.2.2⟩ : DStore) → stD 20 (Sum.elim id (fun (s : Int × Nat × Int × (List (List DVersion)) × Int) => ((⟨s.2.2.2.1, s.2.2.2.2⟩ : DStore), (⟨s.2.1, s.2.2.1⟩ : Dl1Cur))) (rngb (R := (DStore × Dl1Cur)) (fun k (s : Int × Nat × Int × (List (List DVersion)) × Int) => spec_l7Store_b1 b k s.1 s.2.1 s.2.2.1 s.2.2.2.1 s.2.2.2.2) m k s)).1 := fun m k s hs => by
    obtain ⟨s', e1, e2⟩ := rngb_invP (R := (DStore × Dl1Cur)) (b := fun k (s : Int × Nat × Int × (List (List DVersion)) × Int) => spec_l7Store_b1 b k s.1 s.2.1 s.2.2.1 s.2.2.2.1 s.2.2.2.2) (P := fun _ s => stD 20 (⟨s.2.2.2.1, s.2.2.2.2⟩ : DStore)) (Q := fun s => stD 20 (⟨s.2.2.2.1, s.2.2.2.2⟩ : DStore)) (fun k s hp => by
      show (∃ s', spec_l7Store_b1 b k s.1 s.2.1 s.2.2.1 s.2.2.2.1 s.2.2.2.2 = _ ∧ _) ∨ ∃ s', spec_l7Store_b1 b k s.1 s.2.1 s.2.2.1 s.2.2.2.1 s.2.2.2.2 = _ ∧ _
      unfold spec_l7Store_b1
      cases decide (0 < s.1) with
      | true => exact .inl ⟨_, rfl, spec_ApplyUpdate_stD (by omega) hp _⟩
      | false => exact .inr ⟨_, rfl, hp⟩) m k s hs
    rw [e1]
    exact e2.elim id id
  exact key _ _ _ h0
def spec_DrawIsUpdate_m (x0 : (List Int)) : DUpdate :=
 ((spec_l8Any_m x0 (spec_l7Store_m x0 (spec_l1New_m x0)).2 (spec_l7Store_m x0 (spec_l1New_m x0)).1).1)
theorem cb31 : Cb Tryz.prog 31 := ⟨f31, _, func31, rfl, by decide⟩
theorem spec_DrawIsUpdate_c (w : World) (z0 : Value) (x0 : (List Int)) (r_0 : rdS tU8 w w.heap.size z0 x0) (s_0 : x0.length ≤ 68719476736) :
  Calls Tryz.prog 31 #[z0] w fun e w' => ∃ v : List Value, e = .returned (.agg v.toArray) ∧ Mem w.heap.size w [iOwn tyUpdate v (spec_DrawIsUpdate_m x0)] w' := by
 obtain ⟨m1, A2, c3, rfl, q4, r5⟩ := rdS_op r_0
 have l6 : x0.length ≤ 68719476736 := s_0
 refine ce1 (L := [(0, .slice A2 x0.length c3)]) (N := 12) func31 ?_
 refine sr ?_
 refine WM_alloc type32 rfl (Wd_none rfl) (by decide) (fun p7 => ?_)
 refine nt' (sr (wm ?_))
 refine WM_call (χ := Nat) (val := fun p => .pointer (some ⟨p, 0, none⟩)) (js := fun p => [iBox p 73 [.slice A2 x0.length c3, .int .i64 (((spec_l1New_m x0).i : Nat) : Int), .int .i64 ((spec_l1New_m x0).h)]]) (cl_fn cb24 rfl) (fun W hm => spec_l1New_c W _ x0 (hm.rdS0 r5) s_0) (Wd_none rfl) (by decide) (fun p8 => ?_)
 refine wa (nt' (sr (wm ?_)))
 let K1 : List Value := [.int .i64 0, .int .i64 0, .slice none 0 0, .int .i64 0, .int .i64 0]
 refine WM_callW (χ := List Value) (val := fun x => .agg x.toArray) (js := fun x => (iOwn tyStore x ((spec_l7Store_m x0 (spec_l1New_m x0)).1) :: iBox p8 73 [.slice A2 x0.length c3, .int .i64 ((((spec_l7Store_m x0 (spec_l1New_m x0)).2).i : Nat) : Int), .int .i64 ((spec_l7Store_m x0 (spec_l1New_m x0)).2).h] :: [iBox p7 32 K1])) (cl_fn cb58 rfl) (fun W hm => spec_l7Store_c w.heap.size w [iBox p7 32 K1] W p8 _ x0 (spec_l1New_m x0) r5 s_0 hm) (Wd_none rfl) (by decide) (fun z9 => ?_)
 have hsd := spec_l7Store_stD x0 (spec_l1New_m x0)
 have HQ := stD_hq hsd
 have hsd2 := hsd.2.1
 obtain ⟨G10, hG10⟩ : ∃ G, G = (spec_l7Store_m x0 (spec_l1New_m x0)) := ⟨_, rfl⟩
 rw [← hG10]
 rw [← hG10] at hsd
 rw [← hG10] at HQ
 rw [← hG10] at hsd2
 refine tyStore_sp ?_
 rintro v11 rfl
 refine WM_form (n := 0) rfl ?_
 rintro A12 c13 rfl m14
 refine WM_alloc type81 rfl (Wd_none rfl) (by decide) (fun p16 => ?_)
 let K2 : List Value := [.slice A2 x0.length c3, .int .i64 ((G10.2.i : Nat) : Int), .int .i64 G10.2.h]
 let I6 : It := iOwn (tSl (tSl tyVersion 121) 119) [.slice A12 G10.1.Segments.length c13] G10.1.Segments
 refine sb 0 [.slice A12 G10.1.Segments.length c13, .int .i64 G10.1.Now] [I6, iBox p8 73 K2, iBox p7 32 K1] (fun W hm => hm) type81 ?_
 refine nt' (sr (wm ?_))
 refine wv (fun W hm => rv_loadN (cs := [.slice A12 G10.1.Segments.length c13, .int .i64 G10.1.Now]) underlying81 type81 rfl rfl (hm.boxCells (n := 0) rfl)) ?_
 let I7 : It := iOwn tyStore [.slice A12 G10.1.Segments.length c13, .int .i64 G10.1.Now] G10.1
 let I8 : It := iBox p16 81 [.slice A12 G10.1.Segments.length c13, .int .i64 G10.1.Now]
 refine WM_items (js := (I7 :: [I8, iBox p8 73 K2, iBox p7 32 K1])) (fun W hm => Mem.join (is := [I6]) (js := [I8, iBox p8 73 K2, iBox p7 32 K1]) (fun _ _ hs => tyStore_join (x := G10.1) hs) (hm.pick [1, 0, 2, 3] (by decide))) ?_
 refine WM_callW (χ := List Value) (val := fun x => .agg x.toArray) (js := fun x => (iOwn tyUpdate x ((spec_l8Any_m x0 G10.2 G10.1).1) :: iBox p8 73 [.slice A2 x0.length c3, .int .i64 ((((spec_l8Any_m x0 G10.2 G10.1).2).i : Nat) : Int), .int .i64 ((spec_l8Any_m x0 G10.2 G10.1).2).h] :: I7 :: [I8, iBox p7 32 K1])) (cl_fn cb59 rfl) (fun W hm => spec_l8Any_c w.heap.size w [I8, iBox p7 32 K1] W p8 _ x0 G10.2 r5 _ G10.1 s_0 (stD_sm hsd) (HQ) (hm.pick [2, 0, 1, 3] (by decide))) (Wd_none rfl) (by decide) (fun z17 => ?_)
 refine tyUpdate_sp ?_
 rintro v18 rfl
 refine WM_form (n := 0) rfl ?_
 rintro A19 c20 rfl m21
 let K3 : List Value := [.slice A19 (((spec_l8Any_m x0 G10.2 G10.1).1).Row.Values).length c20]
 let K4 : List Value := [.slice A2 x0.length c3, .int .i64 ((((spec_l8Any_m x0 G10.2 G10.1).2).i : Nat) : Int), .int .i64 (((spec_l8Any_m x0 G10.2 G10.1).2).h)]
 let I9 : It := iOwn (tSl tInt 3) K3 (((spec_l8Any_m x0 G10.2 G10.1).1).Row.Values)
 refine WM_items (js := [I7, I9, iBox p8 73 K4, I8, iBox p7 32 K1]) (pk [2, 0, 1, 3, 4]) ?_
 refine tyStore_sp ?_
 rintro v24 h23
 simp +zetaDelta only [List.cons.injEq] at h23
 obtain ⟨rfl, -, -⟩ := h23
 let K5 : List Value := [.int .i64 (((spec_l8Any_m x0 G10.2 G10.1).1).Kind), .int .i64 (((spec_l8Any_m x0 G10.2 G10.1).1).Row.Id), .slice A19 (((spec_l8Any_m x0 G10.2 G10.1).1).Row.Values).length c20, .int .i64 (((spec_l8Any_m x0 G10.2 G10.1).1).Field), .int .i64 (((spec_l8Any_m x0 G10.2 G10.1).1).Value)]
 refine sb 0 K5 [I6, I9, iBox p8 73 K4, I8] (pk [4, 0, 1, 2, 3]) type32 ?_
 refine nt' (CM_ret ?_)
 have he25 := (show spec_DrawIsUpdate_m x0 = ((spec_l8Any_m x0 G10.2 G10.1).1) from by subst hG10; exact rfl)
 refine QM_r1 rfl (RR_cell (n := 0) rfl rfl underlying32 type32 rfl) (fun W hm => ⟨K5, ?_, ?_⟩)
 ·first | rw [he25] | rfl
 ·rw [he25]; exact Mem.join (is := [I9]) (js := []) (fun _ _ hs => tyUpdate_join (x := ((spec_l8Any_m x0 G10.2 G10.1).1)) hs) (hm.pick [2] (by decide))

def spec_DrawFormatUpdate_m (x0 : (List Int)) : DUpdate :=
 (spec_DrawIsUpdate_m x0)
theorem cb8 : Cb Tryz.prog 8 := ⟨f8, _, func8, rfl, by decide⟩
theorem spec_DrawFormatUpdate_c (w : World) (z0 : Value) (x0 : (List Int)) (r_0 : rdS tU8 w w.heap.size z0 x0) (s_0 : x0.length ≤ 68719476736) :
  Calls Tryz.prog 8 #[z0] w fun e w' => ∃ v : List Value, e = .returned (.agg v.toArray) ∧ Mem w.heap.size w [iOwn tyUpdate v (spec_DrawFormatUpdate_m x0)] w' := by
 obtain ⟨m1, A2, c3, rfl, q4, r5⟩ := rdS_op r_0
 have l6 : x0.length ≤ 68719476736 := s_0
 refine ce1 (L := [(0, .slice A2 x0.length c3)]) (N := 5) func8 ?_
 refine sr ?_
 refine WM_alloc type32 rfl (Wd_none rfl) (by decide) (fun p7 => ?_)
 refine nt' (sr (wm ?_))
 refine wcs tyUpdate (spec_DrawIsUpdate_m x0) (cl_fn cb31 rfl) (fun W hm => spec_DrawIsUpdate_c W _ x0 (hm.rdS0 r5) s_0) (fun z8 => ?_)
 refine tyUpdate_sp ?_
 rintro v9 rfl
 refine WM_form (n := 0) rfl ?_
 rintro A10 c11 rfl m12
 let K1 : List Value := [.int .i64 ((spec_DrawIsUpdate_m x0).Kind), .int .i64 ((spec_DrawIsUpdate_m x0).Row.Id), .slice A10 ((spec_DrawIsUpdate_m x0).Row.Values).length c11, .int .i64 ((spec_DrawIsUpdate_m x0).Field), .int .i64 ((spec_DrawIsUpdate_m x0).Value)]
 let K2 : List Value := [.slice A10 ((spec_DrawIsUpdate_m x0).Row.Values).length c11]
 let I3 : It := iOwn (tSl tInt 3) K2 ((spec_DrawIsUpdate_m x0).Row.Values)
 refine sb 0 K1 [I3] (pk [1, 0]) type32 ?_
 refine nt' (CM_ret ?_)
 have he14 := (show spec_DrawFormatUpdate_m x0 = (spec_DrawIsUpdate_m x0) from rfl)
 refine QM_r1 rfl (RR_cell (n := 0) rfl rfl underlying32 type32 rfl) (fun W hm => ⟨K1, ?_, ?_⟩)
 ·first | rw [he14] | rfl
 ·rw [he14]; exact Mem.join (is := [I3]) (js := []) (fun _ _ hs => tyUpdate_join (x := (spec_DrawIsUpdate_m x0)) hs) (hm.pick [1] (by decide))

def impl_isField_m (x0 : Int) : Bool :=
 (impl_within_m x0 0 2)
theorem cb60 : Cb Tryz.prog 60 := ⟨f60, _, func60, rfl, by decide⟩
theorem impl_isField_c (w : World) (x0 : Int) :
  Calls Tryz.prog 60 #[.int .i64 x0] w fun e w' => e = .returned (.bool (impl_isField_m x0)) ∧ Below w.heap.size w w' := by
 refine ce1 (L := [(0, .int .i64 x0)]) (N := 5) func60 ?_
 refine sr (wa (nt' (sr (wm ?_))))
 refine wcv (cl_fn cb53 rfl) (fun W hm => impl_within_c W x0 0 2) ?_
 refine wa (nt' (CM_ret ?_))
 exact rtb (h := rfl)

def impl_IsUpdate_m (x0 : DUpdate) : Bool :=
 cond (impl_within_m x0.Row.Id 0 999) (cond (x0.Kind == 1) (cond (impl_IsRow_m x0.Row) (cond (x0.Field == 0) (x0.Value == 0) false) false) (cond (x0.Kind == 2) (cond (((x0.Row.Values.length : Nat) : Int) == 0) (cond (x0.Field == 0) (x0.Value == 0) false) false) (cond (x0.Kind == 3) (cond (((x0.Row.Values.length : Nat) : Int) == 0) (cond (impl_isField_m x0.Field) (impl_within_m x0.Value 0 99) false) false) false))) (cond (x0.Kind == 1) (cond (impl_IsRow_m x0.Row) (cond (x0.Field == 0) (x0.Value == 0) false) false) (cond (x0.Kind == 2) false (cond (x0.Kind == 3) false false)))
theorem cb32 : Cb Tryz.prog 32 := ⟨f32, _, func32, rfl, by decide⟩
theorem impl_IsUpdate_c (w : World) (z0 : List Value) (x0 : DUpdate) (r_0 : tyUpdate.rd w w.heap.size z0 x0) :
  Calls Tryz.prog 32 #[.agg z0.toArray] w fun e w' => e = .returned (.bool (impl_IsUpdate_m x0)) ∧ Below w.heap.size w w' := by
 obtain ⟨v1, rfl, r2⟩ := tyUpdate_rd r_0
 obtain ⟨m3, A4, c5, rfl, q6, r7⟩ := rdS_op r2
 refine ce1 (L := [(0, .agg #[.int .i64 x0.Kind, .int .i64 x0.Row.Id, .slice A4 x0.Row.Values.length c5, .int .i64 x0.Field, .int .i64 x0.Value])]) (N := 58) func32 ?_
 refine sr ?_
 refine WM_box rfl (Wd_none rfl) (by decide) (fun p8 => ?_)
 refine wa (nt' (sr ?_))
 refine wv (vf underlying32 rfl type26) ?_
 refine wv (fun W hm => rv_fieldA (o := 1) underlying26 rfl type3 (by decide) rfl rfl) ?_
 refine wv (vl 0 1 underlying3) ?_
 refine wcv (cl_fn cb53 rfl) (fun W hm => impl_within_c W x0.Row.Id 0 999) ?_
 refine wm ?_
 rcases Bool.eq_false_or_eq_true (impl_within_m x0.Row.Id 0 999) with g10 | g10
 ·
  have hw := impl_within_fact g10
  refine wg (vf underlying32 rfl type26) g10 ?_
  refine wg (fun W hm => rv_fieldA (o := 2) underlying26 rfl type24 (by decide) rfl rfl) g10 ?_
  refine wg (vl 0 2 underlying24) g10 ?_
  refine wg (vlen underlying24) g10 ?_
  refine wg (fun W hm => rv_eql rfl rfl) g10 ?_
  refine wv (vpT g10) ?_
  refine wa (nt' (CM_seq (sr ?_)))
  refine wv (vf underlying32 rfl type3) ?_
  refine wv (vl 0 0 underlying3) ?_
  refine nt' (CM_block (sr ?_))
  refine wv (fun W hm => rv_eql rfl rfl) ?_
  refine wa (nt' ?_)
  by_cases h11 : x0.Kind = 1
  ·have g12 := beq_iff_eq.2 h11
   refine CM_condT rfl g12 ?_
   refine sr ?_
   refine wv (vf underlying32 rfl type26) ?_
   refine wv (fun W hm => rv_loadN (cs := [.int .i64 x0.Row.Id, .slice A4 x0.Row.Values.length c5]) underlying26 type26 rfl rfl (hm.boxPart (n := 0) rfl rfl)) ?_
   refine wcv (cl_fn cb25 rfl) (fun W hm => impl_IsRow_c W _ x0.Row (tyRow_mk (x := x0.Row) (hm.rdS0 r7))) ?_
   refine wm ?_
   rcases Bool.eq_false_or_eq_true (impl_IsRow_m x0.Row) with g14 | g14
   ·
    refine wg (vf underlying32 rfl type3) g14 ?_
    refine wg (vl 0 3 underlying3) g14 ?_
    refine wg (fun W hm => rv_eql rfl rfl) g14 ?_
    refine wv (vpT g14) ?_
    refine wm ?_
    by_cases h15 : x0.Field = 0
    ·have g16 := beq_iff_eq.2 h15
     refine wg (vf underlying32 rfl type3) g16 ?_
     refine wg (vl 0 4 underlying3) g16 ?_
     refine wg (fun W hm => rv_eql rfl rfl) g16 ?_
     refine wv (vpT g16) ?_
     refine wa (nt' (CM_ret (QM_block_ret (QM_then_ret ?_))))
     exact rtb (h := cond_t g10 (cond_t g12 (cond_t g14 (cond_t g16 (rfl)))))
    ·have g16 := beq_eq_false_iff_ne.2 h15
     refine ws g16 ?_
     refine ws g16 ?_
     refine ws g16 ?_
     refine wv (vpF g16) ?_
     refine wa (nt' (CM_ret (QM_block_ret (QM_then_ret ?_))))
     exact rtb (h := cond_t g10 (cond_t g12 (cond_t g14 (cond_f g16 (rfl)))))
   ·
    refine ws g14 ?_
    refine ws g14 ?_
    refine ws g14 ?_
    refine wv (vpF g14) ?_
    refine wm ?_
    refine wk ?_
    refine wk ?_
    refine wk ?_
    refine wv (vpF rfl) ?_
    refine wa (nt' (CM_ret (QM_block_ret (QM_then_ret ?_))))
    exact rtb (h := cond_t g10 (cond_t g12 (cond_f g14 (rfl))))
  ·have g12 := beq_eq_false_iff_ne.2 h11
   refine CM_condF rfl g12 ?_
   refine sr ?_
   refine wv (fun W hm => rv_eql rfl rfl) ?_
   refine wa (nt' ?_)
   by_cases h17 : x0.Kind = 2
   ·have g18 := beq_iff_eq.2 h17
    refine CM_condT rfl g18 ?_
    refine sr (wm (wm ?_))
    by_cases h19 : ((x0.Row.Values.length : Nat) : Int) = 0
    ·have g20 := beq_iff_eq.2 h19
     refine wg (vf underlying32 rfl type3) g20 ?_
     refine wg (vl 0 3 underlying3) g20 ?_
     refine wg (fun W hm => rv_eql rfl rfl) g20 ?_
     refine wv (vpT g20) ?_
     refine wm ?_
     by_cases h21 : x0.Field = 0
     ·have g22 := beq_iff_eq.2 h21
      refine wg (vf underlying32 rfl type3) g22 ?_
      refine wg (vl 0 4 underlying3) g22 ?_
      refine wg (fun W hm => rv_eql rfl rfl) g22 ?_
      refine wv (vpT g22) ?_
      refine wa (nt' (CM_ret (QM_block_ret (QM_then_ret ?_))))
      exact rtb (h := cond_t g10 (cond_f g12 (cond_t g18 (cond_t g20 (cond_t g22 (rfl))))))
     ·have g22 := beq_eq_false_iff_ne.2 h21
      refine ws g22 ?_
      refine ws g22 ?_
      refine ws g22 ?_
      refine wv (vpF g22) ?_
      refine wa (nt' (CM_ret (QM_block_ret (QM_then_ret ?_))))
      exact rtb (h := cond_t g10 (cond_f g12 (cond_t g18 (cond_t g20 (cond_f g22 (rfl))))))
    ·have g20 := beq_eq_false_iff_ne.2 h19
     refine ws g20 ?_
     refine ws g20 ?_
     refine ws g20 ?_
     refine wv (vpF g20) ?_
     refine wm ?_
     refine wk ?_
     refine wk ?_
     refine wk ?_
     refine wv (vpF rfl) ?_
     refine wa (nt' (CM_ret (QM_block_ret (QM_then_ret ?_))))
     exact rtb (h := cond_t g10 (cond_f g12 (cond_t g18 (cond_f g20 (rfl)))))
   ·have g18 := beq_eq_false_iff_ne.2 h17
    refine CM_condF rfl g18 ?_
    refine sr ?_
    refine wv (fun W hm => rv_eql rfl rfl) ?_
    refine wa (nt' ?_)
    by_cases h23 : x0.Kind = 3
    ·have g24 := beq_iff_eq.2 h23
     refine CM_condT rfl g24 ?_
     refine sr (wm (wm ?_))
     by_cases h25 : ((x0.Row.Values.length : Nat) : Int) = 0
     ·have g26 := beq_iff_eq.2 h25
      refine wg (vf underlying32 rfl type3) g26 ?_
      refine wg (vl 0 3 underlying3) g26 ?_
      refine WM_callV (cl_fn cb60 rfl) (fun W hm => impl_isField_c W x0.Field) (Wd_some rfl rfl rfl (bw g26 rfl)) (by decide) ?_
      refine wv (vpT g26) ?_
      refine wm ?_
      rcases Bool.eq_false_or_eq_true (impl_isField_m x0.Field) with g28 | g28
      ·
       refine wg (vf underlying32 rfl type3) g28 ?_
       refine wg (vl 0 4 underlying3) g28 ?_
       refine WM_callV (cl_fn cb53 rfl) (fun W hm => impl_within_c W x0.Value 0 99) (Wd_some rfl rfl rfl (bw g28 rfl)) (by decide) ?_
       refine wv (vpT g28) ?_
       refine wa (nt' (CM_ret (QM_block_ret (QM_then_ret ?_))))
       exact rtb (h := cond_t g10 (cond_f g12 (cond_f g18 (cond_t g24 (cond_t g26 (cond_t g28 (rfl)))))))
      ·
       refine ws g28 ?_
       refine ws g28 ?_
       refine ws g28 ?_
       refine wv (vpF g28) ?_
       refine wa (nt' (CM_ret (QM_block_ret (QM_then_ret ?_))))
       exact rtb (h := cond_t g10 (cond_f g12 (cond_f g18 (cond_t g24 (cond_t g26 (cond_f g28 (rfl)))))))
     ·have g26 := beq_eq_false_iff_ne.2 h25
      refine ws g26 ?_
      refine ws g26 ?_
      refine ws g26 ?_
      refine wv (vpF g26) ?_
      refine wm ?_
      refine wk ?_
      refine wk ?_
      refine wk ?_
      refine wv (vpF rfl) ?_
      refine wa (nt' (CM_ret (QM_block_ret (QM_then_ret ?_))))
      exact rtb (h := cond_t g10 (cond_f g12 (cond_f g18 (cond_t g24 (cond_f g26 (rfl))))))
    ·have g24 := beq_eq_false_iff_ne.2 h23
     refine CM_condF rfl g24 ?_
     refine CM_skip (QM_block_normal (QM_then (sr (wa (nt' (CM_ret ?_))))))
     exact rtb (h := cond_t g10 (cond_f g12 (cond_f g18 (cond_f g24 (rfl)))))
 ·
  refine ws g10 ?_
  refine ws g10 ?_
  refine ws g10 ?_
  refine ws g10 ?_
  refine ws g10 ?_
  refine wv (vpF g10) ?_
  refine wa (nt' (CM_seq (sr ?_)))
  refine wv (vf underlying32 rfl type3) ?_
  refine wv (vl 0 0 underlying3) ?_
  refine nt' (CM_block (sr ?_))
  refine wv (fun W hm => rv_eql rfl rfl) ?_
  refine wa (nt' ?_)
  by_cases h29 : x0.Kind = 1
  ·have g30 := beq_iff_eq.2 h29
   refine CM_condT rfl g30 ?_
   refine sr ?_
   refine wv (vf underlying32 rfl type26) ?_
   refine wv (fun W hm => rv_loadN (cs := [.int .i64 x0.Row.Id, .slice A4 x0.Row.Values.length c5]) underlying26 type26 rfl rfl (hm.boxPart (n := 0) rfl rfl)) ?_
   refine wcv (cl_fn cb25 rfl) (fun W hm => impl_IsRow_c W _ x0.Row (tyRow_mk (x := x0.Row) (hm.rdS0 r7))) ?_
   refine wm ?_
   rcases Bool.eq_false_or_eq_true (impl_IsRow_m x0.Row) with g32 | g32
   ·
    refine wg (vf underlying32 rfl type3) g32 ?_
    refine wg (vl 0 3 underlying3) g32 ?_
    refine wg (fun W hm => rv_eql rfl rfl) g32 ?_
    refine wv (vpT g32) ?_
    refine wm ?_
    by_cases h33 : x0.Field = 0
    ·have g34 := beq_iff_eq.2 h33
     refine wg (vf underlying32 rfl type3) g34 ?_
     refine wg (vl 0 4 underlying3) g34 ?_
     refine wg (fun W hm => rv_eql rfl rfl) g34 ?_
     refine wv (vpT g34) ?_
     refine wa (nt' (CM_ret (QM_block_ret (QM_then_ret ?_))))
     exact rtb (h := cond_f g10 (cond_t g30 (cond_t g32 (cond_t g34 (rfl)))))
    ·have g34 := beq_eq_false_iff_ne.2 h33
     refine ws g34 ?_
     refine ws g34 ?_
     refine ws g34 ?_
     refine wv (vpF g34) ?_
     refine wa (nt' (CM_ret (QM_block_ret (QM_then_ret ?_))))
     exact rtb (h := cond_f g10 (cond_t g30 (cond_t g32 (cond_f g34 (rfl)))))
   ·
    refine ws g32 ?_
    refine ws g32 ?_
    refine ws g32 ?_
    refine wv (vpF g32) ?_
    refine wm ?_
    refine wk ?_
    refine wk ?_
    refine wk ?_
    refine wv (vpF rfl) ?_
    refine wa (nt' (CM_ret (QM_block_ret (QM_then_ret ?_))))
    exact rtb (h := cond_f g10 (cond_t g30 (cond_f g32 (rfl))))
  ·have g30 := beq_eq_false_iff_ne.2 h29
   refine CM_condF rfl g30 ?_
   refine sr ?_
   refine wv (fun W hm => rv_eql rfl rfl) ?_
   refine wa (nt' ?_)
   by_cases h35 : x0.Kind = 2
   ·have g36 := beq_iff_eq.2 h35
    refine CM_condT rfl g36 ?_
    refine sr (wm (wm ?_))
    refine wk ?_
    refine wk ?_
    refine wk ?_
    refine wv (vpF rfl) ?_
    refine wm ?_
    refine wk ?_
    refine wk ?_
    refine wk ?_
    refine wv (vpF rfl) ?_
    refine wa (nt' (CM_ret (QM_block_ret (QM_then_ret ?_))))
    exact rtb (h := cond_f g10 (cond_f g30 (cond_t g36 (rfl))))
   ·have g36 := beq_eq_false_iff_ne.2 h35
    refine CM_condF rfl g36 ?_
    refine sr ?_
    refine wv (fun W hm => rv_eql rfl rfl) ?_
    refine wa (nt' ?_)
    by_cases h37 : x0.Kind = 3
    ·have g38 := beq_iff_eq.2 h37
     refine CM_condT rfl g38 ?_
     refine sr (wm (wm ?_))
     refine wk ?_
     refine wk ?_
     refine wk ?_
     refine wv (vpF rfl) ?_
     refine wm ?_
     refine wk ?_
     refine wk ?_
     refine wk ?_
     refine wv (vpF rfl) ?_
     refine wa (nt' (CM_ret (QM_block_ret (QM_then_ret ?_))))
     exact rtb (h := cond_f g10 (cond_f g30 (cond_f g36 (cond_t g38 (rfl)))))
    ·have g38 := beq_eq_false_iff_ne.2 h37
     refine CM_condF rfl g38 ?_
     refine CM_skip (QM_block_normal (QM_then (sr (wa (nt' (CM_ret ?_))))))
     exact rtb (h := cond_f g10 (cond_f g30 (cond_f g36 (cond_f g38 (rfl)))))

theorem within_same (x a b : Int) : impl_within_m x a b = spec_l1In_m x a b := rfl
theorem isField_same (x : Int) : impl_isField_m x = spec_l1In_m x 0 2 := rfl
theorem IsUpdate_same (x : DUpdate) : impl_IsUpdate_m x = spec_IsUpdate_m x := by
  unfold impl_IsUpdate_m spec_IsUpdate_m
  rw [IsRow_same, within_same, within_same, isField_same]
  cases spec_l1In_m x.Row.Id 0 999 <;> cases h1 : x.Kind == 1 <;> cases x.Kind == 2 <;> cases x.Kind == 3 <;> cases spec_IsRow_m x.Row <;> cases (((x.Row.Values.length : Nat) : Int) == 0) <;> rfl
theorem cond_tt {a b : Bool} (h : cond a b false = true) : a = true ∧ b = true := by cases a <;> simp_all
theorem spec_Update_rng {x : DUpdate} (h : spec_IsUpdate_m x = true) : (0 ≤ x.Row.Id ∧ x.Row.Id ≤ 999) ∧ (0 ≤ x.Field ∧ x.Field ≤ 2) ∧ (0 ≤ x.Value ∧ x.Value ≤ 99) := by
  unfold spec_IsUpdate_m at h
  cases h1 : x.Kind == 1 with
  | true =>
    rw [h1] at h
    obtain ⟨h2, h⟩ := cond_tt h
    obtain ⟨h3, h⟩ := cond_tt h
    rw [beq_iff_eq] at h3 h
    exact ⟨(spec_Row_rng h2).1, by omega, by omega⟩
  | false =>
    rw [h1, cond_false] at h
    cases h2 : x.Kind == 2 with
    | true =>
      rw [h2, cond_true] at h
      obtain ⟨h3, h⟩ := cond_tt h
      obtain ⟨_, h⟩ := cond_tt h
      obtain ⟨h4, h⟩ := cond_tt h
      rw [beq_iff_eq] at h4 h
      rw [spec_l1In_iff, decide_eq_true_eq] at h3
      exact ⟨h3, by omega, by omega⟩
    | false =>
      rw [h2, cond_false] at h
      obtain ⟨_, h⟩ := cond_tt h
      obtain ⟨h3, h⟩ := cond_tt h
      obtain ⟨_, h⟩ := cond_tt h
      obtain ⟨h4, h⟩ := cond_tt h
      rw [spec_l1In_iff, decide_eq_true_eq] at h3 h4 h
      exact ⟨h3, h4, h⟩
theorem impl_Update_rng {x : DUpdate} (h : impl_IsUpdate_m x = true) : (0 ≤ x.Row.Id ∧ x.Row.Id ≤ 999) ∧ (0 ≤ x.Field ∧ x.Field ≤ 2) ∧ (0 ≤ x.Value ∧ x.Value ≤ 99) := spec_Update_rng ((IsUpdate_same x).symm.trans h)
def impl_FormatUpdate_m (x0 : DUpdate) : ByteArray :=
 cond (impl_IsUpdate_m x0) (cond (x0.Kind == 1) ((sB [105, 110, 115, 101, 114, 116, 32]) ++ (impl_FormatRow_m x0.Row)) (cond (x0.Kind == 2) ((sB [100, 101, 108, 101, 116, 101, 32]) ++ (impl_FormatInt_m x0.Row.Id)) ((((((sB [115, 101, 116, 32]) ++ (impl_FormatInt_m x0.Row.Id)) ++ (sB [32, 102])) ++ (impl_FormatInt_m x0.Field)) ++ (sB [32])) ++ (impl_FormatInt_m x0.Value)))) (sB [])
theorem cb9 : Cb Tryz.prog 9 := ⟨f9, _, func9, rfl, by decide⟩
theorem impl_FormatUpdate_c (w : World) (z0 : List Value) (x0 : DUpdate) (r_0 : tyUpdate.rd w w.heap.size z0 x0) (hT : TabOK w.heap.size w) :
  Calls Tryz.prog 9 #[.agg z0.toArray] w fun e w' => e = .returned (.string (impl_FormatUpdate_m x0)) ∧ Below w.heap.size w w' := by
 obtain ⟨v1, rfl, r2⟩ := tyUpdate_rd r_0
 obtain ⟨m3, A4, c5, rfl, q6, r7⟩ := rdS_op r2
 refine ce1 (L := [(0, .agg #[.int .i64 x0.Kind, .int .i64 x0.Row.Id, .slice A4 x0.Row.Values.length c5, .int .i64 x0.Field, .int .i64 x0.Value])]) (N := 36) func9 ?_
 refine sr ?_
 refine WM_box rfl (Wd_none rfl) (by decide) (fun p8 => ?_)
 refine wa (nt' (CM_seq (sr ?_)))
 refine wv (fun W hm => rv_loadN (cs := [.int .i64 x0.Kind, .int .i64 x0.Row.Id, .slice A4 x0.Row.Values.length c5, .int .i64 x0.Field, .int .i64 x0.Value]) underlying32 type32 rfl rfl (hm.boxCells (n := 0) rfl)) ?_
 refine wcv (cl_fn cb32 rfl) (fun W hm => impl_IsUpdate_c W _ x0 (tyUpdate_mk (x := x0) (hm.rdS0 r7))) ?_
 refine wv vnot ?_
 refine nt' ?_
 rcases Bool.eq_false_or_eq_true (impl_IsUpdate_m x0) with g10 | g10
 ·
  have hup := impl_Update_rng g10
  refine CM_condF rfl (nt g10) ?_
  refine CM_skip (QM_then (CM_seq (sr ?_)))
  refine wv (vf underlying32 rfl type3) ?_
  refine wv (vl 0 0 underlying3) ?_
  refine nt' (CM_block (sr ?_))
  refine wv (fun W hm => rv_eql rfl rfl) ?_
  refine wa (nt' ?_)
  by_cases h11 : x0.Kind = 1
  ·have g12 := beq_iff_eq.2 h11
   refine CM_condT rfl g12 ?_
   refine sr ?_
   refine wv (vf underlying32 rfl type26) ?_
   refine wv (fun W hm => rv_loadN (cs := [.int .i64 x0.Row.Id, .slice A4 x0.Row.Values.length c5]) underlying26 type26 rfl rfl (hm.boxPart (n := 0) rfl rfl)) ?_
   refine wcv (cl_fn cb6 rfl) (fun W hm => impl_FormatRow_c W _ x0.Row (tyRow_mk (x := x0.Row) (hm.rdS0 r7)) (hT.mem hm)) ?_
   have hzr := impl_FormatRow_sz x0.Row
   have hz13 : ByteArray.size (sB [105, 110, 115, 101, 114, 116, 32]) = 7 := rfl
   refine wv (fun W hm => rv_addS (p := (sB [105, 110, 115, 101, 114, 116, 32])) (q := (impl_FormatRow_m x0.Row)) rfl rfl (by omega)) ?_
   have hz14 := sz_app (sB [105, 110, 115, 101, 114, 116, 32]) (impl_FormatRow_m x0.Row)
   refine wa (nt' (CM_ret (QM_block_ret (QM_then_ret ?_))))
   exact QM_ret1 rfl rfl (fun W hm => ⟨ret_s (show impl_FormatUpdate_m x0 = ((sB [105, 110, 115, 101, 114, 116, 32]) ++ (impl_FormatRow_m x0.Row)) from cond_t g10 (cond_t g12 (rfl))), hm.below⟩)
  ·have g12 := beq_eq_false_iff_ne.2 h11
   refine CM_condF rfl g12 ?_
   refine sr ?_
   refine wv (fun W hm => rv_eql rfl rfl) ?_
   refine wa (nt' ?_)
   by_cases h15 : x0.Kind = 2
   ·have g16 := beq_iff_eq.2 h15
    refine CM_condT rfl g16 ?_
    refine sr ?_
    refine wv (vf underlying32 rfl type26) ?_
    refine wv (fun W hm => rv_fieldA (o := 1) underlying26 rfl type3 (by decide) rfl rfl) ?_
    refine wv (vl 0 1 underlying3) ?_
    refine wcv (cl_fn cb26 rfl) (fun W hm => impl_FormatInt_c W x0.Row.Id (⟨by omega, by omega⟩) (hT.mem hm)) ?_
    have hz17 := impl_FormatInt_sz x0.Row.Id (by omega)
    have hz18 : ByteArray.size (sB [100, 101, 108, 101, 116, 101, 32]) = 7 := rfl
    refine wv (fun W hm => rv_addS (p := (sB [100, 101, 108, 101, 116, 101, 32])) (q := (impl_FormatInt_m x0.Row.Id)) rfl rfl (by omega)) ?_
    have hz19 := sz_app (sB [100, 101, 108, 101, 116, 101, 32]) (impl_FormatInt_m x0.Row.Id)
    refine wa (nt' (CM_ret (QM_block_ret (QM_then_ret ?_))))
    exact QM_ret1 rfl rfl (fun W hm => ⟨ret_s (show impl_FormatUpdate_m x0 = ((sB [100, 101, 108, 101, 116, 101, 32]) ++ (impl_FormatInt_m x0.Row.Id)) from cond_t g10 (cond_f g12 (cond_t g16 (rfl)))), hm.below⟩)
   ·have g16 := beq_eq_false_iff_ne.2 h15
    refine CM_condF rfl g16 ?_
    refine CM_skip (QM_block_normal (QM_then (CM_seq ?_)))
    refine CM_regionD (by kernel_rfl) (by kernel_rfl) ?_
    refine qv (vf underlying32 rfl type26) ?_
    refine qv (fun W hm => rv_fieldA (o := 1) underlying26 rfl type3 (by decide) rfl rfl) ?_
    refine qv (vl 0 1 underlying3) ?_
    refine QR_callV (cl_fn cb26 rfl) (fun W hm => impl_FormatInt_c W x0.Row.Id (⟨by omega, by omega⟩) (hT.mem hm)) (Wd_none rfl) (by decide) ?_
    have hz20 := impl_FormatInt_sz x0.Row.Id (by omega)
    have hz21 : ByteArray.size (sB [115, 101, 116, 32]) = 4 := rfl
    refine qv (fun W hm => rv_addS (p := (sB [115, 101, 116, 32])) (q := (impl_FormatInt_m x0.Row.Id)) rfl rfl (by omega)) ?_
    have hz22 := sz_app (sB [115, 101, 116, 32]) (impl_FormatInt_m x0.Row.Id)
    have hz23 : ByteArray.size (sB [32, 102]) = 2 := rfl
    refine qv (fun W hm => rv_addS (p := ((sB [115, 101, 116, 32]) ++ (impl_FormatInt_m x0.Row.Id))) (q := (sB [32, 102])) rfl rfl (by omega)) ?_
    have hz24 := sz_app ((sB [115, 101, 116, 32]) ++ (impl_FormatInt_m x0.Row.Id)) (sB [32, 102])
    refine qv (vf underlying32 rfl type3) ?_
    refine qv (vl 0 3 underlying3) ?_
    refine QR_callV (cl_fn cb26 rfl) (fun W hm => impl_FormatInt_c W x0.Field (⟨by omega, by omega⟩) (hT.mem hm)) (Wd_none rfl) (by decide) ?_
    have hz25 := impl_FormatInt_sz x0.Field (by omega)
    refine qv (fun W hm => rv_addS (p := (((sB [115, 101, 116, 32]) ++ (impl_FormatInt_m x0.Row.Id)) ++ (sB [32, 102]))) (q := (impl_FormatInt_m x0.Field)) rfl rfl (by omega)) ?_
    have hz26 := sz_app (((sB [115, 101, 116, 32]) ++ (impl_FormatInt_m x0.Row.Id)) ++ (sB [32, 102])) (impl_FormatInt_m x0.Field)
    have hz27 : ByteArray.size (sB [32]) = 1 := rfl
    refine qv (fun W hm => rv_addS (p := ((((sB [115, 101, 116, 32]) ++ (impl_FormatInt_m x0.Row.Id)) ++ (sB [32, 102])) ++ (impl_FormatInt_m x0.Field))) (q := (sB [32])) rfl rfl (by omega)) ?_
    have hz28 := sz_app ((((sB [115, 101, 116, 32]) ++ (impl_FormatInt_m x0.Row.Id)) ++ (sB [32, 102])) ++ (impl_FormatInt_m x0.Field)) (sB [32])
    refine qv (vf underlying32 rfl type3) ?_
    refine qv (vl 0 4 underlying3) ?_
    refine QR_callV (cl_fn cb26 rfl) (fun W hm => impl_FormatInt_c W x0.Value (⟨by omega, by omega⟩) (hT.mem hm)) (Wd_none rfl) (by decide) ?_
    have hz29 := impl_FormatInt_sz x0.Value (by omega)
    refine qv (fun W hm => rv_addS (p := (((((sB [115, 101, 116, 32]) ++ (impl_FormatInt_m x0.Row.Id)) ++ (sB [32, 102])) ++ (impl_FormatInt_m x0.Field)) ++ (sB [32]))) (q := (impl_FormatInt_m x0.Value)) rfl rfl (by omega)) ?_
    have hz30 := sz_app (((((sB [115, 101, 116, 32]) ++ (impl_FormatInt_m x0.Row.Id)) ++ (sB [32, 102])) ++ (impl_FormatInt_m x0.Field)) ++ (sB [32])) (impl_FormatInt_m x0.Value)
    refine qv (fun W hm => rv_assign rfl) ?_
    refine nq' (CM_ret ?_)
    exact QM_ret1 rfl rfl (fun W hm => ⟨ret_s (show impl_FormatUpdate_m x0 = ((((((sB [115, 101, 116, 32]) ++ (impl_FormatInt_m x0.Row.Id)) ++ (sB [32, 102])) ++ (impl_FormatInt_m x0.Field)) ++ (sB [32])) ++ (impl_FormatInt_m x0.Value)) from cond_t g10 (cond_f g12 (cond_f g16 (rfl)))), hm.below⟩)
 ·
  refine CM_condT rfl (nf g10) ?_
  refine sr (wa (nt' (CM_ret (QM_then_ret ?_))))
  exact QM_ret1 rfl rfl (fun W hm => ⟨ret_s (show impl_FormatUpdate_m x0 = (sB []) from cond_f g10 (rfl)), hm.below⟩)

end Go.Proofs.YtfdaaliffcfjjaaGreatDoor
