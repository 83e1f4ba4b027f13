/-
  Contracts of functions, printed by a program of ours.
-/
import Derived.Test.YtdjendhffbjnhaaL4F2
namespace Go.Proofs.Ytdjendhffbjnhaa
open Go.RowKit
set_option maxRecDepth 100000
set_option maxHeartbeats 4000000
open _root_.Go.Proofs.Try
def laws_eqIndex_m (x0 : DIndex) (x1 : DIndex) : Bool :=
 cond (laws_eqQueryS_m x0.Queries x1.Queries) (cond (laws_eqSpanSS_m x0.Fields x1.Fields) true false) false
theorem cb28 : Cb Try.prog 28 := ⟨f28, _, func28, rfl, by decide⟩
theorem laws_eqIndex_c (w : World) (z0 : List Value) (x0 : DIndex) (z1 : List Value) (x1 : DIndex) (r_0 : tyIndex.rd w w.heap.size z0 x0) (r_1 : tyIndex.rd w w.heap.size z1 x1) :
  Calls Try.prog 28 #[.agg z0.toArray, .agg z1.toArray] w fun e w' => e = .returned (.bool (laws_eqIndex_m x0 x1)) ∧ Below w.heap.size w w' := by
 obtain ⟨v1, v3, rfl, r2, r4⟩ := tyIndex_rd r_0
 have r9 := r2
 obtain ⟨m5, A6, c7, rfl, q8⟩ := r2
 have r14 := r4
 obtain ⟨m10, A11, c12, rfl, q13⟩ := r4
 obtain ⟨v15, v17, rfl, r16, r18⟩ := tyIndex_rd r_1
 have r23 := r16
 obtain ⟨m19, A20, c21, rfl, q22⟩ := r16
 have r28 := r18
 obtain ⟨m24, A25, c26, rfl, q27⟩ := r18
 refine ce2 (L := [(0, .agg #[.slice A6 x0.Queries.length c7, .slice A11 x0.Fields.length c12]), (1, .agg #[.slice A20 x1.Queries.length c21, .slice A25 x1.Fields.length c26])]) (N := 17) func28 ?_
 refine sr ?_
 refine WM_box rfl (Wd_none rfl) (by decide) (fun p29 => ?_)
 refine WM_box rfl (Wd_none rfl) (by decide) (fun p30 => ?_)
 refine wa (nt' (CM_seq (sr ?_)))
 refine wv (vf underlying27 rfl type24) ?_
 refine wv (vl 1 0 underlying24) ?_
 refine wv (vf underlying27 rfl type24) ?_
 refine wv (vl 0 0 underlying24) ?_
 refine wcv (cl_fn cb66 rfl) (fun W hm => laws_eqQueryS_c W _ x0.Queries _ x1.Queries (hm.rdS0 r9) (hm.rdS0 r23)) ?_
 refine wv vnot ?_
 refine nt' ?_
 rcases Bool.eq_false_or_eq_true (laws_eqQueryS_m x0.Queries x1.Queries) with g32 | g32
 ·
  refine CM_condF rfl (nt g32) ?_
  refine CM_skip (QM_then (CM_seq (sr ?_)))
  refine wv (vf underlying27 rfl type25) ?_
  refine wv (vl 1 1 underlying25) ?_
  refine wv (vf underlying27 rfl type25) ?_
  refine wv (vl 0 1 underlying25) ?_
  refine wcv (cl_fn cb67 rfl) (fun W hm => laws_eqSpanSS_c W _ x0.Fields _ x1.Fields (hm.rdS0 r14) (hm.rdS0 r28)) ?_
  refine wv vnot ?_
  refine nt' ?_
  rcases Bool.eq_false_or_eq_true (laws_eqSpanSS_m x0.Fields x1.Fields) with g34 | g34
  ·
   refine CM_condF rfl (nt g34) ?_
   refine CM_skip (QM_then (sr (wa (nt' (CM_ret ?_)))))
   exact rtb (h := by unfold laws_eqIndex_m; exact cond_t g32 (cond_t g34 (rfl)))
  ·
   refine CM_condT rfl (nf g34) ?_
   refine sr (wa (nt' (CM_ret (QM_then_ret ?_))))
   exact rtb (h := by unfold laws_eqIndex_m; exact cond_t g32 (cond_f g34 (rfl)))
 ·
  refine CM_condT rfl (nf g32) ?_
  refine sr (wa (nt' (CM_ret (QM_then_ret ?_))))
  exact rtb (h := by unfold laws_eqIndex_m; exact cond_f g32 (rfl))

def laws_eqRowS_b1 (x0 : (List DRow)) (x1 : (List DRow)) (k13 : Nat) : Bool ⊕ (Unit) :=
 cond (laws_eqRow_m (gt x0 k13) (gt x1 k13)) (Sum.inr ()) (Sum.inl false)
def laws_eqRowS_m (x0 : (List DRow)) (x1 : (List DRow)) : Bool :=
 cond (((x0.length : Nat) : Int) != ((x1.length : Nat) : Int)) false (Sum.elim id (fun (s : Unit) => true) (rng (R := Bool) (fun k (_ : Unit) => laws_eqRowS_b1 x0 x1 k) (x0.length - 0) 0 ()))
theorem cb29 : Cb Try.prog 29 := ⟨f29, _, func29, rfl, by decide⟩
theorem laws_eqRowS_c (w : World) (z0 : Value) (x0 : (List DRow)) (z1 : Value) (x1 : (List DRow)) (r_0 : rdS tyRow w w.heap.size z0 x0) (r_1 : rdS tyRow w w.heap.size z1 x1) :
  Calls Try.prog 29 #[z0, z1] w fun e w' => e = .returned (.bool (laws_eqRowS_m x0 x1)) ∧ Below w.heap.size w w' := by
 have r5 := r_0
 obtain ⟨m1, A2, c3, rfl, q4⟩ := r_0
 have r10 := r_1
 obtain ⟨m6, A7, c8, rfl, q9⟩ := r_1
 refine ce2 (L := [(0, .slice A2 x0.length c3), (1, .slice A7 x1.length c8)]) (N := 27) func29 ?_
 refine sr (wa (nt' (CM_seq (sr (wm ?_)))))
 refine wv (vlen underlying28) ?_
 refine wm ?_
 refine wv (vlen underlying28) ?_
 refine wv vneq ?_
 refine nt' ?_
 by_cases h11 : ((x0.length : Nat) : Int) = ((x1.length : Nat) : Int)
 ·have g12 : (((x0.length : Nat) : Int) != ((x1.length : Nat) : Int)) = false := by rw [h11]; exact bne_self_eq_false _
  refine CM_condF rfl g12 ?_
  refine CM_skip (QM_then (CM_seq (sr (wa (nt' (CM_block ?_))))))
  let F1 := fun k (_ : Unit) => laws_eqRowS_b1 x0 x1 k
  let R2 := rng (R := Bool) F1
  refine CM_loop (σ := Nat × (Unit) × (Unit)) (fun s => [(0, .slice A2 x0.length c3), (1, .slice A7 x1.length c8), (5, .int .i64 ((s.1 : Nat) : Int))]) (fun s => []) (fun s => s.1 ≤ x0.length ∧ R2 (x0.length - s.1) s.1 s.2.1 = R2 (x0.length - 0) 0 ()) (fun s => x0.length - s.1) (0, (), ()) sl3 (fun W hm => hm) ⟨(by omega), rfl⟩ ?_
  rintro ⟨k13, ⟨⟩, ⟨⟩⟩ H16
  obtain ⟨hk14, hF15⟩ : k13 ≤ x0.length ∧ R2 (x0.length - k13) k13 () = R2 (x0.length - 0) 0 () := H16
  show CM Try.prog 27 _ _ _ _ [(0, .slice A2 x0.length c3), (1, .slice A7 x1.length c8), (5, .int .i64 ((k13 : Nat) : Int))] []
  refine CM_seq (sr (wm (wm ?_)))
  refine wv (vlen underlying28) ?_
  refine wv vlss ?_
  refine nt' ?_
  by_cases hl17 : k13 < x0.length
  ·have g18 : (decide (((k13 : Nat) : Int) < ((x0.length : Nat) : Int))) = true := decide_eq_true (by omega)
   refine CM_condT rfl g18 ?_
   refine CM_skip (QM_then (CM_seq (CM_block (CM_seq ?_))))
   refine CM_regionD (by kernel_rfl) (by kernel_rfl) ?_
   refine qm (qm ?_)
   obtain ⟨a19, rfl, hb20, he21⟩ := q4 (by omega)
   refine qv (vix 2 k13 underlying28 type50) ?_
   obtain ⟨_, e25, hc22⟩ := he21 k13 _ (gt_some (show k13 < x0.length from by omega))
   obtain ⟨v23, rfl, r24⟩ := tyRow_rd e25
   have r30 := r24
   obtain ⟨m26, A27, c28, rfl, q29⟩ := r24
   refine qv (fun W hm => rv_loadN (cs := [.int .i64 ((gt x0 k13).Id), .slice A27 ((gt x0 k13).Values).length c28]) underlying50 type50 rfl rfl (hm.elCells (show (a19.add (k13 * 2)).block < w.heap.size from by rw [add_block]; exact hb20.1) hc22)) ?_
   refine qm (qm ?_)
   obtain ⟨a31, rfl, hb32, he33⟩ := q9 (by omega)
   refine qv (vix 2 k13 underlying28 type50) ?_
   obtain ⟨_, e37, hc34⟩ := he33 k13 _ (gt_some (show k13 < x1.length from by omega))
   obtain ⟨v35, rfl, r36⟩ := tyRow_rd e37
   have r42 := r36
   obtain ⟨m38, A39, c40, rfl, q41⟩ := r36
   refine qv (fun W hm => rv_loadN (cs := [.int .i64 ((gt x1 k13).Id), .slice A39 ((gt x1 k13).Values).length c40]) underlying50 type50 rfl rfl (hm.elCells (show (a31.add (k13 * 2)).block < w.heap.size from by rw [add_block]; exact hb32.1) hc34)) ?_
   refine QR_callV (cl_fn cb68 rfl) (fun W hm => laws_eqRow_c W _ (gt x0 k13) _ (gt x1 k13) (tyRow_mk (x := (gt x0 k13)) (hm.rdS0 r30)) (tyRow_mk (x := (gt x1 k13)) (hm.rdS0 r42))) (Wd_none rfl) (by decide) ?_
   refine qv vnot ?_
   refine nq' ?_
   rcases Bool.eq_false_or_eq_true (laws_eqRow_m (gt x0 k13) (gt x1 k13)) with g44 | g44
   ·
    refine CM_condF rfl (nt g44) ?_
    refine CM_skip (QM_block_normal (QM_then (CM_region (wm ?_))))
    refine wv (vadN k13 1 (by omega)) ?_
    refine wa (WM_nil ?_)
    have hn45 := rng_next (R := Bool) (body := F1) (k := k13) (s := ()) (s' := ()) (show k13 < x0.length from by omega) (show laws_eqRowS_b1 x0 x1 k13 = Sum.inr () from by unfold laws_eqRowS_b1; exact cond_t g44 (rfl)) hF15
    exact QM_round (k13 + 1, (), ()) sl3 (fun W hm => hm) ⟨(by omega), hn45⟩ (rl (by omega))
   ·
    refine CM_condT rfl (nf g44) ?_
    refine sr (wa (nt' (CM_ret (QM_block_ret (QM_then_ret (QM_then_ret (QM_block_ret (QM_then_ret ?_))))))))
    exact rtb (h := by unfold laws_eqRowS_m; exact cond_f g12 (fin_inl (rng_ret (body := F1) (k := k13) (s := ()) (show k13 < x0.length from by omega) (show laws_eqRowS_b1 x0 x1 k13 = Sum.inl false from by unfold laws_eqRowS_b1; exact cond_f g44 (rfl)) hF15) rfl))
  ·have g18 : (decide (((k13 : Nat) : Int) < ((x0.length : Nat) : Int))) = false := decide_eq_false (by omega)
   refine CM_condF rfl g18 ?_
   refine CM_exit (QM_then_exit (QM_then_exit ?_))
   have hE46 : R2 (x0.length - 0) 0 () = Sum.inr () := rng_end hl17 hF15
   refine QM_block_hit (QM_then (sr (wa (nt' (CM_ret ?_)))))
   exact rtb (h := by unfold laws_eqRowS_m; exact cond_f g12 (fin_inr hE46 (rfl)))
 ·have g12 : (((x0.length : Nat) : Int) != ((x1.length : Nat) : Int)) = true := bne_iff_ne.2 h11
  refine CM_condT rfl g12 ?_
  refine sr (wa (nt' (CM_ret (QM_then_ret ?_))))
  exact rtb (h := by unfold laws_eqRowS_m; exact cond_t g12 (rfl))

def laws_markCondS_b1 (k5 : Nat) (s6 : Int) (d7 : (List DCond)) : (Int × (List DCond)) ⊕ (Int × (List DCond)) :=
 Sum.inr ((IntKind.i64.wrap ((IntKind.i64.wrap ((IntKind.i64.wrap (s6 + 1)) + 1)) + 1)), (d7.set k5 (⟨s6, (IntKind.i64.wrap (s6 + 1)), (IntKind.i64.wrap ((IntKind.i64.wrap (s6 + 1)) + 1))⟩ : DCond)))
def laws_markCondS_m (x0 : (List DCond)) (x1 : Int) : (Int × (List DCond)) :=
 Sum.elim id (fun (s : Int × (List DCond)) => (s.1, s.2)) (rng (R := (Int × (List DCond))) (fun k (s : Int × (List DCond)) => laws_markCondS_b1 k s.1 s.2) (x0.length - 0) 0 (x1, x0))
theorem cb106 : Cb Try.prog 106 := ⟨f106, _, func106, rfl, by decide⟩
theorem laws_markCondS_c (B : Nat) (w0 : World) (is : List It) (w : World) (z0 : Value) (x0 : (List DCond)) (x1 : Int) (hm : Mem B w0 (iOwn (tSl tyCond 117) [z0] x0 :: is) w) :
  Calls Try.prog 106 #[z0, .int .i64 x1] w fun e w' => e = .returned (.int .i64 (laws_markCondS_m x0 x1).1) ∧ Mem B w0 (iOwn (tSl tyCond 117) [z0] (laws_markCondS_m x0 x1).2 :: is) w' := by
 refine call_enterW (L := [(0, z0), (1, .int .i64 x1)]) (N := 34) func106 rfl rfl (Nat.le_of_ble_eq_true rfl) (argsL_cons rfl (argsL_cons rfl argsL_nil)) hm ?_
 refine CM_form (n := 0) rfl ?_
 rintro A1 c2 rfl m3
 refine sr (wa (nt' (CM_seq (sr (wa (nt' (CM_block ?_)))))))
 let F1 := fun k (s : Int × (List DCond)) => laws_markCondS_b1 k s.1 s.2
 let R2 := rng (R := (Int × (List DCond))) F1
 refine CM_loop (σ := Nat × (Int × (List DCond)) × (Unit)) (fun s => [(0, .slice A1 x0.length c2), (1, .int .i64 s.2.1.1), (5, .int .i64 ((s.1 : Nat) : Int))]) (fun s => (iOwn (tSl tyCond 117) [.slice A1 x0.length c2] s.2.1.2 :: is)) (fun s => s.1 ≤ x0.length ∧ R2 (x0.length - s.1) s.1 s.2.1 = R2 (x0.length - 0) 0 (x1, x0)) (fun s => x0.length - s.1) (0, (x1, x0), ()) sl3 (fun W hm => hm) ⟨(by omega), rfl⟩ ?_
 rintro ⟨k5, ⟨s6, d7⟩, ⟨⟩⟩ H10
 obtain ⟨hk8, hF9⟩ : k5 ≤ x0.length ∧ R2 (x0.length - k5) k5 (s6, d7) = R2 (x0.length - 0) 0 (x1, x0) := H10
 show CM Try.prog 34 _ _ _ _ [(0, .slice A1 x0.length c2), (1, .int .i64 s6), (5, .int .i64 ((k5 : Nat) : Int))] (iOwn (tSl tyCond 117) [.slice A1 x0.length c2] d7 :: is)
 refine CM_seq (sr (wm (wm ?_)))
 refine wv (vlen underlying36) ?_
 refine wv vlss ?_
 refine nt' ?_
 by_cases hl11 : k5 < x0.length
 ·have g12 : (decide (((k5 : Nat) : Int) < ((x0.length : Nat) : Int))) = true := decide_eq_true (by omega)
  refine CM_condT rfl g12 ?_
  refine CM_skip (QM_then (CM_seq (CM_block (sr (wm (wm (wm ?_)))))))
  refine WM_formO (n := 0) rfl (by omega) ?_
  rintro g13 rfl
  refine wv (vix 3 k5 underlying36 type117) ?_
  refine wv (vf underlying117 rfl type3) ?_
  refine WM_focus (E := tyCond) (e := 117) (A := (some ⟨g13, 0, none⟩)) (n := x0.length) (c := c2) (xs := d7) (k := k5) (js := (is)) (by omega) (fun W hm => (hm.front (n := 0) rfl)) (fun ck14 => ?_)
  refine tyCond_sp ?_
  rintro ⟨⟩ rfl
  let K3 : List Value := [.int .i64 s6, .int .i64 ((gt d7 k5).Low), .int .i64 ((gt d7 k5).High)]
  refine WM_storeFoc (E := tyCond) (e := 117) (g := g13) (n := x0.length) (c := c2) (k := k5) (s := 3) (o := 0) (xs := d7) (ck := [.int .i64 ((gt d7 k5).Field), .int .i64 ((gt d7 k5).Low), .int .i64 ((gt d7 k5).High)]) (ck' := K3) (js := (is)) (fun W hm => (hm.front (n := 0) rfl)) rfl rfl type3 rfl (Nat.le_of_ble_eq_true rfl) rfl rfl rfl rfl (Wd_none rfl) ?_
  refine nt' (sr (wm ?_))
  refine wv vadd ?_
  refine wa (nt' (sr (wm (wm (wm ?_)))))
  refine wv (vix 3 k5 underlying36 type117) ?_
  refine wv (vf underlying117 rfl type3) ?_
  let K4 : List Value := [.int .i64 s6, .int .i64 (IntKind.i64.wrap (s6 + 1)), .int .i64 ((gt d7 k5).High)]
  refine WM_storeFoc (E := tyCond) (e := 117) (g := g13) (n := x0.length) (c := c2) (k := k5) (s := 3) (o := 1) (xs := d7) (ck := K3) (ck' := K4) (js := (is)) (fun W hm => (hm.front (n := 0) rfl)) rfl rfl type3 rfl (Nat.le_of_ble_eq_true rfl) rfl rfl rfl rfl (Wd_none rfl) ?_
  refine nt' (sr (wm ?_))
  refine wv vadd ?_
  refine wa (nt' (sr (wm (wm (wm ?_)))))
  refine wv (vix 3 k5 underlying36 type117) ?_
  refine wv (vf underlying117 rfl type3) ?_
  let K5 : List Value := [.int .i64 s6, .int .i64 (IntKind.i64.wrap (s6 + 1)), .int .i64 (IntKind.i64.wrap ((IntKind.i64.wrap (s6 + 1)) + 1))]
  refine WM_storeFoc (E := tyCond) (e := 117) (g := g13) (n := x0.length) (c := c2) (k := k5) (s := 3) (o := 2) (xs := d7) (ck := K4) (ck' := K5) (js := (is)) (fun W hm => (hm.front (n := 0) rfl)) rfl rfl type3 rfl (Nat.le_of_ble_eq_true rfl) rfl rfl rfl rfl (Wd_none rfl) ?_
  refine nt' (CM_region (wm ?_))
  refine wv vadd ?_
  refine wa (WM_nil (QM_block_normal (QM_then (CM_region (wm ?_)))))
  refine wv (vadN k5 1 (by omega)) ?_
  refine wa (WM_nil ?_)
  refine QM_items (fun W hm => Mem.unfocus (Mem.join (is := []) (js := (iFoc tyCond 117 (some ⟨g13, 0, none⟩) x0.length c2 d7 k5 K5 :: (is))) (fun _ _ hs => tyCond_join (x := (⟨s6, (IntKind.i64.wrap (s6 + 1)), (IntKind.i64.wrap ((IntKind.i64.wrap (s6 + 1)) + 1))⟩ : DCond)) hs) (hm.front (n := 0) rfl))) ?_
  have hn15 := rng_next (R := (Int × (List DCond))) (body := F1) (k := k5) (s := (s6, d7)) (s' := ((IntKind.i64.wrap ((IntKind.i64.wrap ((IntKind.i64.wrap (s6 + 1)) + 1)) + 1)), (d7.set k5 (⟨s6, (IntKind.i64.wrap (s6 + 1)), (IntKind.i64.wrap ((IntKind.i64.wrap (s6 + 1)) + 1))⟩ : DCond)))) (show k5 < x0.length from by omega) (show laws_markCondS_b1 k5 s6 d7 = Sum.inr ((IntKind.i64.wrap ((IntKind.i64.wrap ((IntKind.i64.wrap (s6 + 1)) + 1)) + 1)), (d7.set k5 (⟨s6, (IntKind.i64.wrap (s6 + 1)), (IntKind.i64.wrap ((IntKind.i64.wrap (s6 + 1)) + 1))⟩ : DCond))) from by unfold laws_markCondS_b1; exact rfl) hF9
  exact QM_round (k5 + 1, ((IntKind.i64.wrap ((IntKind.i64.wrap ((IntKind.i64.wrap (s6 + 1)) + 1)) + 1)), (d7.set k5 (⟨s6, (IntKind.i64.wrap (s6 + 1)), (IntKind.i64.wrap ((IntKind.i64.wrap (s6 + 1)) + 1))⟩ : DCond))), ()) sl3 (fun W hm => hm) ⟨(by omega), hn15⟩ (rl (by omega))
 ·have g12 : (decide (((k5 : Nat) : Int) < ((x0.length : Nat) : Int))) = false := decide_eq_false (by omega)
  refine CM_condF rfl g12 ?_
  refine CM_exit (QM_then_exit (QM_then_exit ?_))
  have hE16 : R2 (x0.length - 0) 0 (x1, x0) = Sum.inr (s6, d7) := rng_end hl11 hF9
  refine QM_block_hit (QM_then (sr (wm (wa (nt' (CM_ret ?_))))))
  refine QM_rW rfl rfl (fun W hm => ⟨?_, ?_⟩)
  ·rw [(show laws_markCondS_m x0 x1 = (s6, d7) from by unfold laws_markCondS_m; exact fin_inr hE16 (rfl))]
  ·rw [(show laws_markCondS_m x0 x1 = (s6, d7) from by unfold laws_markCondS_m; exact fin_inr hE16 (rfl))]; exact hm

def laws_markIntS_b1 (k5 : Nat) (s6 : Int) (d7 : (List Int)) : (Int × (List Int)) ⊕ (Int × (List Int)) :=
 Sum.inr ((IntKind.i64.wrap (s6 + 1)), (d7.set k5 s6))
def laws_markIntS_m (x0 : (List Int)) (x1 : Int) : (Int × (List Int)) :=
 Sum.elim id (fun (s : Int × (List Int)) => (s.1, s.2)) (rng (R := (Int × (List Int))) (fun k (s : Int × (List Int)) => laws_markIntS_b1 k s.1 s.2) (x0.length - 0) 0 (x1, x0))
theorem cb71 : Cb Try.prog 71 := ⟨f71, _, func71, rfl, by decide⟩
theorem laws_markIntS_c (B : Nat) (w0 : World) (is : List It) (w : World) (z0 : Value) (x0 : (List Int)) (x1 : Int) (hm : Mem B w0 (iOwn (tSl tInt 3) [z0] x0 :: is) w) :
  Calls Try.prog 71 #[z0, .int .i64 x1] w fun e w' => e = .returned (.int .i64 (laws_markIntS_m x0 x1).1) ∧ Mem B w0 (iOwn (tSl tInt 3) [z0] (laws_markIntS_m x0 x1).2 :: is) w' := by
 refine call_enterW (L := [(0, z0), (1, .int .i64 x1)]) (N := 19) func71 rfl rfl (Nat.le_of_ble_eq_true rfl) (argsL_cons rfl (argsL_cons rfl argsL_nil)) hm ?_
 refine CM_form (n := 0) rfl ?_
 rintro A1 c2 rfl m3
 refine sr (wa (nt' (CM_seq (sr (wa (nt' (CM_block ?_)))))))
 let F1 := fun k (s : Int × (List Int)) => laws_markIntS_b1 k s.1 s.2
 let R2 := rng (R := (Int × (List Int))) F1
 refine CM_loop (σ := Nat × (Int × (List Int)) × (Unit)) (fun s => [(0, .slice A1 x0.length c2), (1, .int .i64 s.2.1.1), (5, .int .i64 ((s.1 : Nat) : Int))]) (fun s => (iOwn (tSl tInt 3) [.slice A1 x0.length c2] s.2.1.2 :: is)) (fun s => s.1 ≤ x0.length ∧ R2 (x0.length - s.1) s.1 s.2.1 = R2 (x0.length - 0) 0 (x1, x0)) (fun s => x0.length - s.1) (0, (x1, x0), ()) sl3 (fun W hm => hm) ⟨(by omega), rfl⟩ ?_
 rintro ⟨k5, ⟨s6, d7⟩, ⟨⟩⟩ H10
 obtain ⟨hk8, hF9⟩ : k5 ≤ x0.length ∧ R2 (x0.length - k5) k5 (s6, d7) = R2 (x0.length - 0) 0 (x1, x0) := H10
 show CM Try.prog 19 _ _ _ _ [(0, .slice A1 x0.length c2), (1, .int .i64 s6), (5, .int .i64 ((k5 : Nat) : Int))] (iOwn (tSl tInt 3) [.slice A1 x0.length c2] d7 :: is)
 refine CM_seq (sr (wm (wm ?_)))
 refine wv (vlen underlying37) ?_
 refine wv vlss ?_
 refine nt' ?_
 by_cases hl11 : k5 < x0.length
 ·have g12 : (decide (((k5 : Nat) : Int) < ((x0.length : Nat) : Int))) = true := decide_eq_true (by omega)
  refine CM_condT rfl g12 ?_
  refine CM_skip (QM_then (CM_seq (CM_block (sr (wm (wm (wm ?_)))))))
  refine WM_formO (n := 0) rfl (by omega) ?_
  rintro g13 rfl
  refine wv (vix 1 k5 underlying37 type3) ?_
  refine WM_setEl (E := tInt) (e := 3) (u := .int .i64 s6) (k := k5) (p := g13) (n := x0.length) (xs := d7) (eis := []) (js := (is)) (yv := s6) (fun W hm => (hm.front (n := 0) rfl)) (fun _ _ hs => (Sep.nil hs ▸ tInt_own)) rfl type3 rfl (by omega) rfl rfl (Wd_none rfl) ?_
  refine nt' (CM_region (wm ?_))
  refine wv vadd ?_
  refine wa (WM_nil (QM_block_normal (QM_then (CM_region (wm ?_)))))
  refine wv (vadN k5 1 (by omega)) ?_
  refine wa (WM_nil ?_)
  have hn14 := rng_next (R := (Int × (List Int))) (body := F1) (k := k5) (s := (s6, d7)) (s' := ((IntKind.i64.wrap (s6 + 1)), (d7.set k5 s6))) (show k5 < x0.length from by omega) (show laws_markIntS_b1 k5 s6 d7 = Sum.inr ((IntKind.i64.wrap (s6 + 1)), (d7.set k5 s6)) from by unfold laws_markIntS_b1; exact rfl) hF9
  exact QM_round (k5 + 1, ((IntKind.i64.wrap (s6 + 1)), (d7.set k5 s6)), ()) sl3 (fun W hm => hm) ⟨(by omega), hn14⟩ (rl (by omega))
 ·have g12 : (decide (((k5 : Nat) : Int) < ((x0.length : Nat) : Int))) = false := decide_eq_false (by omega)
  refine CM_condF rfl g12 ?_
  refine CM_exit (QM_then_exit (QM_then_exit ?_))
  have hE15 : R2 (x0.length - 0) 0 (x1, x0) = Sum.inr (s6, d7) := rng_end hl11 hF9
  refine QM_block_hit (QM_then (sr (wm (wa (nt' (CM_ret ?_))))))
  refine QM_rW rfl rfl (fun W hm => ⟨?_, ?_⟩)
  ·rw [(show laws_markIntS_m x0 x1 = (s6, d7) from by unfold laws_markIntS_m; exact fin_inr hE15 (rfl))]
  ·rw [(show laws_markIntS_m x0 x1 = (s6, d7) from by unfold laws_markIntS_m; exact fin_inr hE15 (rfl))]; exact hm

def laws_markQueryS_b1 (k5 : Nat) (s6 : Int) (d7 : (List DQuery)) : (Int × (List DQuery)) ⊕ (Int × (List DQuery)) :=
 Sum.inr ((laws_markIntS_m ((gt d7 k5).Out) ((laws_markCondS_m ((gt d7 k5).Conds) (IntKind.i64.wrap ((IntKind.i64.wrap (s6 + 1)) + 1))).1)).1, (d7.set k5 (⟨s6, (IntKind.i64.wrap (s6 + 1)), (laws_markCondS_m ((gt d7 k5).Conds) (IntKind.i64.wrap ((IntKind.i64.wrap (s6 + 1)) + 1))).2, (laws_markIntS_m ((gt d7 k5).Out) ((laws_markCondS_m ((gt d7 k5).Conds) (IntKind.i64.wrap ((IntKind.i64.wrap (s6 + 1)) + 1))).1)).2⟩ : DQuery)))
def laws_markQueryS_m (x0 : (List DQuery)) (x1 : Int) : (Int × (List DQuery)) :=
 Sum.elim id (fun (s : Int × (List DQuery)) => (s.1, s.2)) (rng (R := (Int × (List DQuery))) (fun k (s : Int × (List DQuery)) => laws_markQueryS_b1 k s.1 s.2) (x0.length - 0) 0 (x1, x0))
theorem cb69 : Cb Try.prog 69 := ⟨f69, _, func69, rfl, by decide⟩
theorem laws_markQueryS_c (B : Nat) (w0 : World) (is : List It) (w : World) (z0 : Value) (x0 : (List DQuery)) (x1 : Int) (hm : Mem B w0 (iOwn (tSl tyQuery 39) [z0] x0 :: is) w) :
  Calls Try.prog 69 #[z0, .int .i64 x1] w fun e w' => e = .returned (.int .i64 (laws_markQueryS_m x0 x1).1) ∧ Mem B w0 (iOwn (tSl tyQuery 39) [z0] (laws_markQueryS_m x0 x1).2 :: is) w' := by
 refine call_enterW (L := [(0, z0), (1, .int .i64 x1)]) (N := 41) func69 rfl rfl (Nat.le_of_ble_eq_true rfl) (argsL_cons rfl (argsL_cons rfl argsL_nil)) hm ?_
 refine CM_form (n := 0) rfl ?_
 rintro A1 c2 rfl m3
 refine sr (wa (nt' (CM_seq (sr (wa (nt' (CM_block ?_)))))))
 let F1 := fun k (s : Int × (List DQuery)) => laws_markQueryS_b1 k s.1 s.2
 let R2 := rng (R := (Int × (List DQuery))) F1
 refine CM_loop (σ := Nat × (Int × (List DQuery)) × (Unit)) (fun s => [(0, .slice A1 x0.length c2), (1, .int .i64 s.2.1.1), (5, .int .i64 ((s.1 : Nat) : Int))]) (fun s => (iOwn (tSl tyQuery 39) [.slice A1 x0.length c2] s.2.1.2 :: is)) (fun s => s.1 ≤ x0.length ∧ R2 (x0.length - s.1) s.1 s.2.1 = R2 (x0.length - 0) 0 (x1, x0)) (fun s => x0.length - s.1) (0, (x1, x0), ()) sl3 (fun W hm => hm) ⟨(by omega), rfl⟩ ?_
 rintro ⟨k5, ⟨s6, d7⟩, ⟨⟩⟩ H10
 obtain ⟨hk8, hF9⟩ : k5 ≤ x0.length ∧ R2 (x0.length - k5) k5 (s6, d7) = R2 (x0.length - 0) 0 (x1, x0) := H10
 show CM Try.prog 41 _ _ _ _ [(0, .slice A1 x0.length c2), (1, .int .i64 s6), (5, .int .i64 ((k5 : Nat) : Int))] (iOwn (tSl tyQuery 39) [.slice A1 x0.length c2] d7 :: is)
 refine CM_seq (sr (wm (wm ?_)))
 refine wv (vlen underlying24) ?_
 refine wv vlss ?_
 refine nt' ?_
 by_cases hl11 : k5 < x0.length
 ·have g12 : (decide (((k5 : Nat) : Int) < ((x0.length : Nat) : Int))) = true := decide_eq_true (by omega)
  refine CM_condT rfl g12 ?_
  refine CM_skip (QM_then (CM_seq (CM_block (sr (wm (wm (wm ?_)))))))
  refine WM_formO (n := 0) rfl (by omega) ?_
  rintro g13 rfl
  refine wv (vix 4 k5 underlying24 type39) ?_
  refine wv (vf underlying39 rfl type3) ?_
  refine WM_focus (E := tyQuery) (e := 39) (A := (some ⟨g13, 0, none⟩)) (n := x0.length) (c := c2) (xs := d7) (k := k5) (js := (is)) (by omega) (fun W hm => (hm.front (n := 0) rfl)) (fun ck14 => ?_)
  refine tyQuery_sp ?_
  rintro ⟨v15, v16⟩ rfl
  refine WM_form (n := 0) rfl ?_
  rintro A17 c18 rfl m19
  refine WM_form (n := 1) rfl ?_
  rintro A21 c22 rfl m23
  let K3 : List Value := [.int .i64 s6, .int .i64 ((gt d7 k5).Tenant), .slice A17 ((gt d7 k5).Conds).length c18, .slice A21 ((gt d7 k5).Out).length c22]
  let I5 : It := iOwn (tSl tyCond 117) [.slice A17 ((gt d7 k5).Conds).length c18] ((gt d7 k5).Conds)
  let I6 : It := iOwn (tSl tInt 3) [.slice A21 ((gt d7 k5).Out).length c22] ((gt d7 k5).Out)
  refine WM_storeFoc (E := tyQuery) (e := 39) (g := g13) (n := x0.length) (c := c2) (k := k5) (s := 4) (o := 0) (xs := d7) (ck := [.int .i64 ((gt d7 k5).Id), .int .i64 ((gt d7 k5).Tenant), .slice A17 ((gt d7 k5).Conds).length c18, .slice A21 ((gt d7 k5).Out).length c22]) (ck' := K3) (js := (I5 :: I6 :: is)) (fun W hm => (hm.front (n := 2) rfl)) rfl rfl type3 rfl (Nat.le_of_ble_eq_true rfl) rfl rfl rfl rfl (Wd_none rfl) ?_
  refine nt' (sr (wm ?_))
  refine wv vadd ?_
  refine wa (nt' (sr (wm (wm (wm ?_)))))
  refine wv (vix 4 k5 underlying24 type39) ?_
  refine wv (vf underlying39 rfl type3) ?_
  let K4 : List Value := [.int .i64 s6, .int .i64 (IntKind.i64.wrap (s6 + 1)), .slice A17 ((gt d7 k5).Conds).length c18, .slice A21 ((gt d7 k5).Out).length c22]
  refine WM_storeFoc (E := tyQuery) (e := 39) (g := g13) (n := x0.length) (c := c2) (k := k5) (s := 4) (o := 1) (xs := d7) (ck := K3) (ck' := K4) (js := (I5 :: I6 :: is)) (fun W hm => (hm.front (n := 0) rfl)) rfl rfl type3 rfl (Nat.le_of_ble_eq_true rfl) rfl rfl rfl rfl (Wd_none rfl) ?_
  refine nt' (sr (wm ?_))
  refine wv vadd ?_
  refine wa (nt' (sr (wm (wm ?_))))
  refine wv (vix 4 k5 underlying24 type39) ?_
  refine wv (vf underlying39 rfl type36) ?_
  refine wv (fun W hm => rv_load underlying36 rfl rfl (hm.focCells (i := 0) rfl rfl 2 _ rfl)) ?_
  refine wm ?_
  refine WM_callW (χ := Unit) (val := fun _ => .int .i64 (laws_markCondS_m ((gt d7 k5).Conds) (IntKind.i64.wrap ((IntKind.i64.wrap (s6 + 1)) + 1))).1) (js := fun _ => (iOwn (tSl tyCond 117) [.slice A17 ((gt d7 k5).Conds).length c18] (laws_markCondS_m ((gt d7 k5).Conds) (IntKind.i64.wrap ((IntKind.i64.wrap (s6 + 1)) + 1))).2 :: (iFoc tyQuery 39 (some ⟨g13, 0, none⟩) x0.length c2 d7 k5 K4 :: I6 :: is))) (cl_fn cb106 rfl) (fun W hm => (laws_markCondS_c B w0 (iFoc tyQuery 39 (some ⟨g13, 0, none⟩) x0.length c2 d7 k5 K4 :: I6 :: is) W (.slice A17 ((gt d7 k5).Conds).length c18) ((gt d7 k5).Conds) (IntKind.i64.wrap ((IntKind.i64.wrap (s6 + 1)) + 1)) (hm.front (n := 1) rfl)).mono (fun _ _ h => ⟨(), h.1, h.2⟩)) (Wd_none rfl) (by decide) (fun _ => ?_)
  refine wa (nt' (CM_region (wm (wm ?_))))
  refine wv (vix 4 k5 underlying24 type39) ?_
  refine wv (vf underlying39 rfl type37) ?_
  refine wv (fun W hm => rv_load underlying37 rfl rfl (hm.focCells (i := 1) rfl rfl 3 _ rfl)) ?_
  refine wm ?_
  let I7 : It := iOwn (tSl tyCond 117) [.slice A17 ((gt d7 k5).Conds).length c18] ((laws_markCondS_m ((gt d7 k5).Conds) (IntKind.i64.wrap ((IntKind.i64.wrap (s6 + 1)) + 1))).2)
  refine WM_callW (χ := Unit) (val := fun _ => .int .i64 (laws_markIntS_m ((gt d7 k5).Out) ((laws_markCondS_m ((gt d7 k5).Conds) (IntKind.i64.wrap ((IntKind.i64.wrap (s6 + 1)) + 1))).1)).1) (js := fun _ => (iOwn (tSl tInt 3) [.slice A21 ((gt d7 k5).Out).length c22] (laws_markIntS_m ((gt d7 k5).Out) ((laws_markCondS_m ((gt d7 k5).Conds) (IntKind.i64.wrap ((IntKind.i64.wrap (s6 + 1)) + 1))).1)).2 :: (I7 :: iFoc tyQuery 39 (some ⟨g13, 0, none⟩) x0.length c2 d7 k5 K4 :: is))) (cl_fn cb71 rfl) (fun W hm => (laws_markIntS_c B w0 (I7 :: iFoc tyQuery 39 (some ⟨g13, 0, none⟩) x0.length c2 d7 k5 K4 :: is) W (.slice A21 ((gt d7 k5).Out).length c22) ((gt d7 k5).Out) ((laws_markCondS_m ((gt d7 k5).Conds) (IntKind.i64.wrap ((IntKind.i64.wrap (s6 + 1)) + 1))).1) (hm.front (n := 2) rfl)).mono (fun _ _ h => ⟨(), h.1, h.2⟩)) (Wd_none rfl) (by decide) (fun _ => ?_)
  refine wa (WM_nil (QM_block_normal (QM_then (CM_region (wm ?_)))))
  refine wv (vadN k5 1 (by omega)) ?_
  refine wa (WM_nil ?_)
  refine QM_items (fun W hm => Mem.unfocus (Mem.join (is := [I7, iOwn (tSl tInt 3) [.slice A21 ((gt d7 k5).Out).length c22] ((laws_markIntS_m ((gt d7 k5).Out) ((laws_markCondS_m ((gt d7 k5).Conds) (IntKind.i64.wrap ((IntKind.i64.wrap (s6 + 1)) + 1))).1)).2)]) (js := (iFoc tyQuery 39 (some ⟨g13, 0, none⟩) x0.length c2 d7 k5 K4 :: (is))) (fun _ _ hs => tyQuery_join (x := (⟨s6, (IntKind.i64.wrap (s6 + 1)), (laws_markCondS_m ((gt d7 k5).Conds) (IntKind.i64.wrap ((IntKind.i64.wrap (s6 + 1)) + 1))).2, (laws_markIntS_m ((gt d7 k5).Out) ((laws_markCondS_m ((gt d7 k5).Conds) (IntKind.i64.wrap ((IntKind.i64.wrap (s6 + 1)) + 1))).1)).2⟩ : DQuery)) hs) (((hm.front (n := 2) rfl).front (n := 1) rfl).front (n := 2) rfl))) ?_
  have hn25 := rng_next (R := (Int × (List DQuery))) (body := F1) (k := k5) (s := (s6, d7)) (s' := ((laws_markIntS_m ((gt d7 k5).Out) ((laws_markCondS_m ((gt d7 k5).Conds) (IntKind.i64.wrap ((IntKind.i64.wrap (s6 + 1)) + 1))).1)).1, (d7.set k5 (⟨s6, (IntKind.i64.wrap (s6 + 1)), (laws_markCondS_m ((gt d7 k5).Conds) (IntKind.i64.wrap ((IntKind.i64.wrap (s6 + 1)) + 1))).2, (laws_markIntS_m ((gt d7 k5).Out) ((laws_markCondS_m ((gt d7 k5).Conds) (IntKind.i64.wrap ((IntKind.i64.wrap (s6 + 1)) + 1))).1)).2⟩ : DQuery)))) (show k5 < x0.length from by omega) (show laws_markQueryS_b1 k5 s6 d7 = Sum.inr ((laws_markIntS_m ((gt d7 k5).Out) ((laws_markCondS_m ((gt d7 k5).Conds) (IntKind.i64.wrap ((IntKind.i64.wrap (s6 + 1)) + 1))).1)).1, (d7.set k5 (⟨s6, (IntKind.i64.wrap (s6 + 1)), (laws_markCondS_m ((gt d7 k5).Conds) (IntKind.i64.wrap ((IntKind.i64.wrap (s6 + 1)) + 1))).2, (laws_markIntS_m ((gt d7 k5).Out) ((laws_markCondS_m ((gt d7 k5).Conds) (IntKind.i64.wrap ((IntKind.i64.wrap (s6 + 1)) + 1))).1)).2⟩ : DQuery))) from by unfold laws_markQueryS_b1; exact rfl) hF9
  exact QM_round (k5 + 1, ((laws_markIntS_m ((gt d7 k5).Out) ((laws_markCondS_m ((gt d7 k5).Conds) (IntKind.i64.wrap ((IntKind.i64.wrap (s6 + 1)) + 1))).1)).1, (d7.set k5 (⟨s6, (IntKind.i64.wrap (s6 + 1)), (laws_markCondS_m ((gt d7 k5).Conds) (IntKind.i64.wrap ((IntKind.i64.wrap (s6 + 1)) + 1))).2, (laws_markIntS_m ((gt d7 k5).Out) ((laws_markCondS_m ((gt d7 k5).Conds) (IntKind.i64.wrap ((IntKind.i64.wrap (s6 + 1)) + 1))).1)).2⟩ : DQuery))), ()) sl3 (fun W hm => hm) ⟨(by omega), hn25⟩ (rl (by omega))
 ·have g12 : (decide (((k5 : Nat) : Int) < ((x0.length : Nat) : Int))) = false := decide_eq_false (by omega)
  refine CM_condF rfl g12 ?_
  refine CM_exit (QM_then_exit (QM_then_exit ?_))
  have hE26 : R2 (x0.length - 0) 0 (x1, x0) = Sum.inr (s6, d7) := rng_end hl11 hF9
  refine QM_block_hit (QM_then (sr (wm (wa (nt' (CM_ret ?_))))))
  refine QM_rW rfl rfl (fun W hm => ⟨?_, ?_⟩)
  ·rw [(show laws_markQueryS_m x0 x1 = (s6, d7) from by unfold laws_markQueryS_m; exact fin_inr hE26 (rfl))]
  ·rw [(show laws_markQueryS_m x0 x1 = (s6, d7) from by unfold laws_markQueryS_m; exact fin_inr hE26 (rfl))]; exact hm

def laws_markSpanS_b1 (k5 : Nat) (s6 : Int) (d7 : (List DSpan)) : (Int × (List DSpan)) ⊕ (Int × (List DSpan)) :=
 Sum.inr ((laws_markIntS_m ((gt d7 k5).Set) (IntKind.i64.wrap ((IntKind.i64.wrap (s6 + 1)) + 1))).1, (d7.set k5 (⟨s6, (IntKind.i64.wrap (s6 + 1)), (laws_markIntS_m ((gt d7 k5).Set) (IntKind.i64.wrap ((IntKind.i64.wrap (s6 + 1)) + 1))).2⟩ : DSpan)))
def laws_markSpanS_m (x0 : (List DSpan)) (x1 : Int) : (Int × (List DSpan)) :=
 Sum.elim id (fun (s : Int × (List DSpan)) => (s.1, s.2)) (rng (R := (Int × (List DSpan))) (fun k (s : Int × (List DSpan)) => laws_markSpanS_b1 k s.1 s.2) (x0.length - 0) 0 (x1, x0))
theorem cb107 : Cb Try.prog 107 := ⟨f107, _, func107, rfl, by decide⟩
theorem laws_markSpanS_c (B : Nat) (w0 : World) (is : List It) (w : World) (z0 : Value) (x0 : (List DSpan)) (x1 : Int) (hm : Mem B w0 (iOwn (tSl tySpan 113) [z0] x0 :: is) w) :
  Calls Try.prog 107 #[z0, .int .i64 x1] w fun e w' => e = .returned (.int .i64 (laws_markSpanS_m x0 x1).1) ∧ Mem B w0 (iOwn (tSl tySpan 113) [z0] (laws_markSpanS_m x0 x1).2 :: is) w' := by
 refine call_enterW (L := [(0, z0), (1, .int .i64 x1)]) (N := 34) func107 rfl rfl (Nat.le_of_ble_eq_true rfl) (argsL_cons rfl (argsL_cons rfl argsL_nil)) hm ?_
 refine CM_form (n := 0) rfl ?_
 rintro A1 c2 rfl m3
 refine sr (wa (nt' (CM_seq (sr (wa (nt' (CM_block ?_)))))))
 let F1 := fun k (s : Int × (List DSpan)) => laws_markSpanS_b1 k s.1 s.2
 let R2 := rng (R := (Int × (List DSpan))) F1
 refine CM_loop (σ := Nat × (Int × (List DSpan)) × (Unit)) (fun s => [(0, .slice A1 x0.length c2), (1, .int .i64 s.2.1.1), (5, .int .i64 ((s.1 : Nat) : Int))]) (fun s => (iOwn (tSl tySpan 113) [.slice A1 x0.length c2] s.2.1.2 :: is)) (fun s => s.1 ≤ x0.length ∧ R2 (x0.length - s.1) s.1 s.2.1 = R2 (x0.length - 0) 0 (x1, x0)) (fun s => x0.length - s.1) (0, (x1, x0), ()) sl3 (fun W hm => hm) ⟨(by omega), rfl⟩ ?_
 rintro ⟨k5, ⟨s6, d7⟩, ⟨⟩⟩ H10
 obtain ⟨hk8, hF9⟩ : k5 ≤ x0.length ∧ R2 (x0.length - k5) k5 (s6, d7) = R2 (x0.length - 0) 0 (x1, x0) := H10
 show CM Try.prog 34 _ _ _ _ [(0, .slice A1 x0.length c2), (1, .int .i64 s6), (5, .int .i64 ((k5 : Nat) : Int))] (iOwn (tSl tySpan 113) [.slice A1 x0.length c2] d7 :: is)
 refine CM_seq (sr (wm (wm ?_)))
 refine wv (vlen underlying78) ?_
 refine wv vlss ?_
 refine nt' ?_
 by_cases hl11 : k5 < x0.length
 ·have g12 : (decide (((k5 : Nat) : Int) < ((x0.length : Nat) : Int))) = true := decide_eq_true (by omega)
  refine CM_condT rfl g12 ?_
  refine CM_skip (QM_then (CM_seq (CM_block (sr (wm (wm (wm ?_)))))))
  refine WM_formO (n := 0) rfl (by omega) ?_
  rintro g13 rfl
  refine wv (vix 3 k5 underlying78 type113) ?_
  refine wv (vf underlying113 rfl type3) ?_
  refine WM_focus (E := tySpan) (e := 113) (A := (some ⟨g13, 0, none⟩)) (n := x0.length) (c := c2) (xs := d7) (k := k5) (js := (is)) (by omega) (fun W hm => (hm.front (n := 0) rfl)) (fun ck14 => ?_)
  refine tySpan_sp ?_
  rintro v15 rfl
  refine WM_form (n := 0) rfl ?_
  rintro A16 c17 rfl m18
  let K3 : List Value := [.int .i64 s6, .int .i64 ((gt d7 k5).To), .slice A16 ((gt d7 k5).Set).length c17]
  let I5 : It := iOwn (tSl tInt 3) [.slice A16 ((gt d7 k5).Set).length c17] ((gt d7 k5).Set)
  refine WM_storeFoc (E := tySpan) (e := 113) (g := g13) (n := x0.length) (c := c2) (k := k5) (s := 3) (o := 0) (xs := d7) (ck := [.int .i64 ((gt d7 k5).From), .int .i64 ((gt d7 k5).To), .slice A16 ((gt d7 k5).Set).length c17]) (ck' := K3) (js := (I5 :: is)) (fun W hm => (hm.front (n := 1) rfl)) rfl rfl type3 rfl (Nat.le_of_ble_eq_true rfl) rfl rfl rfl rfl (Wd_none rfl) ?_
  refine nt' (sr (wm ?_))
  refine wv vadd ?_
  refine wa (nt' (sr (wm (wm (wm ?_)))))
  refine wv (vix 3 k5 underlying78 type113) ?_
  refine wv (vf underlying113 rfl type3) ?_
  let K4 : List Value := [.int .i64 s6, .int .i64 (IntKind.i64.wrap (s6 + 1)), .slice A16 ((gt d7 k5).Set).length c17]
  refine WM_storeFoc (E := tySpan) (e := 113) (g := g13) (n := x0.length) (c := c2) (k := k5) (s := 3) (o := 1) (xs := d7) (ck := K3) (ck' := K4) (js := (I5 :: is)) (fun W hm => (hm.front (n := 0) rfl)) rfl rfl type3 rfl (Nat.le_of_ble_eq_true rfl) rfl rfl rfl rfl (Wd_none rfl) ?_
  refine nt' (sr (wm ?_))
  refine wv vadd ?_
  refine wa (nt' (CM_region (wm (wm ?_))))
  refine wv (vix 3 k5 underlying78 type113) ?_
  refine wv (vf underlying113 rfl type37) ?_
  refine wv (fun W hm => rv_load underlying37 rfl rfl (hm.focCells (i := 0) rfl rfl 2 _ rfl)) ?_
  refine wm ?_
  refine WM_callW (χ := Unit) (val := fun _ => .int .i64 (laws_markIntS_m ((gt d7 k5).Set) (IntKind.i64.wrap ((IntKind.i64.wrap (s6 + 1)) + 1))).1) (js := fun _ => (iOwn (tSl tInt 3) [.slice A16 ((gt d7 k5).Set).length c17] (laws_markIntS_m ((gt d7 k5).Set) (IntKind.i64.wrap ((IntKind.i64.wrap (s6 + 1)) + 1))).2 :: (iFoc tySpan 113 (some ⟨g13, 0, none⟩) x0.length c2 d7 k5 K4 :: is))) (cl_fn cb71 rfl) (fun W hm => (laws_markIntS_c B w0 (iFoc tySpan 113 (some ⟨g13, 0, none⟩) x0.length c2 d7 k5 K4 :: is) W (.slice A16 ((gt d7 k5).Set).length c17) ((gt d7 k5).Set) (IntKind.i64.wrap ((IntKind.i64.wrap (s6 + 1)) + 1)) (hm.front (n := 1) rfl)).mono (fun _ _ h => ⟨(), h.1, h.2⟩)) (Wd_none rfl) (by decide) (fun _ => ?_)
  refine wa (WM_nil (QM_block_normal (QM_then (CM_region (wm ?_)))))
  refine wv (vadN k5 1 (by omega)) ?_
  refine wa (WM_nil ?_)
  refine QM_items (fun W hm => Mem.unfocus (Mem.join (is := [iOwn (tSl tInt 3) [.slice A16 ((gt d7 k5).Set).length c17] ((laws_markIntS_m ((gt d7 k5).Set) (IntKind.i64.wrap ((IntKind.i64.wrap (s6 + 1)) + 1))).2)]) (js := (iFoc tySpan 113 (some ⟨g13, 0, none⟩) x0.length c2 d7 k5 K4 :: (is))) (fun _ _ hs => tySpan_join (x := (⟨s6, (IntKind.i64.wrap (s6 + 1)), (laws_markIntS_m ((gt d7 k5).Set) (IntKind.i64.wrap ((IntKind.i64.wrap (s6 + 1)) + 1))).2⟩ : DSpan)) hs) ((hm.front (n := 1) rfl).front (n := 1) rfl))) ?_
  have hn20 := rng_next (R := (Int × (List DSpan))) (body := F1) (k := k5) (s := (s6, d7)) (s' := ((laws_markIntS_m ((gt d7 k5).Set) (IntKind.i64.wrap ((IntKind.i64.wrap (s6 + 1)) + 1))).1, (d7.set k5 (⟨s6, (IntKind.i64.wrap (s6 + 1)), (laws_markIntS_m ((gt d7 k5).Set) (IntKind.i64.wrap ((IntKind.i64.wrap (s6 + 1)) + 1))).2⟩ : DSpan)))) (show k5 < x0.length from by omega) (show laws_markSpanS_b1 k5 s6 d7 = Sum.inr ((laws_markIntS_m ((gt d7 k5).Set) (IntKind.i64.wrap ((IntKind.i64.wrap (s6 + 1)) + 1))).1, (d7.set k5 (⟨s6, (IntKind.i64.wrap (s6 + 1)), (laws_markIntS_m ((gt d7 k5).Set) (IntKind.i64.wrap ((IntKind.i64.wrap (s6 + 1)) + 1))).2⟩ : DSpan))) from by unfold laws_markSpanS_b1; exact rfl) hF9
  exact QM_round (k5 + 1, ((laws_markIntS_m ((gt d7 k5).Set) (IntKind.i64.wrap ((IntKind.i64.wrap (s6 + 1)) + 1))).1, (d7.set k5 (⟨s6, (IntKind.i64.wrap (s6 + 1)), (laws_markIntS_m ((gt d7 k5).Set) (IntKind.i64.wrap ((IntKind.i64.wrap (s6 + 1)) + 1))).2⟩ : DSpan))), ()) sl3 (fun W hm => hm) ⟨(by omega), hn20⟩ (rl (by omega))
 ·have g12 : (decide (((k5 : Nat) : Int) < ((x0.length : Nat) : Int))) = false := decide_eq_false (by omega)
  refine CM_condF rfl g12 ?_
  refine CM_exit (QM_then_exit (QM_then_exit ?_))
  have hE21 : R2 (x0.length - 0) 0 (x1, x0) = Sum.inr (s6, d7) := rng_end hl11 hF9
  refine QM_block_hit (QM_then (sr (wm (wa (nt' (CM_ret ?_))))))
  refine QM_rW rfl rfl (fun W hm => ⟨?_, ?_⟩)
  ·rw [(show laws_markSpanS_m x0 x1 = (s6, d7) from by unfold laws_markSpanS_m; exact fin_inr hE21 (rfl))]
  ·rw [(show laws_markSpanS_m x0 x1 = (s6, d7) from by unfold laws_markSpanS_m; exact fin_inr hE21 (rfl))]; exact hm

def laws_markSpanSS_b1 (k5 : Nat) (s6 : Int) (d7 : (List (List DSpan))) : (Int × (List (List DSpan))) ⊕ (Int × (List (List DSpan))) :=
 Sum.inr ((laws_markSpanS_m (gt d7 k5) s6).1, (d7.set k5 ((laws_markSpanS_m (gt d7 k5) s6).2)))
def laws_markSpanSS_m (x0 : (List (List DSpan))) (x1 : Int) : (Int × (List (List DSpan))) :=
 Sum.elim id (fun (s : Int × (List (List DSpan))) => (s.1, s.2)) (rng (R := (Int × (List (List DSpan)))) (fun k (s : Int × (List (List DSpan))) => laws_markSpanSS_b1 k s.1 s.2) (x0.length - 0) 0 (x1, x0))
theorem cb70 : Cb Try.prog 70 := ⟨f70, _, func70, rfl, by decide⟩
theorem laws_markSpanSS_c (B : Nat) (w0 : World) (is : List It) (w : World) (z0 : Value) (x0 : (List (List DSpan))) (x1 : Int) (hm : Mem B w0 (iOwn (tSl (tSl tySpan 113) 78) [z0] x0 :: is) w) :
  Calls Try.prog 70 #[z0, .int .i64 x1] w fun e w' => e = .returned (.int .i64 (laws_markSpanSS_m x0 x1).1) ∧ Mem B w0 (iOwn (tSl (tSl tySpan 113) 78) [z0] (laws_markSpanSS_m x0 x1).2 :: is) w' := by
 refine call_enterW (L := [(0, z0), (1, .int .i64 x1)]) (N := 19) func70 rfl rfl (Nat.le_of_ble_eq_true rfl) (argsL_cons rfl (argsL_cons rfl argsL_nil)) hm ?_
 refine CM_form (n := 0) rfl ?_
 rintro A1 c2 rfl m3
 refine sr (wa (nt' (CM_seq (sr (wa (nt' (CM_block ?_)))))))
 let F1 := fun k (s : Int × (List (List DSpan))) => laws_markSpanSS_b1 k s.1 s.2
 let R2 := rng (R := (Int × (List (List DSpan)))) F1
 refine CM_loop (σ := Nat × (Int × (List (List DSpan))) × (Unit)) (fun s => [(0, .slice A1 x0.length c2), (1, .int .i64 s.2.1.1), (5, .int .i64 ((s.1 : Nat) : Int))]) (fun s => (iOwn (tSl (tSl tySpan 113) 78) [.slice A1 x0.length c2] s.2.1.2 :: is)) (fun s => s.1 ≤ x0.length ∧ R2 (x0.length - s.1) s.1 s.2.1 = R2 (x0.length - 0) 0 (x1, x0)) (fun s => x0.length - s.1) (0, (x1, x0), ()) sl3 (fun W hm => hm) ⟨(by omega), rfl⟩ ?_
 rintro ⟨k5, ⟨s6, d7⟩, ⟨⟩⟩ H10
 obtain ⟨hk8, hF9⟩ : k5 ≤ x0.length ∧ R2 (x0.length - k5) k5 (s6, d7) = R2 (x0.length - 0) 0 (x1, x0) := H10
 show CM Try.prog 19 _ _ _ _ [(0, .slice A1 x0.length c2), (1, .int .i64 s6), (5, .int .i64 ((k5 : Nat) : Int))] (iOwn (tSl (tSl tySpan 113) 78) [.slice A1 x0.length c2] d7 :: is)
 refine CM_seq (sr (wm (wm ?_)))
 refine wv (vlen underlying25) ?_
 refine wv vlss ?_
 refine nt' ?_
 by_cases hl11 : k5 < x0.length
 ·have g12 : (decide (((k5 : Nat) : Int) < ((x0.length : Nat) : Int))) = true := decide_eq_true (by omega)
  refine CM_condT rfl g12 ?_
  refine CM_skip (QM_then (CM_seq (CM_block (CM_region (wm (wm ?_))))))
  refine WM_formO (n := 0) rfl (by omega) ?_
  rintro g13 rfl
  refine wv (vix 1 k5 underlying25 type78) ?_
  refine WM_focus (E := (tSl tySpan 113)) (e := 78) (A := (some ⟨g13, 0, none⟩)) (n := x0.length) (c := c2) (xs := d7) (k := k5) (js := (is)) (by omega) (fun W hm => (hm.front (n := 0) rfl)) (fun ck14 => ?_)
  refine WM_split (γ := Value) (js := fun g => [iOwn (tSl tySpan 113) [g] (gt d7 k5)]) (C := fun g => ck14 = [g]) (fun _ _ h => tSl_split h) ?_
  rintro v15 rfl
  refine WM_form (n := 0) rfl ?_
  rintro A16 c17 rfl m18
  refine wv (fun W hm => rv_load underlying78 rfl rfl (hm.focInt (i := 1) rfl rfl)) ?_
  refine wm ?_
  refine WM_callW (χ := Unit) (val := fun _ => .int .i64 (laws_markSpanS_m (gt d7 k5) s6).1) (js := fun _ => (iOwn (tSl tySpan 113) [.slice A16 (gt d7 k5).length c17] (laws_markSpanS_m (gt d7 k5) s6).2 :: (iFoc (tSl tySpan 113) 78 (some ⟨g13, 0, none⟩) x0.length c2 d7 k5 [.slice A16 (gt d7 k5).length c17] :: is))) (cl_fn cb107 rfl) (fun W hm => (laws_markSpanS_c B w0 (iFoc (tSl tySpan 113) 78 (some ⟨g13, 0, none⟩) x0.length c2 d7 k5 [.slice A16 (gt d7 k5).length c17] :: is) W (.slice A16 (gt d7 k5).length c17) (gt d7 k5) s6 (hm.front (n := 0) rfl)).mono (fun _ _ h => ⟨(), h.1, h.2⟩)) (Wd_none rfl) (by decide) (fun _ => ?_)
  refine wa (WM_nil (QM_block_normal (QM_then (CM_region (wm ?_)))))
  refine wv (vadN k5 1 (by omega)) ?_
  refine wa (WM_nil ?_)
  refine QM_items (fun W hm => Mem.unfocus (Mem.join (is := [iOwn (tSl tySpan 113) [.slice A16 (gt d7 k5).length c17] ((laws_markSpanS_m (gt d7 k5) s6).2)]) (js := (iFoc (tSl tySpan 113) 78 (some ⟨g13, 0, none⟩) x0.length c2 d7 k5 [.slice A16 (gt d7 k5).length c17] :: (is))) (fun _ _ hs => Sep.one hs) ((hm.front (n := 1) rfl).front (n := 1) rfl))) ?_
  have hn20 := rng_next (R := (Int × (List (List DSpan)))) (body := F1) (k := k5) (s := (s6, d7)) (s' := ((laws_markSpanS_m (gt d7 k5) s6).1, (d7.set k5 ((laws_markSpanS_m (gt d7 k5) s6).2)))) (show k5 < x0.length from by omega) (show laws_markSpanSS_b1 k5 s6 d7 = Sum.inr ((laws_markSpanS_m (gt d7 k5) s6).1, (d7.set k5 ((laws_markSpanS_m (gt d7 k5) s6).2))) from by unfold laws_markSpanSS_b1; exact rfl) hF9
  exact QM_round (k5 + 1, ((laws_markSpanS_m (gt d7 k5) s6).1, (d7.set k5 ((laws_markSpanS_m (gt d7 k5) s6).2))), ()) sl3 (fun W hm => hm) ⟨(by omega), hn20⟩ (rl (by omega))
 ·have g12 : (decide (((k5 : Nat) : Int) < ((x0.length : Nat) : Int))) = false := decide_eq_false (by omega)
  refine CM_condF rfl g12 ?_
  refine CM_exit (QM_then_exit (QM_then_exit ?_))
  have hE21 : R2 (x0.length - 0) 0 (x1, x0) = Sum.inr (s6, d7) := rng_end hl11 hF9
  refine QM_block_hit (QM_then (sr (wm (wa (nt' (CM_ret ?_))))))
  refine QM_rW rfl rfl (fun W hm => ⟨?_, ?_⟩)
  ·rw [(show laws_markSpanSS_m x0 x1 = (s6, d7) from by unfold laws_markSpanSS_m; exact fin_inr hE21 (rfl))]
  ·rw [(show laws_markSpanSS_m x0 x1 = (s6, d7) from by unfold laws_markSpanSS_m; exact fin_inr hE21 (rfl))]; exact hm

def laws_markIndex_m (x0 : DIndex) (x1 : Int) : (Int × DIndex) :=
 ((laws_markSpanSS_m x0.Fields ((laws_markQueryS_m x0.Queries x1).1)).1, (⟨(laws_markQueryS_m x0.Queries x1).2, (laws_markSpanSS_m x0.Fields ((laws_markQueryS_m x0.Queries x1).1)).2⟩ : DIndex))
theorem cb30 : Cb Try.prog 30 := ⟨f30, _, func30, rfl, by decide⟩
theorem laws_markIndex_c (B : Nat) (w0 : World) (is : List It) (w : World) (z0 : List Value) (x0 : DIndex) (x1 : Int) (hm : Mem B w0 (iOwn tyIndex z0 x0 :: is) w) :
  Calls Try.prog 30 #[.agg z0.toArray, .int .i64 x1] w fun e w' => e = .returned (.int .i64 (laws_markIndex_m x0 x1).1) ∧ Mem B w0 (iOwn tyIndex z0 (laws_markIndex_m x0 x1).2 :: is) w' := by
 refine call_enterW (L := [(0, .agg z0.toArray), (1, .int .i64 x1)]) (N := 14) func30 rfl rfl (Nat.le_of_ble_eq_true rfl) (argsL_cons rfl (argsL_cons rfl argsL_nil)) hm ?_
 refine CM_split (γ := Value × Value) (js := fun g => [iOwn (tSl tyQuery 39) [g.1] x0.Queries, iOwn (tSl (tSl tySpan 113) 78) [g.2] x0.Fields]) (C := fun g => z0 = [g.1, g.2]) (fun _ _ h => tyIndex_split h) ?_
 rintro ⟨v1, v2⟩ rfl
 refine CM_form (n := 0) rfl ?_
 rintro A3 c4 rfl m5
 refine CM_form (n := 1) rfl ?_
 rintro A7 c8 rfl m9
 refine sr ?_
 refine WM_box rfl (Wd_none rfl) (by decide) (fun p11 => ?_)
 refine wa (nt' (sr ?_))
 refine wv (vf underlying27 rfl type24) ?_
 refine wv (vl 0 0 underlying24) ?_
 refine wm ?_
 let K1 : List Value := [.slice A3 x0.Queries.length c4, .slice A7 x0.Fields.length c8]
 let I2 : It := iOwn (tSl (tSl tySpan 113) 78) [.slice A7 x0.Fields.length c8] x0.Fields
 refine WM_callW (χ := Unit) (val := fun _ => .int .i64 (laws_markQueryS_m x0.Queries x1).1) (js := fun _ => (iOwn (tSl tyQuery 39) [.slice A3 x0.Queries.length c4] (laws_markQueryS_m x0.Queries x1).2 :: (iBox p11 27 K1 :: I2 :: is))) (cl_fn cb69 rfl) (fun W hm => (laws_markQueryS_c B w0 (iBox p11 27 K1 :: I2 :: is) W (.slice A3 x0.Queries.length c4) x0.Queries x1 (hm.front (n := 1) rfl)).mono (fun _ _ h => ⟨(), h.1, h.2⟩)) (Wd_none rfl) (by decide) (fun _ => ?_)
 refine wa (nt' (sr ?_))
 refine wv (vf underlying27 rfl type25) ?_
 refine wv (vl 1 1 underlying25) ?_
 refine wm ?_
 let I3 : It := iOwn (tSl tyQuery 39) [.slice A3 x0.Queries.length c4] ((laws_markQueryS_m x0.Queries x1).2)
 refine WM_callW (χ := Unit) (val := fun _ => .int .i64 (laws_markSpanSS_m x0.Fields ((laws_markQueryS_m x0.Queries x1).1)).1) (js := fun _ => (iOwn (tSl (tSl tySpan 113) 78) [.slice A7 x0.Fields.length c8] (laws_markSpanSS_m x0.Fields ((laws_markQueryS_m x0.Queries x1).1)).2 :: (I3 :: iBox p11 27 K1 :: is))) (cl_fn cb70 rfl) (fun W hm => (laws_markSpanSS_c B w0 (I3 :: iBox p11 27 K1 :: is) W (.slice A7 x0.Fields.length c8) x0.Fields ((laws_markQueryS_m x0.Queries x1).1) (hm.front (n := 2) rfl)).mono (fun _ _ h => ⟨(), h.1, h.2⟩)) (Wd_none rfl) (by decide) (fun _ => ?_)
 refine wa (nt' (sr (wm (wa (nt' (CM_ret ?_))))))
 refine QM_rW rfl rfl (fun W hm => ⟨?_, ?_⟩)
 ·rw [(show laws_markIndex_m x0 x1 = ((laws_markSpanSS_m x0.Fields ((laws_markQueryS_m x0.Queries x1).1)).1, (⟨(laws_markQueryS_m x0.Queries x1).2, (laws_markSpanSS_m x0.Fields ((laws_markQueryS_m x0.Queries x1).1)).2⟩ : DIndex)) from by unfold laws_markIndex_m; exact rfl)]
 ·rw [(show laws_markIndex_m x0 x1 = ((laws_markSpanSS_m x0.Fields ((laws_markQueryS_m x0.Queries x1).1)).1, (⟨(laws_markQueryS_m x0.Queries x1).2, (laws_markSpanSS_m x0.Fields ((laws_markQueryS_m x0.Queries x1).1)).2⟩ : DIndex)) from by unfold laws_markIndex_m; exact rfl)]; exact Mem.join (is := [I3, iOwn (tSl (tSl tySpan 113) 78) [.slice A7 x0.Fields.length c8] ((laws_markSpanSS_m x0.Fields ((laws_markQueryS_m x0.Queries x1).1)).2)]) (js := is) (fun _ _ hs => tyIndex_join (x := (⟨(laws_markQueryS_m x0.Queries x1).2, (laws_markSpanSS_m x0.Fields ((laws_markQueryS_m x0.Queries x1).1)).2⟩ : DIndex)) hs) (((hm.front (n := 0) rfl).front (n := 1) rfl).front (n := 2) rfl).tail

def laws_markRowS_b1 (k5 : Nat) (s6 : Int) (d7 : (List DRow)) : (Int × (List DRow)) ⊕ (Int × (List DRow)) :=
 Sum.inr ((laws_markIntS_m ((gt d7 k5).Values) (IntKind.i64.wrap (s6 + 1))).1, (d7.set k5 (⟨s6, (laws_markIntS_m ((gt d7 k5).Values) (IntKind.i64.wrap (s6 + 1))).2⟩ : DRow)))
def laws_markRowS_m (x0 : (List DRow)) (x1 : Int) : (Int × (List DRow)) :=
 Sum.elim id (fun (s : Int × (List DRow)) => (s.1, s.2)) (rng (R := (Int × (List DRow))) (fun k (s : Int × (List DRow)) => laws_markRowS_b1 k s.1 s.2) (x0.length - 0) 0 (x1, x0))
theorem cb31 : Cb Try.prog 31 := ⟨f31, _, func31, rfl, by decide⟩
theorem laws_markRowS_c (B : Nat) (w0 : World) (is : List It) (w : World) (z0 : Value) (x0 : (List DRow)) (x1 : Int) (hm : Mem B w0 (iOwn (tSl tyRow 50) [z0] x0 :: is) w) :
  Calls Try.prog 31 #[z0, .int .i64 x1] w fun e w' => e = .returned (.int .i64 (laws_markRowS_m x0 x1).1) ∧ Mem B w0 (iOwn (tSl tyRow 50) [z0] (laws_markRowS_m x0 x1).2 :: is) w' := by
 refine call_enterW (L := [(0, z0), (1, .int .i64 x1)]) (N := 27) func31 rfl rfl (Nat.le_of_ble_eq_true rfl) (argsL_cons rfl (argsL_cons rfl argsL_nil)) hm ?_
 refine CM_form (n := 0) rfl ?_
 rintro A1 c2 rfl m3
 refine sr (wa (nt' (CM_seq (sr (wa (nt' (CM_block ?_)))))))
 let F1 := fun k (s : Int × (List DRow)) => laws_markRowS_b1 k s.1 s.2
 let R2 := rng (R := (Int × (List DRow))) F1
 refine CM_loop (σ := Nat × (Int × (List DRow)) × (Unit)) (fun s => [(0, .slice A1 x0.length c2), (1, .int .i64 s.2.1.1), (5, .int .i64 ((s.1 : Nat) : Int))]) (fun s => (iOwn (tSl tyRow 50) [.slice A1 x0.length c2] s.2.1.2 :: is)) (fun s => s.1 ≤ x0.length ∧ R2 (x0.length - s.1) s.1 s.2.1 = R2 (x0.length - 0) 0 (x1, x0)) (fun s => x0.length - s.1) (0, (x1, x0), ()) sl3 (fun W hm => hm) ⟨(by omega), rfl⟩ ?_
 rintro ⟨k5, ⟨s6, d7⟩, ⟨⟩⟩ H10
 obtain ⟨hk8, hF9⟩ : k5 ≤ x0.length ∧ R2 (x0.length - k5) k5 (s6, d7) = R2 (x0.length - 0) 0 (x1, x0) := H10
 show CM Try.prog 27 _ _ _ _ [(0, .slice A1 x0.length c2), (1, .int .i64 s6), (5, .int .i64 ((k5 : Nat) : Int))] (iOwn (tSl tyRow 50) [.slice A1 x0.length c2] d7 :: is)
 refine CM_seq (sr (wm (wm ?_)))
 refine wv (vlen underlying28) ?_
 refine wv vlss ?_
 refine nt' ?_
 by_cases hl11 : k5 < x0.length
 ·have g12 : (decide (((k5 : Nat) : Int) < ((x0.length : Nat) : Int))) = true := decide_eq_true (by omega)
  refine CM_condT rfl g12 ?_
  refine CM_skip (QM_then (CM_seq (CM_block (sr (wm (wm (wm ?_)))))))
  refine WM_formO (n := 0) rfl (by omega) ?_
  rintro g13 rfl
  refine wv (vix 2 k5 underlying28 type50) ?_
  refine wv (vf underlying50 rfl type3) ?_
  refine WM_focus (E := tyRow) (e := 50) (A := (some ⟨g13, 0, none⟩)) (n := x0.length) (c := c2) (xs := d7) (k := k5) (js := (is)) (by omega) (fun W hm => (hm.front (n := 0) rfl)) (fun ck14 => ?_)
  refine tyRow_sp ?_
  rintro v15 rfl
  refine WM_form (n := 0) rfl ?_
  rintro A16 c17 rfl m18
  refine WM_storeFoc (E := tyRow) (e := 50) (g := g13) (n := x0.length) (c := c2) (k := k5) (s := 2) (o := 0) (xs := d7) (ck := [.int .i64 ((gt d7 k5).Id), .slice A16 ((gt d7 k5).Values).length c17]) (ck' := [.int .i64 s6, .slice A16 ((gt d7 k5).Values).length c17]) (js := (iOwn (tSl tInt 3) [.slice A16 ((gt d7 k5).Values).length c17] ((gt d7 k5).Values) :: is)) (fun W hm => (hm.front (n := 1) rfl)) rfl rfl type3 rfl (Nat.le_of_ble_eq_true rfl) rfl rfl rfl rfl (Wd_none rfl) ?_
  refine nt' (sr (wm ?_))
  refine wv vadd ?_
  refine wa (nt' (CM_region (wm (wm ?_))))
  refine wv (vix 2 k5 underlying28 type50) ?_
  refine wv (vf underlying50 rfl type37) ?_
  refine wv (fun W hm => rv_load underlying37 rfl rfl (hm.focCells (i := 0) rfl rfl 1 _ rfl)) ?_
  refine wm ?_
  refine WM_callW (χ := Unit) (val := fun _ => .int .i64 (laws_markIntS_m ((gt d7 k5).Values) (IntKind.i64.wrap (s6 + 1))).1) (js := fun _ => (iOwn (tSl tInt 3) [.slice A16 ((gt d7 k5).Values).length c17] (laws_markIntS_m ((gt d7 k5).Values) (IntKind.i64.wrap (s6 + 1))).2 :: (iFoc tyRow 50 (some ⟨g13, 0, none⟩) x0.length c2 d7 k5 [.int .i64 s6, .slice A16 ((gt d7 k5).Values).length c17] :: is))) (cl_fn cb71 rfl) (fun W hm => (laws_markIntS_c B w0 (iFoc tyRow 50 (some ⟨g13, 0, none⟩) x0.length c2 d7 k5 [.int .i64 s6, .slice A16 ((gt d7 k5).Values).length c17] :: is) W (.slice A16 ((gt d7 k5).Values).length c17) ((gt d7 k5).Values) (IntKind.i64.wrap (s6 + 1)) (hm.front (n := 1) rfl)).mono (fun _ _ h => ⟨(), h.1, h.2⟩)) (Wd_none rfl) (by decide) (fun _ => ?_)
  refine wa (WM_nil (QM_block_normal (QM_then (CM_region (wm ?_)))))
  refine wv (vadN k5 1 (by omega)) ?_
  refine wa (WM_nil ?_)
  refine QM_items (fun W hm => Mem.unfocus (Mem.join (is := [iOwn (tSl tInt 3) [.slice A16 ((gt d7 k5).Values).length c17] ((laws_markIntS_m ((gt d7 k5).Values) (IntKind.i64.wrap (s6 + 1))).2)]) (js := (iFoc tyRow 50 (some ⟨g13, 0, none⟩) x0.length c2 d7 k5 [.int .i64 s6, .slice A16 ((gt d7 k5).Values).length c17] :: (is))) (fun _ _ hs => tyRow_join (x := (⟨s6, (laws_markIntS_m ((gt d7 k5).Values) (IntKind.i64.wrap (s6 + 1))).2⟩ : DRow)) hs) ((hm.front (n := 1) rfl).front (n := 1) rfl))) ?_
  have hn20 := rng_next (R := (Int × (List DRow))) (body := F1) (k := k5) (s := (s6, d7)) (s' := ((laws_markIntS_m ((gt d7 k5).Values) (IntKind.i64.wrap (s6 + 1))).1, (d7.set k5 (⟨s6, (laws_markIntS_m ((gt d7 k5).Values) (IntKind.i64.wrap (s6 + 1))).2⟩ : DRow)))) (show k5 < x0.length from by omega) (show laws_markRowS_b1 k5 s6 d7 = Sum.inr ((laws_markIntS_m ((gt d7 k5).Values) (IntKind.i64.wrap (s6 + 1))).1, (d7.set k5 (⟨s6, (laws_markIntS_m ((gt d7 k5).Values) (IntKind.i64.wrap (s6 + 1))).2⟩ : DRow))) from by unfold laws_markRowS_b1; exact rfl) hF9
  exact QM_round (k5 + 1, ((laws_markIntS_m ((gt d7 k5).Values) (IntKind.i64.wrap (s6 + 1))).1, (d7.set k5 (⟨s6, (laws_markIntS_m ((gt d7 k5).Values) (IntKind.i64.wrap (s6 + 1))).2⟩ : DRow))), ()) sl3 (fun W hm => hm) ⟨(by omega), hn20⟩ (rl (by omega))
 ·have g12 : (decide (((k5 : Nat) : Int) < ((x0.length : Nat) : Int))) = false := decide_eq_false (by omega)
  refine CM_condF rfl g12 ?_
  refine CM_exit (QM_then_exit (QM_then_exit ?_))
  have hE21 : R2 (x0.length - 0) 0 (x1, x0) = Sum.inr (s6, d7) := rng_end hl11 hF9
  refine QM_block_hit (QM_then (sr (wm (wa (nt' (CM_ret ?_))))))
  refine QM_rW rfl rfl (fun W hm => ⟨?_, ?_⟩)
  ·rw [(show laws_markRowS_m x0 x1 = (s6, d7) from by unfold laws_markRowS_m; exact fin_inr hE21 (rfl))]
  ·rw [(show laws_markRowS_m x0 x1 = (s6, d7) from by unfold laws_markRowS_m; exact fin_inr hE21 (rfl))]; exact hm

def laws_markAnnotatedS_b1 (k5 : Nat) (s6 : Int) (d7 : (List DAnnotated)) : (Int × (List DAnnotated)) ⊕ (Int × (List DAnnotated)) :=
 Sum.inr ((laws_markIntS_m ((gt d7 k5).Set) ((laws_markIntS_m ((gt d7 k5).Row.Values) (IntKind.i64.wrap (s6 + 1))).1)).1, (d7.set k5 (⟨(⟨s6, (laws_markIntS_m ((gt d7 k5).Row.Values) (IntKind.i64.wrap (s6 + 1))).2⟩ : DRow), (laws_markIntS_m ((gt d7 k5).Set) ((laws_markIntS_m ((gt d7 k5).Row.Values) (IntKind.i64.wrap (s6 + 1))).1)).2⟩ : DAnnotated)))
def laws_markAnnotatedS_m (x0 : (List DAnnotated)) (x1 : Int) : (Int × (List DAnnotated)) :=
 Sum.elim id (fun (s : Int × (List DAnnotated)) => (s.1, s.2)) (rng (R := (Int × (List DAnnotated))) (fun k (s : Int × (List DAnnotated)) => laws_markAnnotatedS_b1 k s.1 s.2) (x0.length - 0) 0 (x1, x0))
theorem cb32 : Cb Try.prog 32 := ⟨f32, _, func32, rfl, by decide⟩
theorem laws_markAnnotatedS_c (B : Nat) (w0 : World) (is : List It) (w : World) (z0 : Value) (x0 : (List DAnnotated)) (x1 : Int) (hm : Mem B w0 (iOwn (tSl tyAnnotated 52) [z0] x0 :: is) w) :
  Calls Try.prog 32 #[z0, .int .i64 x1] w fun e w' => e = .returned (.int .i64 (laws_markAnnotatedS_m x0 x1).1) ∧ Mem B w0 (iOwn (tSl tyAnnotated 52) [z0] (laws_markAnnotatedS_m x0 x1).2 :: is) w' := by
 refine call_enterW (L := [(0, z0), (1, .int .i64 x1)]) (N := 36) func32 rfl rfl (Nat.le_of_ble_eq_true rfl) (argsL_cons rfl (argsL_cons rfl argsL_nil)) hm ?_
 refine CM_form (n := 0) rfl ?_
 rintro A1 c2 rfl m3
 refine sr (wa (nt' (CM_seq (sr (wa (nt' (CM_block ?_)))))))
 let F1 := fun k (s : Int × (List DAnnotated)) => laws_markAnnotatedS_b1 k s.1 s.2
 let R2 := rng (R := (Int × (List DAnnotated))) F1
 refine CM_loop (σ := Nat × (Int × (List DAnnotated)) × (Unit)) (fun s => [(0, .slice A1 x0.length c2), (1, .int .i64 s.2.1.1), (5, .int .i64 ((s.1 : Nat) : Int))]) (fun s => (iOwn (tSl tyAnnotated 52) [.slice A1 x0.length c2] s.2.1.2 :: is)) (fun s => s.1 ≤ x0.length ∧ R2 (x0.length - s.1) s.1 s.2.1 = R2 (x0.length - 0) 0 (x1, x0)) (fun s => x0.length - s.1) (0, (x1, x0), ()) sl3 (fun W hm => hm) ⟨(by omega), rfl⟩ ?_
 rintro ⟨k5, ⟨s6, d7⟩, ⟨⟩⟩ H10
 obtain ⟨hk8, hF9⟩ : k5 ≤ x0.length ∧ R2 (x0.length - k5) k5 (s6, d7) = R2 (x0.length - 0) 0 (x1, x0) := H10
 show CM Try.prog 36 _ _ _ _ [(0, .slice A1 x0.length c2), (1, .int .i64 s6), (5, .int .i64 ((k5 : Nat) : Int))] (iOwn (tSl tyAnnotated 52) [.slice A1 x0.length c2] d7 :: is)
 refine CM_seq (sr (wm (wm ?_)))
 refine wv (vlen underlying31) ?_
 refine wv vlss ?_
 refine nt' ?_
 by_cases hl11 : k5 < x0.length
 ·have g12 : (decide (((k5 : Nat) : Int) < ((x0.length : Nat) : Int))) = true := decide_eq_true (by omega)
  refine CM_condT rfl g12 ?_
  refine CM_skip (QM_then (CM_seq (CM_block (sr (wm (wm (wm ?_)))))))
  refine WM_formO (n := 0) rfl (by omega) ?_
  rintro g13 rfl
  refine wv (vix 3 k5 underlying31 type52) ?_
  refine wv (vf underlying52 rfl type50) ?_
  refine wv (fun W hm => rv_fieldA (o := 0) underlying50 rfl type3 (by decide) rfl rfl) ?_
  refine WM_focus (E := tyAnnotated) (e := 52) (A := (some ⟨g13, 0, none⟩)) (n := x0.length) (c := c2) (xs := d7) (k := k5) (js := (is)) (by omega) (fun W hm => (hm.front (n := 0) rfl)) (fun ck14 => ?_)
  refine tyAnnotated_sp ?_
  rintro ⟨v15, v16⟩ rfl
  refine WM_form (n := 0) rfl ?_
  rintro A17 c18 rfl m19
  refine WM_form (n := 1) rfl ?_
  rintro A21 c22 rfl m23
  let K3 : List Value := [.int .i64 s6, .slice A17 ((gt d7 k5).Row.Values).length c18, .slice A21 ((gt d7 k5).Set).length c22]
  let I4 : It := iOwn (tSl tInt 3) [.slice A21 ((gt d7 k5).Set).length c22] ((gt d7 k5).Set)
  refine WM_storeFoc (E := tyAnnotated) (e := 52) (g := g13) (n := x0.length) (c := c2) (k := k5) (s := 3) (o := 0) (xs := d7) (ck := [.int .i64 ((gt d7 k5).Row.Id), .slice A17 ((gt d7 k5).Row.Values).length c18, .slice A21 ((gt d7 k5).Set).length c22]) (ck' := K3) (js := (iOwn (tSl tInt 3) [.slice A17 ((gt d7 k5).Row.Values).length c18] ((gt d7 k5).Row.Values) :: I4 :: is)) (fun W hm => (hm.front (n := 2) rfl)) rfl rfl type3 rfl (Nat.le_of_ble_eq_true rfl) rfl rfl rfl rfl (Wd_none rfl) ?_
  refine nt' (sr (wm ?_))
  refine wv vadd ?_
  refine wa (nt' (sr (wm (wm ?_))))
  refine wv (vix 3 k5 underlying31 type52) ?_
  refine wv (vf underlying52 rfl type50) ?_
  refine wv (fun W hm => rv_fieldA (o := 1) underlying50 rfl type37 (by decide) rfl rfl) ?_
  refine wv (fun W hm => rv_load underlying37 rfl rfl (hm.focCells (i := 0) rfl rfl 1 _ rfl)) ?_
  refine wm ?_
  refine WM_callW (χ := Unit) (val := fun _ => .int .i64 (laws_markIntS_m ((gt d7 k5).Row.Values) (IntKind.i64.wrap (s6 + 1))).1) (js := fun _ => (iOwn (tSl tInt 3) [.slice A17 ((gt d7 k5).Row.Values).length c18] (laws_markIntS_m ((gt d7 k5).Row.Values) (IntKind.i64.wrap (s6 + 1))).2 :: (iFoc tyAnnotated 52 (some ⟨g13, 0, none⟩) x0.length c2 d7 k5 K3 :: I4 :: is))) (cl_fn cb71 rfl) (fun W hm => (laws_markIntS_c B w0 (iFoc tyAnnotated 52 (some ⟨g13, 0, none⟩) x0.length c2 d7 k5 K3 :: I4 :: is) W (.slice A17 ((gt d7 k5).Row.Values).length c18) ((gt d7 k5).Row.Values) (IntKind.i64.wrap (s6 + 1)) (hm.front (n := 1) rfl)).mono (fun _ _ h => ⟨(), h.1, h.2⟩)) (Wd_none rfl) (by decide) (fun _ => ?_)
  refine wa (nt' (CM_region (wm (wm ?_))))
  refine wv (vix 3 k5 underlying31 type52) ?_
  refine wv (vf underlying52 rfl type37) ?_
  refine wv (fun W hm => rv_load underlying37 rfl rfl (hm.focCells (i := 1) rfl rfl 2 _ rfl)) ?_
  refine wm ?_
  let I5 : It := iOwn (tSl tInt 3) [.slice A17 ((gt d7 k5).Row.Values).length c18] ((laws_markIntS_m ((gt d7 k5).Row.Values) (IntKind.i64.wrap (s6 + 1))).2)
  refine WM_callW (χ := Unit) (val := fun _ => .int .i64 (laws_markIntS_m ((gt d7 k5).Set) ((laws_markIntS_m ((gt d7 k5).Row.Values) (IntKind.i64.wrap (s6 + 1))).1)).1) (js := fun _ => (iOwn (tSl tInt 3) [.slice A21 ((gt d7 k5).Set).length c22] (laws_markIntS_m ((gt d7 k5).Set) ((laws_markIntS_m ((gt d7 k5).Row.Values) (IntKind.i64.wrap (s6 + 1))).1)).2 :: (I5 :: iFoc tyAnnotated 52 (some ⟨g13, 0, none⟩) x0.length c2 d7 k5 K3 :: is))) (cl_fn cb71 rfl) (fun W hm => (laws_markIntS_c B w0 (I5 :: iFoc tyAnnotated 52 (some ⟨g13, 0, none⟩) x0.length c2 d7 k5 K3 :: is) W (.slice A21 ((gt d7 k5).Set).length c22) ((gt d7 k5).Set) ((laws_markIntS_m ((gt d7 k5).Row.Values) (IntKind.i64.wrap (s6 + 1))).1) (hm.front (n := 2) rfl)).mono (fun _ _ h => ⟨(), h.1, h.2⟩)) (Wd_none rfl) (by decide) (fun _ => ?_)
  refine wa (WM_nil (QM_block_normal (QM_then (CM_region (wm ?_)))))
  refine wv (vadN k5 1 (by omega)) ?_
  refine wa (WM_nil ?_)
  refine QM_items (fun W hm => Mem.unfocus (Mem.join (is := [I5, iOwn (tSl tInt 3) [.slice A21 ((gt d7 k5).Set).length c22] ((laws_markIntS_m ((gt d7 k5).Set) ((laws_markIntS_m ((gt d7 k5).Row.Values) (IntKind.i64.wrap (s6 + 1))).1)).2)]) (js := (iFoc tyAnnotated 52 (some ⟨g13, 0, none⟩) x0.length c2 d7 k5 K3 :: (is))) (fun _ _ hs => tyAnnotated_join (x := (⟨(⟨s6, (laws_markIntS_m ((gt d7 k5).Row.Values) (IntKind.i64.wrap (s6 + 1))).2⟩ : DRow), (laws_markIntS_m ((gt d7 k5).Set) ((laws_markIntS_m ((gt d7 k5).Row.Values) (IntKind.i64.wrap (s6 + 1))).1)).2⟩ : DAnnotated)) hs) (((hm.front (n := 2) rfl).front (n := 1) rfl).front (n := 2) rfl))) ?_
  have hn25 := rng_next (R := (Int × (List DAnnotated))) (body := F1) (k := k5) (s := (s6, d7)) (s' := ((laws_markIntS_m ((gt d7 k5).Set) ((laws_markIntS_m ((gt d7 k5).Row.Values) (IntKind.i64.wrap (s6 + 1))).1)).1, (d7.set k5 (⟨(⟨s6, (laws_markIntS_m ((gt d7 k5).Row.Values) (IntKind.i64.wrap (s6 + 1))).2⟩ : DRow), (laws_markIntS_m ((gt d7 k5).Set) ((laws_markIntS_m ((gt d7 k5).Row.Values) (IntKind.i64.wrap (s6 + 1))).1)).2⟩ : DAnnotated)))) (show k5 < x0.length from by omega) (show laws_markAnnotatedS_b1 k5 s6 d7 = Sum.inr ((laws_markIntS_m ((gt d7 k5).Set) ((laws_markIntS_m ((gt d7 k5).Row.Values) (IntKind.i64.wrap (s6 + 1))).1)).1, (d7.set k5 (⟨(⟨s6, (laws_markIntS_m ((gt d7 k5).Row.Values) (IntKind.i64.wrap (s6 + 1))).2⟩ : DRow), (laws_markIntS_m ((gt d7 k5).Set) ((laws_markIntS_m ((gt d7 k5).Row.Values) (IntKind.i64.wrap (s6 + 1))).1)).2⟩ : DAnnotated))) from by unfold laws_markAnnotatedS_b1; exact rfl) hF9
  exact QM_round (k5 + 1, ((laws_markIntS_m ((gt d7 k5).Set) ((laws_markIntS_m ((gt d7 k5).Row.Values) (IntKind.i64.wrap (s6 + 1))).1)).1, (d7.set k5 (⟨(⟨s6, (laws_markIntS_m ((gt d7 k5).Row.Values) (IntKind.i64.wrap (s6 + 1))).2⟩ : DRow), (laws_markIntS_m ((gt d7 k5).Set) ((laws_markIntS_m ((gt d7 k5).Row.Values) (IntKind.i64.wrap (s6 + 1))).1)).2⟩ : DAnnotated))), ()) sl3 (fun W hm => hm) ⟨(by omega), hn25⟩ (rl (by omega))
 ·have g12 : (decide (((k5 : Nat) : Int) < ((x0.length : Nat) : Int))) = false := decide_eq_false (by omega)
  refine CM_condF rfl g12 ?_
  refine CM_exit (QM_then_exit (QM_then_exit ?_))
  have hE26 : R2 (x0.length - 0) 0 (x1, x0) = Sum.inr (s6, d7) := rng_end hl11 hF9
  refine QM_block_hit (QM_then (sr (wm (wa (nt' (CM_ret ?_))))))
  refine QM_rW rfl rfl (fun W hm => ⟨?_, ?_⟩)
  ·rw [(show laws_markAnnotatedS_m x0 x1 = (s6, d7) from by unfold laws_markAnnotatedS_m; exact fin_inr hE26 (rfl))]
  ·rw [(show laws_markAnnotatedS_m x0 x1 = (s6, d7) from by unfold laws_markAnnotatedS_m; exact fin_inr hE26 (rfl))]; exact hm

def laws_heldIntS_b1 (x0 : (List Int)) (k6 : Nat) (s7 : Int) : Int ⊕ (Int) :=
 cond ((gt x0 k6) != s7) (Sum.inl (-1)) (Sum.inr (IntKind.i64.wrap (s7 + 1)))
def laws_heldIntS_m (x0 : (List Int)) (x1 : Int) : Int :=
 Sum.elim id (fun (s : Int) => s) (rng (R := Int) (fun k (s : Int) => laws_heldIntS_b1 x0 k s) (x0.length - 0) 0 x1)
theorem cb72 : Cb Try.prog 72 := ⟨f72, _, func72, rfl, by decide⟩
theorem laws_heldIntS_c (w : World) (z0 : Value) (x0 : (List Int)) (x1 : Int) (r_0 : rdS tInt w w.heap.size z0 x0) :
  Calls Try.prog 72 #[z0, .int .i64 x1] w fun e w' => e = .returned (.int .i64 (laws_heldIntS_m x0 x1)) ∧ Below w.heap.size w w' := by
 have r5 := r_0
 obtain ⟨m1, A2, c3, rfl, q4⟩ := r_0
 refine ce2 (L := [(0, .slice A2 x0.length c3), (1, .int .i64 x1)]) (N := 21) func72 ?_
 refine sr (wa (nt' (CM_seq (sr (wa (nt' (CM_block ?_)))))))
 let F1 := fun k (s : Int) => laws_heldIntS_b1 x0 k s
 let R2 := rng (R := Int) F1
 refine CM_loop (σ := Nat × (Int) × (Unit)) (fun s => [(0, .slice A2 x0.length c3), (1, .int .i64 s.2.1), (5, .int .i64 ((s.1 : Nat) : Int))]) (fun s => []) (fun s => s.1 ≤ x0.length ∧ R2 (x0.length - s.1) s.1 s.2.1 = R2 (x0.length - 0) 0 x1) (fun s => x0.length - s.1) (0, x1, ()) sl3 (fun W hm => hm) ⟨(by omega), rfl⟩ ?_
 rintro ⟨k6, s7, ⟨⟩⟩ H10
 obtain ⟨hk8, hF9⟩ : k6 ≤ x0.length ∧ R2 (x0.length - k6) k6 s7 = R2 (x0.length - 0) 0 x1 := H10
 show CM Try.prog 21 _ _ _ _ [(0, .slice A2 x0.length c3), (1, .int .i64 s7), (5, .int .i64 ((k6 : Nat) : Int))] []
 refine CM_seq (sr (wm (wm ?_)))
 refine wv (vlen underlying37) ?_
 refine wv vlss ?_
 refine nt' ?_
 by_cases hl11 : k6 < x0.length
 ·have g12 : (decide (((k6 : Nat) : Int) < ((x0.length : Nat) : Int))) = true := decide_eq_true (by omega)
  refine CM_condT rfl g12 ?_
  refine CM_skip (QM_then (CM_seq (CM_block (CM_seq (sr (wm (wm ?_)))))))
  obtain ⟨a13, rfl, hb14, he15⟩ := q4 (by omega)
  refine wv (vix 1 k6 underlying37 type3) ?_
  refine wv (fun W hm => rv_load underlying3 rfl rfl ((hm.cell0 (show (a13.add (k6 * 1)).block < w.heap.size from by rw [add_block]; exact hb14.1)).trans (rdS_int he15 k6 (by omega)))) ?_
  refine wm ?_
  refine wv vneq ?_
  refine nt' ?_
  by_cases h16 : (gt x0 k6) = s7
  ·have g17 : ((gt x0 k6) != s7) = false := by rw [h16]; exact bne_self_eq_false _
   refine CM_condF rfl g17 ?_
   refine CM_skip (QM_then (CM_region (wm ?_)))
   refine wv vadd ?_
   refine wa (WM_nil (QM_block_normal (QM_then (CM_region (wm ?_)))))
   refine wv (vadN k6 1 (by omega)) ?_
   refine wa (WM_nil ?_)
   have hn18 := rng_next (R := Int) (body := F1) (k := k6) (s := s7) (s' := (IntKind.i64.wrap (s7 + 1))) (show k6 < x0.length from by omega) (show laws_heldIntS_b1 x0 k6 s7 = Sum.inr (IntKind.i64.wrap (s7 + 1)) from by unfold laws_heldIntS_b1; exact cond_f g17 (rfl)) hF9
   exact QM_round (k6 + 1, (IntKind.i64.wrap (s7 + 1)), ()) sl3 (fun W hm => hm) ⟨(by omega), hn18⟩ (rl (by omega))
  ·have g17 : ((gt x0 k6) != s7) = true := bne_iff_ne.2 h16
   refine CM_condT rfl g17 ?_
   refine sr (wa (nt' (CM_ret (QM_then_ret (QM_block_ret (QM_then_ret (QM_then_ret (QM_block_ret (QM_then_ret ?_)))))))))
   exact rti (h := by unfold laws_heldIntS_m; exact fin_inl (rng_ret (body := F1) (k := k6) (s := s7) (show k6 < x0.length from by omega) (show laws_heldIntS_b1 x0 k6 s7 = Sum.inl (-1) from by unfold laws_heldIntS_b1; exact cond_t g17 (rfl)) hF9) rfl)
 ·have g12 : (decide (((k6 : Nat) : Int) < ((x0.length : Nat) : Int))) = false := decide_eq_false (by omega)
  refine CM_condF rfl g12 ?_
  refine CM_exit (QM_then_exit (QM_then_exit ?_))
  have hE19 : R2 (x0.length - 0) 0 x1 = Sum.inr s7 := rng_end hl11 hF9
  refine QM_block_hit (QM_then (sr (wm (wa (nt' (CM_ret ?_))))))
  exact rti (h := by unfold laws_heldIntS_m; exact fin_inr hE19 (rfl))

def laws_heldAnnotatedS_b1 (x0 : (List DAnnotated)) (k6 : Nat) (s7 : Int) : Int ⊕ (Int) :=
 cond (((gt x0 k6).Row.Id) != s7) (Sum.inl (-1)) (cond (decide ((laws_heldIntS_m ((gt x0 k6).Row.Values) (IntKind.i64.wrap (s7 + 1))) < 0)) (Sum.inl (-1)) (cond (decide ((laws_heldIntS_m ((gt x0 k6).Set) (laws_heldIntS_m ((gt x0 k6).Row.Values) (IntKind.i64.wrap (s7 + 1)))) < 0)) (Sum.inl (-1)) (Sum.inr (laws_heldIntS_m ((gt x0 k6).Set) (laws_heldIntS_m ((gt x0 k6).Row.Values) (IntKind.i64.wrap (s7 + 1)))))))
def laws_heldAnnotatedS_m (x0 : (List DAnnotated)) (x1 : Int) : Int :=
 Sum.elim id (fun (s : Int) => s) (rng (R := Int) (fun k (s : Int) => laws_heldAnnotatedS_b1 x0 k s) (x0.length - 0) 0 x1)
theorem cb33 : Cb Try.prog 33 := ⟨f33, _, func33, rfl, by decide⟩
theorem laws_heldAnnotatedS_c (w : World) (z0 : Value) (x0 : (List DAnnotated)) (x1 : Int) (r_0 : rdS tyAnnotated w w.heap.size z0 x0) :
  Calls Try.prog 33 #[z0, .int .i64 x1] w fun e w' => e = .returned (.int .i64 (laws_heldAnnotatedS_m x0 x1)) ∧ Below w.heap.size w w' := by
 have r5 := r_0
 obtain ⟨m1, A2, c3, rfl, q4⟩ := r_0
 refine ce2 (L := [(0, .slice A2 x0.length c3), (1, .int .i64 x1)]) (N := 42) func33 ?_
 refine sr (wa (nt' (CM_seq (sr (wa (nt' (CM_block ?_)))))))
 let F1 := fun k (s : Int) => laws_heldAnnotatedS_b1 x0 k s
 let R2 := rng (R := Int) F1
 refine CM_loop (σ := Nat × (Int) × (Unit)) (fun s => [(0, .slice A2 x0.length c3), (1, .int .i64 s.2.1), (5, .int .i64 ((s.1 : Nat) : Int))]) (fun s => []) (fun s => s.1 ≤ x0.length ∧ R2 (x0.length - s.1) s.1 s.2.1 = R2 (x0.length - 0) 0 x1) (fun s => x0.length - s.1) (0, x1, ()) sl3 (fun W hm => hm) ⟨(by omega), rfl⟩ ?_
 rintro ⟨k6, s7, ⟨⟩⟩ H10
 obtain ⟨hk8, hF9⟩ : k6 ≤ x0.length ∧ R2 (x0.length - k6) k6 s7 = R2 (x0.length - 0) 0 x1 := H10
 show CM Try.prog 42 _ _ _ _ [(0, .slice A2 x0.length c3), (1, .int .i64 s7), (5, .int .i64 ((k6 : Nat) : Int))] []
 refine CM_seq (sr (wm (wm ?_)))
 refine wv (vlen underlying31) ?_
 refine wv vlss ?_
 refine nt' ?_
 by_cases hl11 : k6 < x0.length
 ·have g12 : (decide (((k6 : Nat) : Int) < ((x0.length : Nat) : Int))) = true := decide_eq_true (by omega)
  refine CM_condT rfl g12 ?_
  refine CM_skip (QM_then (CM_seq (CM_block (CM_seq (sr (wm (wm ?_)))))))
  obtain ⟨a13, rfl, hb14, he15⟩ := q4 (by omega)
  refine wv (vix 3 k6 underlying31 type52) ?_
  refine wv (vf underlying52 rfl type50) ?_
  refine wv (fun W hm => rv_fieldA (o := 0) underlying50 rfl type3 (by decide) rfl rfl) ?_
  obtain ⟨_, e21, hc16⟩ := he15 k6 _ (gt_some (show k6 < x0.length from by omega))
  obtain ⟨v17, v19, rfl, r18, r20⟩ := tyAnnotated_rd e21
  have r26 := r18
  obtain ⟨m22, A23, c24, rfl, q25⟩ := r18
  have r31 := r20
  obtain ⟨m27, A28, c29, rfl, q30⟩ := r20
  refine wv (fun W hm => rv_load underlying3 rfl rfl ((hm.cell0 (show ((a13.add (k6 * 3)).add 0).block < w.heap.size from by rw [add_block, add_block]; exact hb14.1)).trans (hc16 0 _ rfl))) ?_
  refine wm ?_
  refine wv vneq ?_
  refine nt' ?_
  by_cases h32 : ((gt x0 k6).Row.Id) = s7
  ·have g33 : (((gt x0 k6).Row.Id) != s7) = false := by rw [h32]; exact bne_self_eq_false _
   refine CM_condF rfl g33 ?_
   refine CM_skip (QM_then (sr (wm ?_)))
   refine wv vadd ?_
   refine wa (nt' (sr (wm (wm ?_))))
   refine wv (vix 3 k6 underlying31 type52) ?_
   refine wv (vf underlying52 rfl type50) ?_
   refine wv (fun W hm => rv_fieldA (o := 1) underlying50 rfl type37 (by decide) rfl rfl) ?_
   refine wv (fun W hm => rv_load underlying37 rfl rfl ((hm.cell0 (show ((a13.add (k6 * 3)).add 1).block < w.heap.size from by rw [add_block, add_block]; exact hb14.1)).trans (hc16 1 _ rfl))) ?_
   refine wm ?_
   refine wcv (cl_fn cb72 rfl) (fun W hm => laws_heldIntS_c W _ ((gt x0 k6).Row.Values) (IntKind.i64.wrap (s7 + 1)) (hm.rdS0 r26)) ?_
   refine wa (nt' (CM_seq (sr (wm ?_))))
   refine wv vlss ?_
   refine nt' ?_
   by_cases h34 : (laws_heldIntS_m ((gt x0 k6).Row.Values) (IntKind.i64.wrap (s7 + 1))) < 0
   ·have g35 : (decide ((laws_heldIntS_m ((gt x0 k6).Row.Values) (IntKind.i64.wrap (s7 + 1))) < 0)) = true := decide_eq_true h34
    refine CM_condT rfl g35 ?_
    refine sr (wa (nt' (CM_ret (QM_then_ret (QM_block_ret (QM_then_ret (QM_then_ret (QM_block_ret (QM_then_ret ?_)))))))))
    exact rti (h := by unfold laws_heldAnnotatedS_m; exact fin_inl (rng_ret (body := F1) (k := k6) (s := s7) (show k6 < x0.length from by omega) (show laws_heldAnnotatedS_b1 x0 k6 s7 = Sum.inl (-1) from by unfold laws_heldAnnotatedS_b1; exact cond_f g33 (cond_t g35 (rfl))) hF9) rfl)
   ·have g35 : (decide ((laws_heldIntS_m ((gt x0 k6).Row.Values) (IntKind.i64.wrap (s7 + 1))) < 0)) = false := decide_eq_false h34
    refine CM_condF rfl g35 ?_
    refine CM_skip (QM_then (sr (wm (wm ?_))))
    refine wv (vix 3 k6 underlying31 type52) ?_
    refine wv (vf underlying52 rfl type37) ?_
    refine wv (fun W hm => rv_load underlying37 rfl rfl ((hm.cell0 (show ((a13.add (k6 * 3)).add 2).block < w.heap.size from by rw [add_block, add_block]; exact hb14.1)).trans (hc16 2 _ rfl))) ?_
    refine wm ?_
    refine wcv (cl_fn cb72 rfl) (fun W hm => laws_heldIntS_c W _ ((gt x0 k6).Set) (laws_heldIntS_m ((gt x0 k6).Row.Values) (IntKind.i64.wrap (s7 + 1))) (hm.rdS0 r31)) ?_
    refine wa (nt' (sr (wm ?_)))
    refine wv vlss ?_
    refine nt' ?_
    by_cases h36 : (laws_heldIntS_m ((gt x0 k6).Set) (laws_heldIntS_m ((gt x0 k6).Row.Values) (IntKind.i64.wrap (s7 + 1)))) < 0
    ·have g37 : (decide ((laws_heldIntS_m ((gt x0 k6).Set) (laws_heldIntS_m ((gt x0 k6).Row.Values) (IntKind.i64.wrap (s7 + 1)))) < 0)) = true := decide_eq_true h36
     refine CM_condT rfl g37 ?_
     refine sr (wa (nt' (CM_ret (QM_block_ret (QM_then_ret (QM_then_ret (QM_block_ret (QM_then_ret ?_))))))))
     exact rti (h := by unfold laws_heldAnnotatedS_m; exact fin_inl (rng_ret (body := F1) (k := k6) (s := s7) (show k6 < x0.length from by omega) (show laws_heldAnnotatedS_b1 x0 k6 s7 = Sum.inl (-1) from by unfold laws_heldAnnotatedS_b1; exact cond_f g33 (cond_f g35 (cond_t g37 (rfl)))) hF9) rfl)
    ·have g37 : (decide ((laws_heldIntS_m ((gt x0 k6).Set) (laws_heldIntS_m ((gt x0 k6).Row.Values) (IntKind.i64.wrap (s7 + 1)))) < 0)) = false := decide_eq_false h36
     refine CM_condF rfl g37 ?_
     refine CM_skip (QM_block_normal (QM_then (CM_region (wm ?_))))
     refine wv (vadN k6 1 (by omega)) ?_
     refine wa (WM_nil ?_)
     have hn38 := rng_next (R := Int) (body := F1) (k := k6) (s := s7) (s' := (laws_heldIntS_m ((gt x0 k6).Set) (laws_heldIntS_m ((gt x0 k6).Row.Values) (IntKind.i64.wrap (s7 + 1))))) (show k6 < x0.length from by omega) (show laws_heldAnnotatedS_b1 x0 k6 s7 = Sum.inr (laws_heldIntS_m ((gt x0 k6).Set) (laws_heldIntS_m ((gt x0 k6).Row.Values) (IntKind.i64.wrap (s7 + 1)))) from by unfold laws_heldAnnotatedS_b1; exact cond_f g33 (cond_f g35 (cond_f g37 (rfl)))) hF9
     exact QM_round (k6 + 1, (laws_heldIntS_m ((gt x0 k6).Set) (laws_heldIntS_m ((gt x0 k6).Row.Values) (IntKind.i64.wrap (s7 + 1)))), ()) sl3 (fun W hm => hm) ⟨(by omega), hn38⟩ (rl (by omega))
  ·have g33 : (((gt x0 k6).Row.Id) != s7) = true := bne_iff_ne.2 h32
   refine CM_condT rfl g33 ?_
   refine sr (wa (nt' (CM_ret (QM_then_ret (QM_block_ret (QM_then_ret (QM_then_ret (QM_block_ret (QM_then_ret ?_)))))))))
   exact rti (h := by unfold laws_heldAnnotatedS_m; exact fin_inl (rng_ret (body := F1) (k := k6) (s := s7) (show k6 < x0.length from by omega) (show laws_heldAnnotatedS_b1 x0 k6 s7 = Sum.inl (-1) from by unfold laws_heldAnnotatedS_b1; exact cond_t g33 (rfl)) hF9) rfl)
 ·have g12 : (decide (((k6 : Nat) : Int) < ((x0.length : Nat) : Int))) = false := decide_eq_false (by omega)
  refine CM_condF rfl g12 ?_
  refine CM_exit (QM_then_exit (QM_then_exit ?_))
  have hE39 : R2 (x0.length - 0) 0 x1 = Sum.inr s7 := rng_end hl11 hF9
  refine QM_block_hit (QM_then (sr (wm (wa (nt' (CM_ret ?_))))))
  exact rti (h := by unfold laws_heldAnnotatedS_m; exact fin_inr hE39 (rfl))

end Go.Proofs.Ytdjendhffbjnhaa
