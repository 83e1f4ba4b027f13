/-
  Contracts of functions, printed by a program of ours.
-/
import Derived.Test.YtcjelfdpekbbkaaDoorL6F1
namespace Go.Proofs.YtcjelfdpekbbkaaDoor
open Go.RowKit
set_option maxRecDepth 100000
set_option maxHeartbeats 4000000
open _root_.Go.Proofs.Tryd
def impl_TenantCharge_b2 (x0 : (List DCharge)) (x1 : Int) (k7 : Nat) (k49 : Nat) (s50 : Int) : Int ⊕ (Int) :=
 cond ((gt ((gt x0 k7).Tenants) k49) == x1) (Sum.inr (IntKind.i64.wrap (s50 + (gt (impl_SharesOf_m (gt x0 k7)) k49)))) (Sum.inr s50)
def impl_TenantCharge_b1 (x0 : (List DCharge)) (x1 : Int) (k7 : Nat) (s8 : Int) : Int ⊕ (Int) :=
 Sum.elim Sum.inl (fun (s : Int) => Sum.inr s) (rng (R := Int) (fun k (s : Int) => impl_TenantCharge_b2 x0 x1 k7 k s) ((impl_SharesOf_m (gt x0 k7)).length - 0) 0 s8)
def impl_TenantCharge_m (x0 : (List DCharge)) (x1 : Int) : Int :=
 Sum.elim id (fun (s : Int) => s) (rng (R := Int) (fun k (s : Int) => impl_TenantCharge_b1 x0 x1 k s) (x0.length - 0) 0 0)
theorem cb33 : Cb Tryd.prog 33 := ⟨f33, _, func33, rfl, by decide⟩
theorem impl_TenantCharge_c (w : World) (z0 : Value) (x0 : (List DCharge)) (x1 : Int) (r_0 : rdS tyCharge w w.heap.size z0 x0) (s_0 : (x0.length ≤ 68719476736 ∧ ∀ y ∈ x0, smCharge 68719476736 y)) :
  Calls Tryd.prog 33 #[z0, .int .i64 x1] w fun e w' => e = .returned (.int .i64 (impl_TenantCharge_m x0 x1)) ∧ Below w.heap.size w w' := by
 obtain ⟨m1, A2, c3, rfl, q4, r5⟩ := rdS_op r_0
 have l6 : x0.length ≤ 68719476736 := s_0.1
 refine ce2 (L := [(0, .slice A2 x0.length c3), (1, .int .i64 x1)]) (N := 37) func33 ?_
 refine sr (wa (nt' (sr (wa (nt' (CM_seq (sr (wm ?_))))))))
 refine wv (vlen underlying56) ?_
 refine wm (nt' (CM_block ?_))
 let F1 := fun k (s : Int) => impl_TenantCharge_b1 x0 x1 k s
 let R3 := rng (R := Int) F1
 refine CM_loop (σ := Nat × (Int) × (Unit)) (fun s => [(1, .int .i64 x1), (5, .int .i64 s.2.1), (10, .slice A2 x0.length c3), (11, .int .i64 ((x0.length : Nat) : Int)), (12, .int .i64 ((s.1 : Nat) : Int))]) (fun s => []) (fun s => s.1 ≤ x0.length ∧ R3 (x0.length - s.1) s.1 s.2.1 = R3 (x0.length - 0) 0 0) (fun s => x0.length - s.1) (0, 0, ()) sl5 (fun W hm => hm) ⟨(by omega), rfl⟩ ?_
 rintro ⟨k7, s8, ⟨⟩⟩ H11
 obtain ⟨hk9, hF10⟩ : k7 ≤ x0.length ∧ R3 (x0.length - k7) k7 s8 = R3 (x0.length - 0) 0 0 := H11
 show CM Tryd.prog 37 _ _ _ _ [(1, .int .i64 x1), (5, .int .i64 s8), (10, .slice A2 x0.length c3), (11, .int .i64 ((x0.length : Nat) : Int)), (12, .int .i64 ((k7 : Nat) : Int))] []
 refine sr ?_
 refine wv vlss ?_
 refine nt' (CM_seq ?_)
 by_cases hl12 : k7 < x0.length
 ·have g13 := dlT hl12
  refine CM_condT rfl g13 ?_
  refine CM_skip (QM_then (CM_seq (CM_block (sr ?_))))
  obtain ⟨a14, rfl, hb15, he16⟩ := q4 (by omega)
  refine wv (vix 5 k7 underlying56 type33) ?_
  obtain ⟨_, e24, hc17⟩ := he16 k7 _ (gt_some (show k7 < x0.length from by omega))
  obtain ⟨v18, v20, v22, rfl, r19, r21, r23⟩ := tyCharge_rd e24
  have l25 : ((gt x0 k7).Ids).length ≤ 68719476736 := (s_0.2 _ (gt_mem (show k7 < x0.length from by omega))).1
  have l26 : ((gt x0 k7).Tenants).length ≤ 68719476736 := (s_0.2 _ (gt_mem (show k7 < x0.length from by omega))).2.1
  have l27 : ((gt x0 k7).Rows).length ≤ 68719476736 := (s_0.2 _ (gt_mem (show k7 < x0.length from by omega))).2.2
  obtain ⟨m28, A29, c30, rfl, q31, r32⟩ := rdS_op r19
  obtain ⟨m33, A34, c35, rfl, q36, r37⟩ := rdS_op r21
  obtain ⟨m38, A39, c40, rfl, q41, r42⟩ := rdS_op r23
  let K5 : List Value := [.int .i64 ((gt x0 k7).Segment), .int .i64 ((gt x0 k7).Base), .slice A29 ((gt x0 k7).Ids).length c30, .slice A34 ((gt x0 k7).Tenants).length c35, .slice A39 ((gt x0 k7).Rows).length c40]
  refine wv (fun W hm => rv_loadN (cs := K5) underlying33 type33 rfl rfl (hm.elCells (show (a14.add (k7 * 5)).block < w.heap.size from by rw [add_block]; exact hb15.1) hc17)) ?_
  refine WM_alloc type33 rfl (Wd_none rfl) (by decide) (fun p43 => ?_)
  refine sb 0 K5 [] (fun W hm => hm) type33 ?_
  refine nt' (sr ?_)
  refine wv (fun W hm => rv_loadN (cs := K5) underlying33 type33 rfl rfl (hm.boxCells (n := 0) rfl)) ?_
  refine wcl (tSl tInt 3) (impl_SharesOf_m (gt x0 k7)) (cl_fn cb23 rfl) (fun W hm => impl_SharesOf_c W _ (gt x0 k7) (tyCharge_mk (x := (gt x0 k7)) (hm.rdS0 r32) (hm.rdS0 r37) (hm.rdS0 r42)) (s_0.2 _ (gt_mem (show k7 < x0.length from by omega)))) (fun z44 => ?_)
  have hsl := impl_SharesOf_len (gt x0 k7)
  refine WM_form (n := 0) rfl ?_
  rintro A45 c46 rfl m47
  refine wv (vlen underlying28) ?_
  refine wm (nt' (CM_block ?_))
  let F2 := fun k (s : Int) => impl_TenantCharge_b2 x0 x1 k7 k s
  let R4 := rng (R := Int) F2
  let I6 : It := iOwn (tSl tInt 3) [.slice A45 (impl_SharesOf_m (gt x0 k7)).length c46] (impl_SharesOf_m (gt x0 k7))
  refine CM_loop (σ := Nat × (Int) × (Unit)) (fun s => [(1, .int .i64 x1), (5, .int .i64 s.2.1), (7, .pointer (some (⟨p43, 0, none⟩ : Addr))), (10, .slice (some a14) x0.length c3), (11, .int .i64 ((x0.length : Nat) : Int)), (12, .int .i64 ((k7 : Nat) : Int)), (17, .slice A45 (impl_SharesOf_m (gt x0 k7)).length c46), (18, .int .i64 (((impl_SharesOf_m (gt x0 k7)).length : Nat) : Int)), (19, .int .i64 ((s.1 : Nat) : Int))]) (fun s => [I6, iBox p43 33 K5]) (fun s => s.1 ≤ (impl_SharesOf_m (gt x0 k7)).length ∧ R4 ((impl_SharesOf_m (gt x0 k7)).length - s.1) s.1 s.2.1 = R4 ((impl_SharesOf_m (gt x0 k7)).length - 0) 0 s8) (fun s => (impl_SharesOf_m (gt x0 k7)).length - s.1) (0, s8, ()) sl9 (fun W hm => hm) ⟨(by omega), rfl⟩ ?_
  rintro ⟨k49, s50, ⟨⟩⟩ H53
  obtain ⟨hk51, hF52⟩ : k49 ≤ (impl_SharesOf_m (gt x0 k7)).length ∧ R4 ((impl_SharesOf_m (gt x0 k7)).length - k49) k49 s50 = R4 ((impl_SharesOf_m (gt x0 k7)).length - 0) 0 s8 := H53
  show CM Tryd.prog 37 _ _ _ _ [(1, .int .i64 x1), (5, .int .i64 s50), (7, .pointer (some (⟨p43, 0, none⟩ : Addr))), (10, .slice (some a14) x0.length c3), (11, .int .i64 ((x0.length : Nat) : Int)), (12, .int .i64 ((k7 : Nat) : Int)), (17, .slice A45 (impl_SharesOf_m (gt x0 k7)).length c46), (18, .int .i64 (((impl_SharesOf_m (gt x0 k7)).length : Nat) : Int)), (19, .int .i64 ((k49 : Nat) : Int))] [I6, iBox p43 33 K5]
  refine sr ?_
  refine wv vlss ?_
  refine nt' (CM_seq ?_)
  by_cases hl54 : k49 < (impl_SharesOf_m (gt x0 k7)).length
  ·have g55 := dlT hl54
   refine CM_condT rfl g55 ?_
   refine CM_skip (QM_then (CM_seq (CM_block (sr (wm ?_)))))
   refine WM_formO (n := 0) rfl (by omega) ?_
   rintro g56 rfl
   refine wv (vix 1 k49 underlying28 type3) ?_
   refine wv (fun W hm => rv_load underlying3 rfl rfl (hm.ownInt (i := 0) rfl (by omega))) ?_
   refine wa (wa (nt' (sr ?_)))
   refine wv (vf underlying33 rfl type28) ?_
   refine wv (vl 1 3 underlying28) ?_
   refine wm ?_
   obtain ⟨a57, rfl, hb58, he59⟩ := q36 (by omega)
   refine wv (vix 1 k49 underlying28 type3) ?_
   refine wv (fun W hm => rv_load underlying3 rfl rfl ((hm.cell0 (show (a57.add (k49 * 1)).block < w.heap.size from by rw [add_block]; exact hb58.1)).trans (rdS_int he59 k49 (by omega)))) ?_
   refine wm ?_
   refine wv (fun W hm => rv_eql rfl rfl) ?_
   refine nt' ?_
   by_cases h60 : (gt ((gt x0 k7).Tenants) k49) = x1
   ·have g61 := beq_iff_eq.2 h60
    refine CM_condT rfl g61 ?_
    refine CM_region (wm (wm ?_))
    refine wv vadd ?_
    refine wa (WM_nil (QM_block_normal (QM_then (CM_region ?_))))
    refine wv (vadN k49 1 (by omega)) ?_
    refine wm (WM_nil ?_)
    have hn62 := rng_next (R := Int) (body := F2) (k := k49) (s := s50) (s' := (IntKind.i64.wrap (s50 + (gt (impl_SharesOf_m (gt x0 k7)) k49)))) (show k49 < (impl_SharesOf_m (gt x0 k7)).length from by omega) (cond_t g61 (rfl)) hF52
    exact QM_round (k49 + 1, (IntKind.i64.wrap (s50 + (gt (impl_SharesOf_m (gt x0 k7)) k49))), ()) sl9 (fun W hm => hm) ⟨(by omega), hn62⟩ (show (impl_SharesOf_m (gt x0 k7)).length - (k49 + 1) < (impl_SharesOf_m (gt x0 k7)).length - k49 from by omega)
   ·have g61 := beq_eq_false_iff_ne.2 h60
    refine CM_condF rfl g61 ?_
    refine CM_skip (QM_block_normal (QM_then (CM_region ?_)))
    refine wv (vadN k49 1 (by omega)) ?_
    refine wm (WM_nil ?_)
    have hn63 := rng_next (R := Int) (body := F2) (k := k49) (s := s50) (s' := s50) (show k49 < (impl_SharesOf_m (gt x0 k7)).length from by omega) (cond_f g61 (rfl)) hF52
    exact QM_round (k49 + 1, s50, ()) sl9 (fun W hm => hm) ⟨(by omega), hn63⟩ (show (impl_SharesOf_m (gt x0 k7)).length - (k49 + 1) < (impl_SharesOf_m (gt x0 k7)).length - k49 from by omega)
  ·have g55 := dlF hl54
   refine CM_condF rfl g55 ?_
   refine CM_exit (QM_then_exit (QM_then_exit ?_))
   have hE64 : R4 ((impl_SharesOf_m (gt x0 k7)).length - 0) 0 s8 = Sum.inr s50 := rng_end hl54 hF52
   refine QM_block_hit (QM_block_normal (QM_then (CM_region ?_)))
   refine wv (vadN k7 1 (by omega)) ?_
   refine wm (WM_nil ?_)
   have hn65 := rng_next (R := Int) (body := F1) (k := k7) (s := s8) (s' := s50) (show k7 < x0.length from by omega) (fin_inr hE64 (rfl)) hF10
   exact QM_round (k7 + 1, s50, ()) sl5 (pk []) ⟨(by omega), hn65⟩ (rl (by omega))
 ·have g13 := dlF hl12
  refine CM_condF rfl g13 ?_
  refine CM_exit (QM_then_exit (QM_then_exit ?_))
  have hE66 : R3 (x0.length - 0) 0 0 = Sum.inr s8 := rng_end hl12 hF10
  refine QM_block_hit (QM_then (sr (wm (wa (nt' (CM_ret ?_))))))
  exact rti (h := fin_inr hE66 (rfl))

def spec_DrawTenantCharge_m (x0 : (List Int)) : ((List DCharge) × Int) :=
 ((spec_l10Ledger_m x0 (spec_l1New_m x0)).1, (IntKind.i64.wrap (((spec_l1Below_m x0 (spec_l10Ledger_m x0 (spec_l1New_m x0)).2 6).1) - 1)))
theorem cb34 : Cb Tryd.prog 34 := ⟨f34, _, func34, rfl, by decide⟩
theorem spec_DrawTenantCharge_c (w : World) (z0 : Value) (x0 : (List Int)) (r_0 : rdS tU8 w w.heap.size z0 x0) (s_0 : x0.length ≤ 68719476736) :
  Calls Tryd.prog 34 #[z0] w fun e w' => ∃ v : Value, e = .returned (.tuple #[v, .int .i64 ((spec_DrawTenantCharge_m x0).2)]) ∧ Mem w.heap.size w [iOwn (tSl tyCharge 33) [v] (spec_DrawTenantCharge_m x0).1] w' := by
 obtain ⟨m1, A2, c3, rfl, q4, r5⟩ := rdS_op r_0
 have l6 : x0.length ≤ 68719476736 := s_0
 refine ce1 (L := [(0, .slice A2 x0.length c3)]) (N := 14) func34 ?_
 refine sr (wa (wa (nt' (sr (wm ?_)))))
 refine WM_call (χ := Nat) (val := fun p => .pointer (some ⟨p, 0, none⟩)) (js := fun p => [iBox p 115 [.slice A2 x0.length c3, .int .i64 (((spec_l1New_m x0).i : Nat) : Int), .int .i64 ((spec_l1New_m x0).h)]]) (cl_fn cb64 rfl) (fun W hm => spec_l1New_c W _ x0 (hm.rdS0 r5) s_0) (Wd_none rfl) (by decide) (fun p7 => ?_)
 refine wa (nt' (sr (wm ?_)))
 refine WM_callW (χ := Value) (val := fun x => x) (js := fun x => (iOwn (tSl tyCharge 33) [x] ((spec_l10Ledger_m x0 (spec_l1New_m x0)).1) :: iBox p7 115 [.slice A2 x0.length c3, .int .i64 ((((spec_l10Ledger_m x0 (spec_l1New_m x0)).2).i : Nat) : Int), .int .i64 ((spec_l10Ledger_m x0 (spec_l1New_m x0)).2).h] :: [])) (cl_fn cb66 rfl) (fun W hm => spec_l10Ledger_c w.heap.size w [] W p7 _ x0 (spec_l1New_m x0) r5 s_0 hm) (Wd_none rfl) (by decide) (fun z8 => ?_)
 obtain ⟨G9, hG9⟩ : ∃ G, G = (spec_l10Ledger_m x0 (spec_l1New_m x0)) := ⟨_, rfl⟩
 rw [← hG9]
 refine WM_form (n := 0) rfl ?_
 rintro A10 c11 rfl m12
 refine wa (nt' (sr (wm (wm ?_))))
 let I1 : It := iOwn (tSl tyCharge 33) [.slice A10 G9.1.length c11] G9.1
 refine WM_callW (χ := Unit) (val := fun x => .int .i64 ((spec_l1Below_m x0 G9.2 6).1)) (js := fun x => (iBox p7 115 [.slice A2 x0.length c3, .int .i64 ((((spec_l1Below_m x0 G9.2 6).2).i : Nat) : Int), .int .i64 ((spec_l1Below_m x0 G9.2 6).2).h] :: [I1])) (cl_fn cb67 rfl) (fun W hm => spec_l1Below_c w.heap.size w [I1] W p7 _ x0 G9.2 r5 6 s_0 (hm.pick [1, 0] (by decide))) (Wd_none rfl) (by decide) (fun z14 => ?_)
 have hb := spec_l1Below_rng x0 G9.2 6
 refine wv (fun W hm => rv_sub rfl rfl) ?_
 refine wa (wa (nt' (CM_ret ?_)))
 have he15 := (show spec_DrawTenantCharge_m x0 = (G9.1, (IntKind.i64.wrap (((spec_l1Below_m x0 G9.2 6).1) - 1))) from by subst hG9; exact rfl)
 refine QM_r2 rfl (RR_tmp rfl) (RR_tmp rfl) (fun W hm => ⟨.slice A10 G9.1.length c11, ?_, ?_⟩)
 ·first | rw [he15] | rfl
  try rfl
 ·rw [he15]; exact (hm.pick [1] (by decide))

def spec_HasMember_b1 (x0 : (List Int)) (x1 : Int) (k6 : Nat) : Bool ⊕ (Unit) :=
 cond ((gt x0 k6) == x1) (Sum.inl true) (Sum.inr ())
def spec_HasMember_m (x0 : (List Int)) (x1 : Int) : Bool :=
 Sum.elim id (fun (s : Unit) => false) (rng (R := Bool) (fun k (_ : Unit) => spec_HasMember_b1 x0 x1 k) (x0.length - 0) 0 ())
theorem cb69 : Cb Tryd.prog 69 := ⟨f69, _, func69, rfl, by decide⟩
theorem spec_HasMember_c (w : World) (z0 : Value) (x0 : (List Int)) (x1 : Int) (r_0 : rdS tInt w w.heap.size z0 x0) :
  Calls Tryd.prog 69 #[z0, .int .i64 x1] w fun e w' => e = .returned (.bool (spec_HasMember_m x0 x1)) ∧ Below w.heap.size w w' := by
 obtain ⟨m1, A2, c3, rfl, q4, r5⟩ := rdS_op r_0
 refine ce2 (L := [(0, .slice A2 x0.length c3), (1, .int .i64 x1)]) (N := 18) func69 ?_
 refine sr (wa (nt' (CM_seq (sr (wa (nt' (CM_block ?_)))))))
 let F1 := fun k (_ : Unit) => spec_HasMember_b1 x0 x1 k
 let R2 := rng (R := Bool) F1
 refine CM_loop (σ := Nat × (Unit) × (Unit)) (fun s => [(0, .slice A2 x0.length c3), (1, .int .i64 x1), (5, .int .i64 ((s.1 : Nat) : Int))]) (fun s => []) (fun s => s.1 ≤ x0.length ∧ R2 (x0.length - s.1) s.1 s.2.1 = R2 (x0.length - 0) 0 ()) (fun s => x0.length - s.1) (0, (), ()) sl3 (fun W hm => hm) ⟨(by omega), rfl⟩ ?_
 rintro ⟨k6, ⟨⟩, ⟨⟩⟩ H9
 obtain ⟨hk7, hF8⟩ : k6 ≤ x0.length ∧ R2 (x0.length - k6) k6 () = R2 (x0.length - 0) 0 () := H9
 show CM Tryd.prog 18 _ _ _ _ [(0, .slice A2 x0.length c3), (1, .int .i64 x1), (5, .int .i64 ((k6 : Nat) : Int))] []
 refine CM_seq (sr (wm (wm ?_)))
 refine wv (vlen underlying28) ?_
 refine wv vlss ?_
 refine nt' ?_
 by_cases hl10 : k6 < x0.length
 ·have g11 := dlT hl10
  refine CM_condT rfl g11 ?_
  refine CM_skip (QM_then (CM_seq (CM_block (sr (wm (wm ?_))))))
  obtain ⟨a12, rfl, hb13, he14⟩ := q4 (by omega)
  refine wv (vix 1 k6 underlying28 type3) ?_
  refine wv (fun W hm => rv_load underlying3 rfl rfl ((hm.cell0 (show (a12.add (k6 * 1)).block < w.heap.size from by rw [add_block]; exact hb13.1)).trans (rdS_int he14 k6 (by omega)))) ?_
  refine wm ?_
  refine wv (fun W hm => rv_eql rfl rfl) ?_
  refine nt' ?_
  by_cases h15 : (gt x0 k6) = x1
  ·have g16 := beq_iff_eq.2 h15
   refine CM_condT rfl g16 ?_
   refine sr (wa (nt' (CM_ret (QM_block_ret (QM_then_ret (QM_then_ret (QM_block_ret (QM_then_ret ?_))))))))
   exact rtb (h := fin_inl (rng_ret (body := F1) (k := k6) (s := ()) (show k6 < x0.length from by omega) (cond_t g16 (rfl)) hF8) rfl)
  ·have g16 := beq_eq_false_iff_ne.2 h15
   refine CM_condF rfl g16 ?_
   refine CM_skip (QM_block_normal (QM_then (CM_region (wm ?_))))
   refine wv (vadN k6 1 (by omega)) ?_
   refine wa (WM_nil ?_)
   have hn17 := rng_next (R := Bool) (body := F1) (k := k6) (s := ()) (s' := ()) (show k6 < x0.length from by omega) (cond_f g16 (rfl)) hF8
   exact QM_round (k6 + 1, (), ()) sl3 (fun W hm => hm) ⟨(by omega), hn17⟩ (rl (by omega))
 ·have g11 := dlF hl10
  refine CM_condF rfl g11 ?_
  refine CM_exit (QM_then_exit (QM_then_exit ?_))
  have hE18 : R2 (x0.length - 0) 0 () = Sum.inr () := rng_end hl10 hF8
  refine QM_block_hit (QM_then (sr (wa (nt' (CM_ret ?_)))))
  exact rtb (h := fin_inr hE18 (rfl))

def spec_CoalitionCost_b2 (x0 : (List DCharge)) (x1 : (List Int)) (k11 : Nat) (k44 : Nat) (s45 : Int) (s46 : Bool) : Int ⊕ ((Int × Bool) ⊕ (Int × Bool)) :=
 cond (spec_IsCharge_m (gt x0 k11)) (cond (spec_HasMember_m x1 (gt ((gt x0 k11).Tenants) k44)) (Sum.inr (Sum.inr ((IntKind.i64.wrap (s45 + (gt ((gt x0 k11).Rows) k44))), true))) (Sum.inr (Sum.inr (s45, s46)))) (Sum.inr (Sum.inl (s45, s46)))
def spec_CoalitionCost_b1 (x0 : (List DCharge)) (x1 : (List Int)) (k11 : Nat) (s12 : Int) : Int ⊕ (Int) :=
 Sum.elim Sum.inl (fun (s : Int × Bool) => cond s.2 (Sum.inr (IntKind.i64.wrap (s.1 + ((gt x0 k11).Base)))) (Sum.inr s.1)) (rngb (R := Int) (fun k (s : Int × Bool) => spec_CoalitionCost_b2 x0 x1 k11 k s.1 s.2) (((gt x0 k11).Ids).length - 0) 0 (s12, false))
def spec_CoalitionCost_m (x0 : (List DCharge)) (x1 : (List Int)) : Int :=
 Sum.elim id (fun (s : Int) => s) (rng (R := Int) (fun k (s : Int) => spec_CoalitionCost_b1 x0 x1 k s) (x0.length - 0) 0 0)
theorem cb35 : Cb Tryd.prog 35 := ⟨f35, _, func35, rfl, by decide⟩
theorem spec_CoalitionCost_c (w : World) (z0 : Value) (x0 : (List DCharge)) (z1 : Value) (x1 : (List Int)) (r_0 : rdS tyCharge w w.heap.size z0 x0) (r_1 : rdS tInt w w.heap.size z1 x1) :
  Calls Tryd.prog 35 #[z0, z1] w fun e w' => e = .returned (.int .i64 (spec_CoalitionCost_m x0 x1)) ∧ Below w.heap.size w w' := by
 obtain ⟨m1, A2, c3, rfl, q4, r5⟩ := rdS_op r_0
 obtain ⟨m6, A7, c8, rfl, q9, r10⟩ := rdS_op r_1
 refine ce2 (L := [(0, .slice A2 x0.length c3), (1, .slice A7 x1.length c8)]) (N := 61) func35 ?_
 refine sr (wa (nt' (sr (wa (nt' (CM_seq (sr (wa (nt' (CM_block ?_))))))))))
 let F1 := fun k (s : Int) => spec_CoalitionCost_b1 x0 x1 k s
 let R3 := rng (R := Int) F1
 refine CM_loop (σ := Nat × (Int) × (Unit)) (fun s => [(0, .slice A2 x0.length c3), (1, .slice A7 x1.length c8), (5, .int .i64 s.2.1), (6, .int .i64 ((s.1 : Nat) : Int))]) (fun s => []) (fun s => s.1 ≤ x0.length ∧ R3 (x0.length - s.1) s.1 s.2.1 = R3 (x0.length - 0) 0 0) (fun s => x0.length - s.1) (0, 0, ()) sl4 (fun W hm => hm) ⟨(by omega), rfl⟩ ?_
 rintro ⟨k11, s12, ⟨⟩⟩ H15
 obtain ⟨hk13, hF14⟩ : k11 ≤ x0.length ∧ R3 (x0.length - k11) k11 s12 = R3 (x0.length - 0) 0 0 := H15
 show CM Tryd.prog 61 _ _ _ _ [(0, .slice A2 x0.length c3), (1, .slice A7 x1.length c8), (5, .int .i64 s12), (6, .int .i64 ((k11 : Nat) : Int))] []
 refine CM_seq (sr (wm (wm ?_)))
 refine wv (vlen underlying56) ?_
 refine wv vlss ?_
 refine nt' ?_
 by_cases hl16 : k11 < x0.length
 ·have g17 := dlT hl16
  refine CM_condT rfl g17 ?_
  refine CM_skip (QM_then (CM_seq (CM_block (sr (wa (nt' (CM_seq (sr (wa (nt' ?_))))))))))
  obtain ⟨a18, rfl, hb19, he20⟩ := q4 (by omega)
  obtain ⟨_, e28, hc21⟩ := he20 k11 _ (gt_some (show k11 < x0.length from by omega))
  obtain ⟨v22, v24, v26, rfl, r23, r25, r27⟩ := tyCharge_rd e28
  obtain ⟨m29, A30, c31, rfl, q32, r33⟩ := rdS_op r23
  obtain ⟨m34, A35, c36, rfl, q37, r38⟩ := rdS_op r25
  obtain ⟨m39, A40, c41, rfl, q42, r43⟩ := rdS_op r27
  let F2 := fun k (s : Int × Bool) => spec_CoalitionCost_b2 x0 x1 k11 k s.1 s.2
  let R4 := rngb (R := Int) F2
  refine CM_cut (σ := (Int × Bool) × (Unit)) (fun s => [(0, .slice (some a18) x0.length c3), (1, .slice A7 x1.length c8), (5, .int .i64 s.1.1), (6, .int .i64 ((k11 : Nat) : Int)), (7, .bool s.1.2)]) (fun s => []) (fun s => R4 (((gt x0 k11).Ids).length - 0) 0 (s12, false) = Sum.inr s.1) ?_ ?_
  ·
   refine CM_block ?_
   refine CM_loop (σ := Nat × (Int × Bool) × (Unit)) (fun s => [(0, .slice (some a18) x0.length c3), (1, .slice A7 x1.length c8), (5, .int .i64 s.2.1.1), (6, .int .i64 ((k11 : Nat) : Int)), (7, .bool s.2.1.2), (8, .int .i64 ((s.1 : Nat) : Int))]) (fun s => []) (fun s => s.1 ≤ ((gt x0 k11).Ids).length ∧ R4 (((gt x0 k11).Ids).length - s.1) s.1 s.2.1 = R4 (((gt x0 k11).Ids).length - 0) 0 (s12, false)) (fun s => ((gt x0 k11).Ids).length - s.1) (0, (s12, false), ()) sl6 (fun W hm => hm) ⟨(by omega), rfl⟩ ?_
   rintro ⟨k44, ⟨s45, s46⟩, ⟨⟩⟩ H49
   obtain ⟨hk47, hF48⟩ : k44 ≤ ((gt x0 k11).Ids).length ∧ R4 (((gt x0 k11).Ids).length - k44) k44 (s45, s46) = R4 (((gt x0 k11).Ids).length - 0) 0 (s12, false) := H49
   show CM Tryd.prog 61 _ _ _ _ [(0, .slice (some a18) x0.length c3), (1, .slice A7 x1.length c8), (5, .int .i64 s45), (6, .int .i64 ((k11 : Nat) : Int)), (7, .bool s46), (8, .int .i64 ((k44 : Nat) : Int))] []
   refine CM_seq (sr (wm (wm (wm ?_))))
   refine wv (vix 5 k11 underlying56 type33) ?_
   refine wv (vf underlying33 rfl type28) ?_
   refine wv (fun W hm => rv_load underlying28 rfl rfl ((hm.cell0 (show ((a18.add (k11 * 5)).add 2).block < w.heap.size from by rw [add_block, add_block]; exact hb19.1)).trans (hc21 2 _ rfl))) ?_
   refine wv (vlen underlying28) ?_
   refine wv vlss ?_
   refine wm ?_
   by_cases hl50 : k44 < ((gt x0 k11).Ids).length
   ·have g51 := dlT hl50
    refine wg vmv g51 ?_
    refine wg vmv g51 ?_
    refine wg (vix 5 k11 underlying56 type33) g51 ?_
    refine wg (fun W hm => rv_loadN (cs := [.int .i64 ((gt x0 k11).Segment), .int .i64 ((gt x0 k11).Base), .slice A30 ((gt x0 k11).Ids).length c31, .slice A35 ((gt x0 k11).Tenants).length c36, .slice A40 ((gt x0 k11).Rows).length c41]) underlying33 type33 rfl rfl (hm.elCells (show (a18.add (k11 * 5)).block < w.heap.size from by rw [add_block]; exact hb19.1) hc21)) g51 ?_
    refine WM_callV (cl_fn cb27 rfl) (fun W hm => spec_IsCharge_c W _ (gt x0 k11) (tyCharge_mk (x := (gt x0 k11)) (hm.rdS0 r33) (hm.rdS0 r38) (hm.rdS0 r43))) (Wd_some rfl rfl rfl (bw g51 rfl)) (by decide) ?_
    refine wv (vpT g51) ?_
    refine nt' ?_
    rcases Bool.eq_false_or_eq_true (spec_IsCharge_m (gt x0 k11)) with g53 | g53
    ·
     obtain ⟨hq1, hq2, hq3⟩ := spec_IsCharge_fact g53
     refine CM_condT rfl g53 ?_
     refine CM_skip (QM_then (CM_seq (CM_block (sr (wm (wm (wm ?_)))))))
     refine wv (vix 5 k11 underlying56 type33) ?_
     refine wv (vf underlying33 rfl type28) ?_
     refine wv (fun W hm => rv_load underlying28 rfl rfl ((hm.cell0 (show ((a18.add (k11 * 5)).add 3).block < w.heap.size from by rw [add_block, add_block]; exact hb19.1)).trans (hc21 3 _ rfl))) ?_
     refine wm ?_
     obtain ⟨a54, rfl, hb55, he56⟩ := q37 (by omega)
     refine wv (vix 1 k44 underlying28 type3) ?_
     refine wv (fun W hm => rv_load underlying3 rfl rfl ((hm.cell0 (show (a54.add (k44 * 1)).block < w.heap.size from by rw [add_block]; exact hb55.1)).trans (rdS_int he56 k44 (by omega)))) ?_
     refine wcv (cl_fn cb69 rfl) (fun W hm => spec_HasMember_c W _ x1 (gt ((gt x0 k11).Tenants) k44) (hm.rdS0 r10)) ?_
     refine nt' ?_
     rcases Bool.eq_false_or_eq_true (spec_HasMember_m x1 (gt ((gt x0 k11).Tenants) k44)) with g58 | g58
     ·
      refine CM_condT rfl g58 ?_
      refine sr (wa (nt' (CM_region (wm (wm (wm ?_))))))
      refine wv (vix 5 k11 underlying56 type33) ?_
      refine wv (vf underlying33 rfl type28) ?_
      refine wv (fun W hm => rv_load underlying28 rfl rfl ((hm.cell0 (show ((a18.add (k11 * 5)).add 4).block < w.heap.size from by rw [add_block, add_block]; exact hb19.1)).trans (hc21 4 _ rfl))) ?_
      refine wm ?_
      obtain ⟨a59, rfl, hb60, he61⟩ := q42 (by omega)
      refine wv (vix 1 k44 underlying28 type3) ?_
      refine wv (fun W hm => rv_load underlying3 rfl rfl ((hm.cell0 (show (a59.add (k44 * 1)).block < w.heap.size from by rw [add_block]; exact hb60.1)).trans (rdS_int he61 k44 (by omega)))) ?_
      refine wv vadd ?_
      refine wa (WM_nil (QM_block_normal (QM_then (CM_region (wm ?_)))))
      refine wv (vadN k44 1 (by omega)) ?_
      refine wa (WM_nil ?_)
      have hn62 := rngb_next (R := Int) (body := F2) (k := k44) (s := (s45, s46)) (s' := ((IntKind.i64.wrap (s45 + (gt ((gt x0 k11).Rows) k44))), true)) (show k44 < ((gt x0 k11).Ids).length from by omega) (cond_t g53 (cond_t g58 (rfl))) hF48
      exact QM_round (k44 + 1, ((IntKind.i64.wrap (s45 + (gt ((gt x0 k11).Rows) k44))), true), ()) sl6 (fun W hm => hm) ⟨(by omega), hn62⟩ (show ((gt x0 k11).Ids).length - (k44 + 1) < ((gt x0 k11).Ids).length - k44 from by omega)
     ·
      refine CM_condF rfl g58 ?_
      refine CM_skip (QM_block_normal (QM_then (CM_region (wm ?_))))
      refine wv (vadN k44 1 (by omega)) ?_
      refine wa (WM_nil ?_)
      have hn63 := rngb_next (R := Int) (body := F2) (k := k44) (s := (s45, s46)) (s' := (s45, s46)) (show k44 < ((gt x0 k11).Ids).length from by omega) (cond_t g53 (cond_f g58 (rfl))) hF48
      exact QM_round (k44 + 1, (s45, s46), ()) sl6 (fun W hm => hm) ⟨(by omega), hn63⟩ (show ((gt x0 k11).Ids).length - (k44 + 1) < ((gt x0 k11).Ids).length - k44 from by omega)
    ·
     refine CM_condF rfl g53 ?_
     refine CM_exit (QM_then_exit (QM_then_exit (QM_block_hit ?_)))
     have hE64 := rngb_brk (R := Int) (body := F2) (k := k44) (s := (s45, s46)) (s' := (s45, s46)) (show k44 < ((gt x0 k11).Ids).length from by omega) (cond_f g53 (rfl)) hF48
     exact QM_cut_normal ((s45, s46), ()) sl5 (fun W hm => hm) hE64
   ·have g51 := dlF hl50
    refine ws g51 ?_
    refine ws g51 ?_
    refine ws g51 ?_
    refine ws g51 ?_
    refine ws g51 ?_
    refine wv (vpF g51) ?_
    refine nt' ?_
    refine CM_condF rfl rfl ?_
    refine CM_exit (QM_then_exit (QM_then_exit (QM_block_hit ?_)))
    have hE65 : R4 (((gt x0 k11).Ids).length - 0) 0 (s12, false) = Sum.inr (s45, s46) := rngb_end hl50 hF48
    exact QM_cut_normal ((s45, s46), ()) sl5 (fun W hm => hm) hE65
  ·
   rintro ⟨⟨s45, s46⟩, ⟨⟩⟩ H67
   have hE66 : R4 (((gt x0 k11).Ids).length - 0) 0 (s12, false) = Sum.inr (s45, s46) := H67
   show QM 61 _ _ _ .normal [(0, .slice (some a18) x0.length c3), (1, .slice A7 x1.length c8), (5, .int .i64 s45), (6, .int .i64 ((k11 : Nat) : Int)), (7, .bool s46)] []
   refine QM_then (sr (wm (nt' ?_)))
   rcases Bool.eq_false_or_eq_true s46 with g69 | g69
   ·
    refine CM_condT rfl g69 ?_
    refine CM_region (wm (wm (wm ?_)))
    refine wv (vix 5 k11 underlying56 type33) ?_
    refine wv (vf underlying33 rfl type3) ?_
    refine wv (fun W hm => rv_load underlying3 rfl rfl ((hm.cell0 (show ((a18.add (k11 * 5)).add 1).block < w.heap.size from by rw [add_block, add_block]; exact hb19.1)).trans (hc21 1 _ rfl))) ?_
    refine wv vadd ?_
    refine wa (WM_nil (QM_block_normal (QM_then (CM_region (wm ?_)))))
    refine wv (vadN k11 1 (by omega)) ?_
    refine wa (WM_nil ?_)
    have hn70 := rng_next (R := Int) (body := F1) (k := k11) (s := s12) (s' := (IntKind.i64.wrap (s45 + ((gt x0 k11).Base)))) (show k11 < x0.length from by omega) (fin_inr hE66 (cond_t g69 (rfl))) hF14
    exact QM_round (k11 + 1, (IntKind.i64.wrap (s45 + ((gt x0 k11).Base))), ()) sl4 (fun W hm => hm) ⟨(by omega), hn70⟩ (rl (by omega))
   ·
    refine CM_condF rfl g69 ?_
    refine CM_skip (QM_block_normal (QM_then (CM_region (wm ?_))))
    refine wv (vadN k11 1 (by omega)) ?_
    refine wa (WM_nil ?_)
    have hn71 := rng_next (R := Int) (body := F1) (k := k11) (s := s12) (s' := s45) (show k11 < x0.length from by omega) (fin_inr hE66 (cond_f g69 (rfl))) hF14
    exact QM_round (k11 + 1, s45, ()) sl4 (fun W hm => hm) ⟨(by omega), hn71⟩ (rl (by omega))
 ·have g17 := dlF hl16
  refine CM_condF rfl g17 ?_
  refine CM_exit (QM_then_exit (QM_then_exit ?_))
  have hE72 : R3 (x0.length - 0) 0 0 = Sum.inr s12 := rng_end hl16 hF14
  refine QM_block_hit (QM_then (sr (wm (wa (nt' (CM_ret ?_))))))
  exact rti (h := fin_inr hE72 (rfl))

def spec_TenantCharge_b2 (x0 : (List DCharge)) (x1 : Int) (k7 : Nat) (k48 : Nat) (s49 : Int) : Int ⊕ (Int) :=
 cond ((gt ((gt x0 k7).Tenants) k48) == x1) (Sum.inr (IntKind.i64.wrap (s49 + (gt (spec_SharesOf_m (gt x0 k7)) k48)))) (Sum.inr s49)
def spec_TenantCharge_b1 (x0 : (List DCharge)) (x1 : Int) (k7 : Nat) (s8 : Int) : Int ⊕ (Int) :=
 Sum.elim Sum.inl (fun (s : Int) => Sum.inr s) (rng (R := Int) (fun k (s : Int) => spec_TenantCharge_b2 x0 x1 k7 k s) ((spec_SharesOf_m (gt x0 k7)).length - 0) 0 s8)
def spec_TenantCharge_m (x0 : (List DCharge)) (x1 : Int) : Int :=
 Sum.elim id (fun (s : Int) => s) (rng (R := Int) (fun k (s : Int) => spec_TenantCharge_b1 x0 x1 k s) (x0.length - 0) 0 0)
theorem cb36 : Cb Tryd.prog 36 := ⟨f36, _, func36, rfl, by decide⟩
theorem spec_TenantCharge_c (w : World) (z0 : Value) (x0 : (List DCharge)) (x1 : Int) (r_0 : rdS tyCharge w w.heap.size z0 x0) (s_0 : (x0.length ≤ 68719476736 ∧ ∀ y ∈ x0, smCharge 68719476736 y)) :
  Calls Tryd.prog 36 #[z0, .int .i64 x1] w fun e w' => e = .returned (.int .i64 (spec_TenantCharge_m x0 x1)) ∧ Below w.heap.size w w' := by
 obtain ⟨m1, A2, c3, rfl, q4, r5⟩ := rdS_op r_0
 have l6 : x0.length ≤ 68719476736 := s_0.1
 refine ce2 (L := [(0, .slice A2 x0.length c3), (1, .int .i64 x1)]) (N := 43) func36 ?_
 refine sr (wa (nt' (sr (wa (nt' (CM_seq (sr (wa (nt' (CM_block ?_))))))))))
 let F1 := fun k (s : Int) => spec_TenantCharge_b1 x0 x1 k s
 let R3 := rng (R := Int) F1
 refine CM_loop (σ := Nat × (Int) × (Unit)) (fun s => [(0, .slice A2 x0.length c3), (1, .int .i64 x1), (5, .int .i64 s.2.1), (6, .int .i64 ((s.1 : Nat) : Int))]) (fun s => []) (fun s => s.1 ≤ x0.length ∧ R3 (x0.length - s.1) s.1 s.2.1 = R3 (x0.length - 0) 0 0) (fun s => x0.length - s.1) (0, 0, ()) sl4 (fun W hm => hm) ⟨(by omega), rfl⟩ ?_
 rintro ⟨k7, s8, ⟨⟩⟩ H11
 obtain ⟨hk9, hF10⟩ : k7 ≤ x0.length ∧ R3 (x0.length - k7) k7 s8 = R3 (x0.length - 0) 0 0 := H11
 show CM Tryd.prog 43 _ _ _ _ [(0, .slice A2 x0.length c3), (1, .int .i64 x1), (5, .int .i64 s8), (6, .int .i64 ((k7 : Nat) : Int))] []
 refine CM_seq (sr (wm (wm ?_)))
 refine wv (vlen underlying56) ?_
 refine wv vlss ?_
 refine nt' ?_
 by_cases hl12 : k7 < x0.length
 ·have g13 := dlT hl12
  refine CM_condT rfl g13 ?_
  refine CM_skip (QM_then (CM_seq (CM_block (sr (wm (wm ?_))))))
  obtain ⟨a14, rfl, hb15, he16⟩ := q4 (by omega)
  refine wv (vix 5 k7 underlying56 type33) ?_
  obtain ⟨_, e24, hc17⟩ := he16 k7 _ (gt_some (show k7 < x0.length from by omega))
  obtain ⟨v18, v20, v22, rfl, r19, r21, r23⟩ := tyCharge_rd e24
  have l25 : ((gt x0 k7).Ids).length ≤ 68719476736 := (s_0.2 _ (gt_mem (show k7 < x0.length from by omega))).1
  have l26 : ((gt x0 k7).Tenants).length ≤ 68719476736 := (s_0.2 _ (gt_mem (show k7 < x0.length from by omega))).2.1
  have l27 : ((gt x0 k7).Rows).length ≤ 68719476736 := (s_0.2 _ (gt_mem (show k7 < x0.length from by omega))).2.2
  obtain ⟨m28, A29, c30, rfl, q31, r32⟩ := rdS_op r19
  obtain ⟨m33, A34, c35, rfl, q36, r37⟩ := rdS_op r21
  obtain ⟨m38, A39, c40, rfl, q41, r42⟩ := rdS_op r23
  refine wv (fun W hm => rv_loadN (cs := [.int .i64 ((gt x0 k7).Segment), .int .i64 ((gt x0 k7).Base), .slice A29 ((gt x0 k7).Ids).length c30, .slice A34 ((gt x0 k7).Tenants).length c35, .slice A39 ((gt x0 k7).Rows).length c40]) underlying33 type33 rfl rfl (hm.elCells (show (a14.add (k7 * 5)).block < w.heap.size from by rw [add_block]; exact hb15.1) hc17)) ?_
  refine wcl (tSl tInt 3) (spec_SharesOf_m (gt x0 k7)) (cl_fn cb25 rfl) (fun W hm => spec_SharesOf_c W _ (gt x0 k7) (tyCharge_mk (x := (gt x0 k7)) (hm.rdS0 r32) (hm.rdS0 r37) (hm.rdS0 r42)) (s_0.2 _ (gt_mem (show k7 < x0.length from by omega)))) (fun z43 => ?_)
  have hsl := spec_SharesOf_len (gt x0 k7)
  refine WM_form (n := 0) rfl ?_
  rintro A44 c45 rfl m46
  refine wa (nt' (sr (wa (nt' (CM_block ?_)))))
  let F2 := fun k (s : Int) => spec_TenantCharge_b2 x0 x1 k7 k s
  let R4 := rng (R := Int) F2
  let I5 : It := iOwn (tSl tInt 3) [.slice A44 (spec_SharesOf_m (gt x0 k7)).length c45] (spec_SharesOf_m (gt x0 k7))
  refine CM_loop (σ := Nat × (Int) × (Unit)) (fun s => [(0, .slice (some a14) x0.length c3), (1, .int .i64 x1), (5, .int .i64 s.2.1), (6, .int .i64 ((k7 : Nat) : Int)), (7, .slice A44 (spec_SharesOf_m (gt x0 k7)).length c45), (8, .int .i64 ((s.1 : Nat) : Int))]) (fun s => [I5]) (fun s => s.1 ≤ (spec_SharesOf_m (gt x0 k7)).length ∧ R4 ((spec_SharesOf_m (gt x0 k7)).length - s.1) s.1 s.2.1 = R4 ((spec_SharesOf_m (gt x0 k7)).length - 0) 0 s8) (fun s => (spec_SharesOf_m (gt x0 k7)).length - s.1) (0, s8, ()) sl6 (fun W hm => hm) ⟨(by omega), rfl⟩ ?_
  rintro ⟨k48, s49, ⟨⟩⟩ H52
  obtain ⟨hk50, hF51⟩ : k48 ≤ (spec_SharesOf_m (gt x0 k7)).length ∧ R4 ((spec_SharesOf_m (gt x0 k7)).length - k48) k48 s49 = R4 ((spec_SharesOf_m (gt x0 k7)).length - 0) 0 s8 := H52
  show CM Tryd.prog 43 _ _ _ _ [(0, .slice (some a14) x0.length c3), (1, .int .i64 x1), (5, .int .i64 s49), (6, .int .i64 ((k7 : Nat) : Int)), (7, .slice A44 (spec_SharesOf_m (gt x0 k7)).length c45), (8, .int .i64 ((k48 : Nat) : Int))] [I5]
  refine CM_seq (sr (wm (wm ?_)))
  refine wv (vlen underlying28) ?_
  refine wv vlss ?_
  refine nt' ?_
  by_cases hl53 : k48 < (spec_SharesOf_m (gt x0 k7)).length
  ·have g54 := dlT hl53
   refine CM_condT rfl g54 ?_
   refine CM_skip (QM_then (CM_seq (CM_block (sr (wm (wm ?_))))))
   refine wv (vix 5 k7 underlying56 type33) ?_
   refine wv (vf underlying33 rfl type28) ?_
   refine wv (fun W hm => rv_load underlying28 rfl rfl ((hm.cell0 (show ((a14.add (k7 * 5)).add 3).block < w.heap.size from by rw [add_block, add_block]; exact hb15.1)).trans (hc17 3 _ rfl))) ?_
   refine wm ?_
   obtain ⟨a55, rfl, hb56, he57⟩ := q36 (by omega)
   refine wv (vix 1 k48 underlying28 type3) ?_
   refine wv (fun W hm => rv_load underlying3 rfl rfl ((hm.cell0 (show (a55.add (k48 * 1)).block < w.heap.size from by rw [add_block]; exact hb56.1)).trans (rdS_int he57 k48 (by omega)))) ?_
   refine wm ?_
   refine wv (fun W hm => rv_eql rfl rfl) ?_
   refine nt' ?_
   by_cases h58 : (gt ((gt x0 k7).Tenants) k48) = x1
   ·have g59 := beq_iff_eq.2 h58
    refine CM_condT rfl g59 ?_
    refine CM_region (wm (wm (wm ?_)))
    refine WM_formO (n := 0) rfl (by omega) ?_
    rintro g60 rfl
    refine wv (vix 1 k48 underlying28 type3) ?_
    refine wv (fun W hm => rv_load underlying3 rfl rfl (hm.ownInt (i := 0) rfl (by omega))) ?_
    refine wv vadd ?_
    refine wa (WM_nil (QM_block_normal (QM_then (CM_region (wm ?_)))))
    refine wv (vadN k48 1 (by omega)) ?_
    refine wa (WM_nil ?_)
    have hn61 := rng_next (R := Int) (body := F2) (k := k48) (s := s49) (s' := (IntKind.i64.wrap (s49 + (gt (spec_SharesOf_m (gt x0 k7)) k48)))) (show k48 < (spec_SharesOf_m (gt x0 k7)).length from by omega) (cond_t g59 (rfl)) hF51
    exact QM_round (k48 + 1, (IntKind.i64.wrap (s49 + (gt (spec_SharesOf_m (gt x0 k7)) k48))), ()) sl6 (fun W hm => hm) ⟨(by omega), hn61⟩ (show (spec_SharesOf_m (gt x0 k7)).length - (k48 + 1) < (spec_SharesOf_m (gt x0 k7)).length - k48 from by omega)
   ·have g59 := beq_eq_false_iff_ne.2 h58
    refine CM_condF rfl g59 ?_
    refine CM_skip (QM_block_normal (QM_then (CM_region (wm ?_))))
    refine wv (vadN k48 1 (by omega)) ?_
    refine wa (WM_nil ?_)
    have hn62 := rng_next (R := Int) (body := F2) (k := k48) (s := s49) (s' := s49) (show k48 < (spec_SharesOf_m (gt x0 k7)).length from by omega) (cond_f g59 (rfl)) hF51
    exact QM_round (k48 + 1, s49, ()) sl6 (fun W hm => hm) ⟨(by omega), hn62⟩ (show (spec_SharesOf_m (gt x0 k7)).length - (k48 + 1) < (spec_SharesOf_m (gt x0 k7)).length - k48 from by omega)
  ·have g54 := dlF hl53
   refine CM_condF rfl g54 ?_
   refine CM_exit (QM_then_exit (QM_then_exit ?_))
   have hE63 : R4 ((spec_SharesOf_m (gt x0 k7)).length - 0) 0 s8 = Sum.inr s49 := rng_end hl53 hF51
   refine QM_block_hit (QM_block_normal (QM_then (CM_region (wm ?_))))
   refine wv (vadN k7 1 (by omega)) ?_
   refine wa (WM_nil ?_)
   have hn64 := rng_next (R := Int) (body := F1) (k := k7) (s := s8) (s' := s49) (show k7 < x0.length from by omega) (fin_inr hE63 (rfl)) hF10
   exact QM_round (k7 + 1, s49, ()) sl4 (pk []) ⟨(by omega), hn64⟩ (rl (by omega))
 ·have g13 := dlF hl12
  refine CM_condF rfl g13 ?_
  refine CM_exit (QM_then_exit (QM_then_exit ?_))
  have hE65 : R3 (x0.length - 0) 0 0 = Sum.inr s8 := rng_end hl12 hF10
  refine QM_block_hit (QM_then (sr (wm (wa (nt' (CM_ret ?_))))))
  exact rti (h := fin_inr hE65 (rfl))

def impl_TotalWork_b1 (x0 : (List DCharge)) (k6 : Nat) (s7 : Int) : Int ⊕ (Int) :=
 Sum.inr (IntKind.i64.wrap (s7 + (impl_WorkDone_m (gt x0 k6))))
def impl_TotalWork_m (x0 : (List DCharge)) : Int :=
 Sum.elim id (fun (s : Int) => s) (rng (R := Int) (fun k (s : Int) => impl_TotalWork_b1 x0 k s) (x0.length - 0) 0 0)
theorem cb37 : Cb Tryd.prog 37 := ⟨f37, _, func37, rfl, by decide⟩
theorem impl_TotalWork_c (w : World) (z0 : Value) (x0 : (List DCharge)) (r_0 : rdS tyCharge w w.heap.size z0 x0) :
  Calls Tryd.prog 37 #[z0] w fun e w' => e = .returned (.int .i64 (impl_TotalWork_m x0)) ∧ Below w.heap.size w w' := by
 obtain ⟨m1, A2, c3, rfl, q4, r5⟩ := rdS_op r_0
 refine ce1 (L := [(0, .slice A2 x0.length c3)]) (N := 18) func37 ?_
 refine sr (wa (nt' (sr (wa (nt' (CM_seq (sr (wm ?_))))))))
 refine wv (vlen underlying56) ?_
 refine wm (nt' (CM_block ?_))
 let F1 := fun k (s : Int) => impl_TotalWork_b1 x0 k s
 let R2 := rng (R := Int) F1
 refine CM_loop (σ := Nat × (Int) × (Unit)) (fun s => [(3, .int .i64 s.2.1), (6, .slice A2 x0.length c3), (7, .int .i64 ((x0.length : Nat) : Int)), (8, .int .i64 ((s.1 : Nat) : Int))]) (fun s => []) (fun s => s.1 ≤ x0.length ∧ R2 (x0.length - s.1) s.1 s.2.1 = R2 (x0.length - 0) 0 0) (fun s => x0.length - s.1) (0, 0, ()) sl4 (fun W hm => hm) ⟨(by omega), rfl⟩ ?_
 rintro ⟨k6, s7, ⟨⟩⟩ H10
 obtain ⟨hk8, hF9⟩ : k6 ≤ x0.length ∧ R2 (x0.length - k6) k6 s7 = R2 (x0.length - 0) 0 0 := H10
 show CM Tryd.prog 18 _ _ _ _ [(3, .int .i64 s7), (6, .slice A2 x0.length c3), (7, .int .i64 ((x0.length : Nat) : Int)), (8, .int .i64 ((k6 : Nat) : Int))] []
 refine sr ?_
 refine wv vlss ?_
 refine nt' (CM_seq ?_)
 by_cases hl11 : k6 < x0.length
 ·have g12 := dlT hl11
  refine CM_condT rfl g12 ?_
  refine CM_skip (QM_then (CM_seq (CM_block (sr ?_))))
  obtain ⟨a13, rfl, hb14, he15⟩ := q4 (by omega)
  refine wv (vix 5 k6 underlying56 type33) ?_
  obtain ⟨_, e23, hc16⟩ := he15 k6 _ (gt_some (show k6 < x0.length from by omega))
  obtain ⟨v17, v19, v21, rfl, r18, r20, r22⟩ := tyCharge_rd e23
  obtain ⟨m24, A25, c26, rfl, q27, r28⟩ := rdS_op r18
  obtain ⟨m29, A30, c31, rfl, q32, r33⟩ := rdS_op r20
  obtain ⟨m34, A35, c36, rfl, q37, r38⟩ := rdS_op r22
  let K3 : List Value := [.int .i64 ((gt x0 k6).Segment), .int .i64 ((gt x0 k6).Base), .slice A25 ((gt x0 k6).Ids).length c26, .slice A30 ((gt x0 k6).Tenants).length c31, .slice A35 ((gt x0 k6).Rows).length c36]
  refine wv (fun W hm => rv_loadN (cs := K3) underlying33 type33 rfl rfl (hm.elCells (show (a13.add (k6 * 5)).block < w.heap.size from by rw [add_block]; exact hb14.1) hc16)) ?_
  refine WM_alloc type33 rfl (Wd_none rfl) (by decide) (fun p39 => ?_)
  refine sb 0 K3 [] (fun W hm => hm) type33 ?_
  refine nt' (CM_region (wm ?_))
  refine wv (fun W hm => rv_loadN (cs := K3) underlying33 type33 rfl rfl (hm.boxCells (n := 0) rfl)) ?_
  refine wcv (cl_fn cb28 rfl) (fun W hm => impl_WorkDone_c W _ (gt x0 k6) (tyCharge_mk (x := (gt x0 k6)) (hm.rdS0 r28) (hm.rdS0 r33) (hm.rdS0 r38))) ?_
  refine wv vadd ?_
  refine wa (WM_nil (QM_block_normal (QM_then (CM_region ?_))))
  refine wv (vadN k6 1 (by omega)) ?_
  refine wm (WM_nil ?_)
  have hn40 := rng_next (R := Int) (body := F1) (k := k6) (s := s7) (s' := (IntKind.i64.wrap (s7 + (impl_WorkDone_m (gt x0 k6))))) (show k6 < x0.length from by omega) (rfl) hF9
  exact QM_round (k6 + 1, (IntKind.i64.wrap (s7 + (impl_WorkDone_m (gt x0 k6)))), ()) sl4 (pk []) ⟨(by omega), hn40⟩ (rl (by omega))
 ·have g12 := dlF hl11
  refine CM_condF rfl g12 ?_
  refine CM_exit (QM_then_exit (QM_then_exit ?_))
  have hE41 : R2 (x0.length - 0) 0 0 = Sum.inr s7 := rng_end hl11 hF9
  refine QM_block_hit (QM_then (sr (wm (wa (nt' (CM_ret ?_))))))
  exact rti (h := fin_inr hE41 (rfl))

def spec_TotalWork_b1 (x0 : (List DCharge)) (k6 : Nat) (s7 : Int) : Int ⊕ (Int) :=
 Sum.inr (IntKind.i64.wrap (s7 + (spec_WorkDone_m (gt x0 k6))))
def spec_TotalWork_m (x0 : (List DCharge)) : Int :=
 Sum.elim id (fun (s : Int) => s) (rng (R := Int) (fun k (s : Int) => spec_TotalWork_b1 x0 k s) (x0.length - 0) 0 0)
theorem cb38 : Cb Tryd.prog 38 := ⟨f38, _, func38, rfl, by decide⟩
theorem spec_TotalWork_c (w : World) (z0 : Value) (x0 : (List DCharge)) (r_0 : rdS tyCharge w w.heap.size z0 x0) :
  Calls Tryd.prog 38 #[z0] w fun e w' => e = .returned (.int .i64 (spec_TotalWork_m x0)) ∧ Below w.heap.size w w' := by
 obtain ⟨m1, A2, c3, rfl, q4, r5⟩ := rdS_op r_0
 refine ce1 (L := [(0, .slice A2 x0.length c3)]) (N := 19) func38 ?_
 refine sr (wa (nt' (sr (wa (nt' (CM_seq (sr (wa (nt' (CM_block ?_))))))))))
 let F1 := fun k (s : Int) => spec_TotalWork_b1 x0 k s
 let R2 := rng (R := Int) F1
 refine CM_loop (σ := Nat × (Int) × (Unit)) (fun s => [(0, .slice A2 x0.length c3), (3, .int .i64 s.2.1), (4, .int .i64 ((s.1 : Nat) : Int))]) (fun s => []) (fun s => s.1 ≤ x0.length ∧ R2 (x0.length - s.1) s.1 s.2.1 = R2 (x0.length - 0) 0 0) (fun s => x0.length - s.1) (0, 0, ()) sl3 (fun W hm => hm) ⟨(by omega), rfl⟩ ?_
 rintro ⟨k6, s7, ⟨⟩⟩ H10
 obtain ⟨hk8, hF9⟩ : k6 ≤ x0.length ∧ R2 (x0.length - k6) k6 s7 = R2 (x0.length - 0) 0 0 := H10
 show CM Tryd.prog 19 _ _ _ _ [(0, .slice A2 x0.length c3), (3, .int .i64 s7), (4, .int .i64 ((k6 : Nat) : Int))] []
 refine CM_seq (sr (wm (wm ?_)))
 refine wv (vlen underlying56) ?_
 refine wv vlss ?_
 refine nt' ?_
 by_cases hl11 : k6 < x0.length
 ·have g12 := dlT hl11
  refine CM_condT rfl g12 ?_
  refine CM_skip (QM_then (CM_seq (CM_block (CM_region (wm (wm (wm ?_)))))))
  obtain ⟨a13, rfl, hb14, he15⟩ := q4 (by omega)
  refine wv (vix 5 k6 underlying56 type33) ?_
  obtain ⟨_, e23, hc16⟩ := he15 k6 _ (gt_some (show k6 < x0.length from by omega))
  obtain ⟨v17, v19, v21, rfl, r18, r20, r22⟩ := tyCharge_rd e23
  obtain ⟨m24, A25, c26, rfl, q27, r28⟩ := rdS_op r18
  obtain ⟨m29, A30, c31, rfl, q32, r33⟩ := rdS_op r20
  obtain ⟨m34, A35, c36, rfl, q37, r38⟩ := rdS_op r22
  refine wv (fun W hm => rv_loadN (cs := [.int .i64 ((gt x0 k6).Segment), .int .i64 ((gt x0 k6).Base), .slice A25 ((gt x0 k6).Ids).length c26, .slice A30 ((gt x0 k6).Tenants).length c31, .slice A35 ((gt x0 k6).Rows).length c36]) underlying33 type33 rfl rfl (hm.elCells (show (a13.add (k6 * 5)).block < w.heap.size from by rw [add_block]; exact hb14.1) hc16)) ?_
  refine wcv (cl_fn cb29 rfl) (fun W hm => spec_WorkDone_c W _ (gt x0 k6) (tyCharge_mk (x := (gt x0 k6)) (hm.rdS0 r28) (hm.rdS0 r33) (hm.rdS0 r38))) ?_
  refine wv vadd ?_
  refine wa (WM_nil (QM_block_normal (QM_then (CM_region (wm ?_)))))
  refine wv (vadN k6 1 (by omega)) ?_
  refine wa (WM_nil ?_)
  have hn39 := rng_next (R := Int) (body := F1) (k := k6) (s := s7) (s' := (IntKind.i64.wrap (s7 + (spec_WorkDone_m (gt x0 k6))))) (show k6 < x0.length from by omega) (rfl) hF9
  exact QM_round (k6 + 1, (IntKind.i64.wrap (s7 + (spec_WorkDone_m (gt x0 k6)))), ()) sl3 (fun W hm => hm) ⟨(by omega), hn39⟩ (rl (by omega))
 ·have g12 := dlF hl11
  refine CM_condF rfl g12 ?_
  refine CM_exit (QM_then_exit (QM_then_exit ?_))
  have hE40 : R2 (x0.length - 0) 0 0 = Sum.inr s7 := rng_end hl11 hF9
  refine QM_block_hit (QM_then (sr (wm (wa (nt' (CM_ret ?_))))))
  exact rti (h := fin_inr hE40 (rfl))

def impl_WorstStep_b1 (x0 : (List DCharge)) (k6 : Nat) (s7 : Int) : Int ⊕ (Int) :=
 Sum.inr (if (impl_WorkDone_m (gt x0 k6)) > s7 then (impl_WorkDone_m (gt x0 k6)) else s7)
def impl_WorstStep_m (x0 : (List DCharge)) : Int :=
 Sum.elim id (fun (s : Int) => s) (rng (R := Int) (fun k (s : Int) => impl_WorstStep_b1 x0 k s) (x0.length - 0) 0 0)
theorem cb39 : Cb Tryd.prog 39 := ⟨f39, _, func39, rfl, by decide⟩
theorem impl_WorstStep_c (w : World) (z0 : Value) (x0 : (List DCharge)) (r_0 : rdS tyCharge w w.heap.size z0 x0) :
  Calls Tryd.prog 39 #[z0] w fun e w' => e = .returned (.int .i64 (impl_WorstStep_m x0)) ∧ Below w.heap.size w w' := by
 obtain ⟨m1, A2, c3, rfl, q4, r5⟩ := rdS_op r_0
 refine ce1 (L := [(0, .slice A2 x0.length c3)]) (N := 18) func39 ?_
 refine sr (wa (nt' (sr (wa (nt' (CM_seq (sr (wm ?_))))))))
 refine wv (vlen underlying56) ?_
 refine wm (nt' (CM_block ?_))
 let F1 := fun k (s : Int) => impl_WorstStep_b1 x0 k s
 let R2 := rng (R := Int) F1
 refine CM_loop (σ := Nat × (Int) × (Unit)) (fun s => [(3, .int .i64 s.2.1), (6, .slice A2 x0.length c3), (7, .int .i64 ((x0.length : Nat) : Int)), (8, .int .i64 ((s.1 : Nat) : Int))]) (fun s => []) (fun s => s.1 ≤ x0.length ∧ R2 (x0.length - s.1) s.1 s.2.1 = R2 (x0.length - 0) 0 0) (fun s => x0.length - s.1) (0, 0, ()) sl4 (fun W hm => hm) ⟨(by omega), rfl⟩ ?_
 rintro ⟨k6, s7, ⟨⟩⟩ H10
 obtain ⟨hk8, hF9⟩ : k6 ≤ x0.length ∧ R2 (x0.length - k6) k6 s7 = R2 (x0.length - 0) 0 0 := H10
 show CM Tryd.prog 18 _ _ _ _ [(3, .int .i64 s7), (6, .slice A2 x0.length c3), (7, .int .i64 ((x0.length : Nat) : Int)), (8, .int .i64 ((k6 : Nat) : Int))] []
 refine sr ?_
 refine wv vlss ?_
 refine nt' (CM_seq ?_)
 by_cases hl11 : k6 < x0.length
 ·have g12 := dlT hl11
  refine CM_condT rfl g12 ?_
  refine CM_skip (QM_then (CM_seq (CM_block (sr ?_))))
  obtain ⟨a13, rfl, hb14, he15⟩ := q4 (by omega)
  refine wv (vix 5 k6 underlying56 type33) ?_
  obtain ⟨_, e23, hc16⟩ := he15 k6 _ (gt_some (show k6 < x0.length from by omega))
  obtain ⟨v17, v19, v21, rfl, r18, r20, r22⟩ := tyCharge_rd e23
  obtain ⟨m24, A25, c26, rfl, q27, r28⟩ := rdS_op r18
  obtain ⟨m29, A30, c31, rfl, q32, r33⟩ := rdS_op r20
  obtain ⟨m34, A35, c36, rfl, q37, r38⟩ := rdS_op r22
  let K3 : List Value := [.int .i64 ((gt x0 k6).Segment), .int .i64 ((gt x0 k6).Base), .slice A25 ((gt x0 k6).Ids).length c26, .slice A30 ((gt x0 k6).Tenants).length c31, .slice A35 ((gt x0 k6).Rows).length c36]
  refine wv (fun W hm => rv_loadN (cs := K3) underlying33 type33 rfl rfl (hm.elCells (show (a13.add (k6 * 5)).block < w.heap.size from by rw [add_block]; exact hb14.1) hc16)) ?_
  refine WM_alloc type33 rfl (Wd_none rfl) (by decide) (fun p39 => ?_)
  refine sb 0 K3 [] (fun W hm => hm) type33 ?_
  refine nt' (CM_region (wm ?_))
  refine wv (fun W hm => rv_loadN (cs := K3) underlying33 type33 rfl rfl (hm.boxCells (n := 0) rfl)) ?_
  refine wcv (cl_fn cb28 rfl) (fun W hm => impl_WorkDone_c W _ (gt x0 k6) (tyCharge_mk (x := (gt x0 k6)) (hm.rdS0 r28) (hm.rdS0 r33) (hm.rdS0 r38))) ?_
  refine wv (fun W hm => rv_max rfl rfl) ?_
  refine wa (WM_nil (QM_block_normal (QM_then (CM_region ?_))))
  refine wv (vadN k6 1 (by omega)) ?_
  refine wm (WM_nil ?_)
  have hn40 := rng_next (R := Int) (body := F1) (k := k6) (s := s7) (s' := (if (impl_WorkDone_m (gt x0 k6)) > s7 then (impl_WorkDone_m (gt x0 k6)) else s7)) (show k6 < x0.length from by omega) (rfl) hF9
  exact QM_round (k6 + 1, (if (impl_WorkDone_m (gt x0 k6)) > s7 then (impl_WorkDone_m (gt x0 k6)) else s7), ()) sl4 (pk []) ⟨(by omega), hn40⟩ (rl (by omega))
 ·have g12 := dlF hl11
  refine CM_condF rfl g12 ?_
  refine CM_exit (QM_then_exit (QM_then_exit ?_))
  have hE41 : R2 (x0.length - 0) 0 0 = Sum.inr s7 := rng_end hl11 hF9
  refine QM_block_hit (QM_then (sr (wm (wa (nt' (CM_ret ?_))))))
  exact rti (h := fin_inr hE41 (rfl))

def spec_WorstStep_b1 (x0 : (List DCharge)) (k6 : Nat) (s7 : Int) : Int ⊕ (Int) :=
 Sum.inr (if (spec_WorkDone_m (gt x0 k6)) > s7 then (spec_WorkDone_m (gt x0 k6)) else s7)
def spec_WorstStep_m (x0 : (List DCharge)) : Int :=
 Sum.elim id (fun (s : Int) => s) (rng (R := Int) (fun k (s : Int) => spec_WorstStep_b1 x0 k s) (x0.length - 0) 0 0)
theorem cb40 : Cb Tryd.prog 40 := ⟨f40, _, func40, rfl, by decide⟩
theorem spec_WorstStep_c (w : World) (z0 : Value) (x0 : (List DCharge)) (r_0 : rdS tyCharge w w.heap.size z0 x0) :
  Calls Tryd.prog 40 #[z0] w fun e w' => e = .returned (.int .i64 (spec_WorstStep_m x0)) ∧ Below w.heap.size w w' := by
 obtain ⟨m1, A2, c3, rfl, q4, r5⟩ := rdS_op r_0
 refine ce1 (L := [(0, .slice A2 x0.length c3)]) (N := 19) func40 ?_
 refine sr (wa (nt' (sr (wa (nt' (CM_seq (sr (wa (nt' (CM_block ?_))))))))))
 let F1 := fun k (s : Int) => spec_WorstStep_b1 x0 k s
 let R2 := rng (R := Int) F1
 refine CM_loop (σ := Nat × (Int) × (Unit)) (fun s => [(0, .slice A2 x0.length c3), (3, .int .i64 s.2.1), (4, .int .i64 ((s.1 : Nat) : Int))]) (fun s => []) (fun s => s.1 ≤ x0.length ∧ R2 (x0.length - s.1) s.1 s.2.1 = R2 (x0.length - 0) 0 0) (fun s => x0.length - s.1) (0, 0, ()) sl3 (fun W hm => hm) ⟨(by omega), rfl⟩ ?_
 rintro ⟨k6, s7, ⟨⟩⟩ H10
 obtain ⟨hk8, hF9⟩ : k6 ≤ x0.length ∧ R2 (x0.length - k6) k6 s7 = R2 (x0.length - 0) 0 0 := H10
 show CM Tryd.prog 19 _ _ _ _ [(0, .slice A2 x0.length c3), (3, .int .i64 s7), (4, .int .i64 ((k6 : Nat) : Int))] []
 refine CM_seq (sr (wm (wm ?_)))
 refine wv (vlen underlying56) ?_
 refine wv vlss ?_
 refine nt' ?_
 by_cases hl11 : k6 < x0.length
 ·have g12 := dlT hl11
  refine CM_condT rfl g12 ?_
  refine CM_skip (QM_then (CM_seq (CM_block (CM_region (wm (wm (wm ?_)))))))
  obtain ⟨a13, rfl, hb14, he15⟩ := q4 (by omega)
  refine wv (vix 5 k6 underlying56 type33) ?_
  obtain ⟨_, e23, hc16⟩ := he15 k6 _ (gt_some (show k6 < x0.length from by omega))
  obtain ⟨v17, v19, v21, rfl, r18, r20, r22⟩ := tyCharge_rd e23
  obtain ⟨m24, A25, c26, rfl, q27, r28⟩ := rdS_op r18
  obtain ⟨m29, A30, c31, rfl, q32, r33⟩ := rdS_op r20
  obtain ⟨m34, A35, c36, rfl, q37, r38⟩ := rdS_op r22
  refine wv (fun W hm => rv_loadN (cs := [.int .i64 ((gt x0 k6).Segment), .int .i64 ((gt x0 k6).Base), .slice A25 ((gt x0 k6).Ids).length c26, .slice A30 ((gt x0 k6).Tenants).length c31, .slice A35 ((gt x0 k6).Rows).length c36]) underlying33 type33 rfl rfl (hm.elCells (show (a13.add (k6 * 5)).block < w.heap.size from by rw [add_block]; exact hb14.1) hc16)) ?_
  refine wcv (cl_fn cb29 rfl) (fun W hm => spec_WorkDone_c W _ (gt x0 k6) (tyCharge_mk (x := (gt x0 k6)) (hm.rdS0 r28) (hm.rdS0 r33) (hm.rdS0 r38))) ?_
  refine wv (fun W hm => rv_max rfl rfl) ?_
  refine wa (WM_nil (QM_block_normal (QM_then (CM_region (wm ?_)))))
  refine wv (vadN k6 1 (by omega)) ?_
  refine wa (WM_nil ?_)
  have hn39 := rng_next (R := Int) (body := F1) (k := k6) (s := s7) (s' := (if (spec_WorkDone_m (gt x0 k6)) > s7 then (spec_WorkDone_m (gt x0 k6)) else s7)) (show k6 < x0.length from by omega) (rfl) hF9
  exact QM_round (k6 + 1, (if (spec_WorkDone_m (gt x0 k6)) > s7 then (spec_WorkDone_m (gt x0 k6)) else s7), ()) sl3 (fun W hm => hm) ⟨(by omega), hn39⟩ (rl (by omega))
 ·have g12 := dlF hl11
  refine CM_condF rfl g12 ?_
  refine CM_exit (QM_then_exit (QM_then_exit ?_))
  have hE40 : R2 (x0.length - 0) 0 0 = Sum.inr s7 := rng_end hl11 hF9
  refine QM_block_hit (QM_then (sr (wm (wa (nt' (CM_ret ?_))))))
  exact rti (h := fin_inr hE40 (rfl))

end Go.Proofs.YtcjelfdpekbbkaaDoor
