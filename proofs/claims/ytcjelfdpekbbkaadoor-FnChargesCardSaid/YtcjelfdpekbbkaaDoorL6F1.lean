/-
  Contracts of functions, printed by a program of ours.
-/
import Derived.Test.YtcjelfdpekbbkaaDoorDat
namespace Go.Proofs.YtcjelfdpekbbkaaDoor
open Go.RowKit
set_option maxRecDepth 100000
set_option maxHeartbeats 4000000
open _root_.Go.Proofs.Tryd
def laws_big_m (x0 : (List Int)) : Bool :=
 (decide (1048576 < ((x0.length : Nat) : Int)))
theorem cb21 : Cb Tryd.prog 21 := ⟨f21, _, func21, rfl, by decide⟩
theorem laws_big_c (w : World) (z0 : Value) (x0 : (List Int)) (r_0 : rdS tU8 w w.heap.size z0 x0) :
  Calls Tryd.prog 21 #[z0] w fun e w' => e = .returned (.bool (laws_big_m x0)) ∧ Below w.heap.size w w' := by
 obtain ⟨m1, A2, c3, rfl, q4, r5⟩ := rdS_op r_0
 refine ce1 (L := [(0, .slice A2 x0.length c3)]) (N := 6) func21 ?_
 refine sr (wa (nt' (sr (wm ?_))))
 refine wv (vlen underlying49) ?_
 refine wv (fun W hm => rv_gtr rfl rfl) ?_
 refine wa (nt' (CM_ret ?_))
 exact rtb (h := rfl)

def spec_l1New_b1 (x0 : (List Int)) (k7 : Nat) (s8 : Int) : Dl1Cur ⊕ ((Int) ⊕ (Int)) :=
 cond (decide (((k7 : Nat) : Int) < 4000)) (Sum.inr (Sum.inr (bits .and .i64 (IntKind.i64.wrap ((IntKind.i64.wrap ((IntKind.i64.wrap (s8 * 131)) + (IntKind.i64.wrap (gt x0 k7)))) + 7)) 1073741823))) (Sum.inr (Sum.inl s8))
def spec_l1New_m (x0 : (List Int)) : Dl1Cur :=
 Sum.elim id (fun (s : Int) => (⟨0, s⟩ : Dl1Cur)) (rngb (R := Dl1Cur) (fun k (s : Int) => spec_l1New_b1 x0 k s) (x0.length - 0) 0 ((10101 + x0.length : Nat) : Int))
theorem cb64 : Cb Tryd.prog 64 := ⟨f64, _, func64, rfl, by decide⟩
theorem spec_l1New_c (w : World) (z0 : Value) (x0 : (List Int)) (r_0 : rdS tU8 w w.heap.size z0 x0) (s_0 : x0.length ≤ 68719476736) :
  Calls Tryd.prog 64 #[z0] w fun e w' => ∃ p : Nat, e = .returned (.pointer (some ⟨p, 0, none⟩)) ∧ Mem w.heap.size w [iBox p 115 [z0, .int .i64 (((spec_l1New_m x0).i : Nat) : Int), .int .i64 (spec_l1New_m x0).h]] w' := by
 obtain ⟨m1, A2, c3, rfl, q4, r5⟩ := rdS_op r_0
 have l6 : x0.length ≤ 68719476736 := s_0
 refine ce1 (L := [(0, .slice A2 x0.length c3)]) (N := 32) func64 ?_
 refine sr (wa (nt' (sr (wm ?_))))
 refine wv (vlen underlying49) ?_
 refine wv (vadN 10101 x0.length (by omega)) ?_
 refine wa (nt' (CM_seq (sr (wa (nt' ?_)))))
 let F1 := fun k (s : Int) => spec_l1New_b1 x0 k s
 let R2 := rngb (R := Dl1Cur) F1
 refine CM_cut (σ := (Int) × (Unit)) (fun s => [(0, .slice A2 x0.length c3), (3, .int .i64 s.1)]) (fun s => []) (fun s => R2 (x0.length - 0) 0 ((10101 + x0.length : Nat) : Int) = Sum.inr s.1) ?_ ?_
 ·
  refine CM_block ?_
  refine CM_loop (σ := Nat × (Int) × (Unit)) (fun s => [(0, .slice A2 x0.length c3), (3, .int .i64 s.2.1), (4, .int .i64 ((s.1 : Nat) : Int))]) (fun s => []) (fun s => s.1 ≤ x0.length ∧ R2 (x0.length - s.1) s.1 s.2.1 = R2 (x0.length - 0) 0 ((10101 + x0.length : Nat) : Int)) (fun s => x0.length - s.1) (0, ((10101 + x0.length : Nat) : Int), ()) sl3 (fun W hm => hm) ⟨(by omega), rfl⟩ ?_
  rintro ⟨k7, s8, ⟨⟩⟩ H11
  obtain ⟨hk9, hF10⟩ : k7 ≤ x0.length ∧ R2 (x0.length - k7) k7 s8 = R2 (x0.length - 0) 0 ((10101 + x0.length : Nat) : Int) := H11
  show CM Tryd.prog 32 _ _ _ _ [(0, .slice A2 x0.length c3), (3, .int .i64 s8), (4, .int .i64 ((k7 : Nat) : Int))] []
  refine CM_seq (sr (wm (wm ?_)))
  refine wv (vlen underlying49) ?_
  refine wv vlss ?_
  refine wm ?_
  by_cases hl12 : k7 < x0.length
  ·have g13 := dlT hl12
   refine wg vmv g13 ?_
   refine wg vlss g13 ?_
   refine wv (vpT g13) ?_
   refine nt' ?_
   by_cases h14 : ((k7 : Nat) : Int) < 4000
   ·have g15 := decide_eq_true h14
    refine CM_condT rfl g15 ?_
    refine CM_skip (QM_then (CM_seq (CM_block (CM_region (wm ?_)))))
    refine wv (fun W hm => rv_mul rfl rfl) ?_
    refine wm (wm ?_)
    obtain ⟨a16, rfl, hb17, he18⟩ := q4 (by omega)
    refine wv (vix 1 k7 underlying49 type5) ?_
    refine wv (fun W hm => rv_load underlying5 rfl rfl ((hm.cell0 (show (a16.add (k7 * 1)).block < w.heap.size from by rw [add_block]; exact hb17.1)).trans (rdS_u8 he18 k7 (by omega)))) ?_
    refine wv (fun W hm => rv_conv8 underlying5 underlying3 rfl) ?_
    refine wv vadd ?_
    refine wv vadd ?_
    refine wv (fun W hm => rv_and rfl rfl) ?_
    refine wa (WM_nil (QM_block_normal (QM_then (CM_region (wm ?_)))))
    refine wv (vadN k7 1 (by omega)) ?_
    refine wa (WM_nil ?_)
    have hn19 := rngb_next (R := Dl1Cur) (body := F1) (k := k7) (s := s8) (s' := (bits .and .i64 (IntKind.i64.wrap ((IntKind.i64.wrap ((IntKind.i64.wrap (s8 * 131)) + (IntKind.i64.wrap (gt x0 k7)))) + 7)) 1073741823)) (show k7 < x0.length from by omega) (cond_t g15 (rfl)) hF10
    exact QM_round (k7 + 1, (bits .and .i64 (IntKind.i64.wrap ((IntKind.i64.wrap ((IntKind.i64.wrap (s8 * 131)) + (IntKind.i64.wrap (gt x0 k7)))) + 7)) 1073741823), ()) sl3 (fun W hm => hm) ⟨(by omega), hn19⟩ (rl (by omega))
   ·have g15 := decide_eq_false h14
    refine CM_condF rfl g15 ?_
    refine CM_exit (QM_then_exit (QM_then_exit (QM_block_hit ?_)))
    have hE20 := rngb_brk (R := Dl1Cur) (body := F1) (k := k7) (s := s8) (s' := s8) (show k7 < x0.length from by omega) (cond_f g15 (rfl)) hF10
    exact QM_cut_normal (s8, ()) sl2 (fun W hm => hm) hE20
  ·have g13 := dlF hl12
   refine ws g13 ?_
   refine ws g13 ?_
   refine wv (vpF g13) ?_
   refine nt' ?_
   refine CM_condF rfl rfl ?_
   refine CM_exit (QM_then_exit (QM_then_exit (QM_block_hit ?_)))
   have hE21 : R2 (x0.length - 0) 0 ((10101 + x0.length : Nat) : Int) = Sum.inr s8 := rngb_end hl12 hF10
   exact QM_cut_normal (s8, ()) sl2 (fun W hm => hm) hE21
 ·
  rintro ⟨s8, ⟨⟩⟩ H23
  have hE22 : R2 (x0.length - 0) 0 ((10101 + x0.length : Nat) : Int) = Sum.inr s8 := H23
  show QM 32 _ _ _ .normal [(0, .slice A2 x0.length c3), (3, .int .i64 s8)] []
  refine QM_then (sr (wm (wm ?_)))
  refine wv (fun W hm => rv_build (cs := [.slice A2 x0.length c3, .int .i64 0, .int .i64 s8]) rfl (by kernel_rfl)) ?_
  refine WM_box rfl (Wd_none rfl) (by decide) (fun p24 => ?_)
  refine wa (nt' (CM_ret ?_))
  refine QM_r1 rfl (RR_tmp rfl) (fun W hm => ⟨p24, rfl, ?_⟩)
  rw [(show spec_l1New_m x0 = (⟨0, s8⟩ : Dl1Cur) from fin_inr hE22 (rfl))]
  exact hm

def spec_l1Byte_m (x0b : List Int) (x0 : Dl1Cur) : (Int × Dl1Cur) :=
 cond (decide (((x0.i : Nat) : Int) < ((x0b.length : Nat) : Int))) ((bits .and .i64 (IntKind.i64.wrap ((bits .and .i64 (bits .xor .i64 ((IntKind.i64.wrap ((IntKind.i64.wrap (x0.h * 6364136223846793005)) + 1442695040888963407)) / 2 ^ (33 : Int).toNat) ((IntKind.i64.wrap ((IntKind.i64.wrap (x0.h * 6364136223846793005)) + 1442695040888963407)) / 2 ^ (45 : Int).toNat)) 255) + (IntKind.i64.wrap (gt x0b (x0.i))))) 255), (⟨x0.i + 1, (IntKind.i64.wrap ((IntKind.i64.wrap (x0.h * 6364136223846793005)) + 1442695040888963407))⟩ : Dl1Cur)) ((bits .and .i64 (bits .xor .i64 ((IntKind.i64.wrap ((IntKind.i64.wrap (x0.h * 6364136223846793005)) + 1442695040888963407)) / 2 ^ (33 : Int).toNat) ((IntKind.i64.wrap ((IntKind.i64.wrap (x0.h * 6364136223846793005)) + 1442695040888963407)) / 2 ^ (45 : Int).toNat)) 255), (⟨x0.i, (IntKind.i64.wrap ((IntKind.i64.wrap (x0.h * 6364136223846793005)) + 1442695040888963407))⟩ : Dl1Cur))
theorem cb87 : Cb Tryd.prog 87 := ⟨f87, _, func87, rfl, by decide⟩
theorem spec_l1Byte_c (B : Nat) (w0 : World) (is : List It) (w : World) (p : Nat) (z0 : Value) (x0b : List Int) (x0 : Dl1Cur) (r_0 : rdS tU8 w0 B z0 x0b) (s_0 : x0b.length ≤ 68719476736) (hm : Mem B w0 (iBox p 115 [z0, .int .i64 ((x0.i : Nat) : Int), .int .i64 x0.h] :: is) w) :
  Calls Tryd.prog 87 #[.pointer (some ⟨p, 0, none⟩)] w fun e w' => ∃ x : Unit, e = .returned (.int .i64 ((spec_l1Byte_m x0b x0).1)) ∧ Mem B w0 (iBox p 115 [z0, .int .i64 ((((spec_l1Byte_m x0b x0).2).i : Nat) : Int), .int .i64 ((spec_l1Byte_m x0b x0).2).h] :: is) w' := by
 obtain ⟨m1, A2, c3, rfl, q4, r5⟩ := rdS_op r_0
 refine call_enterW (L := [(0, .pointer (some ⟨p, 0, none⟩))]) (N := 58) func87 rfl rfl (Nat.le_of_ble_eq_true rfl) (argsL_cons rfl argsL_nil) hm ?_
 have l6 : x0b.length ≤ 68719476736 := s_0
 refine sr (wa (nt' (sr (wm (wm ?_)))))
 refine wv (fun W hm => rv_nilCheck rfl) ?_
 refine wv (vf underlying115 rfl type3) ?_
 refine wv (vl 0 2 underlying3) ?_
 refine wv (fun W hm => rv_mul rfl rfl) ?_
 refine wv vadd ?_
 refine wv (fun W hm => rv_nilCheck rfl) ?_
 refine wv (vf underlying115 rfl type3) ?_
 refine WM_storeBox (p := p) (o := 2) (cs' := [.slice A2 x0b.length c3, .int .i64 ((x0.i : Nat) : Int), .int .i64 (IntKind.i64.wrap ((IntKind.i64.wrap (x0.h * 6364136223846793005)) + 1442695040888963407))]) (fun w hm => hm.front (n := 0) rfl) type3 rfl (Nat.le_of_ble_eq_true rfl) rfl rfl rfl rfl (Wd_none rfl) ?_
 refine nt' (CM_seq ?_)
 refine CM_regionD (by kernel_rfl) (by kernel_rfl) ?_
 refine qm ?_
 refine qv (fun W hm => rv_nilCheck rfl) ?_
 refine qv (vf underlying115 rfl type3) ?_
 refine qv (vl 0 2 underlying3) ?_
 refine qv (fun W hm => rv_shr (by decide) (by decide) rfl rfl) ?_
 refine qm ?_
 refine qv (fun W hm => rv_nilCheck rfl) ?_
 refine qv (vf underlying115 rfl type3) ?_
 refine qv (vl 0 2 underlying3) ?_
 refine qv (fun W hm => rv_shr (by decide) (by decide) rfl rfl) ?_
 refine qv (fun W hm => rv_xor rfl rfl) ?_
 refine qv (fun W hm => rv_and rfl rfl) ?_
 refine qv (fun W hm => rv_assign rfl) ?_
 refine nq' (CM_seq (CM_seq ?_))
 refine CM_regionD (by kernel_rfl) (by kernel_rfl) ?_
 refine qm ?_
 refine qv (fun W hm => rv_nilCheck rfl) ?_
 refine qv (vf underlying115 rfl type3) ?_
 refine qv (vl 0 1 underlying3) ?_
 refine qm ?_
 refine qv (fun W hm => rv_nilCheck rfl) ?_
 refine qv (vf underlying115 rfl type49) ?_
 refine qv (vl 0 0 underlying49) ?_
 refine qv (vlen underlying49) ?_
 refine qv vlss ?_
 refine nq' ?_
 by_cases h7 : ((x0.i : Nat) : Int) < ((x0b.length : Nat) : Int)
 ·have g8 := decide_eq_true h7
  refine CM_condT rfl g8 ?_
  refine CM_seq ?_
  refine CM_regionD (by kernel_rfl) (by kernel_rfl) ?_
  refine qm (qm ?_)
  refine qv (fun W hm => rv_nilCheck rfl) ?_
  refine qv (vf underlying115 rfl type49) ?_
  refine qv (vl 0 0 underlying49) ?_
  refine qm ?_
  refine qv (fun W hm => rv_nilCheck rfl) ?_
  refine qv (vf underlying115 rfl type3) ?_
  refine qv (vl 0 1 underlying3) ?_
  obtain ⟨a9, rfl, hb10, he11⟩ := q4 (by omega)
  refine qv (vix 1 x0.i underlying49 type5) ?_
  refine qv (fun W hm => rv_load underlying5 rfl rfl ((hm.cell0 (show (a9.add ((x0.i) * 1)).block < B from by rw [add_block]; exact hb10.1)).trans (rdS_u8 he11 (x0.i) (by omega)))) ?_
  refine qv (fun W hm => rv_conv8 underlying5 underlying3 rfl) ?_
  refine qv vadd ?_
  refine qv (fun W hm => rv_and rfl rfl) ?_
  refine qv (fun W hm => rv_assign rfl) ?_
  refine nq' (CM_region (wm (wm ?_)))
  refine wv (fun W hm => rv_nilCheck rfl) ?_
  refine wv (vf underlying115 rfl type3) ?_
  refine wv (vl 0 1 underlying3) ?_
  refine wv (vadN x0.i 1 (by omega)) ?_
  refine wv (fun W hm => rv_nilCheck rfl) ?_
  refine wv (vf underlying115 rfl type3) ?_
  refine WM_storeBox (p := p) (o := 1) (cs' := [.slice (some a9) x0b.length c3, .int .i64 ((x0.i + 1 : Nat) : Int), .int .i64 (IntKind.i64.wrap ((IntKind.i64.wrap (x0.h * 6364136223846793005)) + 1442695040888963407))]) (fun w hm => hm.front (n := 0) rfl) type3 rfl (Nat.le_of_ble_eq_true rfl) rfl rfl rfl rfl (Wd_none rfl) ?_
  refine nt' (sr (wm (wa (nt' (CM_ret ?_)))))
  have he12 := (show spec_l1Byte_m x0b x0 = ((bits .and .i64 (IntKind.i64.wrap ((bits .and .i64 (bits .xor .i64 ((IntKind.i64.wrap ((IntKind.i64.wrap (x0.h * 6364136223846793005)) + 1442695040888963407)) / 2 ^ (33 : Int).toNat) ((IntKind.i64.wrap ((IntKind.i64.wrap (x0.h * 6364136223846793005)) + 1442695040888963407)) / 2 ^ (45 : Int).toNat)) 255) + (IntKind.i64.wrap (gt x0b (x0.i))))) 255), (⟨x0.i + 1, (IntKind.i64.wrap ((IntKind.i64.wrap (x0.h * 6364136223846793005)) + 1442695040888963407))⟩ : Dl1Cur)) from cond_t g8 (rfl))
  refine QM_r1 rfl (RR_tmp rfl) (fun W hm => ⟨(), ?_, ?_⟩)
  ·first | rw [he12] | rfl
  ·rw [he12]; exact hm
 ·have g8 := decide_eq_false h7
  refine CM_condF rfl g8 ?_
  refine CM_skip (QM_then (sr (wm (wa (nt' (CM_ret ?_))))))
  have he13 := (show spec_l1Byte_m x0b x0 = ((bits .and .i64 (bits .xor .i64 ((IntKind.i64.wrap ((IntKind.i64.wrap (x0.h * 6364136223846793005)) + 1442695040888963407)) / 2 ^ (33 : Int).toNat) ((IntKind.i64.wrap ((IntKind.i64.wrap (x0.h * 6364136223846793005)) + 1442695040888963407)) / 2 ^ (45 : Int).toNat)) 255), (⟨x0.i, (IntKind.i64.wrap ((IntKind.i64.wrap (x0.h * 6364136223846793005)) + 1442695040888963407))⟩ : Dl1Cur)) from cond_f g8 (rfl))
  refine QM_r1 rfl (RR_tmp rfl) (fun W hm => ⟨(), ?_, ?_⟩)
  ·first | rw [he13] | rfl
  ·rw [he13]; exact hm

def spec_l1Below_m (x0b : List Int) (x0 : Dl1Cur) (x1 : Int) : (Int × Dl1Cur) :=
 cond (decide (x1 ≤ 0)) (0, x0) (cond (decide (x1 ≤ 256)) ((Int.tmod ((spec_l1Byte_m x0b x0).1) x1), ((spec_l1Byte_m x0b x0).2)) ((Int.tmod (IntKind.i64.wrap ((IntKind.i64.wrap ((IntKind.i64.wrap ((IntKind.i64.wrap (((spec_l1Byte_m x0b x0).1) * 16777216)) + (IntKind.i64.wrap ((spec_l1Byte_m x0b ((spec_l1Byte_m x0b x0).2)).1 * 65536)))) + (IntKind.i64.wrap (((spec_l1Byte_m x0b (spec_l1Byte_m x0b ((spec_l1Byte_m x0b x0).2)).2).1) * 256)))) + (spec_l1Byte_m x0b ((spec_l1Byte_m x0b (spec_l1Byte_m x0b ((spec_l1Byte_m x0b x0).2)).2).2)).1)) x1), (spec_l1Byte_m x0b ((spec_l1Byte_m x0b (spec_l1Byte_m x0b ((spec_l1Byte_m x0b x0).2)).2).2)).2))
theorem cb67 : Cb Tryd.prog 67 := ⟨f67, _, func67, rfl, by decide⟩
theorem spec_l1Below_c (B : Nat) (w0 : World) (is : List It) (w : World) (p : Nat) (z0 : Value) (x0b : List Int) (x0 : Dl1Cur) (r_0 : rdS tU8 w0 B z0 x0b) (x1 : Int) (s_0 : x0b.length ≤ 68719476736) (hm : Mem B w0 (iBox p 115 [z0, .int .i64 ((x0.i : Nat) : Int), .int .i64 x0.h] :: is) w) :
  Calls Tryd.prog 67 #[.pointer (some ⟨p, 0, none⟩), .int .i64 x1] w fun e w' => ∃ x : Unit, e = .returned (.int .i64 ((spec_l1Below_m x0b x0 x1).1)) ∧ Mem B w0 (iBox p 115 [z0, .int .i64 ((((spec_l1Below_m x0b x0 x1).2).i : Nat) : Int), .int .i64 ((spec_l1Below_m x0b x0 x1).2).h] :: is) w' := by
 obtain ⟨m1, A2, c3, rfl, q4, r5⟩ := rdS_op r_0
 refine call_enterW (L := [(0, .pointer (some ⟨p, 0, none⟩)), (1, .int .i64 x1)]) (N := 37) func67 rfl rfl (Nat.le_of_ble_eq_true rfl) (argsL_cons rfl (argsL_cons rfl argsL_nil)) hm ?_
 have l6 : x0b.length ≤ 68719476736 := s_0
 refine sr (wa (nt' (CM_seq (sr (wm ?_)))))
 refine wv (fun W hm => rv_leq rfl rfl) ?_
 refine nt' ?_
 by_cases h7 : x1 ≤ 0
 ·have g8 := decide_eq_true h7
  refine CM_condT rfl g8 ?_
  refine sr (wa (nt' (CM_ret (QM_then_ret ?_))))
  have he9 := (show spec_l1Below_m x0b x0 x1 = (0, x0) from cond_t g8 (rfl))
  refine QM_r1 rfl (RR_tmp rfl) (fun W hm => ⟨(), ?_, ?_⟩)
  ·first | rw [he9] | rfl
  ·rw [he9]; exact hm
 ·have g8 := decide_eq_false h7
  refine CM_condF rfl g8 ?_
  refine CM_skip (QM_then (CM_seq (sr (wm ?_))))
  refine wv (fun W hm => rv_leq rfl rfl) ?_
  refine nt' ?_
  by_cases h10 : x1 ≤ 256
  ·have g11 := decide_eq_true h10
   refine CM_condT rfl g11 ?_
   refine sr (wm ?_)
   refine WM_callW (χ := Unit) (val := fun x => .int .i64 ((spec_l1Byte_m x0b x0).1)) (js := fun x => (iBox p 115 [.slice A2 x0b.length c3, .int .i64 ((((spec_l1Byte_m x0b x0).2).i : Nat) : Int), .int .i64 ((spec_l1Byte_m x0b x0).2).h] :: (is))) (cl_fn cb87 rfl) (fun W hm => spec_l1Byte_c B w0 (is) W p _ x0b x0 r5 s_0 (hm.front (n := 0) rfl)) (Wd_none rfl) (by decide) (fun z12 => ?_)
   refine wm ?_
   refine wv (fun W hm => rv_rem rfl rfl (by omega)) ?_
   refine wa (nt' (CM_ret (QM_then_ret ?_)))
   have he13 := (show spec_l1Below_m x0b x0 x1 = ((Int.tmod ((spec_l1Byte_m x0b x0).1) x1), ((spec_l1Byte_m x0b x0).2)) from cond_f g8 (cond_t g11 (rfl)))
   refine QM_r1 rfl (RR_tmp rfl) (fun W hm => ⟨(), ?_, ?_⟩)
   ·first | rw [he13] | rfl
   ·rw [he13]; exact hm
  ·have g11 := decide_eq_false h10
   refine CM_condF rfl g11 ?_
   refine CM_skip (QM_then (sr (wm ?_)))
   refine WM_callW (χ := Unit) (val := fun x => .int .i64 ((spec_l1Byte_m x0b x0).1)) (js := fun x => (iBox p 115 [.slice A2 x0b.length c3, .int .i64 ((((spec_l1Byte_m x0b x0).2).i : Nat) : Int), .int .i64 ((spec_l1Byte_m x0b x0).2).h] :: (is))) (cl_fn cb87 rfl) (fun W hm => spec_l1Byte_c B w0 (is) W p _ x0b x0 r5 s_0 (hm.front (n := 0) rfl)) (Wd_none rfl) (by decide) (fun z14 => ?_)
   refine wa (nt' (sr (wm ?_)))
   refine WM_callW (χ := Unit) (val := fun x => .int .i64 ((spec_l1Byte_m x0b ((spec_l1Byte_m x0b x0).2)).1)) (js := fun x => (iBox p 115 [.slice A2 x0b.length c3, .int .i64 ((((spec_l1Byte_m x0b ((spec_l1Byte_m x0b x0).2)).2).i : Nat) : Int), .int .i64 ((spec_l1Byte_m x0b ((spec_l1Byte_m x0b x0).2)).2).h] :: (is))) (cl_fn cb87 rfl) (fun W hm => spec_l1Byte_c B w0 (is) W p _ x0b ((spec_l1Byte_m x0b x0).2) r5 s_0 (hm.front (n := 0) rfl)) (Wd_none rfl) (by decide) (fun z15 => ?_)
   obtain ⟨G16, hG16⟩ : ∃ G, G = (spec_l1Byte_m x0b ((spec_l1Byte_m x0b x0).2)) := ⟨_, rfl⟩
   rw [← hG16]
   refine wa (nt' (sr (wm ?_)))
   refine WM_callW (χ := Unit) (val := fun x => .int .i64 ((spec_l1Byte_m x0b G16.2).1)) (js := fun x => (iBox p 115 [.slice A2 x0b.length c3, .int .i64 ((((spec_l1Byte_m x0b G16.2).2).i : Nat) : Int), .int .i64 ((spec_l1Byte_m x0b G16.2).2).h] :: (is))) (cl_fn cb87 rfl) (fun W hm => spec_l1Byte_c B w0 (is) W p _ x0b G16.2 r5 s_0 (hm.front (n := 0) rfl)) (Wd_none rfl) (by decide) (fun z17 => ?_)
   refine wa (nt' (sr (wm ?_)))
   refine WM_callW (χ := Unit) (val := fun x => .int .i64 ((spec_l1Byte_m x0b ((spec_l1Byte_m x0b G16.2).2)).1)) (js := fun x => (iBox p 115 [.slice A2 x0b.length c3, .int .i64 ((((spec_l1Byte_m x0b ((spec_l1Byte_m x0b G16.2).2)).2).i : Nat) : Int), .int .i64 ((spec_l1Byte_m x0b ((spec_l1Byte_m x0b G16.2).2)).2).h] :: (is))) (cl_fn cb87 rfl) (fun W hm => spec_l1Byte_c B w0 (is) W p _ x0b ((spec_l1Byte_m x0b G16.2).2) r5 s_0 (hm.front (n := 0) rfl)) (Wd_none rfl) (by decide) (fun z18 => ?_)
   obtain ⟨G19, hG19⟩ : ∃ G, G = (spec_l1Byte_m x0b ((spec_l1Byte_m x0b G16.2).2)) := ⟨_, rfl⟩
   rw [← hG19]
   refine wa (nt' (sr (wm ?_)))
   refine wv (fun W hm => rv_mul rfl rfl) ?_
   refine wm ?_
   refine wv (fun W hm => rv_mul rfl rfl) ?_
   refine wv vadd ?_
   refine wm ?_
   refine wv (fun W hm => rv_mul rfl rfl) ?_
   refine wv vadd ?_
   refine wm ?_
   refine wv vadd ?_
   refine wm ?_
   refine wv (fun W hm => rv_rem rfl rfl (by omega)) ?_
   refine wa (nt' (CM_ret ?_))
   have he20 := (show spec_l1Below_m x0b x0 x1 = ((Int.tmod (IntKind.i64.wrap ((IntKind.i64.wrap ((IntKind.i64.wrap ((IntKind.i64.wrap (((spec_l1Byte_m x0b x0).1) * 16777216)) + (IntKind.i64.wrap (G16.1 * 65536)))) + (IntKind.i64.wrap (((spec_l1Byte_m x0b G16.2).1) * 256)))) + G19.1)) x1), G19.2) from by subst hG16 hG19; exact cond_f g8 (cond_f g11 (rfl)))
   refine QM_r1 rfl (RR_tmp rfl) (fun W hm => ⟨(), ?_, ?_⟩)
   ·first | rw [he20] | rfl
   ·rw [he20]; exact hm

theorem spec_l1Byte_rng (b : List Int) (D : Dl1Cur) : 0 ≤ (spec_l1Byte_m b D).1 ∧ (spec_l1Byte_m b D).1 ≤ 255 := by
  unfold spec_l1Byte_m
  cases decide (((D.i : Nat) : Int) < ((b.length : Nat) : Int))
  · exact and255 _
  · exact and255 _
theorem spec_l1Below_rng (b : List Int) (D : Dl1Cur) (n : Int) : 0 ≤ (spec_l1Below_m b D n).1 ∧ (0 < n → (spec_l1Below_m b D n).1 < n) ∧ (n ≤ 0 → (spec_l1Below_m b D n).1 = 0) := by
  unfold spec_l1Below_m
  by_cases h : n ≤ 0
  · rw [decide_eq_true h]
    exact ⟨Int.le_refl _, fun h2 => absurd h (by omega), fun _ => rfl⟩
  rw [decide_eq_false h, cond_false]
  by_cases h2 : n ≤ 256
  · rw [decide_eq_true h2, cond_true]
    have h3 := spec_l1Byte_rng b D
    exact ⟨Int.tmod_nonneg _ h3.1, fun _ => Int.tmod_lt_of_pos _ (by omega), fun h4 => absurd h4 h⟩
  · rw [decide_eq_false h2, cond_false]
    have h3 := spec_l1Byte_rng b D
    have h4 := spec_l1Byte_rng b (spec_l1Byte_m b D).2
    have h5 := spec_l1Byte_rng b (spec_l1Byte_m b (spec_l1Byte_m b D).2).2
    have h6 := spec_l1Byte_rng b (spec_l1Byte_m b (spec_l1Byte_m b (spec_l1Byte_m b D).2).2).2
    refine ⟨Int.tmod_nonneg _ ?_, fun _ => Int.tmod_lt_of_pos _ (by omega), fun h4 => absurd h4 h⟩
    rw [wrap_id (n := (spec_l1Byte_m b D).1 * 16777216) (by omega) (by omega), wrap_id (n := (spec_l1Byte_m b (spec_l1Byte_m b D).2).1 * 65536) (by omega) (by omega), wrap_id (n := (spec_l1Byte_m b (spec_l1Byte_m b (spec_l1Byte_m b D).2).2).1 * 256) (by omega) (by omega),
      wrap_id (n := (spec_l1Byte_m b D).1 * 16777216 + (spec_l1Byte_m b (spec_l1Byte_m b D).2).1 * 65536) (by omega) (by omega)]
    rw [wrap_id (n := (spec_l1Byte_m b D).1 * 16777216 + (spec_l1Byte_m b (spec_l1Byte_m b D).2).1 * 65536 + (spec_l1Byte_m b (spec_l1Byte_m b (spec_l1Byte_m b D).2).2).1 * 256) (by omega) (by omega), wrap_id (by omega) (by omega)]
    omega
def spec_l1PickInt_m (x0b : List Int) (x0 : Dl1Cur) (x1 : (List Int)) : (Int × Dl1Cur) :=
 ((gt x1 ((spec_l1Below_m x0b x0 ((x1.length : Nat) : Int)).1.toNat)), (spec_l1Below_m x0b x0 ((x1.length : Nat) : Int)).2)
theorem cb86 : Cb Tryd.prog 86 := ⟨f86, _, func86, rfl, by decide⟩
theorem spec_l1PickInt_c (B : Nat) (w0 : World) (is : List It) (w : World) (p : Nat) (z0 : Value) (x0b : List Int) (x0 : Dl1Cur) (r_0 : rdS tU8 w0 B z0 x0b) (z1 : Value) (x1 : (List Int)) (s_0 : x0b.length ≤ 68719476736) (s_1 : x1.length ≤ 68719476736) (hx1 : 0 < x1.length) (hm : Mem B w0 (iBox p 115 [z0, .int .i64 ((x0.i : Nat) : Int), .int .i64 x0.h] :: iOwn (tSl tInt 3) [z1] x1 :: is) w) :
  Calls Tryd.prog 86 #[.pointer (some ⟨p, 0, none⟩), z1] w fun e w' => ∃ x : Unit, e = .returned (.int .i64 ((spec_l1PickInt_m x0b x0 x1).1)) ∧ Mem B w0 (iBox p 115 [z0, .int .i64 ((((spec_l1PickInt_m x0b x0 x1).2).i : Nat) : Int), .int .i64 ((spec_l1PickInt_m x0b x0 x1).2).h] :: iOwn (tSl tInt 3) [z1] x1 :: is) w' := by
 obtain ⟨m1, A2, c3, rfl, q4, r5⟩ := rdS_op r_0
 refine call_enterW (L := [(0, .pointer (some ⟨p, 0, none⟩)), (1, z1)]) (N := 12) func86 rfl rfl (Nat.le_of_ble_eq_true rfl) (argsL_cons rfl (argsL_cons rfl argsL_nil)) hm ?_
 refine CM_form (n := 1) rfl ?_
 rintro A6 c7 rfl m8
 have l10 : x0b.length ≤ 68719476736 := s_0
 have l11 : x1.length ≤ 68719476736 := s_1
 refine sr (wa (nt' (sr (wm (wm (wm ?_))))))
 refine wv (vlen underlying28) ?_
 refine WM_callW (χ := Unit) (val := fun x => .int .i64 ((spec_l1Below_m x0b x0 ((x1.length : Nat) : Int)).1)) (js := fun x => (iBox p 115 [.slice A2 x0b.length c3, .int .i64 ((((spec_l1Below_m x0b x0 ((x1.length : Nat) : Int)).2).i : Nat) : Int), .int .i64 ((spec_l1Below_m x0b x0 ((x1.length : Nat) : Int)).2).h] :: (iOwn (tSl tInt 3) [.slice A6 x1.length c7] x1 :: is))) (cl_fn cb67 rfl) (fun W hm => spec_l1Below_c B w0 (iOwn (tSl tInt 3) [.slice A6 x1.length c7] x1 :: is) W p _ x0b x0 r5 ((x1.length : Nat) : Int) s_0 (hm.front (n := 0) rfl)) (Wd_none rfl) (by decide) (fun z12 => ?_)
 have hb := spec_l1Below_rng x0b x0 ((x1.length : Nat) : Int)
 obtain ⟨G13, hG13⟩ : ∃ G, G = (spec_l1Below_m x0b x0 ((x1.length : Nat) : Int)) := ⟨_, rfl⟩
 rw [← hG13]
 rw [← hG13] at hb
 refine WM_formO (n := 1) rfl (by omega) ?_
 rintro g14 rfl
 refine wv (fun W hm => rv_indexI (sz := 1) (k := G13.1) underlying28 type3 rfl rfl rfl (by omega) (by omega)) ?_
 refine wv (fun W hm => rv_load underlying3 rfl rfl (hm.ownInt (i := 1) rfl (by omega))) ?_
 refine wa (nt' (CM_ret ?_))
 have he15 := (show spec_l1PickInt_m x0b x0 x1 = ((gt x1 (G13.1.toNat)), G13.2) from by subst hG13; exact rfl)
 refine QM_r1 rfl (RR_tmp rfl) (fun W hm => ⟨(), ?_, ?_⟩)
 ·first | rw [he15] | rfl
 ·rw [he15]; exact hm

def spec_l10Charge_b1 (x0b : List Int) (x0 : Dl1Cur) (k15 : Nat) (s19 : Int) (s20 : Int) (s21 : Nat) (s22 : Int) (d24 : (List Int)) (d28 : (List Int)) (d32 : (List Int)) : (DCharge × Dl1Cur) ⊕ ((Int × Int × Nat × Int × (List Int) × (List Int) × (List Int)) ⊕ (Int × Int × Nat × Int × (List Int) × (List Int) × (List Int))) :=
 cond (decide (0 < s20)) (Sum.inr (Sum.inr ((IntKind.i64.wrap ((IntKind.i64.wrap (s19 + 1)) + ((spec_l1Below_m x0b (spec_l1Below_m x0b (spec_l1Below_m x0b (⟨s21, s22⟩ : Dl1Cur) 4).2 (IntKind.i64.wrap ((spec_l1Below_m x0b ((spec_l1Below_m x0b x0 4).2) 5).1 + 1))).2 2).1))), (IntKind.i64.wrap (s20 - 1)), ((spec_l1Below_m x0b (spec_l1Below_m x0b (spec_l1Below_m x0b (⟨s21, s22⟩ : Dl1Cur) 4).2 (IntKind.i64.wrap ((spec_l1Below_m x0b ((spec_l1Below_m x0b x0 4).2) 5).1 + 1))).2 2).2).i, ((spec_l1Below_m x0b (spec_l1Below_m x0b (spec_l1Below_m x0b (⟨s21, s22⟩ : Dl1Cur) 4).2 (IntKind.i64.wrap ((spec_l1Below_m x0b ((spec_l1Below_m x0b x0 4).2) 5).1 + 1))).2 2).2).h, (d24 ++ [s19]), (d28 ++ [(spec_l1Below_m x0b (⟨s21, s22⟩ : Dl1Cur) 4).1]), (d32 ++ [(spec_l1Below_m x0b (spec_l1Below_m x0b (⟨s21, s22⟩ : Dl1Cur) 4).2 (IntKind.i64.wrap ((spec_l1Below_m x0b ((spec_l1Below_m x0b x0 4).2) 5).1 + 1))).1])))) (Sum.inr (Sum.inl (s19, s20, s21, s22, d24, d28, d32)))
def spec_l10Charge_m (x0b : List Int) (x0 : Dl1Cur) : (DCharge × Dl1Cur) :=
 Sum.elim id (fun (s : Int × Int × Nat × Int × (List Int) × (List Int) × (List Int)) => cond ((spec_l1Below_m x0b (⟨s.2.2.1, s.2.2.2.1⟩ : Dl1Cur) 14).1 == 0) ((⟨(spec_l1Below_m x0b x0 4).1, (spec_l1PickInt_m x0b (spec_l1Below_m x0b (⟨s.2.2.1, s.2.2.2.1⟩ : Dl1Cur) 14).2 [(-1), 0, 4, 5]).1, s.2.2.2.2.1, s.2.2.2.2.2.1, s.2.2.2.2.2.2⟩ : DCharge), (spec_l1PickInt_m x0b (spec_l1Below_m x0b (⟨s.2.2.1, s.2.2.2.1⟩ : Dl1Cur) 14).2 [(-1), 0, 4, 5]).2) (cond ((spec_l1Below_m x0b (⟨s.2.2.1, s.2.2.2.1⟩ : Dl1Cur) 14).1 == 1) ((⟨(spec_l1Below_m x0b x0 4).1, (spec_l1Below_m x0b ((spec_l1Below_m x0b x0 4).2) 5).1, s.2.2.2.2.1, s.2.2.2.2.2.1, (List.drop 1 s.2.2.2.2.2.2)⟩ : DCharge), (spec_l1Below_m x0b (⟨s.2.2.1, s.2.2.2.1⟩ : Dl1Cur) 14).2) (cond ((spec_l1Below_m x0b (⟨s.2.2.1, s.2.2.2.1⟩ : Dl1Cur) 14).1 == 2) ((⟨(spec_l1Below_m x0b x0 4).1, (spec_l1Below_m x0b ((spec_l1Below_m x0b x0 4).2) 5).1, s.2.2.2.2.1, (s.2.2.2.2.2.1.set 0 (spec_l1PickInt_m x0b (spec_l1Below_m x0b (⟨s.2.2.1, s.2.2.2.1⟩ : Dl1Cur) 14).2 [(-1), 3, 4]).1), s.2.2.2.2.2.2⟩ : DCharge), (spec_l1PickInt_m x0b (spec_l1Below_m x0b (⟨s.2.2.1, s.2.2.2.1⟩ : Dl1Cur) 14).2 [(-1), 3, 4]).2) ((⟨(spec_l1Below_m x0b x0 4).1, (spec_l1Below_m x0b ((spec_l1Below_m x0b x0 4).2) 5).1, s.2.2.2.2.1, s.2.2.2.2.2.1, s.2.2.2.2.2.2⟩ : DCharge), (spec_l1Below_m x0b (⟨s.2.2.1, s.2.2.2.1⟩ : Dl1Cur) 14).2)))) (rngb (R := (DCharge × Dl1Cur)) (fun k (s : Int × Int × Nat × Int × (List Int) × (List Int) × (List Int)) => spec_l10Charge_b1 x0b x0 k s.1 s.2.1 s.2.2.1 s.2.2.2.1 s.2.2.2.2.1 s.2.2.2.2.2.1 s.2.2.2.2.2.2) (((IntKind.i64.wrap (1 + (spec_l1Below_m x0b ((spec_l1Below_m x0b (spec_l1Below_m x0b ((spec_l1Below_m x0b x0 4).2) 5).2 3).2) 4).1))).toNat + 1 - 0) 0 ((spec_l1Below_m x0b (spec_l1Below_m x0b ((spec_l1Below_m x0b x0 4).2) 5).2 3).1, (IntKind.i64.wrap (1 + (spec_l1Below_m x0b ((spec_l1Below_m x0b (spec_l1Below_m x0b ((spec_l1Below_m x0b x0 4).2) 5).2 3).2) 4).1)), (spec_l1Below_m x0b ((spec_l1Below_m x0b (spec_l1Below_m x0b ((spec_l1Below_m x0b x0 4).2) 5).2 3).2) 4).2.i, (spec_l1Below_m x0b ((spec_l1Below_m x0b (spec_l1Below_m x0b ((spec_l1Below_m x0b x0 4).2) 5).2 3).2) 4).2.h, [], [], []))
theorem rngb_invP {R S : Type} {b : Nat → S → R ⊕ (S ⊕ S)} {P : Nat → S → Prop} {Q : S → Prop} (h : ∀ k s, P k s → (∃ s', b k s = .inr (.inr s') ∧ P (k + 1) s') ∨ ∃ s', b k s = .inr (.inl s') ∧ Q s') : ∀ m k s, P k s → ∃ s', rngb b m k s = .inr s' ∧ (Q s' ∨ P (k + m) s')
 | 0, _, s, hp => ⟨s, rfl, .inr hp⟩
 | m + 1, k, s, hp => by
  rcases h k s hp with ⟨s', h1, h2⟩ | ⟨s', h1, h2⟩
  ·obtain ⟨s'', h3, h4⟩ := rngb_invP (P := P) (Q := Q) h m (k + 1) s' h2
   exact ⟨s'', by rw [rngb, h1]; exact h3, by rw [show k + (m + 1) = k + 1 + m by omega]; exact h4⟩
  ·exact ⟨s', by rw [rngb, h1]; rfl, .inl h2⟩
theorem spec_l10Charge_out {b : List Int} {D : Dl1Cur} {n id0 h0 : Int} {i0 : Nat} (h1 : 1 ≤ n) (h2 : n ≤ 4) {a c e : Int} {d : Nat} {f g j : List Int} (hE : rngb (R := (DCharge × Dl1Cur)) (fun k (s : Int × Int × Nat × Int × (List Int) × (List Int) × (List Int)) => spec_l10Charge_b1 b D k s.1 s.2.1 s.2.2.1 s.2.2.2.1 s.2.2.2.2.1 s.2.2.2.2.2.1 s.2.2.2.2.2.2) (n.toNat + 1 - 0) 0 (id0, n, i0, h0, [], [], []) = .inr (a, c, d, e, f, g, j)) : (1 ≤ f.length ∧ f.length ≤ 4) ∧ g.length = f.length ∧ j.length = f.length := by
 obtain ⟨s', e1, e2⟩ := rngb_invP (R := (DCharge × Dl1Cur)) (b := fun k (s : Int × Int × Nat × Int × (List Int) × (List Int) × (List Int)) => spec_l10Charge_b1 b D k s.1 s.2.1 s.2.2.1 s.2.2.2.1 s.2.2.2.2.1 s.2.2.2.2.2.1 s.2.2.2.2.2.2) (P := fun k s => (0 ≤ s.2.1 ∧ s.2.1 ≤ 4) ∧ k + s.2.1.toNat = n.toNat ∧ s.2.2.2.2.1.length = k ∧ s.2.2.2.2.2.1.length = k ∧ s.2.2.2.2.2.2.length = k) (Q := fun s => s.2.2.2.2.1.length = n.toNat ∧ s.2.2.2.2.2.1.length = n.toNat ∧ s.2.2.2.2.2.2.length = n.toNat) (fun k s ⟨p0, p1, p2, p3, p4⟩ => by
  show (∃ s', spec_l10Charge_b1 b D k s.1 s.2.1 s.2.2.1 s.2.2.2.1 s.2.2.2.2.1 s.2.2.2.2.2.1 s.2.2.2.2.2.2 = _ ∧ _) ∨ ∃ s', spec_l10Charge_b1 b D k s.1 s.2.1 s.2.2.1 s.2.2.2.1 s.2.2.2.2.1 s.2.2.2.2.2.1 s.2.2.2.2.2.2 = _ ∧ _
  unfold spec_l10Charge_b1
  by_cases h : 0 < s.2.1
  ·rw [decide_eq_true h, wrap_id (n := s.2.1 - 1) (by omega) (by omega)]
   refine .inl ⟨_, rfl, ?_, ?_, ?_, ?_, ?_⟩
   ·show 0 ≤ s.2.1 - 1 ∧ s.2.1 - 1 ≤ 4; omega
   ·show k + 1 + (s.2.1 - 1).toNat = n.toNat; omega
   ·show (s.2.2.2.2.1 ++ [_]).length = k + 1; rw [List.length_append, p2]; rfl
   ·show (s.2.2.2.2.2.1 ++ [_]).length = k + 1; rw [List.length_append, p3]; rfl
   ·show (s.2.2.2.2.2.2 ++ [_]).length = k + 1; rw [List.length_append, p4]; rfl
  ·rw [decide_eq_false h]
   exact .inr ⟨_, rfl, (by show s.2.2.2.2.1.length = n.toNat; omega), (by show s.2.2.2.2.2.1.length = n.toNat; omega), (by show s.2.2.2.2.2.2.length = n.toNat; omega)⟩) (n.toNat + 1 - 0) 0 (id0, n, i0, h0, [], [], []) ⟨(by show 0 ≤ n ∧ n ≤ 4; omega), (by show 0 + n.toNat = n.toNat; omega), rfl, rfl, rfl⟩
 rw [hE] at e1
 cases e1
 have e3 : f.length = n.toNat ∧ g.length = n.toNat ∧ j.length = n.toNat := by
  rcases e2 with e2 | ⟨_, e2, _⟩
  ·exact e2
  ·exact absurd e2 (by omega)
 omega
theorem cb63 : Cb Tryd.prog 63 := ⟨f63, _, func63, rfl, by decide⟩
theorem spec_l10Charge_c (B : Nat) (w0 : World) (is : List It) (w : World) (p : Nat) (z0 : Value) (x0b : List Int) (x0 : Dl1Cur) (r_0 : rdS tU8 w0 B z0 x0b) (s_0 : x0b.length ≤ 68719476736) (hm : Mem B w0 (iBox p 115 [z0, .int .i64 ((x0.i : Nat) : Int), .int .i64 x0.h] :: is) w) :
  Calls Tryd.prog 63 #[.pointer (some ⟨p, 0, none⟩)] w fun e w' => ∃ x : List Value, e = .returned (.agg x.toArray) ∧ Mem B w0 (iOwn tyCharge x ((spec_l10Charge_m x0b x0).1) :: iBox p 115 [z0, .int .i64 ((((spec_l10Charge_m x0b x0).2).i : Nat) : Int), .int .i64 ((spec_l10Charge_m x0b x0).2).h] :: is) w' := by
 obtain ⟨m1, A2, c3, rfl, q4, r5⟩ := rdS_op r_0
 refine call_enterW (L := [(0, .pointer (some ⟨p, 0, none⟩))]) (N := 71) func63 rfl rfl (Nat.le_of_ble_eq_true rfl) (argsL_cons rfl argsL_nil) hm ?_
 have l6 : x0b.length ≤ 68719476736 := s_0
 refine sr ?_
 refine WM_alloc type33 rfl (Wd_none rfl) (by decide) (fun p7 => ?_)
 refine nt' (sr (wm ?_))
 let K3 : List Value := [.int .i64 0, .int .i64 0, .slice none 0 0, .slice none 0 0, .slice none 0 0]
 refine WM_callW (χ := Unit) (val := fun x => .int .i64 ((spec_l1Below_m x0b x0 4).1)) (js := fun x => (iBox p 115 [.slice A2 x0b.length c3, .int .i64 ((((spec_l1Below_m x0b x0 4).2).i : Nat) : Int), .int .i64 ((spec_l1Below_m x0b x0 4).2).h] :: (iBox p7 33 K3 :: is))) (cl_fn cb67 rfl) (fun W hm => spec_l1Below_c B w0 (iBox p7 33 K3 :: is) W p _ x0b x0 r5 4 s_0 (hm.front (n := 1) rfl)) (Wd_none rfl) (by decide) (fun z8 => ?_)
 have hb := spec_l1Below_rng x0b x0 4
 have hw5 := wrap_id (n := 1 + (spec_l1Below_m x0b x0 4).1) (by omega) (by omega)
 refine wm ?_
 refine WM_callW (χ := Unit) (val := fun x => .int .i64 ((spec_l1Below_m x0b ((spec_l1Below_m x0b x0 4).2) 5).1)) (js := fun x => (iBox p 115 [.slice A2 x0b.length c3, .int .i64 ((((spec_l1Below_m x0b ((spec_l1Below_m x0b x0 4).2) 5).2).i : Nat) : Int), .int .i64 ((spec_l1Below_m x0b ((spec_l1Below_m x0b x0 4).2) 5).2).h] :: (iBox p7 33 K3 :: is))) (cl_fn cb67 rfl) (fun W hm => spec_l1Below_c B w0 (iBox p7 33 K3 :: is) W p _ x0b ((spec_l1Below_m x0b x0 4).2) r5 5 s_0 (hm.front (n := 0) rfl)) (Wd_none rfl) (by decide) (fun z9 => ?_)
 have hb := spec_l1Below_rng x0b ((spec_l1Below_m x0b x0 4).2) 5
 obtain ⟨G10, hG10⟩ : ∃ G, G = (spec_l1Below_m x0b ((spec_l1Below_m x0b x0 4).2) 5) := ⟨_, rfl⟩
 rw [← hG10]
 rw [← hG10] at hb
 let K4 : List Value := [.int .i64 ((spec_l1Below_m x0b x0 4).1), .int .i64 G10.1, .slice none 0 0, .slice none 0 0, .slice none 0 0]
 refine wv (fun W hm => rv_build (cs := K4) rfl (by kernel_rfl)) ?_
 refine WM_alloc type33 rfl (Wd_none rfl) (by decide) (fun p11 => ?_)
 refine WM_storeBox (p := p11) (o := 0) (cs' := K4) (fun w hm => hm.front (n := 0) rfl) type33 rfl (Nat.le_of_ble_eq_true rfl) rfl rfl rfl rfl (Wd_none rfl) ?_
 refine nt' (sr (wm ?_))
 refine WM_callW (χ := Unit) (val := fun x => .int .i64 ((spec_l1Below_m x0b G10.2 3).1)) (js := fun x => (iBox p 115 [.slice A2 x0b.length c3, .int .i64 ((((spec_l1Below_m x0b G10.2 3).2).i : Nat) : Int), .int .i64 ((spec_l1Below_m x0b G10.2 3).2).h] :: (iBox p11 33 K4 :: iBox p7 33 K3 :: is))) (cl_fn cb67 rfl) (fun W hm => spec_l1Below_c B w0 (iBox p11 33 K4 :: iBox p7 33 K3 :: is) W p _ x0b G10.2 r5 3 s_0 (hm.front (n := 1) rfl)) (Wd_none rfl) (by decide) (fun z12 => ?_)
 have hb := spec_l1Below_rng x0b G10.2 3
 refine wa (nt' (CM_seq (sr (wm ?_))))
 refine WM_callW (χ := Unit) (val := fun x => .int .i64 ((spec_l1Below_m x0b ((spec_l1Below_m x0b G10.2 3).2) 4).1)) (js := fun x => (iBox p 115 [.slice A2 x0b.length c3, .int .i64 ((((spec_l1Below_m x0b ((spec_l1Below_m x0b G10.2 3).2) 4).2).i : Nat) : Int), .int .i64 ((spec_l1Below_m x0b ((spec_l1Below_m x0b G10.2 3).2) 4).2).h] :: (iBox p11 33 K4 :: iBox p7 33 K3 :: is))) (cl_fn cb67 rfl) (fun W hm => spec_l1Below_c B w0 (iBox p11 33 K4 :: iBox p7 33 K3 :: is) W p _ x0b ((spec_l1Below_m x0b G10.2 3).2) r5 4 s_0 (hm.front (n := 0) rfl)) (Wd_none rfl) (by decide) (fun z13 => ?_)
 have hb := spec_l1Below_rng x0b ((spec_l1Below_m x0b G10.2 3).2) 4
 have hw5 := wrap_id (n := 1 + (spec_l1Below_m x0b ((spec_l1Below_m x0b G10.2 3).2) 4).1) (by omega) (by omega)
 obtain ⟨G14, hG14⟩ : ∃ G, G = (spec_l1Below_m x0b ((spec_l1Below_m x0b G10.2 3).2) 4) := ⟨_, rfl⟩
 rw [← hG14]
 rw [← hG14] at hb
 rw [← hG14] at hw5
 refine wv vadd ?_
 refine wa (nt' ?_)
 let K5 : List Value := [.slice A2 x0b.length c3, .int .i64 ((G14.2.i : Nat) : Int), .int .i64 G14.2.h]
 refine CM_items (js := (iOwn (tSl tInt 3) [.slice none 0 0] [] :: iBox p 115 K5 :: iBox p11 33 K4 :: iBox p7 33 K3 :: is)) (fun W hm => hm.addNil (E := tInt) (e := 3)) ?_
 refine CM_items (js := (iBox p 115 K5 :: iBox p11 33 K4 :: iBox p7 33 K3 :: iOwn (tSl tInt 3) [.slice none 0 0] [] :: is)) (fun W hm => (((hm.front (n := 3) rfl).front (n := 3) rfl).front (n := 3) rfl)) ?_
 refine CM_items (js := (iOwn (tSl tInt 3) [.slice none 0 0] [] :: iBox p 115 K5 :: iBox p11 33 K4 :: iBox p7 33 K3 :: iOwn (tSl tInt 3) [.slice none 0 0] [] :: is)) (fun W hm => hm.addNil (E := tInt) (e := 3)) ?_
 refine CM_items (js := (iBox p 115 K5 :: iBox p11 33 K4 :: iBox p7 33 K3 :: iOwn (tSl tInt 3) [.slice none 0 0] [] :: iOwn (tSl tInt 3) [.slice none 0 0] [] :: is)) (fun W hm => ((((hm.front (n := 4) rfl).front (n := 4) rfl).front (n := 4) rfl).front (n := 4) rfl)) ?_
 refine CM_items (js := (iOwn (tSl tInt 3) [.slice none 0 0] [] :: iBox p 115 K5 :: iBox p11 33 K4 :: iBox p7 33 K3 :: iOwn (tSl tInt 3) [.slice none 0 0] [] :: iOwn (tSl tInt 3) [.slice none 0 0] [] :: is)) (fun W hm => hm.addNil (E := tInt) (e := 3)) ?_
 refine CM_items (js := (iBox p 115 K5 :: iBox p11 33 K4 :: iBox p7 33 K3 :: iOwn (tSl tInt 3) [.slice none 0 0] [] :: iOwn (tSl tInt 3) [.slice none 0 0] [] :: iOwn (tSl tInt 3) [.slice none 0 0] [] :: is)) (fun W hm => (((((hm.front (n := 5) rfl).front (n := 5) rfl).front (n := 5) rfl).front (n := 5) rfl).front (n := 5) rfl)) ?_
 let F1 := fun k (s : Int × Int × Nat × Int × (List Int) × (List Int) × (List Int)) => spec_l10Charge_b1 x0b x0 k s.1 s.2.1 s.2.2.1 s.2.2.2.1 s.2.2.2.2.1 s.2.2.2.2.2.1 s.2.2.2.2.2.2
 let R2 := rngb (R := (DCharge × Dl1Cur)) F1
 refine CM_cut (σ := (Int × Int × Nat × Int × (List Int) × (List Int) × (List Int)) × (Option Addr × Nat × Option Addr × Nat × Option Addr × Nat)) (fun s => [(0, .pointer (some (⟨p, 0, none⟩ : Addr))), (2, .pointer (some (⟨p7, 0, none⟩ : Addr))), (3, .pointer (some (⟨p11, 0, none⟩ : Addr)))]) (fun s => (iBox p 115 [.slice A2 x0b.length c3, .int .i64 ((s.1.2.2.1 : Nat) : Int), .int .i64 s.1.2.2.2.1] :: iBox p11 33 [.int .i64 ((spec_l1Below_m x0b x0 4).1), .int .i64 G10.1, .slice s.2.1 s.1.2.2.2.2.1.length s.2.2.1, .slice s.2.2.2.1 s.1.2.2.2.2.2.1.length s.2.2.2.2.1, .slice s.2.2.2.2.2.1 s.1.2.2.2.2.2.2.length s.2.2.2.2.2.2] :: iBox p7 33 K3 :: iOwn (tSl tInt 3) [.slice s.2.1 s.1.2.2.2.2.1.length s.2.2.1] s.1.2.2.2.2.1 :: iOwn (tSl tInt 3) [.slice s.2.2.2.1 s.1.2.2.2.2.2.1.length s.2.2.2.2.1] s.1.2.2.2.2.2.1 :: iOwn (tSl tInt 3) [.slice s.2.2.2.2.2.1 s.1.2.2.2.2.2.2.length s.2.2.2.2.2.2] s.1.2.2.2.2.2.2 :: is)) (fun s => R2 (((IntKind.i64.wrap (1 + G14.1))).toNat + 1 - 0) 0 ((spec_l1Below_m x0b G10.2 3).1, (IntKind.i64.wrap (1 + G14.1)), G14.2.i, G14.2.h, [], [], []) = Sum.inr s.1) ?_ ?_
 ·
  refine CM_block ?_
  refine CM_loop (σ := Nat × (Int × Int × Nat × Int × (List Int) × (List Int) × (List Int)) × (Option Addr × Nat × Option Addr × Nat × Option Addr × Nat)) (fun s => [(0, .pointer (some (⟨p, 0, none⟩ : Addr))), (2, .pointer (some (⟨p7, 0, none⟩ : Addr))), (3, .pointer (some (⟨p11, 0, none⟩ : Addr))), (4, .int .i64 s.2.1.1), (5, .int .i64 s.2.1.2.1)]) (fun s => (iBox p 115 [.slice A2 x0b.length c3, .int .i64 ((s.2.1.2.2.1 : Nat) : Int), .int .i64 s.2.1.2.2.2.1] :: iBox p11 33 [.int .i64 ((spec_l1Below_m x0b x0 4).1), .int .i64 G10.1, .slice s.2.2.1 s.2.1.2.2.2.2.1.length s.2.2.2.1, .slice s.2.2.2.2.1 s.2.1.2.2.2.2.2.1.length s.2.2.2.2.2.1, .slice s.2.2.2.2.2.2.1 s.2.1.2.2.2.2.2.2.length s.2.2.2.2.2.2.2] :: iBox p7 33 K3 :: iOwn (tSl tInt 3) [.slice s.2.2.1 s.2.1.2.2.2.2.1.length s.2.2.2.1] s.2.1.2.2.2.2.1 :: iOwn (tSl tInt 3) [.slice s.2.2.2.2.1 s.2.1.2.2.2.2.2.1.length s.2.2.2.2.2.1] s.2.1.2.2.2.2.2.1 :: iOwn (tSl tInt 3) [.slice s.2.2.2.2.2.2.1 s.2.1.2.2.2.2.2.2.length s.2.2.2.2.2.2.2] s.2.1.2.2.2.2.2.2 :: is)) (fun s => s.1 + ((s.2.1.2.1).toNat) + 1 ≤ ((IntKind.i64.wrap (1 + G14.1))).toNat + 1 ∧ R2 (((IntKind.i64.wrap (1 + G14.1))).toNat + 1 - s.1) s.1 s.2.1 = R2 (((IntKind.i64.wrap (1 + G14.1))).toNat + 1 - 0) 0 ((spec_l1Below_m x0b G10.2 3).1, (IntKind.i64.wrap (1 + G14.1)), G14.2.i, G14.2.h, [], [], []) ∧ s.2.1.2.2.2.2.1.length ≤ 0 + s.1 ∧ s.2.1.2.2.2.2.2.1.length ≤ 0 + s.1 ∧ s.2.1.2.2.2.2.2.2.length ≤ 0 + s.1 ∧ 0 ≤ s.2.1.2.1 ∧ s.2.1.2.1 ≤ 4) (fun s => ((IntKind.i64.wrap (1 + G14.1))).toNat + 1 - s.1) (0, ((spec_l1Below_m x0b G10.2 3).1, (IntKind.i64.wrap (1 + G14.1)), G14.2.i, G14.2.h, [], [], []), (none, 0, none, 0, none, 0)) sl5 (fun W hm => hm) ⟨(show 0 + (((IntKind.i64.wrap (1 + G14.1))).toNat) + 1 ≤ ((IntKind.i64.wrap (1 + G14.1))).toNat + 1 from by omega), rfl, Nat.le_refl _, Nat.le_refl _, Nat.le_refl _, (show 0 ≤ (IntKind.i64.wrap (1 + G14.1)) from by omega), (show (IntKind.i64.wrap (1 + G14.1)) ≤ 4 from by omega)⟩ ?_
  rintro ⟨k15, ⟨s19, s20, s21, s22, d24, d28, d32⟩, ⟨A25, c26, A29, c30, A33, c34⟩⟩ H37
  obtain ⟨hk35, hF36, hi38, hi39, hi40, hi41, hi42⟩ : k15 + ((s20).toNat) + 1 ≤ ((IntKind.i64.wrap (1 + G14.1))).toNat + 1 ∧ R2 (((IntKind.i64.wrap (1 + G14.1))).toNat + 1 - k15) k15 (s19, s20, s21, s22, d24, d28, d32) = R2 (((IntKind.i64.wrap (1 + G14.1))).toNat + 1 - 0) 0 ((spec_l1Below_m x0b G10.2 3).1, (IntKind.i64.wrap (1 + G14.1)), G14.2.i, G14.2.h, [], [], []) ∧ d24.length ≤ 0 + k15 ∧ d28.length ≤ 0 + k15 ∧ d32.length ≤ 0 + k15 ∧ 0 ≤ s20 ∧ s20 ≤ 4 := H37
  let K6 : List Value := [.slice A2 x0b.length c3, .int .i64 ((s21 : Nat) : Int), .int .i64 s22]
  let K7 : List Value := [.int .i64 ((spec_l1Below_m x0b x0 4).1), .int .i64 G10.1, .slice A25 d24.length c26, .slice A29 d28.length c30, .slice A33 d32.length c34]
  let I19 : It := iOwn (tSl tInt 3) [.slice A29 d28.length c30] d28
  let I20 : It := iOwn (tSl tInt 3) [.slice A33 d32.length c34] d32
  show CM Tryd.prog 71 _ _ _ _ [(0, .pointer (some (⟨p, 0, none⟩ : Addr))), (2, .pointer (some (⟨p7, 0, none⟩ : Addr))), (3, .pointer (some (⟨p11, 0, none⟩ : Addr))), (4, .int .i64 s19), (5, .int .i64 s20)] (iBox p 115 K6 :: iBox p11 33 K7 :: iBox p7 33 K3 :: iOwn (tSl tInt 3) [.slice A25 d24.length c26] d24 :: I19 :: I20 :: is)
  have hw1 := wrap_id (n := s20 - 1) (by omega) (by omega)
  refine CM_seq (sr (wm ?_))
  refine wv (fun W hm => rv_gtr rfl rfl) ?_
  refine nt' ?_
  by_cases h43 : 0 < s20
  ·have g44 := decide_eq_true h43
   refine CM_condT rfl g44 ?_
   refine CM_skip (QM_then (CM_seq (CM_block (sr ?_))))
   refine wv (vf underlying33 rfl type28) ?_
   refine wv (vl 1 2 underlying28) ?_
   refine wm ?_
   refine WM_build (cs := [.int .i64 s19]) underlying28 type3 rfl (by decide) (by decide) rfl (by kernel_rfl) (Wd_none rfl) (by decide) (fun p45 => ?_)
   refine ap1 tInt 3 (.slice A25 d24.length c26) d24 s19 [] (iBox p 115 K6 :: iBox p11 33 K7 :: iBox p7 33 K3 :: I19 :: I20 :: is) [.int .i64 s19] (fun W hm => ((hm.front (n := 4) rfl).front (n := 1) rfl)) (fun _ _ hs => by cases (Sep.nil hs); exact (els_cons tInt_own els_nil)) underlying28 type3 (show (d24.length + 1) * 8 ≤ 140737488355328 from by omega) (fun v46 => ?_)
   refine WM_form (n := 0) rfl ?_
   rintro A47 c48 rfl m49
   refine wv (vf underlying33 rfl type28) ?_
   let K8 : List Value := [.int .i64 ((spec_l1Below_m x0b x0 4).1), .int .i64 G10.1, .slice A47 (d24 ++ [s19]).length c48, .slice A29 d28.length c30, .slice A33 d32.length c34]
   refine WM_storeBox (p := p11) (o := 2) (cs' := K8) (fun w hm => hm.front (n := 2) rfl) type28 rfl (Nat.le_of_ble_eq_true rfl) rfl rfl rfl rfl (Wd_none rfl) ?_
   refine nt' (CM_seq ?_)
   let I21 : It := iOwn (tSl tInt 3) [.slice A47 (d24 ++ [s19]).length c48] (d24 ++ [s19])
   refine rd2 8 [7] (s := (I21 :: iBox p7 33 K3 :: I20 :: is)) (s2 := (iBox p11 33 K8 :: I21 :: iBox p7 33 K3 :: I20 :: is)) (fun W hm => ((((((hm.front (n := 5) rfl).front (n := 4) rfl).front (n := 3) rfl).front (n := 3) rfl).tail.front (n := 3) rfl).tail.front (n := 3) rfl).tail) (fun W hm => ((((((hm.front (n := 5) rfl).front (n := 4) rfl).front (n := 3) rfl).front (n := 3) rfl).front (n := 4) rfl).tail.front (n := 4) rfl).tail) ?_
   refine qtD 8 0 1 rfl (vf underlying33 rfl type28) ?_
   refine qtD 8 1 3 rfl (vl 0 3 underlying28) ?_
   refine qtD 8 2 7 rfl vmv ?_
   refine qoD 8 3 15 rfl ?_
   refine WM_callW (χ := Unit) (val := fun x => .int .i64 ((spec_l1Below_m x0b (⟨s21, s22⟩ : Dl1Cur) 4).1)) (js := fun x => (iBox p 115 [.slice A2 x0b.length c3, .int .i64 ((((spec_l1Below_m x0b (⟨s21, s22⟩ : Dl1Cur) 4).2).i : Nat) : Int), .int .i64 ((spec_l1Below_m x0b (⟨s21, s22⟩ : Dl1Cur) 4).2).h] :: (iBox p11 33 K8 :: I21 :: iBox p7 33 K3 :: I19 :: I20 :: is))) (cl_fn cb67 rfl) (fun W hm => spec_l1Below_c B w0 (iBox p11 33 K8 :: I21 :: iBox p7 33 K3 :: I19 :: I20 :: is) W p _ x0b (⟨s21, s22⟩ : Dl1Cur) r5 4 s_0 (hm.front (n := 2) rfl)) (Wd_none rfl) (by decide) (fun z51 => ?_)
   have hb := spec_l1Below_rng x0b (⟨s21, s22⟩ : Dl1Cur) 4
   have hw5 := wrap_id (n := 1 + (spec_l1Below_m x0b (⟨s21, s22⟩ : Dl1Cur) 4).1) (by omega) (by omega)
   obtain ⟨G52, hG52⟩ : ∃ G, G = (spec_l1Below_m x0b (⟨s21, s22⟩ : Dl1Cur) 4) := ⟨_, rfl⟩
   rw [← hG52]
   rw [← hG52] at hb
   rw [← hG52] at hw5
   refine qnD (fun W hm => ((((((hm.front (n := 5) rfl).front (n := 4) rfl).front (n := 4) rfl).front (n := 3) rfl).tail.front (n := 3) rfl).tail.front (n := 3) rfl).tail) (fun W hm => ((((((hm.front (n := 5) rfl).front (n := 4) rfl).front (n := 4) rfl).front (n := 4) rfl).front (n := 4) rfl).tail.front (n := 4) rfl).tail) ?_
   refine qoD 8 4 31 rfl ?_
   refine WM_build (cs := [.int .i64 G52.1]) underlying28 type3 rfl (by decide) (by decide) rfl (by kernel_rfl) (Wd_none rfl) (by decide) (fun p53 => ?_)
   refine qnD (fun W hm => (((((((hm.front (n := 6) rfl).front (n := 5) rfl).front (n := 5) rfl).front (n := 3) rfl).tail.front (n := 3) rfl).tail.front (n := 3) rfl).tail.front (n := 3) rfl).tail) (fun W hm => (((((((hm.front (n := 6) rfl).front (n := 5) rfl).front (n := 5) rfl).front (n := 5) rfl).front (n := 4) rfl).tail.front (n := 4) rfl).tail.front (n := 4) rfl).tail) ?_
   refine qoD 8 5 63 rfl ?_
   refine ap1 tInt 3 (.slice A29 d28.length c30) d28 G52.1 [] (iBox p 115 [.slice A2 x0b.length c3, .int .i64 ((G52.2.i : Nat) : Int), .int .i64 G52.2.h] :: iBox p11 33 K8 :: I21 :: iBox p7 33 K3 :: I20 :: is) [.int .i64 G52.1] (fun W hm => ((hm.front (n := 5) rfl).front (n := 1) rfl)) (fun _ _ hs => by cases (Sep.nil hs); exact (els_cons tInt_own els_nil)) underlying28 type3 (show (d28.length + 1) * 8 ≤ 140737488355328 from by omega) (fun v54 => ?_)
   refine WM_form (n := 0) rfl ?_
   rintro A55 c56 rfl m57
   refine qnD (fun W hm => ((((((hm.front (n := 5) rfl).front (n := 5) rfl).front (n := 5) rfl).front (n := 3) rfl).tail.front (n := 3) rfl).tail.front (n := 3) rfl).tail) (fun W hm => ((((((hm.front (n := 5) rfl).front (n := 5) rfl).front (n := 5) rfl).front (n := 5) rfl).front (n := 4) rfl).tail.front (n := 4) rfl).tail) ?_
   refine qtD 8 6 127 rfl (vf underlying33 rfl type28) ?_
   refine qoD 8 7 255 rfl ?_
   let K9 : List Value := [.int .i64 ((spec_l1Below_m x0b x0 4).1), .int .i64 G10.1, .slice A47 (d24 ++ [s19]).length c48, .slice A55 (d28 ++ [G52.1]).length c56, .slice A33 d32.length c34]
   refine WM_storeBox (p := p11) (o := 3) (cs' := K9) (fun w hm => hm.front (n := 2) rfl) type28 rfl (Nat.le_of_ble_eq_true rfl) rfl rfl rfl rfl (Wd_none rfl) ?_
   refine qxD (fun W hm => ((((((hm.front (n := 5) rfl).front (n := 5) rfl).front (n := 5) rfl).front (n := 3) rfl).tail.front (n := 3) rfl).tail.front (n := 3) rfl).tail) ?_
   refine QB_done (by kernel_rfl) ?_
   refine QM_then (CM_seq ?_)
   let I22 : It := iOwn (tSl tInt 3) [.slice A55 (d28 ++ [G52.1]).length c56] (d28 ++ [G52.1])
   refine rd2 11 [10] (s := (I22 :: I21 :: iBox p7 33 K3 :: is)) (s2 := (iBox p11 33 K9 :: I22 :: I21 :: iBox p7 33 K3 :: is)) (fun W hm => ((((((hm.front (n := 4) rfl).front (n := 4) rfl).front (n := 3) rfl).front (n := 3) rfl).tail.front (n := 3) rfl).tail.front (n := 3) rfl).tail) (fun W hm => ((((((hm.front (n := 4) rfl).front (n := 4) rfl).front (n := 3) rfl).front (n := 3) rfl).front (n := 4) rfl).tail.front (n := 4) rfl).tail) ?_
   refine qtD 11 0 1 rfl (vf underlying33 rfl type28) ?_
   refine qtD 11 1 3 rfl (vl 0 4 underlying28) ?_
   refine qtD 11 2 7 rfl vmv ?_
   refine qtD 11 3 15 rfl (vf underlying33 rfl type3) ?_
   refine qtD 11 4 31 rfl (vl 0 1 underlying3) ?_
   refine qtD 11 5 63 rfl vadd ?_
   refine qoD 11 6 127 rfl ?_
   refine WM_callW (χ := Unit) (val := fun x => .int .i64 ((spec_l1Below_m x0b G52.2 (IntKind.i64.wrap (G10.1 + 1))).1)) (js := fun x => (iBox p 115 [.slice A2 x0b.length c3, .int .i64 ((((spec_l1Below_m x0b G52.2 (IntKind.i64.wrap (G10.1 + 1))).2).i : Nat) : Int), .int .i64 ((spec_l1Below_m x0b G52.2 (IntKind.i64.wrap (G10.1 + 1))).2).h] :: (iBox p11 33 K9 :: I22 :: I21 :: iBox p7 33 K3 :: I20 :: is))) (cl_fn cb67 rfl) (fun W hm => spec_l1Below_c B w0 (iBox p11 33 K9 :: I22 :: I21 :: iBox p7 33 K3 :: I20 :: is) W p _ x0b G52.2 r5 (IntKind.i64.wrap (G10.1 + 1)) s_0 (hm.front (n := 2) rfl)) (Wd_none rfl) (by decide) (fun z59 => ?_)
   have hb := spec_l1Below_rng x0b G52.2 (IntKind.i64.wrap (G10.1 + 1))
   obtain ⟨G60, hG60⟩ : ∃ G, G = (spec_l1Below_m x0b G52.2 (IntKind.i64.wrap (G10.1 + 1))) := ⟨_, rfl⟩
   rw [← hG60]
   rw [← hG60] at hb
   refine qnD (fun W hm => ((((((hm.front (n := 4) rfl).front (n := 4) rfl).front (n := 4) rfl).front (n := 3) rfl).tail.front (n := 3) rfl).tail.front (n := 3) rfl).tail) (fun W hm => ((((((hm.front (n := 4) rfl).front (n := 4) rfl).front (n := 4) rfl).front (n := 4) rfl).front (n := 4) rfl).tail.front (n := 4) rfl).tail) ?_
   refine qoD 11 7 255 rfl ?_
   refine WM_build (cs := [.int .i64 G60.1]) underlying28 type3 rfl (by decide) (by decide) rfl (by kernel_rfl) (Wd_none rfl) (by decide) (fun p61 => ?_)
   refine qnD (fun W hm => (((((((hm.front (n := 5) rfl).front (n := 5) rfl).front (n := 5) rfl).front (n := 3) rfl).tail.front (n := 3) rfl).tail.front (n := 3) rfl).tail.front (n := 3) rfl).tail) (fun W hm => (((((((hm.front (n := 5) rfl).front (n := 5) rfl).front (n := 5) rfl).front (n := 5) rfl).front (n := 4) rfl).tail.front (n := 4) rfl).tail.front (n := 4) rfl).tail) ?_
   refine qoD 11 8 511 rfl ?_
   refine ap1 tInt 3 (.slice A33 d32.length c34) d32 G60.1 [] (iBox p 115 [.slice A2 x0b.length c3, .int .i64 ((G60.2.i : Nat) : Int), .int .i64 G60.2.h] :: iBox p11 33 K9 :: I22 :: I21 :: iBox p7 33 K3 :: is) [.int .i64 G60.1] (fun W hm => ((hm.front (n := 6) rfl).front (n := 1) rfl)) (fun _ _ hs => by cases (Sep.nil hs); exact (els_cons tInt_own els_nil)) underlying28 type3 (show (d32.length + 1) * 8 ≤ 140737488355328 from by omega) (fun v62 => ?_)
   refine WM_form (n := 0) rfl ?_
   rintro A63 c64 rfl m65
   refine qnD (fun W hm => ((((((hm.front (n := 5) rfl).front (n := 5) rfl).front (n := 5) rfl).front (n := 3) rfl).tail.front (n := 3) rfl).tail.front (n := 3) rfl).tail) (fun W hm => ((((((hm.front (n := 5) rfl).front (n := 5) rfl).front (n := 5) rfl).front (n := 5) rfl).front (n := 4) rfl).tail.front (n := 4) rfl).tail) ?_
   refine qtD 11 9 1023 rfl (vf underlying33 rfl type28) ?_
   refine qoD 11 10 2047 rfl ?_
   let K10 : List Value := [.int .i64 ((spec_l1Below_m x0b x0 4).1), .int .i64 G10.1, .slice A47 (d24 ++ [s19]).length c48, .slice A55 (d28 ++ [G52.1]).length c56, .slice A63 (d32 ++ [G60.1]).length c64]
   refine WM_storeBox (p := p11) (o := 4) (cs' := K10) (fun w hm => hm.front (n := 2) rfl) type28 rfl (Nat.le_of_ble_eq_true rfl) rfl rfl rfl rfl (Wd_none rfl) ?_
   refine qxD (fun W hm => ((((((hm.front (n := 5) rfl).front (n := 5) rfl).front (n := 5) rfl).front (n := 3) rfl).tail.front (n := 3) rfl).tail.front (n := 3) rfl).tail) ?_
   refine QB_done (by kernel_rfl) ?_
   refine QM_then (CM_region (wm ?_))
   refine wv vadd ?_
   refine wm ?_
   let I23 : It := iOwn (tSl tInt 3) [.slice A63 (d32 ++ [G60.1]).length c64] (d32 ++ [G60.1])
   refine WM_callW (χ := Unit) (val := fun x => .int .i64 ((spec_l1Below_m x0b G60.2 2).1)) (js := fun x => (iBox p 115 [.slice A2 x0b.length c3, .int .i64 ((((spec_l1Below_m x0b G60.2 2).2).i : Nat) : Int), .int .i64 ((spec_l1Below_m x0b G60.2 2).2).h] :: (iBox p11 33 K10 :: I23 :: I22 :: I21 :: iBox p7 33 K3 :: is))) (cl_fn cb67 rfl) (fun W hm => spec_l1Below_c B w0 (iBox p11 33 K10 :: I23 :: I22 :: I21 :: iBox p7 33 K3 :: is) W p _ x0b G60.2 r5 2 s_0 (hm.front (n := 2) rfl)) (Wd_none rfl) (by decide) (fun z67 => ?_)
   have hb := spec_l1Below_rng x0b G60.2 2
   refine wv vadd ?_
   refine wa (WM_nil (QM_block_normal (QM_then (CM_region (wm ?_)))))
   refine wv (fun W hm => rv_sub rfl rfl) ?_
   refine wa (WM_nil ?_)
   have hn68 := rngb_next (R := (DCharge × Dl1Cur)) (body := F1) (k := k15) (s := (s19, s20, s21, s22, d24, d28, d32)) (s' := ((IntKind.i64.wrap ((IntKind.i64.wrap (s19 + 1)) + ((spec_l1Below_m x0b G60.2 2).1))), (IntKind.i64.wrap (s20 - 1)), ((spec_l1Below_m x0b G60.2 2).2).i, ((spec_l1Below_m x0b G60.2 2).2).h, (d24 ++ [s19]), (d28 ++ [G52.1]), (d32 ++ [G60.1]))) (show k15 < ((IntKind.i64.wrap (1 + G14.1))).toNat + 1 from by omega) (by subst hG10 hG14 hG52 hG60; exact cond_t g44 (rfl)) hF36
   exact QM_round (k15 + 1, ((IntKind.i64.wrap ((IntKind.i64.wrap (s19 + 1)) + ((spec_l1Below_m x0b G60.2 2).1))), (IntKind.i64.wrap (s20 - 1)), ((spec_l1Below_m x0b G60.2 2).2).i, ((spec_l1Below_m x0b G60.2 2).2).h, (d24 ++ [s19]), (d28 ++ [G52.1]), (d32 ++ [G60.1])), (A47, c48, A55, c56, A63, c64)) sl5 (fun W hm => ((((((hm.front (n := 2) rfl).front (n := 3) rfl).front (n := 4) rfl).front (n := 5) rfl).front (n := 5) rfl).front (n := 5) rfl)) ⟨(show (k15 + 1) + (((IntKind.i64.wrap (s20 - 1))).toNat) + 1 ≤ ((IntKind.i64.wrap (1 + G14.1))).toNat + 1 from by omega), hn68, (show (d24 ++ [s19]).length ≤ 0 + (k15 + 1) from by first | omega | (simp only [List.length_append, List.length_cons, List.length_nil] at *; omega)), (show (d28 ++ [G52.1]).length ≤ 0 + (k15 + 1) from by first | omega | (simp only [List.length_append, List.length_cons, List.length_nil] at *; omega)), (show (d32 ++ [G60.1]).length ≤ 0 + (k15 + 1) from by first | omega | (simp only [List.length_append, List.length_cons, List.length_nil] at *; omega)), (show 0 ≤ (IntKind.i64.wrap (s20 - 1)) from by first | omega | (simp only [List.length_append, List.length_cons, List.length_nil] at *; omega)), (show (IntKind.i64.wrap (s20 - 1)) ≤ 4 from by first | omega | (simp only [List.length_append, List.length_cons, List.length_nil] at *; omega))⟩ (show ((IntKind.i64.wrap (1 + G14.1))).toNat + 1 - (k15 + 1) < ((IntKind.i64.wrap (1 + G14.1))).toNat + 1 - k15 from by omega)
  ·have g44 := decide_eq_false h43
   refine CM_condF rfl g44 ?_
   refine CM_exit (QM_then_exit (QM_then_exit (QM_block_hit ?_)))
   have hE69 := rngb_brk (R := (DCharge × Dl1Cur)) (body := F1) (k := k15) (s := (s19, s20, s21, s22, d24, d28, d32)) (s' := (s19, s20, s21, s22, d24, d28, d32)) (show k15 < ((IntKind.i64.wrap (1 + G14.1))).toNat + 1 from by omega) (by subst hG10 hG14; exact cond_f g44 (rfl)) hF36
   exact QM_cut_normal ((s19, s20, s21, s22, d24, d28, d32), (A25, c26, A29, c30, A33, c34)) sl3 (fun W hm => hm) hE69
 ·
  rintro ⟨⟨s19, s20, s21, s22, d24, d28, d32⟩, ⟨A25, c26, A29, c30, A33, c34⟩⟩ H71
  have hE70 : R2 (((IntKind.i64.wrap (1 + G14.1))).toNat + 1 - 0) 0 ((spec_l1Below_m x0b G10.2 3).1, (IntKind.i64.wrap (1 + G14.1)), G14.2.i, G14.2.h, [], [], []) = Sum.inr (s19, s20, s21, s22, d24, d28, d32) := H71
  have hlo := spec_l10Charge_out (by omega) (by omega) hE70
  let K11 : List Value := [.int .i64 ((spec_l1Below_m x0b x0 4).1), .int .i64 G10.1, .slice A25 d24.length c26, .slice A29 d28.length c30, .slice A33 d32.length c34]
  let I24 : It := iOwn (tSl tInt 3) [.slice A25 d24.length c26] d24
  let I25 : It := iOwn (tSl tInt 3) [.slice A29 d28.length c30] d28
  let I26 : It := iOwn (tSl tInt 3) [.slice A33 d32.length c34] d32
  show QM 71 _ _ _ .normal [(0, .pointer (some (⟨p, 0, none⟩ : Addr))), (2, .pointer (some (⟨p7, 0, none⟩ : Addr))), (3, .pointer (some (⟨p11, 0, none⟩ : Addr)))] (iBox p 115 [.slice A2 x0b.length c3, .int .i64 ((s21 : Nat) : Int), .int .i64 s22] :: iBox p11 33 K11 :: iBox p7 33 K3 :: I24 :: I25 :: I26 :: is)
  refine QM_then (CM_seq (sr (wm ?_)))
  refine WM_callW (χ := Unit) (val := fun x => .int .i64 ((spec_l1Below_m x0b (⟨s21, s22⟩ : Dl1Cur) 14).1)) (js := fun x => (iBox p 115 [.slice A2 x0b.length c3, .int .i64 ((((spec_l1Below_m x0b (⟨s21, s22⟩ : Dl1Cur) 14).2).i : Nat) : Int), .int .i64 ((spec_l1Below_m x0b (⟨s21, s22⟩ : Dl1Cur) 14).2).h] :: (iBox p11 33 K11 :: iBox p7 33 K3 :: I24 :: I25 :: I26 :: is))) (cl_fn cb67 rfl) (fun W hm => spec_l1Below_c B w0 (iBox p11 33 K11 :: iBox p7 33 K3 :: I24 :: I25 :: I26 :: is) W p _ x0b (⟨s21, s22⟩ : Dl1Cur) r5 14 s_0 (hm.front (n := 0) rfl)) (Wd_none rfl) (by decide) (fun z72 => ?_)
  have hb := spec_l1Below_rng x0b (⟨s21, s22⟩ : Dl1Cur) 14
  obtain ⟨G73, hG73⟩ : ∃ G, G = (spec_l1Below_m x0b (⟨s21, s22⟩ : Dl1Cur) 14) := ⟨_, rfl⟩
  rw [← hG73]
  rw [← hG73] at hb
  refine nt' (CM_block (sr ?_))
  refine wv (fun W hm => rv_eql rfl rfl) ?_
  refine wa (nt' ?_)
  by_cases h74 : G73.1 = 0
  ·have g75 := beq_iff_eq.2 h74
   refine CM_condT rfl g75 ?_
   refine CM_region (wm ?_)
   refine WM_build (cs := [.int .i64 (-1), .int .i64 0, .int .i64 4, .int .i64 5]) underlying28 type3 rfl (by decide) (by decide) rfl (by kernel_rfl) (Wd_none rfl) (by decide) (fun p76 => ?_)
   refine WM_items (fun W hm => Mem.litOwn (E := tInt) (xs := [(-1), 0, 4, 5]) rfl (show 4 ≤ maxLen from by decide) (fun _ => (els_cons (E := tInt) (L1 := []) tInt_own (els_cons (E := tInt) (L1 := []) tInt_own (els_cons (E := tInt) (L1 := []) tInt_own (els_cons (E := tInt) (L1 := []) tInt_own els_nil))))) (hm.front (n := 0) rfl)) ?_
   let I27 : It := iOwn (tSl tInt 3) [.slice (some ⟨p76, 0, none⟩) 4 4] [(-1), 0, 4, 5]
   refine WM_callW (χ := Unit) (val := fun x => .int .i64 ((spec_l1PickInt_m x0b G73.2 [(-1), 0, 4, 5]).1)) (js := fun x => (iBox p 115 [.slice A2 x0b.length c3, .int .i64 ((((spec_l1PickInt_m x0b G73.2 [(-1), 0, 4, 5]).2).i : Nat) : Int), .int .i64 ((spec_l1PickInt_m x0b G73.2 [(-1), 0, 4, 5]).2).h] :: I27 :: (iBox p11 33 K11 :: iBox p7 33 K3 :: I24 :: I25 :: I26 :: is))) (cl_fn cb86 rfl) (fun W hm => spec_l1PickInt_c B w0 (iBox p11 33 K11 :: iBox p7 33 K3 :: I24 :: I25 :: I26 :: is) W p _ x0b G73.2 r5 _ [(-1), 0, 4, 5] s_0 (Nat.le_of_ble_eq_true rfl) (by first | decide | exact Nat.succ_pos _) ((hm.front (n := 0) rfl).front (n := 1) rfl)) (Wd_none rfl) (by decide) (fun z78 => ?_)
   obtain ⟨G79, hG79⟩ : ∃ G, G = (spec_l1PickInt_m x0b G73.2 [(-1), 0, 4, 5]) := ⟨_, rfl⟩
   rw [← hG79]
   refine wv (vf underlying33 rfl type3) ?_
   let K12 : List Value := [.int .i64 ((spec_l1Below_m x0b x0 4).1), .int .i64 G79.1, .slice A25 d24.length c26, .slice A29 d28.length c30, .slice A33 d32.length c34]
   refine WM_storeBox (p := p11) (o := 1) (cs' := K12) (fun w hm => hm.front (n := 2) rfl) type3 rfl (Nat.le_of_ble_eq_true rfl) rfl rfl rfl rfl (Wd_none rfl) ?_
   refine WM_nil (QM_block_normal (QM_then (sr ?_)))
   refine wv (fun W hm => rv_loadN (cs := K12) underlying33 type33 rfl rfl (hm.boxCells (n := 0) rfl)) ?_
   refine WM_storeBox (p := p7) (o := 0) (cs' := K12) (fun w hm => hm.front (n := 3) rfl) type33 rfl (Nat.le_of_ble_eq_true rfl) rfl rfl rfl rfl (Wd_none rfl) ?_
   refine nt' (CM_ret ?_)
   let K13 : List Value := [.slice A2 x0b.length c3, .int .i64 ((G79.2.i : Nat) : Int), .int .i64 G79.2.h]
   refine QM_items (js := (iOwn (tPa tInt 3) [.slice A33 d32.length c34] d32 :: (iBox p7 33 K12 :: iBox p11 33 K12 :: iBox p 115 K13 :: I27 :: I24 :: I25 :: is))) (fun W hm => Mem.toPa (hm.front (n := 6) rfl)) ?_
   refine QM_items (js := (iOwn tyCharge K12 (⟨(spec_l1Below_m x0b x0 4).1, G79.1, d24, d28, d32⟩ : DCharge) :: (iBox p7 33 K12 :: iBox p11 33 K12 :: iBox p 115 K13 :: I27 :: is))) (fun W hm => Mem.join (is := [I24, I25, iOwn (tPa tInt 3) [.slice A33 d32.length c34] d32]) (js := (iBox p7 33 K12 :: iBox p11 33 K12 :: iBox p 115 K13 :: I27 :: is)) (fun _ _ hs => tyCharge_join (x := (⟨(spec_l1Below_m x0b x0 4).1, G79.1, d24, d28, d32⟩ : DCharge)) hs) (((hm.front (n := 0) rfl).front (n := 6) rfl).front (n := 6) rfl)) ?_
   have he80 := (show spec_l10Charge_m x0b x0 = ((⟨(spec_l1Below_m x0b x0 4).1, G79.1, d24, d28, d32⟩ : DCharge), G79.2) from by subst hG10 hG14 hG73 hG79; exact fin_inr hE70 (cond_t g75 (rfl)))
   refine QM_r1 rfl (RR_cell (n := 1) rfl rfl underlying33 type33 rfl) (fun W hm => ⟨K12, ?_, ?_⟩)
   ·first | rw [he80] | rfl
   ·rw [he80]; exact (((((hm.front (n := 3) rfl).front (n := 1) rfl).front (n := 2) rfl).tail.front (n := 2) rfl).tail.front (n := 2) rfl).tail
  ·have g75 := beq_eq_false_iff_ne.2 h74
   refine CM_condF rfl g75 ?_
   refine sr ?_
   refine wv (fun W hm => rv_eql rfl rfl) ?_
   refine wa (nt' ?_)
   by_cases h81 : G73.1 = 1
   ·have g82 := beq_iff_eq.2 h81
    refine CM_condT rfl g82 ?_
    refine CM_region ?_
    refine wv (vf underlying33 rfl type28) ?_
    refine wv (vl 1 4 underlying28) ?_
    refine wv (fun W hm => rv_sliceLo (k := 1) (s := 1) underlying28 type3 rfl rfl rfl (by omega)) ?_
    refine wv (vf underlying33 rfl type28) ?_
    let K14 : List Value := [.int .i64 ((spec_l1Below_m x0b x0 4).1), .int .i64 G10.1, .slice A25 d24.length c26, .slice A29 d28.length c30, .slice (offA A33 c34 1 1) (d32.length - 1) (c34 - 1)]
    refine WM_storeBox (p := p11) (o := 4) (cs' := K14) (fun w hm => hm.front (n := 1) rfl) type28 rfl (Nat.le_of_ble_eq_true rfl) rfl rfl rfl rfl (Wd_none rfl) ?_
    refine WM_nil (QM_block_normal (QM_then (sr ?_)))
    refine wv (fun W hm => rv_loadN (cs := K14) underlying33 type33 rfl rfl (hm.boxCells (n := 0) rfl)) ?_
    refine WM_storeBox (p := p7) (o := 0) (cs' := K14) (fun w hm => hm.front (n := 2) rfl) type33 rfl (Nat.le_of_ble_eq_true rfl) rfl rfl rfl rfl (Wd_none rfl) ?_
    refine nt' (CM_ret ?_)
    let K15 : List Value := [.slice A2 x0b.length c3, .int .i64 ((G73.2.i : Nat) : Int), .int .i64 G73.2.h]
    refine QM_items (js := (iOwn (tPa tInt 3) [.slice A33 d32.length c34] d32 :: (iBox p7 33 K14 :: iBox p11 33 K14 :: iBox p 115 K15 :: I24 :: I25 :: is))) (fun W hm => Mem.toPa (hm.front (n := 5) rfl)) ?_
    let I28 : It := iOwn (tPa tInt 3) [.slice (offA A33 c34 1 1) (d32.length - 1) (c34 - 1)] (List.drop 1 d32)
    refine QM_items (js := (I28 :: (iBox p7 33 K14 :: iBox p11 33 K14 :: iBox p 115 K15 :: I24 :: I25 :: is))) (fun W hm => Mem.toPaD (k := 1) (s := 1) (by omega) rfl (hm.front (n := 0) rfl)) ?_
    refine QM_items (js := (iOwn tyCharge K14 (⟨(spec_l1Below_m x0b x0 4).1, G10.1, d24, d28, (List.drop 1 d32)⟩ : DCharge) :: (iBox p7 33 K14 :: iBox p11 33 K14 :: iBox p 115 K15 :: is))) (fun W hm => Mem.join (is := [I24, I25, I28]) (js := (iBox p7 33 K14 :: iBox p11 33 K14 :: iBox p 115 K15 :: is)) (fun _ _ hs => tyCharge_join (x := (⟨(spec_l1Below_m x0b x0 4).1, G10.1, d24, d28, (List.drop 1 d32)⟩ : DCharge)) hs) (((hm.front (n := 0) rfl).front (n := 5) rfl).front (n := 5) rfl)) ?_
    have he83 := (show spec_l10Charge_m x0b x0 = ((⟨(spec_l1Below_m x0b x0 4).1, G10.1, d24, d28, (List.drop 1 d32)⟩ : DCharge), G73.2) from by subst hG10 hG14 hG73; exact fin_inr hE70 (cond_f g75 (cond_t g82 (rfl))))
    refine QM_r1 rfl (RR_cell (n := 1) rfl rfl underlying33 type33 rfl) (fun W hm => ⟨K14, ?_, ?_⟩)
    ·first | rw [he83] | rfl
    ·rw [he83]; exact ((((hm.front (n := 3) rfl).front (n := 1) rfl).front (n := 2) rfl).tail.front (n := 2) rfl).tail
   ·have g82 := beq_eq_false_iff_ne.2 h81
    refine CM_condF rfl g82 ?_
    refine sr ?_
    refine wv (fun W hm => rv_eql rfl rfl) ?_
    refine wa (nt' ?_)
    by_cases h84 : G73.1 = 2
    ·have g85 := beq_iff_eq.2 h84
     refine CM_condT rfl g85 ?_
     refine CM_formO (n := 4) rfl (by omega) ?_
     rintro g86 rfl
     let K16 : List Value := [.int .i64 ((spec_l1Below_m x0b x0 4).1), .int .i64 G10.1, .slice A25 d24.length c26, .slice (some ⟨g86, 0, none⟩) d28.length c30, .slice A33 d32.length c34]
     let I29 : It := iOwn (tSl tInt 3) [.slice (some ⟨g86, 0, none⟩) d28.length c30] d28
     refine rd2 7 [6] (s := (iBox p11 33 K16 :: iBox p7 33 K3 :: I24 :: I26 :: is)) (s2 := (iBox p11 33 K16 :: iBox p7 33 K3 :: I24 :: I29 :: I26 :: is)) (fun W hm => ((((((hm.front (n := 5) rfl).front (n := 4) rfl).front (n := 4) rfl).front (n := 4) rfl).front (n := 4) rfl).tail.front (n := 4) rfl).tail) (fun W hm => ((((((hm.front (n := 5) rfl).front (n := 5) rfl).front (n := 5) rfl).front (n := 5) rfl).front (n := 5) rfl).front (n := 5) rfl).tail) ?_
     refine qtD 7 0 1 rfl (vf underlying33 rfl type28) ?_
     refine qtD 7 1 3 rfl (vl 0 3 underlying28) ?_
     refine qtD 7 2 7 rfl vmv ?_
     refine qoD 7 3 15 rfl ?_
     refine WM_build (cs := [.int .i64 (-1), .int .i64 3, .int .i64 4]) underlying28 type3 rfl (by decide) (by decide) rfl (by kernel_rfl) (Wd_none rfl) (by decide) (fun p87 => ?_)
     refine qnD (fun W hm => (((((((hm.front (n := 6) rfl).front (n := 5) rfl).front (n := 5) rfl).front (n := 5) rfl).front (n := 4) rfl).tail.front (n := 4) rfl).tail.front (n := 4) rfl).tail) (fun W hm => (((((((hm.front (n := 6) rfl).front (n := 6) rfl).front (n := 6) rfl).front (n := 6) rfl).front (n := 6) rfl).front (n := 5) rfl).tail.front (n := 5) rfl).tail) ?_
     refine qoD 7 4 31 rfl ?_
     refine WM_items (fun W hm => Mem.litOwn (E := tInt) (xs := [(-1), 3, 4]) rfl (show 3 ≤ maxLen from by decide) (fun _ => (els_cons (E := tInt) (L1 := []) tInt_own (els_cons (E := tInt) (L1 := []) tInt_own (els_cons (E := tInt) (L1 := []) tInt_own els_nil)))) (hm.front (n := 0) rfl)) ?_
     let I30 : It := iOwn (tSl tInt 3) [.slice (some ⟨p87, 0, none⟩) 3 3] [(-1), 3, 4]
     refine WM_callW (χ := Unit) (val := fun x => .int .i64 ((spec_l1PickInt_m x0b G73.2 [(-1), 3, 4]).1)) (js := fun x => (iBox p 115 [.slice A2 x0b.length c3, .int .i64 ((((spec_l1PickInt_m x0b G73.2 [(-1), 3, 4]).2).i : Nat) : Int), .int .i64 ((spec_l1PickInt_m x0b G73.2 [(-1), 3, 4]).2).h] :: I30 :: (iBox p11 33 K16 :: iBox p7 33 K3 :: I24 :: I29 :: I26 :: is))) (cl_fn cb86 rfl) (fun W hm => spec_l1PickInt_c B w0 (iBox p11 33 K16 :: iBox p7 33 K3 :: I24 :: I29 :: I26 :: is) W p _ x0b G73.2 r5 _ [(-1), 3, 4] s_0 (Nat.le_of_ble_eq_true rfl) (by first | decide | exact Nat.succ_pos _) ((hm.front (n := 0) rfl).front (n := 1) rfl)) (Wd_none rfl) (by decide) (fun z89 => ?_)
     obtain ⟨G90, hG90⟩ : ∃ G, G = (spec_l1PickInt_m x0b G73.2 [(-1), 3, 4]) := ⟨_, rfl⟩
     rw [← hG90]
     refine qnD (fun W hm => (((((((hm.front (n := 6) rfl).front (n := 5) rfl).front (n := 5) rfl).front (n := 5) rfl).front (n := 4) rfl).tail.front (n := 4) rfl).tail.front (n := 4) rfl).tail) (fun W hm => (((((((hm.front (n := 6) rfl).front (n := 6) rfl).front (n := 6) rfl).front (n := 6) rfl).front (n := 6) rfl).front (n := 5) rfl).tail.front (n := 5) rfl).tail) ?_
     refine qtD 7 5 63 rfl (vix 1 0 underlying28 type3) ?_
     refine qoD 7 6 127 rfl ?_
     let K17 : List Value := [.slice A2 x0b.length c3, .int .i64 ((G90.2.i : Nat) : Int), .int .i64 G90.2.h]
     refine WM_setEl (E := tInt) (e := 3) (u := .int .i64 G90.1) (k := 0) (p := g86) (n := d28.length) (xs := d28) (eis := []) (js := (iBox p 115 K17 :: I30 :: iBox p11 33 K16 :: iBox p7 33 K3 :: I24 :: I26 :: is)) (yv := G90.1) (fun W hm => (hm.front (n := 5) rfl)) (fun _ _ hs => (Sep.nil hs ▸ tInt_own)) rfl type3 rfl (by omega) rfl rfl (Wd_none rfl) ?_
     refine qxD (fun W hm => (((((((hm.front (n := 6) rfl).front (n := 6) rfl).front (n := 6) rfl).front (n := 6) rfl).front (n := 4) rfl).tail.front (n := 4) rfl).tail.front (n := 4) rfl).tail) ?_
     refine QB_done (by kernel_rfl) ?_
     refine QM_block_normal (QM_then (sr ?_))
     refine wv (fun W hm => rv_loadN (cs := K16) underlying33 type33 rfl rfl (hm.boxCells (n := 3) rfl)) ?_
     refine WM_storeBox (p := p7) (o := 0) (cs' := K16) (fun w hm => hm.front (n := 4) rfl) type33 rfl (Nat.le_of_ble_eq_true rfl) rfl rfl rfl rfl (Wd_none rfl) ?_
     refine nt' (CM_ret ?_)
     let I31 : It := iOwn (tSl tInt 3) [.slice (some ⟨g86, 0, none⟩) d28.length c30] (d28.set 0 G90.1)
     refine QM_items (js := (iOwn (tPa tInt 3) [.slice A33 d32.length c34] d32 :: (iBox p7 33 K16 :: I31 :: iBox p 115 K17 :: I30 :: iBox p11 33 K16 :: I24 :: is))) (fun W hm => Mem.toPa (hm.front (n := 6) rfl)) ?_
     refine QM_items (js := (iOwn tyCharge K16 (⟨(spec_l1Below_m x0b x0 4).1, G10.1, d24, (d28.set 0 G90.1), d32⟩ : DCharge) :: (iBox p7 33 K16 :: iBox p 115 K17 :: I30 :: iBox p11 33 K16 :: is))) (fun W hm => Mem.join (is := [I24, I31, iOwn (tPa tInt 3) [.slice A33 d32.length c34] d32]) (js := (iBox p7 33 K16 :: iBox p 115 K17 :: I30 :: iBox p11 33 K16 :: is)) (fun _ _ hs => tyCharge_join (x := (⟨(spec_l1Below_m x0b x0 4).1, G10.1, d24, (d28.set 0 G90.1), d32⟩ : DCharge)) hs) (((hm.front (n := 0) rfl).front (n := 2) rfl).front (n := 6) rfl)) ?_
     have he91 := (show spec_l10Charge_m x0b x0 = ((⟨(spec_l1Below_m x0b x0 4).1, G10.1, d24, (d28.set 0 G90.1), d32⟩ : DCharge), G90.2) from by subst hG10 hG14 hG73 hG90; exact fin_inr hE70 (cond_f g75 (cond_f g82 (cond_t g85 (rfl)))))
     refine QM_r1 rfl (RR_cell (n := 1) rfl rfl underlying33 type33 rfl) (fun W hm => ⟨K16, ?_, ?_⟩)
     ·first | rw [he91] | rfl
     ·rw [he91]; exact (((((hm.front (n := 2) rfl).front (n := 1) rfl).front (n := 2) rfl).tail.front (n := 2) rfl).tail.front (n := 2) rfl).tail
    ·have g85 := beq_eq_false_iff_ne.2 h84
     refine CM_condF rfl g85 ?_
     refine CM_skip (QM_block_normal (QM_then (sr ?_)))
     refine wv (fun W hm => rv_loadN (cs := K11) underlying33 type33 rfl rfl (hm.boxCells (n := 1) rfl)) ?_
     refine WM_storeBox (p := p7) (o := 0) (cs' := K11) (fun w hm => hm.front (n := 2) rfl) type33 rfl (Nat.le_of_ble_eq_true rfl) rfl rfl rfl rfl (Wd_none rfl) ?_
     refine nt' (CM_ret ?_)
     let K18 : List Value := [.slice A2 x0b.length c3, .int .i64 ((G73.2.i : Nat) : Int), .int .i64 G73.2.h]
     refine QM_items (js := (iOwn (tPa tInt 3) [.slice A33 d32.length c34] d32 :: (iBox p7 33 K11 :: iBox p 115 K18 :: iBox p11 33 K11 :: I24 :: I25 :: is))) (fun W hm => Mem.toPa (hm.front (n := 5) rfl)) ?_
     refine QM_items (js := (iOwn tyCharge K11 (⟨(spec_l1Below_m x0b x0 4).1, G10.1, d24, d28, d32⟩ : DCharge) :: (iBox p7 33 K11 :: iBox p 115 K18 :: iBox p11 33 K11 :: is))) (fun W hm => Mem.join (is := [I24, I25, iOwn (tPa tInt 3) [.slice A33 d32.length c34] d32]) (js := (iBox p7 33 K11 :: iBox p 115 K18 :: iBox p11 33 K11 :: is)) (fun _ _ hs => tyCharge_join (x := (⟨(spec_l1Below_m x0b x0 4).1, G10.1, d24, d28, d32⟩ : DCharge)) hs) (((hm.front (n := 0) rfl).front (n := 5) rfl).front (n := 5) rfl)) ?_
     have he92 := (show spec_l10Charge_m x0b x0 = ((⟨(spec_l1Below_m x0b x0 4).1, G10.1, d24, d28, d32⟩ : DCharge), G73.2) from by subst hG10 hG14 hG73; exact fin_inr hE70 (cond_f g75 (cond_f g82 (cond_f g85 (rfl)))))
     refine QM_r1 rfl (RR_cell (n := 1) rfl rfl underlying33 type33 rfl) (fun W hm => ⟨K11, ?_, ?_⟩)
     ·first | rw [he92] | rfl
     ·rw [he92]; exact ((((hm.front (n := 2) rfl).front (n := 1) rfl).front (n := 2) rfl).tail.front (n := 2) rfl).tail

def spec_DrawSharesOf_m (x0 : (List Int)) : DCharge :=
 (spec_l10Charge_m x0 (spec_l1New_m x0)).1
theorem cb22 : Cb Tryd.prog 22 := ⟨f22, _, func22, rfl, by decide⟩
theorem spec_DrawSharesOf_c (w : World) (z0 : Value) (x0 : (List Int)) (r_0 : rdS tU8 w w.heap.size z0 x0) (s_0 : x0.length ≤ 68719476736) :
  Calls Tryd.prog 22 #[z0] w fun e w' => ∃ v : List Value, e = .returned (.agg v.toArray) ∧ Mem w.heap.size w [iOwn tyCharge v (spec_DrawSharesOf_m x0)] w' := by
 obtain ⟨m1, A2, c3, rfl, q4, r5⟩ := rdS_op r_0
 have l6 : x0.length ≤ 68719476736 := s_0
 refine ce1 (L := [(0, .slice A2 x0.length c3)]) (N := 6) func22 ?_
 refine sr ?_
 refine WM_alloc type33 rfl (Wd_none rfl) (by decide) (fun p7 => ?_)
 refine nt' (sr (wm ?_))
 refine WM_call (χ := Nat) (val := fun p => .pointer (some ⟨p, 0, none⟩)) (js := fun p => [iBox p 115 [.slice A2 x0.length c3, .int .i64 (((spec_l1New_m x0).i : Nat) : Int), .int .i64 ((spec_l1New_m x0).h)]]) (cl_fn cb64 rfl) (fun W hm => spec_l1New_c W _ x0 (hm.rdS0 r5) s_0) (Wd_none rfl) (by decide) (fun p8 => ?_)
 let K1 : List Value := [.int .i64 0, .int .i64 0, .slice none 0 0, .slice none 0 0, .slice none 0 0]
 refine WM_callW (χ := List Value) (val := fun x => .agg x.toArray) (js := fun x => (iOwn tyCharge x ((spec_l10Charge_m x0 (spec_l1New_m x0)).1) :: iBox p8 115 [.slice A2 x0.length c3, .int .i64 ((((spec_l10Charge_m x0 (spec_l1New_m x0)).2).i : Nat) : Int), .int .i64 ((spec_l10Charge_m x0 (spec_l1New_m x0)).2).h] :: [iBox p7 33 K1])) (cl_fn cb63 rfl) (fun W hm => spec_l10Charge_c w.heap.size w [iBox p7 33 K1] W p8 _ x0 (spec_l1New_m x0) r5 s_0 hm) (Wd_none rfl) (by decide) (fun z9 => ?_)
 obtain ⟨G10, hG10⟩ : ∃ G, G = (spec_l10Charge_m x0 (spec_l1New_m x0)) := ⟨_, rfl⟩
 rw [← hG10]
 refine tyCharge_sp ?_
 rintro ⟨v11, v12, v13⟩ rfl
 refine WM_form (n := 0) rfl ?_
 rintro A14 c15 rfl m16
 refine WM_form (n := 1) rfl ?_
 rintro A18 c19 rfl m20
 refine WM_formP (n := 2) rfl ?_
 rintro A22 c23 rfl m24
 let K2 : List Value := [.int .i64 G10.1.Segment, .int .i64 G10.1.Base, .slice A14 G10.1.Ids.length c15, .slice A18 G10.1.Tenants.length c19, .slice A22 G10.1.Rows.length c23]
 let I3 : It := iOwn (tSl tInt 3) [.slice A14 G10.1.Ids.length c15] G10.1.Ids
 let I4 : It := iOwn (tSl tInt 3) [.slice A18 G10.1.Tenants.length c19] G10.1.Tenants
 let I5 : It := iOwn (tPa tInt 3) [.slice A22 G10.1.Rows.length c23] G10.1.Rows
 refine sb 0 K2 [I3, I4, I5, iBox p8 115 [.slice A2 x0.length c3, .int .i64 ((G10.2.i : Nat) : Int), .int .i64 G10.2.h]] (pk [4, 0, 1, 2, 3]) type33 ?_
 refine nt' (CM_ret ?_)
 have he26 := (show spec_DrawSharesOf_m x0 = G10.1 from by subst hG10; exact rfl)
 refine QM_r1 rfl (RR_cell (n := 0) rfl rfl underlying33 type33 rfl) (fun W hm => ⟨K2, ?_, ?_⟩)
 ·first | rw [he26] | rfl
 ·rw [he26]; exact Mem.join (is := [I3, I4, I5]) (js := []) (fun _ _ hs => tyCharge_join (x := G10.1) hs) (hm.pick [1, 2, 3] (by decide))

def impl_IsSet_b1 (x0 : (List Int)) (k6 : Nat) : Bool ⊕ (Unit) :=
 cond (decide ((gt x0 k6) < 0)) (Sum.inl false) (cond (decide (24 ≤ (gt x0 k6))) (Sum.inl false) (cond (decide (0 < ((k6 : Nat) : Int))) (cond (decide ((gt x0 k6) ≤ (gt x0 (k6 - 1)))) (Sum.inl false) (Sum.inr ())) (Sum.inr ())))
def impl_IsSet_m (x0 : (List Int)) : Bool :=
 Sum.elim id (fun (s : Unit) => true) (rng (R := Bool) (fun k (_ : Unit) => impl_IsSet_b1 x0 k) (x0.length - 0) 0 ())
theorem cb65 : Cb Tryd.prog 65 := ⟨f65, _, func65, rfl, by decide⟩
theorem impl_IsSet_c (w : World) (z0 : Value) (x0 : (List Int)) (r_0 : rdS tInt w w.heap.size z0 x0) :
  Calls Tryd.prog 65 #[z0] w fun e w' => e = .returned (.bool (impl_IsSet_m x0)) ∧ Below w.heap.size w w' := by
 obtain ⟨m1, A2, c3, rfl, q4, r5⟩ := rdS_op r_0
 refine ce1 (L := [(0, .slice A2 x0.length c3)]) (N := 32) func65 ?_
 refine sr (wa (nt' (CM_seq (sr (wm ?_)))))
 refine wv (vlen underlying28) ?_
 refine wm (nt' (CM_block ?_))
 let F1 := fun k (_ : Unit) => impl_IsSet_b1 x0 k
 let R2 := rng (R := Bool) F1
 refine CM_loop (σ := Nat × (Unit) × (Unit)) (fun s => [(0, .slice A2 x0.length c3), (5, .slice A2 x0.length c3), (6, .int .i64 ((x0.length : Nat) : Int)), (7, .int .i64 ((s.1 : Nat) : Int))]) (fun s => []) (fun s => s.1 ≤ x0.length ∧ R2 (x0.length - s.1) s.1 s.2.1 = R2 (x0.length - 0) 0 ()) (fun s => x0.length - s.1) (0, (), ()) sl4 (fun W hm => hm) ⟨(by omega), rfl⟩ ?_
 rintro ⟨k6, ⟨⟩, ⟨⟩⟩ H9
 obtain ⟨hk7, hF8⟩ : k6 ≤ x0.length ∧ R2 (x0.length - k6) k6 () = R2 (x0.length - 0) 0 () := H9
 show CM Tryd.prog 32 _ _ _ _ [(0, .slice A2 x0.length c3), (5, .slice A2 x0.length c3), (6, .int .i64 ((x0.length : Nat) : Int)), (7, .int .i64 ((k6 : Nat) : Int))] []
 refine sr ?_
 refine wv vlss ?_
 refine nt' (CM_seq ?_)
 by_cases hl10 : k6 < x0.length
 ·have g11 := dlT hl10
  refine CM_condT rfl g11 ?_
  refine CM_skip (QM_then (CM_seq (CM_block (sr (wm ?_)))))
  obtain ⟨a12, rfl, hb13, he14⟩ := q4 (by omega)
  refine wv (vix 1 k6 underlying28 type3) ?_
  refine wv (fun W hm => rv_load underlying3 rfl rfl ((hm.cell0 (show (a12.add (k6 * 1)).block < w.heap.size from by rw [add_block]; exact hb13.1)).trans (rdS_int he14 k6 (by omega)))) ?_
  refine wa (wa (nt' (sr (wm ?_))))
  refine wv vlss ?_
  refine wm ?_
  by_cases h15 : (gt x0 k6) < 0
  ·have g16 := decide_eq_true h15
   refine ws g16 ?_
   refine ws g16 ?_
   refine wv (vpT g16) ?_
   refine wm ?_
   refine wk ?_
   refine wk ?_
   refine wk ?_
   refine wu ?_
   refine wu ?_
   refine wu ?_
   refine wu ?_
   refine wu ?_
   refine wu ?_
   refine wu ?_
   refine wk ?_
   refine wv (vpT rfl) ?_
   refine nt' ?_
   refine CM_condT rfl rfl ?_
   refine sr (wa (nt' (CM_ret (QM_block_ret (QM_then_ret (QM_then_ret (QM_block_ret (QM_then_ret ?_))))))))
   exact rtb (h := fin_inl (rng_ret (body := F1) (k := k6) (s := ()) (show k6 < x0.length from by omega) (cond_t g16 (rfl)) hF8) rfl)
  ·have g16 := decide_eq_false h15
   refine wg vmv g16 ?_
   refine wg (fun W hm => rv_geq rfl rfl) g16 ?_
   refine wv (vpF g16) ?_
   refine wm ?_
   by_cases h17 : 24 ≤ (gt x0 k6)
   ·have g18 := decide_eq_true h17
    refine ws g18 ?_
    refine ws g18 ?_
    refine ws g18 ?_
    refine wu ?_
    refine wu ?_
    refine wu ?_
    refine wu ?_
    refine wu ?_
    refine wu ?_
    refine wu ?_
    refine ws g18 ?_
    refine wv (vpT g18) ?_
    refine nt' ?_
    refine CM_condT rfl rfl ?_
    refine sr (wa (nt' (CM_ret (QM_block_ret (QM_then_ret (QM_then_ret (QM_block_ret (QM_then_ret ?_))))))))
    exact rtb (h := fin_inl (rng_ret (body := F1) (k := k6) (s := ()) (show k6 < x0.length from by omega) (cond_f g16 (cond_t g18 (rfl))) hF8) rfl)
   ·have g18 := decide_eq_false h17
    refine wg vmv g18 ?_
    refine wg (fun W hm => rv_gtr rfl rfl) g18 ?_
    refine wg vmv g18 ?_
    by_cases h19 : 0 < ((k6 : Nat) : Int)
    ·have g20 := decide_eq_true h19
     refine wg vmv g20 ?_
     refine wg vmv g20 ?_
     refine wg (fun W hm => rv_subN (p := k6) (q := 1) rfl rfl (by omega) (by omega)) g20 ?_
     refine wg (fun W hm => rv_index (sz := 1) (k := k6 - 1) underlying28 type3 rfl rfl rfl (by omega)) g20 ?_
     refine wg (fun W hm => rv_load underlying3 rfl rfl ((hm.cell0 (show (a12.add ((k6 - 1) * 1)).block < w.heap.size from by rw [add_block]; exact hb13.1)).trans (rdS_int he14 (k6 - 1) (by omega)))) g20 ?_
     refine wg vmv g20 ?_
     refine wg (fun W hm => rv_geq rfl rfl) g20 ?_
     refine wg (vpT g20) g18 ?_
     refine wv (vpF g18) ?_
     refine nt' ?_
     by_cases h21 : (gt x0 k6) ≤ (gt x0 (k6 - 1))
     ·have g22 := decide_eq_true h21
      refine CM_condT rfl g22 ?_
      refine sr (wa (nt' (CM_ret (QM_block_ret (QM_then_ret (QM_then_ret (QM_block_ret (QM_then_ret ?_))))))))
      exact rtb (h := fin_inl (rng_ret (body := F1) (k := k6) (s := ()) (show k6 < x0.length from by omega) (cond_f g16 (cond_f g18 (cond_t g20 (cond_t g22 (rfl))))) hF8) rfl)
     ·have g22 := decide_eq_false h21
      refine CM_condF rfl g22 ?_
      refine CM_skip (QM_block_normal (QM_then (CM_region ?_)))
      refine wv (vadN k6 1 (by omega)) ?_
      refine wm (WM_nil ?_)
      have hn23 := rng_next (R := Bool) (body := F1) (k := k6) (s := ()) (s' := ()) (show k6 < x0.length from by omega) (cond_f g16 (cond_f g18 (cond_t g20 (cond_f g22 (rfl))))) hF8
      exact QM_round (k6 + 1, (), ()) sl4 (fun W hm => hm) ⟨(by omega), hn23⟩ (rl (by omega))
    ·have g20 := decide_eq_false h19
     refine ws g20 ?_
     refine ws g20 ?_
     refine ws g20 ?_
     refine ws g20 ?_
     refine ws g20 ?_
     refine ws g20 ?_
     refine ws g20 ?_
     refine wg (vpF g20) g18 ?_
     refine wv (vpF g18) ?_
     refine nt' ?_
     refine CM_condF rfl rfl ?_
     refine CM_skip (QM_block_normal (QM_then (CM_region ?_)))
     refine wv (vadN k6 1 (by omega)) ?_
     refine wm (WM_nil ?_)
     have hn24 := rng_next (R := Bool) (body := F1) (k := k6) (s := ()) (s' := ()) (show k6 < x0.length from by omega) (cond_f g16 (cond_f g18 (cond_f g20 (rfl)))) hF8
     exact QM_round (k6 + 1, (), ()) sl4 (fun W hm => hm) ⟨(by omega), hn24⟩ (rl (by omega))
 ·have g11 := dlF hl10
  refine CM_condF rfl g11 ?_
  refine CM_exit (QM_then_exit (QM_then_exit ?_))
  have hE25 : R2 (x0.length - 0) 0 () = Sum.inr () := rng_end hl10 hF8
  refine QM_block_hit (QM_then (sr (wa (nt' (CM_ret ?_)))))
  exact rtb (h := fin_inr hE25 (rfl))

def impl_within_m (x0 : Int) (x1 : Int) (x2 : Int) : Bool :=
 cond (decide (x1 ≤ x0)) (decide (x0 ≤ x2)) false
theorem cb50 : Cb Tryd.prog 50 := ⟨f50, _, func50, rfl, by decide⟩
theorem impl_within_c (w : World) (x0 : Int) (x1 : Int) (x2 : Int) :
  Calls Tryd.prog 50 #[.int .i64 x0, .int .i64 x1, .int .i64 x2] w fun e w' => e = .returned (.bool (impl_within_m x0 x1 x2)) ∧ Below w.heap.size w w' := by
 refine ce3 (L := [(0, .int .i64 x0), (1, .int .i64 x1), (2, .int .i64 x2)]) (N := 15) func50 ?_
 refine sr (wa (nt' (sr (wm (wm ?_)))))
 refine wv (fun W hm => rv_geq rfl rfl) ?_
 refine wm ?_
 by_cases h1 : x1 ≤ x0
 ·have g2 := decide_eq_true h1
  refine wg vmv g2 ?_
  refine wg vmv g2 ?_
  refine wg (fun W hm => rv_leq rfl rfl) g2 ?_
  refine wv (vpT g2) ?_
  refine wa (nt' (CM_ret ?_))
  exact rtb (h := cond_t g2 (rfl))
 ·have g2 := decide_eq_false h1
  refine ws g2 ?_
  refine ws g2 ?_
  refine ws g2 ?_
  refine wv (vpF g2) ?_
  refine wa (nt' (CM_ret ?_))
  exact rtb (h := cond_f g2 (rfl))

theorem impl_within_fact {x a b : Int} (h : impl_within_m x a b = true) : a ≤ x ∧ x ≤ b := by
  unfold impl_within_m at h
  by_cases h1 : a ≤ x
  · rw [decide_eq_true h1] at h
    exact ⟨h1, of_decide_eq_true h⟩
  · rw [decide_eq_false h1] at h
    cases h
theorem impl_within_iff (x a b : Int) : impl_within_m x a b = decide (a ≤ x ∧ x ≤ b) := by
  unfold impl_within_m
  by_cases h1 : a ≤ x
  · by_cases h2 : x ≤ b
    · simp [h1, h2]
    · simp [h1, h2]
  · simp [h1]

def impl_IsCharge_b1 (x0 : DCharge) (k31 : Nat) : Bool ⊕ (Unit) :=
 cond (impl_within_m (gt x0.Tenants k31) 0 3) (cond (impl_within_m (gt x0.Rows k31) 0 x0.Base) (Sum.inr ()) (Sum.inl false)) (Sum.inl false)
def impl_IsCharge_m (x0 : DCharge) : Bool :=
 cond (impl_IsSet_m x0.Ids) (cond (impl_within_m ((x0.Ids.length : Nat) : Int) 1 8) (cond (((x0.Tenants.length : Nat) : Int) != ((x0.Ids.length : Nat) : Int)) false (cond (((x0.Rows.length : Nat) : Int) != ((x0.Ids.length : Nat) : Int)) false (Sum.elim id (fun (s : Unit) => cond (impl_within_m x0.Segment 0 7) (impl_within_m x0.Base 0 4) false) (rng (R := Bool) (fun k (_ : Unit) => impl_IsCharge_b1 x0 k) (x0.Ids.length - 0) 0 ())))) false) false
theorem cb26 : Cb Tryd.prog 26 := ⟨f26, _, func26, rfl, by decide⟩
theorem impl_IsCharge_c (w : World) (z0 : List Value) (x0 : DCharge) (r_0 : tyCharge.rd w w.heap.size z0 x0) :
  Calls Tryd.prog 26 #[.agg z0.toArray] w fun e w' => e = .returned (.bool (impl_IsCharge_m x0)) ∧ Below w.heap.size w w' := by
 obtain ⟨v1, v3, v5, rfl, r2, r4, r6⟩ := tyCharge_rd r_0
 obtain ⟨m7, A8, c9, rfl, q10, r11⟩ := rdS_op r2
 obtain ⟨m12, A13, c14, rfl, q15, r16⟩ := rdS_op r4
 obtain ⟨m17, A18, c19, rfl, q20, r21⟩ := rdS_op r6
 refine ce1 (L := [(0, .agg #[.int .i64 x0.Segment, .int .i64 x0.Base, .slice A8 x0.Ids.length c9, .slice A13 x0.Tenants.length c14, .slice A18 x0.Rows.length c19])]) (N := 64) func26 ?_
 refine sr ?_
 refine WM_box rfl (Wd_none rfl) (by decide) (fun p22 => ?_)
 refine wa (nt' (sr ?_))
 refine wv (vf underlying33 rfl type28) ?_
 refine wv (vl 0 2 underlying28) ?_
 refine wv (vlen underlying28) ?_
 refine wa (nt' (CM_seq (sr ?_)))
 refine wv (vf underlying33 rfl type28) ?_
 refine wv (vl 0 2 underlying28) ?_
 refine wcv (cl_fn cb65 rfl) (fun W hm => impl_IsSet_c W _ x0.Ids (hm.rdS0 r11)) ?_
 refine wv vnot ?_
 refine wm ?_
 rcases Bool.eq_false_or_eq_true (impl_IsSet_m x0.Ids) with g24 | g24
 ·
  refine wg vmv (nt g24) ?_
  refine WM_callV (cl_fn cb50 rfl) (fun W hm => impl_within_c W ((x0.Ids.length : Nat) : Int) 1 8) (Wd_some rfl rfl rfl (bw (nt g24) rfl)) (by decide) ?_
  refine wg vnot (nt g24) ?_
  refine wv (vpF (nt g24)) ?_
  refine wm ?_
  rcases Bool.eq_false_or_eq_true (impl_within_m ((x0.Ids.length : Nat) : Int) 1 8) with g26 | g26
  ·
   have hw := impl_within_fact g26
   refine wg (vf underlying33 rfl type28) (nt g26) ?_
   refine wg (vl 0 3 underlying28) (nt g26) ?_
   refine wg (vlen underlying28) (nt g26) ?_
   refine wg vmv (nt g26) ?_
   refine wg vneq (nt g26) ?_
   refine wv (vpF (nt g26)) ?_
   refine wm ?_
   by_cases h27 : ((x0.Tenants.length : Nat) : Int) = ((x0.Ids.length : Nat) : Int)
   ·have g28 : (((x0.Tenants.length : Nat) : Int) != ((x0.Ids.length : Nat) : Int)) = false := by rw [h27]; exact bne_self_eq_false _
    refine wg (vf underlying33 rfl type28) g28 ?_
    refine wg (vl 0 4 underlying28) g28 ?_
    refine wg (vlen underlying28) g28 ?_
    refine wg vmv g28 ?_
    refine wg vneq g28 ?_
    refine wv (vpF g28) ?_
    refine nt' ?_
    by_cases h29 : ((x0.Rows.length : Nat) : Int) = ((x0.Ids.length : Nat) : Int)
    ·have g30 : (((x0.Rows.length : Nat) : Int) != ((x0.Ids.length : Nat) : Int)) = false := by rw [h29]; exact bne_self_eq_false _
     refine CM_condF rfl g30 ?_
     refine CM_skip (QM_then (CM_seq (sr ?_)))
     refine wv (vf underlying33 rfl type28) ?_
     refine wv (vl 0 2 underlying28) ?_
     refine wv (vlen underlying28) ?_
     refine wm (nt' (CM_block ?_))
     let F1 := fun k (_ : Unit) => impl_IsCharge_b1 x0 k
     let R2 := rng (R := Bool) F1
     let K3 : List Value := [.int .i64 x0.Segment, .int .i64 x0.Base, .slice A8 x0.Ids.length c9, .slice A13 x0.Tenants.length c14, .slice A18 x0.Rows.length c19]
     refine CM_loop (σ := Nat × (Unit) × (Unit)) (fun s => [(1, .pointer (some (⟨p22, 0, none⟩ : Addr))), (33, .int .i64 ((x0.Ids.length : Nat) : Int)), (34, .int .i64 ((s.1 : Nat) : Int))]) (fun s => [iBox p22 33 K3]) (fun s => s.1 ≤ x0.Ids.length ∧ R2 (x0.Ids.length - s.1) s.1 s.2.1 = R2 (x0.Ids.length - 0) 0 ()) (fun s => x0.Ids.length - s.1) (0, (), ()) sl3 (fun W hm => hm) ⟨(by omega), rfl⟩ ?_
     rintro ⟨k31, ⟨⟩, ⟨⟩⟩ H34
     obtain ⟨hk32, hF33⟩ : k31 ≤ x0.Ids.length ∧ R2 (x0.Ids.length - k31) k31 () = R2 (x0.Ids.length - 0) 0 () := H34
     show CM Tryd.prog 64 _ _ _ _ [(1, .pointer (some (⟨p22, 0, none⟩ : Addr))), (33, .int .i64 ((x0.Ids.length : Nat) : Int)), (34, .int .i64 ((k31 : Nat) : Int))] [iBox p22 33 K3]
     refine sr ?_
     refine wv vlss ?_
     refine nt' (CM_seq ?_)
     by_cases hl35 : k31 < x0.Ids.length
     ·have g36 := dlT hl35
      refine CM_condT rfl g36 ?_
      refine CM_skip (QM_then (CM_seq (CM_block (sr (wm (wa (nt' (CM_seq ?_))))))))
      refine CM_regionD (by kernel_rfl) (by kernel_rfl) ?_
      refine qv (vf underlying33 rfl type28) ?_
      refine qv (vl 0 3 underlying28) ?_
      refine qm ?_
      obtain ⟨a37, rfl, hb38, he39⟩ := q15 (by omega)
      refine qv (vix 1 k31 underlying28 type3) ?_
      refine qv (fun W hm => rv_load underlying3 rfl rfl ((hm.cell0 (show (a37.add (k31 * 1)).block < w.heap.size from by rw [add_block]; exact hb38.1)).trans (rdS_int he39 k31 (by omega)))) ?_
      refine QR_callV (cl_fn cb50 rfl) (fun W hm => impl_within_c W (gt x0.Tenants k31) 0 3) (Wd_none rfl) (by decide) ?_
      refine qv vnot ?_
      refine qm ?_
      rcases Bool.eq_false_or_eq_true (impl_within_m (gt x0.Tenants k31) 0 3) with g41 | g41
      ·
       have hw := impl_within_fact g41
       refine qg (vf underlying33 rfl type28) (nt g41) ?_
       refine qg (vl 0 4 underlying28) (nt g41) ?_
       refine qg vmv (nt g41) ?_
       obtain ⟨a42, rfl, hb43, he44⟩ := q20 (by omega)
       refine qg (vix 1 k31 underlying28 type3) (nt g41) ?_
       refine qg (fun W hm => rv_load underlying3 rfl rfl ((hm.cell0 (show (a42.add (k31 * 1)).block < w.heap.size from by rw [add_block]; exact hb43.1)).trans (rdS_int he44 k31 (by omega)))) (nt g41) ?_
       refine qg (vf underlying33 rfl type3) (nt g41) ?_
       refine qg (vl 0 1 underlying3) (nt g41) ?_
       refine QR_callV (cl_fn cb50 rfl) (fun W hm => impl_within_c W (gt x0.Rows k31) 0 x0.Base) (Wd_some rfl rfl rfl (bw (nt g41) rfl)) (by decide) ?_
       refine qg vnot (nt g41) ?_
       refine qv (vpF (nt g41)) ?_
       refine nq' ?_
       rcases Bool.eq_false_or_eq_true (impl_within_m (gt x0.Rows k31) 0 x0.Base) with g46 | g46
       ·
        have hw := impl_within_fact g46
        refine CM_condF rfl (nt g46) ?_
        refine CM_skip (QM_block_normal (QM_then (CM_region ?_)))
        refine wv (vadN k31 1 (by omega)) ?_
        refine wm (WM_nil ?_)
        have hn47 := rng_next (R := Bool) (body := F1) (k := k31) (s := ()) (s' := ()) (show k31 < x0.Ids.length from by omega) (cond_t g41 (cond_t g46 (rfl))) hF33
        exact QM_round (k31 + 1, (), ()) sl3 (fun W hm => hm) ⟨(by omega), hn47⟩ (rl (by omega))
       ·
        refine CM_condT rfl (nf g46) ?_
        refine sr (wa (nt' (CM_ret (QM_block_ret (QM_then_ret (QM_then_ret (QM_block_ret (QM_then_ret ?_))))))))
        exact rtb (h := cond_t g24 (cond_t g26 (cond_f g28 (cond_f g30 (fin_inl (rng_ret (body := F1) (k := k31) (s := ()) (show k31 < x0.Ids.length from by omega) (cond_t g41 (cond_f g46 (rfl))) hF33) rfl)))))
      ·
       refine qs (nf g41) ?_
       refine qs (nf g41) ?_
       refine qs (nf g41) ?_
       refine qs (nf g41) ?_
       refine qs (nf g41) ?_
       refine qs (nf g41) ?_
       refine qs (nf g41) ?_
       refine qs (nf g41) ?_
       refine qs (nf g41) ?_
       refine qv (vpT (nf g41)) ?_
       refine nq' ?_
       refine CM_condT rfl rfl ?_
       refine sr (wa (nt' (CM_ret (QM_block_ret (QM_then_ret (QM_then_ret (QM_block_ret (QM_then_ret ?_))))))))
       exact rtb (h := cond_t g24 (cond_t g26 (cond_f g28 (cond_f g30 (fin_inl (rng_ret (body := F1) (k := k31) (s := ()) (show k31 < x0.Ids.length from by omega) (cond_f g41 (rfl)) hF33) rfl)))))
     ·have g36 := dlF hl35
      refine CM_condF rfl g36 ?_
      refine CM_exit (QM_then_exit (QM_then_exit ?_))
      have hE48 : R2 (x0.Ids.length - 0) 0 () = Sum.inr () := rng_end hl35 hF33
      refine QM_block_hit (QM_then (sr ?_))
      refine wv (vf underlying33 rfl type3) ?_
      refine wv (vl 0 0 underlying3) ?_
      refine wcv (cl_fn cb50 rfl) (fun W hm => impl_within_c W x0.Segment 0 7) ?_
      refine wm ?_
      rcases Bool.eq_false_or_eq_true (impl_within_m x0.Segment 0 7) with g50 | g50
      ·
       have hw := impl_within_fact g50
       refine wg (vf underlying33 rfl type3) g50 ?_
       refine wg (vl 0 1 underlying3) g50 ?_
       refine WM_callV (cl_fn cb50 rfl) (fun W hm => impl_within_c W x0.Base 0 4) (Wd_some rfl rfl rfl (bw g50 rfl)) (by decide) ?_
       refine wv (vpT g50) ?_
       refine wa (nt' (CM_ret ?_))
       exact rtb (h := cond_t g24 (cond_t g26 (cond_f g28 (cond_f g30 (fin_inr hE48 (cond_t g50 (rfl)))))))
      ·
       refine ws g50 ?_
       refine ws g50 ?_
       refine ws g50 ?_
       refine wv (vpF g50) ?_
       refine wa (nt' (CM_ret ?_))
       exact rtb (h := cond_t g24 (cond_t g26 (cond_f g28 (cond_f g30 (fin_inr hE48 (cond_f g50 (rfl)))))))
    ·have g30 : (((x0.Rows.length : Nat) : Int) != ((x0.Ids.length : Nat) : Int)) = true := bne_iff_ne.2 h29
     refine CM_condT rfl g30 ?_
     refine sr (wa (nt' (CM_ret (QM_then_ret ?_))))
     exact rtb (h := cond_t g24 (cond_t g26 (cond_f g28 (cond_t g30 (rfl)))))
   ·have g28 : (((x0.Tenants.length : Nat) : Int) != ((x0.Ids.length : Nat) : Int)) = true := bne_iff_ne.2 h27
    refine ws g28 ?_
    refine ws g28 ?_
    refine ws g28 ?_
    refine ws g28 ?_
    refine ws g28 ?_
    refine wv (vpT g28) ?_
    refine nt' ?_
    refine CM_condT rfl rfl ?_
    refine sr (wa (nt' (CM_ret (QM_then_ret ?_))))
    exact rtb (h := cond_t g24 (cond_t g26 (cond_t g28 (rfl))))
  ·
   refine ws (nf g26) ?_
   refine ws (nf g26) ?_
   refine ws (nf g26) ?_
   refine ws (nf g26) ?_
   refine ws (nf g26) ?_
   refine wv (vpT (nf g26)) ?_
   refine wm ?_
   refine wk ?_
   refine wk ?_
   refine wk ?_
   refine wk ?_
   refine wk ?_
   refine wv (vpT rfl) ?_
   refine nt' ?_
   refine CM_condT rfl rfl ?_
   refine sr (wa (nt' (CM_ret (QM_then_ret ?_))))
   exact rtb (h := cond_t g24 (cond_f g26 (rfl)))
 ·
  refine ws (nf g24) ?_
  refine ws (nf g24) ?_
  refine ws (nf g24) ?_
  refine wv (vpT (nf g24)) ?_
  refine wm ?_
  refine wk ?_
  refine wk ?_
  refine wk ?_
  refine wk ?_
  refine wk ?_
  refine wv (vpT rfl) ?_
  refine wm ?_
  refine wk ?_
  refine wk ?_
  refine wk ?_
  refine wk ?_
  refine wk ?_
  refine wv (vpT rfl) ?_
  refine nt' ?_
  refine CM_condT rfl rfl ?_
  refine sr (wa (nt' (CM_ret (QM_then_ret ?_))))
  exact rtb (h := cond_f g24 (rfl))

theorem impl_IsCharge_fact {x : DCharge} (h : impl_IsCharge_m x = true) : 1 ≤ x.Ids.length ∧ x.Tenants.length = x.Ids.length ∧ x.Rows.length = x.Ids.length := by
  unfold impl_IsCharge_m impl_within_m at h
  cases h1 : impl_IsSet_m x.Ids <;> rw [h1] at h
  · cases h
  by_cases h2 : 1 ≤ ((x.Ids.length : Nat) : Int)
  · by_cases h3 : ((x.Tenants.length : Nat) : Int) = ((x.Ids.length : Nat) : Int)
    · by_cases h4 : ((x.Rows.length : Nat) : Int) = ((x.Ids.length : Nat) : Int)
      · omega
      · rw [bne_iff_ne.2 h4] at h
        revert h
        cases decide (1 ≤ ((x.Ids.length : Nat) : Int)) <;> cases decide (((x.Ids.length : Nat) : Int) ≤ 8) <;> cases (((x.Tenants.length : Nat) : Int) != ((x.Ids.length : Nat) : Int)) <;> intro h <;> cases h
    · rw [bne_iff_ne.2 h3] at h
      revert h
      cases decide (1 ≤ ((x.Ids.length : Nat) : Int)) <;> cases decide (((x.Ids.length : Nat) : Int) ≤ 8) <;> intro h <;> cases h
  · rw [decide_eq_false h2] at h
    cases h

def impl_SharesOf_b1 (x0 : DCharge) (k30 : Nat) (d31 : (List Int)) : (List Int) ⊕ ((List Int)) :=
 cond (decide (((k30 : Nat) : Int) < (Int.tmod x0.Base ((x0.Ids.length : Nat) : Int)))) (Sum.inr (d31 ++ [(IntKind.i64.wrap ((IntKind.i64.wrap ((gt x0.Rows k30) + (IntKind.i64.wrap (Int.tdiv x0.Base ((x0.Ids.length : Nat) : Int))))) + 1))])) (Sum.inr (d31 ++ [(IntKind.i64.wrap ((gt x0.Rows k30) + (IntKind.i64.wrap (Int.tdiv x0.Base ((x0.Ids.length : Nat) : Int)))))]))
def impl_SharesOf_m (x0 : DCharge) : (List Int) :=
 cond (impl_IsCharge_m x0) (Sum.elim id (fun (s : (List Int)) => s) (rng (R := (List Int)) (fun k (s : (List Int)) => impl_SharesOf_b1 x0 k s) (x0.Rows.length - 0) 0 [])) []
theorem cb23 : Cb Tryd.prog 23 := ⟨f23, _, func23, rfl, by decide⟩
theorem impl_SharesOf_c (w : World) (z0 : List Value) (x0 : DCharge) (r_0 : tyCharge.rd w w.heap.size z0 x0) (s_0 : smCharge 68719476736 x0) :
  Calls Tryd.prog 23 #[.agg z0.toArray] w fun e w' => ∃ v : Value, e = .returned (v) ∧ Mem w.heap.size w [iOwn (tSl tInt 3) [v] (impl_SharesOf_m x0)] w' := by
 obtain ⟨v1, v3, v5, rfl, r2, r4, r6⟩ := tyCharge_rd r_0
 obtain ⟨m7, A8, c9, rfl, q10, r11⟩ := rdS_op r2
 obtain ⟨m12, A13, c14, rfl, q15, r16⟩ := rdS_op r4
 obtain ⟨m17, A18, c19, rfl, q20, r21⟩ := rdS_op r6
 have l22 : x0.Ids.length ≤ 68719476736 := s_0.1
 have l23 : x0.Tenants.length ≤ 68719476736 := s_0.2.1
 have l24 : x0.Rows.length ≤ 68719476736 := s_0.2.2
 refine ce1 (L := [(0, .agg #[.int .i64 x0.Segment, .int .i64 x0.Base, .slice A8 x0.Ids.length c9, .slice A13 x0.Tenants.length c14, .slice A18 x0.Rows.length c19])]) (N := 44) func23 ?_
 refine sr ?_
 refine WM_box rfl (Wd_none rfl) (by decide) (fun p25 => ?_)
 refine wa (nt' (sr ?_))
 refine WM_build0 (E := tInt) underlying28 type3 (Wd_none rfl) (by decide) (fun p26 => ?_)
 refine wa (nt' (CM_seq (sr ?_)))
 let K3 : List Value := [.int .i64 x0.Segment, .int .i64 x0.Base, .slice A8 x0.Ids.length c9, .slice A13 x0.Tenants.length c14, .slice A18 x0.Rows.length c19]
 refine wv (fun W hm => rv_loadN (cs := K3) underlying33 type33 rfl rfl (hm.boxCells (n := 1) rfl)) ?_
 refine wcv (cl_fn cb26 rfl) (fun W hm => impl_IsCharge_c W _ x0 (tyCharge_mk (x := x0) (hm.rdS0 r11) (hm.rdS0 r16) (hm.rdS0 r21))) ?_
 refine wv vnot ?_
 refine nt' ?_
 rcases Bool.eq_false_or_eq_true (impl_IsCharge_m x0) with g29 | g29
 ·
  obtain ⟨hq1, hq2, hq3⟩ := impl_IsCharge_fact g29
  refine CM_condF rfl (nt g29) ?_
  refine CM_skip (QM_then (sr ?_))
  refine wv (vf underlying33 rfl type28) ?_
  refine wv (vl 1 2 underlying28) ?_
  refine wv (vlen underlying28) ?_
  refine wa (nt' (CM_seq (sr ?_)))
  refine wv (vf underlying33 rfl type28) ?_
  refine wv (vl 1 4 underlying28) ?_
  refine wv (vlen underlying28) ?_
  refine wm (nt' (CM_block ?_))
  let F1 := fun k (s : (List Int)) => impl_SharesOf_b1 x0 k s
  let R2 := rng (R := (List Int)) F1
  refine CM_loop (σ := Nat × ((List Int)) × (Option Addr × Nat)) (fun s => [(1, .pointer (some (⟨p25, 0, none⟩ : Addr))), (3, .slice s.2.2.1 s.2.1.length s.2.2.2), (4, .int .i64 ((x0.Ids.length : Nat) : Int)), (17, .slice A18 x0.Rows.length c19), (18, .int .i64 ((x0.Rows.length : Nat) : Int)), (19, .int .i64 ((s.1 : Nat) : Int))]) (fun s => [iOwn (tSl tInt 3) [.slice s.2.2.1 s.2.1.length s.2.2.2] s.2.1, iBox p25 33 K3]) (fun s => s.1 ≤ x0.Rows.length ∧ R2 (x0.Rows.length - s.1) s.1 s.2.1 = R2 (x0.Rows.length - 0) 0 [] ∧ s.2.1.length ≤ 0 + s.1) (fun s => x0.Rows.length - s.1) (0, [], ((some ⟨p26, 0, none⟩), 0)) sl6 (fun W hm => hm) ⟨(by omega), rfl, Nat.le_refl _⟩ ?_
  rintro ⟨k30, d31, ⟨A32, c33⟩⟩ H36
  obtain ⟨hk34, hF35, hi37⟩ : k30 ≤ x0.Rows.length ∧ R2 (x0.Rows.length - k30) k30 d31 = R2 (x0.Rows.length - 0) 0 [] ∧ d31.length ≤ 0 + k30 := H36
  show CM Tryd.prog 44 _ _ _ _ [(1, .pointer (some (⟨p25, 0, none⟩ : Addr))), (3, .slice A32 d31.length c33), (4, .int .i64 ((x0.Ids.length : Nat) : Int)), (17, .slice A18 x0.Rows.length c19), (18, .int .i64 ((x0.Rows.length : Nat) : Int)), (19, .int .i64 ((k30 : Nat) : Int))] [iOwn (tSl tInt 3) [.slice A32 d31.length c33] d31, iBox p25 33 K3]
  refine sr ?_
  refine wv vlss ?_
  refine nt' (CM_seq ?_)
  by_cases hl38 : k30 < x0.Rows.length
  ·have g39 := dlT hl38
   refine CM_condT rfl g39 ?_
   refine CM_skip (QM_then (CM_seq (CM_block (sr (wm ?_)))))
   obtain ⟨a40, rfl, hb41, he42⟩ := q20 (by omega)
   refine wv (vix 1 k30 underlying28 type3) ?_
   refine wv (fun W hm => rv_load underlying3 rfl rfl ((hm.cell0 (show (a40.add (k30 * 1)).block < w.heap.size from by rw [add_block]; exact hb41.1)).trans (rdS_int he42 k30 (by omega)))) ?_
   refine wa (wa (nt' (sr (wm ?_))))
   refine wv (vf underlying33 rfl type3) ?_
   refine wv (vl 1 1 underlying3) ?_
   refine wm ?_
   refine wv (fun W hm => rv_quo rfl rfl (by omega)) ?_
   refine wv vadd ?_
   refine wa (nt' (CM_seq (sr (wm ?_))))
   refine wv (vf underlying33 rfl type3) ?_
   refine wv (vl 1 1 underlying3) ?_
   refine wm ?_
   refine wv (fun W hm => rv_rem rfl rfl (by omega)) ?_
   refine wv vlss ?_
   refine nt' ?_
   by_cases h43 : ((k30 : Nat) : Int) < (Int.tmod x0.Base ((x0.Ids.length : Nat) : Int))
   ·have g44 := decide_eq_true h43
    refine CM_condT rfl g44 ?_
    refine CM_region (wm ?_)
    refine wv vadd ?_
    refine wa (nt' (CM_region (wm (wm ?_))))
    let K4 : List Value := [.int .i64 (IntKind.i64.wrap ((IntKind.i64.wrap ((gt x0.Rows k30) + (IntKind.i64.wrap (Int.tdiv x0.Base ((x0.Ids.length : Nat) : Int))))) + 1))]
    refine WM_build (cs := K4) underlying28 type3 rfl (by decide) (by decide) rfl (by kernel_rfl) (Wd_none rfl) (by decide) (fun p45 => ?_)
    refine ap1 tInt 3 (.slice A32 d31.length c33) d31 (IntKind.i64.wrap ((IntKind.i64.wrap ((gt x0.Rows k30) + (IntKind.i64.wrap (Int.tdiv x0.Base ((x0.Ids.length : Nat) : Int))))) + 1)) [] [iBox p25 33 [.int .i64 x0.Segment, .int .i64 x0.Base, .slice A8 x0.Ids.length c9, .slice A13 x0.Tenants.length c14, .slice (some a40) x0.Rows.length c19]] K4 (fun W hm => hm) (fun _ _ hs => by cases (Sep.nil hs); exact (els_cons tInt_own els_nil)) underlying28 type3 (show (d31.length + 1) * 8 ≤ 140737488355328 from by omega) (fun v46 => ?_)
    refine WM_form (n := 0) rfl ?_
    rintro A47 c48 rfl m49
    refine wa (WM_nil (QM_block_normal (QM_then (CM_region ?_))))
    refine wv (vadN k30 1 (by omega)) ?_
    refine wm (WM_nil ?_)
    have hn51 := rng_next (R := (List Int)) (body := F1) (k := k30) (s := d31) (s' := (d31 ++ [(IntKind.i64.wrap ((IntKind.i64.wrap ((gt x0.Rows k30) + (IntKind.i64.wrap (Int.tdiv x0.Base ((x0.Ids.length : Nat) : Int))))) + 1))])) (show k30 < x0.Rows.length from by omega) (cond_t g44 (rfl)) hF35
    exact QM_round (k30 + 1, (d31 ++ [(IntKind.i64.wrap ((IntKind.i64.wrap ((gt x0.Rows k30) + (IntKind.i64.wrap (Int.tdiv x0.Base ((x0.Ids.length : Nat) : Int))))) + 1))]), (A47, c48)) sl6 (fun W hm => hm) ⟨(by omega), hn51, (show (d31 ++ [(IntKind.i64.wrap ((IntKind.i64.wrap ((gt x0.Rows k30) + (IntKind.i64.wrap (Int.tdiv x0.Base ((x0.Ids.length : Nat) : Int))))) + 1))]).length ≤ 0 + (k30 + 1) from by first | omega | (simp only [List.length_append, List.length_cons, List.length_nil] at *; omega))⟩ (rl (by omega))
   ·have g44 := decide_eq_false h43
    refine CM_condF rfl g44 ?_
    refine CM_skip (QM_then (CM_region (wm (wm ?_))))
    let K5 : List Value := [.int .i64 (IntKind.i64.wrap ((gt x0.Rows k30) + (IntKind.i64.wrap (Int.tdiv x0.Base ((x0.Ids.length : Nat) : Int)))))]
    refine WM_build (cs := K5) underlying28 type3 rfl (by decide) (by decide) rfl (by kernel_rfl) (Wd_none rfl) (by decide) (fun p52 => ?_)
    refine ap1 tInt 3 (.slice A32 d31.length c33) d31 (IntKind.i64.wrap ((gt x0.Rows k30) + (IntKind.i64.wrap (Int.tdiv x0.Base ((x0.Ids.length : Nat) : Int))))) [] [iBox p25 33 [.int .i64 x0.Segment, .int .i64 x0.Base, .slice A8 x0.Ids.length c9, .slice A13 x0.Tenants.length c14, .slice (some a40) x0.Rows.length c19]] K5 (fun W hm => hm) (fun _ _ hs => by cases (Sep.nil hs); exact (els_cons tInt_own els_nil)) underlying28 type3 (show (d31.length + 1) * 8 ≤ 140737488355328 from by omega) (fun v53 => ?_)
    refine WM_form (n := 0) rfl ?_
    rintro A54 c55 rfl m56
    refine wa (WM_nil (QM_block_normal (QM_then (CM_region ?_))))
    refine wv (vadN k30 1 (by omega)) ?_
    refine wm (WM_nil ?_)
    have hn58 := rng_next (R := (List Int)) (body := F1) (k := k30) (s := d31) (s' := (d31 ++ [(IntKind.i64.wrap ((gt x0.Rows k30) + (IntKind.i64.wrap (Int.tdiv x0.Base ((x0.Ids.length : Nat) : Int)))))])) (show k30 < x0.Rows.length from by omega) (cond_f g44 (rfl)) hF35
    exact QM_round (k30 + 1, (d31 ++ [(IntKind.i64.wrap ((gt x0.Rows k30) + (IntKind.i64.wrap (Int.tdiv x0.Base ((x0.Ids.length : Nat) : Int)))))]), (A54, c55)) sl6 (fun W hm => hm) ⟨(by omega), hn58, (show (d31 ++ [(IntKind.i64.wrap ((gt x0.Rows k30) + (IntKind.i64.wrap (Int.tdiv x0.Base ((x0.Ids.length : Nat) : Int)))))]).length ≤ 0 + (k30 + 1) from by first | omega | (simp only [List.length_append, List.length_cons, List.length_nil] at *; omega))⟩ (rl (by omega))
  ·have g39 := dlF hl38
   refine CM_condF rfl g39 ?_
   refine CM_exit (QM_then_exit (QM_then_exit ?_))
   have hE59 : R2 (x0.Rows.length - 0) 0 [] = Sum.inr d31 := rng_end hl38 hF35
   refine QM_block_hit (QM_then (sr (wm (wa (nt' (CM_ret ?_))))))
   have he60 := (show impl_SharesOf_m x0 = d31 from cond_t g29 (fin_inr hE59 (rfl)))
   refine QM_r1 rfl (RR_tmp rfl) (fun W hm => ⟨.slice A32 d31.length c33, ?_, ?_⟩)
   ·first | rw [he60] | rfl
   ·rw [he60]; exact (hm.pick [0] (by decide))
 ·
  refine CM_condT rfl (nf g29) ?_
  refine sr (wm (wa (nt' (CM_ret (QM_then_ret ?_)))))
  have he61 := (show impl_SharesOf_m x0 = [] from cond_f g29 (rfl))
  refine QM_r1 rfl (RR_tmp rfl) (fun W hm => ⟨.slice (some ⟨p26, 0, none⟩) 0 0, ?_, ?_⟩)
  ·first | rw [he61] | rfl
  ·rw [he61]; exact (hm.pick [0] (by decide))

theorem rng_le {R : Type} {n : Nat} {b : Nat → List Int → R ⊕ List Int} (h : ∀ j s, (∃ s', b j s = .inr s' ∧ s'.length ≤ s.length + 1)) : ∀ m k s, ∃ s', rng b m k s = .inr s' ∧ s'.length ≤ s.length + m
  | 0, _, s => ⟨s, rfl, by omega⟩
  | m + 1, k, s => by
    obtain ⟨s', h1, h2⟩ := h k s
    obtain ⟨s'', h3, h4⟩ := rng_le (n := n) h m (k + 1) s'
    exact ⟨s'', by rw [rng, h1]; exact h3, by omega⟩
theorem impl_SharesOf_len (x : DCharge) : (impl_SharesOf_m x).length ≤ x.Tenants.length := by
  unfold impl_SharesOf_m
  cases h : impl_IsCharge_m x with
  | false => exact Nat.zero_le _
  | true =>
    obtain ⟨_, h2, h3⟩ := impl_IsCharge_fact h
    obtain ⟨s', h4, h5⟩ := rng_le (n := 0) (b := fun k s => impl_SharesOf_b1 x k s) (fun j s => by
      unfold impl_SharesOf_b1
      cases decide (((j : Nat) : Int) < (Int.tmod x.Base ((x.Ids.length : Nat) : Int))) <;> exact ⟨_, rfl, by simp⟩) (x.Rows.length - 0) 0 []
    rw [h4]
    show s'.length ≤ _
    simp at h5
    omega

def spec_l1In_m (x0 : Int) (x1 : Int) (x2 : Int) : Bool :=
 cond (decide (x1 ≤ x0)) (decide (x0 ≤ x2)) false
theorem cb48 : Cb Tryd.prog 48 := ⟨f48, _, func48, rfl, by decide⟩
theorem spec_l1In_c (w : World) (x0 : Int) (x1 : Int) (x2 : Int) :
  Calls Tryd.prog 48 #[.int .i64 x0, .int .i64 x1, .int .i64 x2] w fun e w' => e = .returned (.bool (spec_l1In_m x0 x1 x2)) ∧ Below w.heap.size w w' := by
 refine ce3 (L := [(0, .int .i64 x0), (1, .int .i64 x1), (2, .int .i64 x2)]) (N := 15) func48 ?_
 refine sr (wa (nt' (sr (wm (wm ?_)))))
 refine wv (fun W hm => rv_geq rfl rfl) ?_
 refine wm ?_
 by_cases h1 : x1 ≤ x0
 ·have g2 := decide_eq_true h1
  refine wg vmv g2 ?_
  refine wg vmv g2 ?_
  refine wg (fun W hm => rv_leq rfl rfl) g2 ?_
  refine wv (vpT g2) ?_
  refine wa (nt' (CM_ret ?_))
  exact rtb (h := cond_t g2 (rfl))
 ·have g2 := decide_eq_false h1
  refine ws g2 ?_
  refine ws g2 ?_
  refine ws g2 ?_
  refine wv (vpF g2) ?_
  refine wa (nt' (CM_ret ?_))
  exact rtb (h := cond_f g2 (rfl))

theorem spec_l1In_fact {x a b : Int} (h : spec_l1In_m x a b = true) : a ≤ x ∧ x ≤ b := by
  unfold spec_l1In_m at h
  by_cases h1 : a ≤ x
  · rw [decide_eq_true h1] at h
    exact ⟨h1, of_decide_eq_true h⟩
  · rw [decide_eq_false h1] at h
    cases h
theorem spec_l1In_iff (x a b : Int) : spec_l1In_m x a b = decide (a ≤ x ∧ x ≤ b) := by
  unfold spec_l1In_m
  by_cases h1 : a ≤ x
  · by_cases h2 : x ≤ b
    · simp [h1, h2]
    · simp [h1, h2]
  · simp [h1]

def spec_IsSet_b1 (x0 : (List Int)) (k6 : Nat) : Bool ⊕ (Unit) :=
 cond (spec_l1In_m (gt x0 k6) 0 23) (cond (decide (0 < ((k6 : Nat) : Int))) (cond (decide ((gt x0 k6) ≤ (gt x0 (k6 - 1)))) (Sum.inl false) (Sum.inr ())) (Sum.inr ())) (Sum.inl false)
def spec_IsSet_m (x0 : (List Int)) : Bool :=
 Sum.elim id (fun (s : Unit) => true) (rng (R := Bool) (fun k (_ : Unit) => spec_IsSet_b1 x0 k) (x0.length - 0) 0 ())
theorem cb44 : Cb Tryd.prog 44 := ⟨f44, _, func44, rfl, by decide⟩
theorem spec_IsSet_c (w : World) (z0 : Value) (x0 : (List Int)) (r_0 : rdS tInt w w.heap.size z0 x0) :
  Calls Tryd.prog 44 #[z0] w fun e w' => e = .returned (.bool (spec_IsSet_m x0)) ∧ Below w.heap.size w w' := by
 obtain ⟨m1, A2, c3, rfl, q4, r5⟩ := rdS_op r_0
 refine ce1 (L := [(0, .slice A2 x0.length c3)]) (N := 32) func44 ?_
 refine sr (wa (nt' (CM_seq (sr (wa (nt' (CM_block ?_)))))))
 let F1 := fun k (_ : Unit) => spec_IsSet_b1 x0 k
 let R2 := rng (R := Bool) F1
 refine CM_loop (σ := Nat × (Unit) × (Unit)) (fun s => [(0, .slice A2 x0.length c3), (3, .int .i64 ((s.1 : Nat) : Int))]) (fun s => []) (fun s => s.1 ≤ x0.length ∧ R2 (x0.length - s.1) s.1 s.2.1 = R2 (x0.length - 0) 0 ()) (fun s => x0.length - s.1) (0, (), ()) sl2 (fun W hm => hm) ⟨(by omega), rfl⟩ ?_
 rintro ⟨k6, ⟨⟩, ⟨⟩⟩ H9
 obtain ⟨hk7, hF8⟩ : k6 ≤ x0.length ∧ R2 (x0.length - k6) k6 () = R2 (x0.length - 0) 0 () := H9
 show CM Tryd.prog 32 _ _ _ _ [(0, .slice A2 x0.length c3), (3, .int .i64 ((k6 : Nat) : Int))] []
 refine CM_seq (sr (wm (wm ?_)))
 refine wv (vlen underlying28) ?_
 refine wv vlss ?_
 refine nt' ?_
 by_cases hl10 : k6 < x0.length
 ·have g11 := dlT hl10
  refine CM_condT rfl g11 ?_
  refine CM_skip (QM_then (CM_seq (CM_block (CM_seq ?_))))
  refine CM_regionD (by kernel_rfl) (by kernel_rfl) ?_
  refine qm (qm ?_)
  obtain ⟨a12, rfl, hb13, he14⟩ := q4 (by omega)
  refine qv (vix 1 k6 underlying28 type3) ?_
  refine qv (fun W hm => rv_load underlying3 rfl rfl ((hm.cell0 (show (a12.add (k6 * 1)).block < w.heap.size from by rw [add_block]; exact hb13.1)).trans (rdS_int he14 k6 (by omega)))) ?_
  refine QR_callV (cl_fn cb48 rfl) (fun W hm => spec_l1In_c W (gt x0 k6) 0 23) (Wd_none rfl) (by decide) ?_
  refine qv vnot ?_
  refine qm ?_
  rcases Bool.eq_false_or_eq_true (spec_l1In_m (gt x0 k6) 0 23) with g16 | g16
  ·
   have hw := spec_l1In_fact g16
   refine qg vmv (nt g16) ?_
   refine qg (fun W hm => rv_gtr rfl rfl) (nt g16) ?_
   refine qg vmv (nt g16) ?_
   by_cases h17 : 0 < ((k6 : Nat) : Int)
   ·have g18 := decide_eq_true h17
    refine qg vmv g18 ?_
    refine qg vmv g18 ?_
    refine qg (vix 1 k6 underlying28 type3) g18 ?_
    refine qg (fun W hm => rv_load underlying3 rfl rfl ((hm.cell0 (show (a12.add (k6 * 1)).block < w.heap.size from by rw [add_block]; exact hb13.1)).trans (rdS_int he14 k6 (by omega)))) g18 ?_
    refine qg vmv g18 ?_
    refine qg vmv g18 ?_
    refine qg (fun W hm => rv_subN (p := k6) (q := 1) rfl rfl (by omega) (by omega)) g18 ?_
    refine qg (fun W hm => rv_index (sz := 1) (k := k6 - 1) underlying28 type3 rfl rfl rfl (by omega)) g18 ?_
    refine qg (fun W hm => rv_load underlying3 rfl rfl ((hm.cell0 (show (a12.add ((k6 - 1) * 1)).block < w.heap.size from by rw [add_block]; exact hb13.1)).trans (rdS_int he14 (k6 - 1) (by omega)))) g18 ?_
    refine qg (fun W hm => rv_leq rfl rfl) g18 ?_
    refine qg (vpT g18) (nt g16) ?_
    refine qv (vpF (nt g16)) ?_
    refine nq' ?_
    by_cases h19 : (gt x0 k6) ≤ (gt x0 (k6 - 1))
    ·have g20 := decide_eq_true h19
     refine CM_condT rfl g20 ?_
     refine sr (wa (nt' (CM_ret (QM_block_ret (QM_then_ret (QM_then_ret (QM_block_ret (QM_then_ret ?_))))))))
     exact rtb (h := fin_inl (rng_ret (body := F1) (k := k6) (s := ()) (show k6 < x0.length from by omega) (cond_t g16 (cond_t g18 (cond_t g20 (rfl)))) hF8) rfl)
    ·have g20 := decide_eq_false h19
     refine CM_condF rfl g20 ?_
     refine CM_skip (QM_block_normal (QM_then (CM_region (wm ?_))))
     refine wv (vadN k6 1 (by omega)) ?_
     refine wa (WM_nil ?_)
     have hn21 := rng_next (R := Bool) (body := F1) (k := k6) (s := ()) (s' := ()) (show k6 < x0.length from by omega) (cond_t g16 (cond_t g18 (cond_f g20 (rfl)))) hF8
     exact QM_round (k6 + 1, (), ()) sl2 (fun W hm => hm) ⟨(by omega), hn21⟩ (rl (by omega))
   ·have g18 := decide_eq_false h17
    refine qs g18 ?_
    refine qs g18 ?_
    refine qs g18 ?_
    refine qs g18 ?_
    refine qs g18 ?_
    refine qs g18 ?_
    refine qs g18 ?_
    refine qs g18 ?_
    refine qs g18 ?_
    refine qs g18 ?_
    refine qg (vpF g18) (nt g16) ?_
    refine qv (vpF (nt g16)) ?_
    refine nq' ?_
    refine CM_condF rfl rfl ?_
    refine CM_skip (QM_block_normal (QM_then (CM_region (wm ?_))))
    refine wv (vadN k6 1 (by omega)) ?_
    refine wa (WM_nil ?_)
    have hn22 := rng_next (R := Bool) (body := F1) (k := k6) (s := ()) (s' := ()) (show k6 < x0.length from by omega) (cond_t g16 (cond_f g18 (rfl))) hF8
    exact QM_round (k6 + 1, (), ()) sl2 (fun W hm => hm) ⟨(by omega), hn22⟩ (rl (by omega))
  ·
   refine qs (nf g16) ?_
   refine qs (nf g16) ?_
   refine qs (nf g16) ?_
   refine qu ?_
   refine qu ?_
   refine qu ?_
   refine qu ?_
   refine qu ?_
   refine qu ?_
   refine qu ?_
   refine qu ?_
   refine qu ?_
   refine qu ?_
   refine qs (nf g16) ?_
   refine qv (vpT (nf g16)) ?_
   refine nq' ?_
   refine CM_condT rfl rfl ?_
   refine sr (wa (nt' (CM_ret (QM_block_ret (QM_then_ret (QM_then_ret (QM_block_ret (QM_then_ret ?_))))))))
   exact rtb (h := fin_inl (rng_ret (body := F1) (k := k6) (s := ()) (show k6 < x0.length from by omega) (cond_f g16 (rfl)) hF8) rfl)
 ·have g11 := dlF hl10
  refine CM_condF rfl g11 ?_
  refine CM_exit (QM_then_exit (QM_then_exit ?_))
  have hE23 : R2 (x0.length - 0) 0 () = Sum.inr () := rng_end hl10 hF8
  refine QM_block_hit (QM_then (sr (wa (nt' (CM_ret ?_)))))
  exact rtb (h := fin_inr hE23 (rfl))

def spec_IsCharge_b1 (x0 : DCharge) (k37 : Nat) : Bool ⊕ (Unit) :=
 cond (spec_l1In_m (gt x0.Tenants k37) 0 3) (cond (spec_l1In_m (gt x0.Rows k37) 0 x0.Base) (Sum.inr ()) (Sum.inl false)) (Sum.inl false)
def spec_IsCharge_m (x0 : DCharge) : Bool :=
 cond (spec_IsSet_m x0.Ids) (cond (((x0.Ids.length : Nat) : Int) == 0) false (cond (decide (8 < ((x0.Ids.length : Nat) : Int))) false (cond (((x0.Tenants.length : Nat) : Int) != ((x0.Ids.length : Nat) : Int)) false (cond (((x0.Rows.length : Nat) : Int) != ((x0.Ids.length : Nat) : Int)) false (cond (spec_l1In_m x0.Segment 0 7) (cond (spec_l1In_m x0.Base 0 4) (Sum.elim id (fun (s : Unit) => true) (rng (R := Bool) (fun k (_ : Unit) => spec_IsCharge_b1 x0 k) (x0.Ids.length - 0) 0 ())) false) false))))) false
theorem cb27 : Cb Tryd.prog 27 := ⟨f27, _, func27, rfl, by decide⟩
theorem spec_IsCharge_c (w : World) (z0 : List Value) (x0 : DCharge) (r_0 : tyCharge.rd w w.heap.size z0 x0) :
  Calls Tryd.prog 27 #[.agg z0.toArray] w fun e w' => e = .returned (.bool (spec_IsCharge_m x0)) ∧ Below w.heap.size w w' := by
 obtain ⟨v1, v3, v5, rfl, r2, r4, r6⟩ := tyCharge_rd r_0
 obtain ⟨m7, A8, c9, rfl, q10, r11⟩ := rdS_op r2
 obtain ⟨m12, A13, c14, rfl, q15, r16⟩ := rdS_op r4
 obtain ⟨m17, A18, c19, rfl, q20, r21⟩ := rdS_op r6
 refine ce1 (L := [(0, .agg #[.int .i64 x0.Segment, .int .i64 x0.Base, .slice A8 x0.Ids.length c9, .slice A13 x0.Tenants.length c14, .slice A18 x0.Rows.length c19])]) (N := 69) func27 ?_
 refine sr ?_
 refine WM_box rfl (Wd_none rfl) (by decide) (fun p22 => ?_)
 refine wa (nt' (sr ?_))
 refine wv (vf underlying33 rfl type28) ?_
 refine wv (vl 0 2 underlying28) ?_
 refine wv (vlen underlying28) ?_
 refine wa (nt' (CM_seq (sr ?_)))
 refine wv (vf underlying33 rfl type28) ?_
 refine wv (vl 0 2 underlying28) ?_
 refine wcv (cl_fn cb44 rfl) (fun W hm => spec_IsSet_c W _ x0.Ids (hm.rdS0 r11)) ?_
 refine wv vnot ?_
 refine wm ?_
 rcases Bool.eq_false_or_eq_true (spec_IsSet_m x0.Ids) with g24 | g24
 ·
  refine wg vmv (nt g24) ?_
  refine wg (fun W hm => rv_eql rfl rfl) (nt g24) ?_
  refine wv (vpF (nt g24)) ?_
  refine wm ?_
  by_cases h25 : ((x0.Ids.length : Nat) : Int) = 0
  ·have g26 := beq_iff_eq.2 h25
   refine ws g26 ?_
   refine ws g26 ?_
   refine wv (vpT g26) ?_
   refine wm ?_
   refine wk ?_
   refine wk ?_
   refine wk ?_
   refine wk ?_
   refine wk ?_
   refine wv (vpT rfl) ?_
   refine wm ?_
   refine wk ?_
   refine wk ?_
   refine wk ?_
   refine wk ?_
   refine wk ?_
   refine wv (vpT rfl) ?_
   refine wm ?_
   refine wk ?_
   refine wk ?_
   refine wk ?_
   refine wk ?_
   refine wv (vpT rfl) ?_
   refine wm ?_
   refine wk ?_
   refine wk ?_
   refine wk ?_
   refine wk ?_
   refine wv (vpT rfl) ?_
   refine nt' ?_
   refine CM_condT rfl rfl ?_
   refine sr (wa (nt' (CM_ret (QM_then_ret ?_))))
   exact rtb (h := cond_t g24 (cond_t g26 (rfl)))
  ·have g26 := beq_eq_false_iff_ne.2 h25
   refine wg vmv g26 ?_
   refine wg (fun W hm => rv_gtr rfl rfl) g26 ?_
   refine wv (vpF g26) ?_
   refine wm ?_
   by_cases h27 : 8 < ((x0.Ids.length : Nat) : Int)
   ·have g28 := decide_eq_true h27
    refine ws g28 ?_
    refine ws g28 ?_
    refine ws g28 ?_
    refine ws g28 ?_
    refine ws g28 ?_
    refine wv (vpT g28) ?_
    refine wm ?_
    refine wk ?_
    refine wk ?_
    refine wk ?_
    refine wk ?_
    refine wk ?_
    refine wv (vpT rfl) ?_
    refine wm ?_
    refine wk ?_
    refine wk ?_
    refine wk ?_
    refine wk ?_
    refine wv (vpT rfl) ?_
    refine wm ?_
    refine wk ?_
    refine wk ?_
    refine wk ?_
    refine wk ?_
    refine wv (vpT rfl) ?_
    refine nt' ?_
    refine CM_condT rfl rfl ?_
    refine sr (wa (nt' (CM_ret (QM_then_ret ?_))))
    exact rtb (h := cond_t g24 (cond_f g26 (cond_t g28 (rfl))))
   ·have g28 := decide_eq_false h27
    refine wg (vf underlying33 rfl type28) g28 ?_
    refine wg (vl 0 3 underlying28) g28 ?_
    refine wg (vlen underlying28) g28 ?_
    refine wg vmv g28 ?_
    refine wg vneq g28 ?_
    refine wv (vpF g28) ?_
    refine wm ?_
    by_cases h29 : ((x0.Tenants.length : Nat) : Int) = ((x0.Ids.length : Nat) : Int)
    ·have g30 : (((x0.Tenants.length : Nat) : Int) != ((x0.Ids.length : Nat) : Int)) = false := by rw [h29]; exact bne_self_eq_false _
     refine wg (vf underlying33 rfl type28) g30 ?_
     refine wg (vl 0 4 underlying28) g30 ?_
     refine wg (vlen underlying28) g30 ?_
     refine wg vmv g30 ?_
     refine wg vneq g30 ?_
     refine wv (vpF g30) ?_
     refine wm ?_
     by_cases h31 : ((x0.Rows.length : Nat) : Int) = ((x0.Ids.length : Nat) : Int)
     ·have g32 : (((x0.Rows.length : Nat) : Int) != ((x0.Ids.length : Nat) : Int)) = false := by rw [h31]; exact bne_self_eq_false _
      refine wg (vf underlying33 rfl type3) g32 ?_
      refine wg (vl 0 0 underlying3) g32 ?_
      refine WM_callV (cl_fn cb48 rfl) (fun W hm => spec_l1In_c W x0.Segment 0 7) (Wd_some rfl rfl rfl (bw g32 rfl)) (by decide) ?_
      refine wg vnot g32 ?_
      refine wv (vpF g32) ?_
      refine wm ?_
      rcases Bool.eq_false_or_eq_true (spec_l1In_m x0.Segment 0 7) with g34 | g34
      ·
       have hw := spec_l1In_fact g34
       refine wg (vf underlying33 rfl type3) (nt g34) ?_
       refine wg (vl 0 1 underlying3) (nt g34) ?_
       refine WM_callV (cl_fn cb48 rfl) (fun W hm => spec_l1In_c W x0.Base 0 4) (Wd_some rfl rfl rfl (bw (nt g34) rfl)) (by decide) ?_
       refine wg vnot (nt g34) ?_
       refine wv (vpF (nt g34)) ?_
       refine nt' ?_
       rcases Bool.eq_false_or_eq_true (spec_l1In_m x0.Base 0 4) with g36 | g36
       ·
        have hw := spec_l1In_fact g36
        refine CM_condF rfl (nt g36) ?_
        refine CM_skip (QM_then (CM_seq (sr (wa (nt' (CM_block ?_))))))
        let F1 := fun k (_ : Unit) => spec_IsCharge_b1 x0 k
        let R2 := rng (R := Bool) F1
        let K3 : List Value := [.int .i64 x0.Segment, .int .i64 x0.Base, .slice A8 x0.Ids.length c9, .slice A13 x0.Tenants.length c14, .slice A18 x0.Rows.length c19]
        refine CM_loop (σ := Nat × (Unit) × (Unit)) (fun s => [(1, .pointer (some (⟨p22, 0, none⟩ : Addr))), (3, .int .i64 ((x0.Ids.length : Nat) : Int)), (4, .int .i64 ((s.1 : Nat) : Int))]) (fun s => [iBox p22 33 K3]) (fun s => s.1 ≤ x0.Ids.length ∧ R2 (x0.Ids.length - s.1) s.1 s.2.1 = R2 (x0.Ids.length - 0) 0 ()) (fun s => x0.Ids.length - s.1) (0, (), ()) sl3 (fun W hm => hm) ⟨(by omega), rfl⟩ ?_
        rintro ⟨k37, ⟨⟩, ⟨⟩⟩ H40
        obtain ⟨hk38, hF39⟩ : k37 ≤ x0.Ids.length ∧ R2 (x0.Ids.length - k37) k37 () = R2 (x0.Ids.length - 0) 0 () := H40
        show CM Tryd.prog 69 _ _ _ _ [(1, .pointer (some (⟨p22, 0, none⟩ : Addr))), (3, .int .i64 ((x0.Ids.length : Nat) : Int)), (4, .int .i64 ((k37 : Nat) : Int))] [iBox p22 33 K3]
        refine CM_seq (sr (wm (wm ?_)))
        refine wv vlss ?_
        refine nt' ?_
        by_cases hl41 : k37 < x0.Ids.length
        ·have g42 := dlT hl41
         refine CM_condT rfl g42 ?_
         refine CM_skip (QM_then (CM_seq (CM_block (CM_seq ?_))))
         refine CM_regionD (by kernel_rfl) (by kernel_rfl) ?_
         refine qv (vf underlying33 rfl type28) ?_
         refine qv (vl 0 3 underlying28) ?_
         refine qm ?_
         obtain ⟨a43, rfl, hb44, he45⟩ := q15 (by omega)
         refine qv (vix 1 k37 underlying28 type3) ?_
         refine qv (fun W hm => rv_load underlying3 rfl rfl ((hm.cell0 (show (a43.add (k37 * 1)).block < w.heap.size from by rw [add_block]; exact hb44.1)).trans (rdS_int he45 k37 (by omega)))) ?_
         refine QR_callV (cl_fn cb48 rfl) (fun W hm => spec_l1In_c W (gt x0.Tenants k37) 0 3) (Wd_none rfl) (by decide) ?_
         refine qv vnot ?_
         refine qm ?_
         rcases Bool.eq_false_or_eq_true (spec_l1In_m (gt x0.Tenants k37) 0 3) with g47 | g47
         ·
          have hw := spec_l1In_fact g47
          refine qg (vf underlying33 rfl type28) (nt g47) ?_
          refine qg (vl 0 4 underlying28) (nt g47) ?_
          refine qg vmv (nt g47) ?_
          obtain ⟨a48, rfl, hb49, he50⟩ := q20 (by omega)
          refine qg (vix 1 k37 underlying28 type3) (nt g47) ?_
          refine qg (fun W hm => rv_load underlying3 rfl rfl ((hm.cell0 (show (a48.add (k37 * 1)).block < w.heap.size from by rw [add_block]; exact hb49.1)).trans (rdS_int he50 k37 (by omega)))) (nt g47) ?_
          refine qg (vf underlying33 rfl type3) (nt g47) ?_
          refine qg (vl 0 1 underlying3) (nt g47) ?_
          refine QR_callV (cl_fn cb48 rfl) (fun W hm => spec_l1In_c W (gt x0.Rows k37) 0 x0.Base) (Wd_some rfl rfl rfl (bw (nt g47) rfl)) (by decide) ?_
          refine qg vnot (nt g47) ?_
          refine qv (vpF (nt g47)) ?_
          refine nq' ?_
          rcases Bool.eq_false_or_eq_true (spec_l1In_m (gt x0.Rows k37) 0 x0.Base) with g52 | g52
          ·
           have hw := spec_l1In_fact g52
           refine CM_condF rfl (nt g52) ?_
           refine CM_skip (QM_block_normal (QM_then (CM_region (wm ?_))))
           refine wv (vadN k37 1 (by omega)) ?_
           refine wa (WM_nil ?_)
           have hn53 := rng_next (R := Bool) (body := F1) (k := k37) (s := ()) (s' := ()) (show k37 < x0.Ids.length from by omega) (cond_t g47 (cond_t g52 (rfl))) hF39
           exact QM_round (k37 + 1, (), ()) sl3 (fun W hm => hm) ⟨(by omega), hn53⟩ (rl (by omega))
          ·
           refine CM_condT rfl (nf g52) ?_
           refine sr (wa (nt' (CM_ret (QM_block_ret (QM_then_ret (QM_then_ret (QM_block_ret (QM_then_ret ?_))))))))
           exact rtb (h := cond_t g24 (cond_f g26 (cond_f g28 (cond_f g30 (cond_f g32 (cond_t g34 (cond_t g36 (fin_inl (rng_ret (body := F1) (k := k37) (s := ()) (show k37 < x0.Ids.length from by omega) (cond_t g47 (cond_f g52 (rfl))) hF39) rfl))))))))
         ·
          refine qs (nf g47) ?_
          refine qs (nf g47) ?_
          refine qs (nf g47) ?_
          refine qs (nf g47) ?_
          refine qs (nf g47) ?_
          refine qs (nf g47) ?_
          refine qs (nf g47) ?_
          refine qs (nf g47) ?_
          refine qs (nf g47) ?_
          refine qv (vpT (nf g47)) ?_
          refine nq' ?_
          refine CM_condT rfl rfl ?_
          refine sr (wa (nt' (CM_ret (QM_block_ret (QM_then_ret (QM_then_ret (QM_block_ret (QM_then_ret ?_))))))))
          exact rtb (h := cond_t g24 (cond_f g26 (cond_f g28 (cond_f g30 (cond_f g32 (cond_t g34 (cond_t g36 (fin_inl (rng_ret (body := F1) (k := k37) (s := ()) (show k37 < x0.Ids.length from by omega) (cond_f g47 (rfl)) hF39) rfl))))))))
        ·have g42 := dlF hl41
         refine CM_condF rfl g42 ?_
         refine CM_exit (QM_then_exit (QM_then_exit ?_))
         have hE54 : R2 (x0.Ids.length - 0) 0 () = Sum.inr () := rng_end hl41 hF39
         refine QM_block_hit (QM_then (sr (wa (nt' (CM_ret ?_)))))
         exact rtb (h := cond_t g24 (cond_f g26 (cond_f g28 (cond_f g30 (cond_f g32 (cond_t g34 (cond_t g36 (fin_inr hE54 (rfl)))))))))
       ·
        refine CM_condT rfl (nf g36) ?_
        refine sr (wa (nt' (CM_ret (QM_then_ret ?_))))
        exact rtb (h := cond_t g24 (cond_f g26 (cond_f g28 (cond_f g30 (cond_f g32 (cond_t g34 (cond_f g36 (rfl))))))))
      ·
       refine ws (nf g34) ?_
       refine ws (nf g34) ?_
       refine ws (nf g34) ?_
       refine ws (nf g34) ?_
       refine wv (vpT (nf g34)) ?_
       refine nt' ?_
       refine CM_condT rfl rfl ?_
       refine sr (wa (nt' (CM_ret (QM_then_ret ?_))))
       exact rtb (h := cond_t g24 (cond_f g26 (cond_f g28 (cond_f g30 (cond_f g32 (cond_f g34 (rfl)))))))
     ·have g32 : (((x0.Rows.length : Nat) : Int) != ((x0.Ids.length : Nat) : Int)) = true := bne_iff_ne.2 h31
      refine ws g32 ?_
      refine ws g32 ?_
      refine ws g32 ?_
      refine ws g32 ?_
      refine wv (vpT g32) ?_
      refine wm ?_
      refine wk ?_
      refine wk ?_
      refine wk ?_
      refine wk ?_
      refine wv (vpT rfl) ?_
      refine nt' ?_
      refine CM_condT rfl rfl ?_
      refine sr (wa (nt' (CM_ret (QM_then_ret ?_))))
      exact rtb (h := cond_t g24 (cond_f g26 (cond_f g28 (cond_f g30 (cond_t g32 (rfl))))))
    ·have g30 : (((x0.Tenants.length : Nat) : Int) != ((x0.Ids.length : Nat) : Int)) = true := bne_iff_ne.2 h29
     refine ws g30 ?_
     refine ws g30 ?_
     refine ws g30 ?_
     refine ws g30 ?_
     refine ws g30 ?_
     refine wv (vpT g30) ?_
     refine wm ?_
     refine wk ?_
     refine wk ?_
     refine wk ?_
     refine wk ?_
     refine wv (vpT rfl) ?_
     refine wm ?_
     refine wk ?_
     refine wk ?_
     refine wk ?_
     refine wk ?_
     refine wv (vpT rfl) ?_
     refine nt' ?_
     refine CM_condT rfl rfl ?_
     refine sr (wa (nt' (CM_ret (QM_then_ret ?_))))
     exact rtb (h := cond_t g24 (cond_f g26 (cond_f g28 (cond_t g30 (rfl)))))
 ·
  refine ws (nf g24) ?_
  refine ws (nf g24) ?_
  refine wv (vpT (nf g24)) ?_
  refine wm ?_
  refine wk ?_
  refine wk ?_
  refine wv (vpT rfl) ?_
  refine wm ?_
  refine wk ?_
  refine wk ?_
  refine wk ?_
  refine wk ?_
  refine wk ?_
  refine wv (vpT rfl) ?_
  refine wm ?_
  refine wk ?_
  refine wk ?_
  refine wk ?_
  refine wk ?_
  refine wk ?_
  refine wv (vpT rfl) ?_
  refine wm ?_
  refine wk ?_
  refine wk ?_
  refine wk ?_
  refine wk ?_
  refine wv (vpT rfl) ?_
  refine wm ?_
  refine wk ?_
  refine wk ?_
  refine wk ?_
  refine wk ?_
  refine wv (vpT rfl) ?_
  refine nt' ?_
  refine CM_condT rfl rfl ?_
  refine sr (wa (nt' (CM_ret (QM_then_ret ?_))))
  exact rtb (h := cond_f g24 (rfl))

theorem spec_IsCharge_fact {x : DCharge} (h : spec_IsCharge_m x = true) : 1 ≤ x.Ids.length ∧ x.Tenants.length = x.Ids.length ∧ x.Rows.length = x.Ids.length := by
  unfold spec_IsCharge_m at h
  cases h1 : spec_IsSet_m x.Ids <;> rw [h1] at h
  · cases h
  by_cases h2 : ((x.Ids.length : Nat) : Int) = 0
  · rw [beq_iff_eq.2 h2] at h
    cases h
  · by_cases h3 : ((x.Tenants.length : Nat) : Int) = ((x.Ids.length : Nat) : Int)
    · by_cases h4 : ((x.Rows.length : Nat) : Int) = ((x.Ids.length : Nat) : Int)
      · omega
      · rw [bne_iff_ne.2 h4] at h
        revert h
        cases (((x.Ids.length : Nat) : Int) == 0) <;> cases decide (8 < ((x.Ids.length : Nat) : Int)) <;> cases (((x.Tenants.length : Nat) : Int) != ((x.Ids.length : Nat) : Int)) <;> intro h <;> cases h
    · rw [bne_iff_ne.2 h3] at h
      revert h
      cases (((x.Ids.length : Nat) : Int) == 0) <;> cases decide (8 < ((x.Ids.length : Nat) : Int)) <;> intro h <;> cases h

def spec_SharesOf_b1 (x0 : DCharge) (k28 : Nat) (d29 : (List Int)) : (List Int) ⊕ (((List Int)) ⊕ ((List Int))) :=
 cond (spec_IsCharge_m x0) (cond (decide (((k28 : Nat) : Int) < (Int.tmod x0.Base ((x0.Ids.length : Nat) : Int)))) (Sum.inr (Sum.inr (d29 ++ [(IntKind.i64.wrap ((IntKind.i64.wrap ((IntKind.i64.wrap (Int.tdiv x0.Base ((x0.Ids.length : Nat) : Int))) + (gt x0.Rows k28))) + 1))]))) (Sum.inr (Sum.inr (d29 ++ [(IntKind.i64.wrap ((IntKind.i64.wrap (Int.tdiv x0.Base ((x0.Ids.length : Nat) : Int))) + (gt x0.Rows k28)))])))) (Sum.inr (Sum.inl d29))
def spec_SharesOf_m (x0 : DCharge) : (List Int) :=
 Sum.elim id (fun (s : (List Int)) => s) (rngb (R := (List Int)) (fun k (s : (List Int)) => spec_SharesOf_b1 x0 k s) (x0.Ids.length - 0) 0 [])
theorem cb25 : Cb Tryd.prog 25 := ⟨f25, _, func25, rfl, by decide⟩
theorem spec_SharesOf_c (w : World) (z0 : List Value) (x0 : DCharge) (r_0 : tyCharge.rd w w.heap.size z0 x0) (s_0 : smCharge 68719476736 x0) :
  Calls Tryd.prog 25 #[.agg z0.toArray] w fun e w' => ∃ v : Value, e = .returned (v) ∧ Mem w.heap.size w [iOwn (tSl tInt 3) [v] (spec_SharesOf_m x0)] w' := by
 obtain ⟨v1, v3, v5, rfl, r2, r4, r6⟩ := tyCharge_rd r_0
 obtain ⟨m7, A8, c9, rfl, q10, r11⟩ := rdS_op r2
 obtain ⟨m12, A13, c14, rfl, q15, r16⟩ := rdS_op r4
 obtain ⟨m17, A18, c19, rfl, q20, r21⟩ := rdS_op r6
 have l22 : x0.Ids.length ≤ 68719476736 := s_0.1
 have l23 : x0.Tenants.length ≤ 68719476736 := s_0.2.1
 have l24 : x0.Rows.length ≤ 68719476736 := s_0.2.2
 refine ce1 (L := [(0, .agg #[.int .i64 x0.Segment, .int .i64 x0.Base, .slice A8 x0.Ids.length c9, .slice A13 x0.Tenants.length c14, .slice A18 x0.Rows.length c19])]) (N := 43) func25 ?_
 refine sr ?_
 refine WM_box rfl (Wd_none rfl) (by decide) (fun p25 => ?_)
 refine wa (nt' (sr ?_))
 refine WM_build0 (E := tInt) underlying28 type3 (Wd_none rfl) (by decide) (fun p26 => ?_)
 refine wa (nt' (sr ?_))
 refine wv (vf underlying33 rfl type28) ?_
 refine wv (vl 1 2 underlying28) ?_
 refine wv (vlen underlying28) ?_
 refine wa (nt' (CM_seq (sr (wa (nt' ?_)))))
 let F1 := fun k (s : (List Int)) => spec_SharesOf_b1 x0 k s
 let R2 := rngb (R := (List Int)) F1
 let K3 : List Value := [.int .i64 x0.Segment, .int .i64 x0.Base, .slice A8 x0.Ids.length c9, .slice A13 x0.Tenants.length c14, .slice A18 x0.Rows.length c19]
 refine CM_cut (σ := ((List Int)) × (Option Addr × Nat)) (fun s => [(3, .slice s.2.1 s.1.length s.2.2)]) (fun s => [iOwn (tSl tInt 3) [.slice s.2.1 s.1.length s.2.2] s.1, iBox p25 33 K3]) (fun s => R2 (x0.Ids.length - 0) 0 [] = Sum.inr s.1) ?_ ?_
 ·
  refine CM_block ?_
  refine CM_loop (σ := Nat × ((List Int)) × (Option Addr × Nat)) (fun s => [(1, .pointer (some (⟨p25, 0, none⟩ : Addr))), (3, .slice s.2.2.1 s.2.1.length s.2.2.2), (4, .int .i64 ((x0.Ids.length : Nat) : Int)), (5, .int .i64 ((s.1 : Nat) : Int))]) (fun s => [iOwn (tSl tInt 3) [.slice s.2.2.1 s.2.1.length s.2.2.2] s.2.1, iBox p25 33 K3]) (fun s => s.1 ≤ x0.Ids.length ∧ R2 (x0.Ids.length - s.1) s.1 s.2.1 = R2 (x0.Ids.length - 0) 0 [] ∧ s.2.1.length ≤ 0 + s.1) (fun s => x0.Ids.length - s.1) (0, [], ((some ⟨p26, 0, none⟩), 0)) sl4 (fun W hm => hm) ⟨(by omega), rfl, Nat.le_refl _⟩ ?_
  rintro ⟨k28, d29, ⟨A30, c31⟩⟩ H34
  obtain ⟨hk32, hF33, hi35⟩ : k28 ≤ x0.Ids.length ∧ R2 (x0.Ids.length - k28) k28 d29 = R2 (x0.Ids.length - 0) 0 [] ∧ d29.length ≤ 0 + k28 := H34
  show CM Tryd.prog 43 _ _ _ _ [(1, .pointer (some (⟨p25, 0, none⟩ : Addr))), (3, .slice A30 d29.length c31), (4, .int .i64 ((x0.Ids.length : Nat) : Int)), (5, .int .i64 ((k28 : Nat) : Int))] [iOwn (tSl tInt 3) [.slice A30 d29.length c31] d29, iBox p25 33 K3]
  refine CM_seq (sr (wm (wm ?_)))
  refine wv vlss ?_
  refine wm ?_
  by_cases hl36 : k28 < x0.Ids.length
  ·have g37 := dlT hl36
   refine wg (fun W hm => rv_loadN (cs := K3) underlying33 type33 rfl rfl (hm.boxCells (n := 1) rfl)) g37 ?_
   refine WM_callV (cl_fn cb27 rfl) (fun W hm => spec_IsCharge_c W _ x0 (tyCharge_mk (x := x0) (hm.rdS0 r11) (hm.rdS0 r16) (hm.rdS0 r21))) (Wd_some rfl rfl rfl (bw g37 rfl)) (by decide) ?_
   refine wv (vpT g37) ?_
   refine nt' ?_
   rcases Bool.eq_false_or_eq_true (spec_IsCharge_m x0) with g39 | g39
   ·
    obtain ⟨hq1, hq2, hq3⟩ := spec_IsCharge_fact g39
    refine CM_condT rfl g39 ?_
    refine CM_skip (QM_then (CM_seq (CM_block (CM_seq ?_))))
    refine CM_regionD (by kernel_rfl) (by kernel_rfl) ?_
    refine qv (vf underlying33 rfl type3) ?_
    refine qv (vl 1 1 underlying3) ?_
    refine qm ?_
    refine qv (fun W hm => rv_quo rfl rfl (by omega)) ?_
    refine qv (vf underlying33 rfl type28) ?_
    refine qv (vl 1 4 underlying28) ?_
    refine qm ?_
    obtain ⟨a40, rfl, hb41, he42⟩ := q20 (by omega)
    refine qv (vix 1 k28 underlying28 type3) ?_
    refine qv (fun W hm => rv_load underlying3 rfl rfl ((hm.cell0 (show (a40.add (k28 * 1)).block < w.heap.size from by rw [add_block]; exact hb41.1)).trans (rdS_int he42 k28 (by omega)))) ?_
    refine qv vadd ?_
    refine qv (fun W hm => rv_assign rfl) ?_
    refine nq' (CM_seq (sr (wm ?_)))
    refine wv (vf underlying33 rfl type3) ?_
    refine wv (vl 1 1 underlying3) ?_
    refine wm ?_
    refine wv (fun W hm => rv_rem rfl rfl (by omega)) ?_
    refine wv vlss ?_
    refine nt' ?_
    by_cases h43 : ((k28 : Nat) : Int) < (Int.tmod x0.Base ((x0.Ids.length : Nat) : Int))
    ·have g44 := decide_eq_true h43
     refine CM_condT rfl g44 ?_
     refine CM_region (wm ?_)
     refine wv vadd ?_
     refine wa (nt' (CM_region (wm (wm ?_))))
     let K4 : List Value := [.int .i64 (IntKind.i64.wrap ((IntKind.i64.wrap ((IntKind.i64.wrap (Int.tdiv x0.Base ((x0.Ids.length : Nat) : Int))) + (gt x0.Rows k28))) + 1))]
     refine WM_build (cs := K4) underlying28 type3 rfl (by decide) (by decide) rfl (by kernel_rfl) (Wd_none rfl) (by decide) (fun p45 => ?_)
     refine ap1 tInt 3 (.slice A30 d29.length c31) d29 (IntKind.i64.wrap ((IntKind.i64.wrap ((IntKind.i64.wrap (Int.tdiv x0.Base ((x0.Ids.length : Nat) : Int))) + (gt x0.Rows k28))) + 1)) [] [iBox p25 33 [.int .i64 x0.Segment, .int .i64 x0.Base, .slice A8 x0.Ids.length c9, .slice A13 x0.Tenants.length c14, .slice (some a40) x0.Rows.length c19]] K4 (fun W hm => hm) (fun _ _ hs => by cases (Sep.nil hs); exact (els_cons tInt_own els_nil)) underlying28 type3 (show (d29.length + 1) * 8 ≤ 140737488355328 from by omega) (fun v46 => ?_)
     refine WM_form (n := 0) rfl ?_
     rintro A47 c48 rfl m49
     refine wa (WM_nil (QM_block_normal (QM_then (CM_region (wm ?_)))))
     refine wv (vadN k28 1 (by omega)) ?_
     refine wa (WM_nil ?_)
     have hn51 := rngb_next (R := (List Int)) (body := F1) (k := k28) (s := d29) (s' := (d29 ++ [(IntKind.i64.wrap ((IntKind.i64.wrap ((IntKind.i64.wrap (Int.tdiv x0.Base ((x0.Ids.length : Nat) : Int))) + (gt x0.Rows k28))) + 1))])) (show k28 < x0.Ids.length from by omega) (cond_t g39 (cond_t g44 (rfl))) hF33
     exact QM_round (k28 + 1, (d29 ++ [(IntKind.i64.wrap ((IntKind.i64.wrap ((IntKind.i64.wrap (Int.tdiv x0.Base ((x0.Ids.length : Nat) : Int))) + (gt x0.Rows k28))) + 1))]), (A47, c48)) sl4 (fun W hm => hm) ⟨(by omega), hn51, (show (d29 ++ [(IntKind.i64.wrap ((IntKind.i64.wrap ((IntKind.i64.wrap (Int.tdiv x0.Base ((x0.Ids.length : Nat) : Int))) + (gt x0.Rows k28))) + 1))]).length ≤ 0 + (k28 + 1) from by first | omega | (simp only [List.length_append, List.length_cons, List.length_nil] at *; omega))⟩ (rl (by omega))
    ·have g44 := decide_eq_false h43
     refine CM_condF rfl g44 ?_
     refine CM_skip (QM_then (CM_region (wm (wm ?_))))
     let K5 : List Value := [.int .i64 (IntKind.i64.wrap ((IntKind.i64.wrap (Int.tdiv x0.Base ((x0.Ids.length : Nat) : Int))) + (gt x0.Rows k28)))]
     refine WM_build (cs := K5) underlying28 type3 rfl (by decide) (by decide) rfl (by kernel_rfl) (Wd_none rfl) (by decide) (fun p52 => ?_)
     refine ap1 tInt 3 (.slice A30 d29.length c31) d29 (IntKind.i64.wrap ((IntKind.i64.wrap (Int.tdiv x0.Base ((x0.Ids.length : Nat) : Int))) + (gt x0.Rows k28))) [] [iBox p25 33 [.int .i64 x0.Segment, .int .i64 x0.Base, .slice A8 x0.Ids.length c9, .slice A13 x0.Tenants.length c14, .slice (some a40) x0.Rows.length c19]] K5 (fun W hm => hm) (fun _ _ hs => by cases (Sep.nil hs); exact (els_cons tInt_own els_nil)) underlying28 type3 (show (d29.length + 1) * 8 ≤ 140737488355328 from by omega) (fun v53 => ?_)
     refine WM_form (n := 0) rfl ?_
     rintro A54 c55 rfl m56
     refine wa (WM_nil (QM_block_normal (QM_then (CM_region (wm ?_)))))
     refine wv (vadN k28 1 (by omega)) ?_
     refine wa (WM_nil ?_)
     have hn58 := rngb_next (R := (List Int)) (body := F1) (k := k28) (s := d29) (s' := (d29 ++ [(IntKind.i64.wrap ((IntKind.i64.wrap (Int.tdiv x0.Base ((x0.Ids.length : Nat) : Int))) + (gt x0.Rows k28)))])) (show k28 < x0.Ids.length from by omega) (cond_t g39 (cond_f g44 (rfl))) hF33
     exact QM_round (k28 + 1, (d29 ++ [(IntKind.i64.wrap ((IntKind.i64.wrap (Int.tdiv x0.Base ((x0.Ids.length : Nat) : Int))) + (gt x0.Rows k28)))]), (A54, c55)) sl4 (fun W hm => hm) ⟨(by omega), hn58, (show (d29 ++ [(IntKind.i64.wrap ((IntKind.i64.wrap (Int.tdiv x0.Base ((x0.Ids.length : Nat) : Int))) + (gt x0.Rows k28)))]).length ≤ 0 + (k28 + 1) from by first | omega | (simp only [List.length_append, List.length_cons, List.length_nil] at *; omega))⟩ (rl (by omega))
   ·
    refine CM_condF rfl g39 ?_
    refine CM_exit (QM_then_exit (QM_then_exit (QM_block_hit ?_)))
    have hE59 := rngb_brk (R := (List Int)) (body := F1) (k := k28) (s := d29) (s' := d29) (show k28 < x0.Ids.length from by omega) (cond_f g39 (rfl)) hF33
    exact QM_cut_normal (d29, (A30, c31)) (subL_cons rfl subL_nil) (fun W hm => hm) hE59
  ·have g37 := dlF hl36
   refine ws g37 ?_
   refine ws g37 ?_
   refine wv (vpF g37) ?_
   refine nt' ?_
   refine CM_condF rfl rfl ?_
   refine CM_exit (QM_then_exit (QM_then_exit (QM_block_hit ?_)))
   have hE60 : R2 (x0.Ids.length - 0) 0 [] = Sum.inr d29 := rngb_end hl36 hF33
   exact QM_cut_normal (d29, (A30, c31)) (subL_cons rfl subL_nil) (fun W hm => hm) hE60
 ·
  rintro ⟨d29, ⟨A30, c31⟩⟩ H62
  have hE61 : R2 (x0.Ids.length - 0) 0 [] = Sum.inr d29 := H62
  show QM 43 _ _ _ .normal [(3, .slice A30 d29.length c31)] [iOwn (tSl tInt 3) [.slice A30 d29.length c31] d29, iBox p25 33 K3]
  refine QM_then (sr (wm (wa (nt' (CM_ret ?_)))))
  have he63 := (show spec_SharesOf_m x0 = d29 from fin_inr hE61 (rfl))
  refine QM_r1 rfl (RR_tmp rfl) (fun W hm => ⟨.slice A30 d29.length c31, ?_, ?_⟩)
  ·first | rw [he63] | rfl
  ·rw [he63]; exact (hm.pick [0] (by decide))

theorem rngb_le {R : Type} {n : Nat} {b : Nat → List Int → R ⊕ (List Int ⊕ List Int)} (h : ∀ j s, b j s = .inr (.inl s) ∨ (∃ s', b j s = .inr (.inr s') ∧ s'.length ≤ s.length + 1)) : ∀ m k s, ∃ s', rngb b m k s = .inr s' ∧ s'.length ≤ s.length + m
  | 0, _, s => ⟨s, rfl, by omega⟩
  | m + 1, k, s => by
    rcases h k s with h1 | ⟨s', h1, h2⟩
    · exact ⟨s, by rw [rngb, h1]; rfl, by omega⟩
    · obtain ⟨s'', h3, h4⟩ := rngb_le (n := n) h m (k + 1) s'
      exact ⟨s'', by rw [rngb, h1]; exact h3, by omega⟩
theorem spec_SharesOf_len (x : DCharge) : (spec_SharesOf_m x).length ≤ x.Tenants.length := by
  unfold spec_SharesOf_m
  cases h : spec_IsCharge_m x with
  | false =>
    have hb : ∀ j s, spec_SharesOf_b1 x j s = .inr (.inl s) := fun j s => by unfold spec_SharesOf_b1; rw [h]; rfl
    cases hn : x.Ids.length - 0 with
    | zero => exact Nat.zero_le _
    | succ m => rw [rngb, hb]; exact Nat.zero_le _
  | true =>
    obtain ⟨_, h2, h3⟩ := spec_IsCharge_fact h
    obtain ⟨s', h4, h5⟩ := rngb_le (n := 0) (b := fun k s => spec_SharesOf_b1 x k s) (fun j s => by
      right
      unfold spec_SharesOf_b1
      rw [h]
      cases decide (((j : Nat) : Int) < (Int.tmod x.Base ((x.Ids.length : Nat) : Int))) <;> exact ⟨_, rfl, by simp⟩) (x.Ids.length - 0) 0 []
    rw [h4]
    show s'.length ≤ _
    simp at h5
    omega

def laws_sameInts_b1 (x0 : (List Int)) (x1 : (List Int)) (k13 : Nat) : Bool ⊕ (Unit) :=
 cond ((gt x0 k13) != (gt x1 k13)) (Sum.inl false) (Sum.inr ())
def laws_sameInts_m (x0 : (List Int)) (x1 : (List Int)) : Bool :=
 cond (((x0.length : Nat) : Int) != ((x1.length : Nat) : Int)) false (Sum.elim id (fun (s : Unit) => true) (rng (R := Bool) (fun k (_ : Unit) => laws_sameInts_b1 x0 x1 k) (x0.length - 0) 0 ()))
theorem cb24 : Cb Tryd.prog 24 := ⟨f24, _, func24, rfl, by decide⟩
theorem laws_sameInts_c (w : World) (z0 : Value) (x0 : (List Int)) (z1 : Value) (x1 : (List Int)) (r_0 : rdS tInt w w.heap.size z0 x0) (r_1 : rdS tInt w w.heap.size z1 x1) :
  Calls Tryd.prog 24 #[z0, z1] w fun e w' => e = .returned (.bool (laws_sameInts_m x0 x1)) ∧ Below w.heap.size w w' := by
 obtain ⟨m1, A2, c3, rfl, q4, r5⟩ := rdS_op r_0
 obtain ⟨m6, A7, c8, rfl, q9, r10⟩ := rdS_op r_1
 refine ce2 (L := [(0, .slice A2 x0.length c3), (1, .slice A7 x1.length c8)]) (N := 26) func24 ?_
 refine sr (wa (nt' (CM_seq (sr (wm ?_)))))
 refine wv (vlen underlying28) ?_
 refine wm ?_
 refine wv (vlen underlying28) ?_
 refine wv vneq ?_
 refine nt' ?_
 by_cases h11 : ((x0.length : Nat) : Int) = ((x1.length : Nat) : Int)
 ·have g12 : (((x0.length : Nat) : Int) != ((x1.length : Nat) : Int)) = false := by rw [h11]; exact bne_self_eq_false _
  refine CM_condF rfl g12 ?_
  refine CM_skip (QM_then (CM_seq (sr (wa (nt' (CM_block ?_))))))
  let F1 := fun k (_ : Unit) => laws_sameInts_b1 x0 x1 k
  let R2 := rng (R := Bool) F1
  refine CM_loop (σ := Nat × (Unit) × (Unit)) (fun s => [(0, .slice A2 x0.length c3), (1, .slice A7 x1.length c8), (5, .int .i64 ((s.1 : Nat) : Int))]) (fun s => []) (fun s => s.1 ≤ x0.length ∧ R2 (x0.length - s.1) s.1 s.2.1 = R2 (x0.length - 0) 0 ()) (fun s => x0.length - s.1) (0, (), ()) sl3 (fun W hm => hm) ⟨(by omega), rfl⟩ ?_
  rintro ⟨k13, ⟨⟩, ⟨⟩⟩ H16
  obtain ⟨hk14, hF15⟩ : k13 ≤ x0.length ∧ R2 (x0.length - k13) k13 () = R2 (x0.length - 0) 0 () := H16
  show CM Tryd.prog 26 _ _ _ _ [(0, .slice A2 x0.length c3), (1, .slice A7 x1.length c8), (5, .int .i64 ((k13 : Nat) : Int))] []
  refine CM_seq (sr (wm (wm ?_)))
  refine wv (vlen underlying28) ?_
  refine wv vlss ?_
  refine nt' ?_
  by_cases hl17 : k13 < x0.length
  ·have g18 := dlT hl17
   refine CM_condT rfl g18 ?_
   refine CM_skip (QM_then (CM_seq (CM_block (CM_seq ?_))))
   refine CM_regionD (by kernel_rfl) (by kernel_rfl) ?_
   refine qm (qm ?_)
   obtain ⟨a19, rfl, hb20, he21⟩ := q4 (by omega)
   refine qv (vix 1 k13 underlying28 type3) ?_
   refine qv (fun W hm => rv_load underlying3 rfl rfl ((hm.cell0 (show (a19.add (k13 * 1)).block < w.heap.size from by rw [add_block]; exact hb20.1)).trans (rdS_int he21 k13 (by omega)))) ?_
   refine qm (qm ?_)
   obtain ⟨a22, rfl, hb23, he24⟩ := q9 (by omega)
   refine qv (vix 1 k13 underlying28 type3) ?_
   refine qv (fun W hm => rv_load underlying3 rfl rfl ((hm.cell0 (show (a22.add (k13 * 1)).block < w.heap.size from by rw [add_block]; exact hb23.1)).trans (rdS_int he24 k13 (by omega)))) ?_
   refine qv vneq ?_
   refine nq' ?_
   by_cases h25 : (gt x0 k13) = (gt x1 k13)
   ·have g26 : ((gt x0 k13) != (gt x1 k13)) = false := by rw [h25]; exact bne_self_eq_false _
    refine CM_condF rfl g26 ?_
    refine CM_skip (QM_block_normal (QM_then (CM_region (wm ?_))))
    refine wv (vadN k13 1 (by omega)) ?_
    refine wa (WM_nil ?_)
    have hn27 := rng_next (R := Bool) (body := F1) (k := k13) (s := ()) (s' := ()) (show k13 < x0.length from by omega) (cond_f g26 (rfl)) hF15
    exact QM_round (k13 + 1, (), ()) sl3 (fun W hm => hm) ⟨(by omega), hn27⟩ (rl (by omega))
   ·have g26 : ((gt x0 k13) != (gt x1 k13)) = true := bne_iff_ne.2 h25
    refine CM_condT rfl g26 ?_
    refine sr (wa (nt' (CM_ret (QM_block_ret (QM_then_ret (QM_then_ret (QM_block_ret (QM_then_ret ?_))))))))
    exact rtb (h := cond_f g12 (fin_inl (rng_ret (body := F1) (k := k13) (s := ()) (show k13 < x0.length from by omega) (cond_t g26 (rfl)) hF15) rfl))
  ·have g18 := dlF hl17
   refine CM_condF rfl g18 ?_
   refine CM_exit (QM_then_exit (QM_then_exit ?_))
   have hE28 : R2 (x0.length - 0) 0 () = Sum.inr () := rng_end hl17 hF15
   refine QM_block_hit (QM_then (sr (wa (nt' (CM_ret ?_)))))
   exact rtb (h := cond_f g12 (fin_inr hE28 (rfl)))
 ·have g12 : (((x0.length : Nat) : Int) != ((x1.length : Nat) : Int)) = true := bne_iff_ne.2 h11
  refine CM_condT rfl g12 ?_
  refine sr (wa (nt' (CM_ret (QM_then_ret ?_))))
  exact rtb (h := cond_t g12 (rfl))

def impl_WorkDone_b1 (x0 : DCharge) (k25 : Nat) (s26 : Int) : Int ⊕ (Int) :=
 Sum.inr (IntKind.i64.wrap (s26 + (gt x0.Rows k25)))
def impl_WorkDone_m (x0 : DCharge) : Int :=
 cond (impl_IsCharge_m x0) (Sum.elim id (fun (s : Int) => s) (rng (R := Int) (fun k (s : Int) => impl_WorkDone_b1 x0 k s) (x0.Rows.length - 0) 0 x0.Base)) 0
theorem cb28 : Cb Tryd.prog 28 := ⟨f28, _, func28, rfl, by decide⟩
theorem impl_WorkDone_c (w : World) (z0 : List Value) (x0 : DCharge) (r_0 : tyCharge.rd w w.heap.size z0 x0) :
  Calls Tryd.prog 28 #[.agg z0.toArray] w fun e w' => e = .returned (.int .i64 (impl_WorkDone_m x0)) ∧ Below w.heap.size w w' := by
 obtain ⟨v1, v3, v5, rfl, r2, r4, r6⟩ := tyCharge_rd r_0
 obtain ⟨m7, A8, c9, rfl, q10, r11⟩ := rdS_op r2
 obtain ⟨m12, A13, c14, rfl, q15, r16⟩ := rdS_op r4
 obtain ⟨m17, A18, c19, rfl, q20, r21⟩ := rdS_op r6
 refine ce1 (L := [(0, .agg #[.int .i64 x0.Segment, .int .i64 x0.Base, .slice A8 x0.Ids.length c9, .slice A13 x0.Tenants.length c14, .slice A18 x0.Rows.length c19])]) (N := 23) func28 ?_
 refine sr ?_
 refine WM_box rfl (Wd_none rfl) (by decide) (fun p22 => ?_)
 refine wa (nt' (CM_seq (sr ?_)))
 let K3 : List Value := [.int .i64 x0.Segment, .int .i64 x0.Base, .slice A8 x0.Ids.length c9, .slice A13 x0.Tenants.length c14, .slice A18 x0.Rows.length c19]
 refine wv (fun W hm => rv_loadN (cs := K3) underlying33 type33 rfl rfl (hm.boxCells (n := 0) rfl)) ?_
 refine wcv (cl_fn cb26 rfl) (fun W hm => impl_IsCharge_c W _ x0 (tyCharge_mk (x := x0) (hm.rdS0 r11) (hm.rdS0 r16) (hm.rdS0 r21))) ?_
 refine wv vnot ?_
 refine nt' ?_
 rcases Bool.eq_false_or_eq_true (impl_IsCharge_m x0) with g24 | g24
 ·
  obtain ⟨hq1, hq2, hq3⟩ := impl_IsCharge_fact g24
  refine CM_condF rfl (nt g24) ?_
  refine CM_skip (QM_then (sr ?_))
  refine wv (vf underlying33 rfl type3) ?_
  refine wv (vl 0 1 underlying3) ?_
  refine wa (nt' (CM_seq (sr ?_)))
  refine wv (vf underlying33 rfl type28) ?_
  refine wv (vl 0 4 underlying28) ?_
  refine wv (vlen underlying28) ?_
  refine wm (nt' (CM_block ?_))
  let F1 := fun k (s : Int) => impl_WorkDone_b1 x0 k s
  let R2 := rng (R := Int) F1
  refine CM_loop (σ := Nat × (Int) × (Unit)) (fun s => [(3, .int .i64 s.2.1), (12, .slice A18 x0.Rows.length c19), (13, .int .i64 ((x0.Rows.length : Nat) : Int)), (14, .int .i64 ((s.1 : Nat) : Int))]) (fun s => [iBox p22 33 K3]) (fun s => s.1 ≤ x0.Rows.length ∧ R2 (x0.Rows.length - s.1) s.1 s.2.1 = R2 (x0.Rows.length - 0) 0 x0.Base) (fun s => x0.Rows.length - s.1) (0, x0.Base, ()) sl4 (fun W hm => hm) ⟨(by omega), rfl⟩ ?_
  rintro ⟨k25, s26, ⟨⟩⟩ H29
  obtain ⟨hk27, hF28⟩ : k25 ≤ x0.Rows.length ∧ R2 (x0.Rows.length - k25) k25 s26 = R2 (x0.Rows.length - 0) 0 x0.Base := H29
  show CM Tryd.prog 23 _ _ _ _ [(3, .int .i64 s26), (12, .slice A18 x0.Rows.length c19), (13, .int .i64 ((x0.Rows.length : Nat) : Int)), (14, .int .i64 ((k25 : Nat) : Int))] [iBox p22 33 K3]
  refine sr ?_
  refine wv vlss ?_
  refine nt' (CM_seq ?_)
  by_cases hl30 : k25 < x0.Rows.length
  ·have g31 := dlT hl30
   refine CM_condT rfl g31 ?_
   refine CM_skip (QM_then (CM_seq (CM_block (sr ?_))))
   obtain ⟨a32, rfl, hb33, he34⟩ := q20 (by omega)
   refine wv (vix 1 k25 underlying28 type3) ?_
   refine wv (fun W hm => rv_load underlying3 rfl rfl ((hm.cell0 (show (a32.add (k25 * 1)).block < w.heap.size from by rw [add_block]; exact hb33.1)).trans (rdS_int he34 k25 (by omega)))) ?_
   refine wa (nt' (CM_region (wm (wm ?_))))
   refine wv vadd ?_
   refine wa (WM_nil (QM_block_normal (QM_then (CM_region ?_))))
   refine wv (vadN k25 1 (by omega)) ?_
   refine wm (WM_nil ?_)
   have hn35 := rng_next (R := Int) (body := F1) (k := k25) (s := s26) (s' := (IntKind.i64.wrap (s26 + (gt x0.Rows k25)))) (show k25 < x0.Rows.length from by omega) (rfl) hF28
   exact QM_round (k25 + 1, (IntKind.i64.wrap (s26 + (gt x0.Rows k25))), ()) sl4 (fun W hm => hm) ⟨(by omega), hn35⟩ (rl (by omega))
  ·have g31 := dlF hl30
   refine CM_condF rfl g31 ?_
   refine CM_exit (QM_then_exit (QM_then_exit ?_))
   have hE36 : R2 (x0.Rows.length - 0) 0 x0.Base = Sum.inr s26 := rng_end hl30 hF28
   refine QM_block_hit (QM_then (sr (wm (wa (nt' (CM_ret ?_))))))
   exact rti (h := cond_t g24 (fin_inr hE36 (rfl)))
 ·
  refine CM_condT rfl (nf g24) ?_
  refine sr (wa (nt' (CM_ret (QM_then_ret ?_))))
  exact rti (h := cond_f g24 (rfl))

def spec_WorkDone_b1 (x0 : DCharge) (k25 : Nat) (s26 : Int) : Int ⊕ (Int) :=
 Sum.inr (IntKind.i64.wrap (s26 + (gt x0.Rows k25)))
def spec_WorkDone_m (x0 : DCharge) : Int :=
 cond (spec_IsCharge_m x0) (Sum.elim id (fun (s : Int) => s) (rng (R := Int) (fun k (s : Int) => spec_WorkDone_b1 x0 k s) (x0.Rows.length - 0) 0 x0.Base)) 0
theorem cb29 : Cb Tryd.prog 29 := ⟨f29, _, func29, rfl, by decide⟩
theorem spec_WorkDone_c (w : World) (z0 : List Value) (x0 : DCharge) (r_0 : tyCharge.rd w w.heap.size z0 x0) :
  Calls Tryd.prog 29 #[.agg z0.toArray] w fun e w' => e = .returned (.int .i64 (spec_WorkDone_m x0)) ∧ Below w.heap.size w w' := by
 obtain ⟨v1, v3, v5, rfl, r2, r4, r6⟩ := tyCharge_rd r_0
 obtain ⟨m7, A8, c9, rfl, q10, r11⟩ := rdS_op r2
 obtain ⟨m12, A13, c14, rfl, q15, r16⟩ := rdS_op r4
 obtain ⟨m17, A18, c19, rfl, q20, r21⟩ := rdS_op r6
 refine ce1 (L := [(0, .agg #[.int .i64 x0.Segment, .int .i64 x0.Base, .slice A8 x0.Ids.length c9, .slice A13 x0.Tenants.length c14, .slice A18 x0.Rows.length c19])]) (N := 25) func29 ?_
 refine sr ?_
 refine WM_box rfl (Wd_none rfl) (by decide) (fun p22 => ?_)
 refine wa (nt' (CM_seq (sr ?_)))
 let K3 : List Value := [.int .i64 x0.Segment, .int .i64 x0.Base, .slice A8 x0.Ids.length c9, .slice A13 x0.Tenants.length c14, .slice A18 x0.Rows.length c19]
 refine wv (fun W hm => rv_loadN (cs := K3) underlying33 type33 rfl rfl (hm.boxCells (n := 0) rfl)) ?_
 refine wcv (cl_fn cb27 rfl) (fun W hm => spec_IsCharge_c W _ x0 (tyCharge_mk (x := x0) (hm.rdS0 r11) (hm.rdS0 r16) (hm.rdS0 r21))) ?_
 refine wv vnot ?_
 refine nt' ?_
 rcases Bool.eq_false_or_eq_true (spec_IsCharge_m x0) with g24 | g24
 ·
  obtain ⟨hq1, hq2, hq3⟩ := spec_IsCharge_fact g24
  refine CM_condF rfl (nt g24) ?_
  refine CM_skip (QM_then (sr ?_))
  refine wv (vf underlying33 rfl type3) ?_
  refine wv (vl 0 1 underlying3) ?_
  refine wa (nt' (CM_seq (sr (wa (nt' (CM_block ?_))))))
  let F1 := fun k (s : Int) => spec_WorkDone_b1 x0 k s
  let R2 := rng (R := Int) F1
  refine CM_loop (σ := Nat × (Int) × (Unit)) (fun s => [(1, .pointer (some (⟨p22, 0, none⟩ : Addr))), (3, .int .i64 s.2.1), (4, .int .i64 ((s.1 : Nat) : Int))]) (fun s => [iBox p22 33 K3]) (fun s => s.1 ≤ x0.Rows.length ∧ R2 (x0.Rows.length - s.1) s.1 s.2.1 = R2 (x0.Rows.length - 0) 0 x0.Base) (fun s => x0.Rows.length - s.1) (0, x0.Base, ()) sl3 (fun W hm => hm) ⟨(by omega), rfl⟩ ?_
  rintro ⟨k25, s26, ⟨⟩⟩ H29
  obtain ⟨hk27, hF28⟩ : k25 ≤ x0.Rows.length ∧ R2 (x0.Rows.length - k25) k25 s26 = R2 (x0.Rows.length - 0) 0 x0.Base := H29
  show CM Tryd.prog 25 _ _ _ _ [(1, .pointer (some (⟨p22, 0, none⟩ : Addr))), (3, .int .i64 s26), (4, .int .i64 ((k25 : Nat) : Int))] [iBox p22 33 K3]
  refine CM_seq (sr (wm ?_))
  refine wv (vf underlying33 rfl type28) ?_
  refine wv (vl 0 4 underlying28) ?_
  refine wv (vlen underlying28) ?_
  refine wv vlss ?_
  refine nt' ?_
  by_cases hl30 : k25 < x0.Rows.length
  ·have g31 := dlT hl30
   refine CM_condT rfl g31 ?_
   refine CM_skip (QM_then (CM_seq (CM_block (CM_region (wm ?_)))))
   refine wv (vf underlying33 rfl type28) ?_
   refine wv (vl 0 4 underlying28) ?_
   refine wm ?_
   obtain ⟨a32, rfl, hb33, he34⟩ := q20 (by omega)
   refine wv (vix 1 k25 underlying28 type3) ?_
   refine wv (fun W hm => rv_load underlying3 rfl rfl ((hm.cell0 (show (a32.add (k25 * 1)).block < w.heap.size from by rw [add_block]; exact hb33.1)).trans (rdS_int he34 k25 (by omega)))) ?_
   refine wv vadd ?_
   refine wa (WM_nil (QM_block_normal (QM_then (CM_region (wm ?_)))))
   refine wv (vadN k25 1 (by omega)) ?_
   refine wa (WM_nil ?_)
   have hn35 := rng_next (R := Int) (body := F1) (k := k25) (s := s26) (s' := (IntKind.i64.wrap (s26 + (gt x0.Rows k25)))) (show k25 < x0.Rows.length from by omega) (rfl) hF28
   exact QM_round (k25 + 1, (IntKind.i64.wrap (s26 + (gt x0.Rows k25))), ()) sl3 (fun W hm => hm) ⟨(by omega), hn35⟩ (rl (by omega))
  ·have g31 := dlF hl30
   refine CM_condF rfl g31 ?_
   refine CM_exit (QM_then_exit (QM_then_exit ?_))
   have hE36 : R2 (x0.Rows.length - 0) 0 x0.Base = Sum.inr s26 := rng_end hl30 hF28
   refine QM_block_hit (QM_then (sr (wm (wa (nt' (CM_ret ?_))))))
   exact rti (h := cond_t g24 (fin_inr hE36 (rfl)))
 ·
  refine CM_condT rfl (nf g24) ?_
  refine sr (wa (nt' (CM_ret (QM_then_ret ?_))))
  exact rti (h := cond_f g24 (rfl))

def impl_FormatInt_m (x0 : Int) : ByteArray :=
 (itoaB x0)
theorem cb52 : Cb Tryd.prog 52 := ⟨f52, _, func52, rfl, by decide⟩
theorem impl_FormatInt_c (w : World) (x0 : Int) (hr : -9223372036854775808 ≤ x0 ∧ x0 ≤ 9223372036854775807) (hT : TabOK w.heap.size w) :
  Calls Tryd.prog 52 #[.int .i64 x0] w fun e w' => e = .returned (.string (impl_FormatInt_m x0)) ∧ Below w.heap.size w w' := by
 refine ce1 (L := [(0, .int .i64 x0)]) (N := 5) func52 ?_
 refine sr (wa (nt' (sr (wm ?_))))
 refine wcv (cl_fn ⟨f83, _, func83, rfl, by decide⟩ rfl) (fun W hm => itoa_c W x0 (by omega) (hT.mem hm)) ?_
 have hz1 := itoaB_sz x0 (by omega)
 refine wa (nt' (CM_ret ?_))
 exact QM_ret1 rfl rfl (fun W hm => ⟨ret_s (show impl_FormatInt_m x0 = (itoaB x0) from rfl), hm.below⟩)
theorem impl_FormatInt_sz (x : Int) (h : -9223372036854775808 ≤ x ∧ x ≤ 9223372036854775807) : (impl_FormatInt_m x).size ≤ 21 := itoaB_sz x h

theorem rng_bool {n : Nat} {b : Nat → Unit → Bool ⊕ Unit} (h : ∀ j, b j () = .inr () ∨ b j () = .inl false) : ∀ m k, rng b m k () = .inr () ∨ rng b m k () = .inl false
  | 0, _ => .inl rfl
  | m + 1, k => by
    rcases h k with h1 | h1
    · rw [rng, h1]; exact rng_bool (n := n) h m (k + 1)
    · right; rw [rng, h1]; rfl
theorem within_same (x a b : Int) : impl_within_m x a b = spec_l1In_m x a b := rfl
theorem IsSet_b_same (x : List Int) (k : Nat) : impl_IsSet_b1 x k = spec_IsSet_b1 x k := by
  unfold impl_IsSet_b1 spec_IsSet_b1 spec_l1In_m
  by_cases h1 : gt x k < 0
  · have h2 : ¬ 0 ≤ gt x k := by omega
    simp only [decide_eq_true h1, decide_eq_false h2, cond_true, cond_false]
  · have h2 : 0 ≤ gt x k := by omega
    by_cases h3 : 24 ≤ gt x k
    · have h4 : ¬ gt x k ≤ 23 := by omega
      simp only [decide_eq_false h1, decide_eq_true h2, decide_eq_true h3, decide_eq_false h4, cond_true, cond_false]
    · have h4 : gt x k ≤ 23 := by omega
      simp only [decide_eq_false h1, decide_eq_true h2, decide_eq_false h3, decide_eq_true h4, cond_true, cond_false]
theorem IsSet_same (x : List Int) : impl_IsSet_m x = spec_IsSet_m x := by
  unfold impl_IsSet_m spec_IsSet_m
  simp only [IsSet_b_same]
theorem IsCharge_b_same (x : DCharge) (k : Nat) : impl_IsCharge_b1 x k = spec_IsCharge_b1 x k := rfl
theorem IsCharge_b_two (x : DCharge) (k : Nat) : spec_IsCharge_b1 x k = .inr () ∨ spec_IsCharge_b1 x k = .inl false := by
  unfold spec_IsCharge_b1
  cases spec_l1In_m (gt x.Tenants k) 0 3 <;> cases spec_l1In_m (gt x.Rows k) 0 x.Base <;> simp
theorem IsCharge_same (x : DCharge) : impl_IsCharge_m x = spec_IsCharge_m x := by
  unfold impl_IsCharge_m spec_IsCharge_m
  rw [IsSet_same]
  simp only [IsCharge_b_same, within_same]
  have h8 : spec_l1In_m ((x.Ids.length : Nat) : Int) 1 8 = cond (((x.Ids.length : Nat) : Int) == 0) false (cond (decide (8 < ((x.Ids.length : Nat) : Int))) false true) := by
    unfold spec_l1In_m
    by_cases h1 : ((x.Ids.length : Nat) : Int) = 0
    · rw [beq_iff_eq.2 h1, decide_eq_false (show ¬ 1 ≤ ((x.Ids.length : Nat) : Int) by omega)]; rfl
    · rw [beq_eq_false_iff_ne.2 h1, decide_eq_true (show 1 ≤ ((x.Ids.length : Nat) : Int) by omega)]
      by_cases h2 : 8 < ((x.Ids.length : Nat) : Int)
      · rw [decide_eq_true h2, decide_eq_false (show ¬ ((x.Ids.length : Nat) : Int) ≤ 8 by omega)]; rfl
      · rw [decide_eq_false h2, decide_eq_true (show ((x.Ids.length : Nat) : Int) ≤ 8 by omega)]; rfl
  rw [h8]
  have hr := rng_bool (n := 0) (b := fun k (_ : Unit) => spec_IsCharge_b1 x k) (IsCharge_b_two x) (x.Ids.length - 0) 0
  rcases hr with hr | hr <;> rw [hr] <;> cases spec_IsSet_m x.Ids <;> cases (((x.Ids.length : Nat) : Int) == 0) <;> cases (decide (8 < ((x.Ids.length : Nat) : Int))) <;>
    cases (((x.Tenants.length : Nat) : Int) != ((x.Ids.length : Nat) : Int)) <;> cases (((x.Rows.length : Nat) : Int) != ((x.Ids.length : Nat) : Int)) <;> cases spec_l1In_m x.Segment 0 7 <;> cases spec_l1In_m x.Base 0 4 <;> rfl
theorem IsSet_facts {x : List Int} (h : spec_IsSet_m x = true) : x.Pairwise (· < ·) ∧ ∀ y ∈ x, 0 ≤ y ∧ y < 24 := by
  unfold spec_IsSet_m at h
  rw [rng_allN (p := fun k => spec_IsSet_b1 x k == .inr ()) (r := false) (fun k _ => by
    unfold spec_IsSet_b1
    cases spec_l1In_m (gt x k) 0 23 <;> cases decide (0 < ((k : Nat) : Int)) <;> cases decide (gt x k ≤ gt x (k - 1)) <;> rfl), cb_rng, Bool.and_true, List.all_eq_true] at h
  have h1 : ∀ k, k < x.length → (0 ≤ gt x k ∧ gt x k < 24) ∧ (0 < k → gt x (k - 1) < gt x k) := by
    intro k hk
    have h2 := h k (List.mem_range.2 hk)
    unfold spec_IsSet_b1 at h2
    cases h3 : spec_l1In_m (gt x k) 0 23 with
    | false => rw [h3] at h2; cases h2
    | true =>
      have h4 := spec_l1In_fact h3
      refine ⟨by omega, fun hp => ?_⟩
      rw [h3, decide_eq_true (show 0 < ((k : Nat) : Int) by omega)] at h2
      by_cases h5 : gt x k ≤ gt x (k - 1)
      · rw [decide_eq_true h5] at h2; cases h2
      · omega
  refine ⟨adj_rise fun k hp hk => (h1 k hk).2 hp, fun y hy => ?_⟩
  obtain ⟨k, hk, rfl⟩ := List.getElem_of_mem hy
  rw [← gt_at hk]
  exact (h1 k hk).1
theorem cond_tt {a b : Bool} (h : cond a b false = true) : a = true ∧ b = true := by cases a <;> simp_all
theorem cond_ft {a b : Bool} (h : cond a false b = true) : a = false ∧ b = true := by cases a <;> simp_all
theorem spec_Charge_rng {x : DCharge} (h : spec_IsCharge_m x = true) : (x.Ids.length ≤ 24 ∧ x.Rows.length = x.Ids.length ∧ (0 ≤ x.Segment ∧ x.Segment ≤ 7) ∧ (0 ≤ x.Base ∧ x.Base ≤ 4)) ∧ ∀ k, k < x.Ids.length → (0 ≤ gt x.Ids k ∧ gt x.Ids k ≤ 23) ∧ (0 ≤ gt x.Rows k ∧ gt x.Rows k ≤ 4) := by
  unfold spec_IsCharge_m at h
  obtain ⟨h1, h⟩ := cond_tt h
  obtain ⟨_, h⟩ := cond_ft h
  obtain ⟨h3, h⟩ := cond_ft h
  obtain ⟨_, h⟩ := cond_ft h
  obtain ⟨h5, h⟩ := cond_ft h
  obtain ⟨h6, h⟩ := cond_tt h
  obtain ⟨h7, h⟩ := cond_tt h
  rw [rng_allN (p := fun k => spec_l1In_m (gt x.Tenants k) 0 3 && spec_l1In_m (gt x.Rows k) 0 x.Base) (r := false) (fun k _ => by
    unfold spec_IsCharge_b1
    cases spec_l1In_m (gt x.Tenants k) 0 3 <;> cases spec_l1In_m (gt x.Rows k) 0 x.Base <;> rfl)] at h
  have ha : (List.range x.Ids.length).all (fun k => spec_l1In_m (gt x.Tenants k) 0 3 && spec_l1In_m (gt x.Rows k) 0 x.Base) = true := by
    revert h
    cases (List.range x.Ids.length).all (fun k => spec_l1In_m (gt x.Tenants k) 0 3 && spec_l1In_m (gt x.Rows k) 0 x.Base) with
    | true => intro _; rfl
    | false => intro h; cases h
  rw [List.all_eq_true] at ha
  rw [decide_eq_false_iff_not] at h3
  rw [bne_eq_false_iff_eq] at h5
  rw [spec_l1In_iff, decide_eq_true_eq] at h6 h7
  refine ⟨⟨by omega, by omega, h6, h7⟩, fun k hk => ⟨?_, ?_⟩⟩
  · have := (IsSet_facts h1).2 _ (gt_mem hk)
    omega
  · have := ha k (List.mem_range.2 hk)
    rw [Bool.and_eq_true] at this
    have h2 := this.2
    rw [spec_l1In_iff, decide_eq_true_eq] at h2
    omega
theorem impl_Charge_rng {x : DCharge} (h : impl_IsCharge_m x = true) : (x.Ids.length ≤ 24 ∧ x.Rows.length = x.Ids.length ∧ (0 ≤ x.Segment ∧ x.Segment ≤ 7) ∧ (0 ≤ x.Base ∧ x.Base ≤ 4)) ∧ ∀ k, k < x.Ids.length → (0 ≤ gt x.Ids k ∧ gt x.Ids k ≤ 23) ∧ (0 ≤ gt x.Rows k ∧ gt x.Rows k ≤ 4) := spec_Charge_rng ((IsCharge_same x).symm.trans h)
theorem word_sz {a b : Int} (ha : 0 ≤ a ∧ a ≤ 23) (hb : 0 ≤ b ∧ b ≤ 4) : ((((sB [113]) ++ (impl_FormatInt_m a)) ++ (sB [43])) ++ (impl_FormatInt_m b)).size ≤ 1000 := by
  have h1 := impl_FormatInt_sz a (by omega)
  have h2 := impl_FormatInt_sz b (by omega)
  rw [sz_app, sz_app, sz_app]
  have h3 : ByteArray.size (sB [113]) = 1 := rfl
  have h4 : ByteArray.size (sB [43]) = 1 := rfl
  omega
def impl_FormatCharge_b1 (x0 : DCharge) (k28 : Nat) (d31 : (List ByteArray)) : ByteArray ⊕ ((List ByteArray)) :=
 Sum.inr (d31 ++ [((((sB [113]) ++ (impl_FormatInt_m (gt x0.Ids k28))) ++ (sB [43])) ++ (impl_FormatInt_m (gt x0.Rows k28)))])
def impl_FormatCharge_m (x0 : DCharge) : ByteArray :=
 cond (impl_IsCharge_m x0) (Sum.elim id (fun (s : (List ByteArray)) => (joinB s (sB [32]))) (rng (R := ByteArray) (fun k (s : (List ByteArray)) => impl_FormatCharge_b1 x0 k s) (x0.Ids.length - 0) 0 [(impl_FormatInt_m x0.Segment), (sB [98, 97, 115, 101]), (impl_FormatInt_m x0.Base)])) (sB [])
theorem cb14 : Cb Tryd.prog 14 := ⟨f14, _, func14, rfl, by decide⟩
theorem impl_FormatCharge_c (w : World) (z0 : List Value) (x0 : DCharge) (r_0 : tyCharge.rd w w.heap.size z0 x0) (hT : TabOK w.heap.size w) :
  Calls Tryd.prog 14 #[.agg z0.toArray] w fun e w' => e = .returned (.string (impl_FormatCharge_m x0)) ∧ Below w.heap.size w w' := by
 obtain ⟨v1, v3, v5, rfl, r2, r4, r6⟩ := tyCharge_rd r_0
 obtain ⟨m7, A8, c9, rfl, q10, r11⟩ := rdS_op r2
 obtain ⟨m12, A13, c14, rfl, q15, r16⟩ := rdS_op r4
 obtain ⟨m17, A18, c19, rfl, q20, r21⟩ := rdS_op r6
 refine ce1 (L := [(0, .agg #[.int .i64 x0.Segment, .int .i64 x0.Base, .slice A8 x0.Ids.length c9, .slice A13 x0.Tenants.length c14, .slice A18 x0.Rows.length c19])]) (N := 41) func14 ?_
 refine sr ?_
 refine WM_box rfl (Wd_none rfl) (by decide) (fun p22 => ?_)
 refine wa (nt' (CM_seq (sr ?_)))
 let K3 : List Value := [.int .i64 x0.Segment, .int .i64 x0.Base, .slice A8 x0.Ids.length c9, .slice A13 x0.Tenants.length c14, .slice A18 x0.Rows.length c19]
 refine wv (fun W hm => rv_loadN (cs := K3) underlying33 type33 rfl rfl (hm.boxCells (n := 0) rfl)) ?_
 refine wcv (cl_fn cb26 rfl) (fun W hm => impl_IsCharge_c W _ x0 (tyCharge_mk (x := x0) (hm.rdS0 r11) (hm.rdS0 r16) (hm.rdS0 r21))) ?_
 refine wv vnot ?_
 refine nt' ?_
 rcases Bool.eq_false_or_eq_true (impl_IsCharge_m x0) with g24 | g24
 ·
  have hch := impl_Charge_rng g24
  refine CM_condF rfl (nt g24) ?_
  refine CM_skip (QM_then (CM_seq ?_))
  refine rb 8 (s := [iBox p22 33 K3]) (fun W hm => hm) ?_
  refine qt 8 0 1 rfl (vf underlying33 rfl type3) ?_
  refine qt 8 1 3 rfl (vl 0 0 underlying3) ?_
  refine qt 8 3 11 rfl (vf underlying33 rfl type3) ?_
  refine qt 8 4 27 rfl (vl 0 1 underlying3) ?_
  refine qo 8 2 31 rfl ?_
  refine wcv (cl_fn cb52 rfl) (fun W hm => impl_FormatInt_c W x0.Segment (⟨by omega, by omega⟩) (hT.mem hm)) ?_
  have hz25 := impl_FormatInt_sz x0.Segment (by omega)
  refine qn (fun W hm => hm) ?_
  refine qo 8 5 63 rfl ?_
  refine wcv (cl_fn cb52 rfl) (fun W hm => impl_FormatInt_c W x0.Base (⟨by omega, by omega⟩) (hT.mem hm)) ?_
  have hz26 := impl_FormatInt_sz x0.Base (by omega)
  refine qn (fun W hm => hm) ?_
  refine qo 8 6 127 rfl ?_
  refine WM_build (cs := [.string (impl_FormatInt_m x0.Segment), .string (sB [98, 97, 115, 101]), .string (impl_FormatInt_m x0.Base)]) underlying80 type9 rfl (by decide) (by decide) rfl (by kernel_rfl) (Wd_none rfl) (by decide) (fun p27 => ?_)
  refine qn (pk [1]) ?_
  refine qt 8 7 255 rfl (fun W hm => rv_assign rfl) ?_
  refine QB_done (by kernel_rfl) ?_
  refine QM_then (CM_seq (sr ?_))
  refine wv (vf underlying33 rfl type28) ?_
  refine wv (vl 1 2 underlying28) ?_
  refine wv (vlen underlying28) ?_
  refine wm (nt' (CM_block ?_))
  have hz29 : ByteArray.size (sB [98, 97, 115, 101]) = 4 := rfl
  refine CM_items (fun W hm => Mem.litOwn (E := tStr) (xs := [(impl_FormatInt_m x0.Segment), (sB [98, 97, 115, 101]), (impl_FormatInt_m x0.Base)]) rfl (show 3 ≤ maxLen from by decide) (fun _ => (els_cons (E := tStr) (L1 := []) (tStr_own (by omega)) (els_cons (E := tStr) (L1 := []) (tStr_own (by omega)) (els_cons (E := tStr) (L1 := []) (tStr_own (by omega)) els_nil)))) hm) ?_
  let F1 := fun k (s : (List ByteArray)) => impl_FormatCharge_b1 x0 k s
  let R2 := rng (R := ByteArray) F1
  refine CM_loop (σ := Nat × ((List ByteArray)) × (Option Addr × Nat)) (fun s => [(1, .pointer (some (⟨p22, 0, none⟩ : Addr))), (3, .slice s.2.2.1 s.2.1.length s.2.2.2), (17, .slice A8 x0.Ids.length c9), (18, .int .i64 ((x0.Ids.length : Nat) : Int)), (19, .int .i64 ((s.1 : Nat) : Int))]) (fun s => [iOwn (tSl tStr 9) [.slice s.2.2.1 s.2.1.length s.2.2.2] s.2.1, iBox p22 33 K3]) (fun s => s.1 ≤ x0.Ids.length ∧ R2 (x0.Ids.length - s.1) s.1 s.2.1 = R2 (x0.Ids.length - 0) 0 [(impl_FormatInt_m x0.Segment), (sB [98, 97, 115, 101]), (impl_FormatInt_m x0.Base)] ∧ s.2.1.length ≤ 3 + s.1 ∧ s.2.1.length = 3 + s.1 ∧ ∀ z ∈ s.2.1, z.size ≤ 1000) (fun s => x0.Ids.length - s.1) (0, [(impl_FormatInt_m x0.Segment), (sB [98, 97, 115, 101]), (impl_FormatInt_m x0.Base)], ((some ⟨p27, 0, none⟩), 3)) sl5 (fun W hm => hm) ⟨(by omega), rfl, Nat.le_refl _, rfl, (by intro z hz; simp only [List.mem_cons, List.not_mem_nil, or_false] at hz; rcases hz with rfl | rfl | rfl <;> omega)⟩ ?_
  rintro ⟨k28, d31, ⟨A32, c33⟩⟩ H36
  obtain ⟨hk34, hF35, hi37, hi38, hi39⟩ : k28 ≤ x0.Ids.length ∧ R2 (x0.Ids.length - k28) k28 d31 = R2 (x0.Ids.length - 0) 0 [(impl_FormatInt_m x0.Segment), (sB [98, 97, 115, 101]), (impl_FormatInt_m x0.Base)] ∧ d31.length ≤ 3 + k28 ∧ d31.length = 3 + k28 ∧ ∀ z ∈ d31, z.size ≤ 1000 := H36
  show CM Tryd.prog 41 _ _ _ _ [(1, .pointer (some (⟨p22, 0, none⟩ : Addr))), (3, .slice A32 d31.length c33), (17, .slice A8 x0.Ids.length c9), (18, .int .i64 ((x0.Ids.length : Nat) : Int)), (19, .int .i64 ((k28 : Nat) : Int))] [iOwn (tSl tStr 9) [.slice A32 d31.length c33] d31, iBox p22 33 K3]
  refine sr ?_
  refine wv vlss ?_
  refine nt' (CM_seq ?_)
  by_cases hl40 : k28 < x0.Ids.length
  ·have g41 := dlT hl40
   have hck := hch.2 k28 (by omega)
   refine CM_condT rfl g41 ?_
   refine CM_skip (QM_then (CM_seq (CM_block (sr (wm ?_)))))
   obtain ⟨a42, rfl, hb43, he44⟩ := q10 (by omega)
   refine wv (vix 1 k28 underlying28 type3) ?_
   refine wv (fun W hm => rv_load underlying3 rfl rfl ((hm.cell0 (show (a42.add (k28 * 1)).block < w.heap.size from by rw [add_block]; exact hb43.1)).trans (rdS_int he44 k28 (by omega)))) ?_
   refine wa (wa (nt' ?_))
   obtain ⟨a45, rfl, hb46, he47⟩ := q20 (by omega)
   let K4 : List Value := [.int .i64 x0.Segment, .int .i64 x0.Base, .slice (some a42) x0.Ids.length c9, .slice A13 x0.Tenants.length c14, .slice (some a45) x0.Rows.length c19]
   refine CM_cut (σ := Option Addr × Nat) (fun s => [(1, .pointer (some (⟨p22, 0, none⟩ : Addr))), (3, .slice s.1 (d31 ++ [((((sB [113]) ++ (impl_FormatInt_m (gt x0.Ids k28))) ++ (sB [43])) ++ (impl_FormatInt_m (gt x0.Rows k28)))]).length s.2), (17, .slice (some a42) x0.Ids.length c9), (18, .int .i64 ((x0.Ids.length : Nat) : Int)), (19, .int .i64 ((k28 : Nat) : Int))]) (fun s => [iOwn (tSl tStr 9) [.slice s.1 (d31 ++ [((((sB [113]) ++ (impl_FormatInt_m (gt x0.Ids k28))) ++ (sB [43])) ++ (impl_FormatInt_m (gt x0.Rows k28)))]).length s.2] (d31 ++ [((((sB [113]) ++ (impl_FormatInt_m (gt x0.Ids k28))) ++ (sB [43])) ++ (impl_FormatInt_m (gt x0.Rows k28)))]), iBox p22 33 K4]) (fun _ => True) ?_ ?_
   ·
    refine rb 15 (s := []) (pk []) ?_
    refine qt 15 0 1 rfl vmv ?_
    refine qt 15 1 3 rfl vmv ?_
    refine qt 15 5 35 rfl (vf underlying33 rfl type28) ?_
    refine qt 15 7 163 rfl vmv ?_
    refine qa [2, 6] ?_
    refine qc 15 167 rfl ?_ ?_
    ·
     refine wcv (cl_fn cb52 rfl) (fun W hm => impl_FormatInt_c W (gt x0.Ids k28) (⟨by omega, by omega⟩) (hT.mem hm)) ?_
     have hz61 := impl_FormatInt_sz (gt x0.Ids k28) (by omega)
     refine qn (pk []) ?_
     have hz62 : ByteArray.size (sB [113]) = 1 := rfl
     refine qt 15 3 175 rfl (fun W hm => rv_addS (p := (sB [113])) (q := (impl_FormatInt_m (gt x0.Ids k28))) rfl rfl (by omega)) ?_
     have hz63 := sz_app (sB [113]) (impl_FormatInt_m (gt x0.Ids k28))
     have hz64 : ByteArray.size (sB [43]) = 1 := rfl
     refine qt 15 4 191 rfl (fun W hm => rv_addS (p := ((sB [113]) ++ (impl_FormatInt_m (gt x0.Ids k28)))) (q := (sB [43])) rfl rfl (by omega)) ?_
     have hz65 := sz_app ((sB [113]) ++ (impl_FormatInt_m (gt x0.Ids k28))) (sB [43])
     refine qo 15 6 255 rfl ?_
     refine wv (vl 1 4 underlying28) ?_
     refine qn (pk []) ?_
     refine qt 15 8 511 rfl (vix 1 k28 underlying28 type3) ?_
     refine qt 15 9 1023 rfl (fun W hm => rv_load underlying3 rfl rfl ((hm.cell0 (show (a45.add (k28 * 1)).block < w.heap.size from by rw [add_block]; exact hb46.1)).trans (rdS_int he47 k28 (by omega)))) ?_
     refine qo 15 10 2047 rfl ?_
     refine wcv (cl_fn cb52 rfl) (fun W hm => impl_FormatInt_c W (gt x0.Rows k28) (⟨by omega, by omega⟩) (hT.mem hm)) ?_
     have hz66 := impl_FormatInt_sz (gt x0.Rows k28) (by omega)
     refine qn (pk []) ?_
     refine qt 15 11 4095 rfl (fun W hm => rv_addS (p := (((sB [113]) ++ (impl_FormatInt_m (gt x0.Ids k28))) ++ (sB [43]))) (q := (impl_FormatInt_m (gt x0.Rows k28))) rfl rfl (by omega)) ?_
     have hz67 := sz_app (((sB [113]) ++ (impl_FormatInt_m (gt x0.Ids k28))) ++ (sB [43])) (impl_FormatInt_m (gt x0.Rows k28))
     refine qo 15 12 8191 rfl ?_
     let K5 : List Value := [.string ((((sB [113]) ++ (impl_FormatInt_m (gt x0.Ids k28))) ++ (sB [43])) ++ (impl_FormatInt_m (gt x0.Rows k28)))]
     refine WM_build (cs := K5) underlying80 type9 rfl (by decide) (by decide) rfl (by kernel_rfl) (Wd_none rfl) (by decide) (fun p68 => ?_)
     refine qn (pk []) ?_
     refine qo 15 13 16383 rfl ?_
     refine ap1 tStr 9 (.slice A32 d31.length c33) d31 ((((sB [113]) ++ (impl_FormatInt_m (gt x0.Ids k28))) ++ (sB [43])) ++ (impl_FormatInt_m (gt x0.Rows k28))) [] [iBox p22 33 K4] K5 (fun W hm => hm) (fun _ _ hs => by cases (Sep.nil hs); exact (els_cons (tStr_own (by omega)) els_nil)) underlying80 type9 (show (d31.length + 1) * 16 ≤ 140737488355328 from by omega) (fun v69 => ?_)
     refine WM_form (n := 0) rfl ?_
     rintro A70 c71 rfl m72
     refine qn (pk []) ?_
     refine qt 15 14 32767 rfl (fun W hm => rv_assign rfl) ?_
     refine QB_done (by kernel_rfl) ?_
     exact QM_cut_normal (A70, c71) sl5 (fun W hm => hm) trivial
    refine qc 15 227 rfl ?_ ?_
    ·
     refine wv (vl 1 4 underlying28) ?_
     refine qn (pk []) ?_
     refine qt 15 8 483 rfl (vix 1 k28 underlying28 type3) ?_
     refine qt 15 9 995 rfl (fun W hm => rv_load underlying3 rfl rfl ((hm.cell0 (show (a45.add (k28 * 1)).block < w.heap.size from by rw [add_block]; exact hb46.1)).trans (rdS_int he47 k28 (by omega)))) ?_
     refine qo 15 2 999 rfl ?_
     refine wcv (cl_fn cb52 rfl) (fun W hm => impl_FormatInt_c W (gt x0.Ids k28) (⟨by omega, by omega⟩) (hT.mem hm)) ?_
     have hz74 := impl_FormatInt_sz (gt x0.Ids k28) (by omega)
     refine qn (pk []) ?_
     have hz75 : ByteArray.size (sB [113]) = 1 := rfl
     refine qt 15 3 1007 rfl (fun W hm => rv_addS (p := (sB [113])) (q := (impl_FormatInt_m (gt x0.Ids k28))) rfl rfl (by omega)) ?_
     have hz76 := sz_app (sB [113]) (impl_FormatInt_m (gt x0.Ids k28))
     have hz77 : ByteArray.size (sB [43]) = 1 := rfl
     refine qt 15 4 1023 rfl (fun W hm => rv_addS (p := ((sB [113]) ++ (impl_FormatInt_m (gt x0.Ids k28)))) (q := (sB [43])) rfl rfl (by omega)) ?_
     have hz78 := sz_app ((sB [113]) ++ (impl_FormatInt_m (gt x0.Ids k28))) (sB [43])
     refine qo 15 10 2047 rfl ?_
     refine wcv (cl_fn cb52 rfl) (fun W hm => impl_FormatInt_c W (gt x0.Rows k28) (⟨by omega, by omega⟩) (hT.mem hm)) ?_
     have hz79 := impl_FormatInt_sz (gt x0.Rows k28) (by omega)
     refine qn (pk []) ?_
     refine qt 15 11 4095 rfl (fun W hm => rv_addS (p := (((sB [113]) ++ (impl_FormatInt_m (gt x0.Ids k28))) ++ (sB [43]))) (q := (impl_FormatInt_m (gt x0.Rows k28))) rfl rfl (by omega)) ?_
     have hz80 := sz_app (((sB [113]) ++ (impl_FormatInt_m (gt x0.Ids k28))) ++ (sB [43])) (impl_FormatInt_m (gt x0.Rows k28))
     refine qo 15 12 8191 rfl ?_
     let K6 : List Value := [.string ((((sB [113]) ++ (impl_FormatInt_m (gt x0.Ids k28))) ++ (sB [43])) ++ (impl_FormatInt_m (gt x0.Rows k28)))]
     refine WM_build (cs := K6) underlying80 type9 rfl (by decide) (by decide) rfl (by kernel_rfl) (Wd_none rfl) (by decide) (fun p81 => ?_)
     refine qn (pk []) ?_
     refine qo 15 13 16383 rfl ?_
     refine ap1 tStr 9 (.slice A32 d31.length c33) d31 ((((sB [113]) ++ (impl_FormatInt_m (gt x0.Ids k28))) ++ (sB [43])) ++ (impl_FormatInt_m (gt x0.Rows k28))) [] [iBox p22 33 K4] K6 (fun W hm => hm) (fun _ _ hs => by cases (Sep.nil hs); exact (els_cons (tStr_own (by omega)) els_nil)) underlying80 type9 (show (d31.length + 1) * 16 ≤ 140737488355328 from by omega) (fun v82 => ?_)
     refine WM_form (n := 0) rfl ?_
     rintro A83 c84 rfl m85
     refine qn (pk []) ?_
     refine qt 15 14 32767 rfl (fun W hm => rv_assign rfl) ?_
     refine QB_done (by kernel_rfl) ?_
     exact QM_cut_normal (A83, c84) sl5 (fun W hm => hm) trivial
    exact QBs_nil
   ·
    rintro ⟨A57, c58⟩ -
    show QM 41 _ _ _ .normal [(1, .pointer (some (⟨p22, 0, none⟩ : Addr))), (3, .slice A57 (d31 ++ [((((sB [113]) ++ (impl_FormatInt_m (gt x0.Ids k28))) ++ (sB [43])) ++ (impl_FormatInt_m (gt x0.Rows k28)))]).length c58), (17, .slice (some a42) x0.Ids.length c9), (18, .int .i64 ((x0.Ids.length : Nat) : Int)), (19, .int .i64 ((k28 : Nat) : Int))] [iOwn (tSl tStr 9) [.slice A57 (d31 ++ [((((sB [113]) ++ (impl_FormatInt_m (gt x0.Ids k28))) ++ (sB [43])) ++ (impl_FormatInt_m (gt x0.Rows k28)))]).length c58] (d31 ++ [((((sB [113]) ++ (impl_FormatInt_m (gt x0.Ids k28))) ++ (sB [43])) ++ (impl_FormatInt_m (gt x0.Rows k28)))]), iBox p22 33 K4]
    refine QM_len (n := 0) rfl ?_
    intro m87 m88
    refine QM_block_normal (QM_then (CM_region ?_))
    refine wv (vadN k28 1 (by omega)) ?_
    refine wm (WM_nil ?_)
    have hn89 := rng_next (R := ByteArray) (body := F1) (k := k28) (s := d31) (s' := (d31 ++ [((((sB [113]) ++ (impl_FormatInt_m (gt x0.Ids k28))) ++ (sB [43])) ++ (impl_FormatInt_m (gt x0.Rows k28)))])) (show k28 < x0.Ids.length from by omega) (rfl) hF35
    exact QM_round (k28 + 1, (d31 ++ [((((sB [113]) ++ (impl_FormatInt_m (gt x0.Ids k28))) ++ (sB [43])) ++ (impl_FormatInt_m (gt x0.Rows k28)))]), (A57, c58)) sl5 (fun W hm => hm) ⟨(by omega), hn89, (show (d31 ++ [((((sB [113]) ++ (impl_FormatInt_m (gt x0.Ids k28))) ++ (sB [43])) ++ (impl_FormatInt_m (gt x0.Rows k28)))]).length ≤ 3 + (k28 + 1) from by first | omega | (simp only [List.length_append, List.length_cons, List.length_nil] at *; omega)), (show (d31 ++ [((((sB [113]) ++ (impl_FormatInt_m (gt x0.Ids k28))) ++ (sB [43])) ++ (impl_FormatInt_m (gt x0.Rows k28)))]).length = 3 + (k28 + 1) from by rw [List.length_append]; show _ + 1 = _; omega), (show ∀ z ∈ (d31 ++ [((((sB [113]) ++ (impl_FormatInt_m (gt x0.Ids k28))) ++ (sB [43])) ++ (impl_FormatInt_m (gt x0.Rows k28)))]), z.size ≤ 1000 from by intro z hz; rcases List.mem_append.1 hz with hz | hz; exact hi39 z hz; rw [List.mem_singleton.1 hz]; exact word_sz (by omega) (by omega))⟩ (rl (by omega))
  ·have g41 := dlF hl40
   refine CM_condF rfl g41 ?_
   refine CM_exit (QM_then_exit (QM_then_exit ?_))
   have hE90 : R2 (x0.Ids.length - 0) 0 [(impl_FormatInt_m x0.Segment), (sB [98, 97, 115, 101]), (impl_FormatInt_m x0.Base)] = Sum.inr d31 := rng_end hl40 hF35
   refine QM_block_hit (QM_then (sr (wm ?_)))
   refine WM_formO (n := 0) rfl (by omega) ?_
   rintro g91 rfl
   have hz93 : ByteArray.size (sB [32]) = 1 := rfl
   refine wcv (cl_fn ⟨f51, _, func51, rfl, by decide⟩ rfl) (fun W hm => join_c W g91 _ d31 (sB [32]) (hm.rdSI (n := 0) rfl) (show 1 ≤ List.length d31 ∧ List.length d31 ≤ 1000 from by omega) (by assumption) (by omega)) ?_
   have hz94 := joinB_sz (show 1 ≤ List.length d31 ∧ List.length d31 ≤ 1000 from by omega).2 (by assumption) (show ByteArray.size (sB [32]) ≤ 1000 by omega)
   refine wa (nt' (CM_ret ?_))
   exact QM_ret1 rfl rfl (fun W hm => ⟨ret_s (show impl_FormatCharge_m x0 = (joinB d31 (sB [32])) from cond_t g24 (fin_inr hE90 (rfl))), hm.below⟩)
 ·
  refine CM_condT rfl (nf g24) ?_
  refine sr (wa (nt' (CM_ret (QM_then_ret ?_))))
  exact QM_ret1 rfl rfl (fun W hm => ⟨ret_s (show impl_FormatCharge_m x0 = (sB []) from cond_f g24 (rfl)), hm.below⟩)

def spec_FormatInt_b1 (k3 : Nat) (s4 : Int) (s5 : ByteArray) : ByteArray ⊕ ((Int × ByteArray) ⊕ (Int × ByteArray)) :=
 cond (s4 != 0) (cond (decide ((Int.tmod s4 10) < 0)) (Sum.inr (Sum.inr ((IntKind.i64.wrap (Int.tdiv s4 10)), ((sB [u8c (IntKind.u8.wrap (IntKind.i64.wrap (48 + (IntKind.i64.wrap (-(Int.tmod s4 10))))))]) ++ s5)))) (Sum.inr (Sum.inr ((IntKind.i64.wrap (Int.tdiv s4 10)), ((sB [u8c (IntKind.u8.wrap (IntKind.i64.wrap (48 + (Int.tmod s4 10))))]) ++ s5))))) (Sum.inr (Sum.inl (s4, s5)))
def spec_FormatInt_m (x0 : Int) : ByteArray :=
 cond (x0 == 0) (sB [48]) (Sum.elim id (fun (s : Int × ByteArray) => cond (decide (x0 < 0)) ((sB [45]) ++ s.2) s.2) (rngb (R := ByteArray) (fun k (s : Int × ByteArray) => spec_FormatInt_b1 k s.1 s.2) ((x0).natAbs + 1 - 0) 0 (x0, (sB []))))
def digN (n : Nat) : List UInt8 :=
 if h : n = 0 then [] else digN (n / 10) ++ [UInt8.ofNat (48 + n % 10)]
termination_by n
decreasing_by omega
theorem digN_pos {n : Nat} (h : 0 < n) : digN n = Lib.decDigits n := by
 induction n using Nat.strongRecOn with
 | _ n ih =>
  rw [digN, dif_neg (by omega), Lib.decDigits]
  by_cases h10 : n < 10
  ·rw [dif_pos h10, show n / 10 = 0 by omega, digN, dif_pos rfl, Nat.mod_eq_of_lt h10]
   rfl
  ·rw [dif_neg h10, ih (n / 10) (by omega) (by omega)]
theorem u8c_dig {d : Int} {m : Nat} (hm : m < 10) (h : d = ((m : Nat) : Int)) : u8c (IntKind.u8.wrap (IntKind.i64.wrap (48 + d))) = UInt8.ofNat (48 + m) := by
 subst h
 have h1 : IntKind.i64.wrap (48 + ((m : Nat) : Int)) = 48 + ((m : Nat) : Int) := wrap_id (by omega) (by omega)
 have h2 : IntKind.u8.wrap (48 + ((m : Nat) : Int)) = 48 + ((m : Nat) : Int) := by simp only [IntKind.wrap_u8]; omega
 rw [h1, h2]
 unfold u8c
 rw [show (48 + ((m : Nat) : Int)).toNat = 48 + m by omega]
theorem spec_FormatInt_step (n : Int) (out : List UInt8) (k : Nat) (h0 : n ≠ 0) (hr : -9223372036854775808 ≤ n ∧ n ≤ 9223372036854775807) : spec_FormatInt_b1 k n (sB out) = .inr (.inr (Int.tdiv n 10, sB (UInt8.ofNat (48 + n.natAbs % 10) :: out))) := by
 unfold spec_FormatInt_b1
 rw [bne_iff_ne.2 h0, cond_true, (tdv10 hr).1]
 have hm : (Int.tmod n 10).natAbs = n.natAbs % 10 := by rw [Int.natAbs_tmod]; rfl
 by_cases hn : Int.tmod n 10 < 0
 ·rw [decide_eq_true hn, cond_true, sB_app, wrap_id (n := -(Int.tmod n 10)) (by omega) (by omega), u8c_dig (m := n.natAbs % 10) (by omega) (by omega)]
  rfl
 ·rw [decide_eq_false hn, cond_false, sB_app, u8c_dig (m := n.natAbs % 10) (by omega) (by omega)]
  rfl
theorem spec_FormatInt_loop : ∀ (m k : Nat) (n : Int) (out : List UInt8), n.natAbs < m → (-9223372036854775808 ≤ n ∧ n ≤ 9223372036854775807) → rngb (R := ByteArray) (fun k (s : Int × ByteArray) => spec_FormatInt_b1 k s.1 s.2) m k (n, sB out) = .inr (0, sB (digN n.natAbs ++ out))
 | 0, _, n, _, h, _ => by omega
 | m + 1, k, n, out, h, hr => by
  rw [rngb]
  by_cases h0 : n = 0
  ·subst h0
   rw [show (0 : Int).natAbs = 0 from rfl, digN, dif_pos rfl]
   rfl
  ·show Sum.elim _ _ (spec_FormatInt_b1 k n (sB out)) = _
   rw [spec_FormatInt_step n out k h0 hr]
   have h2 := (tdv10 hr).2
   have ih := spec_FormatInt_loop m (k + 1) (Int.tdiv n 10) (UInt8.ofNat (48 + n.natAbs % 10) :: out) (by omega) (by omega)
   show rngb _ m (k + 1) (Int.tdiv n 10, sB (UInt8.ofNat (48 + n.natAbs % 10) :: out)) = _
   rw [ih, h2]
   have e : digN n.natAbs = digN (n.natAbs / 10) ++ [UInt8.ofNat (48 + n.natAbs % 10)] := by rw [digN, dif_neg (by omega)]
   rw [e, List.append_assoc]
   rfl
theorem spec_FormatInt_out {x : Int} (h : -9223372036854775808 ≤ x ∧ x ≤ 9223372036854775807) {a : Int} {b : ByteArray} (hE : rngb (R := ByteArray) (fun k (s : Int × ByteArray) => spec_FormatInt_b1 k s.1 s.2) (x.natAbs + 1 - 0) 0 (x, sB []) = .inr (a, b)) : b.size ≤ 20 := by
 rw [spec_FormatInt_loop (x.natAbs + 1 - 0) 0 x [] (by omega) h, List.append_nil] at hE
 cases hE
 show (sB (digN x.natAbs)).size ≤ 20
 rw [sB_size]
 by_cases h0 : 0 < x.natAbs
 ·rw [digN_pos h0, Lib.decDigits_length]
  exact Lib.nDigits_le20 _ (by omega)
 ·rw [show x.natAbs = 0 by omega, digN, dif_pos rfl]
  exact Nat.zero_le _
theorem cb49 : Cb Tryd.prog 49 := ⟨f49, _, func49, rfl, by decide⟩
theorem spec_FormatInt_c (w : World) (x0 : Int) (hr : -9223372036854775808 ≤ x0 ∧ x0 ≤ 9223372036854775807) :
  Calls Tryd.prog 49 #[.int .i64 x0] w fun e w' => e = .returned (.string (spec_FormatInt_m x0)) ∧ Below w.heap.size w w' := by
 refine ce1 (L := [(0, .int .i64 x0)]) (N := 31) func49 ?_
 refine sr (wa (nt' (CM_seq (sr (wm ?_)))))
 refine wv (fun W hm => rv_eql rfl rfl) ?_
 refine nt' ?_
 by_cases h1 : x0 = 0
 ·have g2 := beq_iff_eq.2 h1
  refine CM_condT rfl g2 ?_
  refine sr (wa (nt' (CM_ret (QM_then_ret ?_))))
  exact QM_ret1 rfl rfl (fun W hm => ⟨ret_s (show spec_FormatInt_m x0 = (sB [48]) from cond_t g2 (rfl)), hm.below⟩)
 ·have g2 := beq_eq_false_iff_ne.2 h1
  refine CM_condF rfl g2 ?_
  refine CM_skip (QM_then (sr (wa (nt' (sr (wm ?_))))))
  refine wv vlss ?_
  refine wa (nt' (CM_seq ?_))
  let F1 := fun k (s : Int × ByteArray) => spec_FormatInt_b1 k s.1 s.2
  let R2 := rngb (R := ByteArray) F1
  refine CM_cut (σ := (Int × ByteArray) × (Unit)) (fun s => [(3, .string s.1.2), (4, .bool (decide (x0 < 0)))]) (fun s => []) (fun s => R2 ((x0).natAbs + 1 - 0) 0 (x0, (sB [])) = Sum.inr s.1) ?_ ?_
  ·
   refine CM_block ?_
   refine CM_loop (σ := Nat × (Int × ByteArray) × (Unit)) (fun s => [(0, .int .i64 s.2.1.1), (3, .string s.2.1.2), (4, .bool (decide (x0 < 0)))]) (fun s => []) (fun s => s.1 + ((s.2.1.1).natAbs) + 1 ≤ (x0).natAbs + 1 ∧ R2 ((x0).natAbs + 1 - s.1) s.1 s.2.1 = R2 ((x0).natAbs + 1 - 0) 0 (x0, (sB [])) ∧ -9223372036854775808 ≤ s.2.1.1 ∧ s.2.1.1 ≤ 9223372036854775807 ∧ (s.2.1.2.size = 0 ∨ s.2.1.2.size + (s.2.1.1).natAbs ≤ 922337203685477582)) (fun s => (x0).natAbs + 1 - s.1) (0, (x0, (sB [])), ()) sl3 (fun W hm => hm) ⟨(show 0 + ((x0).natAbs) + 1 ≤ (x0).natAbs + 1 from by omega), rfl, (show -9223372036854775808 ≤ x0 from by omega), (show x0 ≤ 9223372036854775807 from by omega), (show ((sB []).size = 0 ∨ (sB []).size + (x0).natAbs ≤ 922337203685477582) from by (left; rfl))⟩ ?_
   rintro ⟨k3, ⟨s4, s5⟩, ⟨⟩⟩ H8
   obtain ⟨hk6, hF7, hi9, hi10, hi11⟩ : k3 + ((s4).natAbs) + 1 ≤ (x0).natAbs + 1 ∧ R2 ((x0).natAbs + 1 - k3) k3 (s4, s5) = R2 ((x0).natAbs + 1 - 0) 0 (x0, (sB [])) ∧ -9223372036854775808 ≤ s4 ∧ s4 ≤ 9223372036854775807 ∧ (s5.size = 0 ∨ s5.size + (s4).natAbs ≤ 922337203685477582) := H8
   show CM Tryd.prog 31 _ _ _ _ [(0, .int .i64 s4), (3, .string s5), (4, .bool (decide (x0 < 0)))] []
   refine CM_seq (sr (wm ?_))
   refine wv vneq ?_
   refine nt' ?_
   by_cases h12 : s4 = 0
   ·have g13 : (s4 != 0) = false := by rw [h12]; exact bne_self_eq_false _
    refine CM_condF rfl g13 ?_
    refine CM_exit (QM_then_exit (QM_then_exit (QM_block_hit ?_)))
    have hE14 := rngb_brk (R := ByteArray) (body := F1) (k := k3) (s := (s4, s5)) (s' := (s4, s5)) (show k3 < (x0).natAbs + 1 from by omega) (cond_f g13 (rfl)) hF7
    exact QM_cut_normal ((s4, s5), ()) sl2 (fun W hm => hm) hE14
   ·have g13 : (s4 != 0) = true := bne_iff_ne.2 h12
    refine CM_condT rfl g13 ?_
    refine CM_skip (QM_then (CM_block (sr (wm ?_))))
    refine wv (fun W hm => rv_rem rfl rfl (by omega)) ?_
    refine wa (nt' (CM_seq (sr (wm ?_))))
    refine wv vlss ?_
    refine nt' ?_
    by_cases h15 : (Int.tmod s4 10) < 0
    ·have g16 := decide_eq_true h15
     refine CM_condT rfl g16 ?_
     refine CM_region (wm ?_)
     refine wv (fun W hm => rv_neg rfl) ?_
     refine wa (nt' (sr (wm ?_)))
     refine wv vadd ?_
     refine wv (fun W hm => rv_convU8 underlying3 underlying5 rfl) ?_
     refine WM_build (cs := [.int .u8 (IntKind.u8.wrap (IntKind.i64.wrap (48 + (IntKind.i64.wrap (-(Int.tmod s4 10))))))]) underlying49 type5 rfl (by decide) (by decide) rfl (by kernel_rfl) (Wd_none rfl) (by decide) (fun p17 => ?_)
     refine wv (fun W hm => rv_byteS hm (i := 0) rfl underlying49 underlying5 underlying9 rfl) ?_
     refine wm ?_
     have hz18 : ByteArray.size (sB [u8c (IntKind.u8.wrap (IntKind.i64.wrap (48 + (IntKind.i64.wrap (-(Int.tmod s4 10))))))]) = 1 := rfl
     refine wv (fun W hm => rv_addS (p := (sB [u8c (IntKind.u8.wrap (IntKind.i64.wrap (48 + (IntKind.i64.wrap (-(Int.tmod s4 10))))))])) (q := s5) rfl rfl (by omega)) ?_
     have hz19 := sz_app (sB [u8c (IntKind.u8.wrap (IntKind.i64.wrap (48 + (IntKind.i64.wrap (-(Int.tmod s4 10))))))]) s5
     refine wa (nt' (CM_region (wm ?_)))
     have ht20 := tdv10 (n := s4) (by omega)
     refine wv (fun W hm => rv_quo rfl rfl (by omega)) ?_
     refine wa (WM_nil (QM_block_normal ?_))
     have hn21 := rngb_next (R := ByteArray) (body := F1) (k := k3) (s := (s4, s5)) (s' := ((IntKind.i64.wrap (Int.tdiv s4 10)), ((sB [u8c (IntKind.u8.wrap (IntKind.i64.wrap (48 + (IntKind.i64.wrap (-(Int.tmod s4 10))))))]) ++ s5))) (show k3 < (x0).natAbs + 1 from by omega) (cond_t g13 (cond_t g16 (rfl))) hF7
     exact QM_round (k3 + 1, ((IntKind.i64.wrap (Int.tdiv s4 10)), ((sB [u8c (IntKind.u8.wrap (IntKind.i64.wrap (48 + (IntKind.i64.wrap (-(Int.tmod s4 10))))))]) ++ s5)), ()) sl3 (pk []) ⟨(show (k3 + 1) + (((IntKind.i64.wrap (Int.tdiv s4 10))).natAbs) + 1 ≤ (x0).natAbs + 1 from by omega), hn21, (show -9223372036854775808 ≤ (IntKind.i64.wrap (Int.tdiv s4 10)) from by first | omega | (simp only [List.length_append, List.length_cons, List.length_nil] at *; omega)), (show (IntKind.i64.wrap (Int.tdiv s4 10)) ≤ 9223372036854775807 from by first | omega | (simp only [List.length_append, List.length_cons, List.length_nil] at *; omega)), (show (((sB [u8c (IntKind.u8.wrap (IntKind.i64.wrap (48 + (IntKind.i64.wrap (-(Int.tmod s4 10))))))]) ++ s5).size = 0 ∨ ((sB [u8c (IntKind.u8.wrap (IntKind.i64.wrap (48 + (IntKind.i64.wrap (-(Int.tmod s4 10))))))]) ++ s5).size + ((IntKind.i64.wrap (Int.tdiv s4 10))).natAbs ≤ 922337203685477582) from by first | omega | (simp only [List.length_append, List.length_cons, List.length_nil] at *; omega))⟩ (show (x0).natAbs + 1 - (k3 + 1) < (x0).natAbs + 1 - k3 from by omega)
    ·have g16 := decide_eq_false h15
     refine CM_condF rfl g16 ?_
     refine CM_skip (QM_then (sr (wm ?_)))
     refine wv vadd ?_
     refine wv (fun W hm => rv_convU8 underlying3 underlying5 rfl) ?_
     refine WM_build (cs := [.int .u8 (IntKind.u8.wrap (IntKind.i64.wrap (48 + (Int.tmod s4 10))))]) underlying49 type5 rfl (by decide) (by decide) rfl (by kernel_rfl) (Wd_none rfl) (by decide) (fun p22 => ?_)
     refine wv (fun W hm => rv_byteS hm (i := 0) rfl underlying49 underlying5 underlying9 rfl) ?_
     refine wm ?_
     have hz23 : ByteArray.size (sB [u8c (IntKind.u8.wrap (IntKind.i64.wrap (48 + (Int.tmod s4 10))))]) = 1 := rfl
     refine wv (fun W hm => rv_addS (p := (sB [u8c (IntKind.u8.wrap (IntKind.i64.wrap (48 + (Int.tmod s4 10))))])) (q := s5) rfl rfl (by omega)) ?_
     have hz24 := sz_app (sB [u8c (IntKind.u8.wrap (IntKind.i64.wrap (48 + (Int.tmod s4 10))))]) s5
     refine wa (nt' (CM_region (wm ?_)))
     have ht25 := tdv10 (n := s4) (by omega)
     refine wv (fun W hm => rv_quo rfl rfl (by omega)) ?_
     refine wa (WM_nil (QM_block_normal ?_))
     have hn26 := rngb_next (R := ByteArray) (body := F1) (k := k3) (s := (s4, s5)) (s' := ((IntKind.i64.wrap (Int.tdiv s4 10)), ((sB [u8c (IntKind.u8.wrap (IntKind.i64.wrap (48 + (Int.tmod s4 10))))]) ++ s5))) (show k3 < (x0).natAbs + 1 from by omega) (cond_t g13 (cond_f g16 (rfl))) hF7
     exact QM_round (k3 + 1, ((IntKind.i64.wrap (Int.tdiv s4 10)), ((sB [u8c (IntKind.u8.wrap (IntKind.i64.wrap (48 + (Int.tmod s4 10))))]) ++ s5)), ()) sl3 (pk []) ⟨(show (k3 + 1) + (((IntKind.i64.wrap (Int.tdiv s4 10))).natAbs) + 1 ≤ (x0).natAbs + 1 from by omega), hn26, (show -9223372036854775808 ≤ (IntKind.i64.wrap (Int.tdiv s4 10)) from by first | omega | (simp only [List.length_append, List.length_cons, List.length_nil] at *; omega)), (show (IntKind.i64.wrap (Int.tdiv s4 10)) ≤ 9223372036854775807 from by first | omega | (simp only [List.length_append, List.length_cons, List.length_nil] at *; omega)), (show (((sB [u8c (IntKind.u8.wrap (IntKind.i64.wrap (48 + (Int.tmod s4 10))))]) ++ s5).size = 0 ∨ ((sB [u8c (IntKind.u8.wrap (IntKind.i64.wrap (48 + (Int.tmod s4 10))))]) ++ s5).size + ((IntKind.i64.wrap (Int.tdiv s4 10))).natAbs ≤ 922337203685477582) from by first | omega | (simp only [List.length_append, List.length_cons, List.length_nil] at *; omega))⟩ (show (x0).natAbs + 1 - (k3 + 1) < (x0).natAbs + 1 - k3 from by omega)
  ·
   rintro ⟨⟨s4, s5⟩, ⟨⟩⟩ H28
   have hE27 : R2 ((x0).natAbs + 1 - 0) 0 (x0, (sB [])) = Sum.inr (s4, s5) := H28
   have hzo := spec_FormatInt_out hr hE27
   show QM 31 _ _ _ .normal [(3, .string s5), (4, .bool (decide (x0 < 0)))] []
   refine QM_then (CM_seq (sr (wm (nt' ?_))))
   by_cases h29 : x0 < 0
   ·have g30 := decide_eq_true h29
    refine CM_condT rfl g30 ?_
    refine sr (wm ?_)
    have hz31 : ByteArray.size (sB [45]) = 1 := rfl
    refine wv (fun W hm => rv_addS (p := (sB [45])) (q := s5) rfl rfl (by omega)) ?_
    have hz32 := sz_app (sB [45]) s5
    refine wa (nt' (CM_ret (QM_then_ret ?_)))
    exact QM_ret1 rfl rfl (fun W hm => ⟨ret_s (show spec_FormatInt_m x0 = ((sB [45]) ++ s5) from cond_f g2 (fin_inr hE27 (cond_t g30 (rfl)))), hm.below⟩)
   ·have g30 := decide_eq_false h29
    refine CM_condF rfl g30 ?_
    refine CM_skip (QM_then (sr (wm (wa (nt' (CM_ret ?_))))))
    exact QM_ret1 rfl rfl (fun W hm => ⟨ret_s (show spec_FormatInt_m x0 = s5 from cond_f g2 (fin_inr hE27 (cond_f g30 (rfl)))), hm.below⟩)
theorem spec_FormatInt_is (x : Int) (h : -9223372036854775808 ≤ x ∧ x ≤ 9223372036854775807) : spec_FormatInt_m x = itoaB x := by
  unfold spec_FormatInt_m itoaB
  by_cases h0 : x = 0
  · subst h0
    rw [show Lib.itoa 0 = [48] by rw [show (0 : Int) = ((0 : Nat) : Int) from rfl, Lib.itoa_nonneg, Lib.decDigits_one (by omega)]; rfl]
    rfl
  · rw [beq_eq_false_iff_ne.2 h0, cond_false, spec_FormatInt_loop (x.natAbs + 1 - 0) 0 x [] (by omega) h, List.append_nil, digN_pos (by omega)]
    show cond (decide (x < 0)) (sB [45] ++ sB (Lib.decDigits x.natAbs)) (sB (Lib.decDigits x.natAbs)) = _
    by_cases hn : x < 0
    · rw [decide_eq_true hn, cond_true, sB_app, Lib.itoa, if_pos hn]
      rfl
    · rw [decide_eq_false hn, cond_false, Lib.itoa, if_neg hn, show x.natAbs = x.toNat by omega]
theorem spec_FormatInt_sz (x : Int) (h : -9223372036854775808 ≤ x ∧ x ≤ 9223372036854775807) : (spec_FormatInt_m x).size ≤ 21 := by
  rw [spec_FormatInt_is x h]; exact itoaB_sz x h

def spec_FormatCharge_b1 (x0 : DCharge) (k30 : Nat) (s31 : ByteArray) : ByteArray ⊕ (ByteArray) :=
 Sum.inr ((((s31 ++ (sB [32, 113])) ++ (spec_FormatInt_m (gt x0.Ids k30))) ++ (sB [43])) ++ (spec_FormatInt_m (gt x0.Rows k30)))
def spec_FormatCharge_m (x0 : DCharge) : ByteArray :=
 cond (spec_IsCharge_m x0) (Sum.elim id (fun (s : ByteArray) => s) (rng (R := ByteArray) (fun k (s : ByteArray) => spec_FormatCharge_b1 x0 k s) (x0.Ids.length - 0) 0 (((spec_FormatInt_m x0.Segment) ++ (sB [32, 98, 97, 115, 101, 32])) ++ (spec_FormatInt_m x0.Base)))) (sB [])
theorem cb12 : Cb Tryd.prog 12 := ⟨f12, _, func12, rfl, by decide⟩
theorem spec_FormatCharge_c (w : World) (z0 : List Value) (x0 : DCharge) (r_0 : tyCharge.rd w w.heap.size z0 x0) :
  Calls Tryd.prog 12 #[.agg z0.toArray] w fun e w' => e = .returned (.string (spec_FormatCharge_m x0)) ∧ Below w.heap.size w w' := by
 obtain ⟨v1, v3, v5, rfl, r2, r4, r6⟩ := tyCharge_rd r_0
 obtain ⟨m7, A8, c9, rfl, q10, r11⟩ := rdS_op r2
 obtain ⟨m12, A13, c14, rfl, q15, r16⟩ := rdS_op r4
 obtain ⟨m17, A18, c19, rfl, q20, r21⟩ := rdS_op r6
 refine ce1 (L := [(0, .agg #[.int .i64 x0.Segment, .int .i64 x0.Base, .slice A8 x0.Ids.length c9, .slice A13 x0.Tenants.length c14, .slice A18 x0.Rows.length c19])]) (N := 41) func12 ?_
 refine sr ?_
 refine WM_box rfl (Wd_none rfl) (by decide) (fun p22 => ?_)
 refine wa (nt' (CM_seq (sr ?_)))
 let K3 : List Value := [.int .i64 x0.Segment, .int .i64 x0.Base, .slice A8 x0.Ids.length c9, .slice A13 x0.Tenants.length c14, .slice A18 x0.Rows.length c19]
 refine wv (fun W hm => rv_loadN (cs := K3) underlying33 type33 rfl rfl (hm.boxCells (n := 0) rfl)) ?_
 refine wcv (cl_fn cb27 rfl) (fun W hm => spec_IsCharge_c W _ x0 (tyCharge_mk (x := x0) (hm.rdS0 r11) (hm.rdS0 r16) (hm.rdS0 r21))) ?_
 refine wv vnot ?_
 refine nt' ?_
 rcases Bool.eq_false_or_eq_true (spec_IsCharge_m x0) with g24 | g24
 ·
  have hch := spec_Charge_rng g24
  refine CM_condF rfl (nt g24) ?_
  refine CM_skip (QM_then (CM_seq ?_))
  refine CM_regionD (by kernel_rfl) (by kernel_rfl) ?_
  refine qv (vf underlying33 rfl type3) ?_
  refine qv (vl 0 0 underlying3) ?_
  refine QR_callV (cl_fn cb49 rfl) (fun W hm => spec_FormatInt_c W x0.Segment (⟨by omega, by omega⟩)) (Wd_none rfl) (by decide) ?_
  have hz25 := spec_FormatInt_sz x0.Segment (by omega)
  have hz26 : ByteArray.size (sB [32, 98, 97, 115, 101, 32]) = 6 := rfl
  refine qv (fun W hm => rv_addS (p := (spec_FormatInt_m x0.Segment)) (q := (sB [32, 98, 97, 115, 101, 32])) rfl rfl (by omega)) ?_
  have hz27 := sz_app (spec_FormatInt_m x0.Segment) (sB [32, 98, 97, 115, 101, 32])
  refine qv (vf underlying33 rfl type3) ?_
  refine qv (vl 0 1 underlying3) ?_
  refine QR_callV (cl_fn cb49 rfl) (fun W hm => spec_FormatInt_c W x0.Base (⟨by omega, by omega⟩)) (Wd_none rfl) (by decide) ?_
  have hz28 := spec_FormatInt_sz x0.Base (by omega)
  refine qv (fun W hm => rv_addS (p := ((spec_FormatInt_m x0.Segment) ++ (sB [32, 98, 97, 115, 101, 32]))) (q := (spec_FormatInt_m x0.Base)) rfl rfl (by omega)) ?_
  have hz29 := sz_app ((spec_FormatInt_m x0.Segment) ++ (sB [32, 98, 97, 115, 101, 32])) (spec_FormatInt_m x0.Base)
  refine qv (fun W hm => rv_assign rfl) ?_
  refine nq' (CM_seq (sr (wa (nt' (CM_block ?_)))))
  let F1 := fun k (s : ByteArray) => spec_FormatCharge_b1 x0 k s
  let R2 := rng (R := ByteArray) F1
  refine CM_loop (σ := Nat × (ByteArray) × (Unit)) (fun s => [(1, .pointer (some (⟨p22, 0, none⟩ : Addr))), (3, .string s.2.1), (4, .int .i64 ((s.1 : Nat) : Int))]) (fun s => [iBox p22 33 K3]) (fun s => s.1 ≤ x0.Ids.length ∧ R2 (x0.Ids.length - s.1) s.1 s.2.1 = R2 (x0.Ids.length - 0) 0 (((spec_FormatInt_m x0.Segment) ++ (sB [32, 98, 97, 115, 101, 32])) ++ (spec_FormatInt_m x0.Base)) ∧ s.2.1.size ≤ 60 + 60 * s.1) (fun s => x0.Ids.length - s.1) (0, (((spec_FormatInt_m x0.Segment) ++ (sB [32, 98, 97, 115, 101, 32])) ++ (spec_FormatInt_m x0.Base)), ()) sl3 (fun W hm => hm) ⟨(by omega), rfl, (by dsimp only; omega)⟩ ?_
  rintro ⟨k30, s31, ⟨⟩⟩ H34
  obtain ⟨hk32, hF33, hi35⟩ : k30 ≤ x0.Ids.length ∧ R2 (x0.Ids.length - k30) k30 s31 = R2 (x0.Ids.length - 0) 0 (((spec_FormatInt_m x0.Segment) ++ (sB [32, 98, 97, 115, 101, 32])) ++ (spec_FormatInt_m x0.Base)) ∧ s31.size ≤ 60 + 60 * k30 := H34
  show CM Tryd.prog 41 _ _ _ _ [(1, .pointer (some (⟨p22, 0, none⟩ : Addr))), (3, .string s31), (4, .int .i64 ((k30 : Nat) : Int))] [iBox p22 33 K3]
  refine CM_seq (sr (wm ?_))
  refine wv (vf underlying33 rfl type28) ?_
  refine wv (vl 0 2 underlying28) ?_
  refine wv (vlen underlying28) ?_
  refine wv vlss ?_
  refine nt' ?_
  by_cases hl36 : k30 < x0.Ids.length
  ·have g37 := dlT hl36
   have hck := hch.2 k30 (by omega)
   refine CM_condT rfl g37 ?_
   refine CM_skip (QM_then (CM_seq (CM_block ?_)))
   refine CM_regionD (by kernel_rfl) (by kernel_rfl) ?_
   refine qm ?_
   have hz38 : ByteArray.size (sB [32, 113]) = 2 := rfl
   refine qv (fun W hm => rv_addS (p := s31) (q := (sB [32, 113])) rfl rfl (by omega)) ?_
   have hz39 := sz_app s31 (sB [32, 113])
   refine qv (vf underlying33 rfl type28) ?_
   refine qv (vl 0 2 underlying28) ?_
   refine qm ?_
   obtain ⟨a40, rfl, hb41, he42⟩ := q10 (by omega)
   refine qv (vix 1 k30 underlying28 type3) ?_
   refine qv (fun W hm => rv_load underlying3 rfl rfl ((hm.cell0 (show (a40.add (k30 * 1)).block < w.heap.size from by rw [add_block]; exact hb41.1)).trans (rdS_int he42 k30 (by omega)))) ?_
   refine QR_callV (cl_fn cb49 rfl) (fun W hm => spec_FormatInt_c W (gt x0.Ids k30) (⟨by omega, by omega⟩)) (Wd_none rfl) (by decide) ?_
   have hz43 := spec_FormatInt_sz (gt x0.Ids k30) (by omega)
   refine qv (fun W hm => rv_addS (p := (s31 ++ (sB [32, 113]))) (q := (spec_FormatInt_m (gt x0.Ids k30))) rfl rfl (by omega)) ?_
   have hz44 := sz_app (s31 ++ (sB [32, 113])) (spec_FormatInt_m (gt x0.Ids k30))
   have hz45 : ByteArray.size (sB [43]) = 1 := rfl
   refine qv (fun W hm => rv_addS (p := ((s31 ++ (sB [32, 113])) ++ (spec_FormatInt_m (gt x0.Ids k30)))) (q := (sB [43])) rfl rfl (by omega)) ?_
   have hz46 := sz_app ((s31 ++ (sB [32, 113])) ++ (spec_FormatInt_m (gt x0.Ids k30))) (sB [43])
   refine qv (vf underlying33 rfl type28) ?_
   refine qv (vl 0 4 underlying28) ?_
   refine qm ?_
   obtain ⟨a47, rfl, hb48, he49⟩ := q20 (by omega)
   refine qv (vix 1 k30 underlying28 type3) ?_
   refine qv (fun W hm => rv_load underlying3 rfl rfl ((hm.cell0 (show (a47.add (k30 * 1)).block < w.heap.size from by rw [add_block]; exact hb48.1)).trans (rdS_int he49 k30 (by omega)))) ?_
   refine QR_callV (cl_fn cb49 rfl) (fun W hm => spec_FormatInt_c W (gt x0.Rows k30) (⟨by omega, by omega⟩)) (Wd_none rfl) (by decide) ?_
   have hz50 := spec_FormatInt_sz (gt x0.Rows k30) (by omega)
   refine qv (fun W hm => rv_addS (p := (((s31 ++ (sB [32, 113])) ++ (spec_FormatInt_m (gt x0.Ids k30))) ++ (sB [43]))) (q := (spec_FormatInt_m (gt x0.Rows k30))) rfl rfl (by omega)) ?_
   have hz51 := sz_app (((s31 ++ (sB [32, 113])) ++ (spec_FormatInt_m (gt x0.Ids k30))) ++ (sB [43])) (spec_FormatInt_m (gt x0.Rows k30))
   refine qv (fun W hm => rv_assign rfl) ?_
   refine QR_nil (QM_block_normal (QM_then (CM_region (wm ?_))))
   refine wv (vadN k30 1 (by omega)) ?_
   refine wa (WM_nil ?_)
   have hn52 := rng_next (R := ByteArray) (body := F1) (k := k30) (s := s31) (s' := ((((s31 ++ (sB [32, 113])) ++ (spec_FormatInt_m (gt x0.Ids k30))) ++ (sB [43])) ++ (spec_FormatInt_m (gt x0.Rows k30)))) (show k30 < x0.Ids.length from by omega) (rfl) hF33
   exact QM_round (k30 + 1, ((((s31 ++ (sB [32, 113])) ++ (spec_FormatInt_m (gt x0.Ids k30))) ++ (sB [43])) ++ (spec_FormatInt_m (gt x0.Rows k30))), ()) sl3 (fun W hm => hm) ⟨(by omega), hn52, (show ((((s31 ++ (sB [32, 113])) ++ (spec_FormatInt_m (gt x0.Ids k30))) ++ (sB [43])) ++ (spec_FormatInt_m (gt x0.Rows k30))).size ≤ 60 + 60 * (k30 + 1) from by omega)⟩ (rl (by omega))
  ·have g37 := dlF hl36
   refine CM_condF rfl g37 ?_
   refine CM_exit (QM_then_exit (QM_then_exit ?_))
   have hE53 : R2 (x0.Ids.length - 0) 0 (((spec_FormatInt_m x0.Segment) ++ (sB [32, 98, 97, 115, 101, 32])) ++ (spec_FormatInt_m x0.Base)) = Sum.inr s31 := rng_end hl36 hF33
   refine QM_block_hit (QM_then (sr (wm (wa (nt' (CM_ret ?_))))))
   exact QM_ret1 rfl rfl (fun W hm => ⟨ret_s (show spec_FormatCharge_m x0 = s31 from cond_t g24 (fin_inr hE53 (rfl))), hm.below⟩)
 ·
  refine CM_condT rfl (nf g24) ?_
  refine sr (wa (nt' (CM_ret (QM_then_ret ?_))))
  exact QM_ret1 rfl rfl (fun W hm => ⟨ret_s (show spec_FormatCharge_m x0 = (sB []) from cond_f g24 (rfl)), hm.below⟩)

def spec_l10Ledger_b1 (x0b : List Int) (k10 : Nat) (d11 : (List DCharge)) (s14 : Int) (s15 : Nat) (s16 : Int) : ((List DCharge) × Dl1Cur) ⊕ (((List DCharge) × Int × Nat × Int) ⊕ ((List DCharge) × Int × Nat × Int)) :=
 cond (decide (0 < s14)) (Sum.inr (Sum.inr ((d11 ++ [(spec_l10Charge_m x0b (⟨s15, s16⟩ : Dl1Cur)).1]), (IntKind.i64.wrap (s14 - 1)), (spec_l10Charge_m x0b (⟨s15, s16⟩ : Dl1Cur)).2.i, (spec_l10Charge_m x0b (⟨s15, s16⟩ : Dl1Cur)).2.h))) (Sum.inr (Sum.inl (d11, s14, s15, s16)))
def spec_l10Ledger_m (x0b : List Int) (x0 : Dl1Cur) : ((List DCharge) × Dl1Cur) :=
 Sum.elim id (fun (s : (List DCharge) × Int × Nat × Int) => (s.1, (⟨s.2.2.1, s.2.2.2⟩ : Dl1Cur))) (rngb (R := ((List DCharge) × Dl1Cur)) (fun k (s : (List DCharge) × Int × Nat × Int) => spec_l10Ledger_b1 x0b k s.1 s.2.1 s.2.2.1 s.2.2.2) ((((spec_l1Below_m x0b x0 6).1)).toNat + 1 - 0) 0 ([], (spec_l1Below_m x0b x0 6).1, ((spec_l1Below_m x0b x0 6).2).i, ((spec_l1Below_m x0b x0 6).2).h))
theorem cb66 : Cb Tryd.prog 66 := ⟨f66, _, func66, rfl, by decide⟩
theorem spec_l10Ledger_c (B : Nat) (w0 : World) (is : List It) (w : World) (p : Nat) (z0 : Value) (x0b : List Int) (x0 : Dl1Cur) (r_0 : rdS tU8 w0 B z0 x0b) (s_0 : x0b.length ≤ 68719476736) (hm : Mem B w0 (iBox p 115 [z0, .int .i64 ((x0.i : Nat) : Int), .int .i64 x0.h] :: is) w) :
  Calls Tryd.prog 66 #[.pointer (some ⟨p, 0, none⟩)] w fun e w' => ∃ x : Value, e = .returned (x) ∧ Mem B w0 (iOwn (tSl tyCharge 33) [x] ((spec_l10Ledger_m x0b x0).1) :: iBox p 115 [z0, .int .i64 ((((spec_l10Ledger_m x0b x0).2).i : Nat) : Int), .int .i64 ((spec_l10Ledger_m x0b x0).2).h] :: is) w' := by
 obtain ⟨m1, A2, c3, rfl, q4, r5⟩ := rdS_op r_0
 refine call_enterW (L := [(0, .pointer (some ⟨p, 0, none⟩))]) (N := 18) func66 rfl rfl (Nat.le_of_ble_eq_true rfl) (argsL_cons rfl argsL_nil) hm ?_
 have l6 : x0b.length ≤ 68719476736 := s_0
 refine sr (wa (nt' (sr ?_)))
 refine WM_build0 (E := tyCharge) underlying56 type33 (Wd_none rfl) (by decide) (fun p7 => ?_)
 refine wa (nt' (CM_seq (sr (wm ?_))))
 let I4 : It := iOwn (tSl tyCharge 33) [.slice (some ⟨p7, 0, none⟩) 0 0] []
 refine WM_callW (χ := Unit) (val := fun x => .int .i64 ((spec_l1Below_m x0b x0 6).1)) (js := fun x => (iBox p 115 [.slice A2 x0b.length c3, .int .i64 ((((spec_l1Below_m x0b x0 6).2).i : Nat) : Int), .int .i64 ((spec_l1Below_m x0b x0 6).2).h] :: (I4 :: is))) (cl_fn cb67 rfl) (fun W hm => spec_l1Below_c B w0 (I4 :: is) W p _ x0b x0 r5 6 s_0 (hm.front (n := 1) rfl)) (Wd_none rfl) (by decide) (fun z9 => ?_)
 have hb := spec_l1Below_rng x0b x0 6
 refine wa (nt' ?_)
 let F1 := fun k (s : (List DCharge) × Int × Nat × Int) => spec_l10Ledger_b1 x0b k s.1 s.2.1 s.2.2.1 s.2.2.2
 let R2 := rngb (R := ((List DCharge) × Dl1Cur)) F1
 refine CM_cut (σ := ((List DCharge) × Int × Nat × Int) × (Option Addr × Nat)) (fun s => [(3, .slice s.2.1 s.1.1.length s.2.2)]) (fun s => (iBox p 115 [.slice A2 x0b.length c3, .int .i64 ((s.1.2.2.1 : Nat) : Int), .int .i64 s.1.2.2.2] :: iOwn (tSl tyCharge 33) [.slice s.2.1 s.1.1.length s.2.2] s.1.1 :: is)) (fun s => R2 ((((spec_l1Below_m x0b x0 6).1)).toNat + 1 - 0) 0 ([], (spec_l1Below_m x0b x0 6).1, ((spec_l1Below_m x0b x0 6).2).i, ((spec_l1Below_m x0b x0 6).2).h) = Sum.inr s.1) ?_ ?_
 ·
  refine CM_block ?_
  refine CM_loop (σ := Nat × ((List DCharge) × Int × Nat × Int) × (Option Addr × Nat)) (fun s => [(0, .pointer (some (⟨p, 0, none⟩ : Addr))), (3, .slice s.2.2.1 s.2.1.1.length s.2.2.2), (4, .int .i64 s.2.1.2.1)]) (fun s => (iBox p 115 [.slice A2 x0b.length c3, .int .i64 ((s.2.1.2.2.1 : Nat) : Int), .int .i64 s.2.1.2.2.2] :: iOwn (tSl tyCharge 33) [.slice s.2.2.1 s.2.1.1.length s.2.2.2] s.2.1.1 :: is)) (fun s => s.1 + ((s.2.1.2.1).toNat) + 1 ≤ (((spec_l1Below_m x0b x0 6).1)).toNat + 1 ∧ R2 ((((spec_l1Below_m x0b x0 6).1)).toNat + 1 - s.1) s.1 s.2.1 = R2 ((((spec_l1Below_m x0b x0 6).1)).toNat + 1 - 0) 0 ([], (spec_l1Below_m x0b x0 6).1, ((spec_l1Below_m x0b x0 6).2).i, ((spec_l1Below_m x0b x0 6).2).h) ∧ s.2.1.1.length ≤ 0 + s.1 ∧ 0 ≤ s.2.1.2.1 ∧ s.2.1.2.1 ≤ 5) (fun s => (((spec_l1Below_m x0b x0 6).1)).toNat + 1 - s.1) (0, ([], (spec_l1Below_m x0b x0 6).1, ((spec_l1Below_m x0b x0 6).2).i, ((spec_l1Below_m x0b x0 6).2).h), ((some ⟨p7, 0, none⟩), 0)) sl3 (fun W hm => hm) ⟨(show 0 + ((((spec_l1Below_m x0b x0 6).1)).toNat) + 1 ≤ (((spec_l1Below_m x0b x0 6).1)).toNat + 1 from by omega), rfl, Nat.le_refl _, (show 0 ≤ ((spec_l1Below_m x0b x0 6).1) from by omega), (show ((spec_l1Below_m x0b x0 6).1) ≤ 5 from by omega)⟩ ?_
  rintro ⟨k10, ⟨d11, s14, s15, s16⟩, ⟨A12, c13⟩⟩ H19
  obtain ⟨hk17, hF18, hi20, hi21, hi22⟩ : k10 + ((s14).toNat) + 1 ≤ (((spec_l1Below_m x0b x0 6).1)).toNat + 1 ∧ R2 ((((spec_l1Below_m x0b x0 6).1)).toNat + 1 - k10) k10 (d11, s14, s15, s16) = R2 ((((spec_l1Below_m x0b x0 6).1)).toNat + 1 - 0) 0 ([], (spec_l1Below_m x0b x0 6).1, ((spec_l1Below_m x0b x0 6).2).i, ((spec_l1Below_m x0b x0 6).2).h) ∧ d11.length ≤ 0 + k10 ∧ 0 ≤ s14 ∧ s14 ≤ 5 := H19
  let I5 : It := iOwn (tSl tyCharge 33) [.slice A12 d11.length c13] d11
  show CM Tryd.prog 18 _ _ _ _ [(0, .pointer (some (⟨p, 0, none⟩ : Addr))), (3, .slice A12 d11.length c13), (4, .int .i64 s14)] (iBox p 115 [.slice A2 x0b.length c3, .int .i64 ((s15 : Nat) : Int), .int .i64 s16] :: I5 :: is)
  have hw1 := wrap_id (n := s14 - 1) (by omega) (by omega)
  refine CM_seq (sr (wm ?_))
  refine wv (fun W hm => rv_gtr rfl rfl) ?_
  refine nt' ?_
  by_cases h23 : 0 < s14
  ·have g24 := decide_eq_true h23
   refine CM_condT rfl g24 ?_
   refine CM_skip (QM_then (CM_seq (CM_block (CM_region (wm (wm ?_))))))
   refine WM_callW (χ := List Value) (val := fun x => .agg x.toArray) (js := fun x => (iOwn tyCharge x ((spec_l10Charge_m x0b (⟨s15, s16⟩ : Dl1Cur)).1) :: iBox p 115 [.slice A2 x0b.length c3, .int .i64 ((((spec_l10Charge_m x0b (⟨s15, s16⟩ : Dl1Cur)).2).i : Nat) : Int), .int .i64 ((spec_l10Charge_m x0b (⟨s15, s16⟩ : Dl1Cur)).2).h] :: (I5 :: is))) (cl_fn cb63 rfl) (fun W hm => spec_l10Charge_c B w0 (I5 :: is) W p _ x0b (⟨s15, s16⟩ : Dl1Cur) r5 s_0 (hm.front (n := 0) rfl)) (Wd_none rfl) (by decide) (fun z25 => ?_)
   obtain ⟨G26, hG26⟩ : ∃ G, G = (spec_l10Charge_m x0b (⟨s15, s16⟩ : Dl1Cur)) := ⟨_, rfl⟩
   rw [← hG26]
   refine tyCharge_sp ?_
   rintro ⟨v27, v28, v29⟩ rfl
   refine WM_form (n := 0) rfl ?_
   rintro A30 c31 rfl m32
   refine WM_form (n := 1) rfl ?_
   rintro A34 c35 rfl m36
   refine WM_formP (n := 2) rfl ?_
   rintro A38 c39 rfl m40
   let K3 : List Value := [.int .i64 G26.1.Segment, .int .i64 G26.1.Base, .slice A30 G26.1.Ids.length c31, .slice A34 G26.1.Tenants.length c35, .slice A38 G26.1.Rows.length c39]
   refine WM_build (cs := K3) underlying56 type33 rfl (by decide) (by decide) rfl (by kernel_rfl) (Wd_none rfl) (by decide) (fun p42 => ?_)
   refine ap1 tyCharge 33 (.slice A12 d11.length c13) d11 G26.1 [iOwn (tSl tInt 3) [.slice A30 G26.1.Ids.length c31] G26.1.Ids, iOwn (tSl tInt 3) [.slice A34 G26.1.Tenants.length c35] G26.1.Tenants, iOwn (tPa tInt 3) [.slice A38 G26.1.Rows.length c39] G26.1.Rows] (iBox p 115 [.slice A2 x0b.length c3, .int .i64 ((G26.2.i : Nat) : Int), .int .i64 G26.2.h] :: is) K3 (fun W hm => (((((hm.front (n := 3) rfl).front (n := 3) rfl).front (n := 3) rfl).front (n := 5) rfl).front (n := 4) rfl)) (fun _ _ hs => Els.single (tyCharge_join (x := G26.1) hs)) underlying56 type33 (show (d11.length + 1) * 88 ≤ 140737488355328 from by omega) (fun v43 => ?_)
   refine WM_form (n := 0) rfl ?_
   rintro A44 c45 rfl m46
   refine wa (WM_nil (QM_block_normal (QM_then (CM_region (wm ?_)))))
   refine wv (fun W hm => rv_sub rfl rfl) ?_
   refine wa (WM_nil ?_)
   have hn48 := rngb_next (R := ((List DCharge) × Dl1Cur)) (body := F1) (k := k10) (s := (d11, s14, s15, s16)) (s' := ((d11 ++ [G26.1]), (IntKind.i64.wrap (s14 - 1)), G26.2.i, G26.2.h)) (show k10 < (((spec_l1Below_m x0b x0 6).1)).toNat + 1 from by omega) (by subst hG26; exact cond_t g24 (rfl)) hF18
   exact QM_round (k10 + 1, ((d11 ++ [G26.1]), (IntKind.i64.wrap (s14 - 1)), G26.2.i, G26.2.h), (A44, c45)) sl3 (fun W hm => ((hm.front (n := 0) rfl).front (n := 1) rfl)) ⟨(show (k10 + 1) + (((IntKind.i64.wrap (s14 - 1))).toNat) + 1 ≤ (((spec_l1Below_m x0b x0 6).1)).toNat + 1 from by omega), hn48, (show (d11 ++ [G26.1]).length ≤ 0 + (k10 + 1) from by first | omega | (simp only [List.length_append, List.length_cons, List.length_nil] at *; omega)), (show 0 ≤ (IntKind.i64.wrap (s14 - 1)) from by first | omega | (simp only [List.length_append, List.length_cons, List.length_nil] at *; omega)), (show (IntKind.i64.wrap (s14 - 1)) ≤ 5 from by first | omega | (simp only [List.length_append, List.length_cons, List.length_nil] at *; omega))⟩ (show (((spec_l1Below_m x0b x0 6).1)).toNat + 1 - (k10 + 1) < (((spec_l1Below_m x0b x0 6).1)).toNat + 1 - k10 from by omega)
  ·have g24 := decide_eq_false h23
   refine CM_condF rfl g24 ?_
   refine CM_exit (QM_then_exit (QM_then_exit (QM_block_hit ?_)))
   have hE49 := rngb_brk (R := ((List DCharge) × Dl1Cur)) (body := F1) (k := k10) (s := (d11, s14, s15, s16)) (s' := (d11, s14, s15, s16)) (show k10 < (((spec_l1Below_m x0b x0 6).1)).toNat + 1 from by omega) (cond_f g24 (rfl)) hF18
   exact QM_cut_normal ((d11, s14, s15, s16), (A12, c13)) (subL_cons rfl subL_nil) (fun W hm => hm) hE49
 ·
  rintro ⟨⟨d11, s14, s15, s16⟩, ⟨A12, c13⟩⟩ H51
  have hE50 : R2 ((((spec_l1Below_m x0b x0 6).1)).toNat + 1 - 0) 0 ([], (spec_l1Below_m x0b x0 6).1, ((spec_l1Below_m x0b x0 6).2).i, ((spec_l1Below_m x0b x0 6).2).h) = Sum.inr (d11, s14, s15, s16) := H51
  show QM 18 _ _ _ .normal [(3, .slice A12 d11.length c13)] (iBox p 115 [.slice A2 x0b.length c3, .int .i64 ((s15 : Nat) : Int), .int .i64 s16] :: iOwn (tSl tyCharge 33) [.slice A12 d11.length c13] d11 :: is)
  refine QM_then (sr (wm (wa (nt' (CM_ret ?_)))))
  have he52 := (show spec_l10Ledger_m x0b x0 = (d11, (⟨s15, s16⟩ : Dl1Cur)) from fin_inr hE50 (rfl))
  refine QM_r1 rfl (RR_tmp rfl) (fun W hm => ⟨.slice A12 d11.length c13, ?_, ?_⟩)
  ·first | rw [he52] | rfl
  ·rw [he52]; exact ((hm.front (n := 0) rfl).front (n := 1) rfl)

def spec_DrawCoalitionCost_b1 (x0 : (List Int)) (k17 : Nat) (d18 : (List Int)) (s21 : Int) (s22 : Nat) (s23 : Int) : ((List DCharge) × (List Int)) ⊕ (((List Int) × Int × Nat × Int) ⊕ ((List Int) × Int × Nat × Int)) :=
 cond (decide (0 < s21)) (Sum.inr (Sum.inr ((d18 ++ [(spec_l1Below_m x0 (⟨s22, s23⟩ : Dl1Cur) 5).1]), (IntKind.i64.wrap (s21 - 1)), (spec_l1Below_m x0 (⟨s22, s23⟩ : Dl1Cur) 5).2.i, (spec_l1Below_m x0 (⟨s22, s23⟩ : Dl1Cur) 5).2.h))) (Sum.inr (Sum.inl (d18, s21, s22, s23)))
def spec_DrawCoalitionCost_m (x0 : (List Int)) : ((List DCharge) × (List Int)) :=
 Sum.elim id (fun (s : (List Int) × Int × Nat × Int) => ((spec_l10Ledger_m x0 (spec_l1New_m x0)).1, s.1)) (rngb (R := ((List DCharge) × (List Int))) (fun k (s : (List Int) × Int × Nat × Int) => spec_DrawCoalitionCost_b1 x0 k s.1 s.2.1 s.2.2.1 s.2.2.2) ((((spec_l1Below_m x0 (spec_l10Ledger_m x0 (spec_l1New_m x0)).2 4).1)).toNat + 1 - 0) 0 ([], (spec_l1Below_m x0 (spec_l10Ledger_m x0 (spec_l1New_m x0)).2 4).1, ((spec_l1Below_m x0 (spec_l10Ledger_m x0 (spec_l1New_m x0)).2 4).2).i, ((spec_l1Below_m x0 (spec_l10Ledger_m x0 (spec_l1New_m x0)).2 4).2).h))
theorem cb30 : Cb Tryd.prog 30 := ⟨f30, _, func30, rfl, by decide⟩
theorem spec_DrawCoalitionCost_c (w : World) (z0 : Value) (x0 : (List Int)) (r_0 : rdS tU8 w w.heap.size z0 x0) (s_0 : x0.length ≤ 68719476736) :
  Calls Tryd.prog 30 #[z0] w fun e w' => ∃ v : Value × Value, e = .returned (.tuple #[v.1, v.2]) ∧ Mem w.heap.size w [iOwn (tSl tyCharge 33) [v.1] (spec_DrawCoalitionCost_m x0).1, iOwn (tSl tInt 3) [v.2] (spec_DrawCoalitionCost_m x0).2] w' := by
 obtain ⟨m1, A2, c3, rfl, q4, r5⟩ := rdS_op r_0
 have l6 : x0.length ≤ 68719476736 := s_0
 refine ce1 (L := [(0, .slice A2 x0.length c3)]) (N := 28) func30 ?_
 refine sr (wa (wa (nt' (sr (wm ?_)))))
 refine WM_call (χ := Nat) (val := fun p => .pointer (some ⟨p, 0, none⟩)) (js := fun p => [iBox p 115 [.slice A2 x0.length c3, .int .i64 (((spec_l1New_m x0).i : Nat) : Int), .int .i64 ((spec_l1New_m x0).h)]]) (cl_fn cb64 rfl) (fun W hm => spec_l1New_c W _ x0 (hm.rdS0 r5) s_0) (Wd_none rfl) (by decide) (fun p7 => ?_)
 refine wa (nt' (sr (wm ?_)))
 refine WM_callW (χ := Value) (val := fun x => x) (js := fun x => (iOwn (tSl tyCharge 33) [x] ((spec_l10Ledger_m x0 (spec_l1New_m x0)).1) :: iBox p7 115 [.slice A2 x0.length c3, .int .i64 ((((spec_l10Ledger_m x0 (spec_l1New_m x0)).2).i : Nat) : Int), .int .i64 ((spec_l10Ledger_m x0 (spec_l1New_m x0)).2).h] :: [])) (cl_fn cb66 rfl) (fun W hm => spec_l10Ledger_c w.heap.size w [] W p7 _ x0 (spec_l1New_m x0) r5 s_0 hm) (Wd_none rfl) (by decide) (fun z8 => ?_)
 obtain ⟨G9, hG9⟩ : ∃ G, G = (spec_l10Ledger_m x0 (spec_l1New_m x0)) := ⟨_, rfl⟩
 rw [← hG9]
 refine WM_form (n := 0) rfl ?_
 rintro A10 c11 rfl m12
 refine wa (nt' (sr ?_))
 refine WM_build0 (E := tInt) underlying28 type3 (Wd_none rfl) (by decide) (fun p14 => ?_)
 refine wa (nt' (CM_seq (sr (wm ?_))))
 let I3 : It := iOwn (tSl tInt 3) [.slice (some ⟨p14, 0, none⟩) 0 0] []
 let I4 : It := iOwn (tSl tyCharge 33) [.slice A10 G9.1.length c11] G9.1
 refine WM_callW (χ := Unit) (val := fun x => .int .i64 ((spec_l1Below_m x0 G9.2 4).1)) (js := fun x => (iBox p7 115 [.slice A2 x0.length c3, .int .i64 ((((spec_l1Below_m x0 G9.2 4).2).i : Nat) : Int), .int .i64 ((spec_l1Below_m x0 G9.2 4).2).h] :: [I3, I4])) (cl_fn cb67 rfl) (fun W hm => spec_l1Below_c w.heap.size w [I3, I4] W p7 _ x0 G9.2 r5 4 s_0 (hm.pick [2, 0, 1] (by decide))) (Wd_none rfl) (by decide) (fun z16 => ?_)
 have hb := spec_l1Below_rng x0 G9.2 4
 refine wa (nt' ?_)
 let F1 := fun k (s : (List Int) × Int × Nat × Int) => spec_DrawCoalitionCost_b1 x0 k s.1 s.2.1 s.2.2.1 s.2.2.2
 let R2 := rngb (R := ((List DCharge) × (List Int))) F1
 refine CM_cut (σ := ((List Int) × Int × Nat × Int) × (Option Addr × Nat)) (fun s => [(5, .slice A10 G9.1.length c11), (6, .slice s.2.1 s.1.1.length s.2.2)]) (fun s => [iBox p7 115 [.slice A2 x0.length c3, .int .i64 ((s.1.2.2.1 : Nat) : Int), .int .i64 s.1.2.2.2], iOwn (tSl tInt 3) [.slice s.2.1 s.1.1.length s.2.2] s.1.1, I4]) (fun s => R2 ((((spec_l1Below_m x0 G9.2 4).1)).toNat + 1 - 0) 0 ([], (spec_l1Below_m x0 G9.2 4).1, ((spec_l1Below_m x0 G9.2 4).2).i, ((spec_l1Below_m x0 G9.2 4).2).h) = Sum.inr s.1) ?_ ?_
 ·
  refine CM_block ?_
  refine CM_loop (σ := Nat × ((List Int) × Int × Nat × Int) × (Option Addr × Nat)) (fun s => [(4, .pointer (some (⟨p7, 0, none⟩ : Addr))), (5, .slice A10 G9.1.length c11), (6, .slice s.2.2.1 s.2.1.1.length s.2.2.2), (7, .int .i64 s.2.1.2.1)]) (fun s => [iBox p7 115 [.slice A2 x0.length c3, .int .i64 ((s.2.1.2.2.1 : Nat) : Int), .int .i64 s.2.1.2.2.2], iOwn (tSl tInt 3) [.slice s.2.2.1 s.2.1.1.length s.2.2.2] s.2.1.1, I4]) (fun s => s.1 + ((s.2.1.2.1).toNat) + 1 ≤ (((spec_l1Below_m x0 G9.2 4).1)).toNat + 1 ∧ R2 ((((spec_l1Below_m x0 G9.2 4).1)).toNat + 1 - s.1) s.1 s.2.1 = R2 ((((spec_l1Below_m x0 G9.2 4).1)).toNat + 1 - 0) 0 ([], (spec_l1Below_m x0 G9.2 4).1, ((spec_l1Below_m x0 G9.2 4).2).i, ((spec_l1Below_m x0 G9.2 4).2).h) ∧ s.2.1.1.length ≤ 0 + s.1 ∧ 0 ≤ s.2.1.2.1 ∧ s.2.1.2.1 ≤ 3) (fun s => (((spec_l1Below_m x0 G9.2 4).1)).toNat + 1 - s.1) (0, ([], (spec_l1Below_m x0 G9.2 4).1, ((spec_l1Below_m x0 G9.2 4).2).i, ((spec_l1Below_m x0 G9.2 4).2).h), ((some ⟨p14, 0, none⟩), 0)) sl4 (fun W hm => hm) ⟨(show 0 + ((((spec_l1Below_m x0 G9.2 4).1)).toNat) + 1 ≤ (((spec_l1Below_m x0 G9.2 4).1)).toNat + 1 from by omega), rfl, Nat.le_refl _, (show 0 ≤ ((spec_l1Below_m x0 G9.2 4).1) from by omega), (show ((spec_l1Below_m x0 G9.2 4).1) ≤ 3 from by omega)⟩ ?_
  rintro ⟨k17, ⟨d18, s21, s22, s23⟩, ⟨A19, c20⟩⟩ H26
  obtain ⟨hk24, hF25, hi27, hi28, hi29⟩ : k17 + ((s21).toNat) + 1 ≤ (((spec_l1Below_m x0 G9.2 4).1)).toNat + 1 ∧ R2 ((((spec_l1Below_m x0 G9.2 4).1)).toNat + 1 - k17) k17 (d18, s21, s22, s23) = R2 ((((spec_l1Below_m x0 G9.2 4).1)).toNat + 1 - 0) 0 ([], (spec_l1Below_m x0 G9.2 4).1, ((spec_l1Below_m x0 G9.2 4).2).i, ((spec_l1Below_m x0 G9.2 4).2).h) ∧ d18.length ≤ 0 + k17 ∧ 0 ≤ s21 ∧ s21 ≤ 3 := H26
  let I5 : It := iOwn (tSl tInt 3) [.slice A19 d18.length c20] d18
  show CM Tryd.prog 28 _ _ _ _ [(4, .pointer (some (⟨p7, 0, none⟩ : Addr))), (5, .slice A10 G9.1.length c11), (6, .slice A19 d18.length c20), (7, .int .i64 s21)] [iBox p7 115 [.slice A2 x0.length c3, .int .i64 ((s22 : Nat) : Int), .int .i64 s23], I5, I4]
  have hw1 := wrap_id (n := s21 - 1) (by omega) (by omega)
  refine CM_seq (sr (wm ?_))
  refine wv (fun W hm => rv_gtr rfl rfl) ?_
  refine nt' ?_
  by_cases h30 : 0 < s21
  ·have g31 := decide_eq_true h30
   refine CM_condT rfl g31 ?_
   refine CM_skip (QM_then (CM_seq (CM_block (sr (wm ?_)))))
   refine WM_callW (χ := Unit) (val := fun x => .int .i64 ((spec_l1Below_m x0 (⟨s22, s23⟩ : Dl1Cur) 5).1)) (js := fun x => (iBox p7 115 [.slice A2 x0.length c3, .int .i64 ((((spec_l1Below_m x0 (⟨s22, s23⟩ : Dl1Cur) 5).2).i : Nat) : Int), .int .i64 ((spec_l1Below_m x0 (⟨s22, s23⟩ : Dl1Cur) 5).2).h] :: [I5, I4])) (cl_fn cb67 rfl) (fun W hm => spec_l1Below_c w.heap.size w [I5, I4] W p7 _ x0 (⟨s22, s23⟩ : Dl1Cur) r5 5 s_0 hm) (Wd_none rfl) (by decide) (fun z32 => ?_)
   have hb := spec_l1Below_rng x0 (⟨s22, s23⟩ : Dl1Cur) 5
   obtain ⟨G33, hG33⟩ : ∃ G, G = (spec_l1Below_m x0 (⟨s22, s23⟩ : Dl1Cur) 5) := ⟨_, rfl⟩
   rw [← hG33]
   rw [← hG33] at hb
   refine wa (nt' (CM_region (wm (wm ?_))))
   refine WM_build (cs := [.int .i64 G33.1]) underlying28 type3 rfl (by decide) (by decide) rfl (by kernel_rfl) (Wd_none rfl) (by decide) (fun p34 => ?_)
   refine ap1 tInt 3 (.slice A19 d18.length c20) d18 G33.1 [] [iBox p7 115 [.slice A2 x0.length c3, .int .i64 ((G33.2.i : Nat) : Int), .int .i64 G33.2.h], I4] [.int .i64 G33.1] (pk [0, 2, 1, 3]) (fun _ _ hs => by cases (Sep.nil hs); exact (els_cons tInt_own els_nil)) underlying28 type3 (show (d18.length + 1) * 8 ≤ 140737488355328 from by omega) (fun v35 => ?_)
   refine WM_form (n := 0) rfl ?_
   rintro A36 c37 rfl m38
   refine wa (WM_nil (QM_block_normal (QM_then (CM_region (wm ?_)))))
   refine wv (fun W hm => rv_sub rfl rfl) ?_
   refine wa (WM_nil ?_)
   have hn40 := rngb_next (R := ((List DCharge) × (List Int))) (body := F1) (k := k17) (s := (d18, s21, s22, s23)) (s' := ((d18 ++ [G33.1]), (IntKind.i64.wrap (s21 - 1)), G33.2.i, G33.2.h)) (show k17 < (((spec_l1Below_m x0 G9.2 4).1)).toNat + 1 from by omega) (by subst hG9 hG33; exact cond_t g31 (rfl)) hF25
   exact QM_round (k17 + 1, ((d18 ++ [G33.1]), (IntKind.i64.wrap (s21 - 1)), G33.2.i, G33.2.h), (A36, c37)) sl4 (pk [1, 0, 2]) ⟨(show (k17 + 1) + (((IntKind.i64.wrap (s21 - 1))).toNat) + 1 ≤ (((spec_l1Below_m x0 G9.2 4).1)).toNat + 1 from by omega), hn40, (show (d18 ++ [G33.1]).length ≤ 0 + (k17 + 1) from by first | omega | (simp only [List.length_append, List.length_cons, List.length_nil] at *; omega)), (show 0 ≤ (IntKind.i64.wrap (s21 - 1)) from by first | omega | (simp only [List.length_append, List.length_cons, List.length_nil] at *; omega)), (show (IntKind.i64.wrap (s21 - 1)) ≤ 3 from by first | omega | (simp only [List.length_append, List.length_cons, List.length_nil] at *; omega))⟩ (show (((spec_l1Below_m x0 G9.2 4).1)).toNat + 1 - (k17 + 1) < (((spec_l1Below_m x0 G9.2 4).1)).toNat + 1 - k17 from by omega)
  ·have g31 := decide_eq_false h30
   refine CM_condF rfl g31 ?_
   refine CM_exit (QM_then_exit (QM_then_exit (QM_block_hit ?_)))
   have hE41 := rngb_brk (R := ((List DCharge) × (List Int))) (body := F1) (k := k17) (s := (d18, s21, s22, s23)) (s' := (d18, s21, s22, s23)) (show k17 < (((spec_l1Below_m x0 G9.2 4).1)).toNat + 1 from by omega) (by subst hG9; exact cond_f g31 (rfl)) hF25
   exact QM_cut_normal ((d18, s21, s22, s23), (A19, c20)) sl2 (fun W hm => hm) hE41
 ·
  rintro ⟨⟨d18, s21, s22, s23⟩, ⟨A19, c20⟩⟩ H43
  have hE42 : R2 ((((spec_l1Below_m x0 G9.2 4).1)).toNat + 1 - 0) 0 ([], (spec_l1Below_m x0 G9.2 4).1, ((spec_l1Below_m x0 G9.2 4).2).i, ((spec_l1Below_m x0 G9.2 4).2).h) = Sum.inr (d18, s21, s22, s23) := H43
  show QM 28 _ _ _ .normal [(5, .slice A10 G9.1.length c11), (6, .slice A19 d18.length c20)] [iBox p7 115 [.slice A2 x0.length c3, .int .i64 ((s22 : Nat) : Int), .int .i64 s23], iOwn (tSl tInt 3) [.slice A19 d18.length c20] d18, I4]
  refine QM_then (sr (wm (wm (wa (wa (nt' (CM_ret ?_)))))))
  have he44 := (show spec_DrawCoalitionCost_m x0 = (G9.1, d18) from by subst hG9; exact fin_inr hE42 (rfl))
  refine QM_r2 rfl (RR_tmp rfl) (RR_tmp rfl) (fun W hm => ⟨(.slice A10 G9.1.length c11, .slice A19 d18.length c20), ?_, ?_⟩)
  ·first | rw [he44] | rfl
   try rfl
  ·rw [he44]; exact (hm.pick [2, 1] (by decide))

def impl_hasInt_b1 (x0 : (List Int)) (x1 : Int) (k6 : Nat) : Bool ⊕ (Unit) :=
 cond ((gt x0 k6) == x1) (Sum.inl true) (Sum.inr ())
def impl_hasInt_m (x0 : (List Int)) (x1 : Int) : Bool :=
 Sum.elim id (fun (s : Unit) => false) (rng (R := Bool) (fun k (_ : Unit) => impl_hasInt_b1 x0 x1 k) (x0.length - 0) 0 ())
theorem cb68 : Cb Tryd.prog 68 := ⟨f68, _, func68, rfl, by decide⟩
theorem impl_hasInt_c (w : World) (z0 : Value) (x0 : (List Int)) (x1 : Int) (r_0 : rdS tInt w w.heap.size z0 x0) :
  Calls Tryd.prog 68 #[z0, .int .i64 x1] w fun e w' => e = .returned (.bool (impl_hasInt_m x0 x1)) ∧ Below w.heap.size w w' := by
 obtain ⟨m1, A2, c3, rfl, q4, r5⟩ := rdS_op r_0
 refine ce2 (L := [(0, .slice A2 x0.length c3), (1, .int .i64 x1)]) (N := 17) func68 ?_
 refine sr (wa (nt' (CM_seq (sr (wm ?_)))))
 refine wv (vlen underlying28) ?_
 refine wm (nt' (CM_block ?_))
 let F1 := fun k (_ : Unit) => impl_hasInt_b1 x0 x1 k
 let R2 := rng (R := Bool) F1
 refine CM_loop (σ := Nat × (Unit) × (Unit)) (fun s => [(1, .int .i64 x1), (7, .slice A2 x0.length c3), (8, .int .i64 ((x0.length : Nat) : Int)), (9, .int .i64 ((s.1 : Nat) : Int))]) (fun s => []) (fun s => s.1 ≤ x0.length ∧ R2 (x0.length - s.1) s.1 s.2.1 = R2 (x0.length - 0) 0 ()) (fun s => x0.length - s.1) (0, (), ()) sl4 (fun W hm => hm) ⟨(by omega), rfl⟩ ?_
 rintro ⟨k6, ⟨⟩, ⟨⟩⟩ H9
 obtain ⟨hk7, hF8⟩ : k6 ≤ x0.length ∧ R2 (x0.length - k6) k6 () = R2 (x0.length - 0) 0 () := H9
 show CM Tryd.prog 17 _ _ _ _ [(1, .int .i64 x1), (7, .slice A2 x0.length c3), (8, .int .i64 ((x0.length : Nat) : Int)), (9, .int .i64 ((k6 : Nat) : Int))] []
 refine sr ?_
 refine wv vlss ?_
 refine nt' (CM_seq ?_)
 by_cases hl10 : k6 < x0.length
 ·have g11 := dlT hl10
  refine CM_condT rfl g11 ?_
  refine CM_skip (QM_then (CM_seq (CM_block (sr ?_))))
  obtain ⟨a12, rfl, hb13, he14⟩ := q4 (by omega)
  refine wv (vix 1 k6 underlying28 type3) ?_
  refine wv (fun W hm => rv_load underlying3 rfl rfl ((hm.cell0 (show (a12.add (k6 * 1)).block < w.heap.size from by rw [add_block]; exact hb13.1)).trans (rdS_int he14 k6 (by omega)))) ?_
  refine wa (nt' (sr (wm (wm ?_))))
  refine wv (fun W hm => rv_eql rfl rfl) ?_
  refine nt' ?_
  by_cases h15 : (gt x0 k6) = x1
  ·have g16 := beq_iff_eq.2 h15
   refine CM_condT rfl g16 ?_
   refine sr (wa (nt' (CM_ret (QM_block_ret (QM_then_ret (QM_then_ret (QM_block_ret (QM_then_ret ?_))))))))
   exact rtb (h := fin_inl (rng_ret (body := F1) (k := k6) (s := ()) (show k6 < x0.length from by omega) (cond_t g16 (rfl)) hF8) rfl)
  ·have g16 := beq_eq_false_iff_ne.2 h15
   refine CM_condF rfl g16 ?_
   refine CM_skip (QM_block_normal (QM_then (CM_region ?_)))
   refine wv (vadN k6 1 (by omega)) ?_
   refine wm (WM_nil ?_)
   have hn17 := rng_next (R := Bool) (body := F1) (k := k6) (s := ()) (s' := ()) (show k6 < x0.length from by omega) (cond_f g16 (rfl)) hF8
   exact QM_round (k6 + 1, (), ()) sl4 (fun W hm => hm) ⟨(by omega), hn17⟩ (rl (by omega))
 ·have g11 := dlF hl10
  refine CM_condF rfl g11 ?_
  refine CM_exit (QM_then_exit (QM_then_exit ?_))
  have hE18 : R2 (x0.length - 0) 0 () = Sum.inr () := rng_end hl10 hF8
  refine QM_block_hit (QM_then (sr (wa (nt' (CM_ret ?_)))))
  exact rtb (h := fin_inr hE18 (rfl))

def impl_CoalitionCost_b2 (x0 : (List DCharge)) (x1 : (List Int)) (k11 : Nat) (k47 : Nat) (s48 : Int) (s49 : Bool) : Int ⊕ (Int × Bool) :=
 cond (impl_hasInt_m x1 (gt ((gt x0 k11).Tenants) k47)) (Sum.inr ((IntKind.i64.wrap (s48 + (gt ((gt x0 k11).Rows) k47))), true)) (Sum.inr (s48, s49))
def impl_CoalitionCost_b1 (x0 : (List DCharge)) (x1 : (List Int)) (k11 : Nat) (s12 : Int) : Int ⊕ (Int) :=
 cond (impl_IsCharge_m (gt x0 k11)) (Sum.elim Sum.inl (fun (s : Int × Bool) => cond s.2 (Sum.inr (IntKind.i64.wrap (s12 + (IntKind.i64.wrap (((gt x0 k11).Base) + s.1))))) (Sum.inr s12)) (rng (R := Int) (fun k (s : Int × Bool) => impl_CoalitionCost_b2 x0 x1 k11 k s.1 s.2) (((gt x0 k11).Tenants).length - 0) 0 (0, false))) (Sum.inr s12)
def impl_CoalitionCost_m (x0 : (List DCharge)) (x1 : (List Int)) : Int :=
 Sum.elim id (fun (s : Int) => s) (rng (R := Int) (fun k (s : Int) => impl_CoalitionCost_b1 x0 x1 k s) (x0.length - 0) 0 0)
theorem cb31 : Cb Tryd.prog 31 := ⟨f31, _, func31, rfl, by decide⟩
theorem impl_CoalitionCost_c (w : World) (z0 : Value) (x0 : (List DCharge)) (z1 : Value) (x1 : (List Int)) (r_0 : rdS tyCharge w w.heap.size z0 x0) (r_1 : rdS tInt w w.heap.size z1 x1) :
  Calls Tryd.prog 31 #[z0, z1] w fun e w' => e = .returned (.int .i64 (impl_CoalitionCost_m x0 x1)) ∧ Below w.heap.size w w' := by
 obtain ⟨m1, A2, c3, rfl, q4, r5⟩ := rdS_op r_0
 obtain ⟨m6, A7, c8, rfl, q9, r10⟩ := rdS_op r_1
 refine ce2 (L := [(0, .slice A2 x0.length c3), (1, .slice A7 x1.length c8)]) (N := 49) func31 ?_
 refine sr (wa (nt' (sr (wa (nt' (CM_seq (sr (wm ?_))))))))
 refine wv (vlen underlying56) ?_
 refine wm (nt' (CM_block ?_))
 let F1 := fun k (s : Int) => impl_CoalitionCost_b1 x0 x1 k s
 let R3 := rng (R := Int) F1
 refine CM_loop (σ := Nat × (Int) × (Unit)) (fun s => [(1, .slice A7 x1.length c8), (5, .int .i64 s.2.1), (12, .slice A2 x0.length c3), (13, .int .i64 ((x0.length : Nat) : Int)), (14, .int .i64 ((s.1 : Nat) : Int))]) (fun s => []) (fun s => s.1 ≤ x0.length ∧ R3 (x0.length - s.1) s.1 s.2.1 = R3 (x0.length - 0) 0 0) (fun s => x0.length - s.1) (0, 0, ()) sl5 (fun W hm => hm) ⟨(by omega), rfl⟩ ?_
 rintro ⟨k11, s12, ⟨⟩⟩ H15
 obtain ⟨hk13, hF14⟩ : k11 ≤ x0.length ∧ R3 (x0.length - k11) k11 s12 = R3 (x0.length - 0) 0 0 := H15
 show CM Tryd.prog 49 _ _ _ _ [(1, .slice A7 x1.length c8), (5, .int .i64 s12), (12, .slice A2 x0.length c3), (13, .int .i64 ((x0.length : Nat) : Int)), (14, .int .i64 ((k11 : Nat) : Int))] []
 refine sr ?_
 refine wv vlss ?_
 refine nt' (CM_seq ?_)
 by_cases hl16 : k11 < x0.length
 ·have g17 := dlT hl16
  refine CM_condT rfl g17 ?_
  refine CM_skip (QM_then (CM_seq (CM_block (sr ?_))))
  obtain ⟨a18, rfl, hb19, he20⟩ := q4 (by omega)
  refine wv (vix 5 k11 underlying56 type33) ?_
  obtain ⟨_, e28, hc21⟩ := he20 k11 _ (gt_some (show k11 < x0.length from by omega))
  obtain ⟨v22, v24, v26, rfl, r23, r25, r27⟩ := tyCharge_rd e28
  obtain ⟨m29, A30, c31, rfl, q32, r33⟩ := rdS_op r23
  obtain ⟨m34, A35, c36, rfl, q37, r38⟩ := rdS_op r25
  obtain ⟨m39, A40, c41, rfl, q42, r43⟩ := rdS_op r27
  let K5 : List Value := [.int .i64 ((gt x0 k11).Segment), .int .i64 ((gt x0 k11).Base), .slice A30 ((gt x0 k11).Ids).length c31, .slice A35 ((gt x0 k11).Tenants).length c36, .slice A40 ((gt x0 k11).Rows).length c41]
  refine wv (fun W hm => rv_loadN (cs := K5) underlying33 type33 rfl rfl (hm.elCells (show (a18.add (k11 * 5)).block < w.heap.size from by rw [add_block]; exact hb19.1) hc21)) ?_
  refine WM_alloc type33 rfl (Wd_none rfl) (by decide) (fun p44 => ?_)
  refine sb 0 K5 [] (fun W hm => hm) type33 ?_
  refine nt' (CM_seq (sr ?_))
  refine wv (fun W hm => rv_loadN (cs := K5) underlying33 type33 rfl rfl (hm.boxCells (n := 0) rfl)) ?_
  refine wcv (cl_fn cb26 rfl) (fun W hm => impl_IsCharge_c W _ (gt x0 k11) (tyCharge_mk (x := (gt x0 k11)) (hm.rdS0 r33) (hm.rdS0 r38) (hm.rdS0 r43))) ?_
  refine wv vnot ?_
  refine nt' ?_
  rcases Bool.eq_false_or_eq_true (impl_IsCharge_m (gt x0 k11)) with g46 | g46
  ·
   obtain ⟨hq1, hq2, hq3⟩ := impl_IsCharge_fact g46
   refine CM_condF rfl (nt g46) ?_
   refine CM_skip (QM_then (sr (wa (nt' (sr (wa (nt' (CM_seq (sr ?_)))))))))
   refine wv (vf underlying33 rfl type28) ?_
   refine wv (vl 0 3 underlying28) ?_
   refine wv (vlen underlying28) ?_
   refine wm (nt' (CM_block ?_))
   let F2 := fun k (s : Int × Bool) => impl_CoalitionCost_b2 x0 x1 k11 k s.1 s.2
   let R4 := rng (R := Int) F2
   refine CM_loop (σ := Nat × (Int × Bool) × (Unit)) (fun s => [(1, .slice A7 x1.length c8), (5, .int .i64 s12), (7, .pointer (some (⟨p44, 0, none⟩ : Addr))), (8, .int .i64 s.2.1.1), (9, .bool s.2.1.2), (12, .slice (some a18) x0.length c3), (13, .int .i64 ((x0.length : Nat) : Int)), (14, .int .i64 ((k11 : Nat) : Int)), (22, .slice A35 ((gt x0 k11).Tenants).length c36), (23, .int .i64 ((((gt x0 k11).Tenants).length : Nat) : Int)), (24, .int .i64 ((s.1 : Nat) : Int))]) (fun s => [iBox p44 33 K5]) (fun s => s.1 ≤ ((gt x0 k11).Tenants).length ∧ R4 (((gt x0 k11).Tenants).length - s.1) s.1 s.2.1 = R4 (((gt x0 k11).Tenants).length - 0) 0 (0, false)) (fun s => ((gt x0 k11).Tenants).length - s.1) (0, (0, false), ()) sl11 (fun W hm => hm) ⟨(by omega), rfl⟩ ?_
   rintro ⟨k47, ⟨s48, s49⟩, ⟨⟩⟩ H52
   obtain ⟨hk50, hF51⟩ : k47 ≤ ((gt x0 k11).Tenants).length ∧ R4 (((gt x0 k11).Tenants).length - k47) k47 (s48, s49) = R4 (((gt x0 k11).Tenants).length - 0) 0 (0, false) := H52
   show CM Tryd.prog 49 _ _ _ _ [(1, .slice A7 x1.length c8), (5, .int .i64 s12), (7, .pointer (some (⟨p44, 0, none⟩ : Addr))), (8, .int .i64 s48), (9, .bool s49), (12, .slice (some a18) x0.length c3), (13, .int .i64 ((x0.length : Nat) : Int)), (14, .int .i64 ((k11 : Nat) : Int)), (22, .slice A35 ((gt x0 k11).Tenants).length c36), (23, .int .i64 ((((gt x0 k11).Tenants).length : Nat) : Int)), (24, .int .i64 ((k47 : Nat) : Int))] [iBox p44 33 K5]
   refine sr ?_
   refine wv vlss ?_
   refine nt' (CM_seq ?_)
   by_cases hl53 : k47 < ((gt x0 k11).Tenants).length
   ·have g54 := dlT hl53
    refine CM_condT rfl g54 ?_
    refine CM_skip (QM_then (CM_seq (CM_block (sr (wm ?_)))))
    obtain ⟨a55, rfl, hb56, he57⟩ := q37 (by omega)
    refine wv (vix 1 k47 underlying28 type3) ?_
    refine wv (fun W hm => rv_load underlying3 rfl rfl ((hm.cell0 (show (a55.add (k47 * 1)).block < w.heap.size from by rw [add_block]; exact hb56.1)).trans (rdS_int he57 k47 (by omega)))) ?_
    refine wa (wa (nt' (sr (wm (wm ?_)))))
    refine wcv (cl_fn cb68 rfl) (fun W hm => impl_hasInt_c W _ x1 (gt ((gt x0 k11).Tenants) k47) (hm.rdS0 r10)) ?_
    refine nt' ?_
    rcases Bool.eq_false_or_eq_true (impl_hasInt_m x1 (gt ((gt x0 k11).Tenants) k47)) with g59 | g59
    ·
     refine CM_condT rfl g59 ?_
     refine sr (wa (nt' (CM_region (wm ?_))))
     refine wv (vf underlying33 rfl type28) ?_
     refine wv (vl 0 4 underlying28) ?_
     refine wm ?_
     obtain ⟨a60, rfl, hb61, he62⟩ := q42 (by omega)
     refine wv (vix 1 k47 underlying28 type3) ?_
     refine wv (fun W hm => rv_load underlying3 rfl rfl ((hm.cell0 (show (a60.add (k47 * 1)).block < w.heap.size from by rw [add_block]; exact hb61.1)).trans (rdS_int he62 k47 (by omega)))) ?_
     refine wv vadd ?_
     refine wa (WM_nil (QM_block_normal (QM_then (CM_region ?_))))
     refine wv (vadN k47 1 (by omega)) ?_
     refine wm (WM_nil ?_)
     have hn63 := rng_next (R := Int) (body := F2) (k := k47) (s := (s48, s49)) (s' := ((IntKind.i64.wrap (s48 + (gt ((gt x0 k11).Rows) k47))), true)) (show k47 < ((gt x0 k11).Tenants).length from by omega) (cond_t g59 (rfl)) hF51
     exact QM_round (k47 + 1, ((IntKind.i64.wrap (s48 + (gt ((gt x0 k11).Rows) k47))), true), ()) sl11 (fun W hm => hm) ⟨(by omega), hn63⟩ (show ((gt x0 k11).Tenants).length - (k47 + 1) < ((gt x0 k11).Tenants).length - k47 from by omega)
    ·
     refine CM_condF rfl g59 ?_
     refine CM_skip (QM_block_normal (QM_then (CM_region ?_)))
     refine wv (vadN k47 1 (by omega)) ?_
     refine wm (WM_nil ?_)
     have hn64 := rng_next (R := Int) (body := F2) (k := k47) (s := (s48, s49)) (s' := (s48, s49)) (show k47 < ((gt x0 k11).Tenants).length from by omega) (cond_f g59 (rfl)) hF51
     exact QM_round (k47 + 1, (s48, s49), ()) sl11 (fun W hm => hm) ⟨(by omega), hn64⟩ (show ((gt x0 k11).Tenants).length - (k47 + 1) < ((gt x0 k11).Tenants).length - k47 from by omega)
   ·have g54 := dlF hl53
    refine CM_condF rfl g54 ?_
    refine CM_exit (QM_then_exit (QM_then_exit ?_))
    have hE65 : R4 (((gt x0 k11).Tenants).length - 0) 0 (0, false) = Sum.inr (s48, s49) := rng_end hl53 hF51
    refine QM_block_hit (QM_then (sr (wm (nt' ?_))))
    rcases Bool.eq_false_or_eq_true s49 with g67 | g67
    ·
     refine CM_condT rfl g67 ?_
     refine CM_region (wm ?_)
     refine wv (vf underlying33 rfl type3) ?_
     refine wv (vl 0 1 underlying3) ?_
     refine wm ?_
     refine wv vadd ?_
     refine wv vadd ?_
     refine wa (WM_nil (QM_block_normal (QM_then (CM_region ?_))))
     refine wv (vadN k11 1 (by omega)) ?_
     refine wm (WM_nil ?_)
     have hn68 := rng_next (R := Int) (body := F1) (k := k11) (s := s12) (s' := (IntKind.i64.wrap (s12 + (IntKind.i64.wrap (((gt x0 k11).Base) + s48))))) (show k11 < x0.length from by omega) (cond_t g46 (fin_inr hE65 (cond_t g67 (rfl)))) hF14
     exact QM_round (k11 + 1, (IntKind.i64.wrap (s12 + (IntKind.i64.wrap (((gt x0 k11).Base) + s48)))), ()) sl5 (pk []) ⟨(by omega), hn68⟩ (rl (by omega))
    ·
     refine CM_condF rfl g67 ?_
     refine CM_skip (QM_block_normal (QM_then (CM_region ?_)))
     refine wv (vadN k11 1 (by omega)) ?_
     refine wm (WM_nil ?_)
     have hn69 := rng_next (R := Int) (body := F1) (k := k11) (s := s12) (s' := s12) (show k11 < x0.length from by omega) (cond_t g46 (fin_inr hE65 (cond_f g67 (rfl)))) hF14
     exact QM_round (k11 + 1, s12, ()) sl5 (pk []) ⟨(by omega), hn69⟩ (rl (by omega))
  ·
   refine CM_condT rfl (nf g46) ?_
   refine CM_exit (QM_then_exit (QM_block_hit (QM_then (CM_region ?_))))
   refine wv (vadN k11 1 (by omega)) ?_
   refine wm (WM_nil ?_)
   have hn70 := rng_next (R := Int) (body := F1) (k := k11) (s := s12) (s' := s12) (show k11 < x0.length from by omega) (cond_f g46 (rfl)) hF14
   exact QM_round (k11 + 1, s12, ()) sl5 (pk []) ⟨(by omega), hn70⟩ (rl (by omega))
 ·have g17 := dlF hl16
  refine CM_condF rfl g17 ?_
  refine CM_exit (QM_then_exit (QM_then_exit ?_))
  have hE71 : R3 (x0.length - 0) 0 0 = Sum.inr s12 := rng_end hl16 hF14
  refine QM_block_hit (QM_then (sr (wm (wa (nt' (CM_ret ?_))))))
  exact rti (h := fin_inr hE71 (rfl))

def laws_has_b1 (x0 : (List Int)) (x1 : Int) (k6 : Nat) : Bool ⊕ (Unit) :=
 cond ((gt x0 k6) == x1) (Sum.inl true) (Sum.inr ())
def laws_has_m (x0 : (List Int)) (x1 : Int) : Bool :=
 Sum.elim id (fun (s : Unit) => false) (rng (R := Bool) (fun k (_ : Unit) => laws_has_b1 x0 x1 k) (x0.length - 0) 0 ())
theorem cb32 : Cb Tryd.prog 32 := ⟨f32, _, func32, rfl, by decide⟩
theorem laws_has_c (w : World) (z0 : Value) (x0 : (List Int)) (x1 : Int) (r_0 : rdS tInt w w.heap.size z0 x0) :
  Calls Tryd.prog 32 #[z0, .int .i64 x1] w fun e w' => e = .returned (.bool (laws_has_m x0 x1)) ∧ Below w.heap.size w w' := by
 obtain ⟨m1, A2, c3, rfl, q4, r5⟩ := rdS_op r_0
 refine ce2 (L := [(0, .slice A2 x0.length c3), (1, .int .i64 x1)]) (N := 18) func32 ?_
 refine sr (wa (nt' (CM_seq (sr (wa (nt' (CM_block ?_)))))))
 let F1 := fun k (_ : Unit) => laws_has_b1 x0 x1 k
 let R2 := rng (R := Bool) F1
 refine CM_loop (σ := Nat × (Unit) × (Unit)) (fun s => [(0, .slice A2 x0.length c3), (1, .int .i64 x1), (5, .int .i64 ((s.1 : Nat) : Int))]) (fun s => []) (fun s => s.1 ≤ x0.length ∧ R2 (x0.length - s.1) s.1 s.2.1 = R2 (x0.length - 0) 0 ()) (fun s => x0.length - s.1) (0, (), ()) sl3 (fun W hm => hm) ⟨(by omega), rfl⟩ ?_
 rintro ⟨k6, ⟨⟩, ⟨⟩⟩ H9
 obtain ⟨hk7, hF8⟩ : k6 ≤ x0.length ∧ R2 (x0.length - k6) k6 () = R2 (x0.length - 0) 0 () := H9
 show CM Tryd.prog 18 _ _ _ _ [(0, .slice A2 x0.length c3), (1, .int .i64 x1), (5, .int .i64 ((k6 : Nat) : Int))] []
 refine CM_seq (sr (wm (wm ?_)))
 refine wv (vlen underlying28) ?_
 refine wv vlss ?_
 refine nt' ?_
 by_cases hl10 : k6 < x0.length
 ·have g11 := dlT hl10
  refine CM_condT rfl g11 ?_
  refine CM_skip (QM_then (CM_seq (CM_block (sr (wm (wm ?_))))))
  obtain ⟨a12, rfl, hb13, he14⟩ := q4 (by omega)
  refine wv (vix 1 k6 underlying28 type3) ?_
  refine wv (fun W hm => rv_load underlying3 rfl rfl ((hm.cell0 (show (a12.add (k6 * 1)).block < w.heap.size from by rw [add_block]; exact hb13.1)).trans (rdS_int he14 k6 (by omega)))) ?_
  refine wm ?_
  refine wv (fun W hm => rv_eql rfl rfl) ?_
  refine nt' ?_
  by_cases h15 : (gt x0 k6) = x1
  ·have g16 := beq_iff_eq.2 h15
   refine CM_condT rfl g16 ?_
   refine sr (wa (nt' (CM_ret (QM_block_ret (QM_then_ret (QM_then_ret (QM_block_ret (QM_then_ret ?_))))))))
   exact rtb (h := fin_inl (rng_ret (body := F1) (k := k6) (s := ()) (show k6 < x0.length from by omega) (cond_t g16 (rfl)) hF8) rfl)
  ·have g16 := beq_eq_false_iff_ne.2 h15
   refine CM_condF rfl g16 ?_
   refine CM_skip (QM_block_normal (QM_then (CM_region (wm ?_))))
   refine wv (vadN k6 1 (by omega)) ?_
   refine wa (WM_nil ?_)
   have hn17 := rng_next (R := Bool) (body := F1) (k := k6) (s := ()) (s' := ()) (show k6 < x0.length from by omega) (cond_f g16 (rfl)) hF8
   exact QM_round (k6 + 1, (), ()) sl3 (fun W hm => hm) ⟨(by omega), hn17⟩ (rl (by omega))
 ·have g11 := dlF hl10
  refine CM_condF rfl g11 ?_
  refine CM_exit (QM_then_exit (QM_then_exit ?_))
  have hE18 : R2 (x0.length - 0) 0 () = Sum.inr () := rng_end hl10 hF8
  refine QM_block_hit (QM_then (sr (wa (nt' (CM_ret ?_)))))
  exact rtb (h := fin_inr hE18 (rfl))

end Go.Proofs.YtcjelfdpekbbkaaDoor
