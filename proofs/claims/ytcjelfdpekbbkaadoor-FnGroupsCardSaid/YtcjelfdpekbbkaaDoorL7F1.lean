/-
  Contracts of functions, printed by a program of ours.
-/
import Derived.Test.YtcjelfdpekbbkaaDoorDat
namespace Go.Proofs.YtcjelfdpekbbkaaDoor
open Go.RowKit
set_option maxRecDepth 100000
set_option maxHeartbeats 4000000
open _root_.Go.Proofs.Tryd
def laws_big_m (x0 : (List Int)) : Bool :=
 (decide (1048576 < ((x0.length : Nat) : Int)))
theorem cb21 : Cb Tryd.prog 21 := ⟨f21, _, func21, rfl, by decide⟩
theorem laws_big_c (w : World) (z0 : Value) (x0 : (List Int)) (r_0 : rdS tU8 w w.heap.size z0 x0) :
  Calls Tryd.prog 21 #[z0] w fun e w' => e = .returned (.bool (laws_big_m x0)) ∧ Below w.heap.size w w' := by
 obtain ⟨m1, A2, c3, rfl, q4, r5⟩ := rdS_op r_0
 refine ce1 (L := [(0, .slice A2 x0.length c3)]) (N := 6) func21 ?_
 refine sr (wa (nt' (sr (wm ?_))))
 refine wv (vlen underlying49) ?_
 refine wv (fun W hm => rv_gtr rfl rfl) ?_
 refine wa (nt' (CM_ret ?_))
 exact rtb (h := rfl)

def spec_l1New_b1 (x0 : (List Int)) (k7 : Nat) (s8 : Int) : Dl1Cur ⊕ ((Int) ⊕ (Int)) :=
 cond (decide (((k7 : Nat) : Int) < 4000)) (Sum.inr (Sum.inr (bits .and .i64 (IntKind.i64.wrap ((IntKind.i64.wrap ((IntKind.i64.wrap (s8 * 131)) + (IntKind.i64.wrap (gt x0 k7)))) + 7)) 1073741823))) (Sum.inr (Sum.inl s8))
def spec_l1New_m (x0 : (List Int)) : Dl1Cur :=
 Sum.elim id (fun (s : Int) => (⟨0, s⟩ : Dl1Cur)) (rngb (R := Dl1Cur) (fun k (s : Int) => spec_l1New_b1 x0 k s) (x0.length - 0) 0 ((10101 + x0.length : Nat) : Int))
theorem cb64 : Cb Tryd.prog 64 := ⟨f64, _, func64, rfl, by decide⟩
theorem spec_l1New_c (w : World) (z0 : Value) (x0 : (List Int)) (r_0 : rdS tU8 w w.heap.size z0 x0) (s_0 : x0.length ≤ 68719476736) :
  Calls Tryd.prog 64 #[z0] w fun e w' => ∃ p : Nat, e = .returned (.pointer (some ⟨p, 0, none⟩)) ∧ Mem w.heap.size w [iBox p 115 [z0, .int .i64 (((spec_l1New_m x0).i : Nat) : Int), .int .i64 (spec_l1New_m x0).h]] w' := by
 obtain ⟨m1, A2, c3, rfl, q4, r5⟩ := rdS_op r_0
 have l6 : x0.length ≤ 68719476736 := s_0
 refine ce1 (L := [(0, .slice A2 x0.length c3)]) (N := 32) func64 ?_
 refine sr (wa (nt' (sr (wm ?_))))
 refine wv (vlen underlying49) ?_
 refine wv (vadN 10101 x0.length (by omega)) ?_
 refine wa (nt' (CM_seq (sr (wa (nt' ?_)))))
 let F1 := fun k (s : Int) => spec_l1New_b1 x0 k s
 let R2 := rngb (R := Dl1Cur) F1
 refine CM_cut (σ := (Int) × (Unit)) (fun s => [(0, .slice A2 x0.length c3), (3, .int .i64 s.1)]) (fun s => []) (fun s => R2 (x0.length - 0) 0 ((10101 + x0.length : Nat) : Int) = Sum.inr s.1) ?_ ?_
 ·
  refine CM_block ?_
  refine CM_loop (σ := Nat × (Int) × (Unit)) (fun s => [(0, .slice A2 x0.length c3), (3, .int .i64 s.2.1), (4, .int .i64 ((s.1 : Nat) : Int))]) (fun s => []) (fun s => s.1 ≤ x0.length ∧ R2 (x0.length - s.1) s.1 s.2.1 = R2 (x0.length - 0) 0 ((10101 + x0.length : Nat) : Int)) (fun s => x0.length - s.1) (0, ((10101 + x0.length : Nat) : Int), ()) sl3 (fun W hm => hm) ⟨(by omega), rfl⟩ ?_
  rintro ⟨k7, s8, ⟨⟩⟩ H11
  obtain ⟨hk9, hF10⟩ : k7 ≤ x0.length ∧ R2 (x0.length - k7) k7 s8 = R2 (x0.length - 0) 0 ((10101 + x0.length : Nat) : Int) := H11
  show CM Tryd.prog 32 _ _ _ _ [(0, .slice A2 x0.length c3), (3, .int .i64 s8), (4, .int .i64 ((k7 : Nat) : Int))] []
  refine CM_seq (sr (wm (wm ?_)))
  refine wv (vlen underlying49) ?_
  refine wv vlss ?_
  refine wm ?_
  by_cases hl12 : k7 < x0.length
  ·have g13 := dlT hl12
   refine wg vmv g13 ?_
   refine wg vlss g13 ?_
   refine wv (vpT g13) ?_
   refine nt' ?_
   by_cases h14 : ((k7 : Nat) : Int) < 4000
   ·have g15 := decide_eq_true h14
    refine CM_condT rfl g15 ?_
    refine CM_skip (QM_then (CM_seq (CM_block (CM_region (wm ?_)))))
    refine wv (fun W hm => rv_mul rfl rfl) ?_
    refine wm (wm ?_)
    obtain ⟨a16, rfl, hb17, he18⟩ := q4 (by omega)
    refine wv (vix 1 k7 underlying49 type5) ?_
    refine wv (fun W hm => rv_load underlying5 rfl rfl ((hm.cell0 (show (a16.add (k7 * 1)).block < w.heap.size from by rw [add_block]; exact hb17.1)).trans (rdS_u8 he18 k7 (by omega)))) ?_
    refine wv (fun W hm => rv_conv8 underlying5 underlying3 rfl) ?_
    refine wv vadd ?_
    refine wv vadd ?_
    refine wv (fun W hm => rv_and rfl rfl) ?_
    refine wa (WM_nil (QM_block_normal (QM_then (CM_region (wm ?_)))))
    refine wv (vadN k7 1 (by omega)) ?_
    refine wa (WM_nil ?_)
    have hn19 := rngb_next (R := Dl1Cur) (body := F1) (k := k7) (s := s8) (s' := (bits .and .i64 (IntKind.i64.wrap ((IntKind.i64.wrap ((IntKind.i64.wrap (s8 * 131)) + (IntKind.i64.wrap (gt x0 k7)))) + 7)) 1073741823)) (show k7 < x0.length from by omega) (cond_t g15 (rfl)) hF10
    exact QM_round (k7 + 1, (bits .and .i64 (IntKind.i64.wrap ((IntKind.i64.wrap ((IntKind.i64.wrap (s8 * 131)) + (IntKind.i64.wrap (gt x0 k7)))) + 7)) 1073741823), ()) sl3 (fun W hm => hm) ⟨(by omega), hn19⟩ (rl (by omega))
   ·have g15 := decide_eq_false h14
    refine CM_condF rfl g15 ?_
    refine CM_exit (QM_then_exit (QM_then_exit (QM_block_hit ?_)))
    have hE20 := rngb_brk (R := Dl1Cur) (body := F1) (k := k7) (s := s8) (s' := s8) (show k7 < x0.length from by omega) (cond_f g15 (rfl)) hF10
    exact QM_cut_normal (s8, ()) sl2 (fun W hm => hm) hE20
  ·have g13 := dlF hl12
   refine ws g13 ?_
   refine ws g13 ?_
   refine wv (vpF g13) ?_
   refine nt' ?_
   refine CM_condF rfl rfl ?_
   refine CM_exit (QM_then_exit (QM_then_exit (QM_block_hit ?_)))
   have hE21 : R2 (x0.length - 0) 0 ((10101 + x0.length : Nat) : Int) = Sum.inr s8 := rngb_end hl12 hF10
   exact QM_cut_normal (s8, ()) sl2 (fun W hm => hm) hE21
 ·
  rintro ⟨s8, ⟨⟩⟩ H23
  have hE22 : R2 (x0.length - 0) 0 ((10101 + x0.length : Nat) : Int) = Sum.inr s8 := H23
  show QM 32 _ _ _ .normal [(0, .slice A2 x0.length c3), (3, .int .i64 s8)] []
  refine QM_then (sr (wm (wm ?_)))
  refine wv (fun W hm => rv_build (cs := [.slice A2 x0.length c3, .int .i64 0, .int .i64 s8]) rfl (by kernel_rfl)) ?_
  refine WM_box rfl (Wd_none rfl) (by decide) (fun p24 => ?_)
  refine wa (nt' (CM_ret ?_))
  refine QM_r1 rfl (RR_tmp rfl) (fun W hm => ⟨p24, rfl, ?_⟩)
  rw [(show spec_l1New_m x0 = (⟨0, s8⟩ : Dl1Cur) from fin_inr hE22 (rfl))]
  exact hm

def spec_l1Byte_m (x0b : List Int) (x0 : Dl1Cur) : (Int × Dl1Cur) :=
 cond (decide (((x0.i : Nat) : Int) < ((x0b.length : Nat) : Int))) ((bits .and .i64 (IntKind.i64.wrap ((bits .and .i64 (bits .xor .i64 ((IntKind.i64.wrap ((IntKind.i64.wrap (x0.h * 6364136223846793005)) + 1442695040888963407)) / 2 ^ (33 : Int).toNat) ((IntKind.i64.wrap ((IntKind.i64.wrap (x0.h * 6364136223846793005)) + 1442695040888963407)) / 2 ^ (45 : Int).toNat)) 255) + (IntKind.i64.wrap (gt x0b (x0.i))))) 255), (⟨x0.i + 1, (IntKind.i64.wrap ((IntKind.i64.wrap (x0.h * 6364136223846793005)) + 1442695040888963407))⟩ : Dl1Cur)) ((bits .and .i64 (bits .xor .i64 ((IntKind.i64.wrap ((IntKind.i64.wrap (x0.h * 6364136223846793005)) + 1442695040888963407)) / 2 ^ (33 : Int).toNat) ((IntKind.i64.wrap ((IntKind.i64.wrap (x0.h * 6364136223846793005)) + 1442695040888963407)) / 2 ^ (45 : Int).toNat)) 255), (⟨x0.i, (IntKind.i64.wrap ((IntKind.i64.wrap (x0.h * 6364136223846793005)) + 1442695040888963407))⟩ : Dl1Cur))
theorem cb87 : Cb Tryd.prog 87 := ⟨f87, _, func87, rfl, by decide⟩
theorem spec_l1Byte_c (B : Nat) (w0 : World) (is : List It) (w : World) (p : Nat) (z0 : Value) (x0b : List Int) (x0 : Dl1Cur) (r_0 : rdS tU8 w0 B z0 x0b) (s_0 : x0b.length ≤ 68719476736) (hm : Mem B w0 (iBox p 115 [z0, .int .i64 ((x0.i : Nat) : Int), .int .i64 x0.h] :: is) w) :
  Calls Tryd.prog 87 #[.pointer (some ⟨p, 0, none⟩)] w fun e w' => ∃ x : Unit, e = .returned (.int .i64 ((spec_l1Byte_m x0b x0).1)) ∧ Mem B w0 (iBox p 115 [z0, .int .i64 ((((spec_l1Byte_m x0b x0).2).i : Nat) : Int), .int .i64 ((spec_l1Byte_m x0b x0).2).h] :: is) w' := by
 obtain ⟨m1, A2, c3, rfl, q4, r5⟩ := rdS_op r_0
 refine call_enterW (L := [(0, .pointer (some ⟨p, 0, none⟩))]) (N := 58) func87 rfl rfl (Nat.le_of_ble_eq_true rfl) (argsL_cons rfl argsL_nil) hm ?_
 have l6 : x0b.length ≤ 68719476736 := s_0
 refine sr (wa (nt' (sr (wm (wm ?_)))))
 refine wv (fun W hm => rv_nilCheck rfl) ?_
 refine wv (vf underlying115 rfl type3) ?_
 refine wv (vl 0 2 underlying3) ?_
 refine wv (fun W hm => rv_mul rfl rfl) ?_
 refine wv vadd ?_
 refine wv (fun W hm => rv_nilCheck rfl) ?_
 refine wv (vf underlying115 rfl type3) ?_
 refine WM_storeBox (p := p) (o := 2) (cs' := [.slice A2 x0b.length c3, .int .i64 ((x0.i : Nat) : Int), .int .i64 (IntKind.i64.wrap ((IntKind.i64.wrap (x0.h * 6364136223846793005)) + 1442695040888963407))]) (fun w hm => hm.front (n := 0) rfl) type3 rfl (Nat.le_of_ble_eq_true rfl) rfl rfl rfl rfl (Wd_none rfl) ?_
 refine nt' (CM_seq ?_)
 refine CM_regionD (by kernel_rfl) (by kernel_rfl) ?_
 refine qm ?_
 refine qv (fun W hm => rv_nilCheck rfl) ?_
 refine qv (vf underlying115 rfl type3) ?_
 refine qv (vl 0 2 underlying3) ?_
 refine qv (fun W hm => rv_shr (by decide) (by decide) rfl rfl) ?_
 refine qm ?_
 refine qv (fun W hm => rv_nilCheck rfl) ?_
 refine qv (vf underlying115 rfl type3) ?_
 refine qv (vl 0 2 underlying3) ?_
 refine qv (fun W hm => rv_shr (by decide) (by decide) rfl rfl) ?_
 refine qv (fun W hm => rv_xor rfl rfl) ?_
 refine qv (fun W hm => rv_and rfl rfl) ?_
 refine qv (fun W hm => rv_assign rfl) ?_
 refine nq' (CM_seq (CM_seq ?_))
 refine CM_regionD (by kernel_rfl) (by kernel_rfl) ?_
 refine qm ?_
 refine qv (fun W hm => rv_nilCheck rfl) ?_
 refine qv (vf underlying115 rfl type3) ?_
 refine qv (vl 0 1 underlying3) ?_
 refine qm ?_
 refine qv (fun W hm => rv_nilCheck rfl) ?_
 refine qv (vf underlying115 rfl type49) ?_
 refine qv (vl 0 0 underlying49) ?_
 refine qv (vlen underlying49) ?_
 refine qv vlss ?_
 refine nq' ?_
 by_cases h7 : ((x0.i : Nat) : Int) < ((x0b.length : Nat) : Int)
 ·have g8 := decide_eq_true h7
  refine CM_condT rfl g8 ?_
  refine CM_seq ?_
  refine CM_regionD (by kernel_rfl) (by kernel_rfl) ?_
  refine qm (qm ?_)
  refine qv (fun W hm => rv_nilCheck rfl) ?_
  refine qv (vf underlying115 rfl type49) ?_
  refine qv (vl 0 0 underlying49) ?_
  refine qm ?_
  refine qv (fun W hm => rv_nilCheck rfl) ?_
  refine qv (vf underlying115 rfl type3) ?_
  refine qv (vl 0 1 underlying3) ?_
  obtain ⟨a9, rfl, hb10, he11⟩ := q4 (by omega)
  refine qv (vix 1 x0.i underlying49 type5) ?_
  refine qv (fun W hm => rv_load underlying5 rfl rfl ((hm.cell0 (show (a9.add ((x0.i) * 1)).block < B from by rw [add_block]; exact hb10.1)).trans (rdS_u8 he11 (x0.i) (by omega)))) ?_
  refine qv (fun W hm => rv_conv8 underlying5 underlying3 rfl) ?_
  refine qv vadd ?_
  refine qv (fun W hm => rv_and rfl rfl) ?_
  refine qv (fun W hm => rv_assign rfl) ?_
  refine nq' (CM_region (wm (wm ?_)))
  refine wv (fun W hm => rv_nilCheck rfl) ?_
  refine wv (vf underlying115 rfl type3) ?_
  refine wv (vl 0 1 underlying3) ?_
  refine wv (vadN x0.i 1 (by omega)) ?_
  refine wv (fun W hm => rv_nilCheck rfl) ?_
  refine wv (vf underlying115 rfl type3) ?_
  refine WM_storeBox (p := p) (o := 1) (cs' := [.slice (some a9) x0b.length c3, .int .i64 ((x0.i + 1 : Nat) : Int), .int .i64 (IntKind.i64.wrap ((IntKind.i64.wrap (x0.h * 6364136223846793005)) + 1442695040888963407))]) (fun w hm => hm.front (n := 0) rfl) type3 rfl (Nat.le_of_ble_eq_true rfl) rfl rfl rfl rfl (Wd_none rfl) ?_
  refine nt' (sr (wm (wa (nt' (CM_ret ?_)))))
  have he12 := (show spec_l1Byte_m x0b x0 = ((bits .and .i64 (IntKind.i64.wrap ((bits .and .i64 (bits .xor .i64 ((IntKind.i64.wrap ((IntKind.i64.wrap (x0.h * 6364136223846793005)) + 1442695040888963407)) / 2 ^ (33 : Int).toNat) ((IntKind.i64.wrap ((IntKind.i64.wrap (x0.h * 6364136223846793005)) + 1442695040888963407)) / 2 ^ (45 : Int).toNat)) 255) + (IntKind.i64.wrap (gt x0b (x0.i))))) 255), (⟨x0.i + 1, (IntKind.i64.wrap ((IntKind.i64.wrap (x0.h * 6364136223846793005)) + 1442695040888963407))⟩ : Dl1Cur)) from cond_t g8 (rfl))
  refine QM_r1 rfl (RR_tmp rfl) (fun W hm => ⟨(), ?_, ?_⟩)
  ·first | rw [he12] | rfl
  ·rw [he12]; exact hm
 ·have g8 := decide_eq_false h7
  refine CM_condF rfl g8 ?_
  refine CM_skip (QM_then (sr (wm (wa (nt' (CM_ret ?_))))))
  have he13 := (show spec_l1Byte_m x0b x0 = ((bits .and .i64 (bits .xor .i64 ((IntKind.i64.wrap ((IntKind.i64.wrap (x0.h * 6364136223846793005)) + 1442695040888963407)) / 2 ^ (33 : Int).toNat) ((IntKind.i64.wrap ((IntKind.i64.wrap (x0.h * 6364136223846793005)) + 1442695040888963407)) / 2 ^ (45 : Int).toNat)) 255), (⟨x0.i, (IntKind.i64.wrap ((IntKind.i64.wrap (x0.h * 6364136223846793005)) + 1442695040888963407))⟩ : Dl1Cur)) from cond_f g8 (rfl))
  refine QM_r1 rfl (RR_tmp rfl) (fun W hm => ⟨(), ?_, ?_⟩)
  ·first | rw [he13] | rfl
  ·rw [he13]; exact hm

def spec_l1Below_m (x0b : List Int) (x0 : Dl1Cur) (x1 : Int) : (Int × Dl1Cur) :=
 cond (decide (x1 ≤ 0)) (0, x0) (cond (decide (x1 ≤ 256)) ((Int.tmod ((spec_l1Byte_m x0b x0).1) x1), ((spec_l1Byte_m x0b x0).2)) ((Int.tmod (IntKind.i64.wrap ((IntKind.i64.wrap ((IntKind.i64.wrap ((IntKind.i64.wrap (((spec_l1Byte_m x0b x0).1) * 16777216)) + (IntKind.i64.wrap ((spec_l1Byte_m x0b ((spec_l1Byte_m x0b x0).2)).1 * 65536)))) + (IntKind.i64.wrap (((spec_l1Byte_m x0b (spec_l1Byte_m x0b ((spec_l1Byte_m x0b x0).2)).2).1) * 256)))) + (spec_l1Byte_m x0b ((spec_l1Byte_m x0b (spec_l1Byte_m x0b ((spec_l1Byte_m x0b x0).2)).2).2)).1)) x1), (spec_l1Byte_m x0b ((spec_l1Byte_m x0b (spec_l1Byte_m x0b ((spec_l1Byte_m x0b x0).2)).2).2)).2))
theorem cb67 : Cb Tryd.prog 67 := ⟨f67, _, func67, rfl, by decide⟩
theorem spec_l1Below_c (B : Nat) (w0 : World) (is : List It) (w : World) (p : Nat) (z0 : Value) (x0b : List Int) (x0 : Dl1Cur) (r_0 : rdS tU8 w0 B z0 x0b) (x1 : Int) (s_0 : x0b.length ≤ 68719476736) (hm : Mem B w0 (iBox p 115 [z0, .int .i64 ((x0.i : Nat) : Int), .int .i64 x0.h] :: is) w) :
  Calls Tryd.prog 67 #[.pointer (some ⟨p, 0, none⟩), .int .i64 x1] w fun e w' => ∃ x : Unit, e = .returned (.int .i64 ((spec_l1Below_m x0b x0 x1).1)) ∧ Mem B w0 (iBox p 115 [z0, .int .i64 ((((spec_l1Below_m x0b x0 x1).2).i : Nat) : Int), .int .i64 ((spec_l1Below_m x0b x0 x1).2).h] :: is) w' := by
 obtain ⟨m1, A2, c3, rfl, q4, r5⟩ := rdS_op r_0
 refine call_enterW (L := [(0, .pointer (some ⟨p, 0, none⟩)), (1, .int .i64 x1)]) (N := 37) func67 rfl rfl (Nat.le_of_ble_eq_true rfl) (argsL_cons rfl (argsL_cons rfl argsL_nil)) hm ?_
 have l6 : x0b.length ≤ 68719476736 := s_0
 refine sr (wa (nt' (CM_seq (sr (wm ?_)))))
 refine wv (fun W hm => rv_leq rfl rfl) ?_
 refine nt' ?_
 by_cases h7 : x1 ≤ 0
 ·have g8 := decide_eq_true h7
  refine CM_condT rfl g8 ?_
  refine sr (wa (nt' (CM_ret (QM_then_ret ?_))))
  have he9 := (show spec_l1Below_m x0b x0 x1 = (0, x0) from cond_t g8 (rfl))
  refine QM_r1 rfl (RR_tmp rfl) (fun W hm => ⟨(), ?_, ?_⟩)
  ·first | rw [he9] | rfl
  ·rw [he9]; exact hm
 ·have g8 := decide_eq_false h7
  refine CM_condF rfl g8 ?_
  refine CM_skip (QM_then (CM_seq (sr (wm ?_))))
  refine wv (fun W hm => rv_leq rfl rfl) ?_
  refine nt' ?_
  by_cases h10 : x1 ≤ 256
  ·have g11 := decide_eq_true h10
   refine CM_condT rfl g11 ?_
   refine sr (wm ?_)
   refine WM_callW (χ := Unit) (val := fun x => .int .i64 ((spec_l1Byte_m x0b x0).1)) (js := fun x => (iBox p 115 [.slice A2 x0b.length c3, .int .i64 ((((spec_l1Byte_m x0b x0).2).i : Nat) : Int), .int .i64 ((spec_l1Byte_m x0b x0).2).h] :: (is))) (cl_fn cb87 rfl) (fun W hm => spec_l1Byte_c B w0 (is) W p _ x0b x0 r5 s_0 (hm.front (n := 0) rfl)) (Wd_none rfl) (by decide) (fun z12 => ?_)
   refine wm ?_
   refine wv (fun W hm => rv_rem rfl rfl (by omega)) ?_
   refine wa (nt' (CM_ret (QM_then_ret ?_)))
   have he13 := (show spec_l1Below_m x0b x0 x1 = ((Int.tmod ((spec_l1Byte_m x0b x0).1) x1), ((spec_l1Byte_m x0b x0).2)) from cond_f g8 (cond_t g11 (rfl)))
   refine QM_r1 rfl (RR_tmp rfl) (fun W hm => ⟨(), ?_, ?_⟩)
   ·first | rw [he13] | rfl
   ·rw [he13]; exact hm
  ·have g11 := decide_eq_false h10
   refine CM_condF rfl g11 ?_
   refine CM_skip (QM_then (sr (wm ?_)))
   refine WM_callW (χ := Unit) (val := fun x => .int .i64 ((spec_l1Byte_m x0b x0).1)) (js := fun x => (iBox p 115 [.slice A2 x0b.length c3, .int .i64 ((((spec_l1Byte_m x0b x0).2).i : Nat) : Int), .int .i64 ((spec_l1Byte_m x0b x0).2).h] :: (is))) (cl_fn cb87 rfl) (fun W hm => spec_l1Byte_c B w0 (is) W p _ x0b x0 r5 s_0 (hm.front (n := 0) rfl)) (Wd_none rfl) (by decide) (fun z14 => ?_)
   refine wa (nt' (sr (wm ?_)))
   refine WM_callW (χ := Unit) (val := fun x => .int .i64 ((spec_l1Byte_m x0b ((spec_l1Byte_m x0b x0).2)).1)) (js := fun x => (iBox p 115 [.slice A2 x0b.length c3, .int .i64 ((((spec_l1Byte_m x0b ((spec_l1Byte_m x0b x0).2)).2).i : Nat) : Int), .int .i64 ((spec_l1Byte_m x0b ((spec_l1Byte_m x0b x0).2)).2).h] :: (is))) (cl_fn cb87 rfl) (fun W hm => spec_l1Byte_c B w0 (is) W p _ x0b ((spec_l1Byte_m x0b x0).2) r5 s_0 (hm.front (n := 0) rfl)) (Wd_none rfl) (by decide) (fun z15 => ?_)
   obtain ⟨G16, hG16⟩ : ∃ G, G = (spec_l1Byte_m x0b ((spec_l1Byte_m x0b x0).2)) := ⟨_, rfl⟩
   rw [← hG16]
   refine wa (nt' (sr (wm ?_)))
   refine WM_callW (χ := Unit) (val := fun x => .int .i64 ((spec_l1Byte_m x0b G16.2).1)) (js := fun x => (iBox p 115 [.slice A2 x0b.length c3, .int .i64 ((((spec_l1Byte_m x0b G16.2).2).i : Nat) : Int), .int .i64 ((spec_l1Byte_m x0b G16.2).2).h] :: (is))) (cl_fn cb87 rfl) (fun W hm => spec_l1Byte_c B w0 (is) W p _ x0b G16.2 r5 s_0 (hm.front (n := 0) rfl)) (Wd_none rfl) (by decide) (fun z17 => ?_)
   refine wa (nt' (sr (wm ?_)))
   refine WM_callW (χ := Unit) (val := fun x => .int .i64 ((spec_l1Byte_m x0b ((spec_l1Byte_m x0b G16.2).2)).1)) (js := fun x => (iBox p 115 [.slice A2 x0b.length c3, .int .i64 ((((spec_l1Byte_m x0b ((spec_l1Byte_m x0b G16.2).2)).2).i : Nat) : Int), .int .i64 ((spec_l1Byte_m x0b ((spec_l1Byte_m x0b G16.2).2)).2).h] :: (is))) (cl_fn cb87 rfl) (fun W hm => spec_l1Byte_c B w0 (is) W p _ x0b ((spec_l1Byte_m x0b G16.2).2) r5 s_0 (hm.front (n := 0) rfl)) (Wd_none rfl) (by decide) (fun z18 => ?_)
   obtain ⟨G19, hG19⟩ : ∃ G, G = (spec_l1Byte_m x0b ((spec_l1Byte_m x0b G16.2).2)) := ⟨_, rfl⟩
   rw [← hG19]
   refine wa (nt' (sr (wm ?_)))
   refine wv (fun W hm => rv_mul rfl rfl) ?_
   refine wm ?_
   refine wv (fun W hm => rv_mul rfl rfl) ?_
   refine wv vadd ?_
   refine wm ?_
   refine wv (fun W hm => rv_mul rfl rfl) ?_
   refine wv vadd ?_
   refine wm ?_
   refine wv vadd ?_
   refine wm ?_
   refine wv (fun W hm => rv_rem rfl rfl (by omega)) ?_
   refine wa (nt' (CM_ret ?_))
   have he20 := (show spec_l1Below_m x0b x0 x1 = ((Int.tmod (IntKind.i64.wrap ((IntKind.i64.wrap ((IntKind.i64.wrap ((IntKind.i64.wrap (((spec_l1Byte_m x0b x0).1) * 16777216)) + (IntKind.i64.wrap (G16.1 * 65536)))) + (IntKind.i64.wrap (((spec_l1Byte_m x0b G16.2).1) * 256)))) + G19.1)) x1), G19.2) from by subst hG16 hG19; exact cond_f g8 (cond_f g11 (rfl)))
   refine QM_r1 rfl (RR_tmp rfl) (fun W hm => ⟨(), ?_, ?_⟩)
   ·first | rw [he20] | rfl
   ·rw [he20]; exact hm

theorem spec_l1Byte_rng (b : List Int) (D : Dl1Cur) : 0 ≤ (spec_l1Byte_m b D).1 ∧ (spec_l1Byte_m b D).1 ≤ 255 := by
  unfold spec_l1Byte_m
  cases decide (((D.i : Nat) : Int) < ((b.length : Nat) : Int))
  · exact and255 _
  · exact and255 _
theorem spec_l1Below_rng (b : List Int) (D : Dl1Cur) (n : Int) : 0 ≤ (spec_l1Below_m b D n).1 ∧ (0 < n → (spec_l1Below_m b D n).1 < n) ∧ (n ≤ 0 → (spec_l1Below_m b D n).1 = 0) := by
  unfold spec_l1Below_m
  by_cases h : n ≤ 0
  · rw [decide_eq_true h]
    exact ⟨Int.le_refl _, fun h2 => absurd h (by omega), fun _ => rfl⟩
  rw [decide_eq_false h, cond_false]
  by_cases h2 : n ≤ 256
  · rw [decide_eq_true h2, cond_true]
    have h3 := spec_l1Byte_rng b D
    exact ⟨Int.tmod_nonneg _ h3.1, fun _ => Int.tmod_lt_of_pos _ (by omega), fun h4 => absurd h4 h⟩
  · rw [decide_eq_false h2, cond_false]
    have h3 := spec_l1Byte_rng b D
    have h4 := spec_l1Byte_rng b (spec_l1Byte_m b D).2
    have h5 := spec_l1Byte_rng b (spec_l1Byte_m b (spec_l1Byte_m b D).2).2
    have h6 := spec_l1Byte_rng b (spec_l1Byte_m b (spec_l1Byte_m b (spec_l1Byte_m b D).2).2).2
    refine ⟨Int.tmod_nonneg _ ?_, fun _ => Int.tmod_lt_of_pos _ (by omega), fun h4 => absurd h4 h⟩
    rw [wrap_id (n := (spec_l1Byte_m b D).1 * 16777216) (by omega) (by omega), wrap_id (n := (spec_l1Byte_m b (spec_l1Byte_m b D).2).1 * 65536) (by omega) (by omega), wrap_id (n := (spec_l1Byte_m b (spec_l1Byte_m b (spec_l1Byte_m b D).2).2).1 * 256) (by omega) (by omega),
      wrap_id (n := (spec_l1Byte_m b D).1 * 16777216 + (spec_l1Byte_m b (spec_l1Byte_m b D).2).1 * 65536) (by omega) (by omega)]
    rw [wrap_id (n := (spec_l1Byte_m b D).1 * 16777216 + (spec_l1Byte_m b (spec_l1Byte_m b D).2).1 * 65536 + (spec_l1Byte_m b (spec_l1Byte_m b (spec_l1Byte_m b D).2).2).1 * 256) (by omega) (by omega), wrap_id (by omega) (by omega)]
    omega
def spec_l1PickInt_m (x0b : List Int) (x0 : Dl1Cur) (x1 : (List Int)) : (Int × Dl1Cur) :=
 ((gt x1 ((spec_l1Below_m x0b x0 ((x1.length : Nat) : Int)).1.toNat)), (spec_l1Below_m x0b x0 ((x1.length : Nat) : Int)).2)
theorem cb86 : Cb Tryd.prog 86 := ⟨f86, _, func86, rfl, by decide⟩
theorem spec_l1PickInt_c (B : Nat) (w0 : World) (is : List It) (w : World) (p : Nat) (z0 : Value) (x0b : List Int) (x0 : Dl1Cur) (r_0 : rdS tU8 w0 B z0 x0b) (z1 : Value) (x1 : (List Int)) (s_0 : x0b.length ≤ 68719476736) (s_1 : x1.length ≤ 68719476736) (hx1 : 0 < x1.length) (hm : Mem B w0 (iBox p 115 [z0, .int .i64 ((x0.i : Nat) : Int), .int .i64 x0.h] :: iOwn (tSl tInt 3) [z1] x1 :: is) w) :
  Calls Tryd.prog 86 #[.pointer (some ⟨p, 0, none⟩), z1] w fun e w' => ∃ x : Unit, e = .returned (.int .i64 ((spec_l1PickInt_m x0b x0 x1).1)) ∧ Mem B w0 (iBox p 115 [z0, .int .i64 ((((spec_l1PickInt_m x0b x0 x1).2).i : Nat) : Int), .int .i64 ((spec_l1PickInt_m x0b x0 x1).2).h] :: iOwn (tSl tInt 3) [z1] x1 :: is) w' := by
 obtain ⟨m1, A2, c3, rfl, q4, r5⟩ := rdS_op r_0
 refine call_enterW (L := [(0, .pointer (some ⟨p, 0, none⟩)), (1, z1)]) (N := 12) func86 rfl rfl (Nat.le_of_ble_eq_true rfl) (argsL_cons rfl (argsL_cons rfl argsL_nil)) hm ?_
 refine CM_form (n := 1) rfl ?_
 rintro A6 c7 rfl m8
 have l10 : x0b.length ≤ 68719476736 := s_0
 have l11 : x1.length ≤ 68719476736 := s_1
 refine sr (wa (nt' (sr (wm (wm (wm ?_))))))
 refine wv (vlen underlying28) ?_
 refine WM_callW (χ := Unit) (val := fun x => .int .i64 ((spec_l1Below_m x0b x0 ((x1.length : Nat) : Int)).1)) (js := fun x => (iBox p 115 [.slice A2 x0b.length c3, .int .i64 ((((spec_l1Below_m x0b x0 ((x1.length : Nat) : Int)).2).i : Nat) : Int), .int .i64 ((spec_l1Below_m x0b x0 ((x1.length : Nat) : Int)).2).h] :: (iOwn (tSl tInt 3) [.slice A6 x1.length c7] x1 :: is))) (cl_fn cb67 rfl) (fun W hm => spec_l1Below_c B w0 (iOwn (tSl tInt 3) [.slice A6 x1.length c7] x1 :: is) W p _ x0b x0 r5 ((x1.length : Nat) : Int) s_0 (hm.front (n := 0) rfl)) (Wd_none rfl) (by decide) (fun z12 => ?_)
 have hb := spec_l1Below_rng x0b x0 ((x1.length : Nat) : Int)
 obtain ⟨G13, hG13⟩ : ∃ G, G = (spec_l1Below_m x0b x0 ((x1.length : Nat) : Int)) := ⟨_, rfl⟩
 rw [← hG13]
 rw [← hG13] at hb
 refine WM_formO (n := 1) rfl (by omega) ?_
 rintro g14 rfl
 refine wv (fun W hm => rv_indexI (sz := 1) (k := G13.1) underlying28 type3 rfl rfl rfl (by omega) (by omega)) ?_
 refine wv (fun W hm => rv_load underlying3 rfl rfl (hm.ownInt (i := 1) rfl (by omega))) ?_
 refine wa (nt' (CM_ret ?_))
 have he15 := (show spec_l1PickInt_m x0b x0 x1 = ((gt x1 (G13.1.toNat)), G13.2) from by subst hG13; exact rfl)
 refine QM_r1 rfl (RR_tmp rfl) (fun W hm => ⟨(), ?_, ?_⟩)
 ·first | rw [he15] | rfl
 ·rw [he15]; exact hm

def spec_l1Once_m (x0b : List Int) (x0 : Dl1Cur) (x1 : Int) : (Bool × Dl1Cur) :=
 ((((spec_l1Below_m x0b x0 x1).1) == 0), ((spec_l1Below_m x0b x0 x1).2))
theorem cb89 : Cb Tryd.prog 89 := ⟨f89, _, func89, rfl, by decide⟩
theorem spec_l1Once_c (B : Nat) (w0 : World) (is : List It) (w : World) (p : Nat) (z0 : Value) (x0b : List Int) (x0 : Dl1Cur) (r_0 : rdS tU8 w0 B z0 x0b) (x1 : Int) (s_0 : x0b.length ≤ 68719476736) (hm : Mem B w0 (iBox p 115 [z0, .int .i64 ((x0.i : Nat) : Int), .int .i64 x0.h] :: is) w) :
  Calls Tryd.prog 89 #[.pointer (some ⟨p, 0, none⟩), .int .i64 x1] w fun e w' => ∃ x : Unit, e = .returned (.bool ((spec_l1Once_m x0b x0 x1).1)) ∧ Mem B w0 (iBox p 115 [z0, .int .i64 ((((spec_l1Once_m x0b x0 x1).2).i : Nat) : Int), .int .i64 ((spec_l1Once_m x0b x0 x1).2).h] :: is) w' := by
 obtain ⟨m1, A2, c3, rfl, q4, r5⟩ := rdS_op r_0
 refine call_enterW (L := [(0, .pointer (some ⟨p, 0, none⟩)), (1, .int .i64 x1)]) (N := 9) func89 rfl rfl (Nat.le_of_ble_eq_true rfl) (argsL_cons rfl (argsL_cons rfl argsL_nil)) hm ?_
 have l6 : x0b.length ≤ 68719476736 := s_0
 refine sr (wa (nt' (sr (wm (wm ?_)))))
 refine WM_callW (χ := Unit) (val := fun x => .int .i64 ((spec_l1Below_m x0b x0 x1).1)) (js := fun x => (iBox p 115 [.slice A2 x0b.length c3, .int .i64 ((((spec_l1Below_m x0b x0 x1).2).i : Nat) : Int), .int .i64 ((spec_l1Below_m x0b x0 x1).2).h] :: (is))) (cl_fn cb67 rfl) (fun W hm => spec_l1Below_c B w0 (is) W p _ x0b x0 r5 x1 s_0 (hm.front (n := 0) rfl)) (Wd_none rfl) (by decide) (fun z7 => ?_)
 have hb := spec_l1Below_rng x0b x0 x1
 refine wv (fun W hm => rv_eql rfl rfl) ?_
 refine wa (nt' (CM_ret ?_))
 have he8 := (show spec_l1Once_m x0b x0 x1 = ((((spec_l1Below_m x0b x0 x1).1) == 0), ((spec_l1Below_m x0b x0 x1).2)) from rfl)
 refine QM_r1 rfl (RR_tmp rfl) (fun W hm => ⟨(), ?_, ?_⟩)
 ·first | rw [he8] | rfl
 ·rw [he8]; exact hm

def spec_l4Query_b2 (x0b : List Int) (k57 : Nat) (s59 : Int) (s60 : Nat) (s61 : Int) (d63 : (List Int)) : (DQuery × Dl1Cur) ⊕ ((Int × Nat × Int × (List Int)) ⊕ (Int × Nat × Int × (List Int))) :=
 cond (decide (0 < s59)) (Sum.inr (Sum.inr ((IntKind.i64.wrap (s59 - 1)), (spec_l1Below_m x0b (⟨s60, s61⟩ : Dl1Cur) 3).2.i, (spec_l1Below_m x0b (⟨s60, s61⟩ : Dl1Cur) 3).2.h, (d63 ++ [(spec_l1Below_m x0b (⟨s60, s61⟩ : Dl1Cur) 3).1])))) (Sum.inr (Sum.inl (s59, s60, s61, d63)))
def spec_l4Query_b1 (x0b : List Int) (x0 : Dl1Cur) (k14 : Nat) (s16 : Nat) (s17 : Int) (d19 : (List DCond)) : (DQuery × Dl1Cur) ⊕ (Nat × Int × (List DCond)) :=
 cond ((spec_l1Once_m x0b (⟨s16, s17⟩ : Dl1Cur) 2).1) (cond ((spec_l1Once_m x0b (spec_l1Below_m x0b (spec_l1Below_m x0b (spec_l1Once_m x0b (⟨s16, s17⟩ : Dl1Cur) 2).2 (spec_l1PickInt_m x0b ((spec_l1Below_m x0b x0 4).2) [3, 6, 100]).1).2 (spec_l1PickInt_m x0b ((spec_l1Below_m x0b x0 4).2) [3, 6, 100]).1).2 3).1) (Sum.inr (((spec_l1Once_m x0b (spec_l1Below_m x0b (spec_l1Below_m x0b (spec_l1Once_m x0b (⟨s16, s17⟩ : Dl1Cur) 2).2 (spec_l1PickInt_m x0b ((spec_l1Below_m x0b x0 4).2) [3, 6, 100]).1).2 (spec_l1PickInt_m x0b ((spec_l1Below_m x0b x0 4).2) [3, 6, 100]).1).2 3).2).i, ((spec_l1Once_m x0b (spec_l1Below_m x0b (spec_l1Below_m x0b (spec_l1Once_m x0b (⟨s16, s17⟩ : Dl1Cur) 2).2 (spec_l1PickInt_m x0b ((spec_l1Below_m x0b x0 4).2) [3, 6, 100]).1).2 (spec_l1PickInt_m x0b ((spec_l1Below_m x0b x0 4).2) [3, 6, 100]).1).2 3).2).h, (d19 ++ [(⟨((k14 : Nat) : Int), (spec_l1Below_m x0b (spec_l1Once_m x0b (⟨s16, s17⟩ : Dl1Cur) 2).2 (spec_l1PickInt_m x0b ((spec_l1Below_m x0b x0 4).2) [3, 6, 100]).1).1, (spec_l1Below_m x0b (spec_l1Once_m x0b (⟨s16, s17⟩ : Dl1Cur) 2).2 (spec_l1PickInt_m x0b ((spec_l1Below_m x0b x0 4).2) [3, 6, 100]).1).1⟩ : DCond)]))) (Sum.inr (((spec_l1Once_m x0b (spec_l1Below_m x0b (spec_l1Below_m x0b (spec_l1Once_m x0b (⟨s16, s17⟩ : Dl1Cur) 2).2 (spec_l1PickInt_m x0b ((spec_l1Below_m x0b x0 4).2) [3, 6, 100]).1).2 (spec_l1PickInt_m x0b ((spec_l1Below_m x0b x0 4).2) [3, 6, 100]).1).2 3).2).i, ((spec_l1Once_m x0b (spec_l1Below_m x0b (spec_l1Below_m x0b (spec_l1Once_m x0b (⟨s16, s17⟩ : Dl1Cur) 2).2 (spec_l1PickInt_m x0b ((spec_l1Below_m x0b x0 4).2) [3, 6, 100]).1).2 (spec_l1PickInt_m x0b ((spec_l1Below_m x0b x0 4).2) [3, 6, 100]).1).2 3).2).h, (d19 ++ [(⟨((k14 : Nat) : Int), (spec_l1Below_m x0b (spec_l1Once_m x0b (⟨s16, s17⟩ : Dl1Cur) 2).2 (spec_l1PickInt_m x0b ((spec_l1Below_m x0b x0 4).2) [3, 6, 100]).1).1, (if (IntKind.i64.wrap ((spec_l1Below_m x0b (spec_l1Once_m x0b (⟨s16, s17⟩ : Dl1Cur) 2).2 (spec_l1PickInt_m x0b ((spec_l1Below_m x0b x0 4).2) [3, 6, 100]).1).1 + (spec_l1Below_m x0b (spec_l1Below_m x0b (spec_l1Once_m x0b (⟨s16, s17⟩ : Dl1Cur) 2).2 (spec_l1PickInt_m x0b ((spec_l1Below_m x0b x0 4).2) [3, 6, 100]).1).2 (spec_l1PickInt_m x0b ((spec_l1Below_m x0b x0 4).2) [3, 6, 100]).1).1)) < 99 then (IntKind.i64.wrap ((spec_l1Below_m x0b (spec_l1Once_m x0b (⟨s16, s17⟩ : Dl1Cur) 2).2 (spec_l1PickInt_m x0b ((spec_l1Below_m x0b x0 4).2) [3, 6, 100]).1).1 + (spec_l1Below_m x0b (spec_l1Below_m x0b (spec_l1Once_m x0b (⟨s16, s17⟩ : Dl1Cur) 2).2 (spec_l1PickInt_m x0b ((spec_l1Below_m x0b x0 4).2) [3, 6, 100]).1).2 (spec_l1PickInt_m x0b ((spec_l1Below_m x0b x0 4).2) [3, 6, 100]).1).1)) else 99)⟩ : DCond)])))) (Sum.inr ((spec_l1Once_m x0b (⟨s16, s17⟩ : Dl1Cur) 2).2.i, (spec_l1Once_m x0b (⟨s16, s17⟩ : Dl1Cur) 2).2.h, d19))
def spec_l4Query_m (x0b : List Int) (x0 : Dl1Cur) (x1 : Int) : (DQuery × Dl1Cur) :=
 Sum.elim id (fun (s1_ : Nat × Int × (List DCond)) => Sum.elim id (fun (s : Int × Nat × Int × (List Int)) => ((⟨x1, (spec_l1Below_m x0b x0 4).1, s1_.2.2, s.2.2.2⟩ : DQuery), (⟨s.2.1, s.2.2.1⟩ : Dl1Cur))) (rngb (R := (DQuery × Dl1Cur)) (fun k (s : Int × Nat × Int × (List Int)) => spec_l4Query_b2 x0b k s.1 s.2.1 s.2.2.1 s.2.2.2) (((IntKind.i64.wrap (1 + (spec_l1Below_m x0b (⟨s1_.1, s1_.2.1⟩ : Dl1Cur) 3).1))).toNat + 1 - 0) 0 ((IntKind.i64.wrap (1 + (spec_l1Below_m x0b (⟨s1_.1, s1_.2.1⟩ : Dl1Cur) 3).1)), (spec_l1Below_m x0b (⟨s1_.1, s1_.2.1⟩ : Dl1Cur) 3).2.i, (spec_l1Below_m x0b (⟨s1_.1, s1_.2.1⟩ : Dl1Cur) 3).2.h, []))) (rng (R := (DQuery × Dl1Cur)) (fun k (s : Nat × Int × (List DCond)) => spec_l4Query_b1 x0b x0 k s.1 s.2.1 s.2.2) (3 - 0) 0 ((spec_l1PickInt_m x0b ((spec_l1Below_m x0b x0 4).2) [3, 6, 100]).2.i, (spec_l1PickInt_m x0b ((spec_l1Below_m x0b x0 4).2) [3, 6, 100]).2.h, []))
theorem cb117 : Cb Tryd.prog 117 := ⟨f117, _, func117, rfl, by decide⟩
theorem spec_l4Query_c (B : Nat) (w0 : World) (is : List It) (w : World) (p : Nat) (z0 : Value) (x0b : List Int) (x0 : Dl1Cur) (r_0 : rdS tU8 w0 B z0 x0b) (x1 : Int) (s_0 : x0b.length ≤ 68719476736) (hm : Mem B w0 (iBox p 115 [z0, .int .i64 ((x0.i : Nat) : Int), .int .i64 x0.h] :: is) w) :
  Calls Tryd.prog 117 #[.pointer (some ⟨p, 0, none⟩), .int .i64 x1] w fun e w' => ∃ x : List Value, e = .returned (.agg x.toArray) ∧ Mem B w0 (iOwn tyQuery x ((spec_l4Query_m x0b x0 x1).1) :: iBox p 115 [z0, .int .i64 ((((spec_l4Query_m x0b x0 x1).2).i : Nat) : Int), .int .i64 ((spec_l4Query_m x0b x0 x1).2).h] :: is) w' := by
 obtain ⟨m1, A2, c3, rfl, q4, r5⟩ := rdS_op r_0
 refine call_enterW (L := [(0, .pointer (some ⟨p, 0, none⟩)), (1, .int .i64 x1)]) (N := 62) func117 rfl rfl (Nat.le_of_ble_eq_true rfl) (argsL_cons rfl (argsL_cons rfl argsL_nil)) hm ?_
 have l6 : x0b.length ≤ 68719476736 := s_0
 refine sr ?_
 refine WM_alloc type150 rfl (Wd_none rfl) (by decide) (fun p7 => ?_)
 refine nt' (sr (wm (wm ?_)))
 let K5 : List Value := [.int .i64 0, .int .i64 0, .slice none 0 0, .slice none 0 0]
 refine WM_callW (χ := Unit) (val := fun x => .int .i64 ((spec_l1Below_m x0b x0 4).1)) (js := fun x => (iBox p 115 [.slice A2 x0b.length c3, .int .i64 ((((spec_l1Below_m x0b x0 4).2).i : Nat) : Int), .int .i64 ((spec_l1Below_m x0b x0 4).2).h] :: (iBox p7 150 K5 :: is))) (cl_fn cb67 rfl) (fun W hm => spec_l1Below_c B w0 (iBox p7 150 K5 :: is) W p _ x0b x0 r5 4 s_0 (hm.front (n := 1) rfl)) (Wd_none rfl) (by decide) (fun z8 => ?_)
 have hb := spec_l1Below_rng x0b x0 4
 let K6 : List Value := [.int .i64 x1, .int .i64 ((spec_l1Below_m x0b x0 4).1), .slice none 0 0, .slice none 0 0]
 refine wv (fun W hm => rv_build (cs := K6) rfl (by kernel_rfl)) ?_
 refine WM_alloc type150 rfl (Wd_none rfl) (by decide) (fun p9 => ?_)
 refine WM_storeBox (p := p9) (o := 0) (cs' := K6) (fun w hm => hm.front (n := 0) rfl) type150 rfl (Nat.le_of_ble_eq_true rfl) rfl rfl rfl rfl (Wd_none rfl) ?_
 refine nt' (sr (wm ?_))
 refine WM_build (cs := [.int .i64 3, .int .i64 6, .int .i64 100]) underlying28 type3 rfl (by decide) (by decide) rfl (by kernel_rfl) (Wd_none rfl) (by decide) (fun p10 => ?_)
 refine WM_items (fun W hm => Mem.litOwn (E := tInt) (xs := [3, 6, 100]) rfl (show 3 ≤ maxLen from by decide) (fun _ => (els_cons (E := tInt) (L1 := []) tInt_own (els_cons (E := tInt) (L1 := []) tInt_own (els_cons (E := tInt) (L1 := []) tInt_own els_nil)))) (hm.front (n := 0) rfl)) ?_
 let I15 : It := iOwn (tSl tInt 3) [.slice (some ⟨p10, 0, none⟩) 3 3] [3, 6, 100]
 refine WM_callW (χ := Unit) (val := fun x => .int .i64 ((spec_l1PickInt_m x0b ((spec_l1Below_m x0b x0 4).2) [3, 6, 100]).1)) (js := fun x => (iBox p 115 [.slice A2 x0b.length c3, .int .i64 ((((spec_l1PickInt_m x0b ((spec_l1Below_m x0b x0 4).2) [3, 6, 100]).2).i : Nat) : Int), .int .i64 ((spec_l1PickInt_m x0b ((spec_l1Below_m x0b x0 4).2) [3, 6, 100]).2).h] :: I15 :: (iBox p9 150 K6 :: iBox p7 150 K5 :: is))) (cl_fn cb86 rfl) (fun W hm => spec_l1PickInt_c B w0 (iBox p9 150 K6 :: iBox p7 150 K5 :: is) W p _ x0b ((spec_l1Below_m x0b x0 4).2) r5 _ [3, 6, 100] s_0 (Nat.le_of_ble_eq_true rfl) (by first | decide | exact Nat.succ_pos _) ((hm.front (n := 0) rfl).front (n := 2) rfl)) (Wd_none rfl) (by decide) (fun z12 => ?_)
 obtain ⟨G13, hG13⟩ : ∃ G, G = (spec_l1PickInt_m x0b ((spec_l1Below_m x0b x0 4).2) [3, 6, 100]) := ⟨_, rfl⟩
 rw [← hG13]
 refine wa (nt' (CM_seq (sr (wa (nt' (CM_block ?_))))))
 let K7 : List Value := [.slice A2 x0b.length c3, .int .i64 ((G13.2.i : Nat) : Int), .int .i64 G13.2.h]
 refine CM_items (js := (iOwn (tSl tyCond 165) [.slice none 0 0] [] :: iBox p 115 K7 :: I15 :: iBox p9 150 K6 :: iBox p7 150 K5 :: is)) (fun W hm => hm.addNil (E := tyCond) (e := 165)) ?_
 refine CM_items (js := (iBox p 115 K7 :: I15 :: iBox p9 150 K6 :: iBox p7 150 K5 :: iOwn (tSl tyCond 165) [.slice none 0 0] [] :: is)) (fun W hm => ((((hm.front (n := 4) rfl).front (n := 4) rfl).front (n := 4) rfl).front (n := 4) rfl)) ?_
 let F1 := fun k (s : Nat × Int × (List DCond)) => spec_l4Query_b1 x0b x0 k s.1 s.2.1 s.2.2
 let R3 := rng (R := (DQuery × Dl1Cur)) F1
 refine CM_loop (σ := Nat × (Nat × Int × (List DCond)) × (Option Addr × Nat)) (fun s => [(0, .pointer (some (⟨p, 0, none⟩ : Addr))), (4, .pointer (some (⟨p7, 0, none⟩ : Addr))), (5, .pointer (some (⟨p9, 0, none⟩ : Addr))), (6, .int .i64 G13.1), (7, .int .i64 ((s.1 : Nat) : Int))]) (fun s => (iBox p 115 [.slice A2 x0b.length c3, .int .i64 ((s.2.1.1 : Nat) : Int), .int .i64 s.2.1.2.1] :: I15 :: iBox p9 150 [.int .i64 x1, .int .i64 ((spec_l1Below_m x0b x0 4).1), .slice s.2.2.1 s.2.1.2.2.length s.2.2.2, .slice none 0 0] :: iBox p7 150 K5 :: iOwn (tSl tyCond 165) [.slice s.2.2.1 s.2.1.2.2.length s.2.2.2] s.2.1.2.2 :: is)) (fun s => s.1 ≤ 3 ∧ R3 (3 - s.1) s.1 s.2.1 = R3 (3 - 0) 0 (G13.2.i, G13.2.h, []) ∧ s.2.1.2.2.length ≤ 0 + s.1) (fun s => 3 - s.1) (0, (G13.2.i, G13.2.h, []), (none, 0)) sl5 (fun W hm => hm) ⟨(by omega), rfl, Nat.le_refl _⟩ ?_
 rintro ⟨k14, ⟨s16, s17, d19⟩, ⟨A20, c21⟩⟩ H24
 obtain ⟨hk22, hF23, hi25⟩ : k14 ≤ 3 ∧ R3 (3 - k14) k14 (s16, s17, d19) = R3 (3 - 0) 0 (G13.2.i, G13.2.h, []) ∧ d19.length ≤ 0 + k14 := H24
 let K8 : List Value := [.int .i64 x1, .int .i64 ((spec_l1Below_m x0b x0 4).1), .slice A20 d19.length c21, .slice none 0 0]
 let I16 : It := iOwn (tSl tyCond 165) [.slice A20 d19.length c21] d19
 show CM Tryd.prog 62 _ _ _ _ [(0, .pointer (some (⟨p, 0, none⟩ : Addr))), (4, .pointer (some (⟨p7, 0, none⟩ : Addr))), (5, .pointer (some (⟨p9, 0, none⟩ : Addr))), (6, .int .i64 G13.1), (7, .int .i64 ((k14 : Nat) : Int))] (iBox p 115 [.slice A2 x0b.length c3, .int .i64 ((s16 : Nat) : Int), .int .i64 s17] :: I15 :: iBox p9 150 K8 :: iBox p7 150 K5 :: I16 :: is)
 refine CM_seq (sr (wm ?_))
 refine wv vlss ?_
 refine nt' ?_
 by_cases hl26 : k14 < 3
 ·have g27 : (decide (((k14 : Nat) : Int) < 3)) = true := decide_eq_true (by omega)
  refine CM_condT rfl g27 ?_
  refine CM_skip (QM_then (CM_seq (CM_block (sr (wm ?_)))))
  refine WM_callW (χ := Unit) (val := fun x => .bool ((spec_l1Once_m x0b (⟨s16, s17⟩ : Dl1Cur) 2).1)) (js := fun x => (iBox p 115 [.slice A2 x0b.length c3, .int .i64 ((((spec_l1Once_m x0b (⟨s16, s17⟩ : Dl1Cur) 2).2).i : Nat) : Int), .int .i64 ((spec_l1Once_m x0b (⟨s16, s17⟩ : Dl1Cur) 2).2).h] :: (I15 :: iBox p9 150 K8 :: iBox p7 150 K5 :: I16 :: is))) (cl_fn cb89 rfl) (fun W hm => spec_l1Once_c B w0 (I15 :: iBox p9 150 K8 :: iBox p7 150 K5 :: I16 :: is) W p _ x0b (⟨s16, s17⟩ : Dl1Cur) r5 2 s_0 (hm.front (n := 0) rfl)) (Wd_none rfl) (by decide) (fun z28 => ?_)
  obtain ⟨G29, hG29⟩ : ∃ G, G = (spec_l1Once_m x0b (⟨s16, s17⟩ : Dl1Cur) 2) := ⟨_, rfl⟩
  rw [← hG29]
  refine nt' ?_
  rcases Bool.eq_false_or_eq_true G29.1 with g31 | g31
  ·
   refine CM_condT rfl g31 ?_
   refine sr (wm (wm ?_))
   refine WM_callW (χ := Unit) (val := fun x => .int .i64 ((spec_l1Below_m x0b G29.2 G13.1).1)) (js := fun x => (iBox p 115 [.slice A2 x0b.length c3, .int .i64 ((((spec_l1Below_m x0b G29.2 G13.1).2).i : Nat) : Int), .int .i64 ((spec_l1Below_m x0b G29.2 G13.1).2).h] :: (I15 :: iBox p9 150 K8 :: iBox p7 150 K5 :: I16 :: is))) (cl_fn cb67 rfl) (fun W hm => spec_l1Below_c B w0 (I15 :: iBox p9 150 K8 :: iBox p7 150 K5 :: I16 :: is) W p _ x0b G29.2 r5 G13.1 s_0 (hm.front (n := 0) rfl)) (Wd_none rfl) (by decide) (fun z32 => ?_)
   have hb := spec_l1Below_rng x0b G29.2 G13.1
   obtain ⟨G33, hG33⟩ : ∃ G, G = (spec_l1Below_m x0b G29.2 G13.1) := ⟨_, rfl⟩
   rw [← hG33]
   rw [← hG33] at hb
   refine wa (nt' (sr (wm (wm (wm ?_)))))
   refine WM_callW (χ := Unit) (val := fun x => .int .i64 ((spec_l1Below_m x0b G33.2 G13.1).1)) (js := fun x => (iBox p 115 [.slice A2 x0b.length c3, .int .i64 ((((spec_l1Below_m x0b G33.2 G13.1).2).i : Nat) : Int), .int .i64 ((spec_l1Below_m x0b G33.2 G13.1).2).h] :: (I15 :: iBox p9 150 K8 :: iBox p7 150 K5 :: I16 :: is))) (cl_fn cb67 rfl) (fun W hm => spec_l1Below_c B w0 (I15 :: iBox p9 150 K8 :: iBox p7 150 K5 :: I16 :: is) W p _ x0b G33.2 r5 G13.1 s_0 (hm.front (n := 0) rfl)) (Wd_none rfl) (by decide) (fun z34 => ?_)
   have hb := spec_l1Below_rng x0b G33.2 G13.1
   obtain ⟨G35, hG35⟩ : ∃ G, G = (spec_l1Below_m x0b G33.2 G13.1) := ⟨_, rfl⟩
   rw [← hG35]
   rw [← hG35] at hb
   refine wv vadd ?_
   refine wv (fun W hm => rv_min rfl rfl) ?_
   refine wa (nt' (CM_seq (sr (wm ?_))))
   refine WM_callW (χ := Unit) (val := fun x => .bool ((spec_l1Once_m x0b G35.2 3).1)) (js := fun x => (iBox p 115 [.slice A2 x0b.length c3, .int .i64 ((((spec_l1Once_m x0b G35.2 3).2).i : Nat) : Int), .int .i64 ((spec_l1Once_m x0b G35.2 3).2).h] :: (I15 :: iBox p9 150 K8 :: iBox p7 150 K5 :: I16 :: is))) (cl_fn cb89 rfl) (fun W hm => spec_l1Once_c B w0 (I15 :: iBox p9 150 K8 :: iBox p7 150 K5 :: I16 :: is) W p _ x0b G35.2 r5 3 s_0 (hm.front (n := 0) rfl)) (Wd_none rfl) (by decide) (fun z36 => ?_)
   refine nt' ?_
   rcases Bool.eq_false_or_eq_true ((spec_l1Once_m x0b G35.2 3).1) with g38 | g38
   ·
    refine CM_condT rfl g38 ?_
    refine CM_region (wm (wa (nt' (CM_region ?_))))
    refine wv (vf underlying150 rfl type148) ?_
    refine wv (vl 2 2 underlying148) ?_
    refine wm (wm (wm ?_))
    let K9 : List Value := [.int .i64 ((k14 : Nat) : Int), .int .i64 G33.1, .int .i64 G33.1]
    refine wv (fun W hm => rv_build (cs := K9) rfl (by kernel_rfl)) ?_
    refine WM_build (cs := K9) underlying148 type165 rfl (by decide) (by decide) rfl (by kernel_rfl) (Wd_none rfl) (by decide) (fun p39 => ?_)
    refine ap1 tyCond 165 (.slice A20 d19.length c21) d19 (⟨((k14 : Nat) : Int), G33.1, G33.1⟩ : DCond) [] (iBox p 115 [.slice A2 x0b.length c3, .int .i64 ((((spec_l1Once_m x0b G35.2 3).2).i : Nat) : Int), .int .i64 (((spec_l1Once_m x0b G35.2 3).2).h)] :: I15 :: iBox p9 150 K8 :: iBox p7 150 K5 :: is) K9 (fun W hm => ((hm.front (n := 5) rfl).front (n := 1) rfl)) (fun _ _ hs => by cases (Sep.nil hs); exact (els_cons (tyCond_join (x := (⟨((k14 : Nat) : Int), G33.1, G33.1⟩ : DCond)) (L := []) rfl) els_nil)) underlying148 type165 (show (d19.length + 1) * 24 ≤ 140737488355328 from by omega) (fun v40 => ?_)
    refine WM_form (n := 0) rfl ?_
    rintro A41 c42 rfl m43
    refine wv (vf underlying150 rfl type148) ?_
    refine WM_storeBox (p := p9) (o := 2) (cs' := [.int .i64 x1, .int .i64 ((spec_l1Below_m x0b x0 4).1), .slice A41 (d19 ++ [(⟨((k14 : Nat) : Int), G33.1, G33.1⟩ : DCond)]).length c42, .slice none 0 0]) (fun w hm => hm.front (n := 3) rfl) type148 rfl (Nat.le_of_ble_eq_true rfl) rfl rfl rfl rfl (Wd_none rfl) ?_
    refine WM_nil (QM_block_normal (QM_then (CM_region (wm ?_))))
    refine wv (vadN k14 1 (by omega)) ?_
    refine wa (WM_nil ?_)
    have hn45 := rng_next (R := (DQuery × Dl1Cur)) (body := F1) (k := k14) (s := (s16, s17, d19)) (s' := (((spec_l1Once_m x0b G35.2 3).2).i, ((spec_l1Once_m x0b G35.2 3).2).h, (d19 ++ [(⟨((k14 : Nat) : Int), G33.1, G33.1⟩ : DCond)]))) (show k14 < 3 from by omega) (by subst hG13 hG29 hG33 hG35; exact cond_t g31 (cond_t g38 (rfl))) hF23
    exact QM_round (k14 + 1, (((spec_l1Once_m x0b G35.2 3).2).i, ((spec_l1Once_m x0b G35.2 3).2).h, (d19 ++ [(⟨((k14 : Nat) : Int), G33.1, G33.1⟩ : DCond)])), (A41, c42)) sl5 (fun W hm => (((((hm.front (n := 1) rfl).front (n := 4) rfl).front (n := 2) rfl).front (n := 4) rfl).front (n := 4) rfl)) ⟨(by omega), hn45, (show (d19 ++ [(⟨((k14 : Nat) : Int), G33.1, G33.1⟩ : DCond)]).length ≤ 0 + (k14 + 1) from by first | omega | (simp only [List.length_append, List.length_cons, List.length_nil] at *; omega))⟩ (rl (by omega))
   ·
    refine CM_condF rfl g38 ?_
    refine CM_skip (QM_then (CM_region ?_))
    refine wv (vf underlying150 rfl type148) ?_
    refine wv (vl 2 2 underlying148) ?_
    refine wm (wm (wm ?_))
    let K10 : List Value := [.int .i64 ((k14 : Nat) : Int), .int .i64 G33.1, .int .i64 (if (IntKind.i64.wrap (G33.1 + G35.1)) < 99 then (IntKind.i64.wrap (G33.1 + G35.1)) else 99)]
    refine wv (fun W hm => rv_build (cs := K10) rfl (by kernel_rfl)) ?_
    refine WM_build (cs := K10) underlying148 type165 rfl (by decide) (by decide) rfl (by kernel_rfl) (Wd_none rfl) (by decide) (fun p46 => ?_)
    refine ap1 tyCond 165 (.slice A20 d19.length c21) d19 (⟨((k14 : Nat) : Int), G33.1, (if (IntKind.i64.wrap (G33.1 + G35.1)) < 99 then (IntKind.i64.wrap (G33.1 + G35.1)) else 99)⟩ : DCond) [] (iBox p 115 [.slice A2 x0b.length c3, .int .i64 ((((spec_l1Once_m x0b G35.2 3).2).i : Nat) : Int), .int .i64 (((spec_l1Once_m x0b G35.2 3).2).h)] :: I15 :: iBox p9 150 K8 :: iBox p7 150 K5 :: is) K10 (fun W hm => ((hm.front (n := 5) rfl).front (n := 1) rfl)) (fun _ _ hs => by cases (Sep.nil hs); exact (els_cons (tyCond_join (x := (⟨((k14 : Nat) : Int), G33.1, (if (IntKind.i64.wrap (G33.1 + G35.1)) < 99 then (IntKind.i64.wrap (G33.1 + G35.1)) else 99)⟩ : DCond)) (L := []) rfl) els_nil)) underlying148 type165 (show (d19.length + 1) * 24 ≤ 140737488355328 from by omega) (fun v47 => ?_)
    refine WM_form (n := 0) rfl ?_
    rintro A48 c49 rfl m50
    refine wv (vf underlying150 rfl type148) ?_
    refine WM_storeBox (p := p9) (o := 2) (cs' := [.int .i64 x1, .int .i64 ((spec_l1Below_m x0b x0 4).1), .slice A48 (d19 ++ [(⟨((k14 : Nat) : Int), G33.1, (if (IntKind.i64.wrap (G33.1 + G35.1)) < 99 then (IntKind.i64.wrap (G33.1 + G35.1)) else 99)⟩ : DCond)]).length c49, .slice none 0 0]) (fun w hm => hm.front (n := 3) rfl) type148 rfl (Nat.le_of_ble_eq_true rfl) rfl rfl rfl rfl (Wd_none rfl) ?_
    refine WM_nil (QM_block_normal (QM_then (CM_region (wm ?_))))
    refine wv (vadN k14 1 (by omega)) ?_
    refine wa (WM_nil ?_)
    have hn52 := rng_next (R := (DQuery × Dl1Cur)) (body := F1) (k := k14) (s := (s16, s17, d19)) (s' := (((spec_l1Once_m x0b G35.2 3).2).i, ((spec_l1Once_m x0b G35.2 3).2).h, (d19 ++ [(⟨((k14 : Nat) : Int), G33.1, (if (IntKind.i64.wrap (G33.1 + G35.1)) < 99 then (IntKind.i64.wrap (G33.1 + G35.1)) else 99)⟩ : DCond)]))) (show k14 < 3 from by omega) (by subst hG13 hG29 hG33 hG35; exact cond_t g31 (cond_f g38 (rfl))) hF23
    exact QM_round (k14 + 1, (((spec_l1Once_m x0b G35.2 3).2).i, ((spec_l1Once_m x0b G35.2 3).2).h, (d19 ++ [(⟨((k14 : Nat) : Int), G33.1, (if (IntKind.i64.wrap (G33.1 + G35.1)) < 99 then (IntKind.i64.wrap (G33.1 + G35.1)) else 99)⟩ : DCond)])), (A48, c49)) sl5 (fun W hm => (((((hm.front (n := 1) rfl).front (n := 4) rfl).front (n := 2) rfl).front (n := 4) rfl).front (n := 4) rfl)) ⟨(by omega), hn52, (show (d19 ++ [(⟨((k14 : Nat) : Int), G33.1, (if (IntKind.i64.wrap (G33.1 + G35.1)) < 99 then (IntKind.i64.wrap (G33.1 + G35.1)) else 99)⟩ : DCond)]).length ≤ 0 + (k14 + 1) from by first | omega | (simp only [List.length_append, List.length_cons, List.length_nil] at *; omega))⟩ (rl (by omega))
  ·
   refine CM_condF rfl g31 ?_
   refine CM_skip (QM_block_normal (QM_then (CM_region (wm ?_))))
   refine wv (vadN k14 1 (by omega)) ?_
   refine wa (WM_nil ?_)
   have hn53 := rng_next (R := (DQuery × Dl1Cur)) (body := F1) (k := k14) (s := (s16, s17, d19)) (s' := (G29.2.i, G29.2.h, d19)) (show k14 < 3 from by omega) (by subst hG13 hG29; exact cond_f g31 (rfl)) hF23
   exact QM_round (k14 + 1, (G29.2.i, G29.2.h, d19), (A20, c21)) sl5 (fun W hm => hm) ⟨(by omega), hn53, (show d19.length ≤ 0 + (k14 + 1) from by first | omega | (simp only [List.length_append, List.length_cons, List.length_nil] at *; omega))⟩ (rl (by omega))
 ·have g27 : (decide (((k14 : Nat) : Int) < 3)) = false := decide_eq_false (by omega)
  refine CM_condF rfl g27 ?_
  refine CM_exit (QM_then_exit (QM_then_exit ?_))
  have hE54 : R3 (3 - 0) 0 (G13.2.i, G13.2.h, []) = Sum.inr (s16, s17, d19) := rng_end hl26 hF23
  refine QM_block_hit (QM_then (CM_seq (sr (wm ?_))))
  refine WM_callW (χ := Unit) (val := fun x => .int .i64 ((spec_l1Below_m x0b (⟨s16, s17⟩ : Dl1Cur) 3).1)) (js := fun x => (iBox p 115 [.slice A2 x0b.length c3, .int .i64 ((((spec_l1Below_m x0b (⟨s16, s17⟩ : Dl1Cur) 3).2).i : Nat) : Int), .int .i64 ((spec_l1Below_m x0b (⟨s16, s17⟩ : Dl1Cur) 3).2).h] :: (I15 :: iBox p9 150 K8 :: iBox p7 150 K5 :: I16 :: is))) (cl_fn cb67 rfl) (fun W hm => spec_l1Below_c B w0 (I15 :: iBox p9 150 K8 :: iBox p7 150 K5 :: I16 :: is) W p _ x0b (⟨s16, s17⟩ : Dl1Cur) r5 3 s_0 (hm.front (n := 0) rfl)) (Wd_none rfl) (by decide) (fun z55 => ?_)
  have hb := spec_l1Below_rng x0b (⟨s16, s17⟩ : Dl1Cur) 3
  have hw5 := wrap_id (n := 1 + (spec_l1Below_m x0b (⟨s16, s17⟩ : Dl1Cur) 3).1) (by omega) (by omega)
  obtain ⟨G56, hG56⟩ : ∃ G, G = (spec_l1Below_m x0b (⟨s16, s17⟩ : Dl1Cur) 3) := ⟨_, rfl⟩
  rw [← hG56]
  rw [← hG56] at hb
  rw [← hG56] at hw5
  refine wv vadd ?_
  refine wa (nt' ?_)
  let K11 : List Value := [.slice A2 x0b.length c3, .int .i64 ((G56.2.i : Nat) : Int), .int .i64 G56.2.h]
  refine CM_items (js := (iOwn (tSl tInt 3) [.slice none 0 0] [] :: iBox p 115 K11 :: I15 :: iBox p9 150 K8 :: iBox p7 150 K5 :: I16 :: is)) (fun W hm => hm.addNil (E := tInt) (e := 3)) ?_
  refine CM_items (js := (iBox p 115 K11 :: I15 :: iBox p9 150 K8 :: iBox p7 150 K5 :: I16 :: iOwn (tSl tInt 3) [.slice none 0 0] [] :: is)) (fun W hm => (((((hm.front (n := 5) rfl).front (n := 5) rfl).front (n := 5) rfl).front (n := 5) rfl).front (n := 5) rfl)) ?_
  let F2 := fun k (s : Int × Nat × Int × (List Int)) => spec_l4Query_b2 x0b k s.1 s.2.1 s.2.2.1 s.2.2.2
  let R4 := rngb (R := (DQuery × Dl1Cur)) F2
  refine CM_cut (σ := (Int × Nat × Int × (List Int)) × (Option Addr × Nat)) (fun s => [(4, .pointer (some (⟨p7, 0, none⟩ : Addr))), (5, .pointer (some (⟨p9, 0, none⟩ : Addr)))]) (fun s => (iBox p 115 [.slice A2 x0b.length c3, .int .i64 ((s.1.2.1 : Nat) : Int), .int .i64 s.1.2.2.1] :: I15 :: iBox p9 150 [.int .i64 x1, .int .i64 ((spec_l1Below_m x0b x0 4).1), .slice A20 d19.length c21, .slice s.2.1 s.1.2.2.2.length s.2.2] :: iBox p7 150 K5 :: I16 :: iOwn (tSl tInt 3) [.slice s.2.1 s.1.2.2.2.length s.2.2] s.1.2.2.2 :: is)) (fun s => R4 (((IntKind.i64.wrap (1 + G56.1))).toNat + 1 - 0) 0 ((IntKind.i64.wrap (1 + G56.1)), G56.2.i, G56.2.h, []) = Sum.inr s.1) ?_ ?_
  ·
   refine CM_block ?_
   refine CM_loop (σ := Nat × (Int × Nat × Int × (List Int)) × (Option Addr × Nat)) (fun s => [(0, .pointer (some (⟨p, 0, none⟩ : Addr))), (4, .pointer (some (⟨p7, 0, none⟩ : Addr))), (5, .pointer (some (⟨p9, 0, none⟩ : Addr))), (10, .int .i64 s.2.1.1)]) (fun s => (iBox p 115 [.slice A2 x0b.length c3, .int .i64 ((s.2.1.2.1 : Nat) : Int), .int .i64 s.2.1.2.2.1] :: I15 :: iBox p9 150 [.int .i64 x1, .int .i64 ((spec_l1Below_m x0b x0 4).1), .slice A20 d19.length c21, .slice s.2.2.1 s.2.1.2.2.2.length s.2.2.2] :: iBox p7 150 K5 :: I16 :: iOwn (tSl tInt 3) [.slice s.2.2.1 s.2.1.2.2.2.length s.2.2.2] s.2.1.2.2.2 :: is)) (fun s => s.1 + ((s.2.1.1).toNat) + 1 ≤ ((IntKind.i64.wrap (1 + G56.1))).toNat + 1 ∧ R4 (((IntKind.i64.wrap (1 + G56.1))).toNat + 1 - s.1) s.1 s.2.1 = R4 (((IntKind.i64.wrap (1 + G56.1))).toNat + 1 - 0) 0 ((IntKind.i64.wrap (1 + G56.1)), G56.2.i, G56.2.h, []) ∧ s.2.1.2.2.2.length ≤ 0 + s.1 ∧ 0 ≤ s.2.1.1 ∧ s.2.1.1 ≤ 3) (fun s => ((IntKind.i64.wrap (1 + G56.1))).toNat + 1 - s.1) (0, ((IntKind.i64.wrap (1 + G56.1)), G56.2.i, G56.2.h, []), (none, 0)) sl4 (fun W hm => hm) ⟨(show 0 + (((IntKind.i64.wrap (1 + G56.1))).toNat) + 1 ≤ ((IntKind.i64.wrap (1 + G56.1))).toNat + 1 from by omega), rfl, Nat.le_refl _, (show 0 ≤ (IntKind.i64.wrap (1 + G56.1)) from by omega), (show (IntKind.i64.wrap (1 + G56.1)) ≤ 3 from by omega)⟩ ?_
   rintro ⟨k57, ⟨s59, s60, s61, d63⟩, ⟨A64, c65⟩⟩ H68
   obtain ⟨hk66, hF67, hi69, hi70, hi71⟩ : k57 + ((s59).toNat) + 1 ≤ ((IntKind.i64.wrap (1 + G56.1))).toNat + 1 ∧ R4 (((IntKind.i64.wrap (1 + G56.1))).toNat + 1 - k57) k57 (s59, s60, s61, d63) = R4 (((IntKind.i64.wrap (1 + G56.1))).toNat + 1 - 0) 0 ((IntKind.i64.wrap (1 + G56.1)), G56.2.i, G56.2.h, []) ∧ d63.length ≤ 0 + k57 ∧ 0 ≤ s59 ∧ s59 ≤ 3 := H68
   let K12 : List Value := [.int .i64 x1, .int .i64 ((spec_l1Below_m x0b x0 4).1), .slice A20 d19.length c21, .slice A64 d63.length c65]
   let I17 : It := iOwn (tSl tInt 3) [.slice A64 d63.length c65] d63
   show CM Tryd.prog 62 _ _ _ _ [(0, .pointer (some (⟨p, 0, none⟩ : Addr))), (4, .pointer (some (⟨p7, 0, none⟩ : Addr))), (5, .pointer (some (⟨p9, 0, none⟩ : Addr))), (10, .int .i64 s59)] (iBox p 115 [.slice A2 x0b.length c3, .int .i64 ((s60 : Nat) : Int), .int .i64 s61] :: I15 :: iBox p9 150 K12 :: iBox p7 150 K5 :: I16 :: I17 :: is)
   have hw1 := wrap_id (n := s59 - 1) (by omega) (by omega)
   refine CM_seq (sr (wm ?_))
   refine wv (fun W hm => rv_gtr rfl rfl) ?_
   refine nt' ?_
   by_cases h72 : 0 < s59
   ·have g73 := decide_eq_true h72
    refine CM_condT rfl g73 ?_
    refine CM_skip (QM_then (CM_seq (CM_block (sr (wm ?_)))))
    refine WM_callW (χ := Unit) (val := fun x => .int .i64 ((spec_l1Below_m x0b (⟨s60, s61⟩ : Dl1Cur) 3).1)) (js := fun x => (iBox p 115 [.slice A2 x0b.length c3, .int .i64 ((((spec_l1Below_m x0b (⟨s60, s61⟩ : Dl1Cur) 3).2).i : Nat) : Int), .int .i64 ((spec_l1Below_m x0b (⟨s60, s61⟩ : Dl1Cur) 3).2).h] :: (I15 :: iBox p9 150 K12 :: iBox p7 150 K5 :: I16 :: I17 :: is))) (cl_fn cb67 rfl) (fun W hm => spec_l1Below_c B w0 (I15 :: iBox p9 150 K12 :: iBox p7 150 K5 :: I16 :: I17 :: is) W p _ x0b (⟨s60, s61⟩ : Dl1Cur) r5 3 s_0 (hm.front (n := 0) rfl)) (Wd_none rfl) (by decide) (fun z74 => ?_)
    have hb := spec_l1Below_rng x0b (⟨s60, s61⟩ : Dl1Cur) 3
    have hw5 := wrap_id (n := 1 + (spec_l1Below_m x0b (⟨s60, s61⟩ : Dl1Cur) 3).1) (by omega) (by omega)
    obtain ⟨G75, hG75⟩ : ∃ G, G = (spec_l1Below_m x0b (⟨s60, s61⟩ : Dl1Cur) 3) := ⟨_, rfl⟩
    rw [← hG75]
    rw [← hG75] at hb
    rw [← hG75] at hw5
    refine wa (nt' (CM_region ?_))
    refine wv (vf underlying150 rfl type28) ?_
    refine wv (vl 2 3 underlying28) ?_
    refine wm ?_
    refine WM_build (cs := [.int .i64 G75.1]) underlying28 type3 rfl (by decide) (by decide) rfl (by kernel_rfl) (Wd_none rfl) (by decide) (fun p76 => ?_)
    refine ap1 tInt 3 (.slice A64 d63.length c65) d63 G75.1 [] (iBox p 115 [.slice A2 x0b.length c3, .int .i64 ((G75.2.i : Nat) : Int), .int .i64 G75.2.h] :: I15 :: iBox p9 150 K12 :: iBox p7 150 K5 :: I16 :: is) [.int .i64 G75.1] (fun W hm => ((hm.front (n := 6) rfl).front (n := 1) rfl)) (fun _ _ hs => by cases (Sep.nil hs); exact (els_cons tInt_own els_nil)) underlying28 type3 (show (d63.length + 1) * 8 ≤ 140737488355328 from by omega) (fun v77 => ?_)
    refine WM_form (n := 0) rfl ?_
    rintro A78 c79 rfl m80
    refine wv (vf underlying150 rfl type28) ?_
    refine WM_storeBox (p := p9) (o := 3) (cs' := [.int .i64 x1, .int .i64 ((spec_l1Below_m x0b x0 4).1), .slice A20 d19.length c21, .slice A78 (d63 ++ [G75.1]).length c79]) (fun w hm => hm.front (n := 3) rfl) type28 rfl (Nat.le_of_ble_eq_true rfl) rfl rfl rfl rfl (Wd_none rfl) ?_
    refine WM_nil (QM_block_normal (QM_then (CM_region (wm ?_))))
    refine wv (fun W hm => rv_sub rfl rfl) ?_
    refine wa (WM_nil ?_)
    have hn82 := rngb_next (R := (DQuery × Dl1Cur)) (body := F2) (k := k57) (s := (s59, s60, s61, d63)) (s' := ((IntKind.i64.wrap (s59 - 1)), G75.2.i, G75.2.h, (d63 ++ [G75.1]))) (show k57 < ((IntKind.i64.wrap (1 + G56.1))).toNat + 1 from by omega) (by subst hG13 hG56 hG75; exact cond_t g73 (rfl)) hF67
    exact QM_round (k57 + 1, ((IntKind.i64.wrap (s59 - 1)), G75.2.i, G75.2.h, (d63 ++ [G75.1])), (A78, c79)) sl4 (fun W hm => ((((((hm.front (n := 1) rfl).front (n := 5) rfl).front (n := 5) rfl).front (n := 3) rfl).front (n := 5) rfl).front (n := 5) rfl)) ⟨(show (k57 + 1) + (((IntKind.i64.wrap (s59 - 1))).toNat) + 1 ≤ ((IntKind.i64.wrap (1 + G56.1))).toNat + 1 from by omega), hn82, (show (d63 ++ [G75.1]).length ≤ 0 + (k57 + 1) from by first | omega | (simp only [List.length_append, List.length_cons, List.length_nil] at *; omega)), (show 0 ≤ (IntKind.i64.wrap (s59 - 1)) from by first | omega | (simp only [List.length_append, List.length_cons, List.length_nil] at *; omega)), (show (IntKind.i64.wrap (s59 - 1)) ≤ 3 from by first | omega | (simp only [List.length_append, List.length_cons, List.length_nil] at *; omega))⟩ (show ((IntKind.i64.wrap (1 + G56.1))).toNat + 1 - (k57 + 1) < ((IntKind.i64.wrap (1 + G56.1))).toNat + 1 - k57 from by omega)
   ·have g73 := decide_eq_false h72
    refine CM_condF rfl g73 ?_
    refine CM_exit (QM_then_exit (QM_then_exit (QM_block_hit ?_)))
    have hE83 := rngb_brk (R := (DQuery × Dl1Cur)) (body := F2) (k := k57) (s := (s59, s60, s61, d63)) (s' := (s59, s60, s61, d63)) (show k57 < ((IntKind.i64.wrap (1 + G56.1))).toNat + 1 from by omega) (by subst hG13 hG56; exact cond_f g73 (rfl)) hF67
    exact QM_cut_normal ((s59, s60, s61, d63), (A64, c65)) sl2 (fun W hm => hm) hE83
  ·
   rintro ⟨⟨s59, s60, s61, d63⟩, ⟨A64, c65⟩⟩ H85
   have hE84 : R4 (((IntKind.i64.wrap (1 + G56.1))).toNat + 1 - 0) 0 ((IntKind.i64.wrap (1 + G56.1)), G56.2.i, G56.2.h, []) = Sum.inr (s59, s60, s61, d63) := H85
   let K13 : List Value := [.slice A2 x0b.length c3, .int .i64 ((s60 : Nat) : Int), .int .i64 s61]
   let K14 : List Value := [.int .i64 x1, .int .i64 ((spec_l1Below_m x0b x0 4).1), .slice A20 d19.length c21, .slice A64 d63.length c65]
   show QM 62 _ _ _ .normal [(4, .pointer (some (⟨p7, 0, none⟩ : Addr))), (5, .pointer (some (⟨p9, 0, none⟩ : Addr)))] (iBox p 115 K13 :: I15 :: iBox p9 150 K14 :: iBox p7 150 K5 :: I16 :: iOwn (tSl tInt 3) [.slice A64 d63.length c65] d63 :: is)
   refine QM_then (sr ?_)
   refine wv (fun W hm => rv_loadN (cs := K14) underlying150 type150 rfl rfl (hm.boxCells (n := 2) rfl)) ?_
   refine WM_storeBox (p := p7) (o := 0) (cs' := K14) (fun w hm => hm.front (n := 3) rfl) type150 rfl (Nat.le_of_ble_eq_true rfl) rfl rfl rfl rfl (Wd_none rfl) ?_
   refine nt' (CM_ret ?_)
   refine QM_items (js := (iOwn tyQuery K14 (⟨x1, (spec_l1Below_m x0b x0 4).1, d19, d63⟩ : DQuery) :: (iBox p7 150 K14 :: iBox p 115 K13 :: I15 :: iBox p9 150 K14 :: is))) (fun W hm => Mem.join (is := [I16, iOwn (tSl tInt 3) [.slice A64 d63.length c65] d63]) (js := (iBox p7 150 K14 :: iBox p 115 K13 :: I15 :: iBox p9 150 K14 :: is)) (fun _ _ hs => tyQuery_join (x := (⟨x1, (spec_l1Below_m x0b x0 4).1, d19, d63⟩ : DQuery)) hs) ((hm.front (n := 5) rfl).front (n := 5) rfl)) ?_
   have he86 := (show spec_l4Query_m x0b x0 x1 = ((⟨x1, (spec_l1Below_m x0b x0 4).1, d19, d63⟩ : DQuery), (⟨s60, s61⟩ : Dl1Cur)) from by subst hG13 hG56; exact fin_inr hE54 (fin_inr hE84 (rfl)))
   refine QM_r1 rfl (RR_cell (n := 1) rfl rfl underlying150 type150 rfl) (fun W hm => ⟨K14, ?_, ?_⟩)
   ·first | rw [he86] | rfl
   ·rw [he86]; exact (((((hm.front (n := 2) rfl).front (n := 1) rfl).front (n := 2) rfl).tail.front (n := 2) rfl).tail.front (n := 2) rfl).tail

def spec_l4Queries_b1 (x0b : List Int) (k12 : Nat) (d13 : (List DQuery)) (s16 : Int) (s17 : Int) (s18 : Nat) (s19 : Int) : ((List DQuery) × Dl1Cur) ⊕ (((List DQuery) × Int × Int × Nat × Int) ⊕ ((List DQuery) × Int × Int × Nat × Int)) :=
 cond (decide (0 < s17)) (Sum.inr (Sum.inr ((d13 ++ [(spec_l4Query_m x0b (⟨s18, s19⟩ : Dl1Cur) s16).1]), (IntKind.i64.wrap ((IntKind.i64.wrap (s16 + 1)) + ((spec_l1Below_m x0b (spec_l4Query_m x0b (⟨s18, s19⟩ : Dl1Cur) s16).2 2).1))), (IntKind.i64.wrap (s17 - 1)), ((spec_l1Below_m x0b (spec_l4Query_m x0b (⟨s18, s19⟩ : Dl1Cur) s16).2 2).2).i, ((spec_l1Below_m x0b (spec_l4Query_m x0b (⟨s18, s19⟩ : Dl1Cur) s16).2 2).2).h))) (Sum.inr (Sum.inl (d13, s16, s17, s18, s19)))
def spec_l4Queries_m (x0b : List Int) (x0 : Dl1Cur) (x1 : Int) : ((List DQuery) × Dl1Cur) :=
 Sum.elim id (fun (s : (List DQuery) × Int × Int × Nat × Int) => (s.1, (⟨s.2.2.2.1, s.2.2.2.2⟩ : Dl1Cur))) (rngb (R := ((List DQuery) × Dl1Cur)) (fun k (s : (List DQuery) × Int × Int × Nat × Int) => spec_l4Queries_b1 x0b k s.1 s.2.1 s.2.2.1 s.2.2.2.1 s.2.2.2.2) (((spec_l1Below_m x0b ((spec_l1Below_m x0b x0 2).2) (IntKind.i64.wrap (x1 + 1))).1).toNat + 1 - 0) 0 ([], (spec_l1Below_m x0b x0 2).1, (spec_l1Below_m x0b ((spec_l1Below_m x0b x0 2).2) (IntKind.i64.wrap (x1 + 1))).1, (spec_l1Below_m x0b ((spec_l1Below_m x0b x0 2).2) (IntKind.i64.wrap (x1 + 1))).2.i, (spec_l1Below_m x0b ((spec_l1Below_m x0b x0 2).2) (IntKind.i64.wrap (x1 + 1))).2.h))
theorem cb106 : Cb Tryd.prog 106 := ⟨f106, _, func106, rfl, by decide⟩
theorem spec_l4Queries_c (B : Nat) (w0 : World) (is : List It) (w : World) (p : Nat) (z0 : Value) (x0b : List Int) (x0 : Dl1Cur) (r_0 : rdS tU8 w0 B z0 x0b) (x1 : Int) (s_0 : x0b.length ≤ 68719476736) (hx1 : 0 ≤ x1 ∧ x1 ≤ 100) (hm : Mem B w0 (iBox p 115 [z0, .int .i64 ((x0.i : Nat) : Int), .int .i64 x0.h] :: is) w) :
  Calls Tryd.prog 106 #[.pointer (some ⟨p, 0, none⟩), .int .i64 x1] w fun e w' => ∃ x : Value, e = .returned (x) ∧ Mem B w0 (iOwn (tSl tyQuery 150) [x] ((spec_l4Queries_m x0b x0 x1).1) :: iBox p 115 [z0, .int .i64 ((((spec_l4Queries_m x0b x0 x1).2).i : Nat) : Int), .int .i64 ((spec_l4Queries_m x0b x0 x1).2).h] :: is) w' := by
 obtain ⟨m1, A2, c3, rfl, q4, r5⟩ := rdS_op r_0
 refine call_enterW (L := [(0, .pointer (some ⟨p, 0, none⟩)), (1, .int .i64 x1)]) (N := 31) func106 rfl rfl (Nat.le_of_ble_eq_true rfl) (argsL_cons rfl (argsL_cons rfl argsL_nil)) hm ?_
 have l6 : x0b.length ≤ 68719476736 := s_0
 refine sr (wa (nt' (sr ?_)))
 refine WM_build0 (E := tyQuery) underlying123 type150 (Wd_none rfl) (by decide) (fun p7 => ?_)
 refine wa (nt' (sr (wm ?_)))
 let I4 : It := iOwn (tSl tyQuery 150) [.slice (some ⟨p7, 0, none⟩) 0 0] []
 refine WM_callW (χ := Unit) (val := fun x => .int .i64 ((spec_l1Below_m x0b x0 2).1)) (js := fun x => (iBox p 115 [.slice A2 x0b.length c3, .int .i64 ((((spec_l1Below_m x0b x0 2).2).i : Nat) : Int), .int .i64 ((spec_l1Below_m x0b x0 2).2).h] :: (I4 :: is))) (cl_fn cb67 rfl) (fun W hm => spec_l1Below_c B w0 (I4 :: is) W p _ x0b x0 r5 2 s_0 (hm.front (n := 1) rfl)) (Wd_none rfl) (by decide) (fun z9 => ?_)
 have hb := spec_l1Below_rng x0b x0 2
 refine wa (nt' (CM_seq (sr (wm (wm ?_)))))
 refine wv vadd ?_
 refine WM_callW (χ := Unit) (val := fun x => .int .i64 ((spec_l1Below_m x0b ((spec_l1Below_m x0b x0 2).2) (IntKind.i64.wrap (x1 + 1))).1)) (js := fun x => (iBox p 115 [.slice A2 x0b.length c3, .int .i64 ((((spec_l1Below_m x0b ((spec_l1Below_m x0b x0 2).2) (IntKind.i64.wrap (x1 + 1))).2).i : Nat) : Int), .int .i64 ((spec_l1Below_m x0b ((spec_l1Below_m x0b x0 2).2) (IntKind.i64.wrap (x1 + 1))).2).h] :: (I4 :: is))) (cl_fn cb67 rfl) (fun W hm => spec_l1Below_c B w0 (I4 :: is) W p _ x0b ((spec_l1Below_m x0b x0 2).2) r5 (IntKind.i64.wrap (x1 + 1)) s_0 (hm.front (n := 0) rfl)) (Wd_none rfl) (by decide) (fun z10 => ?_)
 have hb := spec_l1Below_rng x0b ((spec_l1Below_m x0b x0 2).2) (IntKind.i64.wrap (x1 + 1))
 obtain ⟨G11, hG11⟩ : ∃ G, G = (spec_l1Below_m x0b ((spec_l1Below_m x0b x0 2).2) (IntKind.i64.wrap (x1 + 1))) := ⟨_, rfl⟩
 rw [← hG11]
 rw [← hG11] at hb
 refine wa (nt' ?_)
 have hw2 := wrap_id (n := x1 + 1) (by omega) (by omega)
 let F1 := fun k (s : (List DQuery) × Int × Int × Nat × Int) => spec_l4Queries_b1 x0b k s.1 s.2.1 s.2.2.1 s.2.2.2.1 s.2.2.2.2
 let R2 := rngb (R := ((List DQuery) × Dl1Cur)) F1
 refine CM_cut (σ := ((List DQuery) × Int × Int × Nat × Int) × (Option Addr × Nat)) (fun s => [(5, .slice s.2.1 s.1.1.length s.2.2)]) (fun s => (iBox p 115 [.slice A2 x0b.length c3, .int .i64 ((s.1.2.2.2.1 : Nat) : Int), .int .i64 s.1.2.2.2.2] :: iOwn (tSl tyQuery 150) [.slice s.2.1 s.1.1.length s.2.2] s.1.1 :: is)) (fun s => R2 ((G11.1).toNat + 1 - 0) 0 ([], (spec_l1Below_m x0b x0 2).1, G11.1, G11.2.i, G11.2.h) = Sum.inr s.1) ?_ ?_
 ·
  refine CM_block ?_
  refine CM_loop (σ := Nat × ((List DQuery) × Int × Int × Nat × Int) × (Option Addr × Nat)) (fun s => [(0, .pointer (some (⟨p, 0, none⟩ : Addr))), (5, .slice s.2.2.1 s.2.1.1.length s.2.2.2), (6, .int .i64 s.2.1.2.1), (7, .int .i64 s.2.1.2.2.1)]) (fun s => (iBox p 115 [.slice A2 x0b.length c3, .int .i64 ((s.2.1.2.2.2.1 : Nat) : Int), .int .i64 s.2.1.2.2.2.2] :: iOwn (tSl tyQuery 150) [.slice s.2.2.1 s.2.1.1.length s.2.2.2] s.2.1.1 :: is)) (fun s => s.1 + ((s.2.1.2.2.1).toNat) + 1 ≤ (G11.1).toNat + 1 ∧ R2 ((G11.1).toNat + 1 - s.1) s.1 s.2.1 = R2 ((G11.1).toNat + 1 - 0) 0 ([], (spec_l1Below_m x0b x0 2).1, G11.1, G11.2.i, G11.2.h) ∧ s.2.1.1.length ≤ 0 + s.1 ∧ 0 ≤ s.2.1.2.2.1 ∧ s.2.1.2.2.1 ≤ 101) (fun s => (G11.1).toNat + 1 - s.1) (0, ([], (spec_l1Below_m x0b x0 2).1, G11.1, G11.2.i, G11.2.h), ((some ⟨p7, 0, none⟩), 0)) sl4 (fun W hm => hm) ⟨(show 0 + ((G11.1).toNat) + 1 ≤ (G11.1).toNat + 1 from by omega), rfl, Nat.le_refl _, (show 0 ≤ G11.1 from by omega), (show G11.1 ≤ 101 from by omega)⟩ ?_
  rintro ⟨k12, ⟨d13, s16, s17, s18, s19⟩, ⟨A14, c15⟩⟩ H22
  obtain ⟨hk20, hF21, hi23, hi24, hi25⟩ : k12 + ((s17).toNat) + 1 ≤ (G11.1).toNat + 1 ∧ R2 ((G11.1).toNat + 1 - k12) k12 (d13, s16, s17, s18, s19) = R2 ((G11.1).toNat + 1 - 0) 0 ([], (spec_l1Below_m x0b x0 2).1, G11.1, G11.2.i, G11.2.h) ∧ d13.length ≤ 0 + k12 ∧ 0 ≤ s17 ∧ s17 ≤ 101 := H22
  let I5 : It := iOwn (tSl tyQuery 150) [.slice A14 d13.length c15] d13
  show CM Tryd.prog 31 _ _ _ _ [(0, .pointer (some (⟨p, 0, none⟩ : Addr))), (5, .slice A14 d13.length c15), (6, .int .i64 s16), (7, .int .i64 s17)] (iBox p 115 [.slice A2 x0b.length c3, .int .i64 ((s18 : Nat) : Int), .int .i64 s19] :: I5 :: is)
  have hw1 := wrap_id (n := s17 - 1) (by omega) (by omega)
  have hw2 := wrap_id (n := x1 + 1) (by omega) (by omega)
  refine CM_seq (sr (wm ?_))
  refine wv (fun W hm => rv_gtr rfl rfl) ?_
  refine nt' ?_
  by_cases h26 : 0 < s17
  ·have g27 := decide_eq_true h26
   refine CM_condT rfl g27 ?_
   refine CM_skip (QM_then (CM_seq (CM_block (sr (wm (wm (wm ?_)))))))
   refine WM_callW (χ := List Value) (val := fun x => .agg x.toArray) (js := fun x => (iOwn tyQuery x ((spec_l4Query_m x0b (⟨s18, s19⟩ : Dl1Cur) s16).1) :: iBox p 115 [.slice A2 x0b.length c3, .int .i64 ((((spec_l4Query_m x0b (⟨s18, s19⟩ : Dl1Cur) s16).2).i : Nat) : Int), .int .i64 ((spec_l4Query_m x0b (⟨s18, s19⟩ : Dl1Cur) s16).2).h] :: (I5 :: is))) (cl_fn cb117 rfl) (fun W hm => spec_l4Query_c B w0 (I5 :: is) W p _ x0b (⟨s18, s19⟩ : Dl1Cur) r5 s16 s_0 (hm.front (n := 0) rfl)) (Wd_none rfl) (by decide) (fun z28 => ?_)
   obtain ⟨G29, hG29⟩ : ∃ G, G = (spec_l4Query_m x0b (⟨s18, s19⟩ : Dl1Cur) s16) := ⟨_, rfl⟩
   rw [← hG29]
   refine tyQuery_sp ?_
   rintro ⟨v30, v31⟩ rfl
   refine WM_form (n := 0) rfl ?_
   rintro A32 c33 rfl m34
   refine WM_form (n := 1) rfl ?_
   rintro A36 c37 rfl m38
   let K3 : List Value := [.int .i64 G29.1.Id, .int .i64 G29.1.Tenant, .slice A32 G29.1.Conds.length c33, .slice A36 G29.1.Out.length c37]
   refine WM_build (cs := K3) underlying123 type150 rfl (by decide) (by decide) rfl (by kernel_rfl) (Wd_none rfl) (by decide) (fun p40 => ?_)
   refine ap1 tyQuery 150 (.slice A14 d13.length c15) d13 G29.1 [iOwn (tSl tyCond 165) [.slice A32 G29.1.Conds.length c33] G29.1.Conds, iOwn (tSl tInt 3) [.slice A36 G29.1.Out.length c37] G29.1.Out] (iBox p 115 [.slice A2 x0b.length c3, .int .i64 ((G29.2.i : Nat) : Int), .int .i64 G29.2.h] :: is) K3 (fun W hm => ((((hm.front (n := 2) rfl).front (n := 2) rfl).front (n := 4) rfl).front (n := 3) rfl)) (fun _ _ hs => Els.single (tyQuery_join (x := G29.1) hs)) underlying123 type150 (show (d13.length + 1) * 64 ≤ 140737488355328 from by omega) (fun v41 => ?_)
   refine WM_form (n := 0) rfl ?_
   rintro A42 c43 rfl m44
   refine wa (nt' (CM_region (wm ?_)))
   refine wv vadd ?_
   refine wm ?_
   let I6 : It := iOwn (tSl tyQuery 150) [.slice A42 (d13 ++ [G29.1]).length c43] (d13 ++ [G29.1])
   refine WM_callW (χ := Unit) (val := fun x => .int .i64 ((spec_l1Below_m x0b G29.2 2).1)) (js := fun x => (iBox p 115 [.slice A2 x0b.length c3, .int .i64 ((((spec_l1Below_m x0b G29.2 2).2).i : Nat) : Int), .int .i64 ((spec_l1Below_m x0b G29.2 2).2).h] :: (I6 :: is))) (cl_fn cb67 rfl) (fun W hm => spec_l1Below_c B w0 (I6 :: is) W p _ x0b G29.2 r5 2 s_0 (hm.front (n := 1) rfl)) (Wd_none rfl) (by decide) (fun z46 => ?_)
   have hb := spec_l1Below_rng x0b G29.2 2
   refine wv vadd ?_
   refine wa (WM_nil (QM_block_normal (QM_then (CM_region (wm ?_)))))
   refine wv (fun W hm => rv_sub rfl rfl) ?_
   refine wa (WM_nil ?_)
   have hn47 := rngb_next (R := ((List DQuery) × Dl1Cur)) (body := F1) (k := k12) (s := (d13, s16, s17, s18, s19)) (s' := ((d13 ++ [G29.1]), (IntKind.i64.wrap ((IntKind.i64.wrap (s16 + 1)) + ((spec_l1Below_m x0b G29.2 2).1))), (IntKind.i64.wrap (s17 - 1)), ((spec_l1Below_m x0b G29.2 2).2).i, ((spec_l1Below_m x0b G29.2 2).2).h)) (show k12 < (G11.1).toNat + 1 from by omega) (by subst hG11 hG29; exact cond_t g27 (rfl)) hF21
   exact QM_round (k12 + 1, ((d13 ++ [G29.1]), (IntKind.i64.wrap ((IntKind.i64.wrap (s16 + 1)) + ((spec_l1Below_m x0b G29.2 2).1))), (IntKind.i64.wrap (s17 - 1)), ((spec_l1Below_m x0b G29.2 2).2).i, ((spec_l1Below_m x0b G29.2 2).2).h), (A42, c43)) sl4 (fun W hm => hm) ⟨(show (k12 + 1) + (((IntKind.i64.wrap (s17 - 1))).toNat) + 1 ≤ (G11.1).toNat + 1 from by omega), hn47, (show (d13 ++ [G29.1]).length ≤ 0 + (k12 + 1) from by first | omega | (simp only [List.length_append, List.length_cons, List.length_nil] at *; omega)), (show 0 ≤ (IntKind.i64.wrap (s17 - 1)) from by first | omega | (simp only [List.length_append, List.length_cons, List.length_nil] at *; omega)), (show (IntKind.i64.wrap (s17 - 1)) ≤ 101 from by first | omega | (simp only [List.length_append, List.length_cons, List.length_nil] at *; omega))⟩ (show (G11.1).toNat + 1 - (k12 + 1) < (G11.1).toNat + 1 - k12 from by omega)
  ·have g27 := decide_eq_false h26
   refine CM_condF rfl g27 ?_
   refine CM_exit (QM_then_exit (QM_then_exit (QM_block_hit ?_)))
   have hE48 := rngb_brk (R := ((List DQuery) × Dl1Cur)) (body := F1) (k := k12) (s := (d13, s16, s17, s18, s19)) (s' := (d13, s16, s17, s18, s19)) (show k12 < (G11.1).toNat + 1 from by omega) (by subst hG11; exact cond_f g27 (rfl)) hF21
   exact QM_cut_normal ((d13, s16, s17, s18, s19), (A14, c15)) (subL_cons rfl subL_nil) (fun W hm => hm) hE48
 ·
  rintro ⟨⟨d13, s16, s17, s18, s19⟩, ⟨A14, c15⟩⟩ H50
  have hE49 : R2 ((G11.1).toNat + 1 - 0) 0 ([], (spec_l1Below_m x0b x0 2).1, G11.1, G11.2.i, G11.2.h) = Sum.inr (d13, s16, s17, s18, s19) := H50
  show QM 31 _ _ _ .normal [(5, .slice A14 d13.length c15)] (iBox p 115 [.slice A2 x0b.length c3, .int .i64 ((s18 : Nat) : Int), .int .i64 s19] :: iOwn (tSl tyQuery 150) [.slice A14 d13.length c15] d13 :: is)
  refine QM_then (sr (wm (wa (nt' (CM_ret ?_)))))
  have he51 := (show spec_l4Queries_m x0b x0 x1 = (d13, (⟨s18, s19⟩ : Dl1Cur)) from by subst hG11; exact fin_inr hE49 (rfl))
  refine QM_r1 rfl (RR_tmp rfl) (fun W hm => ⟨.slice A14 d13.length c15, ?_, ?_⟩)
  ·first | rw [he51] | rfl
  ·rw [he51]; exact ((hm.front (n := 0) rfl).front (n := 1) rfl)

def spec_l3Row_b1 (x0b : List Int) (x0 : Dl1Cur) (k13 : Nat) (s15 : Nat) (s16 : Int) (d18 : (List Int)) : (DRow × Dl1Cur) ⊕ (Nat × Int × (List Int)) :=
 Sum.inr ((spec_l1Below_m x0b (⟨s15, s16⟩ : Dl1Cur) (spec_l1PickInt_m x0b x0 [3, 6, 100]).1).2.i, (spec_l1Below_m x0b (⟨s15, s16⟩ : Dl1Cur) (spec_l1PickInt_m x0b x0 [3, 6, 100]).1).2.h, (d18 ++ [(spec_l1Below_m x0b (⟨s15, s16⟩ : Dl1Cur) (spec_l1PickInt_m x0b x0 [3, 6, 100]).1).1]))
def spec_l3Row_m (x0b : List Int) (x0 : Dl1Cur) (x1 : Int) : (DRow × Dl1Cur) :=
 Sum.elim id (fun (s : Nat × Int × (List Int)) => ((⟨x1, s.2.2⟩ : DRow), (⟨s.1, s.2.1⟩ : Dl1Cur))) (rng (R := (DRow × Dl1Cur)) (fun k (s : Nat × Int × (List Int)) => spec_l3Row_b1 x0b x0 k s.1 s.2.1 s.2.2) (3 - 0) 0 ((spec_l1PickInt_m x0b x0 [3, 6, 100]).2.i, (spec_l1PickInt_m x0b x0 [3, 6, 100]).2.h, []))
theorem cb110 : Cb Tryd.prog 110 := ⟨f110, _, func110, rfl, by decide⟩
theorem spec_l3Row_c (B : Nat) (w0 : World) (is : List It) (w : World) (p : Nat) (z0 : Value) (x0b : List Int) (x0 : Dl1Cur) (r_0 : rdS tU8 w0 B z0 x0b) (x1 : Int) (s_0 : x0b.length ≤ 68719476736) (hm : Mem B w0 (iBox p 115 [z0, .int .i64 ((x0.i : Nat) : Int), .int .i64 x0.h] :: is) w) :
  Calls Tryd.prog 110 #[.pointer (some ⟨p, 0, none⟩), .int .i64 x1] w fun e w' => ∃ x : List Value, e = .returned (.agg x.toArray) ∧ Mem B w0 (iOwn tyRow x ((spec_l3Row_m x0b x0 x1).1) :: iBox p 115 [z0, .int .i64 ((((spec_l3Row_m x0b x0 x1).2).i : Nat) : Int), .int .i64 ((spec_l3Row_m x0b x0 x1).2).h] :: is) w' := by
 obtain ⟨m1, A2, c3, rfl, q4, r5⟩ := rdS_op r_0
 refine call_enterW (L := [(0, .pointer (some ⟨p, 0, none⟩)), (1, .int .i64 x1)]) (N := 28) func110 rfl rfl (Nat.le_of_ble_eq_true rfl) (argsL_cons rfl (argsL_cons rfl argsL_nil)) hm ?_
 have l6 : x0b.length ≤ 68719476736 := s_0
 refine sr ?_
 refine WM_alloc type43 rfl (Wd_none rfl) (by decide) (fun p7 => ?_)
 refine nt' (sr (wm ?_))
 refine wv (fun W hm => rv_build (cs := [.int .i64 x1, .slice none 0 0]) rfl (by kernel_rfl)) ?_
 refine WM_alloc type43 rfl (Wd_none rfl) (by decide) (fun p8 => ?_)
 refine WM_storeBox (p := p8) (o := 0) (cs' := [.int .i64 x1, .slice none 0 0]) (fun w hm => hm.front (n := 0) rfl) type43 rfl (Nat.le_of_ble_eq_true rfl) rfl rfl rfl rfl (Wd_none rfl) ?_
 refine nt' (sr (wm ?_))
 refine WM_build (cs := [.int .i64 3, .int .i64 6, .int .i64 100]) underlying28 type3 rfl (by decide) (by decide) rfl (by kernel_rfl) (Wd_none rfl) (by decide) (fun p9 => ?_)
 refine WM_items (fun W hm => Mem.litOwn (E := tInt) (xs := [3, 6, 100]) rfl (show 3 ≤ maxLen from by decide) (fun _ => (els_cons (E := tInt) (L1 := []) tInt_own (els_cons (E := tInt) (L1 := []) tInt_own (els_cons (E := tInt) (L1 := []) tInt_own els_nil)))) (hm.front (n := 0) rfl)) ?_
 let I5 : It := iOwn (tSl tInt 3) [.slice (some ⟨p9, 0, none⟩) 3 3] [3, 6, 100]
 refine WM_callW (χ := Unit) (val := fun x => .int .i64 ((spec_l1PickInt_m x0b x0 [3, 6, 100]).1)) (js := fun x => (iBox p 115 [.slice A2 x0b.length c3, .int .i64 ((((spec_l1PickInt_m x0b x0 [3, 6, 100]).2).i : Nat) : Int), .int .i64 ((spec_l1PickInt_m x0b x0 [3, 6, 100]).2).h] :: I5 :: (iBox p8 43 [.int .i64 x1, .slice none 0 0] :: iBox p7 43 [.int .i64 0, .slice none 0 0] :: is))) (cl_fn cb86 rfl) (fun W hm => spec_l1PickInt_c B w0 (iBox p8 43 [.int .i64 x1, .slice none 0 0] :: iBox p7 43 [.int .i64 0, .slice none 0 0] :: is) W p _ x0b x0 r5 _ [3, 6, 100] s_0 (Nat.le_of_ble_eq_true rfl) (by first | decide | exact Nat.succ_pos _) ((hm.front (n := 0) rfl).front (n := 3) rfl)) (Wd_none rfl) (by decide) (fun z11 => ?_)
 obtain ⟨G12, hG12⟩ : ∃ G, G = (spec_l1PickInt_m x0b x0 [3, 6, 100]) := ⟨_, rfl⟩
 rw [← hG12]
 refine wa (nt' (CM_seq (sr (wa (nt' (CM_block ?_))))))
 let K3 : List Value := [.slice A2 x0b.length c3, .int .i64 ((G12.2.i : Nat) : Int), .int .i64 G12.2.h]
 refine CM_items (js := (iOwn (tSl tInt 3) [.slice none 0 0] [] :: iBox p 115 K3 :: I5 :: iBox p8 43 [.int .i64 x1, .slice none 0 0] :: iBox p7 43 [.int .i64 0, .slice none 0 0] :: is)) (fun W hm => hm.addNil (E := tInt) (e := 3)) ?_
 refine CM_items (js := (iBox p 115 K3 :: I5 :: iBox p8 43 [.int .i64 x1, .slice none 0 0] :: iBox p7 43 [.int .i64 0, .slice none 0 0] :: iOwn (tSl tInt 3) [.slice none 0 0] [] :: is)) (fun W hm => ((((hm.front (n := 4) rfl).front (n := 4) rfl).front (n := 4) rfl).front (n := 4) rfl)) ?_
 let F1 := fun k (s : Nat × Int × (List Int)) => spec_l3Row_b1 x0b x0 k s.1 s.2.1 s.2.2
 let R2 := rng (R := (DRow × Dl1Cur)) F1
 refine CM_loop (σ := Nat × (Nat × Int × (List Int)) × (Option Addr × Nat)) (fun s => [(0, .pointer (some (⟨p, 0, none⟩ : Addr))), (4, .pointer (some (⟨p7, 0, none⟩ : Addr))), (5, .pointer (some (⟨p8, 0, none⟩ : Addr))), (6, .int .i64 G12.1), (7, .int .i64 ((s.1 : Nat) : Int))]) (fun s => (iBox p 115 [.slice A2 x0b.length c3, .int .i64 ((s.2.1.1 : Nat) : Int), .int .i64 s.2.1.2.1] :: I5 :: iBox p8 43 [.int .i64 x1, .slice s.2.2.1 s.2.1.2.2.length s.2.2.2] :: iBox p7 43 [.int .i64 0, .slice none 0 0] :: iOwn (tSl tInt 3) [.slice s.2.2.1 s.2.1.2.2.length s.2.2.2] s.2.1.2.2 :: is)) (fun s => s.1 ≤ 3 ∧ R2 (3 - s.1) s.1 s.2.1 = R2 (3 - 0) 0 (G12.2.i, G12.2.h, []) ∧ s.2.1.2.2.length ≤ 0 + s.1) (fun s => 3 - s.1) (0, (G12.2.i, G12.2.h, []), (none, 0)) sl5 (fun W hm => hm) ⟨(by omega), rfl, Nat.le_refl _⟩ ?_
 rintro ⟨k13, ⟨s15, s16, d18⟩, ⟨A19, c20⟩⟩ H23
 obtain ⟨hk21, hF22, hi24⟩ : k13 ≤ 3 ∧ R2 (3 - k13) k13 (s15, s16, d18) = R2 (3 - 0) 0 (G12.2.i, G12.2.h, []) ∧ d18.length ≤ 0 + k13 := H23
 let K4 : List Value := [.slice A2 x0b.length c3, .int .i64 ((s15 : Nat) : Int), .int .i64 s16]
 let I6 : It := iBox p8 43 [.int .i64 x1, .slice A19 d18.length c20]
 let I7 : It := iOwn (tSl tInt 3) [.slice A19 d18.length c20] d18
 show CM Tryd.prog 28 _ _ _ _ [(0, .pointer (some (⟨p, 0, none⟩ : Addr))), (4, .pointer (some (⟨p7, 0, none⟩ : Addr))), (5, .pointer (some (⟨p8, 0, none⟩ : Addr))), (6, .int .i64 G12.1), (7, .int .i64 ((k13 : Nat) : Int))] (iBox p 115 K4 :: I5 :: I6 :: iBox p7 43 [.int .i64 0, .slice none 0 0] :: I7 :: is)
 refine CM_seq (sr (wm ?_))
 refine wv vlss ?_
 refine nt' ?_
 by_cases hl25 : k13 < 3
 ·have g26 : (decide (((k13 : Nat) : Int) < 3)) = true := decide_eq_true (by omega)
  refine CM_condT rfl g26 ?_
  refine CM_skip (QM_then (CM_seq (CM_block (sr (wm (wm ?_))))))
  refine WM_callW (χ := Unit) (val := fun x => .int .i64 ((spec_l1Below_m x0b (⟨s15, s16⟩ : Dl1Cur) G12.1).1)) (js := fun x => (iBox p 115 [.slice A2 x0b.length c3, .int .i64 ((((spec_l1Below_m x0b (⟨s15, s16⟩ : Dl1Cur) G12.1).2).i : Nat) : Int), .int .i64 ((spec_l1Below_m x0b (⟨s15, s16⟩ : Dl1Cur) G12.1).2).h] :: (I5 :: I6 :: iBox p7 43 [.int .i64 0, .slice none 0 0] :: I7 :: is))) (cl_fn cb67 rfl) (fun W hm => spec_l1Below_c B w0 (I5 :: I6 :: iBox p7 43 [.int .i64 0, .slice none 0 0] :: I7 :: is) W p _ x0b (⟨s15, s16⟩ : Dl1Cur) r5 G12.1 s_0 (hm.front (n := 0) rfl)) (Wd_none rfl) (by decide) (fun z27 => ?_)
  have hb := spec_l1Below_rng x0b (⟨s15, s16⟩ : Dl1Cur) G12.1
  obtain ⟨G28, hG28⟩ : ∃ G, G = (spec_l1Below_m x0b (⟨s15, s16⟩ : Dl1Cur) G12.1) := ⟨_, rfl⟩
  rw [← hG28]
  rw [← hG28] at hb
  refine wa (nt' (CM_region ?_))
  refine wv (vf underlying43 rfl type28) ?_
  refine wv (vl 2 1 underlying28) ?_
  refine wm ?_
  refine WM_build (cs := [.int .i64 G28.1]) underlying28 type3 rfl (by decide) (by decide) rfl (by kernel_rfl) (Wd_none rfl) (by decide) (fun p29 => ?_)
  refine ap1 tInt 3 (.slice A19 d18.length c20) d18 G28.1 [] (iBox p 115 [.slice A2 x0b.length c3, .int .i64 ((G28.2.i : Nat) : Int), .int .i64 G28.2.h] :: I5 :: I6 :: iBox p7 43 [.int .i64 0, .slice none 0 0] :: is) [.int .i64 G28.1] (fun W hm => ((hm.front (n := 5) rfl).front (n := 1) rfl)) (fun _ _ hs => by cases (Sep.nil hs); exact (els_cons tInt_own els_nil)) underlying28 type3 (show (d18.length + 1) * 8 ≤ 140737488355328 from by omega) (fun v30 => ?_)
  refine WM_form (n := 0) rfl ?_
  rintro A31 c32 rfl m33
  refine wv (vf underlying43 rfl type28) ?_
  refine WM_storeBox (p := p8) (o := 1) (cs' := [.int .i64 x1, .slice A31 (d18 ++ [G28.1]).length c32]) (fun w hm => hm.front (n := 3) rfl) type28 rfl (Nat.le_of_ble_eq_true rfl) rfl rfl rfl rfl (Wd_none rfl) ?_
  refine WM_nil (QM_block_normal (QM_then (CM_region (wm ?_))))
  refine wv (vadN k13 1 (by omega)) ?_
  refine wa (WM_nil ?_)
  have hn35 := rng_next (R := (DRow × Dl1Cur)) (body := F1) (k := k13) (s := (s15, s16, d18)) (s' := (G28.2.i, G28.2.h, (d18 ++ [G28.1]))) (show k13 < 3 from by omega) (by subst hG12 hG28; exact rfl) hF22
  exact QM_round (k13 + 1, (G28.2.i, G28.2.h, (d18 ++ [G28.1])), (A31, c32)) sl5 (fun W hm => (((((hm.front (n := 1) rfl).front (n := 4) rfl).front (n := 2) rfl).front (n := 4) rfl).front (n := 4) rfl)) ⟨(by omega), hn35, (show (d18 ++ [G28.1]).length ≤ 0 + (k13 + 1) from by first | omega | (simp only [List.length_append, List.length_cons, List.length_nil] at *; omega))⟩ (rl (by omega))
 ·have g26 : (decide (((k13 : Nat) : Int) < 3)) = false := decide_eq_false (by omega)
  refine CM_condF rfl g26 ?_
  refine CM_exit (QM_then_exit (QM_then_exit ?_))
  have hE36 : R2 (3 - 0) 0 (G12.2.i, G12.2.h, []) = Sum.inr (s15, s16, d18) := rng_end hl25 hF22
  refine QM_block_hit (QM_then (sr ?_))
  refine wv (fun W hm => rv_loadN (cs := [.int .i64 x1, .slice A19 d18.length c20]) underlying43 type43 rfl rfl (hm.boxCells (n := 2) rfl)) ?_
  refine WM_storeBox (p := p7) (o := 0) (cs' := [.int .i64 x1, .slice A19 d18.length c20]) (fun w hm => hm.front (n := 3) rfl) type43 rfl (Nat.le_of_ble_eq_true rfl) rfl rfl rfl rfl (Wd_none rfl) ?_
  refine nt' (CM_ret ?_)
  let I8 : It := iBox p7 43 [.int .i64 x1, .slice A19 d18.length c20]
  refine QM_items (js := (iOwn tyRow [.int .i64 x1, .slice A19 d18.length c20] (⟨x1, d18⟩ : DRow) :: (I8 :: iBox p 115 K4 :: I5 :: I6 :: is))) (fun W hm => Mem.join (is := [I7]) (js := (I8 :: iBox p 115 K4 :: I5 :: I6 :: is)) (fun _ _ hs => tyRow_join (x := (⟨x1, d18⟩ : DRow)) hs) (hm.front (n := 4) rfl)) ?_
  have he37 := (show spec_l3Row_m x0b x0 x1 = ((⟨x1, d18⟩ : DRow), (⟨s15, s16⟩ : Dl1Cur)) from by subst hG12; exact fin_inr hE36 (rfl))
  refine QM_r1 rfl (RR_cell (n := 1) rfl rfl underlying43 type43 rfl) (fun W hm => ⟨[.int .i64 x1, .slice A19 d18.length c20], ?_, ?_⟩)
  ·first | rw [he37] | rfl
  ·rw [he37]; exact (((((hm.front (n := 2) rfl).front (n := 1) rfl).front (n := 2) rfl).tail.front (n := 2) rfl).tail.front (n := 2) rfl).tail

def spec_l3Rows_b1 (x0b : List Int) (k12 : Nat) (d13 : (List DRow)) (s16 : Int) (s17 : Int) (s18 : Nat) (s19 : Int) : ((List DRow) × Dl1Cur) ⊕ (((List DRow) × Int × Int × Nat × Int) ⊕ ((List DRow) × Int × Int × Nat × Int)) :=
 cond (decide (0 < s17)) (Sum.inr (Sum.inr ((d13 ++ [(spec_l3Row_m x0b (⟨s18, s19⟩ : Dl1Cur) s16).1]), (IntKind.i64.wrap ((IntKind.i64.wrap (s16 + 1)) + ((spec_l1Below_m x0b (spec_l3Row_m x0b (⟨s18, s19⟩ : Dl1Cur) s16).2 3).1))), (IntKind.i64.wrap (s17 - 1)), ((spec_l1Below_m x0b (spec_l3Row_m x0b (⟨s18, s19⟩ : Dl1Cur) s16).2 3).2).i, ((spec_l1Below_m x0b (spec_l3Row_m x0b (⟨s18, s19⟩ : Dl1Cur) s16).2 3).2).h))) (Sum.inr (Sum.inl (d13, s16, s17, s18, s19)))
def spec_l3Rows_m (x0b : List Int) (x0 : Dl1Cur) (x1 : Int) : ((List DRow) × Dl1Cur) :=
 Sum.elim id (fun (s : (List DRow) × Int × Int × Nat × Int) => (s.1, (⟨s.2.2.2.1, s.2.2.2.2⟩ : Dl1Cur))) (rngb (R := ((List DRow) × Dl1Cur)) (fun k (s : (List DRow) × Int × Int × Nat × Int) => spec_l3Rows_b1 x0b k s.1 s.2.1 s.2.2.1 s.2.2.2.1 s.2.2.2.2) (((spec_l1Below_m x0b ((spec_l1Below_m x0b x0 3).2) (IntKind.i64.wrap (x1 + 1))).1).toNat + 1 - 0) 0 ([], (spec_l1Below_m x0b x0 3).1, (spec_l1Below_m x0b ((spec_l1Below_m x0b x0 3).2) (IntKind.i64.wrap (x1 + 1))).1, (spec_l1Below_m x0b ((spec_l1Below_m x0b x0 3).2) (IntKind.i64.wrap (x1 + 1))).2.i, (spec_l1Below_m x0b ((spec_l1Below_m x0b x0 3).2) (IntKind.i64.wrap (x1 + 1))).2.h))
theorem cb107 : Cb Tryd.prog 107 := ⟨f107, _, func107, rfl, by decide⟩
theorem spec_l3Rows_c (B : Nat) (w0 : World) (is : List It) (w : World) (p : Nat) (z0 : Value) (x0b : List Int) (x0 : Dl1Cur) (r_0 : rdS tU8 w0 B z0 x0b) (x1 : Int) (s_0 : x0b.length ≤ 68719476736) (hx1 : 0 ≤ x1 ∧ x1 ≤ 100) (hm : Mem B w0 (iBox p 115 [z0, .int .i64 ((x0.i : Nat) : Int), .int .i64 x0.h] :: is) w) :
  Calls Tryd.prog 107 #[.pointer (some ⟨p, 0, none⟩), .int .i64 x1] w fun e w' => ∃ x : Value, e = .returned (x) ∧ Mem B w0 (iOwn (tSl tyRow 43) [x] ((spec_l3Rows_m x0b x0 x1).1) :: iBox p 115 [z0, .int .i64 ((((spec_l3Rows_m x0b x0 x1).2).i : Nat) : Int), .int .i64 ((spec_l3Rows_m x0b x0 x1).2).h] :: is) w' := by
 obtain ⟨m1, A2, c3, rfl, q4, r5⟩ := rdS_op r_0
 refine call_enterW (L := [(0, .pointer (some ⟨p, 0, none⟩)), (1, .int .i64 x1)]) (N := 31) func107 rfl rfl (Nat.le_of_ble_eq_true rfl) (argsL_cons rfl (argsL_cons rfl argsL_nil)) hm ?_
 have l6 : x0b.length ≤ 68719476736 := s_0
 refine sr (wa (nt' (sr ?_)))
 refine WM_build0 (E := tyRow) underlying75 type43 (Wd_none rfl) (by decide) (fun p7 => ?_)
 refine wa (nt' (sr (wm ?_)))
 let I3 : It := iOwn (tSl tyRow 43) [.slice (some ⟨p7, 0, none⟩) 0 0] []
 refine WM_callW (χ := Unit) (val := fun x => .int .i64 ((spec_l1Below_m x0b x0 3).1)) (js := fun x => (iBox p 115 [.slice A2 x0b.length c3, .int .i64 ((((spec_l1Below_m x0b x0 3).2).i : Nat) : Int), .int .i64 ((spec_l1Below_m x0b x0 3).2).h] :: (I3 :: is))) (cl_fn cb67 rfl) (fun W hm => spec_l1Below_c B w0 (I3 :: is) W p _ x0b x0 r5 3 s_0 (hm.front (n := 1) rfl)) (Wd_none rfl) (by decide) (fun z9 => ?_)
 have hb := spec_l1Below_rng x0b x0 3
 refine wa (nt' (CM_seq (sr (wm (wm ?_)))))
 refine wv vadd ?_
 refine WM_callW (χ := Unit) (val := fun x => .int .i64 ((spec_l1Below_m x0b ((spec_l1Below_m x0b x0 3).2) (IntKind.i64.wrap (x1 + 1))).1)) (js := fun x => (iBox p 115 [.slice A2 x0b.length c3, .int .i64 ((((spec_l1Below_m x0b ((spec_l1Below_m x0b x0 3).2) (IntKind.i64.wrap (x1 + 1))).2).i : Nat) : Int), .int .i64 ((spec_l1Below_m x0b ((spec_l1Below_m x0b x0 3).2) (IntKind.i64.wrap (x1 + 1))).2).h] :: (I3 :: is))) (cl_fn cb67 rfl) (fun W hm => spec_l1Below_c B w0 (I3 :: is) W p _ x0b ((spec_l1Below_m x0b x0 3).2) r5 (IntKind.i64.wrap (x1 + 1)) s_0 (hm.front (n := 0) rfl)) (Wd_none rfl) (by decide) (fun z10 => ?_)
 have hb := spec_l1Below_rng x0b ((spec_l1Below_m x0b x0 3).2) (IntKind.i64.wrap (x1 + 1))
 obtain ⟨G11, hG11⟩ : ∃ G, G = (spec_l1Below_m x0b ((spec_l1Below_m x0b x0 3).2) (IntKind.i64.wrap (x1 + 1))) := ⟨_, rfl⟩
 rw [← hG11]
 rw [← hG11] at hb
 refine wa (nt' ?_)
 have hw2 := wrap_id (n := x1 + 1) (by omega) (by omega)
 let F1 := fun k (s : (List DRow) × Int × Int × Nat × Int) => spec_l3Rows_b1 x0b k s.1 s.2.1 s.2.2.1 s.2.2.2.1 s.2.2.2.2
 let R2 := rngb (R := ((List DRow) × Dl1Cur)) F1
 refine CM_cut (σ := ((List DRow) × Int × Int × Nat × Int) × (Option Addr × Nat)) (fun s => [(5, .slice s.2.1 s.1.1.length s.2.2)]) (fun s => (iBox p 115 [.slice A2 x0b.length c3, .int .i64 ((s.1.2.2.2.1 : Nat) : Int), .int .i64 s.1.2.2.2.2] :: iOwn (tSl tyRow 43) [.slice s.2.1 s.1.1.length s.2.2] s.1.1 :: is)) (fun s => R2 ((G11.1).toNat + 1 - 0) 0 ([], (spec_l1Below_m x0b x0 3).1, G11.1, G11.2.i, G11.2.h) = Sum.inr s.1) ?_ ?_
 ·
  refine CM_block ?_
  refine CM_loop (σ := Nat × ((List DRow) × Int × Int × Nat × Int) × (Option Addr × Nat)) (fun s => [(0, .pointer (some (⟨p, 0, none⟩ : Addr))), (5, .slice s.2.2.1 s.2.1.1.length s.2.2.2), (6, .int .i64 s.2.1.2.1), (7, .int .i64 s.2.1.2.2.1)]) (fun s => (iBox p 115 [.slice A2 x0b.length c3, .int .i64 ((s.2.1.2.2.2.1 : Nat) : Int), .int .i64 s.2.1.2.2.2.2] :: iOwn (tSl tyRow 43) [.slice s.2.2.1 s.2.1.1.length s.2.2.2] s.2.1.1 :: is)) (fun s => s.1 + ((s.2.1.2.2.1).toNat) + 1 ≤ (G11.1).toNat + 1 ∧ R2 ((G11.1).toNat + 1 - s.1) s.1 s.2.1 = R2 ((G11.1).toNat + 1 - 0) 0 ([], (spec_l1Below_m x0b x0 3).1, G11.1, G11.2.i, G11.2.h) ∧ s.2.1.1.length ≤ 0 + s.1 ∧ 0 ≤ s.2.1.2.2.1 ∧ s.2.1.2.2.1 ≤ 101) (fun s => (G11.1).toNat + 1 - s.1) (0, ([], (spec_l1Below_m x0b x0 3).1, G11.1, G11.2.i, G11.2.h), ((some ⟨p7, 0, none⟩), 0)) sl4 (fun W hm => hm) ⟨(show 0 + ((G11.1).toNat) + 1 ≤ (G11.1).toNat + 1 from by omega), rfl, Nat.le_refl _, (show 0 ≤ G11.1 from by omega), (show G11.1 ≤ 101 from by omega)⟩ ?_
  rintro ⟨k12, ⟨d13, s16, s17, s18, s19⟩, ⟨A14, c15⟩⟩ H22
  obtain ⟨hk20, hF21, hi23, hi24, hi25⟩ : k12 + ((s17).toNat) + 1 ≤ (G11.1).toNat + 1 ∧ R2 ((G11.1).toNat + 1 - k12) k12 (d13, s16, s17, s18, s19) = R2 ((G11.1).toNat + 1 - 0) 0 ([], (spec_l1Below_m x0b x0 3).1, G11.1, G11.2.i, G11.2.h) ∧ d13.length ≤ 0 + k12 ∧ 0 ≤ s17 ∧ s17 ≤ 101 := H22
  let I4 : It := iOwn (tSl tyRow 43) [.slice A14 d13.length c15] d13
  show CM Tryd.prog 31 _ _ _ _ [(0, .pointer (some (⟨p, 0, none⟩ : Addr))), (5, .slice A14 d13.length c15), (6, .int .i64 s16), (7, .int .i64 s17)] (iBox p 115 [.slice A2 x0b.length c3, .int .i64 ((s18 : Nat) : Int), .int .i64 s19] :: I4 :: is)
  have hw1 := wrap_id (n := s17 - 1) (by omega) (by omega)
  have hw2 := wrap_id (n := x1 + 1) (by omega) (by omega)
  refine CM_seq (sr (wm ?_))
  refine wv (fun W hm => rv_gtr rfl rfl) ?_
  refine nt' ?_
  by_cases h26 : 0 < s17
  ·have g27 := decide_eq_true h26
   refine CM_condT rfl g27 ?_
   refine CM_skip (QM_then (CM_seq (CM_block (sr (wm (wm (wm ?_)))))))
   refine WM_callW (χ := List Value) (val := fun x => .agg x.toArray) (js := fun x => (iOwn tyRow x ((spec_l3Row_m x0b (⟨s18, s19⟩ : Dl1Cur) s16).1) :: iBox p 115 [.slice A2 x0b.length c3, .int .i64 ((((spec_l3Row_m x0b (⟨s18, s19⟩ : Dl1Cur) s16).2).i : Nat) : Int), .int .i64 ((spec_l3Row_m x0b (⟨s18, s19⟩ : Dl1Cur) s16).2).h] :: (I4 :: is))) (cl_fn cb110 rfl) (fun W hm => spec_l3Row_c B w0 (I4 :: is) W p _ x0b (⟨s18, s19⟩ : Dl1Cur) r5 s16 s_0 (hm.front (n := 0) rfl)) (Wd_none rfl) (by decide) (fun z28 => ?_)
   obtain ⟨G29, hG29⟩ : ∃ G, G = (spec_l3Row_m x0b (⟨s18, s19⟩ : Dl1Cur) s16) := ⟨_, rfl⟩
   rw [← hG29]
   refine tyRow_sp ?_
   rintro v30 rfl
   refine WM_form (n := 0) rfl ?_
   rintro A31 c32 rfl m33
   refine WM_build (cs := [.int .i64 G29.1.Id, .slice A31 G29.1.Values.length c32]) underlying75 type43 rfl (by decide) (by decide) rfl (by kernel_rfl) (Wd_none rfl) (by decide) (fun p35 => ?_)
   refine ap1 tyRow 43 (.slice A14 d13.length c15) d13 G29.1 [iOwn (tSl tInt 3) [.slice A31 G29.1.Values.length c32] G29.1.Values] (iBox p 115 [.slice A2 x0b.length c3, .int .i64 ((G29.2.i : Nat) : Int), .int .i64 G29.2.h] :: is) [.int .i64 G29.1.Id, .slice A31 G29.1.Values.length c32] (fun W hm => (((hm.front (n := 1) rfl).front (n := 3) rfl).front (n := 2) rfl)) (fun _ _ hs => Els.single (tyRow_join (x := G29.1) hs)) underlying75 type43 (show (d13.length + 1) * 32 ≤ 140737488355328 from by omega) (fun v36 => ?_)
   refine WM_form (n := 0) rfl ?_
   rintro A37 c38 rfl m39
   refine wa (nt' (CM_region (wm ?_)))
   refine wv vadd ?_
   refine wm ?_
   let I5 : It := iOwn (tSl tyRow 43) [.slice A37 (d13 ++ [G29.1]).length c38] (d13 ++ [G29.1])
   refine WM_callW (χ := Unit) (val := fun x => .int .i64 ((spec_l1Below_m x0b G29.2 3).1)) (js := fun x => (iBox p 115 [.slice A2 x0b.length c3, .int .i64 ((((spec_l1Below_m x0b G29.2 3).2).i : Nat) : Int), .int .i64 ((spec_l1Below_m x0b G29.2 3).2).h] :: (I5 :: is))) (cl_fn cb67 rfl) (fun W hm => spec_l1Below_c B w0 (I5 :: is) W p _ x0b G29.2 r5 3 s_0 (hm.front (n := 1) rfl)) (Wd_none rfl) (by decide) (fun z41 => ?_)
   have hb := spec_l1Below_rng x0b G29.2 3
   refine wv vadd ?_
   refine wa (WM_nil (QM_block_normal (QM_then (CM_region (wm ?_)))))
   refine wv (fun W hm => rv_sub rfl rfl) ?_
   refine wa (WM_nil ?_)
   have hn42 := rngb_next (R := ((List DRow) × Dl1Cur)) (body := F1) (k := k12) (s := (d13, s16, s17, s18, s19)) (s' := ((d13 ++ [G29.1]), (IntKind.i64.wrap ((IntKind.i64.wrap (s16 + 1)) + ((spec_l1Below_m x0b G29.2 3).1))), (IntKind.i64.wrap (s17 - 1)), ((spec_l1Below_m x0b G29.2 3).2).i, ((spec_l1Below_m x0b G29.2 3).2).h)) (show k12 < (G11.1).toNat + 1 from by omega) (by subst hG11 hG29; exact cond_t g27 (rfl)) hF21
   exact QM_round (k12 + 1, ((d13 ++ [G29.1]), (IntKind.i64.wrap ((IntKind.i64.wrap (s16 + 1)) + ((spec_l1Below_m x0b G29.2 3).1))), (IntKind.i64.wrap (s17 - 1)), ((spec_l1Below_m x0b G29.2 3).2).i, ((spec_l1Below_m x0b G29.2 3).2).h), (A37, c38)) sl4 (fun W hm => hm) ⟨(show (k12 + 1) + (((IntKind.i64.wrap (s17 - 1))).toNat) + 1 ≤ (G11.1).toNat + 1 from by omega), hn42, (show (d13 ++ [G29.1]).length ≤ 0 + (k12 + 1) from by first | omega | (simp only [List.length_append, List.length_cons, List.length_nil] at *; omega)), (show 0 ≤ (IntKind.i64.wrap (s17 - 1)) from by first | omega | (simp only [List.length_append, List.length_cons, List.length_nil] at *; omega)), (show (IntKind.i64.wrap (s17 - 1)) ≤ 101 from by first | omega | (simp only [List.length_append, List.length_cons, List.length_nil] at *; omega))⟩ (show (G11.1).toNat + 1 - (k12 + 1) < (G11.1).toNat + 1 - k12 from by omega)
  ·have g27 := decide_eq_false h26
   refine CM_condF rfl g27 ?_
   refine CM_exit (QM_then_exit (QM_then_exit (QM_block_hit ?_)))
   have hE43 := rngb_brk (R := ((List DRow) × Dl1Cur)) (body := F1) (k := k12) (s := (d13, s16, s17, s18, s19)) (s' := (d13, s16, s17, s18, s19)) (show k12 < (G11.1).toNat + 1 from by omega) (by subst hG11; exact cond_f g27 (rfl)) hF21
   exact QM_cut_normal ((d13, s16, s17, s18, s19), (A14, c15)) (subL_cons rfl subL_nil) (fun W hm => hm) hE43
 ·
  rintro ⟨⟨d13, s16, s17, s18, s19⟩, ⟨A14, c15⟩⟩ H45
  have hE44 : R2 ((G11.1).toNat + 1 - 0) 0 ([], (spec_l1Below_m x0b x0 3).1, G11.1, G11.2.i, G11.2.h) = Sum.inr (d13, s16, s17, s18, s19) := H45
  show QM 31 _ _ _ .normal [(5, .slice A14 d13.length c15)] (iBox p 115 [.slice A2 x0b.length c3, .int .i64 ((s18 : Nat) : Int), .int .i64 s19] :: iOwn (tSl tyRow 43) [.slice A14 d13.length c15] d13 :: is)
  refine QM_then (sr (wm (wa (nt' (CM_ret ?_)))))
  have he46 := (show spec_l3Rows_m x0b x0 x1 = (d13, (⟨s18, s19⟩ : Dl1Cur)) from by subst hG11; exact fin_inr hE44 (rfl))
  refine QM_r1 rfl (RR_tmp rfl) (fun W hm => ⟨.slice A14 d13.length c15, ?_, ?_⟩)
  ·first | rw [he46] | rfl
  ·rw [he46]; exact ((hm.front (n := 0) rfl).front (n := 1) rfl)

def spec_l1In_m (x0 : Int) (x1 : Int) (x2 : Int) : Bool :=
 cond (decide (x1 ≤ x0)) (decide (x0 ≤ x2)) false
theorem cb48 : Cb Tryd.prog 48 := ⟨f48, _, func48, rfl, by decide⟩
theorem spec_l1In_c (w : World) (x0 : Int) (x1 : Int) (x2 : Int) :
  Calls Tryd.prog 48 #[.int .i64 x0, .int .i64 x1, .int .i64 x2] w fun e w' => e = .returned (.bool (spec_l1In_m x0 x1 x2)) ∧ Below w.heap.size w w' := by
 refine ce3 (L := [(0, .int .i64 x0), (1, .int .i64 x1), (2, .int .i64 x2)]) (N := 15) func48 ?_
 refine sr (wa (nt' (sr (wm (wm ?_)))))
 refine wv (fun W hm => rv_geq rfl rfl) ?_
 refine wm ?_
 by_cases h1 : x1 ≤ x0
 ·have g2 := decide_eq_true h1
  refine wg vmv g2 ?_
  refine wg vmv g2 ?_
  refine wg (fun W hm => rv_leq rfl rfl) g2 ?_
  refine wv (vpT g2) ?_
  refine wa (nt' (CM_ret ?_))
  exact rtb (h := cond_t g2 (rfl))
 ·have g2 := decide_eq_false h1
  refine ws g2 ?_
  refine ws g2 ?_
  refine ws g2 ?_
  refine wv (vpF g2) ?_
  refine wa (nt' (CM_ret ?_))
  exact rtb (h := cond_f g2 (rfl))

theorem spec_l1In_fact {x a b : Int} (h : spec_l1In_m x a b = true) : a ≤ x ∧ x ≤ b := by
  unfold spec_l1In_m at h
  by_cases h1 : a ≤ x
  · rw [decide_eq_true h1] at h
    exact ⟨h1, of_decide_eq_true h⟩
  · rw [decide_eq_false h1] at h
    cases h
theorem spec_l1In_iff (x a b : Int) : spec_l1In_m x a b = decide (a ≤ x ∧ x ≤ b) := by
  unfold spec_l1In_m
  by_cases h1 : a ≤ x
  · by_cases h2 : x ≤ b
    · simp [h1, h2]
    · simp [h1, h2]
  · simp [h1]

def spec_IsCond_m (x0 : DCond) : Bool :=
 cond (spec_l1In_m x0.Field 0 2) (cond (spec_l1In_m x0.Low 0 x0.High) (decide (x0.High ≤ 99)) false) false
theorem cb139 : Cb Tryd.prog 139 := ⟨f139, _, func139, rfl, by decide⟩
theorem spec_IsCond_c (w : World) (z0 : List Value) (x0 : DCond) (r_0 : tyCond.rd w w.heap.size z0 x0) :
  Calls Tryd.prog 139 #[.agg z0.toArray] w fun e w' => e = .returned (.bool (spec_IsCond_m x0)) ∧ Below w.heap.size w w' := by
 obtain rfl := tyCond_rd r_0
 refine ce1 (L := [(0, .agg #[.int .i64 x0.Field, .int .i64 x0.Low, .int .i64 x0.High])]) (N := 18) func139 ?_
 refine sr ?_
 refine WM_box rfl (Wd_none rfl) (by decide) (fun p1 => ?_)
 refine wa (nt' (sr ?_))
 refine wv (vf underlying165 rfl type3) ?_
 refine wv (vl 0 0 underlying3) ?_
 refine wcv (cl_fn cb48 rfl) (fun W hm => spec_l1In_c W x0.Field 0 2) ?_
 refine wm ?_
 rcases Bool.eq_false_or_eq_true (spec_l1In_m x0.Field 0 2) with g3 | g3
 ·
  have hw := spec_l1In_fact g3
  refine wg (vf underlying165 rfl type3) g3 ?_
  refine wg (vl 0 1 underlying3) g3 ?_
  refine wg (vf underlying165 rfl type3) g3 ?_
  refine wg (vl 0 2 underlying3) g3 ?_
  refine WM_callV (cl_fn cb48 rfl) (fun W hm => spec_l1In_c W x0.Low 0 x0.High) (Wd_some rfl rfl rfl (bw g3 rfl)) (by decide) ?_
  refine wv (vpT g3) ?_
  refine wm ?_
  rcases Bool.eq_false_or_eq_true (spec_l1In_m x0.Low 0 x0.High) with g5 | g5
  ·
   have hw := spec_l1In_fact g5
   refine wg (vf underlying165 rfl type3) g5 ?_
   refine wg (vl 0 2 underlying3) g5 ?_
   refine wg (fun W hm => rv_leq rfl rfl) g5 ?_
   refine wv (vpT g5) ?_
   refine wa (nt' (CM_ret ?_))
   exact rtb (h := cond_t g3 (cond_t g5 (rfl)))
  ·
   refine ws g5 ?_
   refine ws g5 ?_
   refine ws g5 ?_
   refine wv (vpF g5) ?_
   refine wa (nt' (CM_ret ?_))
   exact rtb (h := cond_t g3 (cond_f g5 (rfl)))
 ·
  refine ws g3 ?_
  refine ws g3 ?_
  refine ws g3 ?_
  refine ws g3 ?_
  refine ws g3 ?_
  refine wv (vpF g3) ?_
  refine wm ?_
  refine wk ?_
  refine wk ?_
  refine wk ?_
  refine wv (vpF rfl) ?_
  refine wa (nt' (CM_ret ?_))
  exact rtb (h := cond_f g3 (rfl))

def spec_l4Fields_b1 (x0 : (List Int)) (k6 : Nat) : Bool ⊕ (Unit) :=
 cond (spec_l1In_m (gt x0 k6) 0 2) (Sum.inr ()) (Sum.inl false)
def spec_l4Fields_m (x0 : (List Int)) : Bool :=
 Sum.elim id (fun (s : Unit) => (spec_l1In_m ((x0.length : Nat) : Int) 1 3)) (rng (R := Bool) (fun k (_ : Unit) => spec_l4Fields_b1 x0 k) (x0.length - 0) 0 ())
theorem cb140 : Cb Tryd.prog 140 := ⟨f140, _, func140, rfl, by decide⟩
theorem spec_l4Fields_c (w : World) (z0 : Value) (x0 : (List Int)) (r_0 : rdS tInt w w.heap.size z0 x0) :
  Calls Tryd.prog 140 #[z0] w fun e w' => e = .returned (.bool (spec_l4Fields_m x0)) ∧ Below w.heap.size w w' := by
 obtain ⟨m1, A2, c3, rfl, q4, r5⟩ := rdS_op r_0
 refine ce1 (L := [(0, .slice A2 x0.length c3)]) (N := 19) func140 ?_
 refine sr (wa (nt' (CM_seq (sr (wa (nt' (CM_block ?_)))))))
 let F1 := fun k (_ : Unit) => spec_l4Fields_b1 x0 k
 let R2 := rng (R := Bool) F1
 refine CM_loop (σ := Nat × (Unit) × (Unit)) (fun s => [(0, .slice A2 x0.length c3), (3, .int .i64 ((s.1 : Nat) : Int))]) (fun s => []) (fun s => s.1 ≤ x0.length ∧ R2 (x0.length - s.1) s.1 s.2.1 = R2 (x0.length - 0) 0 ()) (fun s => x0.length - s.1) (0, (), ()) sl2 (fun W hm => hm) ⟨(by omega), rfl⟩ ?_
 rintro ⟨k6, ⟨⟩, ⟨⟩⟩ H9
 obtain ⟨hk7, hF8⟩ : k6 ≤ x0.length ∧ R2 (x0.length - k6) k6 () = R2 (x0.length - 0) 0 () := H9
 show CM Tryd.prog 19 _ _ _ _ [(0, .slice A2 x0.length c3), (3, .int .i64 ((k6 : Nat) : Int))] []
 refine CM_seq (sr (wm (wm ?_)))
 refine wv (vlen underlying28) ?_
 refine wv vlss ?_
 refine nt' ?_
 by_cases hl10 : k6 < x0.length
 ·have g11 := dlT hl10
  refine CM_condT rfl g11 ?_
  refine CM_skip (QM_then (CM_seq (CM_block (sr (wm (wm ?_))))))
  obtain ⟨a12, rfl, hb13, he14⟩ := q4 (by omega)
  refine wv (vix 1 k6 underlying28 type3) ?_
  refine wv (fun W hm => rv_load underlying3 rfl rfl ((hm.cell0 (show (a12.add (k6 * 1)).block < w.heap.size from by rw [add_block]; exact hb13.1)).trans (rdS_int he14 k6 (by omega)))) ?_
  refine wcv (cl_fn cb48 rfl) (fun W hm => spec_l1In_c W (gt x0 k6) 0 2) ?_
  refine wv vnot ?_
  refine nt' ?_
  rcases Bool.eq_false_or_eq_true (spec_l1In_m (gt x0 k6) 0 2) with g16 | g16
  ·
   have hw := spec_l1In_fact g16
   refine CM_condF rfl (nt g16) ?_
   refine CM_skip (QM_block_normal (QM_then (CM_region (wm ?_))))
   refine wv (vadN k6 1 (by omega)) ?_
   refine wa (WM_nil ?_)
   have hn17 := rng_next (R := Bool) (body := F1) (k := k6) (s := ()) (s' := ()) (show k6 < x0.length from by omega) (cond_t g16 (rfl)) hF8
   exact QM_round (k6 + 1, (), ()) sl2 (fun W hm => hm) ⟨(by omega), hn17⟩ (rl (by omega))
  ·
   refine CM_condT rfl (nf g16) ?_
   refine sr (wa (nt' (CM_ret (QM_block_ret (QM_then_ret (QM_then_ret (QM_block_ret (QM_then_ret ?_))))))))
   exact rtb (h := fin_inl (rng_ret (body := F1) (k := k6) (s := ()) (show k6 < x0.length from by omega) (cond_f g16 (rfl)) hF8) rfl)
 ·have g11 := dlF hl10
  refine CM_condF rfl g11 ?_
  refine CM_exit (QM_then_exit (QM_then_exit ?_))
  have hE18 : R2 (x0.length - 0) 0 () = Sum.inr () := rng_end hl10 hF8
  refine QM_block_hit (QM_then (sr (wm ?_)))
  refine wv (vlen underlying28) ?_
  refine wcv (cl_fn cb48 rfl) (fun W hm => spec_l1In_c W ((x0.length : Nat) : Int) 1 3) ?_
  refine wa (nt' (CM_ret ?_))
  exact rtb (h := fin_inr hE18 (rfl))

def spec_IsQuery_b1 (x0 : DQuery) (k16 : Nat) : Bool ⊕ (Unit) :=
 cond (spec_IsCond_m (gt x0.Conds k16)) (cond (decide (0 < ((k16 : Nat) : Int))) (cond (decide (((gt x0.Conds k16).Field) ≤ ((gt x0.Conds (k16 - 1)).Field))) (Sum.inl false) (Sum.inr ())) (Sum.inr ())) (Sum.inl false)
def spec_IsQuery_m (x0 : DQuery) : Bool :=
 Sum.elim id (fun (s : Unit) => cond (spec_l1In_m x0.Id 0 23) (cond (spec_l1In_m x0.Tenant 0 3) (cond (decide (((x0.Conds.length : Nat) : Int) ≤ 3)) (spec_l4Fields_m x0.Out) false) false) false) (rng (R := Bool) (fun k (_ : Unit) => spec_IsQuery_b1 x0 k) (x0.Conds.length - 0) 0 ())
theorem cb131 : Cb Tryd.prog 131 := ⟨f131, _, func131, rfl, by decide⟩
theorem spec_IsQuery_c (w : World) (z0 : List Value) (x0 : DQuery) (r_0 : tyQuery.rd w w.heap.size z0 x0) :
  Calls Tryd.prog 131 #[.agg z0.toArray] w fun e w' => e = .returned (.bool (spec_IsQuery_m x0)) ∧ Below w.heap.size w w' := by
 obtain ⟨v1, v3, rfl, r2, r4⟩ := tyQuery_rd r_0
 obtain ⟨m5, A6, c7, rfl, q8, r9⟩ := rdS_op r2
 obtain ⟨m10, A11, c12, rfl, q13, r14⟩ := rdS_op r4
 refine ce1 (L := [(0, .agg #[.int .i64 x0.Id, .int .i64 x0.Tenant, .slice A6 x0.Conds.length c7, .slice A11 x0.Out.length c12])]) (N := 57) func131 ?_
 refine sr ?_
 refine WM_box rfl (Wd_none rfl) (by decide) (fun p15 => ?_)
 refine wa (nt' (CM_seq (sr (wa (nt' (CM_block ?_))))))
 let F1 := fun k (_ : Unit) => spec_IsQuery_b1 x0 k
 let R2 := rng (R := Bool) F1
 let K3 : List Value := [.int .i64 x0.Id, .int .i64 x0.Tenant, .slice A6 x0.Conds.length c7, .slice A11 x0.Out.length c12]
 refine CM_loop (σ := Nat × (Unit) × (Unit)) (fun s => [(1, .pointer (some (⟨p15, 0, none⟩ : Addr))), (3, .int .i64 ((s.1 : Nat) : Int))]) (fun s => [iBox p15 150 K3]) (fun s => s.1 ≤ x0.Conds.length ∧ R2 (x0.Conds.length - s.1) s.1 s.2.1 = R2 (x0.Conds.length - 0) 0 ()) (fun s => x0.Conds.length - s.1) (0, (), ()) sl2 (fun W hm => hm) ⟨(by omega), rfl⟩ ?_
 rintro ⟨k16, ⟨⟩, ⟨⟩⟩ H19
 obtain ⟨hk17, hF18⟩ : k16 ≤ x0.Conds.length ∧ R2 (x0.Conds.length - k16) k16 () = R2 (x0.Conds.length - 0) 0 () := H19
 show CM Tryd.prog 57 _ _ _ _ [(1, .pointer (some (⟨p15, 0, none⟩ : Addr))), (3, .int .i64 ((k16 : Nat) : Int))] [iBox p15 150 K3]
 refine CM_seq (sr (wm ?_))
 refine wv (vf underlying150 rfl type148) ?_
 refine wv (vl 0 2 underlying148) ?_
 refine wv (vlen underlying148) ?_
 refine wv vlss ?_
 refine nt' ?_
 by_cases hl20 : k16 < x0.Conds.length
 ·have g21 := dlT hl20
  refine CM_condT rfl g21 ?_
  refine CM_skip (QM_then (CM_seq (CM_block (CM_seq ?_))))
  refine CM_regionD (by kernel_rfl) (by kernel_rfl) ?_
  refine qv (vf underlying150 rfl type148) ?_
  refine qv (vl 0 2 underlying148) ?_
  refine qm ?_
  obtain ⟨a22, rfl, hb23, he24⟩ := q8 (by omega)
  refine qv (vix 3 k16 underlying148 type165) ?_
  obtain ⟨_, e26, hc25⟩ := he24 k16 _ (gt_some (show k16 < x0.Conds.length from by omega))
  obtain rfl := tyCond_rd e26
  refine qv (fun W hm => rv_loadN (cs := [.int .i64 ((gt x0.Conds k16).Field), .int .i64 ((gt x0.Conds k16).Low), .int .i64 ((gt x0.Conds k16).High)]) underlying165 type165 rfl rfl (hm.elCells (show (a22.add (k16 * 3)).block < w.heap.size from by rw [add_block]; exact hb23.1) hc25)) ?_
  refine QR_callV (cl_fn cb139 rfl) (fun W hm => spec_IsCond_c W _ (gt x0.Conds k16) (tyCond_mk (x := (gt x0.Conds k16)))) (Wd_none rfl) (by decide) ?_
  refine qv vnot ?_
  refine qm ?_
  rcases Bool.eq_false_or_eq_true (spec_IsCond_m (gt x0.Conds k16)) with g28 | g28
  ·
   refine qg vmv (nt g28) ?_
   refine qg (fun W hm => rv_gtr rfl rfl) (nt g28) ?_
   refine qg vmv (nt g28) ?_
   by_cases h29 : 0 < ((k16 : Nat) : Int)
   ·have g30 := decide_eq_true h29
    refine qg (vf underlying150 rfl type148) g30 ?_
    refine qg (vl 0 2 underlying148) g30 ?_
    refine qg vmv g30 ?_
    refine qg (vix 3 k16 underlying148 type165) g30 ?_
    refine qg (vf underlying165 rfl type3) g30 ?_
    refine qg (fun W hm => rv_load underlying3 rfl rfl ((hm.cell0 (show ((a22.add (k16 * 3)).add 0).block < w.heap.size from by rw [add_block, add_block]; exact hb23.1)).trans (hc25 0 _ rfl))) g30 ?_
    refine qg (vf underlying150 rfl type148) g30 ?_
    refine qg (vl 0 2 underlying148) g30 ?_
    refine qg vmv g30 ?_
    refine qg (fun W hm => rv_subN (p := k16) (q := 1) rfl rfl (by omega) (by omega)) g30 ?_
    refine qg (fun W hm => rv_index (sz := 3) (k := k16 - 1) underlying148 type165 rfl rfl rfl (by omega)) g30 ?_
    refine qg (vf underlying165 rfl type3) g30 ?_
    obtain ⟨_, e32, hc31⟩ := he24 (k16 - 1) _ (gt_some (show (k16 - 1) < x0.Conds.length from by omega))
    obtain rfl := tyCond_rd e32
    refine qg (fun W hm => rv_load underlying3 rfl rfl ((hm.cell0 (show ((a22.add ((k16 - 1) * 3)).add 0).block < w.heap.size from by rw [add_block, add_block]; exact hb23.1)).trans (hc31 0 _ rfl))) g30 ?_
    refine qg (fun W hm => rv_leq rfl rfl) g30 ?_
    refine qg (vpT g30) (nt g28) ?_
    refine qv (vpF (nt g28)) ?_
    refine nq' ?_
    by_cases h33 : ((gt x0.Conds k16).Field) ≤ ((gt x0.Conds (k16 - 1)).Field)
    ·have g34 := decide_eq_true h33
     refine CM_condT rfl g34 ?_
     refine sr (wa (nt' (CM_ret (QM_block_ret (QM_then_ret (QM_then_ret (QM_block_ret (QM_then_ret ?_))))))))
     exact rtb (h := fin_inl (rng_ret (body := F1) (k := k16) (s := ()) (show k16 < x0.Conds.length from by omega) (cond_t g28 (cond_t g30 (cond_t g34 (rfl)))) hF18) rfl)
    ·have g34 := decide_eq_false h33
     refine CM_condF rfl g34 ?_
     refine CM_skip (QM_block_normal (QM_then (CM_region (wm ?_))))
     refine wv (vadN k16 1 (by omega)) ?_
     refine wa (WM_nil ?_)
     have hn35 := rng_next (R := Bool) (body := F1) (k := k16) (s := ()) (s' := ()) (show k16 < x0.Conds.length from by omega) (cond_t g28 (cond_t g30 (cond_f g34 (rfl)))) hF18
     exact QM_round (k16 + 1, (), ()) sl2 (fun W hm => hm) ⟨(by omega), hn35⟩ (rl (by omega))
   ·have g30 := decide_eq_false h29
    refine qs g30 ?_
    refine qs g30 ?_
    refine qs g30 ?_
    refine qs g30 ?_
    refine qs g30 ?_
    refine qs g30 ?_
    refine qs g30 ?_
    refine qs g30 ?_
    refine qs g30 ?_
    refine qs g30 ?_
    refine qs g30 ?_
    refine qs g30 ?_
    refine qs g30 ?_
    refine qs g30 ?_
    refine qg (vpF g30) (nt g28) ?_
    refine qv (vpF (nt g28)) ?_
    refine nq' ?_
    refine CM_condF rfl rfl ?_
    refine CM_skip (QM_block_normal (QM_then (CM_region (wm ?_))))
    refine wv (vadN k16 1 (by omega)) ?_
    refine wa (WM_nil ?_)
    have hn36 := rng_next (R := Bool) (body := F1) (k := k16) (s := ()) (s' := ()) (show k16 < x0.Conds.length from by omega) (cond_t g28 (cond_f g30 (rfl))) hF18
    exact QM_round (k16 + 1, (), ()) sl2 (fun W hm => hm) ⟨(by omega), hn36⟩ (rl (by omega))
  ·
   refine qs (nf g28) ?_
   refine qs (nf g28) ?_
   refine qs (nf g28) ?_
   refine qu ?_
   refine qu ?_
   refine qu ?_
   refine qu ?_
   refine qu ?_
   refine qu ?_
   refine qu ?_
   refine qu ?_
   refine qu ?_
   refine qu ?_
   refine qu ?_
   refine qu ?_
   refine qu ?_
   refine qu ?_
   refine qs (nf g28) ?_
   refine qv (vpT (nf g28)) ?_
   refine nq' ?_
   refine CM_condT rfl rfl ?_
   refine sr (wa (nt' (CM_ret (QM_block_ret (QM_then_ret (QM_then_ret (QM_block_ret (QM_then_ret ?_))))))))
   exact rtb (h := fin_inl (rng_ret (body := F1) (k := k16) (s := ()) (show k16 < x0.Conds.length from by omega) (cond_f g28 (rfl)) hF18) rfl)
 ·have g21 := dlF hl20
  refine CM_condF rfl g21 ?_
  refine CM_exit (QM_then_exit (QM_then_exit ?_))
  have hE37 : R2 (x0.Conds.length - 0) 0 () = Sum.inr () := rng_end hl20 hF18
  refine QM_block_hit (QM_then (sr ?_))
  refine wv (vf underlying150 rfl type3) ?_
  refine wv (vl 0 0 underlying3) ?_
  refine wcv (cl_fn cb48 rfl) (fun W hm => spec_l1In_c W x0.Id 0 23) ?_
  refine wm ?_
  rcases Bool.eq_false_or_eq_true (spec_l1In_m x0.Id 0 23) with g39 | g39
  ·
   have hw := spec_l1In_fact g39
   refine wg (vf underlying150 rfl type3) g39 ?_
   refine wg (vl 0 1 underlying3) g39 ?_
   refine WM_callV (cl_fn cb48 rfl) (fun W hm => spec_l1In_c W x0.Tenant 0 3) (Wd_some rfl rfl rfl (bw g39 rfl)) (by decide) ?_
   refine wv (vpT g39) ?_
   refine wm ?_
   rcases Bool.eq_false_or_eq_true (spec_l1In_m x0.Tenant 0 3) with g41 | g41
   ·
    have hw := spec_l1In_fact g41
    refine wg (vf underlying150 rfl type148) g41 ?_
    refine wg (vl 0 2 underlying148) g41 ?_
    refine wg (vlen underlying148) g41 ?_
    refine wg (fun W hm => rv_leq rfl rfl) g41 ?_
    refine wv (vpT g41) ?_
    refine wm ?_
    by_cases h42 : ((x0.Conds.length : Nat) : Int) ≤ 3
    ·have g43 := decide_eq_true h42
     refine wg (vf underlying150 rfl type28) g43 ?_
     refine wg (vl 0 3 underlying28) g43 ?_
     refine WM_callV (cl_fn cb140 rfl) (fun W hm => spec_l4Fields_c W _ x0.Out (hm.rdS0 r14)) (Wd_some rfl rfl rfl (bw g43 rfl)) (by decide) ?_
     refine wv (vpT g43) ?_
     refine wa (nt' (CM_ret ?_))
     exact rtb (h := fin_inr hE37 (cond_t g39 (cond_t g41 (cond_t g43 (rfl)))))
    ·have g43 := decide_eq_false h42
     refine ws g43 ?_
     refine ws g43 ?_
     refine ws g43 ?_
     refine wv (vpF g43) ?_
     refine wa (nt' (CM_ret ?_))
     exact rtb (h := fin_inr hE37 (cond_t g39 (cond_t g41 (cond_f g43 (rfl)))))
   ·
    refine ws g41 ?_
    refine ws g41 ?_
    refine ws g41 ?_
    refine ws g41 ?_
    refine wv (vpF g41) ?_
    refine wm ?_
    refine wk ?_
    refine wk ?_
    refine wk ?_
    refine wv (vpF rfl) ?_
    refine wa (nt' (CM_ret ?_))
    exact rtb (h := fin_inr hE37 (cond_t g39 (cond_f g41 (rfl))))
  ·
   refine ws g39 ?_
   refine ws g39 ?_
   refine ws g39 ?_
   refine wv (vpF g39) ?_
   refine wm ?_
   refine wk ?_
   refine wk ?_
   refine wk ?_
   refine wk ?_
   refine wv (vpF rfl) ?_
   refine wm ?_
   refine wk ?_
   refine wk ?_
   refine wk ?_
   refine wv (vpF rfl) ?_
   refine wa (nt' (CM_ret ?_))
   exact rtb (h := fin_inr hE37 (cond_f g39 (rfl)))

def spec_AreQueries_b1 (x0 : (List DQuery)) (k6 : Nat) : Bool ⊕ (Unit) :=
 cond (spec_IsQuery_m (gt x0 k6)) (cond (decide (0 < ((k6 : Nat) : Int))) (cond (decide (((gt x0 k6).Id) ≤ ((gt x0 (k6 - 1)).Id))) (Sum.inl false) (Sum.inr ())) (Sum.inr ())) (Sum.inl false)
def spec_AreQueries_m (x0 : (List DQuery)) : Bool :=
 Sum.elim id (fun (s : Unit) => (decide (((x0.length : Nat) : Int) ≤ 24))) (rng (R := Bool) (fun k (_ : Unit) => spec_AreQueries_b1 x0 k) (x0.length - 0) 0 ())
theorem cb120 : Cb Tryd.prog 120 := ⟨f120, _, func120, rfl, by decide⟩
theorem spec_AreQueries_c (w : World) (z0 : Value) (x0 : (List DQuery)) (r_0 : rdS tyQuery w w.heap.size z0 x0) :
  Calls Tryd.prog 120 #[z0] w fun e w' => e = .returned (.bool (spec_AreQueries_m x0)) ∧ Below w.heap.size w w' := by
 obtain ⟨m1, A2, c3, rfl, q4, r5⟩ := rdS_op r_0
 refine ce1 (L := [(0, .slice A2 x0.length c3)]) (N := 37) func120 ?_
 refine sr (wa (nt' (CM_seq (sr (wa (nt' (CM_block ?_)))))))
 let F1 := fun k (_ : Unit) => spec_AreQueries_b1 x0 k
 let R2 := rng (R := Bool) F1
 refine CM_loop (σ := Nat × (Unit) × (Unit)) (fun s => [(0, .slice A2 x0.length c3), (3, .int .i64 ((s.1 : Nat) : Int))]) (fun s => []) (fun s => s.1 ≤ x0.length ∧ R2 (x0.length - s.1) s.1 s.2.1 = R2 (x0.length - 0) 0 ()) (fun s => x0.length - s.1) (0, (), ()) sl2 (fun W hm => hm) ⟨(by omega), rfl⟩ ?_
 rintro ⟨k6, ⟨⟩, ⟨⟩⟩ H9
 obtain ⟨hk7, hF8⟩ : k6 ≤ x0.length ∧ R2 (x0.length - k6) k6 () = R2 (x0.length - 0) 0 () := H9
 show CM Tryd.prog 37 _ _ _ _ [(0, .slice A2 x0.length c3), (3, .int .i64 ((k6 : Nat) : Int))] []
 refine CM_seq (sr (wm (wm ?_)))
 refine wv (vlen underlying123) ?_
 refine wv vlss ?_
 refine nt' ?_
 by_cases hl10 : k6 < x0.length
 ·have g11 := dlT hl10
  refine CM_condT rfl g11 ?_
  refine CM_skip (QM_then (CM_seq (CM_block (CM_seq ?_))))
  refine CM_regionD (by kernel_rfl) (by kernel_rfl) ?_
  refine qm (qm ?_)
  obtain ⟨a12, rfl, hb13, he14⟩ := q4 (by omega)
  refine qv (vix 4 k6 underlying123 type150) ?_
  obtain ⟨_, e20, hc15⟩ := he14 k6 _ (gt_some (show k6 < x0.length from by omega))
  obtain ⟨v16, v18, rfl, r17, r19⟩ := tyQuery_rd e20
  obtain ⟨m21, A22, c23, rfl, q24, r25⟩ := rdS_op r17
  obtain ⟨m26, A27, c28, rfl, q29, r30⟩ := rdS_op r19
  refine qv (fun W hm => rv_loadN (cs := [.int .i64 ((gt x0 k6).Id), .int .i64 ((gt x0 k6).Tenant), .slice A22 ((gt x0 k6).Conds).length c23, .slice A27 ((gt x0 k6).Out).length c28]) underlying150 type150 rfl rfl (hm.elCells (show (a12.add (k6 * 4)).block < w.heap.size from by rw [add_block]; exact hb13.1) hc15)) ?_
  refine QR_callV (cl_fn cb131 rfl) (fun W hm => spec_IsQuery_c W _ (gt x0 k6) (tyQuery_mk (x := (gt x0 k6)) (hm.rdS0 r25) (hm.rdS0 r30))) (Wd_none rfl) (by decide) ?_
  refine qv vnot ?_
  refine qm ?_
  rcases Bool.eq_false_or_eq_true (spec_IsQuery_m (gt x0 k6)) with g32 | g32
  ·
   refine qg vmv (nt g32) ?_
   refine qg (fun W hm => rv_gtr rfl rfl) (nt g32) ?_
   refine qg vmv (nt g32) ?_
   by_cases h33 : 0 < ((k6 : Nat) : Int)
   ·have g34 := decide_eq_true h33
    refine qg vmv g34 ?_
    refine qg vmv g34 ?_
    refine qg (vix 4 k6 underlying123 type150) g34 ?_
    refine qg (vf underlying150 rfl type3) g34 ?_
    refine qg (fun W hm => rv_load underlying3 rfl rfl ((hm.cell0 (show ((a12.add (k6 * 4)).add 0).block < w.heap.size from by rw [add_block, add_block]; exact hb13.1)).trans (hc15 0 _ rfl))) g34 ?_
    refine qg vmv g34 ?_
    refine qg vmv g34 ?_
    refine qg (fun W hm => rv_subN (p := k6) (q := 1) rfl rfl (by omega) (by omega)) g34 ?_
    refine qg (fun W hm => rv_index (sz := 4) (k := k6 - 1) underlying123 type150 rfl rfl rfl (by omega)) g34 ?_
    refine qg (vf underlying150 rfl type3) g34 ?_
    obtain ⟨_, e40, hc35⟩ := he14 (k6 - 1) _ (gt_some (show (k6 - 1) < x0.length from by omega))
    obtain ⟨v36, v38, rfl, r37, r39⟩ := tyQuery_rd e40
    obtain ⟨m41, A42, c43, rfl, q44, r45⟩ := rdS_op r37
    obtain ⟨m46, A47, c48, rfl, q49, r50⟩ := rdS_op r39
    refine qg (fun W hm => rv_load underlying3 rfl rfl ((hm.cell0 (show ((a12.add ((k6 - 1) * 4)).add 0).block < w.heap.size from by rw [add_block, add_block]; exact hb13.1)).trans (hc35 0 _ rfl))) g34 ?_
    refine qg (fun W hm => rv_leq rfl rfl) g34 ?_
    refine qg (vpT g34) (nt g32) ?_
    refine qv (vpF (nt g32)) ?_
    refine nq' ?_
    by_cases h51 : ((gt x0 k6).Id) ≤ ((gt x0 (k6 - 1)).Id)
    ·have g52 := decide_eq_true h51
     refine CM_condT rfl g52 ?_
     refine sr (wa (nt' (CM_ret (QM_block_ret (QM_then_ret (QM_then_ret (QM_block_ret (QM_then_ret ?_))))))))
     exact rtb (h := fin_inl (rng_ret (body := F1) (k := k6) (s := ()) (show k6 < x0.length from by omega) (cond_t g32 (cond_t g34 (cond_t g52 (rfl)))) hF8) rfl)
    ·have g52 := decide_eq_false h51
     refine CM_condF rfl g52 ?_
     refine CM_skip (QM_block_normal (QM_then (CM_region (wm ?_))))
     refine wv (vadN k6 1 (by omega)) ?_
     refine wa (WM_nil ?_)
     have hn53 := rng_next (R := Bool) (body := F1) (k := k6) (s := ()) (s' := ()) (show k6 < x0.length from by omega) (cond_t g32 (cond_t g34 (cond_f g52 (rfl)))) hF8
     exact QM_round (k6 + 1, (), ()) sl2 (fun W hm => hm) ⟨(by omega), hn53⟩ (rl (by omega))
   ·have g34 := decide_eq_false h33
    refine qs g34 ?_
    refine qs g34 ?_
    refine qs g34 ?_
    refine qs g34 ?_
    refine qs g34 ?_
    refine qs g34 ?_
    refine qs g34 ?_
    refine qs g34 ?_
    refine qs g34 ?_
    refine qs g34 ?_
    refine qs g34 ?_
    refine qs g34 ?_
    refine qg (vpF g34) (nt g32) ?_
    refine qv (vpF (nt g32)) ?_
    refine nq' ?_
    refine CM_condF rfl rfl ?_
    refine CM_skip (QM_block_normal (QM_then (CM_region (wm ?_))))
    refine wv (vadN k6 1 (by omega)) ?_
    refine wa (WM_nil ?_)
    have hn54 := rng_next (R := Bool) (body := F1) (k := k6) (s := ()) (s' := ()) (show k6 < x0.length from by omega) (cond_t g32 (cond_f g34 (rfl))) hF8
    exact QM_round (k6 + 1, (), ()) sl2 (fun W hm => hm) ⟨(by omega), hn54⟩ (rl (by omega))
  ·
   refine qs (nf g32) ?_
   refine qs (nf g32) ?_
   refine qs (nf g32) ?_
   refine qu ?_
   refine qu ?_
   refine qu ?_
   refine qu ?_
   refine qu ?_
   refine qu ?_
   refine qu ?_
   refine qu ?_
   refine qu ?_
   refine qu ?_
   refine qu ?_
   refine qu ?_
   refine qs (nf g32) ?_
   refine qv (vpT (nf g32)) ?_
   refine nq' ?_
   refine CM_condT rfl rfl ?_
   refine sr (wa (nt' (CM_ret (QM_block_ret (QM_then_ret (QM_then_ret (QM_block_ret (QM_then_ret ?_))))))))
   exact rtb (h := fin_inl (rng_ret (body := F1) (k := k6) (s := ()) (show k6 < x0.length from by omega) (cond_f g32 (rfl)) hF8) rfl)
 ·have g11 := dlF hl10
  refine CM_condF rfl g11 ?_
  refine CM_exit (QM_then_exit (QM_then_exit ?_))
  have hE55 : R2 (x0.length - 0) 0 () = Sum.inr () := rng_end hl10 hF8
  refine QM_block_hit (QM_then (sr (wm ?_)))
  refine wv (vlen underlying123) ?_
  refine wv (fun W hm => rv_leq rfl rfl) ?_
  refine wa (nt' (CM_ret ?_))
  exact rtb (h := fin_inr hE55 (rfl))

def spec_l6Query_m (x0 : DQuery) : DQuery :=
 x0
theorem cb132 : Cb Tryd.prog 132 := ⟨f132, _, func132, rfl, by decide⟩
theorem spec_l6Query_c (w : World) (z0 : List Value) (x0 : DQuery) (r_0 : tyQuery.rd w w.heap.size z0 x0) (s_0 : smQuery 68719476736 x0) :
  Calls Tryd.prog 132 #[.agg z0.toArray] w fun e w' => ∃ v : List Value, e = .returned (.agg v.toArray) ∧ Mem w.heap.size w [iOwn tyQuery v (spec_l6Query_m x0)] w' := by
 obtain ⟨v1, v3, rfl, r2, r4⟩ := tyQuery_rd r_0
 obtain ⟨m5, A6, c7, rfl, q8, r9⟩ := rdS_op r2
 obtain ⟨m10, A11, c12, rfl, q13, r14⟩ := rdS_op r4
 have l15 : x0.Conds.length ≤ 68719476736 := s_0.1
 have l16 : x0.Out.length ≤ 68719476736 := s_0.2
 refine ce1 (L := [(0, .agg #[.int .i64 x0.Id, .int .i64 x0.Tenant, .slice A6 x0.Conds.length c7, .slice A11 x0.Out.length c12])]) (N := 16) func132 ?_
 refine sr ?_
 refine WM_box rfl (Wd_none rfl) (by decide) (fun p17 => ?_)
 refine WM_alloc type150 rfl (Wd_none rfl) (by decide) (fun p18 => ?_)
 refine nt' (CM_seq ?_)
 let K1 : List Value := [.int .i64 x0.Id, .int .i64 x0.Tenant, .slice A6 x0.Conds.length c7, .slice A11 x0.Out.length c12]
 let K2 : List Value := [.int .i64 0, .int .i64 0, .slice none 0 0, .slice none 0 0]
 refine rd2 14 [13] (s := [iBox p17 150 K1]) (s2 := [iBox p18 150 K2, iBox p17 150 K1]) (pk [1]) (fun W hm => hm) ?_
 refine QD_mid (σ := Option Addr × Nat × Nat) (fun s => [iBox p18 150 K2, iBox p17 150 K1]) 14 2047 3 (fun s => [(2, .pointer (some (⟨p18, 0, none⟩ : Addr))), (4, .int .i64 x0.Id), (6, .int .i64 x0.Tenant), (13, .slice A11 x0.Out.length c12), (10, .slice s.1 x0.Conds.length s.2.1), (11, .slice (some ⟨s.2.2, 0, none⟩) 0 0)]) (fun s => [iOwn (tSl tInt 3) [.slice (some ⟨s.2.2, 0, none⟩) 0 0] [], iOwn (tSl tyCond 165) [.slice s.1 x0.Conds.length s.2.1] x0.Conds, iBox p18 150 K2, iBox p17 150 K1]) ?_ (fun H => ?_)
 ·
  rintro ⟨A22, c23, p26⟩
  let I4 : It := iOwn (tSl tyCond 165) [.slice A22 x0.Conds.length c23] x0.Conds
  show QD _ _ _ _ _ _ _ _ [(2, .pointer (some (⟨p18, 0, none⟩ : Addr))), (4, .int .i64 x0.Id), (6, .int .i64 x0.Tenant), (13, .slice A11 x0.Out.length c12), (10, .slice A22 x0.Conds.length c23), (11, .slice (some ⟨p26, 0, none⟩) 0 0)] _ [iBox p18 150 K2, iBox p17 150 K1] _ [iOwn (tSl tInt 3) [.slice (some ⟨p26, 0, none⟩) 0 0] [], I4, iBox p18 150 K2, iBox p17 150 K1]
  refine QD_len (n := 0) rfl ?_
  intro m28 m29
  refine QD_len (n := 1) rfl ?_
  intro m30 m31
  refine qoD 14 11 4095 rfl ?_
  refine apR tInt tInt 3 (.slice (some ⟨p26, 0, none⟩) 0 0) [] x0.Out [I4, iBox p18 150 K2, iBox p17 150 K1] (fun W hm => hm) (fun W hm => src_flat flat_int (hm.rdS0 r14)) underlying28 type3 (show (0 + x0.Out.length) * 8 ≤ 140737488355328 from by omega) (fun v32 => ?_)
  refine WM_form (n := 0) rfl ?_
  rintro A33 c34 rfl m35
  refine qnD (pk [3]) (pk [2, 3]) ?_
  let K3 : List Value := [.int .i64 x0.Id, .int .i64 x0.Tenant, .slice A22 x0.Conds.length c23, .slice A33 x0.Out.length c34]
  refine qtD 14 12 8191 rfl (fun W hm => rv_build (cs := K3) rfl (by kernel_rfl)) ?_
  refine qoD 14 13 16383 rfl ?_
  let I5 : It := iOwn (tSl tInt 3) [.slice A33 x0.Out.length c34] x0.Out
  refine sb 0 K3 [I5, I4, iBox p17 150 K1] (pk [2, 0, 1, 3]) type150 ?_
  refine qxD (pk [3]) ?_
  refine QB_done (by kernel_rfl) ?_
  refine QM_then (CM_ret ?_)
  have he37 := (show spec_l6Query_m x0 = x0 from rfl)
  refine QM_r1 rfl (RR_cell (n := 0) rfl rfl underlying150 type150 rfl) (fun W hm => ⟨K3, ?_, ?_⟩)
  ·first | rw [he37] | rfl
  ·rw [he37]; exact Mem.join (is := [I4, I5]) (js := []) (fun _ _ hs => tyQuery_join (x := x0) hs) (hm.pick [2, 1] (by decide))
 ·
  refine qtD 14 0 1 rfl (vf underlying150 rfl type3) ?_
  refine qtD 14 1 3 rfl (vl 1 0 underlying3) ?_
  refine qtD 14 2 7 rfl (vf underlying150 rfl type3) ?_
  refine qtD 14 3 15 rfl (vl 1 1 underlying3) ?_
  refine qtD 14 5 47 rfl (vf underlying150 rfl type148) ?_
  refine qtD 14 6 111 rfl (vl 1 2 underlying148) ?_
  refine qtD 14 9 623 rfl (vf underlying150 rfl type28) ?_
  refine qtD 14 10 1647 rfl (vl 1 3 underlying28) ?_
  refine qaD [4, 8] ?_
  refine qcD 14 1663 rfl ?_ ?_
  ·
   refine WM_build0 (E := tyCond) underlying148 type165 (Wd_none rfl) (by decide) (fun p38 => ?_)
   refine qnD (pk [2]) (pk [1, 2]) ?_
   refine qaD [7, 8] ?_
   refine qcD 14 1791 rfl ?_ ?_
   ·
    refine apR tyCond tyCond 165 (.slice (some ⟨p38, 0, none⟩) 0 0) [] x0.Conds [iBox p18 150 K2, iBox p17 150 K1] (fun W hm => hm) (fun W hm => src_flat (flat_map (flat_pair flat_int (flat_pair flat_int flat_int))) (hm.rdS0 r9)) underlying148 type165 (show (0 + x0.Conds.length) * 24 ≤ 140737488355328 from by omega) (fun v40 => ?_)
    refine WM_form (n := 0) rfl ?_
    rintro A41 c42 rfl m43
    refine qnD (pk [2]) (pk [1, 2]) ?_
    refine qoD 14 8 2047 rfl ?_
    refine WM_build0 (E := tInt) underlying28 type3 (Wd_none rfl) (by decide) (fun p45 => ?_)
    refine qnD (pk [3]) (pk [2, 3]) ?_
    exact QD_sub sl6 (fun W hm => hm) (H (A41, c42, p45))
   refine qcD 14 1919 rfl ?_ ?_
   ·
    refine WM_build0 (E := tInt) underlying28 type3 (Wd_none rfl) (by decide) (fun p47 => ?_)
    refine qnD (pk [3]) (pk [2, 3]) ?_
    refine qoD 14 7 2047 rfl ?_
    refine apR tyCond tyCond 165 (.slice (some ⟨p38, 0, none⟩) 0 0) [] x0.Conds [iOwn (tSl tInt 3) [.slice (some ⟨p47, 0, none⟩) 0 0] [], iBox p18 150 K2, iBox p17 150 K1] (pk [1, 0, 2, 3]) (fun W hm => src_flat (flat_map (flat_pair flat_int (flat_pair flat_int flat_int))) (hm.rdS0 r9)) underlying148 type165 (show (0 + x0.Conds.length) * 24 ≤ 140737488355328 from by omega) (fun v49 => ?_)
    refine WM_form (n := 0) rfl ?_
    rintro A50 c51 rfl m52
    refine qnD (pk [3]) (pk [2, 3]) ?_
    exact QD_sub sl6 (pk [1, 0, 2, 3]) (H (A50, c51, p47))
   exact QDs_nil
  refine qcD 14 1903 rfl ?_ ?_
  ·
   refine WM_build0 (E := tInt) underlying28 type3 (Wd_none rfl) (by decide) (fun p54 => ?_)
   refine qnD (pk [2]) (pk [1, 2]) ?_
   refine qoD 14 4 1919 rfl ?_
   refine WM_build0 (E := tyCond) underlying148 type165 (Wd_none rfl) (by decide) (fun p56 => ?_)
   refine qnD (pk [3]) (pk [2, 3]) ?_
   refine qoD 14 7 2047 rfl ?_
   refine apR tyCond tyCond 165 (.slice (some ⟨p56, 0, none⟩) 0 0) [] x0.Conds [iOwn (tSl tInt 3) [.slice (some ⟨p54, 0, none⟩) 0 0] [], iBox p18 150 K2, iBox p17 150 K1] (fun W hm => hm) (fun W hm => src_flat (flat_map (flat_pair flat_int (flat_pair flat_int flat_int))) (hm.rdS0 r9)) underlying148 type165 (show (0 + x0.Conds.length) * 24 ≤ 140737488355328 from by omega) (fun v58 => ?_)
   refine WM_form (n := 0) rfl ?_
   rintro A59 c60 rfl m61
   refine qnD (pk [3]) (pk [2, 3]) ?_
   exact QD_sub sl6 (pk [1, 0, 2, 3]) (H (A59, c60, p54))
  exact QDs_nil
theorem spec_l6Query_eq (x0 : DQuery) : spec_l6Query_m x0 = x0 := by
 rfl
theorem spec_l6Query_c2 (w : World) (z0 : List Value) (x0 : DQuery) (r_0 : tyQuery.rd w w.heap.size z0 x0) (s_0 : smQuery 68719476736 x0) :
  Calls Tryd.prog 132 #[.agg z0.toArray] w fun e w' => ∃ v : List Value, e = .returned (.agg v.toArray) ∧ Mem w.heap.size w [iOwn tyQuery v x0] w' := by
 have h := spec_l6Query_c w z0 x0 r_0 s_0
 rw [spec_l6Query_eq] at h
 exact h

def spec_l6Queries_b1 (x0 : (List DQuery)) (k9 : Nat) (d10 : (List DQuery)) : (List DQuery) ⊕ ((List DQuery)) :=
 Sum.inr (d10 ++ [(gt x0 k9)])
def spec_l6Queries_m (x0 : (List DQuery)) : (List DQuery) :=
 Sum.elim id (fun (s : (List DQuery)) => s) (rng (R := (List DQuery)) (fun k (s : (List DQuery)) => spec_l6Queries_b1 x0 k s) (x0.length - 0) 0 [])
theorem cb121 : Cb Tryd.prog 121 := ⟨f121, _, func121, rfl, by decide⟩
theorem spec_l6Queries_c (w : World) (z0 : Value) (x0 : (List DQuery)) (r_0 : rdS tyQuery w w.heap.size z0 x0) (s_0 : (x0.length ≤ 68719476736 ∧ ∀ y ∈ x0, smQuery 68719476736 y)) :
  Calls Tryd.prog 121 #[z0] w fun e w' => ∃ v : Value, e = .returned (v) ∧ Mem w.heap.size w [iOwn (tSl tyQuery 150) [v] (spec_l6Queries_m x0)] w' := by
 obtain ⟨m1, A2, c3, rfl, q4, r5⟩ := rdS_op r_0
 have l6 : x0.length ≤ 68719476736 := s_0.1
 refine ce1 (L := [(0, .slice A2 x0.length c3)]) (N := 23) func121 ?_
 refine sr (wa (nt' (sr ?_)))
 refine WM_build0 (E := tyQuery) underlying123 type150 (Wd_none rfl) (by decide) (fun p7 => ?_)
 refine wa (nt' (CM_seq (sr (wa (nt' (CM_block ?_))))))
 let F1 := fun k (s : (List DQuery)) => spec_l6Queries_b1 x0 k s
 let R2 := rng (R := (List DQuery)) F1
 refine CM_loop (σ := Nat × ((List DQuery)) × (Option Addr × Nat)) (fun s => [(0, .slice A2 x0.length c3), (3, .slice s.2.2.1 s.2.1.length s.2.2.2), (4, .int .i64 ((s.1 : Nat) : Int))]) (fun s => [iOwn (tSl tyQuery 150) [.slice s.2.2.1 s.2.1.length s.2.2.2] s.2.1]) (fun s => s.1 ≤ x0.length ∧ R2 (x0.length - s.1) s.1 s.2.1 = R2 (x0.length - 0) 0 [] ∧ s.2.1.length ≤ 0 + s.1) (fun s => x0.length - s.1) (0, [], ((some ⟨p7, 0, none⟩), 0)) sl3 (fun W hm => hm) ⟨(by omega), rfl, Nat.le_refl _⟩ ?_
 rintro ⟨k9, d10, ⟨A11, c12⟩⟩ H15
 obtain ⟨hk13, hF14, hi16⟩ : k9 ≤ x0.length ∧ R2 (x0.length - k9) k9 d10 = R2 (x0.length - 0) 0 [] ∧ d10.length ≤ 0 + k9 := H15
 let I4 : It := iOwn (tSl tyQuery 150) [.slice A11 d10.length c12] d10
 show CM Tryd.prog 23 _ _ _ _ [(0, .slice A2 x0.length c3), (3, .slice A11 d10.length c12), (4, .int .i64 ((k9 : Nat) : Int))] [I4]
 refine CM_seq (sr (wm (wm ?_)))
 refine wv (vlen underlying123) ?_
 refine wv vlss ?_
 refine nt' ?_
 by_cases hl17 : k9 < x0.length
 ·have g18 := dlT hl17
  refine CM_condT rfl g18 ?_
  refine CM_skip (QM_then (CM_seq (CM_block (sr (wm (wm ?_))))))
  obtain ⟨a19, rfl, hb20, he21⟩ := q4 (by omega)
  refine wv (vix 4 k9 underlying123 type150) ?_
  obtain ⟨_, e27, hc22⟩ := he21 k9 _ (gt_some (show k9 < x0.length from by omega))
  obtain ⟨v23, v25, rfl, r24, r26⟩ := tyQuery_rd e27
  have l28 : ((gt x0 k9).Conds).length ≤ 68719476736 := (s_0.2 _ (gt_mem (show k9 < x0.length from by omega))).1
  have l29 : ((gt x0 k9).Out).length ≤ 68719476736 := (s_0.2 _ (gt_mem (show k9 < x0.length from by omega))).2
  obtain ⟨m30, A31, c32, rfl, q33, r34⟩ := rdS_op r24
  obtain ⟨m35, A36, c37, rfl, q38, r39⟩ := rdS_op r26
  refine wv (fun W hm => rv_loadN (cs := [.int .i64 ((gt x0 k9).Id), .int .i64 ((gt x0 k9).Tenant), .slice A31 ((gt x0 k9).Conds).length c32, .slice A36 ((gt x0 k9).Out).length c37]) underlying150 type150 rfl rfl (hm.elCells (show (a19.add (k9 * 4)).block < w.heap.size from by rw [add_block]; exact hb20.1) hc22)) ?_
  refine wcs tyQuery (gt x0 k9) (cl_fn cb132 rfl) (fun W hm => spec_l6Query_c2 W _ (gt x0 k9) (tyQuery_mk (x := (gt x0 k9)) (hm.rdS0 r34) (hm.rdS0 r39)) (s_0.2 _ (gt_mem (show k9 < x0.length from by omega)))) (fun z40 => ?_)
  refine tyQuery_sp ?_
  rintro ⟨v41, v42⟩ rfl
  refine WM_form (n := 0) rfl ?_
  rintro A43 c44 rfl m45
  refine WM_form (n := 1) rfl ?_
  rintro A47 c48 rfl m49
  refine WM_alloc type150 rfl (Wd_none rfl) (by decide) (fun p51 => ?_)
  let K3 : List Value := [.int .i64 ((gt x0 k9).Id), .int .i64 ((gt x0 k9).Tenant), .slice A43 ((gt x0 k9).Conds).length c44, .slice A47 ((gt x0 k9).Out).length c48]
  let I5 : It := iOwn (tSl tyCond 165) [.slice A43 ((gt x0 k9).Conds).length c44] ((gt x0 k9).Conds)
  let I6 : It := iOwn (tSl tInt 3) [.slice A47 ((gt x0 k9).Out).length c48] ((gt x0 k9).Out)
  refine sb 0 K3 [I5, I6, I4] (fun W hm => hm) type150 ?_
  refine nt' (CM_region (wm ?_))
  refine wv (fun W hm => rv_loadN (cs := K3) underlying150 type150 rfl rfl (hm.boxCells (n := 0) rfl)) ?_
  refine WM_build (cs := K3) underlying123 type150 rfl (by decide) (by decide) rfl (by kernel_rfl) (Wd_none rfl) (by decide) (fun p52 => ?_)
  refine ap1 tyQuery 150 (.slice A11 d10.length c12) d10 (gt x0 k9) [I5, I6] [iBox p51 150 K3] K3 (pk [0, 4, 2, 3, 1]) (fun _ _ hs => Els.single (tyQuery_join (x := (gt x0 k9)) hs)) underlying123 type150 (show (d10.length + 1) * 64 ≤ 140737488355328 from by omega) (fun v53 => ?_)
  refine WM_form (n := 0) rfl ?_
  rintro A54 c55 rfl m56
  refine wa (WM_nil (QM_block_normal (QM_then (CM_region (wm ?_)))))
  refine wv (vadN k9 1 (by omega)) ?_
  refine wa (WM_nil ?_)
  have hn58 := rng_next (R := (List DQuery)) (body := F1) (k := k9) (s := d10) (s' := (d10 ++ [(gt x0 k9)])) (show k9 < x0.length from by omega) (rfl) hF14
  exact QM_round (k9 + 1, (d10 ++ [(gt x0 k9)]), (A54, c55)) sl3 (pk [0]) ⟨(by omega), hn58, (show (d10 ++ [(gt x0 k9)]).length ≤ 0 + (k9 + 1) from by first | omega | (simp only [List.length_append, List.length_cons, List.length_nil] at *; omega))⟩ (rl (by omega))
 ·have g18 := dlF hl17
  refine CM_condF rfl g18 ?_
  refine CM_exit (QM_then_exit (QM_then_exit ?_))
  have hE59 : R2 (x0.length - 0) 0 [] = Sum.inr d10 := rng_end hl17 hF14
  refine QM_block_hit (QM_then (sr (wm (wa (nt' (CM_ret ?_))))))
  have he60 := (show spec_l6Queries_m x0 = d10 from fin_inr hE59 (rfl))
  refine QM_r1 rfl (RR_tmp rfl) (fun W hm => ⟨.slice A11 d10.length c12, ?_, ?_⟩)
  ·first | rw [he60] | rfl
  ·rw [he60]; exact hm
theorem spec_l6Queries_eq (x0 : (List DQuery)) : spec_l6Queries_m x0 = x0 := by
 unfold spec_l6Queries_m; rw [rng_app (xs := x0) (b := fun k s => spec_l6Queries_b1 x0 k s) (fun _ _ => rfl)]; rfl
theorem spec_l6Queries_c2 (w : World) (z0 : Value) (x0 : (List DQuery)) (r_0 : rdS tyQuery w w.heap.size z0 x0) (s_0 : (x0.length ≤ 68719476736 ∧ ∀ y ∈ x0, smQuery 68719476736 y)) :
  Calls Tryd.prog 121 #[z0] w fun e w' => ∃ v : Value, e = .returned (v) ∧ Mem w.heap.size w [iOwn (tSl tyQuery 150) [v] x0] w' := by
 have h := spec_l6Queries_c w z0 x0 r_0 s_0
 rw [spec_l6Queries_eq] at h
 exact h

def spec_l5Admits_b1 (x0 : DQuery) (x1 : Int) (x2 : Int) (k16 : Nat) : Bool ⊕ (Unit) :=
 cond (((gt x0.Conds k16).Field) == x1) (cond (spec_l1In_m x2 ((gt x0.Conds k16).Low) ((gt x0.Conds k16).High)) (Sum.inr ()) (Sum.inl false)) (Sum.inr ())
def spec_l5Admits_m (x0 : DQuery) (x1 : Int) (x2 : Int) : Bool :=
 Sum.elim id (fun (s : Unit) => true) (rng (R := Bool) (fun k (_ : Unit) => spec_l5Admits_b1 x0 x1 x2 k) (x0.Conds.length - 0) 0 ())
theorem cb141 : Cb Tryd.prog 141 := ⟨f141, _, func141, rfl, by decide⟩
theorem spec_l5Admits_c (w : World) (z0 : List Value) (x0 : DQuery) (x1 : Int) (x2 : Int) (r_0 : tyQuery.rd w w.heap.size z0 x0) :
  Calls Tryd.prog 141 #[.agg z0.toArray, .int .i64 x1, .int .i64 x2] w fun e w' => e = .returned (.bool (spec_l5Admits_m x0 x1 x2)) ∧ Below w.heap.size w w' := by
 obtain ⟨v1, v3, rfl, r2, r4⟩ := tyQuery_rd r_0
 obtain ⟨m5, A6, c7, rfl, q8, r9⟩ := rdS_op r2
 obtain ⟨m10, A11, c12, rfl, q13, r14⟩ := rdS_op r4
 refine ce3 (L := [(0, .agg #[.int .i64 x0.Id, .int .i64 x0.Tenant, .slice A6 x0.Conds.length c7, .slice A11 x0.Out.length c12]), (1, .int .i64 x1), (2, .int .i64 x2)]) (N := 40) func141 ?_
 refine sr ?_
 refine WM_box rfl (Wd_none rfl) (by decide) (fun p15 => ?_)
 refine wa (nt' (CM_seq (sr (wa (nt' (CM_block ?_))))))
 let F1 := fun k (_ : Unit) => spec_l5Admits_b1 x0 x1 x2 k
 let R2 := rng (R := Bool) F1
 let K3 : List Value := [.int .i64 x0.Id, .int .i64 x0.Tenant, .slice A6 x0.Conds.length c7, .slice A11 x0.Out.length c12]
 refine CM_loop (σ := Nat × (Unit) × (Unit)) (fun s => [(1, .int .i64 x1), (2, .int .i64 x2), (3, .pointer (some (⟨p15, 0, none⟩ : Addr))), (7, .int .i64 ((s.1 : Nat) : Int))]) (fun s => [iBox p15 150 K3]) (fun s => s.1 ≤ x0.Conds.length ∧ R2 (x0.Conds.length - s.1) s.1 s.2.1 = R2 (x0.Conds.length - 0) 0 ()) (fun s => x0.Conds.length - s.1) (0, (), ()) sl4 (fun W hm => hm) ⟨(by omega), rfl⟩ ?_
 rintro ⟨k16, ⟨⟩, ⟨⟩⟩ H19
 obtain ⟨hk17, hF18⟩ : k16 ≤ x0.Conds.length ∧ R2 (x0.Conds.length - k16) k16 () = R2 (x0.Conds.length - 0) 0 () := H19
 show CM Tryd.prog 40 _ _ _ _ [(1, .int .i64 x1), (2, .int .i64 x2), (3, .pointer (some (⟨p15, 0, none⟩ : Addr))), (7, .int .i64 ((k16 : Nat) : Int))] [iBox p15 150 K3]
 refine CM_seq (sr (wm ?_))
 refine wv (vf underlying150 rfl type148) ?_
 refine wv (vl 0 2 underlying148) ?_
 refine wv (vlen underlying148) ?_
 refine wv vlss ?_
 refine nt' ?_
 by_cases hl20 : k16 < x0.Conds.length
 ·have g21 := dlT hl20
  refine CM_condT rfl g21 ?_
  refine CM_skip (QM_then (CM_seq (CM_block (CM_seq ?_))))
  refine CM_regionD (by kernel_rfl) (by kernel_rfl) ?_
  refine qv (vf underlying150 rfl type148) ?_
  refine qv (vl 0 2 underlying148) ?_
  refine qm ?_
  obtain ⟨a22, rfl, hb23, he24⟩ := q8 (by omega)
  refine qv (vix 3 k16 underlying148 type165) ?_
  refine qv (vf underlying165 rfl type3) ?_
  obtain ⟨_, e26, hc25⟩ := he24 k16 _ (gt_some (show k16 < x0.Conds.length from by omega))
  obtain rfl := tyCond_rd e26
  refine qv (fun W hm => rv_load underlying3 rfl rfl ((hm.cell0 (show ((a22.add (k16 * 3)).add 0).block < w.heap.size from by rw [add_block, add_block]; exact hb23.1)).trans (hc25 0 _ rfl))) ?_
  refine qm ?_
  refine qv (fun W hm => rv_eql rfl rfl) ?_
  refine qm ?_
  by_cases h27 : ((gt x0.Conds k16).Field) = x1
  ·have g28 := beq_iff_eq.2 h27
   refine qg vmv g28 ?_
   refine qg (vf underlying150 rfl type148) g28 ?_
   refine qg (vl 0 2 underlying148) g28 ?_
   refine qg vmv g28 ?_
   refine qg (vix 3 k16 underlying148 type165) g28 ?_
   refine qg (vf underlying165 rfl type3) g28 ?_
   refine qg (fun W hm => rv_load underlying3 rfl rfl ((hm.cell0 (show ((a22.add (k16 * 3)).add 1).block < w.heap.size from by rw [add_block, add_block]; exact hb23.1)).trans (hc25 1 _ rfl))) g28 ?_
   refine qg (vf underlying150 rfl type148) g28 ?_
   refine qg (vl 0 2 underlying148) g28 ?_
   refine qg vmv g28 ?_
   refine qg (vix 3 k16 underlying148 type165) g28 ?_
   refine qg (vf underlying165 rfl type3) g28 ?_
   refine qg (fun W hm => rv_load underlying3 rfl rfl ((hm.cell0 (show ((a22.add (k16 * 3)).add 2).block < w.heap.size from by rw [add_block, add_block]; exact hb23.1)).trans (hc25 2 _ rfl))) g28 ?_
   refine QR_callV (cl_fn cb48 rfl) (fun W hm => spec_l1In_c W x2 ((gt x0.Conds k16).Low) ((gt x0.Conds k16).High)) (Wd_some rfl rfl rfl (bw g28 rfl)) (by decide) ?_
   refine qg vnot g28 ?_
   refine qv (vpT g28) ?_
   refine nq' ?_
   rcases Bool.eq_false_or_eq_true (spec_l1In_m x2 ((gt x0.Conds k16).Low) ((gt x0.Conds k16).High)) with g30 | g30
   ·
    have hw := spec_l1In_fact g30
    refine CM_condF rfl (nt g30) ?_
    refine CM_skip (QM_block_normal (QM_then (CM_region (wm ?_))))
    refine wv (vadN k16 1 (by omega)) ?_
    refine wa (WM_nil ?_)
    have hn31 := rng_next (R := Bool) (body := F1) (k := k16) (s := ()) (s' := ()) (show k16 < x0.Conds.length from by omega) (cond_t g28 (cond_t g30 (rfl))) hF18
    exact QM_round (k16 + 1, (), ()) sl4 (fun W hm => hm) ⟨(by omega), hn31⟩ (rl (by omega))
   ·
    refine CM_condT rfl (nf g30) ?_
    refine sr (wa (nt' (CM_ret (QM_block_ret (QM_then_ret (QM_then_ret (QM_block_ret (QM_then_ret ?_))))))))
    exact rtb (h := fin_inl (rng_ret (body := F1) (k := k16) (s := ()) (show k16 < x0.Conds.length from by omega) (cond_t g28 (cond_f g30 (rfl))) hF18) rfl)
  ·have g28 := beq_eq_false_iff_ne.2 h27
   refine qs g28 ?_
   refine qs g28 ?_
   refine qs g28 ?_
   refine qs g28 ?_
   refine qs g28 ?_
   refine qs g28 ?_
   refine qs g28 ?_
   refine qs g28 ?_
   refine qs g28 ?_
   refine qs g28 ?_
   refine qs g28 ?_
   refine qs g28 ?_
   refine qs g28 ?_
   refine qs g28 ?_
   refine qs g28 ?_
   refine qv (vpF g28) ?_
   refine nq' ?_
   refine CM_condF rfl rfl ?_
   refine CM_skip (QM_block_normal (QM_then (CM_region (wm ?_))))
   refine wv (vadN k16 1 (by omega)) ?_
   refine wa (WM_nil ?_)
   have hn32 := rng_next (R := Bool) (body := F1) (k := k16) (s := ()) (s' := ()) (show k16 < x0.Conds.length from by omega) (cond_f g28 (rfl)) hF18
   exact QM_round (k16 + 1, (), ()) sl4 (fun W hm => hm) ⟨(by omega), hn32⟩ (rl (by omega))
 ·have g21 := dlF hl20
  refine CM_condF rfl g21 ?_
  refine CM_exit (QM_then_exit (QM_then_exit ?_))
  have hE33 : R2 (x0.Conds.length - 0) 0 () = Sum.inr () := rng_end hl20 hF18
  refine QM_block_hit (QM_then (sr (wa (nt' (CM_ret ?_)))))
  exact rtb (h := fin_inr hE33 (rfl))

def spec_StabSet_b1 (x0 : (List DQuery)) (x1 : Int) (x2 : Int) (k9 : Nat) (d10 : (List Int)) : (List Int) ⊕ (((List Int)) ⊕ ((List Int))) :=
 cond (spec_AreQueries_m x0) (cond (spec_l1In_m x1 0 2) (cond (spec_l1In_m x2 0 99) (cond (spec_l5Admits_m (gt x0 k9) x1 x2) (Sum.inr (Sum.inr (d10 ++ [(gt x0 k9).Id]))) (Sum.inr (Sum.inr d10))) (Sum.inr (Sum.inl d10))) (Sum.inr (Sum.inl d10))) (Sum.inr (Sum.inl d10))
def spec_StabSet_m (x0 : (List DQuery)) (x1 : Int) (x2 : Int) : (List Int) :=
 Sum.elim id (fun (s : (List Int)) => s) (rngb (R := (List Int)) (fun k (s : (List Int)) => spec_StabSet_b1 x0 x1 x2 k s) (x0.length - 0) 0 [])
theorem cb133 : Cb Tryd.prog 133 := ⟨f133, _, func133, rfl, by decide⟩
theorem spec_StabSet_c (w : World) (z0 : Value) (x0 : (List DQuery)) (x1 : Int) (x2 : Int) (r_0 : rdS tyQuery w w.heap.size z0 x0) (s_0 : (x0.length ≤ 68719476736 ∧ ∀ y ∈ x0, smQuery 68719476736 y)) :
  Calls Tryd.prog 133 #[z0, .int .i64 x1, .int .i64 x2] w fun e w' => ∃ v : Value, e = .returned (v) ∧ Mem w.heap.size w [iOwn (tSl tInt 3) [v] (spec_StabSet_m x0 x1 x2)] w' := by
 obtain ⟨m1, A2, c3, rfl, q4, r5⟩ := rdS_op r_0
 have l6 : x0.length ≤ 68719476736 := s_0.1
 refine ce3 (L := [(0, .slice A2 x0.length c3), (1, .int .i64 x1), (2, .int .i64 x2)]) (N := 44) func133 ?_
 refine sr (wa (nt' (sr ?_)))
 refine WM_build0 (E := tInt) underlying28 type3 (Wd_none rfl) (by decide) (fun p7 => ?_)
 refine wa (nt' (CM_seq (sr (wa (nt' ?_)))))
 let F1 := fun k (s : (List Int)) => spec_StabSet_b1 x0 x1 x2 k s
 let R2 := rngb (R := (List Int)) F1
 refine CM_cut (σ := ((List Int)) × (Option Addr × Nat)) (fun s => [(7, .slice s.2.1 s.1.length s.2.2)]) (fun s => [iOwn (tSl tInt 3) [.slice s.2.1 s.1.length s.2.2] s.1]) (fun s => R2 (x0.length - 0) 0 [] = Sum.inr s.1) ?_ ?_
 ·
  refine CM_block ?_
  refine CM_loop (σ := Nat × ((List Int)) × (Option Addr × Nat)) (fun s => [(0, .slice A2 x0.length c3), (1, .int .i64 x1), (2, .int .i64 x2), (7, .slice s.2.2.1 s.2.1.length s.2.2.2), (8, .int .i64 ((s.1 : Nat) : Int))]) (fun s => [iOwn (tSl tInt 3) [.slice s.2.2.1 s.2.1.length s.2.2.2] s.2.1]) (fun s => s.1 ≤ x0.length ∧ R2 (x0.length - s.1) s.1 s.2.1 = R2 (x0.length - 0) 0 [] ∧ s.2.1.length ≤ 0 + s.1) (fun s => x0.length - s.1) (0, [], ((some ⟨p7, 0, none⟩), 0)) sl5 (fun W hm => hm) ⟨(by omega), rfl, Nat.le_refl _⟩ ?_
  rintro ⟨k9, d10, ⟨A11, c12⟩⟩ H15
  obtain ⟨hk13, hF14, hi16⟩ : k9 ≤ x0.length ∧ R2 (x0.length - k9) k9 d10 = R2 (x0.length - 0) 0 [] ∧ d10.length ≤ 0 + k9 := H15
  show CM Tryd.prog 44 _ _ _ _ [(0, .slice A2 x0.length c3), (1, .int .i64 x1), (2, .int .i64 x2), (7, .slice A11 d10.length c12), (8, .int .i64 ((k9 : Nat) : Int))] [iOwn (tSl tInt 3) [.slice A11 d10.length c12] d10]
  refine CM_seq (sr (wm (wm ?_)))
  refine wv (vlen underlying123) ?_
  refine wv vlss ?_
  refine wm ?_
  by_cases hl17 : k9 < x0.length
  ·have g18 := dlT hl17
   refine wg vmv g18 ?_
   refine WM_callV (cl_fn cb120 rfl) (fun W hm => spec_AreQueries_c W _ x0 (hm.rdS0 r5)) (Wd_some rfl rfl rfl (bw g18 rfl)) (by decide) ?_
   refine wv (vpT g18) ?_
   refine wm ?_
   rcases Bool.eq_false_or_eq_true (spec_AreQueries_m x0) with g20 | g20
   ·
    refine wg vmv g20 ?_
    refine WM_callV (cl_fn cb48 rfl) (fun W hm => spec_l1In_c W x1 0 2) (Wd_some rfl rfl rfl (bw g20 rfl)) (by decide) ?_
    refine wv (vpT g20) ?_
    refine wm ?_
    rcases Bool.eq_false_or_eq_true (spec_l1In_m x1 0 2) with g22 | g22
    ·
     have hw := spec_l1In_fact g22
     refine wg vmv g22 ?_
     refine WM_callV (cl_fn cb48 rfl) (fun W hm => spec_l1In_c W x2 0 99) (Wd_some rfl rfl rfl (bw g22 rfl)) (by decide) ?_
     refine wv (vpT g22) ?_
     refine nt' ?_
     rcases Bool.eq_false_or_eq_true (spec_l1In_m x2 0 99) with g24 | g24
     ·
      have hw := spec_l1In_fact g24
      refine CM_condT rfl g24 ?_
      refine CM_skip (QM_then (CM_seq (CM_block (sr (wm (wm ?_))))))
      obtain ⟨a25, rfl, hb26, he27⟩ := q4 (by omega)
      refine wv (vix 4 k9 underlying123 type150) ?_
      obtain ⟨_, e33, hc28⟩ := he27 k9 _ (gt_some (show k9 < x0.length from by omega))
      obtain ⟨v29, v31, rfl, r30, r32⟩ := tyQuery_rd e33
      have l34 : ((gt x0 k9).Conds).length ≤ 68719476736 := (s_0.2 _ (gt_mem (show k9 < x0.length from by omega))).1
      have l35 : ((gt x0 k9).Out).length ≤ 68719476736 := (s_0.2 _ (gt_mem (show k9 < x0.length from by omega))).2
      obtain ⟨m36, A37, c38, rfl, q39, r40⟩ := rdS_op r30
      obtain ⟨m41, A42, c43, rfl, q44, r45⟩ := rdS_op r32
      refine wv (fun W hm => rv_loadN (cs := [.int .i64 ((gt x0 k9).Id), .int .i64 ((gt x0 k9).Tenant), .slice A37 ((gt x0 k9).Conds).length c38, .slice A42 ((gt x0 k9).Out).length c43]) underlying150 type150 rfl rfl (hm.elCells (show (a25.add (k9 * 4)).block < w.heap.size from by rw [add_block]; exact hb26.1) hc28)) ?_
      refine wm (wm ?_)
      refine wcv (cl_fn cb141 rfl) (fun W hm => spec_l5Admits_c W _ (gt x0 k9) x1 x2 (tyQuery_mk (x := (gt x0 k9)) (hm.rdS0 r40) (hm.rdS0 r45))) ?_
      refine nt' ?_
      rcases Bool.eq_false_or_eq_true (spec_l5Admits_m (gt x0 k9) x1 x2) with g47 | g47
      ·
       refine CM_condT rfl g47 ?_
       refine CM_region (wm (wm (wm ?_)))
       refine wv (vix 4 k9 underlying123 type150) ?_
       refine wv (vf underlying150 rfl type3) ?_
       refine wv (fun W hm => rv_load underlying3 rfl rfl ((hm.cell0 (show ((a25.add (k9 * 4)).add 0).block < w.heap.size from by rw [add_block, add_block]; exact hb26.1)).trans (hc28 0 _ rfl))) ?_
       refine WM_build (cs := [.int .i64 ((gt x0 k9).Id)]) underlying28 type3 rfl (by decide) (by decide) rfl (by kernel_rfl) (Wd_none rfl) (by decide) (fun p48 => ?_)
       refine ap1 tInt 3 (.slice A11 d10.length c12) d10 ((gt x0 k9).Id) [] [] [.int .i64 ((gt x0 k9).Id)] (fun W hm => hm) (fun _ _ hs => by cases (Sep.nil hs); exact (els_cons tInt_own els_nil)) underlying28 type3 (show (d10.length + 1) * 8 ≤ 140737488355328 from by omega) (fun v49 => ?_)
       refine WM_form (n := 0) rfl ?_
       rintro A50 c51 rfl m52
       refine wa (WM_nil (QM_block_normal (QM_then (CM_region (wm ?_)))))
       refine wv (vadN k9 1 (by omega)) ?_
       refine wa (WM_nil ?_)
       have hn54 := rngb_next (R := (List Int)) (body := F1) (k := k9) (s := d10) (s' := (d10 ++ [(gt x0 k9).Id])) (show k9 < x0.length from by omega) (cond_t g20 (cond_t g22 (cond_t g24 (cond_t g47 (rfl))))) hF14
       exact QM_round (k9 + 1, (d10 ++ [(gt x0 k9).Id]), (A50, c51)) sl5 (fun W hm => hm) ⟨(by omega), hn54, (show (d10 ++ [(gt x0 k9).Id]).length ≤ 0 + (k9 + 1) from by first | omega | (simp only [List.length_append, List.length_cons, List.length_nil] at *; omega))⟩ (rl (by omega))
      ·
       refine CM_condF rfl g47 ?_
       refine CM_skip (QM_block_normal (QM_then (CM_region (wm ?_))))
       refine wv (vadN k9 1 (by omega)) ?_
       refine wa (WM_nil ?_)
       have hn55 := rngb_next (R := (List Int)) (body := F1) (k := k9) (s := d10) (s' := d10) (show k9 < x0.length from by omega) (cond_t g20 (cond_t g22 (cond_t g24 (cond_f g47 (rfl))))) hF14
       exact QM_round (k9 + 1, d10, (A11, c12)) sl5 (fun W hm => hm) ⟨(by omega), hn55, (show d10.length ≤ 0 + (k9 + 1) from by first | omega | (simp only [List.length_append, List.length_cons, List.length_nil] at *; omega))⟩ (rl (by omega))
     ·
      refine CM_condF rfl g24 ?_
      refine CM_exit (QM_then_exit (QM_then_exit (QM_block_hit ?_)))
      have hE56 := rngb_brk (R := (List Int)) (body := F1) (k := k9) (s := d10) (s' := d10) (show k9 < x0.length from by omega) (cond_t g20 (cond_t g22 (cond_f g24 (rfl)))) hF14
      exact QM_cut_normal (d10, (A11, c12)) (subL_cons rfl subL_nil) (fun W hm => hm) hE56
    ·
     refine ws g22 ?_
     refine ws g22 ?_
     refine wv (vpF g22) ?_
     refine nt' ?_
     refine CM_condF rfl rfl ?_
     refine CM_exit (QM_then_exit (QM_then_exit (QM_block_hit ?_)))
     have hE57 := rngb_brk (R := (List Int)) (body := F1) (k := k9) (s := d10) (s' := d10) (show k9 < x0.length from by omega) (cond_t g20 (cond_f g22 (rfl))) hF14
     exact QM_cut_normal (d10, (A11, c12)) (subL_cons rfl subL_nil) (fun W hm => hm) hE57
   ·
    refine ws g20 ?_
    refine ws g20 ?_
    refine wv (vpF g20) ?_
    refine wm ?_
    refine wk ?_
    refine wk ?_
    refine wv (vpF rfl) ?_
    refine nt' ?_
    refine CM_condF rfl rfl ?_
    refine CM_exit (QM_then_exit (QM_then_exit (QM_block_hit ?_)))
    have hE58 := rngb_brk (R := (List Int)) (body := F1) (k := k9) (s := d10) (s' := d10) (show k9 < x0.length from by omega) (cond_f g20 (rfl)) hF14
    exact QM_cut_normal (d10, (A11, c12)) (subL_cons rfl subL_nil) (fun W hm => hm) hE58
  ·have g18 := dlF hl17
   refine ws g18 ?_
   refine ws g18 ?_
   refine wv (vpF g18) ?_
   refine wm ?_
   refine wk ?_
   refine wk ?_
   refine wv (vpF rfl) ?_
   refine wm ?_
   refine wk ?_
   refine wk ?_
   refine wv (vpF rfl) ?_
   refine nt' ?_
   refine CM_condF rfl rfl ?_
   refine CM_exit (QM_then_exit (QM_then_exit (QM_block_hit ?_)))
   have hE59 : R2 (x0.length - 0) 0 [] = Sum.inr d10 := rngb_end hl17 hF14
   exact QM_cut_normal (d10, (A11, c12)) (subL_cons rfl subL_nil) (fun W hm => hm) hE59
 ·
  rintro ⟨d10, ⟨A11, c12⟩⟩ H61
  have hE60 : R2 (x0.length - 0) 0 [] = Sum.inr d10 := H61
  show QM 44 _ _ _ .normal [(7, .slice A11 d10.length c12)] [iOwn (tSl tInt 3) [.slice A11 d10.length c12] d10]
  refine QM_then (sr (wm (wa (nt' (CM_ret ?_)))))
  have he62 := (show spec_StabSet_m x0 x1 x2 = d10 from fin_inr hE60 (rfl))
  refine QM_r1 rfl (RR_tmp rfl) (fun W hm => ⟨.slice A11 d10.length c12, ?_, ?_⟩)
  ·first | rw [he62] | rfl
  ·rw [he62]; exact hm

def spec_l2Ints_b1 (x0 : (List Int)) (x1 : (List Int)) (k13 : Nat) : Bool ⊕ (Unit) :=
 cond ((gt x0 k13) != (gt x1 k13)) (Sum.inl false) (Sum.inr ())
def spec_l2Ints_m (x0 : (List Int)) (x1 : (List Int)) : Bool :=
 cond (((x0.length : Nat) : Int) != ((x1.length : Nat) : Int)) false (Sum.elim id (fun (s : Unit) => true) (rng (R := Bool) (fun k (_ : Unit) => spec_l2Ints_b1 x0 x1 k) (x0.length - 0) 0 ()))
theorem cb134 : Cb Tryd.prog 134 := ⟨f134, _, func134, rfl, by decide⟩
theorem spec_l2Ints_c (w : World) (z0 : Value) (x0 : (List Int)) (z1 : Value) (x1 : (List Int)) (r_0 : rdS tInt w w.heap.size z0 x0) (r_1 : rdS tInt w w.heap.size z1 x1) :
  Calls Tryd.prog 134 #[z0, z1] w fun e w' => e = .returned (.bool (spec_l2Ints_m x0 x1)) ∧ Below w.heap.size w w' := by
 obtain ⟨m1, A2, c3, rfl, q4, r5⟩ := rdS_op r_0
 obtain ⟨m6, A7, c8, rfl, q9, r10⟩ := rdS_op r_1
 refine ce2 (L := [(0, .slice A2 x0.length c3), (1, .slice A7 x1.length c8)]) (N := 26) func134 ?_
 refine sr (wa (nt' (CM_seq (sr (wm ?_)))))
 refine wv (vlen underlying28) ?_
 refine wm ?_
 refine wv (vlen underlying28) ?_
 refine wv vneq ?_
 refine nt' ?_
 by_cases h11 : ((x0.length : Nat) : Int) = ((x1.length : Nat) : Int)
 ·have g12 : (((x0.length : Nat) : Int) != ((x1.length : Nat) : Int)) = false := by rw [h11]; exact bne_self_eq_false _
  refine CM_condF rfl g12 ?_
  refine CM_skip (QM_then (CM_seq (sr (wa (nt' (CM_block ?_))))))
  let F1 := fun k (_ : Unit) => spec_l2Ints_b1 x0 x1 k
  let R2 := rng (R := Bool) F1
  refine CM_loop (σ := Nat × (Unit) × (Unit)) (fun s => [(0, .slice A2 x0.length c3), (1, .slice A7 x1.length c8), (5, .int .i64 ((s.1 : Nat) : Int))]) (fun s => []) (fun s => s.1 ≤ x0.length ∧ R2 (x0.length - s.1) s.1 s.2.1 = R2 (x0.length - 0) 0 ()) (fun s => x0.length - s.1) (0, (), ()) sl3 (fun W hm => hm) ⟨(by omega), rfl⟩ ?_
  rintro ⟨k13, ⟨⟩, ⟨⟩⟩ H16
  obtain ⟨hk14, hF15⟩ : k13 ≤ x0.length ∧ R2 (x0.length - k13) k13 () = R2 (x0.length - 0) 0 () := H16
  show CM Tryd.prog 26 _ _ _ _ [(0, .slice A2 x0.length c3), (1, .slice A7 x1.length c8), (5, .int .i64 ((k13 : Nat) : Int))] []
  refine CM_seq (sr (wm (wm ?_)))
  refine wv (vlen underlying28) ?_
  refine wv vlss ?_
  refine nt' ?_
  by_cases hl17 : k13 < x0.length
  ·have g18 := dlT hl17
   refine CM_condT rfl g18 ?_
   refine CM_skip (QM_then (CM_seq (CM_block (CM_seq ?_))))
   refine CM_regionD (by kernel_rfl) (by kernel_rfl) ?_
   refine qm (qm ?_)
   obtain ⟨a19, rfl, hb20, he21⟩ := q4 (by omega)
   refine qv (vix 1 k13 underlying28 type3) ?_
   refine qv (fun W hm => rv_load underlying3 rfl rfl ((hm.cell0 (show (a19.add (k13 * 1)).block < w.heap.size from by rw [add_block]; exact hb20.1)).trans (rdS_int he21 k13 (by omega)))) ?_
   refine qm (qm ?_)
   obtain ⟨a22, rfl, hb23, he24⟩ := q9 (by omega)
   refine qv (vix 1 k13 underlying28 type3) ?_
   refine qv (fun W hm => rv_load underlying3 rfl rfl ((hm.cell0 (show (a22.add (k13 * 1)).block < w.heap.size from by rw [add_block]; exact hb23.1)).trans (rdS_int he24 k13 (by omega)))) ?_
   refine qv vneq ?_
   refine nq' ?_
   by_cases h25 : (gt x0 k13) = (gt x1 k13)
   ·have g26 : ((gt x0 k13) != (gt x1 k13)) = false := by rw [h25]; exact bne_self_eq_false _
    refine CM_condF rfl g26 ?_
    refine CM_skip (QM_block_normal (QM_then (CM_region (wm ?_))))
    refine wv (vadN k13 1 (by omega)) ?_
    refine wa (WM_nil ?_)
    have hn27 := rng_next (R := Bool) (body := F1) (k := k13) (s := ()) (s' := ()) (show k13 < x0.length from by omega) (cond_f g26 (rfl)) hF15
    exact QM_round (k13 + 1, (), ()) sl3 (fun W hm => hm) ⟨(by omega), hn27⟩ (rl (by omega))
   ·have g26 : ((gt x0 k13) != (gt x1 k13)) = true := bne_iff_ne.2 h25
    refine CM_condT rfl g26 ?_
    refine sr (wa (nt' (CM_ret (QM_block_ret (QM_then_ret (QM_then_ret (QM_block_ret (QM_then_ret ?_))))))))
    exact rtb (h := cond_f g12 (fin_inl (rng_ret (body := F1) (k := k13) (s := ()) (show k13 < x0.length from by omega) (cond_t g26 (rfl)) hF15) rfl))
  ·have g18 := dlF hl17
   refine CM_condF rfl g18 ?_
   refine CM_exit (QM_then_exit (QM_then_exit ?_))
   have hE28 : R2 (x0.length - 0) 0 () = Sum.inr () := rng_end hl17 hF15
   refine QM_block_hit (QM_then (sr (wa (nt' (CM_ret ?_)))))
   exact rtb (h := cond_f g12 (fin_inr hE28 (rfl)))
 ·have g12 : (((x0.length : Nat) : Int) != ((x1.length : Nat) : Int)) = true := bne_iff_ne.2 h11
  refine CM_condT rfl g12 ?_
  refine sr (wa (nt' (CM_ret (QM_then_ret ?_))))
  exact rtb (h := cond_t g12 (rfl))

def spec_StabIndex_b1 (x0 : (List DQuery)) (x1 : Int) (k13 : Nat) (d14 : (List DSpan)) : (List DSpan) ⊕ ((List DSpan)) :=
 cond (decide (0 < ((d14.length : Nat) : Int))) (cond (spec_l2Ints_m ((gt d14 (d14.length - 1)).Set) (spec_StabSet_m x0 x1 ((k13 : Nat) : Int))) (Sum.inr (d14.set (d14.length - 1) (⟨(gt d14 (d14.length - 1)).From, ((k13 : Nat) : Int), (gt d14 (d14.length - 1)).Set⟩ : DSpan))) (Sum.inr (d14 ++ [(⟨((k13 : Nat) : Int), ((k13 : Nat) : Int), (spec_StabSet_m x0 x1 ((k13 : Nat) : Int))⟩ : DSpan)]))) (Sum.inr (d14 ++ [(⟨((k13 : Nat) : Int), ((k13 : Nat) : Int), (spec_StabSet_m x0 x1 ((k13 : Nat) : Int))⟩ : DSpan)]))
def spec_StabIndex_m (x0 : (List DQuery)) (x1 : Int) : (List DSpan) :=
 cond (spec_AreQueries_m x0) (cond (spec_l1In_m x1 0 2) (Sum.elim id (fun (s : (List DSpan)) => s) (rng (R := (List DSpan)) (fun k (s : (List DSpan)) => spec_StabIndex_b1 x0 x1 k s) (100 - 0) 0 [])) []) []
theorem cb122 : Cb Tryd.prog 122 := ⟨f122, _, func122, rfl, by decide⟩
theorem spec_StabIndex_c (w : World) (z0 : Value) (x0 : (List DQuery)) (x1 : Int) (r_0 : rdS tyQuery w w.heap.size z0 x0) (s_0 : (x0.length ≤ 68719476736 ∧ ∀ y ∈ x0, smQuery 68719476736 y)) :
  Calls Tryd.prog 122 #[z0, .int .i64 x1] w fun e w' => ∃ v : Value, e = .returned (v) ∧ Mem w.heap.size w [iOwn (tSl tySpan 173) [v] (spec_StabIndex_m x0 x1)] w' := by
 obtain ⟨m1, A2, c3, rfl, q4, r5⟩ := rdS_op r_0
 have l6 : x0.length ≤ 68719476736 := s_0.1
 refine ce2 (L := [(0, .slice A2 x0.length c3), (1, .int .i64 x1)]) (N := 55) func122 ?_
 refine sr (wa (nt' (sr ?_)))
 refine WM_build0 (E := tySpan) underlying156 type173 (Wd_none rfl) (by decide) (fun p7 => ?_)
 refine wa (nt' (CM_seq (sr (wm ?_))))
 refine wcv (cl_fn cb120 rfl) (fun W hm => spec_AreQueries_c W _ x0 (hm.rdS0 r5)) ?_
 refine wv vnot ?_
 refine wm ?_
 rcases Bool.eq_false_or_eq_true (spec_AreQueries_m x0) with g10 | g10
 ·
  refine wg vmv (nt g10) ?_
  refine WM_callV (cl_fn cb48 rfl) (fun W hm => spec_l1In_c W x1 0 2) (Wd_some rfl rfl rfl (bw (nt g10) rfl)) (by decide) ?_
  refine wg vnot (nt g10) ?_
  refine wv (vpF (nt g10)) ?_
  refine nt' ?_
  rcases Bool.eq_false_or_eq_true (spec_l1In_m x1 0 2) with g12 | g12
  ·
   have hw := spec_l1In_fact g12
   refine CM_condF rfl (nt g12) ?_
   refine CM_skip (QM_then (CM_seq (sr (wa (nt' (CM_block ?_))))))
   let F1 := fun k (s : (List DSpan)) => spec_StabIndex_b1 x0 x1 k s
   let R2 := rng (R := (List DSpan)) F1
   refine CM_loop (σ := Nat × ((List DSpan)) × (Option Addr × Nat)) (fun s => [(0, .slice A2 x0.length c3), (1, .int .i64 x1), (5, .slice s.2.2.1 s.2.1.length s.2.2.2), (6, .int .i64 ((s.1 : Nat) : Int))]) (fun s => [iOwn (tSl tySpan 173) [.slice s.2.2.1 s.2.1.length s.2.2.2] s.2.1]) (fun s => s.1 ≤ 100 ∧ R2 (100 - s.1) s.1 s.2.1 = R2 (100 - 0) 0 [] ∧ s.2.1.length ≤ 0 + s.1) (fun s => 100 - s.1) (0, [], ((some ⟨p7, 0, none⟩), 0)) sl4 (fun W hm => hm) ⟨(by omega), rfl, Nat.le_refl _⟩ ?_
   rintro ⟨k13, d14, ⟨A15, c16⟩⟩ H19
   obtain ⟨hk17, hF18, hi20⟩ : k13 ≤ 100 ∧ R2 (100 - k13) k13 d14 = R2 (100 - 0) 0 [] ∧ d14.length ≤ 0 + k13 := H19
   show CM Tryd.prog 55 _ _ _ _ [(0, .slice A2 x0.length c3), (1, .int .i64 x1), (5, .slice A15 d14.length c16), (6, .int .i64 ((k13 : Nat) : Int))] [iOwn (tSl tySpan 173) [.slice A15 d14.length c16] d14]
   refine CM_seq (sr (wm ?_))
   refine wv (fun W hm => rv_leq rfl rfl) ?_
   refine nt' ?_
   by_cases hl21 : k13 < 100
   ·have g22 : (decide (((k13 : Nat) : Int) ≤ 99)) = true := decide_eq_true (by omega)
    refine CM_condT rfl g22 ?_
    refine CM_skip (QM_then (CM_seq (CM_block (sr (wm (wm (wm ?_)))))))
    refine wcl (tSl tInt 3) (spec_StabSet_m x0 x1 ((k13 : Nat) : Int)) (cl_fn cb133 rfl) (fun W hm => spec_StabSet_c W _ x0 x1 ((k13 : Nat) : Int) (hm.rdS0 r5) s_0) (fun z23 => ?_)
    refine WM_form (n := 0) rfl ?_
    rintro A24 c25 rfl m26
    refine wa (nt' (sr (wm ?_)))
    refine wv (vlen underlying156) ?_
    refine wa (nt' (sr (wm ?_)))
    refine wv (fun W hm => rv_gtr rfl rfl) ?_
    refine wm ?_
    by_cases h28 : 0 < ((d14.length : Nat) : Int)
    ·have g29 := decide_eq_true h28
     refine wg vmv g29 ?_
     refine wg vmv g29 ?_
     refine wg (fun W hm => rv_subN (p := d14.length) (q := 1) rfl rfl (by omega) (by omega)) g29 ?_
     refine WM_formO (n := 1) rfl (by omega) ?_
     rintro g30 rfl
     refine wg (fun W hm => rv_index (sz := 3) (k := d14.length - 1) underlying156 type173 rfl rfl rfl (by omega)) g29 ?_
     refine wg (vf underlying173 rfl type28) g29 ?_
     let K3 : List Value := [.slice A24 (spec_StabSet_m x0 x1 ((k13 : Nat) : Int)).length c25]
     let I7 : It := iOwn (tSl tInt 3) K3 (spec_StabSet_m x0 x1 ((k13 : Nat) : Int))
     refine WM_focus (E := tySpan) (e := 173) (A := (some ⟨g30, 0, none⟩)) (n := d14.length) (c := c16) (xs := d14) (k := (d14.length - 1)) (js := [I7]) (by omega) (pk [1, 0]) (fun ck31 => ?_)
     refine tySpan_sp ?_
     rintro v32 rfl
     refine WM_form (n := 0) rfl ?_
     rintro A33 c34 rfl m35
     refine wg (fun W hm => rv_load underlying28 rfl rfl (hm.focCells (i := 1) rfl rfl 2 _ rfl)) g29 ?_
     refine wg vmv g29 ?_
     refine WM_callV (cl_fn cb134 rfl) (fun W hm => spec_l2Ints_c W _ ((gt d14 (d14.length - 1)).Set) _ (spec_StabSet_m x0 x1 ((k13 : Nat) : Int)) (hm.rdSI (n := 0) rfl) (hm.rdSI (n := 2) rfl)) (Wd_some rfl rfl rfl (bw g29 rfl)) (by decide) ?_
     refine wv (vpT g29) ?_
     refine nt' ?_
     rcases Bool.eq_false_or_eq_true (spec_l2Ints_m ((gt d14 (d14.length - 1)).Set) (spec_StabSet_m x0 x1 ((k13 : Nat) : Int))) with g38 | g38
     ·
      refine CM_condT rfl g38 ?_
      refine CM_region (wm (wm ?_))
      refine wv (fun W hm => rv_subN (p := d14.length) (q := 1) rfl rfl (by omega) (by omega)) ?_
      refine wm ?_
      refine wv (fun W hm => rv_index (sz := 3) (k := d14.length - 1) underlying156 type173 rfl rfl rfl (by omega)) ?_
      refine wv (vf underlying173 rfl type3) ?_
      let K4 : List Value := [.int .i64 ((gt d14 (d14.length - 1)).From), .int .i64 ((k13 : Nat) : Int), .slice A33 ((gt d14 (d14.length - 1)).Set).length c34]
      let I8 : It := iOwn (tSl tInt 3) [.slice A33 ((gt d14 (d14.length - 1)).Set).length c34] ((gt d14 (d14.length - 1)).Set)
      refine sf 1 3 K4 [I8, I7] (pk [1, 0, 2]) type3 ?_
      refine WM_nil (QM_block_normal (QM_then (CM_region (wm ?_))))
      refine wv (vadN k13 1 (by omega)) ?_
      refine wa (WM_nil ?_)
      refine QM_items (fun W hm => Mem.unfocus (Mem.join (is := [I8]) (js := (iFoc tySpan 173 (some ⟨g30, 0, none⟩) d14.length c16 d14 (d14.length - 1) K4 :: [I7])) (fun _ _ hs => tySpan_join (x := (⟨(gt d14 (d14.length - 1)).From, ((k13 : Nat) : Int), (gt d14 (d14.length - 1)).Set⟩ : DSpan)) hs) (hm.pick [1, 0, 2] (by decide)))) ?_
      have hl39 : d14.length = (d14.set (d14.length - 1) (⟨(gt d14 (d14.length - 1)).From, ((k13 : Nat) : Int), (gt d14 (d14.length - 1)).Set⟩ : DSpan)).length := by first | rfl | exact List.length_set.symm
      generalize ix40h : d14.length - 1 = ix40
      rw [show d14.length = (d14.set ix40 (⟨(gt d14 ix40).From, ((k13 : Nat) : Int), (gt d14 ix40).Set⟩ : DSpan)).length from List.length_set.symm]
      subst ix40h
      have hn41 := rng_next (R := (List DSpan)) (body := F1) (k := k13) (s := d14) (s' := (d14.set (d14.length - 1) (⟨(gt d14 (d14.length - 1)).From, ((k13 : Nat) : Int), (gt d14 (d14.length - 1)).Set⟩ : DSpan))) (show k13 < 100 from by omega) (cond_t g29 (cond_t g38 (rfl))) hF18
      exact QM_round (k13 + 1, (d14.set (d14.length - 1) (⟨(gt d14 (d14.length - 1)).From, ((k13 : Nat) : Int), (gt d14 (d14.length - 1)).Set⟩ : DSpan)), ((some ⟨g30, 0, none⟩), c16)) sl4 (pk [0]) ⟨(by omega), hn41, (show (d14.set (d14.length - 1) (⟨(gt d14 (d14.length - 1)).From, ((k13 : Nat) : Int), (gt d14 (d14.length - 1)).Set⟩ : DSpan)).length ≤ 0 + (k13 + 1) from by first | omega | (simp only [List.length_append, List.length_cons, List.length_nil] at *; omega))⟩ (rl (by omega))
     ·
      refine CM_condF rfl g38 ?_
      refine CM_region (wm (wm (wm (wm ?_))))
      let K5 : List Value := [.int .i64 ((k13 : Nat) : Int), .int .i64 ((k13 : Nat) : Int), .slice A24 (spec_StabSet_m x0 x1 ((k13 : Nat) : Int)).length c25]
      refine wv (fun W hm => rv_build (cs := K5) rfl (by kernel_rfl)) ?_
      refine WM_build (cs := K5) underlying156 type173 rfl (by decide) (by decide) rfl (by kernel_rfl) (Wd_none rfl) (by decide) (fun p42 => ?_)
      refine WM_items (fun W hm => Mem.unfocus0 (Mem.join (is := [iOwn (tSl tInt 3) [.slice A33 ((gt d14 (d14.length - 1)).Set).length c34] ((gt d14 (d14.length - 1)).Set)]) (js := (iFoc tySpan 173 (some ⟨g30, 0, none⟩) d14.length c16 d14 (d14.length - 1) [.int .i64 ((gt d14 (d14.length - 1)).From), .int .i64 ((gt d14 (d14.length - 1)).To), .slice A33 ((gt d14 (d14.length - 1)).Set).length c34] :: [iBox p42 173 K5, I7])) (fun _ _ hs => tySpan_join (x := (gt d14 (d14.length - 1))) hs) (hm.pick [1, 2, 0, 3] (by decide)))) ?_
      refine ap1 tySpan 173 (.slice (some ⟨g30, 0, none⟩) d14.length c16) d14 (⟨((k13 : Nat) : Int), ((k13 : Nat) : Int), (spec_StabSet_m x0 x1 ((k13 : Nat) : Int))⟩ : DSpan) [I7] [] K5 (pk [1, 0, 2]) (fun _ _ hs => Els.single (tySpan_join (x := (⟨((k13 : Nat) : Int), ((k13 : Nat) : Int), (spec_StabSet_m x0 x1 ((k13 : Nat) : Int))⟩ : DSpan)) hs)) underlying156 type173 (show (d14.length + 1) * 40 ≤ 140737488355328 from by omega) (fun v43 => ?_)
      refine WM_form (n := 0) rfl ?_
      rintro A44 c45 rfl m46
      refine wa (WM_nil (QM_block_normal (QM_then (CM_region (wm ?_)))))
      refine wv (vadN k13 1 (by omega)) ?_
      refine wa (WM_nil ?_)
      have hn48 := rng_next (R := (List DSpan)) (body := F1) (k := k13) (s := d14) (s' := (d14 ++ [(⟨((k13 : Nat) : Int), ((k13 : Nat) : Int), (spec_StabSet_m x0 x1 ((k13 : Nat) : Int))⟩ : DSpan)])) (show k13 < 100 from by omega) (cond_t g29 (cond_f g38 (rfl))) hF18
      exact QM_round (k13 + 1, (d14 ++ [(⟨((k13 : Nat) : Int), ((k13 : Nat) : Int), (spec_StabSet_m x0 x1 ((k13 : Nat) : Int))⟩ : DSpan)]), (A44, c45)) sl4 (fun W hm => hm) ⟨(by omega), hn48, (show (d14 ++ [(⟨((k13 : Nat) : Int), ((k13 : Nat) : Int), (spec_StabSet_m x0 x1 ((k13 : Nat) : Int))⟩ : DSpan)]).length ≤ 0 + (k13 + 1) from by first | omega | (simp only [List.length_append, List.length_cons, List.length_nil] at *; omega))⟩ (rl (by omega))
    ·have g29 := decide_eq_false h28
     refine ws g29 ?_
     refine ws g29 ?_
     refine ws g29 ?_
     refine ws g29 ?_
     refine ws g29 ?_
     refine ws g29 ?_
     refine ws g29 ?_
     refine ws g29 ?_
     refine wv (vpF g29) ?_
     refine nt' ?_
     refine CM_condF rfl rfl ?_
     refine CM_region (wm (wm (wm (wm ?_))))
     let K6 : List Value := [.int .i64 ((k13 : Nat) : Int), .int .i64 ((k13 : Nat) : Int), .slice A24 (spec_StabSet_m x0 x1 ((k13 : Nat) : Int)).length c25]
     refine wv (fun W hm => rv_build (cs := K6) rfl (by kernel_rfl)) ?_
     refine WM_build (cs := K6) underlying156 type173 rfl (by decide) (by decide) rfl (by kernel_rfl) (Wd_none rfl) (by decide) (fun p49 => ?_)
     refine ap1 tySpan 173 (.slice A15 d14.length c16) d14 (⟨((k13 : Nat) : Int), ((k13 : Nat) : Int), (spec_StabSet_m x0 x1 ((k13 : Nat) : Int))⟩ : DSpan) [iOwn (tSl tInt 3) [.slice A24 (spec_StabSet_m x0 x1 ((k13 : Nat) : Int)).length c25] (spec_StabSet_m x0 x1 ((k13 : Nat) : Int))] [] K6 (pk [0, 2, 1]) (fun _ _ hs => Els.single (tySpan_join (x := (⟨((k13 : Nat) : Int), ((k13 : Nat) : Int), (spec_StabSet_m x0 x1 ((k13 : Nat) : Int))⟩ : DSpan)) hs)) underlying156 type173 (show (d14.length + 1) * 40 ≤ 140737488355328 from by omega) (fun v50 => ?_)
     refine WM_form (n := 0) rfl ?_
     rintro A51 c52 rfl m53
     refine wa (WM_nil (QM_block_normal (QM_then (CM_region (wm ?_)))))
     refine wv (vadN k13 1 (by omega)) ?_
     refine wa (WM_nil ?_)
     have hn55 := rng_next (R := (List DSpan)) (body := F1) (k := k13) (s := d14) (s' := (d14 ++ [(⟨((k13 : Nat) : Int), ((k13 : Nat) : Int), (spec_StabSet_m x0 x1 ((k13 : Nat) : Int))⟩ : DSpan)])) (show k13 < 100 from by omega) (cond_f g29 (rfl)) hF18
     exact QM_round (k13 + 1, (d14 ++ [(⟨((k13 : Nat) : Int), ((k13 : Nat) : Int), (spec_StabSet_m x0 x1 ((k13 : Nat) : Int))⟩ : DSpan)]), (A51, c52)) sl4 (fun W hm => hm) ⟨(by omega), hn55, (show (d14 ++ [(⟨((k13 : Nat) : Int), ((k13 : Nat) : Int), (spec_StabSet_m x0 x1 ((k13 : Nat) : Int))⟩ : DSpan)]).length ≤ 0 + (k13 + 1) from by first | omega | (simp only [List.length_append, List.length_cons, List.length_nil] at *; omega))⟩ (rl (by omega))
   ·have g22 : (decide (((k13 : Nat) : Int) ≤ 99)) = false := decide_eq_false (by omega)
    refine CM_condF rfl g22 ?_
    refine CM_exit (QM_then_exit (QM_then_exit ?_))
    have hE56 : R2 (100 - 0) 0 [] = Sum.inr d14 := rng_end hl21 hF18
    refine QM_block_hit (QM_then (sr (wm (wa (nt' (CM_ret ?_))))))
    have he57 := (show spec_StabIndex_m x0 x1 = d14 from cond_t g10 (cond_t g12 (fin_inr hE56 (rfl))))
    refine QM_r1 rfl (RR_tmp rfl) (fun W hm => ⟨.slice A15 d14.length c16, ?_, ?_⟩)
    ·first | rw [he57] | rfl
    ·rw [he57]; exact hm
  ·
   refine CM_condT rfl (nf g12) ?_
   refine sr (wm (wa (nt' (CM_ret (QM_then_ret ?_)))))
   have he58 := (show spec_StabIndex_m x0 x1 = [] from cond_t g10 (cond_f g12 (rfl)))
   refine QM_r1 rfl (RR_tmp rfl) (fun W hm => ⟨.slice (some ⟨p7, 0, none⟩) 0 0, ?_, ?_⟩)
   ·first | rw [he58] | rfl
   ·rw [he58]; exact hm
 ·
  refine ws (nf g10) ?_
  refine ws (nf g10) ?_
  refine ws (nf g10) ?_
  refine wv (vpT (nf g10)) ?_
  refine nt' ?_
  refine CM_condT rfl rfl ?_
  refine sr (wm (wa (nt' (CM_ret (QM_then_ret ?_)))))
  have he59 := (show spec_StabIndex_m x0 x1 = [] from cond_f g10 (rfl))
  refine QM_r1 rfl (RR_tmp rfl) (fun W hm => ⟨.slice (some ⟨p7, 0, none⟩) 0 0, ?_, ?_⟩)
  ·first | rw [he59] | rfl
  ·rw [he59]; exact hm

def spec_BuildIndex_b1 (x0 : (List DQuery)) (k16 : Nat) (d19 : (List (List DSpan))) : DIndex ⊕ ((List (List DSpan))) :=
 Sum.inr (d19 ++ [(spec_StabIndex_m x0 ((k16 : Nat) : Int))])
def spec_BuildIndex_m (x0 : (List DQuery)) : DIndex :=
 cond (spec_AreQueries_m x0) (Sum.elim id (fun (s : (List (List DSpan))) => (⟨x0, s⟩ : DIndex)) (rng (R := DIndex) (fun k (s : (List (List DSpan))) => spec_BuildIndex_b1 x0 k s) (3 - 0) 0 [])) (⟨[], []⟩ : DIndex)
theorem cb109 : Cb Tryd.prog 109 := ⟨f109, _, func109, rfl, by decide⟩
theorem spec_BuildIndex_c (w : World) (z0 : Value) (x0 : (List DQuery)) (r_0 : rdS tyQuery w w.heap.size z0 x0) (s_0 : (x0.length ≤ 68719476736 ∧ ∀ y ∈ x0, smQuery 68719476736 y)) :
  Calls Tryd.prog 109 #[z0] w fun e w' => ∃ v : List Value, e = .returned (.agg v.toArray) ∧ Mem w.heap.size w [iOwn tyIndex v (spec_BuildIndex_m x0)] w' := by
 obtain ⟨m1, A2, c3, rfl, q4, r5⟩ := rdS_op r_0
 have l6 : x0.length ≤ 68719476736 := s_0.1
 refine ce1 (L := [(0, .slice A2 x0.length c3)]) (N := 25) func109 ?_
 refine sr ?_
 refine WM_alloc type139 rfl (Wd_none rfl) (by decide) (fun p7 => ?_)
 refine nt' (CM_seq (sr (wm ?_)))
 refine wcv (cl_fn cb120 rfl) (fun W hm => spec_AreQueries_c W _ x0 (hm.rdS0 r5)) ?_
 refine wv vnot ?_
 refine nt' ?_
 rcases Bool.eq_false_or_eq_true (spec_AreQueries_m x0) with g9 | g9
 ·
  refine CM_condF rfl (nt g9) ?_
  refine CM_skip (QM_then (sr (wm ?_)))
  refine wcl (tSl tyQuery 150) x0 (cl_fn cb121 rfl) (fun W hm => spec_l6Queries_c2 W _ x0 (hm.rdS0 r5) s_0) (fun z10 => ?_)
  refine WM_form (n := 0) rfl ?_
  rintro A11 c12 rfl m13
  refine wv (fun W hm => rv_build (cs := [.slice A11 x0.length c12, .slice none 0 0]) rfl (by kernel_rfl)) ?_
  refine WM_alloc type139 rfl (Wd_none rfl) (by decide) (fun p15 => ?_)
  let I4 : It := iOwn (tSl tyQuery 150) [.slice A11 x0.length c12] x0
  let I5 : It := iBox p7 139 [.slice none 0 0, .slice none 0 0]
  refine sb 0 [.slice A11 x0.length c12, .slice none 0 0] [I4, I5] (fun W hm => hm) type139 ?_
  refine nt' (CM_seq (sr (wa (nt' (CM_block ?_)))))
  refine CM_items (fun W hm => (hm.addNil (E := (tSl tySpan 173)) (e := 156)).last) ?_
  let F1 := fun k (s : (List (List DSpan))) => spec_BuildIndex_b1 x0 k s
  let R2 := rng (R := DIndex) F1
  refine CM_loop (σ := Nat × ((List (List DSpan))) × (Option Addr × Nat)) (fun s => [(0, .slice A2 x0.length c3), (2, .pointer (some (⟨p7, 0, none⟩ : Addr))), (3, .pointer (some (⟨p15, 0, none⟩ : Addr))), (4, .int .i64 ((s.1 : Nat) : Int))]) (fun s => [iBox p15 139 [.slice A11 x0.length c12, .slice s.2.2.1 s.2.1.length s.2.2.2], I4, I5, iOwn (tSl (tSl tySpan 173) 156) [.slice s.2.2.1 s.2.1.length s.2.2.2] s.2.1]) (fun s => s.1 ≤ 3 ∧ R2 (3 - s.1) s.1 s.2.1 = R2 (3 - 0) 0 [] ∧ s.2.1.length ≤ 0 + s.1) (fun s => 3 - s.1) (0, [], (none, 0)) sl4 (fun W hm => hm) ⟨(by omega), rfl, Nat.le_refl _⟩ ?_
  rintro ⟨k16, d19, ⟨A20, c21⟩⟩ H24
  obtain ⟨hk22, hF23, hi25⟩ : k16 ≤ 3 ∧ R2 (3 - k16) k16 d19 = R2 (3 - 0) 0 [] ∧ d19.length ≤ 0 + k16 := H24
  let I6 : It := iBox p15 139 [.slice A11 x0.length c12, .slice A20 d19.length c21]
  let I7 : It := iOwn (tSl (tSl tySpan 173) 156) [.slice A20 d19.length c21] d19
  show CM Tryd.prog 25 _ _ _ _ [(0, .slice A2 x0.length c3), (2, .pointer (some (⟨p7, 0, none⟩ : Addr))), (3, .pointer (some (⟨p15, 0, none⟩ : Addr))), (4, .int .i64 ((k16 : Nat) : Int))] [I6, I4, I5, I7]
  refine CM_seq (sr (wm ?_))
  refine wv vlss ?_
  refine nt' ?_
  by_cases hl26 : k16 < 3
  ·have g27 : (decide (((k16 : Nat) : Int) < 3)) = true := decide_eq_true (by omega)
   refine CM_condT rfl g27 ?_
   refine CM_skip (QM_then (CM_seq (CM_block ?_)))
   refine rd2 9 [8] (s := [I4, I5]) (s2 := [I6, I4, I5]) (pk [1, 2]) (pk [0, 1, 2]) ?_
   refine qtD 9 0 1 rfl (vf underlying139 rfl type137) ?_
   refine qtD 9 1 3 rfl (vl 0 1 underlying137) ?_
   refine qtD 9 2 7 rfl vmv ?_
   refine qtD 9 3 15 rfl vmv ?_
   refine qoD 9 4 31 rfl ?_
   refine wcl (tSl tySpan 173) (spec_StabIndex_m x0 ((k16 : Nat) : Int)) (cl_fn cb122 rfl) (fun W hm => spec_StabIndex_c W _ x0 ((k16 : Nat) : Int) (hm.rdS0 r5) s_0) (fun z28 => ?_)
   refine WM_form (n := 0) rfl ?_
   rintro A29 c30 rfl m31
   refine qnD (pk [2, 3]) (pk [1, 2, 3]) ?_
   refine qoD 9 5 63 rfl ?_
   let K3 : List Value := [.slice A29 (spec_StabIndex_m x0 ((k16 : Nat) : Int)).length c30]
   refine WM_build (cs := K3) underlying137 type156 rfl (by decide) (by decide) rfl (by kernel_rfl) (Wd_none rfl) (by decide) (fun p33 => ?_)
   refine qnD (pk [3, 4]) (pk [2, 3, 4]) ?_
   refine qoD 9 6 127 rfl ?_
   refine ap1 (tSl tySpan 173) 156 (.slice A20 d19.length c21) d19 (spec_StabIndex_m x0 ((k16 : Nat) : Int)) [iOwn (tSl tySpan 173) K3 (spec_StabIndex_m x0 ((k16 : Nat) : Int))] [I6, I4, I5] K3 (pk [0, 5, 1, 2, 3, 4]) (fun _ _ hs => Els.single (Sep.one hs)) underlying137 type156 (show (d19.length + 1) * 24 ≤ 140737488355328 from by omega) (fun v34 => ?_)
   refine WM_form (n := 0) rfl ?_
   rintro A35 c36 rfl m37
   refine qnD (pk [2, 3]) (pk [1, 2, 3]) ?_
   refine qtD 9 7 255 rfl (vf underlying139 rfl type137) ?_
   refine qoD 9 8 511 rfl ?_
   refine sb 1 [.slice A11 x0.length c12, .slice A35 (d19 ++ [(spec_StabIndex_m x0 ((k16 : Nat) : Int))]).length c36] [iOwn (tSl (tSl tySpan 173) 156) [.slice A35 (d19 ++ [(spec_StabIndex_m x0 ((k16 : Nat) : Int))]).length c36] (d19 ++ [(spec_StabIndex_m x0 ((k16 : Nat) : Int))]), I4, I5] (pk [1, 0, 2, 3]) type137 ?_
   refine qxD (pk [2, 3]) ?_
   refine QB_done (by kernel_rfl) ?_
   refine QM_block_normal (QM_then (CM_region (wm ?_)))
   refine wv (vadN k16 1 (by omega)) ?_
   refine wa (WM_nil ?_)
   have hn39 := rng_next (R := DIndex) (body := F1) (k := k16) (s := d19) (s' := (d19 ++ [(spec_StabIndex_m x0 ((k16 : Nat) : Int))])) (show k16 < 3 from by omega) (rfl) hF23
   exact QM_round (k16 + 1, (d19 ++ [(spec_StabIndex_m x0 ((k16 : Nat) : Int))]), (A35, c36)) sl4 (pk [0, 2, 3, 1]) ⟨(by omega), hn39, (show (d19 ++ [(spec_StabIndex_m x0 ((k16 : Nat) : Int))]).length ≤ 0 + (k16 + 1) from by first | omega | (simp only [List.length_append, List.length_cons, List.length_nil] at *; omega))⟩ (rl (by omega))
  ·have g27 : (decide (((k16 : Nat) : Int) < 3)) = false := decide_eq_false (by omega)
   refine CM_condF rfl g27 ?_
   refine CM_exit (QM_then_exit (QM_then_exit ?_))
   have hE40 : R2 (3 - 0) 0 [] = Sum.inr d19 := rng_end hl26 hF23
   refine QM_block_hit (QM_then (sr ?_))
   refine wv (fun W hm => rv_loadN (cs := [.slice A11 x0.length c12, .slice A20 d19.length c21]) underlying139 type139 rfl rfl (hm.boxCells (n := 0) rfl)) ?_
   refine sb 0 [.slice A11 x0.length c12, .slice A20 d19.length c21] [I6, I4, I7] (pk [2, 0, 1, 3]) type139 ?_
   refine nt' (CM_ret ?_)
   have he41 := (show spec_BuildIndex_m x0 = (⟨x0, d19⟩ : DIndex) from cond_t g9 (fin_inr hE40 (rfl)))
   refine QM_r1 rfl (RR_cell (n := 0) rfl rfl underlying139 type139 rfl) (fun W hm => ⟨[.slice A11 x0.length c12, .slice A20 d19.length c21], ?_, ?_⟩)
   ·first | rw [he41] | rfl
   ·rw [he41]; exact Mem.join (is := [I4, I7]) (js := []) (fun _ _ hs => tyIndex_join (x := (⟨x0, d19⟩ : DIndex)) hs) (hm.pick [2, 3] (by decide))
 ·
  refine CM_condT rfl (nf g9) ?_
  refine sr ?_
  refine wv (fun W hm => rv_build (cs := [.slice none 0 0, .slice none 0 0]) rfl (by kernel_rfl)) ?_
  refine sb 0 [.slice none 0 0, .slice none 0 0] [] (fun W hm => hm) type139 ?_
  refine nt' (CM_ret (QM_then_ret ?_))
  refine QM_items (fun W hm => hm.addNil (E := tyQuery) (e := 150)) ?_
  refine QM_items (fun W hm => hm.addNil (E := (tSl tySpan 173)) (e := 156)) ?_
  have he44 := (show spec_BuildIndex_m x0 = (⟨[], []⟩ : DIndex) from cond_f g9 (rfl))
  refine QM_r1 rfl (RR_cell (n := 2) rfl rfl underlying139 type139 rfl) (fun W hm => ⟨[.slice none 0 0, .slice none 0 0], ?_, ?_⟩)
  ·first | rw [he44] | rfl
  ·rw [he44]; exact Mem.join (is := [iOwn (tSl tyQuery 150) [.slice none 0 0] [], iOwn (tSl (tSl tySpan 173) 156) [.slice none 0 0] []]) (js := []) (fun _ _ hs => tyIndex_join (x := (⟨[], []⟩ : DIndex)) hs) (hm.pick [1, 0] (by decide))

def spec_EqualSpans_b1 (x0 : (List DSpan)) (x1 : (List DSpan)) (k13 : Nat) : Bool ⊕ (Unit) :=
 cond (((gt x0 k13).From) != ((gt x1 k13).From)) (Sum.inl false) (cond (((gt x0 k13).To) != ((gt x1 k13).To)) (Sum.inl false) (cond (spec_l2Ints_m ((gt x0 k13).Set) ((gt x1 k13).Set)) (Sum.inr ()) (Sum.inl false)))
def spec_EqualSpans_m (x0 : (List DSpan)) (x1 : (List DSpan)) : Bool :=
 cond (((x0.length : Nat) : Int) != ((x1.length : Nat) : Int)) false (Sum.elim id (fun (s : Unit) => true) (rng (R := Bool) (fun k (_ : Unit) => spec_EqualSpans_b1 x0 x1 k) (x0.length - 0) 0 ()))
theorem cb129 : Cb Tryd.prog 129 := ⟨f129, _, func129, rfl, by decide⟩
theorem spec_EqualSpans_c (w : World) (z0 : Value) (x0 : (List DSpan)) (z1 : Value) (x1 : (List DSpan)) (r_0 : rdS tySpan w w.heap.size z0 x0) (r_1 : rdS tySpan w w.heap.size z1 x1) :
  Calls Tryd.prog 129 #[z0, z1] w fun e w' => e = .returned (.bool (spec_EqualSpans_m x0 x1)) ∧ Below w.heap.size w w' := by
 obtain ⟨m1, A2, c3, rfl, q4, r5⟩ := rdS_op r_0
 obtain ⟨m6, A7, c8, rfl, q9, r10⟩ := rdS_op r_1
 refine ce2 (L := [(0, .slice A2 x0.length c3), (1, .slice A7 x1.length c8)]) (N := 55) func129 ?_
 refine sr (wa (nt' (CM_seq (sr (wm ?_)))))
 refine wv (vlen underlying156) ?_
 refine wm ?_
 refine wv (vlen underlying156) ?_
 refine wv vneq ?_
 refine nt' ?_
 by_cases h11 : ((x0.length : Nat) : Int) = ((x1.length : Nat) : Int)
 ·have g12 : (((x0.length : Nat) : Int) != ((x1.length : Nat) : Int)) = false := by rw [h11]; exact bne_self_eq_false _
  refine CM_condF rfl g12 ?_
  refine CM_skip (QM_then (CM_seq (sr (wa (nt' (CM_block ?_))))))
  let F1 := fun k (_ : Unit) => spec_EqualSpans_b1 x0 x1 k
  let R2 := rng (R := Bool) F1
  refine CM_loop (σ := Nat × (Unit) × (Unit)) (fun s => [(0, .slice A2 x0.length c3), (1, .slice A7 x1.length c8), (5, .int .i64 ((s.1 : Nat) : Int))]) (fun s => []) (fun s => s.1 ≤ x0.length ∧ R2 (x0.length - s.1) s.1 s.2.1 = R2 (x0.length - 0) 0 ()) (fun s => x0.length - s.1) (0, (), ()) sl3 (fun W hm => hm) ⟨(by omega), rfl⟩ ?_
  rintro ⟨k13, ⟨⟩, ⟨⟩⟩ H16
  obtain ⟨hk14, hF15⟩ : k13 ≤ x0.length ∧ R2 (x0.length - k13) k13 () = R2 (x0.length - 0) 0 () := H16
  show CM Tryd.prog 55 _ _ _ _ [(0, .slice A2 x0.length c3), (1, .slice A7 x1.length c8), (5, .int .i64 ((k13 : Nat) : Int))] []
  refine CM_seq (sr (wm (wm ?_)))
  refine wv (vlen underlying156) ?_
  refine wv vlss ?_
  refine nt' ?_
  by_cases hl17 : k13 < x0.length
  ·have g18 := dlT hl17
   refine CM_condT rfl g18 ?_
   refine CM_skip (QM_then (CM_seq (CM_block (CM_seq ?_))))
   refine CM_regionD (by kernel_rfl) (by kernel_rfl) ?_
   refine qm (qm ?_)
   obtain ⟨a19, rfl, hb20, he21⟩ := q4 (by omega)
   refine qv (vix 3 k13 underlying156 type173) ?_
   refine qv (vf underlying173 rfl type3) ?_
   obtain ⟨_, e25, hc22⟩ := he21 k13 _ (gt_some (show k13 < x0.length from by omega))
   obtain ⟨v23, rfl, r24⟩ := tySpan_rd e25
   obtain ⟨m26, A27, c28, rfl, q29, r30⟩ := rdS_op r24
   refine qv (fun W hm => rv_load underlying3 rfl rfl ((hm.cell0 (show ((a19.add (k13 * 3)).add 0).block < w.heap.size from by rw [add_block, add_block]; exact hb20.1)).trans (hc22 0 _ rfl))) ?_
   refine qm (qm ?_)
   obtain ⟨a31, rfl, hb32, he33⟩ := q9 (by omega)
   refine qv (vix 3 k13 underlying156 type173) ?_
   refine qv (vf underlying173 rfl type3) ?_
   obtain ⟨_, e37, hc34⟩ := he33 k13 _ (gt_some (show k13 < x1.length from by omega))
   obtain ⟨v35, rfl, r36⟩ := tySpan_rd e37
   obtain ⟨m38, A39, c40, rfl, q41, r42⟩ := rdS_op r36
   refine qv (fun W hm => rv_load underlying3 rfl rfl ((hm.cell0 (show ((a31.add (k13 * 3)).add 0).block < w.heap.size from by rw [add_block, add_block]; exact hb32.1)).trans (hc34 0 _ rfl))) ?_
   refine qv vneq ?_
   refine qm ?_
   by_cases h43 : ((gt x0 k13).From) = ((gt x1 k13).From)
   ·have g44 : (((gt x0 k13).From) != ((gt x1 k13).From)) = false := by rw [h43]; exact bne_self_eq_false _
    refine qg vmv g44 ?_
    refine qg vmv g44 ?_
    refine qg (vix 3 k13 underlying156 type173) g44 ?_
    refine qg (vf underlying173 rfl type3) g44 ?_
    refine qg (fun W hm => rv_load underlying3 rfl rfl ((hm.cell0 (show ((a19.add (k13 * 3)).add 1).block < w.heap.size from by rw [add_block, add_block]; exact hb20.1)).trans (hc22 1 _ rfl))) g44 ?_
    refine qg vmv g44 ?_
    refine qg vmv g44 ?_
    refine qg (vix 3 k13 underlying156 type173) g44 ?_
    refine qg (vf underlying173 rfl type3) g44 ?_
    refine qg (fun W hm => rv_load underlying3 rfl rfl ((hm.cell0 (show ((a31.add (k13 * 3)).add 1).block < w.heap.size from by rw [add_block, add_block]; exact hb32.1)).trans (hc34 1 _ rfl))) g44 ?_
    refine qg vneq g44 ?_
    refine qv (vpF g44) ?_
    refine qm ?_
    by_cases h45 : ((gt x0 k13).To) = ((gt x1 k13).To)
    ·have g46 : (((gt x0 k13).To) != ((gt x1 k13).To)) = false := by rw [h45]; exact bne_self_eq_false _
     refine qg vmv g46 ?_
     refine qg vmv g46 ?_
     refine qg (vix 3 k13 underlying156 type173) g46 ?_
     refine qg (vf underlying173 rfl type28) g46 ?_
     refine qg (fun W hm => rv_load underlying28 rfl rfl ((hm.cell0 (show ((a19.add (k13 * 3)).add 2).block < w.heap.size from by rw [add_block, add_block]; exact hb20.1)).trans (hc22 2 _ rfl))) g46 ?_
     refine qg vmv g46 ?_
     refine qg vmv g46 ?_
     refine qg (vix 3 k13 underlying156 type173) g46 ?_
     refine qg (vf underlying173 rfl type28) g46 ?_
     refine qg (fun W hm => rv_load underlying28 rfl rfl ((hm.cell0 (show ((a31.add (k13 * 3)).add 2).block < w.heap.size from by rw [add_block, add_block]; exact hb32.1)).trans (hc34 2 _ rfl))) g46 ?_
     refine QR_callV (cl_fn cb134 rfl) (fun W hm => spec_l2Ints_c W _ ((gt x0 k13).Set) _ ((gt x1 k13).Set) (hm.rdS0 r30) (hm.rdS0 r42)) (Wd_some rfl rfl rfl (bw g46 rfl)) (by decide) ?_
     refine qg vnot g46 ?_
     refine qv (vpF g46) ?_
     refine nq' ?_
     rcases Bool.eq_false_or_eq_true (spec_l2Ints_m ((gt x0 k13).Set) ((gt x1 k13).Set)) with g48 | g48
     ·
      refine CM_condF rfl (nt g48) ?_
      refine CM_skip (QM_block_normal (QM_then (CM_region (wm ?_))))
      refine wv (vadN k13 1 (by omega)) ?_
      refine wa (WM_nil ?_)
      have hn49 := rng_next (R := Bool) (body := F1) (k := k13) (s := ()) (s' := ()) (show k13 < x0.length from by omega) (cond_f g44 (cond_f g46 (cond_t g48 (rfl)))) hF15
      exact QM_round (k13 + 1, (), ()) sl3 (fun W hm => hm) ⟨(by omega), hn49⟩ (rl (by omega))
     ·
      refine CM_condT rfl (nf g48) ?_
      refine sr (wa (nt' (CM_ret (QM_block_ret (QM_then_ret (QM_then_ret (QM_block_ret (QM_then_ret ?_))))))))
      exact rtb (h := cond_f g12 (fin_inl (rng_ret (body := F1) (k := k13) (s := ()) (show k13 < x0.length from by omega) (cond_f g44 (cond_f g46 (cond_f g48 (rfl)))) hF15) rfl))
    ·have g46 : (((gt x0 k13).To) != ((gt x1 k13).To)) = true := bne_iff_ne.2 h45
     refine qs g46 ?_
     refine qs g46 ?_
     refine qs g46 ?_
     refine qs g46 ?_
     refine qs g46 ?_
     refine qs g46 ?_
     refine qs g46 ?_
     refine qs g46 ?_
     refine qs g46 ?_
     refine qs g46 ?_
     refine qs g46 ?_
     refine qs g46 ?_
     refine qv (vpT g46) ?_
     refine nq' ?_
     refine CM_condT rfl rfl ?_
     refine sr (wa (nt' (CM_ret (QM_block_ret (QM_then_ret (QM_then_ret (QM_block_ret (QM_then_ret ?_))))))))
     exact rtb (h := cond_f g12 (fin_inl (rng_ret (body := F1) (k := k13) (s := ()) (show k13 < x0.length from by omega) (cond_f g44 (cond_t g46 (rfl))) hF15) rfl))
   ·have g44 : (((gt x0 k13).From) != ((gt x1 k13).From)) = true := bne_iff_ne.2 h43
    refine qs g44 ?_
    refine qs g44 ?_
    refine qs g44 ?_
    refine qs g44 ?_
    refine qs g44 ?_
    refine qs g44 ?_
    refine qs g44 ?_
    refine qs g44 ?_
    refine qs g44 ?_
    refine qs g44 ?_
    refine qs g44 ?_
    refine qv (vpT g44) ?_
    refine qm ?_
    refine QR_skip (Wd_some rfl rfl rfl rfl) rfl (by decide) ?_
    refine QR_skip (Wd_some rfl rfl rfl rfl) rfl (by decide) ?_
    refine QR_skip (Wd_some rfl rfl rfl rfl) rfl (by decide) ?_
    refine QR_skip (Wd_some rfl rfl rfl rfl) rfl (by decide) ?_
    refine QR_skip (Wd_some rfl rfl rfl rfl) rfl (by decide) ?_
    refine QR_skip (Wd_some rfl rfl rfl rfl) rfl (by decide) ?_
    refine QR_skip (Wd_some rfl rfl rfl rfl) rfl (by decide) ?_
    refine QR_skip (Wd_some rfl rfl rfl rfl) rfl (by decide) ?_
    refine QR_skip (Wd_some rfl rfl rfl rfl) rfl (by decide) ?_
    refine QR_skip (Wd_some rfl rfl rfl rfl) rfl (by decide) ?_
    refine QR_skip (Wd_some rfl rfl rfl rfl) rfl (by decide) ?_
    refine QR_skip (Wd_some rfl rfl rfl rfl) rfl (by decide) ?_
    refine qv (vpT rfl) ?_
    refine nq' ?_
    refine CM_condT rfl rfl ?_
    refine sr (wa (nt' (CM_ret (QM_block_ret (QM_then_ret (QM_then_ret (QM_block_ret (QM_then_ret ?_))))))))
    exact rtb (h := cond_f g12 (fin_inl (rng_ret (body := F1) (k := k13) (s := ()) (show k13 < x0.length from by omega) (cond_t g44 (rfl)) hF15) rfl))
  ·have g18 := dlF hl17
   refine CM_condF rfl g18 ?_
   refine CM_exit (QM_then_exit (QM_then_exit ?_))
   have hE50 : R2 (x0.length - 0) 0 () = Sum.inr () := rng_end hl17 hF15
   refine QM_block_hit (QM_then (sr (wa (nt' (CM_ret ?_)))))
   exact rtb (h := cond_f g12 (fin_inr hE50 (rfl)))
 ·have g12 : (((x0.length : Nat) : Int) != ((x1.length : Nat) : Int)) = true := bne_iff_ne.2 h11
  refine CM_condT rfl g12 ?_
  refine sr (wa (nt' (CM_ret (QM_then_ret ?_))))
  exact rtb (h := cond_t g12 (rfl))

def spec_IsIndex_b1 (x0 : DIndex) (k22 : Nat) : Bool ⊕ (Unit) :=
 cond (spec_EqualSpans_m (gt x0.Fields k22) (spec_StabIndex_m x0.Queries ((k22 : Nat) : Int))) (Sum.inr ()) (Sum.inl false)
def spec_IsIndex_m (x0 : DIndex) : Bool :=
 cond (spec_AreQueries_m x0.Queries) (cond (((x0.Fields.length : Nat) : Int) != 3) false (Sum.elim id (fun (s : Unit) => true) (rng (R := Bool) (fun k (_ : Unit) => spec_IsIndex_b1 x0 k) (3 - 0) 0 ()))) false
theorem cb118 : Cb Tryd.prog 118 := ⟨f118, _, func118, rfl, by decide⟩
theorem spec_IsIndex_c (w : World) (z0 : List Value) (x0 : DIndex) (r_0 : tyIndex.rd w w.heap.size z0 x0) (s_0 : smIndex 68719476736 x0) :
  Calls Tryd.prog 118 #[.agg z0.toArray] w fun e w' => e = .returned (.bool (spec_IsIndex_m x0)) ∧ Below w.heap.size w w' := by
 obtain ⟨v1, v3, rfl, r2, r4⟩ := tyIndex_rd r_0
 obtain ⟨m5, A6, c7, rfl, q8, r9⟩ := rdS_op r2
 obtain ⟨m10, A11, c12, rfl, q13, r14⟩ := rdS_op r4
 have l15 : x0.Queries.length ≤ 68719476736 := s_0.1.1
 have l16 : x0.Fields.length ≤ 68719476736 := s_0.2.1
 refine ce1 (L := [(0, .agg #[.slice A6 x0.Queries.length c7, .slice A11 x0.Fields.length c12])]) (N := 29) func118 ?_
 refine sr ?_
 refine WM_box rfl (Wd_none rfl) (by decide) (fun p17 => ?_)
 refine wa (nt' (CM_seq (sr ?_)))
 refine wv (vf underlying139 rfl type123) ?_
 refine wv (vl 0 0 underlying123) ?_
 refine wcv (cl_fn cb120 rfl) (fun W hm => spec_AreQueries_c W _ x0.Queries (hm.rdS0 r9)) ?_
 refine wv vnot ?_
 refine wm ?_
 rcases Bool.eq_false_or_eq_true (spec_AreQueries_m x0.Queries) with g19 | g19
 ·
  refine wg (vf underlying139 rfl type137) (nt g19) ?_
  refine wg (vl 0 1 underlying137) (nt g19) ?_
  refine wg (vlen underlying137) (nt g19) ?_
  refine wg vneq (nt g19) ?_
  refine wv (vpF (nt g19)) ?_
  refine nt' ?_
  by_cases h20 : ((x0.Fields.length : Nat) : Int) = 3
  ·have g21 : (((x0.Fields.length : Nat) : Int) != 3) = false := by rw [h20]; exact bne_self_eq_false _
   refine CM_condF rfl g21 ?_
   refine CM_skip (QM_then (CM_seq (sr (wa (nt' (CM_block ?_))))))
   let F1 := fun k (_ : Unit) => spec_IsIndex_b1 x0 k
   let R2 := rng (R := Bool) F1
   let K3 : List Value := [.slice A6 x0.Queries.length c7, .slice A11 x0.Fields.length c12]
   refine CM_loop (σ := Nat × (Unit) × (Unit)) (fun s => [(1, .pointer (some (⟨p17, 0, none⟩ : Addr))), (3, .int .i64 ((s.1 : Nat) : Int))]) (fun s => [iBox p17 139 K3]) (fun s => s.1 ≤ 3 ∧ R2 (3 - s.1) s.1 s.2.1 = R2 (3 - 0) 0 ()) (fun s => 3 - s.1) (0, (), ()) sl2 (fun W hm => hm) ⟨(by omega), rfl⟩ ?_
   rintro ⟨k22, ⟨⟩, ⟨⟩⟩ H25
   obtain ⟨hk23, hF24⟩ : k22 ≤ 3 ∧ R2 (3 - k22) k22 () = R2 (3 - 0) 0 () := H25
   show CM Tryd.prog 29 _ _ _ _ [(1, .pointer (some (⟨p17, 0, none⟩ : Addr))), (3, .int .i64 ((k22 : Nat) : Int))] [iBox p17 139 K3]
   refine CM_seq (sr (wm ?_))
   refine wv vlss ?_
   refine nt' ?_
   by_cases hl26 : k22 < 3
   ·have g27 : (decide (((k22 : Nat) : Int) < 3)) = true := decide_eq_true (by omega)
    refine CM_condT rfl g27 ?_
    refine CM_skip (QM_then (CM_seq (CM_block (CM_seq ?_))))
    obtain ⟨a28, rfl, hb29, he30⟩ := q13 (by omega)
    obtain ⟨_, e32, hc31⟩ := he30 k22 _ (gt_some (show k22 < x0.Fields.length from by omega))
    have l33 : (gt x0.Fields k22).length ≤ 68719476736 := (s_0.2.2 _ (gt_mem (show k22 < x0.Fields.length from by omega))).1
    obtain ⟨v34, rfl, r35⟩ := e32
    obtain ⟨m36, A37, c38, rfl, q39, r40⟩ := rdS_op r35
    let K4 : List Value := [.slice A6 x0.Queries.length c7, .slice (some a28) x0.Fields.length c12]
    refine CM_cut (σ := Option Addr × Nat) (fun s => [(1, .pointer (some (⟨p17, 0, none⟩ : Addr))), (3, .int .i64 ((k22 : Nat) : Int)), (28, .bool (!(spec_EqualSpans_m (gt x0.Fields k22) (spec_StabIndex_m x0.Queries ((k22 : Nat) : Int)))))]) (fun s => [iOwn (tSl tySpan 173) [.slice s.1 (spec_StabIndex_m x0.Queries ((k22 : Nat) : Int)).length s.2] (spec_StabIndex_m x0.Queries ((k22 : Nat) : Int)), iBox p17 139 K4]) (fun _ => True) ?_ ?_
    ·
     refine rb 11 (s := []) (pk []) ?_
     refine qt 11 0 1 rfl (vf underlying139 rfl type137) ?_
     refine qt 11 2 5 rfl vmv ?_
     refine qt 11 5 37 rfl (vf underlying139 rfl type123) ?_
     refine qt 11 7 165 rfl vmv ?_
     refine qa [1, 6] ?_
     refine qc 11 167 rfl ?_ ?_
     ·
      refine wv (vl 0 1 underlying137) ?_
      refine qn (pk []) ?_
      refine qt 11 3 175 rfl (vix 1 k22 underlying137 type156) ?_
      refine qt 11 4 191 rfl (fun W hm => rv_load underlying156 rfl rfl ((hm.cell0 (show (a28.add (k22 * 1)).block < w.heap.size from by rw [add_block]; exact hb29.1)).trans (hc31 0 _ rfl))) ?_
      refine qo 11 6 255 rfl ?_
      refine wv (vl 0 0 underlying123) ?_
      refine qn (pk []) ?_
      refine qo 11 8 511 rfl ?_
      refine wcl (tSl tySpan 173) (spec_StabIndex_m x0.Queries ((k22 : Nat) : Int)) (cl_fn cb122 rfl) (fun W hm => spec_StabIndex_c W _ x0.Queries ((k22 : Nat) : Int) (hm.rdS0 r9) s_0.1) (fun z46 => ?_)
      refine WM_form (n := 0) rfl ?_
      rintro A47 c48 rfl m49
      refine qn (pk []) ?_
      refine qo 11 9 1023 rfl ?_
      refine wcv (cl_fn cb129 rfl) (fun W hm => spec_EqualSpans_c W _ (gt x0.Fields k22) _ (spec_StabIndex_m x0.Queries ((k22 : Nat) : Int)) (hm.rdS0 r40) (hm.rdSI (n := 0) rfl)) ?_
      refine qn (pk []) ?_
      refine qt 11 10 2047 rfl vnot ?_
      refine QB_done (by kernel_rfl) ?_
      exact QM_cut_normal (A47, c48) sl3 (fun W hm => hm) trivial
     refine qc 11 229 rfl ?_ ?_
     ·
      refine wv (vl 0 0 underlying123) ?_
      refine qn (pk []) ?_
      refine qa [1, 8] ?_
      refine qc 11 231 rfl ?_ ?_
      ·
       refine wv (vl 0 1 underlying137) ?_
       refine qn (pk []) ?_
       refine qt 11 3 239 rfl (vix 1 k22 underlying137 type156) ?_
       refine qt 11 4 255 rfl (fun W hm => rv_load underlying156 rfl rfl ((hm.cell0 (show (a28.add (k22 * 1)).block < w.heap.size from by rw [add_block]; exact hb29.1)).trans (hc31 0 _ rfl))) ?_
       refine qo 11 8 511 rfl ?_
       refine wcl (tSl tySpan 173) (spec_StabIndex_m x0.Queries ((k22 : Nat) : Int)) (cl_fn cb122 rfl) (fun W hm => spec_StabIndex_c W _ x0.Queries ((k22 : Nat) : Int) (hm.rdS0 r9) s_0.1) (fun z51 => ?_)
       refine WM_form (n := 0) rfl ?_
       rintro A52 c53 rfl m54
       refine qn (pk []) ?_
       refine qo 11 9 1023 rfl ?_
       refine wcv (cl_fn cb129 rfl) (fun W hm => spec_EqualSpans_c W _ (gt x0.Fields k22) _ (spec_StabIndex_m x0.Queries ((k22 : Nat) : Int)) (hm.rdS0 r40) (hm.rdSI (n := 0) rfl)) ?_
       refine qn (pk []) ?_
       refine qt 11 10 2047 rfl vnot ?_
       refine QB_done (by kernel_rfl) ?_
       exact QM_cut_normal (A52, c53) sl3 (fun W hm => hm) trivial
      refine qc 11 485 rfl ?_ ?_
      ·
       refine wcl (tSl tySpan 173) (spec_StabIndex_m x0.Queries ((k22 : Nat) : Int)) (cl_fn cb122 rfl) (fun W hm => spec_StabIndex_c W _ x0.Queries ((k22 : Nat) : Int) (hm.rdS0 r9) s_0.1) (fun z56 => ?_)
       refine WM_form (n := 0) rfl ?_
       rintro A57 c58 rfl m59
       refine qn (pk []) ?_
       refine qo 11 1 487 rfl ?_
       refine wv (vl 1 1 underlying137) ?_
       refine qn (pk []) ?_
       refine qt 11 3 495 rfl (vix 1 k22 underlying137 type156) ?_
       refine qt 11 4 511 rfl (fun W hm => rv_load underlying156 rfl rfl ((hm.cell0 (show (a28.add (k22 * 1)).block < w.heap.size from by rw [add_block]; exact hb29.1)).trans (hc31 0 _ rfl))) ?_
       refine qo 11 9 1023 rfl ?_
       refine wcv (cl_fn cb129 rfl) (fun W hm => spec_EqualSpans_c W _ (gt x0.Fields k22) _ (spec_StabIndex_m x0.Queries ((k22 : Nat) : Int)) (hm.rdS0 r40) (hm.rdSI (n := 0) rfl)) ?_
       refine qn (pk []) ?_
       refine qt 11 10 2047 rfl vnot ?_
       refine QB_done (by kernel_rfl) ?_
       exact QM_cut_normal (A57, c58) sl3 (fun W hm => hm) trivial
      exact QBs_nil
     exact QBs_nil
    ·
     rintro ⟨A42, c43⟩ -
     show QM 29 _ _ _ .normal [(1, .pointer (some (⟨p17, 0, none⟩ : Addr))), (3, .int .i64 ((k22 : Nat) : Int)), (28, .bool (!(spec_EqualSpans_m (gt x0.Fields k22) (spec_StabIndex_m x0.Queries ((k22 : Nat) : Int)))))] [iOwn (tSl tySpan 173) [.slice A42 (spec_StabIndex_m x0.Queries ((k22 : Nat) : Int)).length c43] (spec_StabIndex_m x0.Queries ((k22 : Nat) : Int)), iBox p17 139 K4]
     refine QM_len (n := 0) rfl ?_
     intro m61 m62
     refine QM_then ?_
     rcases Bool.eq_false_or_eq_true (spec_EqualSpans_m (gt x0.Fields k22) (spec_StabIndex_m x0.Queries ((k22 : Nat) : Int))) with g64 | g64
     ·
      refine CM_condF rfl (nt g64) ?_
      refine CM_skip (QM_block_normal (QM_then (CM_region (wm ?_))))
      refine wv (vadN k22 1 (by omega)) ?_
      refine wa (WM_nil ?_)
      have hn65 := rng_next (R := Bool) (body := F1) (k := k22) (s := ()) (s' := ()) (show k22 < 3 from by omega) (cond_t g64 (rfl)) hF24
      exact QM_round (k22 + 1, (), ()) sl2 (pk [1]) ⟨(by omega), hn65⟩ (rl (by omega))
     ·
      refine CM_condT rfl (nf g64) ?_
      refine sr (wa (nt' (CM_ret (QM_block_ret (QM_then_ret (QM_then_ret (QM_block_ret (QM_then_ret ?_))))))))
      exact rtb (h := cond_t g19 (cond_f g21 (fin_inl (rng_ret (body := F1) (k := k22) (s := ()) (show k22 < 3 from by omega) (cond_f g64 (rfl)) hF24) rfl)))
   ·have g27 : (decide (((k22 : Nat) : Int) < 3)) = false := decide_eq_false (by omega)
    refine CM_condF rfl g27 ?_
    refine CM_exit (QM_then_exit (QM_then_exit ?_))
    have hE66 : R2 (3 - 0) 0 () = Sum.inr () := rng_end hl26 hF24
    refine QM_block_hit (QM_then (sr (wa (nt' (CM_ret ?_)))))
    exact rtb (h := cond_t g19 (cond_f g21 (fin_inr hE66 (rfl))))
  ·have g21 : (((x0.Fields.length : Nat) : Int) != 3) = true := bne_iff_ne.2 h20
   refine CM_condT rfl g21 ?_
   refine sr (wa (nt' (CM_ret (QM_then_ret ?_))))
   exact rtb (h := cond_t g19 (cond_t g21 (rfl)))
 ·
  refine ws (nf g19) ?_
  refine ws (nf g19) ?_
  refine ws (nf g19) ?_
  refine ws (nf g19) ?_
  refine wv (vpT (nf g19)) ?_
  refine nt' ?_
  refine CM_condT rfl rfl ?_
  refine sr (wa (nt' (CM_ret (QM_then_ret ?_))))
  exact rtb (h := cond_f g19 (rfl))

def spec_IsRow_b1 (x0 : DRow) (k9 : Nat) : Bool ⊕ (Unit) :=
 cond (spec_l1In_m (gt x0.Values k9) 0 99) (Sum.inr ()) (Sum.inl false)
def spec_IsRow_m (x0 : DRow) : Bool :=
 Sum.elim id (fun (s : Unit) => cond (spec_l1In_m x0.Id 0 999) (((x0.Values.length : Nat) : Int) == 3) false) (rng (R := Bool) (fun k (_ : Unit) => spec_IsRow_b1 x0 k) (x0.Values.length - 0) 0 ())
theorem cb76 : Cb Tryd.prog 76 := ⟨f76, _, func76, rfl, by decide⟩
theorem spec_IsRow_c (w : World) (z0 : List Value) (x0 : DRow) (r_0 : tyRow.rd w w.heap.size z0 x0) :
  Calls Tryd.prog 76 #[.agg z0.toArray] w fun e w' => e = .returned (.bool (spec_IsRow_m x0)) ∧ Below w.heap.size w w' := by
 obtain ⟨v1, rfl, r2⟩ := tyRow_rd r_0
 obtain ⟨m3, A4, c5, rfl, q6, r7⟩ := rdS_op r2
 refine ce1 (L := [(0, .agg #[.int .i64 x0.Id, .slice A4 x0.Values.length c5])]) (N := 27) func76 ?_
 refine sr ?_
 refine WM_box rfl (Wd_none rfl) (by decide) (fun p8 => ?_)
 refine wa (nt' (CM_seq (sr (wa (nt' (CM_block ?_))))))
 let F1 := fun k (_ : Unit) => spec_IsRow_b1 x0 k
 let R2 := rng (R := Bool) F1
 let I3 : It := iBox p8 43 [.int .i64 x0.Id, .slice A4 x0.Values.length c5]
 refine CM_loop (σ := Nat × (Unit) × (Unit)) (fun s => [(1, .pointer (some (⟨p8, 0, none⟩ : Addr))), (3, .int .i64 ((s.1 : Nat) : Int))]) (fun s => [I3]) (fun s => s.1 ≤ x0.Values.length ∧ R2 (x0.Values.length - s.1) s.1 s.2.1 = R2 (x0.Values.length - 0) 0 ()) (fun s => x0.Values.length - s.1) (0, (), ()) sl2 (fun W hm => hm) ⟨(by omega), rfl⟩ ?_
 rintro ⟨k9, ⟨⟩, ⟨⟩⟩ H12
 obtain ⟨hk10, hF11⟩ : k9 ≤ x0.Values.length ∧ R2 (x0.Values.length - k9) k9 () = R2 (x0.Values.length - 0) 0 () := H12
 show CM Tryd.prog 27 _ _ _ _ [(1, .pointer (some (⟨p8, 0, none⟩ : Addr))), (3, .int .i64 ((k9 : Nat) : Int))] [I3]
 refine CM_seq (sr (wm ?_))
 refine wv (vf underlying43 rfl type28) ?_
 refine wv (vl 0 1 underlying28) ?_
 refine wv (vlen underlying28) ?_
 refine wv vlss ?_
 refine nt' ?_
 by_cases hl13 : k9 < x0.Values.length
 ·have g14 := dlT hl13
  refine CM_condT rfl g14 ?_
  refine CM_skip (QM_then (CM_seq (CM_block (sr ?_))))
  refine wv (vf underlying43 rfl type28) ?_
  refine wv (vl 0 1 underlying28) ?_
  refine wm ?_
  obtain ⟨a15, rfl, hb16, he17⟩ := q6 (by omega)
  refine wv (vix 1 k9 underlying28 type3) ?_
  refine wv (fun W hm => rv_load underlying3 rfl rfl ((hm.cell0 (show (a15.add (k9 * 1)).block < w.heap.size from by rw [add_block]; exact hb16.1)).trans (rdS_int he17 k9 (by omega)))) ?_
  refine wcv (cl_fn cb48 rfl) (fun W hm => spec_l1In_c W (gt x0.Values k9) 0 99) ?_
  refine wv vnot ?_
  refine nt' ?_
  rcases Bool.eq_false_or_eq_true (spec_l1In_m (gt x0.Values k9) 0 99) with g19 | g19
  ·
   have hw := spec_l1In_fact g19
   refine CM_condF rfl (nt g19) ?_
   refine CM_skip (QM_block_normal (QM_then (CM_region (wm ?_))))
   refine wv (vadN k9 1 (by omega)) ?_
   refine wa (WM_nil ?_)
   have hn20 := rng_next (R := Bool) (body := F1) (k := k9) (s := ()) (s' := ()) (show k9 < x0.Values.length from by omega) (cond_t g19 (rfl)) hF11
   exact QM_round (k9 + 1, (), ()) sl2 (fun W hm => hm) ⟨(by omega), hn20⟩ (rl (by omega))
  ·
   refine CM_condT rfl (nf g19) ?_
   refine sr (wa (nt' (CM_ret (QM_block_ret (QM_then_ret (QM_then_ret (QM_block_ret (QM_then_ret ?_))))))))
   exact rtb (h := fin_inl (rng_ret (body := F1) (k := k9) (s := ()) (show k9 < x0.Values.length from by omega) (cond_f g19 (rfl)) hF11) rfl)
 ·have g14 := dlF hl13
  refine CM_condF rfl g14 ?_
  refine CM_exit (QM_then_exit (QM_then_exit ?_))
  have hE21 : R2 (x0.Values.length - 0) 0 () = Sum.inr () := rng_end hl13 hF11
  refine QM_block_hit (QM_then (sr ?_))
  refine wv (vf underlying43 rfl type3) ?_
  refine wv (vl 0 0 underlying3) ?_
  refine wcv (cl_fn cb48 rfl) (fun W hm => spec_l1In_c W x0.Id 0 999) ?_
  refine wm ?_
  rcases Bool.eq_false_or_eq_true (spec_l1In_m x0.Id 0 999) with g23 | g23
  ·
   have hw := spec_l1In_fact g23
   refine wg (vf underlying43 rfl type28) g23 ?_
   refine wg (vl 0 1 underlying28) g23 ?_
   refine wg (vlen underlying28) g23 ?_
   refine wg (fun W hm => rv_eql rfl rfl) g23 ?_
   refine wv (vpT g23) ?_
   refine wa (nt' (CM_ret ?_))
   exact rtb (h := fin_inr hE21 (cond_t g23 (rfl)))
  ·
   refine ws g23 ?_
   refine ws g23 ?_
   refine ws g23 ?_
   refine ws g23 ?_
   refine wv (vpF g23) ?_
   refine wa (nt' (CM_ret ?_))
   exact rtb (h := fin_inr hE21 (cond_f g23 (rfl)))

def spec_HasMember_b1 (x0 : (List Int)) (x1 : Int) (k6 : Nat) : Bool ⊕ (Unit) :=
 cond ((gt x0 k6) == x1) (Sum.inl true) (Sum.inr ())
def spec_HasMember_m (x0 : (List Int)) (x1 : Int) : Bool :=
 Sum.elim id (fun (s : Unit) => false) (rng (R := Bool) (fun k (_ : Unit) => spec_HasMember_b1 x0 x1 k) (x0.length - 0) 0 ())
theorem cb69 : Cb Tryd.prog 69 := ⟨f69, _, func69, rfl, by decide⟩
theorem spec_HasMember_c (w : World) (z0 : Value) (x0 : (List Int)) (x1 : Int) (r_0 : rdS tInt w w.heap.size z0 x0) :
  Calls Tryd.prog 69 #[z0, .int .i64 x1] w fun e w' => e = .returned (.bool (spec_HasMember_m x0 x1)) ∧ Below w.heap.size w w' := by
 obtain ⟨m1, A2, c3, rfl, q4, r5⟩ := rdS_op r_0
 refine ce2 (L := [(0, .slice A2 x0.length c3), (1, .int .i64 x1)]) (N := 18) func69 ?_
 refine sr (wa (nt' (CM_seq (sr (wa (nt' (CM_block ?_)))))))
 let F1 := fun k (_ : Unit) => spec_HasMember_b1 x0 x1 k
 let R2 := rng (R := Bool) F1
 refine CM_loop (σ := Nat × (Unit) × (Unit)) (fun s => [(0, .slice A2 x0.length c3), (1, .int .i64 x1), (5, .int .i64 ((s.1 : Nat) : Int))]) (fun s => []) (fun s => s.1 ≤ x0.length ∧ R2 (x0.length - s.1) s.1 s.2.1 = R2 (x0.length - 0) 0 ()) (fun s => x0.length - s.1) (0, (), ()) sl3 (fun W hm => hm) ⟨(by omega), rfl⟩ ?_
 rintro ⟨k6, ⟨⟩, ⟨⟩⟩ H9
 obtain ⟨hk7, hF8⟩ : k6 ≤ x0.length ∧ R2 (x0.length - k6) k6 () = R2 (x0.length - 0) 0 () := H9
 show CM Tryd.prog 18 _ _ _ _ [(0, .slice A2 x0.length c3), (1, .int .i64 x1), (5, .int .i64 ((k6 : Nat) : Int))] []
 refine CM_seq (sr (wm (wm ?_)))
 refine wv (vlen underlying28) ?_
 refine wv vlss ?_
 refine nt' ?_
 by_cases hl10 : k6 < x0.length
 ·have g11 := dlT hl10
  refine CM_condT rfl g11 ?_
  refine CM_skip (QM_then (CM_seq (CM_block (sr (wm (wm ?_))))))
  obtain ⟨a12, rfl, hb13, he14⟩ := q4 (by omega)
  refine wv (vix 1 k6 underlying28 type3) ?_
  refine wv (fun W hm => rv_load underlying3 rfl rfl ((hm.cell0 (show (a12.add (k6 * 1)).block < w.heap.size from by rw [add_block]; exact hb13.1)).trans (rdS_int he14 k6 (by omega)))) ?_
  refine wm ?_
  refine wv (fun W hm => rv_eql rfl rfl) ?_
  refine nt' ?_
  by_cases h15 : (gt x0 k6) = x1
  ·have g16 := beq_iff_eq.2 h15
   refine CM_condT rfl g16 ?_
   refine sr (wa (nt' (CM_ret (QM_block_ret (QM_then_ret (QM_then_ret (QM_block_ret (QM_then_ret ?_))))))))
   exact rtb (h := fin_inl (rng_ret (body := F1) (k := k6) (s := ()) (show k6 < x0.length from by omega) (cond_t g16 (rfl)) hF8) rfl)
  ·have g16 := beq_eq_false_iff_ne.2 h15
   refine CM_condF rfl g16 ?_
   refine CM_skip (QM_block_normal (QM_then (CM_region (wm ?_))))
   refine wv (vadN k6 1 (by omega)) ?_
   refine wa (WM_nil ?_)
   have hn17 := rng_next (R := Bool) (body := F1) (k := k6) (s := ()) (s' := ()) (show k6 < x0.length from by omega) (cond_f g16 (rfl)) hF8
   exact QM_round (k6 + 1, (), ()) sl3 (fun W hm => hm) ⟨(by omega), hn17⟩ (rl (by omega))
 ·have g11 := dlF hl10
  refine CM_condF rfl g11 ?_
  refine CM_exit (QM_then_exit (QM_then_exit ?_))
  have hE18 : R2 (x0.length - 0) 0 () = Sum.inr () := rng_end hl10 hF8
  refine QM_block_hit (QM_then (sr (wa (nt' (CM_ret ?_)))))
  exact rtb (h := fin_inr hE18 (rfl))

def spec_l6Order_b1 (x0 : (List Int)) (k8 : Nat) : Bool ⊕ (Unit) :=
 cond (spec_l1In_m (gt x0 k8) 0 2) (cond (spec_HasMember_m (List.take k8 x0) (gt x0 k8)) (Sum.inl false) (Sum.inr ())) (Sum.inl false)
def spec_l6Order_m (x0 : (List Int)) : Bool :=
 cond (((x0.length : Nat) : Int) != 3) false (Sum.elim id (fun (s : Unit) => true) (rng (R := Bool) (fun k (_ : Unit) => spec_l6Order_b1 x0 k) (x0.length - 0) 0 ()))
theorem cb137 : Cb Tryd.prog 137 := ⟨f137, _, func137, rfl, by decide⟩
theorem spec_l6Order_c (w : World) (z0 : Value) (x0 : (List Int)) (r_0 : rdS tInt w w.heap.size z0 x0) :
  Calls Tryd.prog 137 #[z0] w fun e w' => e = .returned (.bool (spec_l6Order_m x0)) ∧ Below w.heap.size w w' := by
 obtain ⟨m1, A2, c3, rfl, q4, r5⟩ := rdS_op r_0
 refine ce1 (L := [(0, .slice A2 x0.length c3)]) (N := 29) func137 ?_
 refine sr (wa (nt' (CM_seq (sr (wm ?_)))))
 refine wv (vlen underlying28) ?_
 refine wv vneq ?_
 refine nt' ?_
 by_cases h6 : ((x0.length : Nat) : Int) = 3
 ·have g7 : (((x0.length : Nat) : Int) != 3) = false := by rw [h6]; exact bne_self_eq_false _
  refine CM_condF rfl g7 ?_
  refine CM_skip (QM_then (CM_seq (sr (wa (nt' (CM_block ?_))))))
  let F1 := fun k (_ : Unit) => spec_l6Order_b1 x0 k
  let R2 := rng (R := Bool) F1
  refine CM_loop (σ := Nat × (Unit) × (Unit)) (fun s => [(0, .slice A2 x0.length c3), (3, .int .i64 ((s.1 : Nat) : Int))]) (fun s => []) (fun s => s.1 ≤ x0.length ∧ R2 (x0.length - s.1) s.1 s.2.1 = R2 (x0.length - 0) 0 ()) (fun s => x0.length - s.1) (0, (), ()) sl2 (fun W hm => hm) ⟨(by omega), rfl⟩ ?_
  rintro ⟨k8, ⟨⟩, ⟨⟩⟩ H11
  obtain ⟨hk9, hF10⟩ : k8 ≤ x0.length ∧ R2 (x0.length - k8) k8 () = R2 (x0.length - 0) 0 () := H11
  show CM Tryd.prog 29 _ _ _ _ [(0, .slice A2 x0.length c3), (3, .int .i64 ((k8 : Nat) : Int))] []
  refine CM_seq (sr (wm (wm ?_)))
  refine wv (vlen underlying28) ?_
  refine wv vlss ?_
  refine nt' ?_
  by_cases hl12 : k8 < x0.length
  ·have g13 := dlT hl12
   refine CM_condT rfl g13 ?_
   refine CM_skip (QM_then (CM_seq (CM_block (CM_seq ?_))))
   refine CM_regionD (by kernel_rfl) (by kernel_rfl) ?_
   refine qm (qm ?_)
   obtain ⟨a14, rfl, hb15, he16⟩ := q4 (by omega)
   refine qv (vix 1 k8 underlying28 type3) ?_
   refine qv (fun W hm => rv_load underlying3 rfl rfl ((hm.cell0 (show (a14.add (k8 * 1)).block < w.heap.size from by rw [add_block]; exact hb15.1)).trans (rdS_int he16 k8 (by omega)))) ?_
   refine QR_callV (cl_fn cb48 rfl) (fun W hm => spec_l1In_c W (gt x0 k8) 0 2) (Wd_none rfl) (by decide) ?_
   refine qv vnot ?_
   refine qm ?_
   rcases Bool.eq_false_or_eq_true (spec_l1In_m (gt x0 k8) 0 2) with g18 | g18
   ·
    have hw := spec_l1In_fact g18
    refine qg vmv (nt g18) ?_
    refine qg vmv (nt g18) ?_
    have hc21 := rdS_cap r5
    have r19 := rdS_take (k := k8) (by omega) r5
    refine qg (fun W hm => rv_sliceHi (k := k8) underlying28 type3 rfl rfl (by omega)) (nt g18) ?_
    refine qg vmv (nt g18) ?_
    refine qg vmv (nt g18) ?_
    refine qg (vix 1 k8 underlying28 type3) (nt g18) ?_
    refine qg (fun W hm => rv_load underlying3 rfl rfl ((hm.cell0 (show (a14.add (k8 * 1)).block < w.heap.size from by rw [add_block]; exact hb15.1)).trans (rdS_int he16 k8 (by omega)))) (nt g18) ?_
    refine QR_callV (cl_fn cb69 rfl) (fun W hm => spec_HasMember_c W _ (List.take k8 x0) (gt x0 k8) (hm.rdS0 r19)) (Wd_some rfl rfl rfl (bw (nt g18) rfl)) (by decide) ?_
    refine qv (vpF (nt g18)) ?_
    refine nq' ?_
    rcases Bool.eq_false_or_eq_true (spec_HasMember_m (List.take k8 x0) (gt x0 k8)) with g23 | g23
    ·
     refine CM_condT rfl g23 ?_
     refine sr (wa (nt' (CM_ret (QM_block_ret (QM_then_ret (QM_then_ret (QM_block_ret (QM_then_ret ?_))))))))
     exact rtb (h := cond_f g7 (fin_inl (rng_ret (body := F1) (k := k8) (s := ()) (show k8 < x0.length from by omega) (cond_t g18 (cond_t g23 (rfl))) hF10) rfl))
    ·
     refine CM_condF rfl g23 ?_
     refine CM_skip (QM_block_normal (QM_then (CM_region (wm ?_))))
     refine wv (vadN k8 1 (by omega)) ?_
     refine wa (WM_nil ?_)
     have hn24 := rng_next (R := Bool) (body := F1) (k := k8) (s := ()) (s' := ()) (show k8 < x0.length from by omega) (cond_t g18 (cond_f g23 (rfl))) hF10
     exact QM_round (k8 + 1, (), ()) sl2 (fun W hm => hm) ⟨(by omega), hn24⟩ (rl (by omega))
   ·
    refine qs (nf g18) ?_
    refine qs (nf g18) ?_
    refine qs (nf g18) ?_
    refine qs (nf g18) ?_
    refine qs (nf g18) ?_
    refine qs (nf g18) ?_
    refine qs (nf g18) ?_
    refine qs (nf g18) ?_
    refine qv (vpT (nf g18)) ?_
    refine nq' ?_
    refine CM_condT rfl rfl ?_
    refine sr (wa (nt' (CM_ret (QM_block_ret (QM_then_ret (QM_then_ret (QM_block_ret (QM_then_ret ?_))))))))
    exact rtb (h := cond_f g7 (fin_inl (rng_ret (body := F1) (k := k8) (s := ()) (show k8 < x0.length from by omega) (cond_f g18 (rfl)) hF10) rfl))
  ·have g13 := dlF hl12
   refine CM_condF rfl g13 ?_
   refine CM_exit (QM_then_exit (QM_then_exit ?_))
   have hE25 : R2 (x0.length - 0) 0 () = Sum.inr () := rng_end hl12 hF10
   refine QM_block_hit (QM_then (sr (wa (nt' (CM_ret ?_)))))
   exact rtb (h := cond_f g7 (fin_inr hE25 (rfl)))
 ·have g7 : (((x0.length : Nat) : Int) != 3) = true := bne_iff_ne.2 h6
  refine CM_condT rfl g7 ?_
  refine sr (wa (nt' (CM_ret (QM_then_ret ?_))))
  exact rtb (h := cond_t g7 (rfl))

def spec_l6All_b1 (x0 : (List DQuery)) (k9 : Nat) (d10 : (List Int)) : (List Int) ⊕ ((List Int)) :=
 Sum.inr (d10 ++ [(gt x0 k9).Id])
def spec_l6All_m (x0 : (List DQuery)) : (List Int) :=
 Sum.elim id (fun (s : (List Int)) => s) (rng (R := (List Int)) (fun k (s : (List Int)) => spec_l6All_b1 x0 k s) (x0.length - 0) 0 [])
theorem cb142 : Cb Tryd.prog 142 := ⟨f142, _, func142, rfl, by decide⟩
theorem spec_l6All_c (w : World) (z0 : Value) (x0 : (List DQuery)) (r_0 : rdS tyQuery w w.heap.size z0 x0) (s_0 : (x0.length ≤ 68719476736 ∧ ∀ y ∈ x0, smQuery 68719476736 y)) :
  Calls Tryd.prog 142 #[z0] w fun e w' => ∃ v : Value, e = .returned (v) ∧ Mem w.heap.size w [iOwn (tSl tInt 3) [v] (spec_l6All_m x0)] w' := by
 obtain ⟨m1, A2, c3, rfl, q4, r5⟩ := rdS_op r_0
 have l6 : x0.length ≤ 68719476736 := s_0.1
 refine ce1 (L := [(0, .slice A2 x0.length c3)]) (N := 21) func142 ?_
 refine sr (wa (nt' (sr ?_)))
 refine WM_build0 (E := tInt) underlying28 type3 (Wd_none rfl) (by decide) (fun p7 => ?_)
 refine wa (nt' (CM_seq (sr (wa (nt' (CM_block ?_))))))
 let F1 := fun k (s : (List Int)) => spec_l6All_b1 x0 k s
 let R2 := rng (R := (List Int)) F1
 refine CM_loop (σ := Nat × ((List Int)) × (Option Addr × Nat)) (fun s => [(0, .slice A2 x0.length c3), (3, .slice s.2.2.1 s.2.1.length s.2.2.2), (4, .int .i64 ((s.1 : Nat) : Int))]) (fun s => [iOwn (tSl tInt 3) [.slice s.2.2.1 s.2.1.length s.2.2.2] s.2.1]) (fun s => s.1 ≤ x0.length ∧ R2 (x0.length - s.1) s.1 s.2.1 = R2 (x0.length - 0) 0 [] ∧ s.2.1.length ≤ 0 + s.1) (fun s => x0.length - s.1) (0, [], ((some ⟨p7, 0, none⟩), 0)) sl3 (fun W hm => hm) ⟨(by omega), rfl, Nat.le_refl _⟩ ?_
 rintro ⟨k9, d10, ⟨A11, c12⟩⟩ H15
 obtain ⟨hk13, hF14, hi16⟩ : k9 ≤ x0.length ∧ R2 (x0.length - k9) k9 d10 = R2 (x0.length - 0) 0 [] ∧ d10.length ≤ 0 + k9 := H15
 show CM Tryd.prog 21 _ _ _ _ [(0, .slice A2 x0.length c3), (3, .slice A11 d10.length c12), (4, .int .i64 ((k9 : Nat) : Int))] [iOwn (tSl tInt 3) [.slice A11 d10.length c12] d10]
 refine CM_seq (sr (wm (wm ?_)))
 refine wv (vlen underlying123) ?_
 refine wv vlss ?_
 refine nt' ?_
 by_cases hl17 : k9 < x0.length
 ·have g18 := dlT hl17
  refine CM_condT rfl g18 ?_
  refine CM_skip (QM_then (CM_seq (CM_block (CM_region (wm (wm (wm ?_)))))))
  obtain ⟨a19, rfl, hb20, he21⟩ := q4 (by omega)
  refine wv (vix 4 k9 underlying123 type150) ?_
  refine wv (vf underlying150 rfl type3) ?_
  obtain ⟨_, e27, hc22⟩ := he21 k9 _ (gt_some (show k9 < x0.length from by omega))
  obtain ⟨v23, v25, rfl, r24, r26⟩ := tyQuery_rd e27
  have l28 : ((gt x0 k9).Conds).length ≤ 68719476736 := (s_0.2 _ (gt_mem (show k9 < x0.length from by omega))).1
  have l29 : ((gt x0 k9).Out).length ≤ 68719476736 := (s_0.2 _ (gt_mem (show k9 < x0.length from by omega))).2
  obtain ⟨m30, A31, c32, rfl, q33, r34⟩ := rdS_op r24
  obtain ⟨m35, A36, c37, rfl, q38, r39⟩ := rdS_op r26
  refine wv (fun W hm => rv_load underlying3 rfl rfl ((hm.cell0 (show ((a19.add (k9 * 4)).add 0).block < w.heap.size from by rw [add_block, add_block]; exact hb20.1)).trans (hc22 0 _ rfl))) ?_
  refine WM_build (cs := [.int .i64 ((gt x0 k9).Id)]) underlying28 type3 rfl (by decide) (by decide) rfl (by kernel_rfl) (Wd_none rfl) (by decide) (fun p40 => ?_)
  refine ap1 tInt 3 (.slice A11 d10.length c12) d10 ((gt x0 k9).Id) [] [] [.int .i64 ((gt x0 k9).Id)] (fun W hm => hm) (fun _ _ hs => by cases (Sep.nil hs); exact (els_cons tInt_own els_nil)) underlying28 type3 (show (d10.length + 1) * 8 ≤ 140737488355328 from by omega) (fun v41 => ?_)
  refine WM_form (n := 0) rfl ?_
  rintro A42 c43 rfl m44
  refine wa (WM_nil (QM_block_normal (QM_then (CM_region (wm ?_)))))
  refine wv (vadN k9 1 (by omega)) ?_
  refine wa (WM_nil ?_)
  have hn46 := rng_next (R := (List Int)) (body := F1) (k := k9) (s := d10) (s' := (d10 ++ [(gt x0 k9).Id])) (show k9 < x0.length from by omega) (rfl) hF14
  exact QM_round (k9 + 1, (d10 ++ [(gt x0 k9).Id]), (A42, c43)) sl3 (fun W hm => hm) ⟨(by omega), hn46, (show (d10 ++ [(gt x0 k9).Id]).length ≤ 0 + (k9 + 1) from by first | omega | (simp only [List.length_append, List.length_cons, List.length_nil] at *; omega))⟩ (rl (by omega))
 ·have g18 := dlF hl17
  refine CM_condF rfl g18 ?_
  refine CM_exit (QM_then_exit (QM_then_exit ?_))
  have hE47 : R2 (x0.length - 0) 0 [] = Sum.inr d10 := rng_end hl17 hF14
  refine QM_block_hit (QM_then (sr (wm (wa (nt' (CM_ret ?_))))))
  have he48 := (show spec_l6All_m x0 = d10 from fin_inr hE47 (rfl))
  refine QM_r1 rfl (RR_tmp rfl) (fun W hm => ⟨.slice A11 d10.length c12, ?_, ?_⟩)
  ·first | rw [he48] | rfl
  ·rw [he48]; exact hm

def spec_FindSpan_b1 (x0 : (List DSpan)) (x1 : Int) (k7 : Nat) : (List Int) ⊕ (Unit) :=
 cond (spec_l1In_m x1 ((gt x0 k7).From) ((gt x0 k7).To)) (Sum.inl ((gt x0 k7).Set)) (Sum.inr ())
def spec_FindSpan_m (x0 : (List DSpan)) (x1 : Int) : (List Int) :=
 Sum.elim id (fun (s : Unit) => []) (rng (R := (List Int)) (fun k (_ : Unit) => spec_FindSpan_b1 x0 x1 k) (x0.length - 0) 0 ())
theorem cb143 : Cb Tryd.prog 143 := ⟨f143, _, func143, rfl, by decide⟩
theorem spec_FindSpan_c (w : World) (z0 : Value) (x0 : (List DSpan)) (x1 : Int) (r_0 : rdS tySpan w w.heap.size z0 x0) (s_0 : (x0.length ≤ 68719476736 ∧ ∀ y ∈ x0, smSpan 68719476736 y)) :
  Calls Tryd.prog 143 #[z0, .int .i64 x1] w fun e w' => ∃ v : Value, e = .returned (v) ∧ Mem w.heap.size w [iOwn (tSl tInt 3) [v] (spec_FindSpan_m x0 x1)] w' := by
 obtain ⟨m1, A2, c3, rfl, q4, r5⟩ := rdS_op r_0
 have l6 : x0.length ≤ 68719476736 := s_0.1
 refine ce2 (L := [(0, .slice A2 x0.length c3), (1, .int .i64 x1)]) (N := 32) func143 ?_
 refine sr (wa (nt' (CM_seq (sr (wa (nt' (CM_block ?_)))))))
 let F1 := fun k (_ : Unit) => spec_FindSpan_b1 x0 x1 k
 let R2 := rng (R := (List Int)) F1
 refine CM_loop (σ := Nat × (Unit) × (Unit)) (fun s => [(0, .slice A2 x0.length c3), (1, .int .i64 x1), (5, .int .i64 ((s.1 : Nat) : Int))]) (fun s => []) (fun s => s.1 ≤ x0.length ∧ R2 (x0.length - s.1) s.1 s.2.1 = R2 (x0.length - 0) 0 ()) (fun s => x0.length - s.1) (0, (), ()) sl3 (fun W hm => hm) ⟨(by omega), rfl⟩ ?_
 rintro ⟨k7, ⟨⟩, ⟨⟩⟩ H10
 obtain ⟨hk8, hF9⟩ : k7 ≤ x0.length ∧ R2 (x0.length - k7) k7 () = R2 (x0.length - 0) 0 () := H10
 show CM Tryd.prog 32 _ _ _ _ [(0, .slice A2 x0.length c3), (1, .int .i64 x1), (5, .int .i64 ((k7 : Nat) : Int))] []
 refine CM_seq (sr (wm (wm ?_)))
 refine wv (vlen underlying156) ?_
 refine wv vlss ?_
 refine nt' ?_
 by_cases hl11 : k7 < x0.length
 ·have g12 := dlT hl11
  refine CM_condT rfl g12 ?_
  refine CM_skip (QM_then (CM_seq (CM_block (CM_seq ?_))))
  refine CM_regionD (by kernel_rfl) (by kernel_rfl) ?_
  refine qm (qm (qm ?_))
  obtain ⟨a13, rfl, hb14, he15⟩ := q4 (by omega)
  refine qv (vix 3 k7 underlying156 type173) ?_
  refine qv (vf underlying173 rfl type3) ?_
  obtain ⟨_, e19, hc16⟩ := he15 k7 _ (gt_some (show k7 < x0.length from by omega))
  obtain ⟨v17, rfl, r18⟩ := tySpan_rd e19
  have l20 : ((gt x0 k7).Set).length ≤ 68719476736 := (s_0.2 _ (gt_mem (show k7 < x0.length from by omega)))
  obtain ⟨m21, A22, c23, rfl, q24, r25⟩ := rdS_op r18
  refine qv (fun W hm => rv_load underlying3 rfl rfl ((hm.cell0 (show ((a13.add (k7 * 3)).add 0).block < w.heap.size from by rw [add_block, add_block]; exact hb14.1)).trans (hc16 0 _ rfl))) ?_
  refine qm (qm ?_)
  refine qv (vix 3 k7 underlying156 type173) ?_
  refine qv (vf underlying173 rfl type3) ?_
  refine qv (fun W hm => rv_load underlying3 rfl rfl ((hm.cell0 (show ((a13.add (k7 * 3)).add 1).block < w.heap.size from by rw [add_block, add_block]; exact hb14.1)).trans (hc16 1 _ rfl))) ?_
  refine QR_callV (cl_fn cb48 rfl) (fun W hm => spec_l1In_c W x1 ((gt x0 k7).From) ((gt x0 k7).To)) (Wd_none rfl) (by decide) ?_
  refine nq' ?_
  rcases Bool.eq_false_or_eq_true (spec_l1In_m x1 ((gt x0 k7).From) ((gt x0 k7).To)) with g27 | g27
  ·
   have hw := spec_l1In_fact g27
   refine CM_condT rfl g27 ?_
   refine sr ?_
   refine WM_build0 (E := tInt) underlying28 type3 (Wd_none rfl) (by decide) (fun p28 => ?_)
   refine wm (wm ?_)
   refine wv (vix 3 k7 underlying156 type173) ?_
   refine wv (vf underlying173 rfl type28) ?_
   refine wv (fun W hm => rv_load underlying28 rfl rfl ((hm.cell0 (show ((a13.add (k7 * 3)).add 2).block < w.heap.size from by rw [add_block, add_block]; exact hb14.1)).trans (hc16 2 _ rfl))) ?_
   refine apR tInt tInt 3 (.slice (some ⟨p28, 0, none⟩) 0 0) [] ((gt x0 k7).Set) [] (fun W hm => hm) (fun W hm => src_flat flat_int (hm.rdS0 r25)) underlying28 type3 (show (0 + ((gt x0 k7).Set).length) * 8 ≤ 140737488355328 from by omega) (fun v30 => ?_)
   refine WM_form (n := 0) rfl ?_
   rintro A31 c32 rfl m33
   refine wa (nt' (CM_ret (QM_block_ret (QM_then_ret (QM_then_ret (QM_block_ret (QM_then_ret ?_)))))))
   have he35 := (show spec_FindSpan_m x0 x1 = (gt x0 k7).Set from fin_inl (rng_ret (body := F1) (k := k7) (s := ()) (show k7 < x0.length from by omega) (cond_t g27 (rfl)) hF9) rfl)
   refine QM_r1 rfl (RR_tmp rfl) (fun W hm => ⟨.slice A31 ((gt x0 k7).Set).length c32, ?_, ?_⟩)
   ·first | rw [he35] | rfl
   ·rw [he35]; exact hm
  ·
   refine CM_condF rfl g27 ?_
   refine CM_skip (QM_block_normal (QM_then (CM_region (wm ?_))))
   refine wv (vadN k7 1 (by omega)) ?_
   refine wa (WM_nil ?_)
   have hn36 := rng_next (R := (List Int)) (body := F1) (k := k7) (s := ()) (s' := ()) (show k7 < x0.length from by omega) (cond_f g27 (rfl)) hF9
   exact QM_round (k7 + 1, (), ()) sl3 (fun W hm => hm) ⟨(by omega), hn36⟩ (rl (by omega))
 ·have g12 := dlF hl11
  refine CM_condF rfl g12 ?_
  refine CM_exit (QM_then_exit (QM_then_exit ?_))
  have hE37 : R2 (x0.length - 0) 0 () = Sum.inr () := rng_end hl11 hF9
  refine QM_block_hit (QM_then (sr ?_))
  refine WM_build0 (E := tInt) underlying28 type3 (Wd_none rfl) (by decide) (fun p38 => ?_)
  refine wa (nt' (CM_ret ?_))
  have he40 := (show spec_FindSpan_m x0 x1 = [] from fin_inr hE37 (rfl))
  refine QM_r1 rfl (RR_tmp rfl) (fun W hm => ⟨.slice (some ⟨p38, 0, none⟩) 0 0, ?_, ?_⟩)
  ·first | rw [he40] | rfl
  ·rw [he40]; exact hm

def spec_IsSet_b1 (x0 : (List Int)) (k6 : Nat) : Bool ⊕ (Unit) :=
 cond (spec_l1In_m (gt x0 k6) 0 23) (cond (decide (0 < ((k6 : Nat) : Int))) (cond (decide ((gt x0 k6) ≤ (gt x0 (k6 - 1)))) (Sum.inl false) (Sum.inr ())) (Sum.inr ())) (Sum.inl false)
def spec_IsSet_m (x0 : (List Int)) : Bool :=
 Sum.elim id (fun (s : Unit) => true) (rng (R := Bool) (fun k (_ : Unit) => spec_IsSet_b1 x0 k) (x0.length - 0) 0 ())
theorem cb44 : Cb Tryd.prog 44 := ⟨f44, _, func44, rfl, by decide⟩
theorem spec_IsSet_c (w : World) (z0 : Value) (x0 : (List Int)) (r_0 : rdS tInt w w.heap.size z0 x0) :
  Calls Tryd.prog 44 #[z0] w fun e w' => e = .returned (.bool (spec_IsSet_m x0)) ∧ Below w.heap.size w w' := by
 obtain ⟨m1, A2, c3, rfl, q4, r5⟩ := rdS_op r_0
 refine ce1 (L := [(0, .slice A2 x0.length c3)]) (N := 32) func44 ?_
 refine sr (wa (nt' (CM_seq (sr (wa (nt' (CM_block ?_)))))))
 let F1 := fun k (_ : Unit) => spec_IsSet_b1 x0 k
 let R2 := rng (R := Bool) F1
 refine CM_loop (σ := Nat × (Unit) × (Unit)) (fun s => [(0, .slice A2 x0.length c3), (3, .int .i64 ((s.1 : Nat) : Int))]) (fun s => []) (fun s => s.1 ≤ x0.length ∧ R2 (x0.length - s.1) s.1 s.2.1 = R2 (x0.length - 0) 0 ()) (fun s => x0.length - s.1) (0, (), ()) sl2 (fun W hm => hm) ⟨(by omega), rfl⟩ ?_
 rintro ⟨k6, ⟨⟩, ⟨⟩⟩ H9
 obtain ⟨hk7, hF8⟩ : k6 ≤ x0.length ∧ R2 (x0.length - k6) k6 () = R2 (x0.length - 0) 0 () := H9
 show CM Tryd.prog 32 _ _ _ _ [(0, .slice A2 x0.length c3), (3, .int .i64 ((k6 : Nat) : Int))] []
 refine CM_seq (sr (wm (wm ?_)))
 refine wv (vlen underlying28) ?_
 refine wv vlss ?_
 refine nt' ?_
 by_cases hl10 : k6 < x0.length
 ·have g11 := dlT hl10
  refine CM_condT rfl g11 ?_
  refine CM_skip (QM_then (CM_seq (CM_block (CM_seq ?_))))
  refine CM_regionD (by kernel_rfl) (by kernel_rfl) ?_
  refine qm (qm ?_)
  obtain ⟨a12, rfl, hb13, he14⟩ := q4 (by omega)
  refine qv (vix 1 k6 underlying28 type3) ?_
  refine qv (fun W hm => rv_load underlying3 rfl rfl ((hm.cell0 (show (a12.add (k6 * 1)).block < w.heap.size from by rw [add_block]; exact hb13.1)).trans (rdS_int he14 k6 (by omega)))) ?_
  refine QR_callV (cl_fn cb48 rfl) (fun W hm => spec_l1In_c W (gt x0 k6) 0 23) (Wd_none rfl) (by decide) ?_
  refine qv vnot ?_
  refine qm ?_
  rcases Bool.eq_false_or_eq_true (spec_l1In_m (gt x0 k6) 0 23) with g16 | g16
  ·
   have hw := spec_l1In_fact g16
   refine qg vmv (nt g16) ?_
   refine qg (fun W hm => rv_gtr rfl rfl) (nt g16) ?_
   refine qg vmv (nt g16) ?_
   by_cases h17 : 0 < ((k6 : Nat) : Int)
   ·have g18 := decide_eq_true h17
    refine qg vmv g18 ?_
    refine qg vmv g18 ?_
    refine qg (vix 1 k6 underlying28 type3) g18 ?_
    refine qg (fun W hm => rv_load underlying3 rfl rfl ((hm.cell0 (show (a12.add (k6 * 1)).block < w.heap.size from by rw [add_block]; exact hb13.1)).trans (rdS_int he14 k6 (by omega)))) g18 ?_
    refine qg vmv g18 ?_
    refine qg vmv g18 ?_
    refine qg (fun W hm => rv_subN (p := k6) (q := 1) rfl rfl (by omega) (by omega)) g18 ?_
    refine qg (fun W hm => rv_index (sz := 1) (k := k6 - 1) underlying28 type3 rfl rfl rfl (by omega)) g18 ?_
    refine qg (fun W hm => rv_load underlying3 rfl rfl ((hm.cell0 (show (a12.add ((k6 - 1) * 1)).block < w.heap.size from by rw [add_block]; exact hb13.1)).trans (rdS_int he14 (k6 - 1) (by omega)))) g18 ?_
    refine qg (fun W hm => rv_leq rfl rfl) g18 ?_
    refine qg (vpT g18) (nt g16) ?_
    refine qv (vpF (nt g16)) ?_
    refine nq' ?_
    by_cases h19 : (gt x0 k6) ≤ (gt x0 (k6 - 1))
    ·have g20 := decide_eq_true h19
     refine CM_condT rfl g20 ?_
     refine sr (wa (nt' (CM_ret (QM_block_ret (QM_then_ret (QM_then_ret (QM_block_ret (QM_then_ret ?_))))))))
     exact rtb (h := fin_inl (rng_ret (body := F1) (k := k6) (s := ()) (show k6 < x0.length from by omega) (cond_t g16 (cond_t g18 (cond_t g20 (rfl)))) hF8) rfl)
    ·have g20 := decide_eq_false h19
     refine CM_condF rfl g20 ?_
     refine CM_skip (QM_block_normal (QM_then (CM_region (wm ?_))))
     refine wv (vadN k6 1 (by omega)) ?_
     refine wa (WM_nil ?_)
     have hn21 := rng_next (R := Bool) (body := F1) (k := k6) (s := ()) (s' := ()) (show k6 < x0.length from by omega) (cond_t g16 (cond_t g18 (cond_f g20 (rfl)))) hF8
     exact QM_round (k6 + 1, (), ()) sl2 (fun W hm => hm) ⟨(by omega), hn21⟩ (rl (by omega))
   ·have g18 := decide_eq_false h17
    refine qs g18 ?_
    refine qs g18 ?_
    refine qs g18 ?_
    refine qs g18 ?_
    refine qs g18 ?_
    refine qs g18 ?_
    refine qs g18 ?_
    refine qs g18 ?_
    refine qs g18 ?_
    refine qs g18 ?_
    refine qg (vpF g18) (nt g16) ?_
    refine qv (vpF (nt g16)) ?_
    refine nq' ?_
    refine CM_condF rfl rfl ?_
    refine CM_skip (QM_block_normal (QM_then (CM_region (wm ?_))))
    refine wv (vadN k6 1 (by omega)) ?_
    refine wa (WM_nil ?_)
    have hn22 := rng_next (R := Bool) (body := F1) (k := k6) (s := ()) (s' := ()) (show k6 < x0.length from by omega) (cond_t g16 (cond_f g18 (rfl))) hF8
    exact QM_round (k6 + 1, (), ()) sl2 (fun W hm => hm) ⟨(by omega), hn22⟩ (rl (by omega))
  ·
   refine qs (nf g16) ?_
   refine qs (nf g16) ?_
   refine qs (nf g16) ?_
   refine qu ?_
   refine qu ?_
   refine qu ?_
   refine qu ?_
   refine qu ?_
   refine qu ?_
   refine qu ?_
   refine qu ?_
   refine qu ?_
   refine qu ?_
   refine qs (nf g16) ?_
   refine qv (vpT (nf g16)) ?_
   refine nq' ?_
   refine CM_condT rfl rfl ?_
   refine sr (wa (nt' (CM_ret (QM_block_ret (QM_then_ret (QM_then_ret (QM_block_ret (QM_then_ret ?_))))))))
   exact rtb (h := fin_inl (rng_ret (body := F1) (k := k6) (s := ()) (show k6 < x0.length from by omega) (cond_f g16 (rfl)) hF8) rfl)
 ·have g11 := dlF hl10
  refine CM_condF rfl g11 ?_
  refine CM_exit (QM_then_exit (QM_then_exit ?_))
  have hE23 : R2 (x0.length - 0) 0 () = Sum.inr () := rng_end hl10 hF8
  refine QM_block_hit (QM_then (sr (wa (nt' (CM_ret ?_)))))
  exact rtb (h := fin_inr hE23 (rfl))

def spec_MeetSets_b1 (x0 : (List Int)) (x1 : (List Int)) (k15 : Nat) (d16 : (List Int)) : (List Int) ⊕ (((List Int)) ⊕ ((List Int))) :=
 cond (spec_IsSet_m x0) (cond (spec_IsSet_m x1) (cond (spec_HasMember_m x1 (gt x0 k15)) (Sum.inr (Sum.inr (d16 ++ [(gt x0 k15)]))) (Sum.inr (Sum.inr d16))) (Sum.inr (Sum.inl d16))) (Sum.inr (Sum.inl d16))
def spec_MeetSets_m (x0 : (List Int)) (x1 : (List Int)) : (List Int) :=
 Sum.elim id (fun (s : (List Int)) => s) (rngb (R := (List Int)) (fun k (s : (List Int)) => spec_MeetSets_b1 x0 x1 k s) (x0.length - 0) 0 [])
theorem cb144 : Cb Tryd.prog 144 := ⟨f144, _, func144, rfl, by decide⟩
theorem spec_MeetSets_c (w : World) (z0 : Value) (x0 : (List Int)) (z1 : Value) (x1 : (List Int)) (r_0 : rdS tInt w w.heap.size z0 x0) (r_1 : rdS tInt w w.heap.size z1 x1) (s_0 : x0.length ≤ 68719476736) (s_1 : x1.length ≤ 68719476736) :
  Calls Tryd.prog 144 #[z0, z1] w fun e w' => ∃ v : Value, e = .returned (v) ∧ Mem w.heap.size w [iOwn (tSl tInt 3) [v] (spec_MeetSets_m x0 x1)] w' := by
 obtain ⟨m1, A2, c3, rfl, q4, r5⟩ := rdS_op r_0
 obtain ⟨m6, A7, c8, rfl, q9, r10⟩ := rdS_op r_1
 have l11 : x0.length ≤ 68719476736 := s_0
 have l12 : x1.length ≤ 68719476736 := s_1
 refine ce2 (L := [(0, .slice A2 x0.length c3), (1, .slice A7 x1.length c8)]) (N := 36) func144 ?_
 refine sr (wa (nt' (sr ?_)))
 refine WM_build0 (E := tInt) underlying28 type3 (Wd_none rfl) (by decide) (fun p13 => ?_)
 refine wa (nt' (CM_seq (sr (wa (nt' ?_)))))
 let F1 := fun k (s : (List Int)) => spec_MeetSets_b1 x0 x1 k s
 let R2 := rngb (R := (List Int)) F1
 refine CM_cut (σ := ((List Int)) × (Option Addr × Nat)) (fun s => [(5, .slice s.2.1 s.1.length s.2.2)]) (fun s => [iOwn (tSl tInt 3) [.slice s.2.1 s.1.length s.2.2] s.1]) (fun s => R2 (x0.length - 0) 0 [] = Sum.inr s.1) ?_ ?_
 ·
  refine CM_block ?_
  refine CM_loop (σ := Nat × ((List Int)) × (Option Addr × Nat)) (fun s => [(0, .slice A2 x0.length c3), (1, .slice A7 x1.length c8), (5, .slice s.2.2.1 s.2.1.length s.2.2.2), (6, .int .i64 ((s.1 : Nat) : Int))]) (fun s => [iOwn (tSl tInt 3) [.slice s.2.2.1 s.2.1.length s.2.2.2] s.2.1]) (fun s => s.1 ≤ x0.length ∧ R2 (x0.length - s.1) s.1 s.2.1 = R2 (x0.length - 0) 0 [] ∧ s.2.1.length ≤ 0 + s.1) (fun s => x0.length - s.1) (0, [], ((some ⟨p13, 0, none⟩), 0)) sl4 (fun W hm => hm) ⟨(by omega), rfl, Nat.le_refl _⟩ ?_
  rintro ⟨k15, d16, ⟨A17, c18⟩⟩ H21
  obtain ⟨hk19, hF20, hi22⟩ : k15 ≤ x0.length ∧ R2 (x0.length - k15) k15 d16 = R2 (x0.length - 0) 0 [] ∧ d16.length ≤ 0 + k15 := H21
  show CM Tryd.prog 36 _ _ _ _ [(0, .slice A2 x0.length c3), (1, .slice A7 x1.length c8), (5, .slice A17 d16.length c18), (6, .int .i64 ((k15 : Nat) : Int))] [iOwn (tSl tInt 3) [.slice A17 d16.length c18] d16]
  refine CM_seq (sr (wm (wm ?_)))
  refine wv (vlen underlying28) ?_
  refine wv vlss ?_
  refine wm ?_
  by_cases hl23 : k15 < x0.length
  ·have g24 := dlT hl23
   refine wg vmv g24 ?_
   refine WM_callV (cl_fn cb44 rfl) (fun W hm => spec_IsSet_c W _ x0 (hm.rdS0 r5)) (Wd_some rfl rfl rfl (bw g24 rfl)) (by decide) ?_
   refine wv (vpT g24) ?_
   refine wm ?_
   rcases Bool.eq_false_or_eq_true (spec_IsSet_m x0) with g26 | g26
   ·
    refine wg vmv g26 ?_
    refine WM_callV (cl_fn cb44 rfl) (fun W hm => spec_IsSet_c W _ x1 (hm.rdS0 r10)) (Wd_some rfl rfl rfl (bw g26 rfl)) (by decide) ?_
    refine wv (vpT g26) ?_
    refine nt' ?_
    rcases Bool.eq_false_or_eq_true (spec_IsSet_m x1) with g28 | g28
    ·
     refine CM_condT rfl g28 ?_
     refine CM_skip (QM_then (CM_seq (CM_block (sr (wm (wm (wm ?_)))))))
     obtain ⟨a29, rfl, hb30, he31⟩ := q4 (by omega)
     refine wv (vix 1 k15 underlying28 type3) ?_
     refine wv (fun W hm => rv_load underlying3 rfl rfl ((hm.cell0 (show (a29.add (k15 * 1)).block < w.heap.size from by rw [add_block]; exact hb30.1)).trans (rdS_int he31 k15 (by omega)))) ?_
     refine wcv (cl_fn cb69 rfl) (fun W hm => spec_HasMember_c W _ x1 (gt x0 k15) (hm.rdS0 r10)) ?_
     refine nt' ?_
     rcases Bool.eq_false_or_eq_true (spec_HasMember_m x1 (gt x0 k15)) with g33 | g33
     ·
      refine CM_condT rfl g33 ?_
      refine CM_region (wm (wm (wm ?_)))
      refine wv (vix 1 k15 underlying28 type3) ?_
      refine wv (fun W hm => rv_load underlying3 rfl rfl ((hm.cell0 (show (a29.add (k15 * 1)).block < w.heap.size from by rw [add_block]; exact hb30.1)).trans (rdS_int he31 k15 (by omega)))) ?_
      refine WM_build (cs := [.int .i64 (gt x0 k15)]) underlying28 type3 rfl (by decide) (by decide) rfl (by kernel_rfl) (Wd_none rfl) (by decide) (fun p34 => ?_)
      refine ap1 tInt 3 (.slice A17 d16.length c18) d16 (gt x0 k15) [] [] [.int .i64 (gt x0 k15)] (fun W hm => hm) (fun _ _ hs => by cases (Sep.nil hs); exact (els_cons tInt_own els_nil)) underlying28 type3 (show (d16.length + 1) * 8 ≤ 140737488355328 from by omega) (fun v35 => ?_)
      refine WM_form (n := 0) rfl ?_
      rintro A36 c37 rfl m38
      refine wa (WM_nil (QM_block_normal (QM_then (CM_region (wm ?_)))))
      refine wv (vadN k15 1 (by omega)) ?_
      refine wa (WM_nil ?_)
      have hn40 := rngb_next (R := (List Int)) (body := F1) (k := k15) (s := d16) (s' := (d16 ++ [(gt x0 k15)])) (show k15 < x0.length from by omega) (cond_t g26 (cond_t g28 (cond_t g33 (rfl)))) hF20
      exact QM_round (k15 + 1, (d16 ++ [(gt x0 k15)]), (A36, c37)) sl4 (fun W hm => hm) ⟨(by omega), hn40, (show (d16 ++ [(gt x0 k15)]).length ≤ 0 + (k15 + 1) from by first | omega | (simp only [List.length_append, List.length_cons, List.length_nil] at *; omega))⟩ (rl (by omega))
     ·
      refine CM_condF rfl g33 ?_
      refine CM_skip (QM_block_normal (QM_then (CM_region (wm ?_))))
      refine wv (vadN k15 1 (by omega)) ?_
      refine wa (WM_nil ?_)
      have hn41 := rngb_next (R := (List Int)) (body := F1) (k := k15) (s := d16) (s' := d16) (show k15 < x0.length from by omega) (cond_t g26 (cond_t g28 (cond_f g33 (rfl)))) hF20
      exact QM_round (k15 + 1, d16, (A17, c18)) sl4 (fun W hm => hm) ⟨(by omega), hn41, (show d16.length ≤ 0 + (k15 + 1) from by first | omega | (simp only [List.length_append, List.length_cons, List.length_nil] at *; omega))⟩ (rl (by omega))
    ·
     refine CM_condF rfl g28 ?_
     refine CM_exit (QM_then_exit (QM_then_exit (QM_block_hit ?_)))
     have hE42 := rngb_brk (R := (List Int)) (body := F1) (k := k15) (s := d16) (s' := d16) (show k15 < x0.length from by omega) (cond_t g26 (cond_f g28 (rfl))) hF20
     exact QM_cut_normal (d16, (A17, c18)) (subL_cons rfl subL_nil) (fun W hm => hm) hE42
   ·
    refine ws g26 ?_
    refine ws g26 ?_
    refine wv (vpF g26) ?_
    refine nt' ?_
    refine CM_condF rfl rfl ?_
    refine CM_exit (QM_then_exit (QM_then_exit (QM_block_hit ?_)))
    have hE43 := rngb_brk (R := (List Int)) (body := F1) (k := k15) (s := d16) (s' := d16) (show k15 < x0.length from by omega) (cond_f g26 (rfl)) hF20
    exact QM_cut_normal (d16, (A17, c18)) (subL_cons rfl subL_nil) (fun W hm => hm) hE43
  ·have g24 := dlF hl23
   refine ws g24 ?_
   refine ws g24 ?_
   refine wv (vpF g24) ?_
   refine wm ?_
   refine wk ?_
   refine wk ?_
   refine wv (vpF rfl) ?_
   refine nt' ?_
   refine CM_condF rfl rfl ?_
   refine CM_exit (QM_then_exit (QM_then_exit (QM_block_hit ?_)))
   have hE44 : R2 (x0.length - 0) 0 [] = Sum.inr d16 := rngb_end hl23 hF20
   exact QM_cut_normal (d16, (A17, c18)) (subL_cons rfl subL_nil) (fun W hm => hm) hE44
 ·
  rintro ⟨d16, ⟨A17, c18⟩⟩ H46
  have hE45 : R2 (x0.length - 0) 0 [] = Sum.inr d16 := H46
  show QM 36 _ _ _ .normal [(5, .slice A17 d16.length c18)] [iOwn (tSl tInt 3) [.slice A17 d16.length c18] d16]
  refine QM_then (sr (wm (wa (nt' (CM_ret ?_)))))
  have he47 := (show spec_MeetSets_m x0 x1 = d16 from fin_inr hE45 (rfl))
  refine QM_r1 rfl (RR_tmp rfl) (fun W hm => ⟨.slice A17 d16.length c18, ?_, ?_⟩)
  ·first | rw [he47] | rfl
  ·rw [he47]; exact hm

end Go.Proofs.YtcjelfdpekbbkaaDoor
