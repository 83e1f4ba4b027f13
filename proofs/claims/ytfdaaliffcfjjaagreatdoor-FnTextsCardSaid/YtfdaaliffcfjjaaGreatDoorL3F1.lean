/-
  Contracts of functions, printed by a program of ours.
-/
import Derived.Test.YtfdaaliffcfjjaaGreatDoorDat
namespace Go.Proofs.YtfdaaliffcfjjaaGreatDoor
open Go.RowKit
set_option maxRecDepth 100000
set_option maxHeartbeats 4000000
open _root_.Go.Proofs.Tryz
def laws_big_m (x0 : (List Int)) : Bool :=
 (decide (1048576 < ((x0.length : Nat) : Int)))
theorem cb4 : Cb Tryz.prog 4 := ⟨f4, _, func4, rfl, by decide⟩
theorem laws_big_c (w : World) (z0 : Value) (x0 : (List Int)) (r_0 : rdS tU8 w w.heap.size z0 x0) :
  Calls Tryz.prog 4 #[z0] w fun e w' => e = .returned (.bool (laws_big_m x0)) ∧ Below w.heap.size w w' := by
 obtain ⟨m1, A2, c3, rfl, q4, r5⟩ := rdS_op r_0
 refine ce1 (L := [(0, .slice A2 x0.length c3)]) (N := 6) func4 ?_
 refine sr (wa (nt' (sr (wm ?_))))
 refine wv (vlen underlying22) ?_
 refine wv (fun W hm => rv_gtr rfl rfl) ?_
 refine wa (nt' (CM_ret ?_))
 exact rtb (h := rfl)

def spec_l1New_b1 (x0 : (List Int)) (k7 : Nat) (s8 : Int) : Dl1Cur ⊕ ((Int) ⊕ (Int)) :=
 cond (decide (((k7 : Nat) : Int) < 4000)) (Sum.inr (Sum.inr (bits .and .i64 (IntKind.i64.wrap ((IntKind.i64.wrap ((IntKind.i64.wrap (s8 * 131)) + (IntKind.i64.wrap (gt x0 k7)))) + 7)) 1073741823))) (Sum.inr (Sum.inl s8))
def spec_l1New_m (x0 : (List Int)) : Dl1Cur :=
 Sum.elim id (fun (s : Int) => (⟨0, s⟩ : Dl1Cur)) (rngb (R := Dl1Cur) (fun k (s : Int) => spec_l1New_b1 x0 k s) (x0.length - 0) 0 ((10101 + x0.length : Nat) : Int))
theorem cb24 : Cb Tryz.prog 24 := ⟨f24, _, func24, rfl, by decide⟩
theorem spec_l1New_c (w : World) (z0 : Value) (x0 : (List Int)) (r_0 : rdS tU8 w w.heap.size z0 x0) (s_0 : x0.length ≤ 68719476736) :
  Calls Tryz.prog 24 #[z0] w fun e w' => ∃ p : Nat, e = .returned (.pointer (some ⟨p, 0, none⟩)) ∧ Mem w.heap.size w [iBox p 73 [z0, .int .i64 (((spec_l1New_m x0).i : Nat) : Int), .int .i64 (spec_l1New_m x0).h]] w' := by
 obtain ⟨m1, A2, c3, rfl, q4, r5⟩ := rdS_op r_0
 have l6 : x0.length ≤ 68719476736 := s_0
 refine ce1 (L := [(0, .slice A2 x0.length c3)]) (N := 32) func24 ?_
 refine sr (wa (nt' (sr (wm ?_))))
 refine wv (vlen underlying22) ?_
 refine wv (vadN 10101 x0.length (by omega)) ?_
 refine wa (nt' (CM_seq (sr (wa (nt' ?_)))))
 let F1 := fun k (s : Int) => spec_l1New_b1 x0 k s
 let R2 := rngb (R := Dl1Cur) F1
 refine CM_cut (σ := (Int) × (Unit)) (fun s => [(0, .slice A2 x0.length c3), (3, .int .i64 s.1)]) (fun s => []) (fun s => R2 (x0.length - 0) 0 ((10101 + x0.length : Nat) : Int) = Sum.inr s.1) ?_ ?_
 ·
  refine CM_block ?_
  refine CM_loop (σ := Nat × (Int) × (Unit)) (fun s => [(0, .slice A2 x0.length c3), (3, .int .i64 s.2.1), (4, .int .i64 ((s.1 : Nat) : Int))]) (fun s => []) (fun s => s.1 ≤ x0.length ∧ R2 (x0.length - s.1) s.1 s.2.1 = R2 (x0.length - 0) 0 ((10101 + x0.length : Nat) : Int)) (fun s => x0.length - s.1) (0, ((10101 + x0.length : Nat) : Int), ()) sl3 (fun W hm => hm) ⟨(by omega), rfl⟩ ?_
  rintro ⟨k7, s8, ⟨⟩⟩ H11
  obtain ⟨hk9, hF10⟩ : k7 ≤ x0.length ∧ R2 (x0.length - k7) k7 s8 = R2 (x0.length - 0) 0 ((10101 + x0.length : Nat) : Int) := H11
  show CM Tryz.prog 32 _ _ _ _ [(0, .slice A2 x0.length c3), (3, .int .i64 s8), (4, .int .i64 ((k7 : Nat) : Int))] []
  refine CM_seq (sr (wm (wm ?_)))
  refine wv (vlen underlying22) ?_
  refine wv vlss ?_
  refine wm ?_
  by_cases hl12 : k7 < x0.length
  ·have g13 := dlT hl12
   refine wg vmv g13 ?_
   refine wg vlss g13 ?_
   refine wv (vpT g13) ?_
   refine nt' ?_
   by_cases h14 : ((k7 : Nat) : Int) < 4000
   ·have g15 := decide_eq_true h14
    refine CM_condT rfl g15 ?_
    refine CM_skip (QM_then (CM_seq (CM_block (CM_region (wm ?_)))))
    refine wv (fun W hm => rv_mul rfl rfl) ?_
    refine wm (wm ?_)
    obtain ⟨a16, rfl, hb17, he18⟩ := q4 (by omega)
    refine wv (vix 1 k7 underlying22 type5) ?_
    refine wv (fun W hm => rv_load underlying5 rfl rfl ((hm.cell0 (show (a16.add (k7 * 1)).block < w.heap.size from by rw [add_block]; exact hb17.1)).trans (rdS_u8 he18 k7 (by omega)))) ?_
    refine wv (fun W hm => rv_conv8 underlying5 underlying3 rfl) ?_
    refine wv vadd ?_
    refine wv vadd ?_
    refine wv (fun W hm => rv_and rfl rfl) ?_
    refine wa (WM_nil (QM_block_normal (QM_then (CM_region (wm ?_)))))
    refine wv (vadN k7 1 (by omega)) ?_
    refine wa (WM_nil ?_)
    have hn19 := rngb_next (R := Dl1Cur) (body := F1) (k := k7) (s := s8) (s' := (bits .and .i64 (IntKind.i64.wrap ((IntKind.i64.wrap ((IntKind.i64.wrap (s8 * 131)) + (IntKind.i64.wrap (gt x0 k7)))) + 7)) 1073741823)) (show k7 < x0.length from by omega) (cond_t g15 (rfl)) hF10
    exact QM_round (k7 + 1, (bits .and .i64 (IntKind.i64.wrap ((IntKind.i64.wrap ((IntKind.i64.wrap (s8 * 131)) + (IntKind.i64.wrap (gt x0 k7)))) + 7)) 1073741823), ()) sl3 (fun W hm => hm) ⟨(by omega), hn19⟩ (rl (by omega))
   ·have g15 := decide_eq_false h14
    refine CM_condF rfl g15 ?_
    refine CM_exit (QM_then_exit (QM_then_exit (QM_block_hit ?_)))
    have hE20 := rngb_brk (R := Dl1Cur) (body := F1) (k := k7) (s := s8) (s' := s8) (show k7 < x0.length from by omega) (cond_f g15 (rfl)) hF10
    exact QM_cut_normal (s8, ()) sl2 (fun W hm => hm) hE20
  ·have g13 := dlF hl12
   refine ws g13 ?_
   refine ws g13 ?_
   refine wv (vpF g13) ?_
   refine nt' ?_
   refine CM_condF rfl rfl ?_
   refine CM_exit (QM_then_exit (QM_then_exit (QM_block_hit ?_)))
   have hE21 : R2 (x0.length - 0) 0 ((10101 + x0.length : Nat) : Int) = Sum.inr s8 := rngb_end hl12 hF10
   exact QM_cut_normal (s8, ()) sl2 (fun W hm => hm) hE21
 ·
  rintro ⟨s8, ⟨⟩⟩ H23
  have hE22 : R2 (x0.length - 0) 0 ((10101 + x0.length : Nat) : Int) = Sum.inr s8 := H23
  show QM 32 _ _ _ .normal [(0, .slice A2 x0.length c3), (3, .int .i64 s8)] []
  refine QM_then (sr (wm (wm ?_)))
  refine wv (fun W hm => rv_build (cs := [.slice A2 x0.length c3, .int .i64 0, .int .i64 s8]) rfl (by kernel_rfl)) ?_
  refine WM_box rfl (Wd_none rfl) (by decide) (fun p24 => ?_)
  refine wa (nt' (CM_ret ?_))
  refine QM_r1 rfl (RR_tmp rfl) (fun W hm => ⟨p24, rfl, ?_⟩)
  rw [(show spec_l1New_m x0 = (⟨0, s8⟩ : Dl1Cur) from fin_inr hE22 (rfl))]
  exact hm

def spec_l1Byte_m (x0b : List Int) (x0 : Dl1Cur) : (Int × Dl1Cur) :=
 cond (decide (((x0.i : Nat) : Int) < ((x0b.length : Nat) : Int))) ((bits .and .i64 (IntKind.i64.wrap ((bits .and .i64 (bits .xor .i64 ((IntKind.i64.wrap ((IntKind.i64.wrap (x0.h * 6364136223846793005)) + 1442695040888963407)) / 2 ^ (33 : Int).toNat) ((IntKind.i64.wrap ((IntKind.i64.wrap (x0.h * 6364136223846793005)) + 1442695040888963407)) / 2 ^ (45 : Int).toNat)) 255) + (IntKind.i64.wrap (gt x0b (x0.i))))) 255), (⟨x0.i + 1, (IntKind.i64.wrap ((IntKind.i64.wrap (x0.h * 6364136223846793005)) + 1442695040888963407))⟩ : Dl1Cur)) ((bits .and .i64 (bits .xor .i64 ((IntKind.i64.wrap ((IntKind.i64.wrap (x0.h * 6364136223846793005)) + 1442695040888963407)) / 2 ^ (33 : Int).toNat) ((IntKind.i64.wrap ((IntKind.i64.wrap (x0.h * 6364136223846793005)) + 1442695040888963407)) / 2 ^ (45 : Int).toNat)) 255), (⟨x0.i, (IntKind.i64.wrap ((IntKind.i64.wrap (x0.h * 6364136223846793005)) + 1442695040888963407))⟩ : Dl1Cur))
theorem cb70 : Cb Tryz.prog 70 := ⟨f70, _, func70, rfl, by decide⟩
theorem spec_l1Byte_c (B : Nat) (w0 : World) (is : List It) (w : World) (p : Nat) (z0 : Value) (x0b : List Int) (x0 : Dl1Cur) (r_0 : rdS tU8 w0 B z0 x0b) (s_0 : x0b.length ≤ 68719476736) (hm : Mem B w0 (iBox p 73 [z0, .int .i64 ((x0.i : Nat) : Int), .int .i64 x0.h] :: is) w) :
  Calls Tryz.prog 70 #[.pointer (some ⟨p, 0, none⟩)] w fun e w' => ∃ x : Unit, e = .returned (.int .i64 ((spec_l1Byte_m x0b x0).1)) ∧ Mem B w0 (iBox p 73 [z0, .int .i64 ((((spec_l1Byte_m x0b x0).2).i : Nat) : Int), .int .i64 ((spec_l1Byte_m x0b x0).2).h] :: is) w' := by
 obtain ⟨m1, A2, c3, rfl, q4, r5⟩ := rdS_op r_0
 refine call_enterW (L := [(0, .pointer (some ⟨p, 0, none⟩))]) (N := 58) func70 rfl rfl (Nat.le_of_ble_eq_true rfl) (argsL_cons rfl argsL_nil) hm ?_
 have l6 : x0b.length ≤ 68719476736 := s_0
 refine sr (wa (nt' (sr (wm (wm ?_)))))
 refine wv (fun W hm => rv_nilCheck rfl) ?_
 refine wv (vf underlying73 rfl type3) ?_
 refine wv (vl 0 2 underlying3) ?_
 refine wv (fun W hm => rv_mul rfl rfl) ?_
 refine wv vadd ?_
 refine wv (fun W hm => rv_nilCheck rfl) ?_
 refine wv (vf underlying73 rfl type3) ?_
 refine WM_storeBox (p := p) (o := 2) (cs' := [.slice A2 x0b.length c3, .int .i64 ((x0.i : Nat) : Int), .int .i64 (IntKind.i64.wrap ((IntKind.i64.wrap (x0.h * 6364136223846793005)) + 1442695040888963407))]) (fun w hm => hm.front (n := 0) rfl) type3 rfl (Nat.le_of_ble_eq_true rfl) rfl rfl rfl rfl (Wd_none rfl) ?_
 refine nt' (CM_seq ?_)
 refine CM_regionD (by kernel_rfl) (by kernel_rfl) ?_
 refine qm ?_
 refine qv (fun W hm => rv_nilCheck rfl) ?_
 refine qv (vf underlying73 rfl type3) ?_
 refine qv (vl 0 2 underlying3) ?_
 refine qv (fun W hm => rv_shr (by decide) (by decide) rfl rfl) ?_
 refine qm ?_
 refine qv (fun W hm => rv_nilCheck rfl) ?_
 refine qv (vf underlying73 rfl type3) ?_
 refine qv (vl 0 2 underlying3) ?_
 refine qv (fun W hm => rv_shr (by decide) (by decide) rfl rfl) ?_
 refine qv (fun W hm => rv_xor rfl rfl) ?_
 refine qv (fun W hm => rv_and rfl rfl) ?_
 refine qv (fun W hm => rv_assign rfl) ?_
 refine nq' (CM_seq (CM_seq ?_))
 refine CM_regionD (by kernel_rfl) (by kernel_rfl) ?_
 refine qm ?_
 refine qv (fun W hm => rv_nilCheck rfl) ?_
 refine qv (vf underlying73 rfl type3) ?_
 refine qv (vl 0 1 underlying3) ?_
 refine qm ?_
 refine qv (fun W hm => rv_nilCheck rfl) ?_
 refine qv (vf underlying73 rfl type22) ?_
 refine qv (vl 0 0 underlying22) ?_
 refine qv (vlen underlying22) ?_
 refine qv vlss ?_
 refine nq' ?_
 by_cases h7 : ((x0.i : Nat) : Int) < ((x0b.length : Nat) : Int)
 ·have g8 := decide_eq_true h7
  refine CM_condT rfl g8 ?_
  refine CM_seq ?_
  refine CM_regionD (by kernel_rfl) (by kernel_rfl) ?_
  refine qm (qm ?_)
  refine qv (fun W hm => rv_nilCheck rfl) ?_
  refine qv (vf underlying73 rfl type22) ?_
  refine qv (vl 0 0 underlying22) ?_
  refine qm ?_
  refine qv (fun W hm => rv_nilCheck rfl) ?_
  refine qv (vf underlying73 rfl type3) ?_
  refine qv (vl 0 1 underlying3) ?_
  obtain ⟨a9, rfl, hb10, he11⟩ := q4 (by omega)
  refine qv (vix 1 x0.i underlying22 type5) ?_
  refine qv (fun W hm => rv_load underlying5 rfl rfl ((hm.cell0 (show (a9.add ((x0.i) * 1)).block < B from by rw [add_block]; exact hb10.1)).trans (rdS_u8 he11 (x0.i) (by omega)))) ?_
  refine qv (fun W hm => rv_conv8 underlying5 underlying3 rfl) ?_
  refine qv vadd ?_
  refine qv (fun W hm => rv_and rfl rfl) ?_
  refine qv (fun W hm => rv_assign rfl) ?_
  refine nq' (CM_region (wm (wm ?_)))
  refine wv (fun W hm => rv_nilCheck rfl) ?_
  refine wv (vf underlying73 rfl type3) ?_
  refine wv (vl 0 1 underlying3) ?_
  refine wv (vadN x0.i 1 (by omega)) ?_
  refine wv (fun W hm => rv_nilCheck rfl) ?_
  refine wv (vf underlying73 rfl type3) ?_
  refine WM_storeBox (p := p) (o := 1) (cs' := [.slice (some a9) x0b.length c3, .int .i64 ((x0.i + 1 : Nat) : Int), .int .i64 (IntKind.i64.wrap ((IntKind.i64.wrap (x0.h * 6364136223846793005)) + 1442695040888963407))]) (fun w hm => hm.front (n := 0) rfl) type3 rfl (Nat.le_of_ble_eq_true rfl) rfl rfl rfl rfl (Wd_none rfl) ?_
  refine nt' (sr (wm (wa (nt' (CM_ret ?_)))))
  have he12 := (show spec_l1Byte_m x0b x0 = ((bits .and .i64 (IntKind.i64.wrap ((bits .and .i64 (bits .xor .i64 ((IntKind.i64.wrap ((IntKind.i64.wrap (x0.h * 6364136223846793005)) + 1442695040888963407)) / 2 ^ (33 : Int).toNat) ((IntKind.i64.wrap ((IntKind.i64.wrap (x0.h * 6364136223846793005)) + 1442695040888963407)) / 2 ^ (45 : Int).toNat)) 255) + (IntKind.i64.wrap (gt x0b (x0.i))))) 255), (⟨x0.i + 1, (IntKind.i64.wrap ((IntKind.i64.wrap (x0.h * 6364136223846793005)) + 1442695040888963407))⟩ : Dl1Cur)) from cond_t g8 (rfl))
  refine QM_r1 rfl (RR_tmp rfl) (fun W hm => ⟨(), ?_, ?_⟩)
  ·first | rw [he12] | rfl
  ·rw [he12]; exact hm
 ·have g8 := decide_eq_false h7
  refine CM_condF rfl g8 ?_
  refine CM_skip (QM_then (sr (wm (wa (nt' (CM_ret ?_))))))
  have he13 := (show spec_l1Byte_m x0b x0 = ((bits .and .i64 (bits .xor .i64 ((IntKind.i64.wrap ((IntKind.i64.wrap (x0.h * 6364136223846793005)) + 1442695040888963407)) / 2 ^ (33 : Int).toNat) ((IntKind.i64.wrap ((IntKind.i64.wrap (x0.h * 6364136223846793005)) + 1442695040888963407)) / 2 ^ (45 : Int).toNat)) 255), (⟨x0.i, (IntKind.i64.wrap ((IntKind.i64.wrap (x0.h * 6364136223846793005)) + 1442695040888963407))⟩ : Dl1Cur)) from cond_f g8 (rfl))
  refine QM_r1 rfl (RR_tmp rfl) (fun W hm => ⟨(), ?_, ?_⟩)
  ·first | rw [he13] | rfl
  ·rw [he13]; exact hm

def spec_l1Below_m (x0b : List Int) (x0 : Dl1Cur) (x1 : Int) : (Int × Dl1Cur) :=
 cond (decide (x1 ≤ 0)) (0, x0) (cond (decide (x1 ≤ 256)) ((Int.tmod ((spec_l1Byte_m x0b x0).1) x1), ((spec_l1Byte_m x0b x0).2)) ((Int.tmod (IntKind.i64.wrap ((IntKind.i64.wrap ((IntKind.i64.wrap ((IntKind.i64.wrap (((spec_l1Byte_m x0b x0).1) * 16777216)) + (IntKind.i64.wrap ((spec_l1Byte_m x0b ((spec_l1Byte_m x0b x0).2)).1 * 65536)))) + (IntKind.i64.wrap (((spec_l1Byte_m x0b (spec_l1Byte_m x0b ((spec_l1Byte_m x0b x0).2)).2).1) * 256)))) + (spec_l1Byte_m x0b ((spec_l1Byte_m x0b (spec_l1Byte_m x0b ((spec_l1Byte_m x0b x0).2)).2).2)).1)) x1), (spec_l1Byte_m x0b ((spec_l1Byte_m x0b (spec_l1Byte_m x0b ((spec_l1Byte_m x0b x0).2)).2).2)).2))
theorem cb51 : Cb Tryz.prog 51 := ⟨f51, _, func51, rfl, by decide⟩
theorem spec_l1Below_c (B : Nat) (w0 : World) (is : List It) (w : World) (p : Nat) (z0 : Value) (x0b : List Int) (x0 : Dl1Cur) (r_0 : rdS tU8 w0 B z0 x0b) (x1 : Int) (s_0 : x0b.length ≤ 68719476736) (hm : Mem B w0 (iBox p 73 [z0, .int .i64 ((x0.i : Nat) : Int), .int .i64 x0.h] :: is) w) :
  Calls Tryz.prog 51 #[.pointer (some ⟨p, 0, none⟩), .int .i64 x1] w fun e w' => ∃ x : Unit, e = .returned (.int .i64 ((spec_l1Below_m x0b x0 x1).1)) ∧ Mem B w0 (iBox p 73 [z0, .int .i64 ((((spec_l1Below_m x0b x0 x1).2).i : Nat) : Int), .int .i64 ((spec_l1Below_m x0b x0 x1).2).h] :: is) w' := by
 obtain ⟨m1, A2, c3, rfl, q4, r5⟩ := rdS_op r_0
 refine call_enterW (L := [(0, .pointer (some ⟨p, 0, none⟩)), (1, .int .i64 x1)]) (N := 37) func51 rfl rfl (Nat.le_of_ble_eq_true rfl) (argsL_cons rfl (argsL_cons rfl argsL_nil)) hm ?_
 have l6 : x0b.length ≤ 68719476736 := s_0
 refine sr (wa (nt' (CM_seq (sr (wm ?_)))))
 refine wv (fun W hm => rv_leq rfl rfl) ?_
 refine nt' ?_
 by_cases h7 : x1 ≤ 0
 ·have g8 := decide_eq_true h7
  refine CM_condT rfl g8 ?_
  refine sr (wa (nt' (CM_ret (QM_then_ret ?_))))
  have he9 := (show spec_l1Below_m x0b x0 x1 = (0, x0) from cond_t g8 (rfl))
  refine QM_r1 rfl (RR_tmp rfl) (fun W hm => ⟨(), ?_, ?_⟩)
  ·first | rw [he9] | rfl
  ·rw [he9]; exact hm
 ·have g8 := decide_eq_false h7
  refine CM_condF rfl g8 ?_
  refine CM_skip (QM_then (CM_seq (sr (wm ?_))))
  refine wv (fun W hm => rv_leq rfl rfl) ?_
  refine nt' ?_
  by_cases h10 : x1 ≤ 256
  ·have g11 := decide_eq_true h10
   refine CM_condT rfl g11 ?_
   refine sr (wm ?_)
   refine WM_callW (χ := Unit) (val := fun x => .int .i64 ((spec_l1Byte_m x0b x0).1)) (js := fun x => (iBox p 73 [.slice A2 x0b.length c3, .int .i64 ((((spec_l1Byte_m x0b x0).2).i : Nat) : Int), .int .i64 ((spec_l1Byte_m x0b x0).2).h] :: (is))) (cl_fn cb70 rfl) (fun W hm => spec_l1Byte_c B w0 (is) W p _ x0b x0 r5 s_0 (hm.front (n := 0) rfl)) (Wd_none rfl) (by decide) (fun z12 => ?_)
   refine wm ?_
   refine wv (fun W hm => rv_rem rfl rfl (by omega)) ?_
   refine wa (nt' (CM_ret (QM_then_ret ?_)))
   have he13 := (show spec_l1Below_m x0b x0 x1 = ((Int.tmod ((spec_l1Byte_m x0b x0).1) x1), ((spec_l1Byte_m x0b x0).2)) from cond_f g8 (cond_t g11 (rfl)))
   refine QM_r1 rfl (RR_tmp rfl) (fun W hm => ⟨(), ?_, ?_⟩)
   ·first | rw [he13] | rfl
   ·rw [he13]; exact hm
  ·have g11 := decide_eq_false h10
   refine CM_condF rfl g11 ?_
   refine CM_skip (QM_then (sr (wm ?_)))
   refine WM_callW (χ := Unit) (val := fun x => .int .i64 ((spec_l1Byte_m x0b x0).1)) (js := fun x => (iBox p 73 [.slice A2 x0b.length c3, .int .i64 ((((spec_l1Byte_m x0b x0).2).i : Nat) : Int), .int .i64 ((spec_l1Byte_m x0b x0).2).h] :: (is))) (cl_fn cb70 rfl) (fun W hm => spec_l1Byte_c B w0 (is) W p _ x0b x0 r5 s_0 (hm.front (n := 0) rfl)) (Wd_none rfl) (by decide) (fun z14 => ?_)
   refine wa (nt' (sr (wm ?_)))
   refine WM_callW (χ := Unit) (val := fun x => .int .i64 ((spec_l1Byte_m x0b ((spec_l1Byte_m x0b x0).2)).1)) (js := fun x => (iBox p 73 [.slice A2 x0b.length c3, .int .i64 ((((spec_l1Byte_m x0b ((spec_l1Byte_m x0b x0).2)).2).i : Nat) : Int), .int .i64 ((spec_l1Byte_m x0b ((spec_l1Byte_m x0b x0).2)).2).h] :: (is))) (cl_fn cb70 rfl) (fun W hm => spec_l1Byte_c B w0 (is) W p _ x0b ((spec_l1Byte_m x0b x0).2) r5 s_0 (hm.front (n := 0) rfl)) (Wd_none rfl) (by decide) (fun z15 => ?_)
   obtain ⟨G16, hG16⟩ : ∃ G, G = (spec_l1Byte_m x0b ((spec_l1Byte_m x0b x0).2)) := ⟨_, rfl⟩
   rw [← hG16]
   refine wa (nt' (sr (wm ?_)))
   refine WM_callW (χ := Unit) (val := fun x => .int .i64 ((spec_l1Byte_m x0b G16.2).1)) (js := fun x => (iBox p 73 [.slice A2 x0b.length c3, .int .i64 ((((spec_l1Byte_m x0b G16.2).2).i : Nat) : Int), .int .i64 ((spec_l1Byte_m x0b G16.2).2).h] :: (is))) (cl_fn cb70 rfl) (fun W hm => spec_l1Byte_c B w0 (is) W p _ x0b G16.2 r5 s_0 (hm.front (n := 0) rfl)) (Wd_none rfl) (by decide) (fun z17 => ?_)
   refine wa (nt' (sr (wm ?_)))
   refine WM_callW (χ := Unit) (val := fun x => .int .i64 ((spec_l1Byte_m x0b ((spec_l1Byte_m x0b G16.2).2)).1)) (js := fun x => (iBox p 73 [.slice A2 x0b.length c3, .int .i64 ((((spec_l1Byte_m x0b ((spec_l1Byte_m x0b G16.2).2)).2).i : Nat) : Int), .int .i64 ((spec_l1Byte_m x0b ((spec_l1Byte_m x0b G16.2).2)).2).h] :: (is))) (cl_fn cb70 rfl) (fun W hm => spec_l1Byte_c B w0 (is) W p _ x0b ((spec_l1Byte_m x0b G16.2).2) r5 s_0 (hm.front (n := 0) rfl)) (Wd_none rfl) (by decide) (fun z18 => ?_)
   obtain ⟨G19, hG19⟩ : ∃ G, G = (spec_l1Byte_m x0b ((spec_l1Byte_m x0b G16.2).2)) := ⟨_, rfl⟩
   rw [← hG19]
   refine wa (nt' (sr (wm ?_)))
   refine wv (fun W hm => rv_mul rfl rfl) ?_
   refine wm ?_
   refine wv (fun W hm => rv_mul rfl rfl) ?_
   refine wv vadd ?_
   refine wm ?_
   refine wv (fun W hm => rv_mul rfl rfl) ?_
   refine wv vadd ?_
   refine wm ?_
   refine wv vadd ?_
   refine wm ?_
   refine wv (fun W hm => rv_rem rfl rfl (by omega)) ?_
   refine wa (nt' (CM_ret ?_))
   have he20 := (show spec_l1Below_m x0b x0 x1 = ((Int.tmod (IntKind.i64.wrap ((IntKind.i64.wrap ((IntKind.i64.wrap ((IntKind.i64.wrap (((spec_l1Byte_m x0b x0).1) * 16777216)) + (IntKind.i64.wrap (G16.1 * 65536)))) + (IntKind.i64.wrap (((spec_l1Byte_m x0b G16.2).1) * 256)))) + G19.1)) x1), G19.2) from by subst hG16 hG19; exact cond_f g8 (cond_f g11 (rfl)))
   refine QM_r1 rfl (RR_tmp rfl) (fun W hm => ⟨(), ?_, ?_⟩)
   ·first | rw [he20] | rfl
   ·rw [he20]; exact hm

theorem spec_l1Byte_rng (b : List Int) (D : Dl1Cur) : 0 ≤ (spec_l1Byte_m b D).1 ∧ (spec_l1Byte_m b D).1 ≤ 255 := by
  unfold spec_l1Byte_m
  cases decide (((D.i : Nat) : Int) < ((b.length : Nat) : Int))
  · exact and255 _
  · exact and255 _
theorem spec_l1Below_rng (b : List Int) (D : Dl1Cur) (n : Int) : 0 ≤ (spec_l1Below_m b D n).1 ∧ (0 < n → (spec_l1Below_m b D n).1 < n) ∧ (n ≤ 0 → (spec_l1Below_m b D n).1 = 0) := by
  unfold spec_l1Below_m
  by_cases h : n ≤ 0
  · rw [decide_eq_true h]
    exact ⟨Int.le_refl _, fun h2 => absurd h (by omega), fun _ => rfl⟩
  rw [decide_eq_false h, cond_false]
  by_cases h2 : n ≤ 256
  · rw [decide_eq_true h2, cond_true]
    have h3 := spec_l1Byte_rng b D
    exact ⟨Int.tmod_nonneg _ h3.1, fun _ => Int.tmod_lt_of_pos _ (by omega), fun h4 => absurd h4 h⟩
  · rw [decide_eq_false h2, cond_false]
    have h3 := spec_l1Byte_rng b D
    have h4 := spec_l1Byte_rng b (spec_l1Byte_m b D).2
    have h5 := spec_l1Byte_rng b (spec_l1Byte_m b (spec_l1Byte_m b D).2).2
    have h6 := spec_l1Byte_rng b (spec_l1Byte_m b (spec_l1Byte_m b (spec_l1Byte_m b D).2).2).2
    refine ⟨Int.tmod_nonneg _ ?_, fun _ => Int.tmod_lt_of_pos _ (by omega), fun h4 => absurd h4 h⟩
    rw [wrap_id (n := (spec_l1Byte_m b D).1 * 16777216) (by omega) (by omega), wrap_id (n := (spec_l1Byte_m b (spec_l1Byte_m b D).2).1 * 65536) (by omega) (by omega), wrap_id (n := (spec_l1Byte_m b (spec_l1Byte_m b (spec_l1Byte_m b D).2).2).1 * 256) (by omega) (by omega),
      wrap_id (n := (spec_l1Byte_m b D).1 * 16777216 + (spec_l1Byte_m b (spec_l1Byte_m b D).2).1 * 65536) (by omega) (by omega)]
    rw [wrap_id (n := (spec_l1Byte_m b D).1 * 16777216 + (spec_l1Byte_m b (spec_l1Byte_m b D).2).1 * 65536 + (spec_l1Byte_m b (spec_l1Byte_m b (spec_l1Byte_m b D).2).2).1 * 256) (by omega) (by omega), wrap_id (by omega) (by omega)]
    omega
def spec_l1PickInt_m (x0b : List Int) (x0 : Dl1Cur) (x1 : (List Int)) : (Int × Dl1Cur) :=
 ((gt x1 ((spec_l1Below_m x0b x0 ((x1.length : Nat) : Int)).1.toNat)), (spec_l1Below_m x0b x0 ((x1.length : Nat) : Int)).2)
theorem cb52 : Cb Tryz.prog 52 := ⟨f52, _, func52, rfl, by decide⟩
theorem spec_l1PickInt_c (B : Nat) (w0 : World) (is : List It) (w : World) (p : Nat) (z0 : Value) (x0b : List Int) (x0 : Dl1Cur) (r_0 : rdS tU8 w0 B z0 x0b) (z1 : Value) (x1 : (List Int)) (s_0 : x0b.length ≤ 68719476736) (s_1 : x1.length ≤ 68719476736) (hx1 : 0 < x1.length) (hm : Mem B w0 (iBox p 73 [z0, .int .i64 ((x0.i : Nat) : Int), .int .i64 x0.h] :: iOwn (tSl tInt 3) [z1] x1 :: is) w) :
  Calls Tryz.prog 52 #[.pointer (some ⟨p, 0, none⟩), z1] w fun e w' => ∃ x : Unit, e = .returned (.int .i64 ((spec_l1PickInt_m x0b x0 x1).1)) ∧ Mem B w0 (iBox p 73 [z0, .int .i64 ((((spec_l1PickInt_m x0b x0 x1).2).i : Nat) : Int), .int .i64 ((spec_l1PickInt_m x0b x0 x1).2).h] :: iOwn (tSl tInt 3) [z1] x1 :: is) w' := by
 obtain ⟨m1, A2, c3, rfl, q4, r5⟩ := rdS_op r_0
 refine call_enterW (L := [(0, .pointer (some ⟨p, 0, none⟩)), (1, z1)]) (N := 12) func52 rfl rfl (Nat.le_of_ble_eq_true rfl) (argsL_cons rfl (argsL_cons rfl argsL_nil)) hm ?_
 refine CM_form (n := 1) rfl ?_
 rintro A6 c7 rfl m8
 have l10 : x0b.length ≤ 68719476736 := s_0
 have l11 : x1.length ≤ 68719476736 := s_1
 refine sr (wa (nt' (sr (wm (wm (wm ?_))))))
 refine wv (vlen underlying24) ?_
 refine WM_callW (χ := Unit) (val := fun x => .int .i64 ((spec_l1Below_m x0b x0 ((x1.length : Nat) : Int)).1)) (js := fun x => (iBox p 73 [.slice A2 x0b.length c3, .int .i64 ((((spec_l1Below_m x0b x0 ((x1.length : Nat) : Int)).2).i : Nat) : Int), .int .i64 ((spec_l1Below_m x0b x0 ((x1.length : Nat) : Int)).2).h] :: (iOwn (tSl tInt 3) [.slice A6 x1.length c7] x1 :: is))) (cl_fn cb51 rfl) (fun W hm => spec_l1Below_c B w0 (iOwn (tSl tInt 3) [.slice A6 x1.length c7] x1 :: is) W p _ x0b x0 r5 ((x1.length : Nat) : Int) s_0 (hm.front (n := 0) rfl)) (Wd_none rfl) (by decide) (fun z12 => ?_)
 have hb := spec_l1Below_rng x0b x0 ((x1.length : Nat) : Int)
 obtain ⟨G13, hG13⟩ : ∃ G, G = (spec_l1Below_m x0b x0 ((x1.length : Nat) : Int)) := ⟨_, rfl⟩
 rw [← hG13]
 rw [← hG13] at hb
 refine WM_formO (n := 1) rfl (by omega) ?_
 rintro g14 rfl
 refine wv (fun W hm => rv_indexI (sz := 1) (k := G13.1) underlying24 type3 rfl rfl rfl (by omega) (by omega)) ?_
 refine wv (fun W hm => rv_load underlying3 rfl rfl (hm.ownInt (i := 1) rfl (by omega))) ?_
 refine wa (nt' (CM_ret ?_))
 have he15 := (show spec_l1PickInt_m x0b x0 x1 = ((gt x1 (G13.1.toNat)), G13.2) from by subst hG13; exact rfl)
 refine QM_r1 rfl (RR_tmp rfl) (fun W hm => ⟨(), ?_, ?_⟩)
 ·first | rw [he15] | rfl
 ·rw [he15]; exact hm

def spec_l3Row_b1 (x0b : List Int) (x0 : Dl1Cur) (k13 : Nat) (s15 : Nat) (s16 : Int) (d18 : (List Int)) : (DRow × Dl1Cur) ⊕ (Nat × Int × (List Int)) :=
 Sum.inr ((spec_l1Below_m x0b (⟨s15, s16⟩ : Dl1Cur) (spec_l1PickInt_m x0b x0 [3, 6, 100]).1).2.i, (spec_l1Below_m x0b (⟨s15, s16⟩ : Dl1Cur) (spec_l1PickInt_m x0b x0 [3, 6, 100]).1).2.h, (d18 ++ [(spec_l1Below_m x0b (⟨s15, s16⟩ : Dl1Cur) (spec_l1PickInt_m x0b x0 [3, 6, 100]).1).1]))
def spec_l3Row_m (x0b : List Int) (x0 : Dl1Cur) (x1 : Int) : (DRow × Dl1Cur) :=
 Sum.elim id (fun (s : Nat × Int × (List Int)) => ((⟨x1, s.2.2⟩ : DRow), (⟨s.1, s.2.1⟩ : Dl1Cur))) (rng (R := (DRow × Dl1Cur)) (fun k (s : Nat × Int × (List Int)) => spec_l3Row_b1 x0b x0 k s.1 s.2.1 s.2.2) (3 - 0) 0 ((spec_l1PickInt_m x0b x0 [3, 6, 100]).2.i, (spec_l1PickInt_m x0b x0 [3, 6, 100]).2.h, []))
theorem cb50 : Cb Tryz.prog 50 := ⟨f50, _, func50, rfl, by decide⟩
theorem spec_l3Row_c (B : Nat) (w0 : World) (is : List It) (w : World) (p : Nat) (z0 : Value) (x0b : List Int) (x0 : Dl1Cur) (r_0 : rdS tU8 w0 B z0 x0b) (x1 : Int) (s_0 : x0b.length ≤ 68719476736) (hm : Mem B w0 (iBox p 73 [z0, .int .i64 ((x0.i : Nat) : Int), .int .i64 x0.h] :: is) w) :
  Calls Tryz.prog 50 #[.pointer (some ⟨p, 0, none⟩), .int .i64 x1] w fun e w' => ∃ x : List Value, e = .returned (.agg x.toArray) ∧ Mem B w0 (iOwn tyRow x ((spec_l3Row_m x0b x0 x1).1) :: iBox p 73 [z0, .int .i64 ((((spec_l3Row_m x0b x0 x1).2).i : Nat) : Int), .int .i64 ((spec_l3Row_m x0b x0 x1).2).h] :: is) w' := by
 obtain ⟨m1, A2, c3, rfl, q4, r5⟩ := rdS_op r_0
 refine call_enterW (L := [(0, .pointer (some ⟨p, 0, none⟩)), (1, .int .i64 x1)]) (N := 28) func50 rfl rfl (Nat.le_of_ble_eq_true rfl) (argsL_cons rfl (argsL_cons rfl argsL_nil)) hm ?_
 have l6 : x0b.length ≤ 68719476736 := s_0
 refine sr ?_
 refine WM_alloc type26 rfl (Wd_none rfl) (by decide) (fun p7 => ?_)
 refine nt' (sr (wm ?_))
 refine wv (fun W hm => rv_build (cs := [.int .i64 x1, .slice none 0 0]) rfl (by kernel_rfl)) ?_
 refine WM_alloc type26 rfl (Wd_none rfl) (by decide) (fun p8 => ?_)
 refine WM_storeBox (p := p8) (o := 0) (cs' := [.int .i64 x1, .slice none 0 0]) (fun w hm => hm.front (n := 0) rfl) type26 rfl (Nat.le_of_ble_eq_true rfl) rfl rfl rfl rfl (Wd_none rfl) ?_
 refine nt' (sr (wm ?_))
 refine WM_build (cs := [.int .i64 3, .int .i64 6, .int .i64 100]) underlying24 type3 rfl (by decide) (by decide) rfl (by kernel_rfl) (Wd_none rfl) (by decide) (fun p9 => ?_)
 refine WM_items (fun W hm => Mem.litOwn (E := tInt) (xs := [3, 6, 100]) rfl (show 3 ≤ maxLen from by decide) (fun _ => (els_cons (E := tInt) (L1 := []) tInt_own (els_cons (E := tInt) (L1 := []) tInt_own (els_cons (E := tInt) (L1 := []) tInt_own els_nil)))) (hm.front (n := 0) rfl)) ?_
 let I5 : It := iOwn (tSl tInt 3) [.slice (some ⟨p9, 0, none⟩) 3 3] [3, 6, 100]
 refine WM_callW (χ := Unit) (val := fun x => .int .i64 ((spec_l1PickInt_m x0b x0 [3, 6, 100]).1)) (js := fun x => (iBox p 73 [.slice A2 x0b.length c3, .int .i64 ((((spec_l1PickInt_m x0b x0 [3, 6, 100]).2).i : Nat) : Int), .int .i64 ((spec_l1PickInt_m x0b x0 [3, 6, 100]).2).h] :: I5 :: (iBox p8 26 [.int .i64 x1, .slice none 0 0] :: iBox p7 26 [.int .i64 0, .slice none 0 0] :: is))) (cl_fn cb52 rfl) (fun W hm => spec_l1PickInt_c B w0 (iBox p8 26 [.int .i64 x1, .slice none 0 0] :: iBox p7 26 [.int .i64 0, .slice none 0 0] :: is) W p _ x0b x0 r5 _ [3, 6, 100] s_0 (Nat.le_of_ble_eq_true rfl) (by first | decide | exact Nat.succ_pos _) ((hm.front (n := 0) rfl).front (n := 3) rfl)) (Wd_none rfl) (by decide) (fun z11 => ?_)
 obtain ⟨G12, hG12⟩ : ∃ G, G = (spec_l1PickInt_m x0b x0 [3, 6, 100]) := ⟨_, rfl⟩
 rw [← hG12]
 refine wa (nt' (CM_seq (sr (wa (nt' (CM_block ?_))))))
 let K3 : List Value := [.slice A2 x0b.length c3, .int .i64 ((G12.2.i : Nat) : Int), .int .i64 G12.2.h]
 refine CM_items (js := (iOwn (tSl tInt 3) [.slice none 0 0] [] :: iBox p 73 K3 :: I5 :: iBox p8 26 [.int .i64 x1, .slice none 0 0] :: iBox p7 26 [.int .i64 0, .slice none 0 0] :: is)) (fun W hm => hm.addNil (E := tInt) (e := 3)) ?_
 refine CM_items (js := (iBox p 73 K3 :: I5 :: iBox p8 26 [.int .i64 x1, .slice none 0 0] :: iBox p7 26 [.int .i64 0, .slice none 0 0] :: iOwn (tSl tInt 3) [.slice none 0 0] [] :: is)) (fun W hm => ((((hm.front (n := 4) rfl).front (n := 4) rfl).front (n := 4) rfl).front (n := 4) rfl)) ?_
 let F1 := fun k (s : Nat × Int × (List Int)) => spec_l3Row_b1 x0b x0 k s.1 s.2.1 s.2.2
 let R2 := rng (R := (DRow × Dl1Cur)) F1
 refine CM_loop (σ := Nat × (Nat × Int × (List Int)) × (Option Addr × Nat)) (fun s => [(0, .pointer (some (⟨p, 0, none⟩ : Addr))), (4, .pointer (some (⟨p7, 0, none⟩ : Addr))), (5, .pointer (some (⟨p8, 0, none⟩ : Addr))), (6, .int .i64 G12.1), (7, .int .i64 ((s.1 : Nat) : Int))]) (fun s => (iBox p 73 [.slice A2 x0b.length c3, .int .i64 ((s.2.1.1 : Nat) : Int), .int .i64 s.2.1.2.1] :: I5 :: iBox p8 26 [.int .i64 x1, .slice s.2.2.1 s.2.1.2.2.length s.2.2.2] :: iBox p7 26 [.int .i64 0, .slice none 0 0] :: iOwn (tSl tInt 3) [.slice s.2.2.1 s.2.1.2.2.length s.2.2.2] s.2.1.2.2 :: is)) (fun s => s.1 ≤ 3 ∧ R2 (3 - s.1) s.1 s.2.1 = R2 (3 - 0) 0 (G12.2.i, G12.2.h, []) ∧ s.2.1.2.2.length ≤ 0 + s.1) (fun s => 3 - s.1) (0, (G12.2.i, G12.2.h, []), (none, 0)) sl5 (fun W hm => hm) ⟨(by omega), rfl, Nat.le_refl _⟩ ?_
 rintro ⟨k13, ⟨s15, s16, d18⟩, ⟨A19, c20⟩⟩ H23
 obtain ⟨hk21, hF22, hi24⟩ : k13 ≤ 3 ∧ R2 (3 - k13) k13 (s15, s16, d18) = R2 (3 - 0) 0 (G12.2.i, G12.2.h, []) ∧ d18.length ≤ 0 + k13 := H23
 let K4 : List Value := [.slice A2 x0b.length c3, .int .i64 ((s15 : Nat) : Int), .int .i64 s16]
 let I6 : It := iBox p8 26 [.int .i64 x1, .slice A19 d18.length c20]
 let I7 : It := iOwn (tSl tInt 3) [.slice A19 d18.length c20] d18
 show CM Tryz.prog 28 _ _ _ _ [(0, .pointer (some (⟨p, 0, none⟩ : Addr))), (4, .pointer (some (⟨p7, 0, none⟩ : Addr))), (5, .pointer (some (⟨p8, 0, none⟩ : Addr))), (6, .int .i64 G12.1), (7, .int .i64 ((k13 : Nat) : Int))] (iBox p 73 K4 :: I5 :: I6 :: iBox p7 26 [.int .i64 0, .slice none 0 0] :: I7 :: is)
 refine CM_seq (sr (wm ?_))
 refine wv vlss ?_
 refine nt' ?_
 by_cases hl25 : k13 < 3
 ·have g26 : (decide (((k13 : Nat) : Int) < 3)) = true := decide_eq_true (by omega)
  refine CM_condT rfl g26 ?_
  refine CM_skip (QM_then (CM_seq (CM_block (sr (wm (wm ?_))))))
  refine WM_callW (χ := Unit) (val := fun x => .int .i64 ((spec_l1Below_m x0b (⟨s15, s16⟩ : Dl1Cur) G12.1).1)) (js := fun x => (iBox p 73 [.slice A2 x0b.length c3, .int .i64 ((((spec_l1Below_m x0b (⟨s15, s16⟩ : Dl1Cur) G12.1).2).i : Nat) : Int), .int .i64 ((spec_l1Below_m x0b (⟨s15, s16⟩ : Dl1Cur) G12.1).2).h] :: (I5 :: I6 :: iBox p7 26 [.int .i64 0, .slice none 0 0] :: I7 :: is))) (cl_fn cb51 rfl) (fun W hm => spec_l1Below_c B w0 (I5 :: I6 :: iBox p7 26 [.int .i64 0, .slice none 0 0] :: I7 :: is) W p _ x0b (⟨s15, s16⟩ : Dl1Cur) r5 G12.1 s_0 (hm.front (n := 0) rfl)) (Wd_none rfl) (by decide) (fun z27 => ?_)
  have hb := spec_l1Below_rng x0b (⟨s15, s16⟩ : Dl1Cur) G12.1
  obtain ⟨G28, hG28⟩ : ∃ G, G = (spec_l1Below_m x0b (⟨s15, s16⟩ : Dl1Cur) G12.1) := ⟨_, rfl⟩
  rw [← hG28]
  rw [← hG28] at hb
  refine wa (nt' (CM_region ?_))
  refine wv (vf underlying26 rfl type24) ?_
  refine wv (vl 2 1 underlying24) ?_
  refine wm ?_
  refine WM_build (cs := [.int .i64 G28.1]) underlying24 type3 rfl (by decide) (by decide) rfl (by kernel_rfl) (Wd_none rfl) (by decide) (fun p29 => ?_)
  refine ap1 tInt 3 (.slice A19 d18.length c20) d18 G28.1 [] (iBox p 73 [.slice A2 x0b.length c3, .int .i64 ((G28.2.i : Nat) : Int), .int .i64 G28.2.h] :: I5 :: I6 :: iBox p7 26 [.int .i64 0, .slice none 0 0] :: is) [.int .i64 G28.1] (fun W hm => ((hm.front (n := 5) rfl).front (n := 1) rfl)) (fun _ _ hs => by cases (Sep.nil hs); exact (els_cons tInt_own els_nil)) underlying24 type3 (show (d18.length + 1) * 8 ≤ 140737488355328 from by omega) (fun v30 => ?_)
  refine WM_form (n := 0) rfl ?_
  rintro A31 c32 rfl m33
  refine wv (vf underlying26 rfl type24) ?_
  refine WM_storeBox (p := p8) (o := 1) (cs' := [.int .i64 x1, .slice A31 (d18 ++ [G28.1]).length c32]) (fun w hm => hm.front (n := 3) rfl) type24 rfl (Nat.le_of_ble_eq_true rfl) rfl rfl rfl rfl (Wd_none rfl) ?_
  refine WM_nil (QM_block_normal (QM_then (CM_region (wm ?_))))
  refine wv (vadN k13 1 (by omega)) ?_
  refine wa (WM_nil ?_)
  have hn35 := rng_next (R := (DRow × Dl1Cur)) (body := F1) (k := k13) (s := (s15, s16, d18)) (s' := (G28.2.i, G28.2.h, (d18 ++ [G28.1]))) (show k13 < 3 from by omega) (by subst hG12 hG28; exact rfl) hF22
  exact QM_round (k13 + 1, (G28.2.i, G28.2.h, (d18 ++ [G28.1])), (A31, c32)) sl5 (fun W hm => (((((hm.front (n := 1) rfl).front (n := 4) rfl).front (n := 2) rfl).front (n := 4) rfl).front (n := 4) rfl)) ⟨(by omega), hn35, (show (d18 ++ [G28.1]).length ≤ 0 + (k13 + 1) from by first | omega | (simp only [List.length_append, List.length_cons, List.length_nil] at *; omega))⟩ (rl (by omega))
 ·have g26 : (decide (((k13 : Nat) : Int) < 3)) = false := decide_eq_false (by omega)
  refine CM_condF rfl g26 ?_
  refine CM_exit (QM_then_exit (QM_then_exit ?_))
  have hE36 : R2 (3 - 0) 0 (G12.2.i, G12.2.h, []) = Sum.inr (s15, s16, d18) := rng_end hl25 hF22
  refine QM_block_hit (QM_then (sr ?_))
  refine wv (fun W hm => rv_loadN (cs := [.int .i64 x1, .slice A19 d18.length c20]) underlying26 type26 rfl rfl (hm.boxCells (n := 2) rfl)) ?_
  refine WM_storeBox (p := p7) (o := 0) (cs' := [.int .i64 x1, .slice A19 d18.length c20]) (fun w hm => hm.front (n := 3) rfl) type26 rfl (Nat.le_of_ble_eq_true rfl) rfl rfl rfl rfl (Wd_none rfl) ?_
  refine nt' (CM_ret ?_)
  let I8 : It := iBox p7 26 [.int .i64 x1, .slice A19 d18.length c20]
  refine QM_items (js := (iOwn tyRow [.int .i64 x1, .slice A19 d18.length c20] (⟨x1, d18⟩ : DRow) :: (I8 :: iBox p 73 K4 :: I5 :: I6 :: is))) (fun W hm => Mem.join (is := [I7]) (js := (I8 :: iBox p 73 K4 :: I5 :: I6 :: is)) (fun _ _ hs => tyRow_join (x := (⟨x1, d18⟩ : DRow)) hs) (hm.front (n := 4) rfl)) ?_
  have he37 := (show spec_l3Row_m x0b x0 x1 = ((⟨x1, d18⟩ : DRow), (⟨s15, s16⟩ : Dl1Cur)) from by subst hG12; exact fin_inr hE36 (rfl))
  refine QM_r1 rfl (RR_cell (n := 1) rfl rfl underlying26 type26 rfl) (fun W hm => ⟨[.int .i64 x1, .slice A19 d18.length c20], ?_, ?_⟩)
  ·first | rw [he37] | rfl
  ·rw [he37]; exact (((((hm.front (n := 2) rfl).front (n := 1) rfl).front (n := 2) rfl).tail.front (n := 2) rfl).tail.front (n := 2) rfl).tail

theorem rng_invP {R S : Type} {b : Nat → S → R ⊕ S} {P : Nat → S → Prop} (h : ∀ k s, P k s → ∃ s', b k s = .inr s' ∧ P (k + 1) s') : ∀ m k s, P k s → ∃ s', rng b m k s = .inr s' ∧ P (k + m) s'
  | 0, _, s, hp => ⟨s, rfl, hp⟩
  | m + 1, k, s, hp => by
    obtain ⟨s', h1, h2⟩ := h k s hp
    obtain ⟨s'', h3, h4⟩ := rng_invP (P := P) h m (k + 1) s' h2
    exact ⟨s'', by rw [rng, h1]; exact h3, by rw [show k + (m + 1) = k + 1 + m by omega]; exact h4⟩
theorem spec_l3Wide (b : List Int) (D : Dl1Cur) : 0 < (spec_l1PickInt_m b D [3, 6, 100]).1 ∧ (spec_l1PickInt_m b D [3, 6, 100]).1 ≤ 100 := by
  have h := spec_l1Below_rng b D (([3, 6, 100] : List Int).length : Nat)
  have h1 := h.2.1 (by decide)
  have h2 : (spec_l1Below_m b D ((([3, 6, 100] : List Int).length : Nat) : Int)).1.toNat < 3 := by
    have : ((([3, 6, 100] : List Int).length : Nat) : Int) = 3 := rfl
    omega
  show 0 < gt [3, 6, 100] (spec_l1Below_m b D ((([3, 6, 100] : List Int).length : Nat) : Int)).1.toNat ∧ gt [3, 6, 100] (spec_l1Below_m b D ((([3, 6, 100] : List Int).length : Nat) : Int)).1.toNat ≤ 100
  generalize (spec_l1Below_m b D ((([3, 6, 100] : List Int).length : Nat) : Int)).1.toNat = j at h2
  have h3 : j = 0 ∨ j = 1 ∨ j = 2 := by omega
  rcases h3 with rfl | rfl | rfl <;> decide
theorem spec_l3Row_fact (b : List Int) (D : Dl1Cur) (i : Int) : (spec_l3Row_m b D i).1.Id = i ∧ (spec_l3Row_m b D i).1.Values.length = 3 ∧ ∀ v ∈ (spec_l3Row_m b D i).1.Values, 0 ≤ v ∧ v ≤ 99 := by
  unfold spec_l3Row_m
  have hw := spec_l3Wide b D
  obtain ⟨s', h1, h2, h3⟩ := rng_invP (R := (DRow × Dl1Cur)) (b := fun k (s : Nat × Int × (List Int)) => spec_l3Row_b1 b D k s.1 s.2.1 s.2.2) (P := fun k s => s.2.2.length = k ∧ ∀ v ∈ s.2.2, 0 ≤ v ∧ v ≤ 99) (fun k s hp => by
    refine ⟨_, rfl, ?_, ?_⟩
    · show (s.2.2 ++ [_]).length = k + 1
      rw [List.length_append, hp.1]; rfl
    · intro v hv
      have hv' : v ∈ s.2.2 ++ [(spec_l1Below_m b (⟨s.1, s.2.1⟩ : Dl1Cur) (spec_l1PickInt_m b D [3, 6, 100]).1).1] := hv
      rcases List.mem_append.1 hv' with hv | hv
      · exact hp.2 v hv
      · rw [List.mem_singleton.1 hv]
        have h := spec_l1Below_rng b (⟨s.1, s.2.1⟩ : Dl1Cur) (spec_l1PickInt_m b D [3, 6, 100]).1
        have h4 := h.2.1 hw.1
        omega) (3 - 0) 0 (((spec_l1PickInt_m b D [3, 6, 100]).2).i, ((spec_l1PickInt_m b D [3, 6, 100]).2).h, []) ⟨rfl, fun v hv => by cases hv⟩
  rw [h1]
  exact ⟨rfl, h2, h3⟩
def spec_l3Any_m (x0b : List Int) (x0 : Dl1Cur) : (DRow × Dl1Cur) :=
 cond (((spec_l1Below_m x0b (spec_l3Row_m x0b ((spec_l1Below_m x0b x0 9).2) ((spec_l1Below_m x0b x0 9).1)).2 8).1) == 0) ((⟨(spec_l1PickInt_m x0b ((spec_l1Below_m x0b (spec_l3Row_m x0b ((spec_l1Below_m x0b x0 9).2) ((spec_l1Below_m x0b x0 9).1)).2 8).2) [(-1), 999, 1000]).1, (spec_l3Row_m x0b ((spec_l1Below_m x0b x0 9).2) ((spec_l1Below_m x0b x0 9).1)).1.Values⟩ : DRow), (spec_l1PickInt_m x0b ((spec_l1Below_m x0b (spec_l3Row_m x0b ((spec_l1Below_m x0b x0 9).2) ((spec_l1Below_m x0b x0 9).1)).2 8).2) [(-1), 999, 1000]).2) (cond (((spec_l1Below_m x0b (spec_l3Row_m x0b ((spec_l1Below_m x0b x0 9).2) ((spec_l1Below_m x0b x0 9).1)).2 8).1) == 1) ((⟨(spec_l3Row_m x0b ((spec_l1Below_m x0b x0 9).2) ((spec_l1Below_m x0b x0 9).1)).1.Id, ((spec_l3Row_m x0b ((spec_l1Below_m x0b x0 9).2) ((spec_l1Below_m x0b x0 9).1)).1.Values.set 0 (spec_l1PickInt_m x0b ((spec_l1Below_m x0b (spec_l3Row_m x0b ((spec_l1Below_m x0b x0 9).2) ((spec_l1Below_m x0b x0 9).1)).2 8).2) [(-1), 99, 100]).1)⟩ : DRow), (spec_l1PickInt_m x0b ((spec_l1Below_m x0b (spec_l3Row_m x0b ((spec_l1Below_m x0b x0 9).2) ((spec_l1Below_m x0b x0 9).1)).2 8).2) [(-1), 99, 100]).2) (cond (((spec_l1Below_m x0b (spec_l3Row_m x0b ((spec_l1Below_m x0b x0 9).2) ((spec_l1Below_m x0b x0 9).1)).2 8).1) == 2) ((⟨(spec_l3Row_m x0b ((spec_l1Below_m x0b x0 9).2) ((spec_l1Below_m x0b x0 9).1)).1.Id, ((spec_l3Row_m x0b ((spec_l1Below_m x0b x0 9).2) ((spec_l1Below_m x0b x0 9).1)).1.Values ++ [1])⟩ : DRow), ((spec_l1Below_m x0b (spec_l3Row_m x0b ((spec_l1Below_m x0b x0 9).2) ((spec_l1Below_m x0b x0 9).1)).2 8).2)) ((spec_l3Row_m x0b ((spec_l1Below_m x0b x0 9).2) ((spec_l1Below_m x0b x0 9).1)).1, ((spec_l1Below_m x0b (spec_l3Row_m x0b ((spec_l1Below_m x0b x0 9).2) ((spec_l1Below_m x0b x0 9).1)).2 8).2))))
theorem cb23 : Cb Tryz.prog 23 := ⟨f23, _, func23, rfl, by decide⟩
theorem spec_l3Any_c (B : Nat) (w0 : World) (is : List It) (w : World) (p : Nat) (z0 : Value) (x0b : List Int) (x0 : Dl1Cur) (r_0 : rdS tU8 w0 B z0 x0b) (s_0 : x0b.length ≤ 68719476736) (hm : Mem B w0 (iBox p 73 [z0, .int .i64 ((x0.i : Nat) : Int), .int .i64 x0.h] :: is) w) :
  Calls Tryz.prog 23 #[.pointer (some ⟨p, 0, none⟩)] w fun e w' => ∃ x : List Value, e = .returned (.agg x.toArray) ∧ Mem B w0 (iOwn tyRow x ((spec_l3Any_m x0b x0).1) :: iBox p 73 [z0, .int .i64 ((((spec_l3Any_m x0b x0).2).i : Nat) : Int), .int .i64 ((spec_l3Any_m x0b x0).2).h] :: is) w' := by
 obtain ⟨m1, A2, c3, rfl, q4, r5⟩ := rdS_op r_0
 refine call_enterW (L := [(0, .pointer (some ⟨p, 0, none⟩))]) (N := 32) func23 rfl rfl (Nat.le_of_ble_eq_true rfl) (argsL_cons rfl argsL_nil) hm ?_
 have l6 : x0b.length ≤ 68719476736 := s_0
 refine sr ?_
 refine WM_alloc type26 rfl (Wd_none rfl) (by decide) (fun p7 => ?_)
 refine nt' (sr (wm (wm ?_)))
 refine WM_callW (χ := Unit) (val := fun x => .int .i64 ((spec_l1Below_m x0b x0 9).1)) (js := fun x => (iBox p 73 [.slice A2 x0b.length c3, .int .i64 ((((spec_l1Below_m x0b x0 9).2).i : Nat) : Int), .int .i64 ((spec_l1Below_m x0b x0 9).2).h] :: (iBox p7 26 [.int .i64 0, .slice none 0 0] :: is))) (cl_fn cb51 rfl) (fun W hm => spec_l1Below_c B w0 (iBox p7 26 [.int .i64 0, .slice none 0 0] :: is) W p _ x0b x0 r5 9 s_0 (hm.front (n := 1) rfl)) (Wd_none rfl) (by decide) (fun z8 => ?_)
 refine WM_callW (χ := List Value) (val := fun x => .agg x.toArray) (js := fun x => (iOwn tyRow x ((spec_l3Row_m x0b ((spec_l1Below_m x0b x0 9).2) ((spec_l1Below_m x0b x0 9).1)).1) :: iBox p 73 [.slice A2 x0b.length c3, .int .i64 ((((spec_l3Row_m x0b ((spec_l1Below_m x0b x0 9).2) ((spec_l1Below_m x0b x0 9).1)).2).i : Nat) : Int), .int .i64 ((spec_l3Row_m x0b ((spec_l1Below_m x0b x0 9).2) ((spec_l1Below_m x0b x0 9).1)).2).h] :: (iBox p7 26 [.int .i64 0, .slice none 0 0] :: is))) (cl_fn cb50 rfl) (fun W hm => spec_l3Row_c B w0 (iBox p7 26 [.int .i64 0, .slice none 0 0] :: is) W p _ x0b ((spec_l1Below_m x0b x0 9).2) r5 ((spec_l1Below_m x0b x0 9).1) s_0 (hm.front (n := 0) rfl)) (Wd_none rfl) (by decide) (fun z9 => ?_)
 have hl3 := (spec_l3Row_fact x0b ((spec_l1Below_m x0b x0 9).2) ((spec_l1Below_m x0b x0 9).1)).2.1
 obtain ⟨G10, hG10⟩ : ∃ G, G = (spec_l3Row_m x0b ((spec_l1Below_m x0b x0 9).2) ((spec_l1Below_m x0b x0 9).1)) := ⟨_, rfl⟩
 rw [← hG10]
 rw [← hG10] at hl3
 refine tyRow_sp ?_
 rintro v11 rfl
 refine WM_form (n := 0) rfl ?_
 rintro A12 c13 rfl m14
 refine WM_alloc type26 rfl (Wd_none rfl) (by decide) (fun p16 => ?_)
 refine WM_storeBox (p := p16) (o := 0) (cs' := [.int .i64 G10.1.Id, .slice A12 G10.1.Values.length c13]) (fun w hm => hm.front (n := 0) rfl) type26 rfl (Nat.le_of_ble_eq_true rfl) rfl rfl rfl rfl (Wd_none rfl) ?_
 refine nt' (CM_seq (sr (wm ?_)))
 let I7 : It := iBox p16 26 [.int .i64 G10.1.Id, .slice A12 G10.1.Values.length c13]
 let I8 : It := iOwn (tSl tInt 3) [.slice A12 G10.1.Values.length c13] G10.1.Values
 refine WM_callW (χ := Unit) (val := fun x => .int .i64 ((spec_l1Below_m x0b G10.2 8).1)) (js := fun x => (iBox p 73 [.slice A2 x0b.length c3, .int .i64 ((((spec_l1Below_m x0b G10.2 8).2).i : Nat) : Int), .int .i64 ((spec_l1Below_m x0b G10.2 8).2).h] :: (I7 :: I8 :: iBox p7 26 [.int .i64 0, .slice none 0 0] :: is))) (cl_fn cb51 rfl) (fun W hm => spec_l1Below_c B w0 (I7 :: I8 :: iBox p7 26 [.int .i64 0, .slice none 0 0] :: is) W p _ x0b G10.2 r5 8 s_0 (hm.front (n := 2) rfl)) (Wd_none rfl) (by decide) (fun z17 => ?_)
 refine nt' (CM_block (sr ?_))
 refine wv (fun W hm => rv_eql rfl rfl) ?_
 refine wa (nt' ?_)
 by_cases h18 : ((spec_l1Below_m x0b G10.2 8).1) = 0
 ·have g19 := beq_iff_eq.2 h18
  refine CM_condT rfl g19 ?_
  refine CM_region (wm ?_)
  refine WM_build (cs := [.int .i64 (-1), .int .i64 999, .int .i64 1000]) underlying24 type3 rfl (by decide) (by decide) rfl (by kernel_rfl) (Wd_none rfl) (by decide) (fun p20 => ?_)
  refine WM_items (fun W hm => Mem.litOwn (E := tInt) (xs := [(-1), 999, 1000]) rfl (show 3 ≤ maxLen from by decide) (fun _ => (els_cons (E := tInt) (L1 := []) tInt_own (els_cons (E := tInt) (L1 := []) tInt_own (els_cons (E := tInt) (L1 := []) tInt_own els_nil)))) (hm.front (n := 0) rfl)) ?_
  let I9 : It := iOwn (tSl tInt 3) [.slice (some ⟨p20, 0, none⟩) 3 3] [(-1), 999, 1000]
  refine WM_callW (χ := Unit) (val := fun x => .int .i64 ((spec_l1PickInt_m x0b ((spec_l1Below_m x0b G10.2 8).2) [(-1), 999, 1000]).1)) (js := fun x => (iBox p 73 [.slice A2 x0b.length c3, .int .i64 ((((spec_l1PickInt_m x0b ((spec_l1Below_m x0b G10.2 8).2) [(-1), 999, 1000]).2).i : Nat) : Int), .int .i64 ((spec_l1PickInt_m x0b ((spec_l1Below_m x0b G10.2 8).2) [(-1), 999, 1000]).2).h] :: I9 :: (I7 :: I8 :: iBox p7 26 [.int .i64 0, .slice none 0 0] :: is))) (cl_fn cb52 rfl) (fun W hm => spec_l1PickInt_c B w0 (I7 :: I8 :: iBox p7 26 [.int .i64 0, .slice none 0 0] :: is) W p _ x0b ((spec_l1Below_m x0b G10.2 8).2) r5 _ [(-1), 999, 1000] s_0 (Nat.le_of_ble_eq_true rfl) (by first | decide | exact Nat.succ_pos _) ((hm.front (n := 0) rfl).front (n := 1) rfl)) (Wd_none rfl) (by decide) (fun z22 => ?_)
  obtain ⟨G23, hG23⟩ : ∃ G, G = (spec_l1PickInt_m x0b ((spec_l1Below_m x0b G10.2 8).2) [(-1), 999, 1000]) := ⟨_, rfl⟩
  rw [← hG23]
  refine wv (vf underlying26 rfl type3) ?_
  refine WM_storeBox (p := p16) (o := 0) (cs' := [.int .i64 G23.1, .slice A12 G10.1.Values.length c13]) (fun w hm => hm.front (n := 2) rfl) type3 rfl (Nat.le_of_ble_eq_true rfl) rfl rfl rfl rfl (Wd_none rfl) ?_
  refine WM_nil (QM_block_normal (QM_then (sr ?_)))
  refine wv (fun W hm => rv_loadN (cs := [.int .i64 G23.1, .slice A12 G10.1.Values.length c13]) underlying26 type26 rfl rfl (hm.boxCells (n := 0) rfl)) ?_
  refine WM_storeBox (p := p7) (o := 0) (cs' := [.int .i64 G23.1, .slice A12 G10.1.Values.length c13]) (fun w hm => hm.front (n := 4) rfl) type26 rfl (Nat.le_of_ble_eq_true rfl) rfl rfl rfl rfl (Wd_none rfl) ?_
  refine nt' (CM_ret ?_)
  let K1 : List Value := [.slice A2 x0b.length c3, .int .i64 ((G23.2.i : Nat) : Int), .int .i64 G23.2.h]
  let I10 : It := iBox p7 26 [.int .i64 G23.1, .slice A12 G10.1.Values.length c13]
  let I11 : It := iBox p16 26 [.int .i64 G23.1, .slice A12 G10.1.Values.length c13]
  refine QM_items (js := (iOwn tyRow [.int .i64 G23.1, .slice A12 G10.1.Values.length c13] (⟨G23.1, G10.1.Values⟩ : DRow) :: (I10 :: I11 :: iBox p 73 K1 :: I9 :: is))) (fun W hm => Mem.join (is := [I8]) (js := (I10 :: I11 :: iBox p 73 K1 :: I9 :: is)) (fun _ _ hs => tyRow_join (x := (⟨G23.1, G10.1.Values⟩ : DRow)) hs) (hm.front (n := 4) rfl)) ?_
  have he24 := (show spec_l3Any_m x0b x0 = ((⟨G23.1, G10.1.Values⟩ : DRow), G23.2) from by subst hG10 hG23; exact cond_t g19 (rfl))
  refine QM_r1 rfl (RR_cell (n := 1) rfl rfl underlying26 type26 rfl) (fun W hm => ⟨[.int .i64 G23.1, .slice A12 G10.1.Values.length c13], ?_, ?_⟩)
  ·first | rw [he24] | rfl
  ·rw [he24]; exact (((((hm.front (n := 3) rfl).front (n := 1) rfl).front (n := 2) rfl).tail.front (n := 2) rfl).tail.front (n := 2) rfl).tail
 ·have g19 := beq_eq_false_iff_ne.2 h18
  refine CM_condF rfl g19 ?_
  refine sr ?_
  refine wv (fun W hm => rv_eql rfl rfl) ?_
  refine wa (nt' ?_)
  by_cases h25 : ((spec_l1Below_m x0b G10.2 8).1) = 1
  ·have g26 := beq_iff_eq.2 h25
   refine CM_condT rfl g26 ?_
   refine CM_formO (n := 2) rfl (by omega) ?_
   rintro g27 rfl
   let K2 : List Value := [.int .i64 G10.1.Id, .slice (some ⟨g27, 0, none⟩) G10.1.Values.length c13]
   let I12 : It := iOwn (tSl tInt 3) [.slice (some ⟨g27, 0, none⟩) G10.1.Values.length c13] G10.1.Values
   refine rd2 7 [6] (s := (iBox p16 26 K2 :: iBox p7 26 [.int .i64 0, .slice none 0 0] :: is)) (s2 := (iBox p16 26 K2 :: I12 :: iBox p7 26 [.int .i64 0, .slice none 0 0] :: is)) (fun W hm => ((((hm.front (n := 3) rfl).front (n := 2) rfl).front (n := 2) rfl).tail.front (n := 2) rfl).tail) (fun W hm => ((((hm.front (n := 3) rfl).front (n := 3) rfl).front (n := 3) rfl).front (n := 3) rfl).tail) ?_
   refine qtD 7 0 1 rfl (vf underlying26 rfl type24) ?_
   refine qtD 7 1 3 rfl (vl 0 1 underlying24) ?_
   refine qtD 7 2 7 rfl vmv ?_
   refine qoD 7 3 15 rfl ?_
   refine WM_build (cs := [.int .i64 (-1), .int .i64 99, .int .i64 100]) underlying24 type3 rfl (by decide) (by decide) rfl (by kernel_rfl) (Wd_none rfl) (by decide) (fun p28 => ?_)
   refine qnD (fun W hm => (((((hm.front (n := 4) rfl).front (n := 3) rfl).front (n := 2) rfl).tail.front (n := 2) rfl).tail.front (n := 2) rfl).tail) (fun W hm => (((((hm.front (n := 4) rfl).front (n := 4) rfl).front (n := 4) rfl).front (n := 3) rfl).tail.front (n := 3) rfl).tail) ?_
   refine qoD 7 4 31 rfl ?_
   refine WM_items (fun W hm => Mem.litOwn (E := tInt) (xs := [(-1), 99, 100]) rfl (show 3 ≤ maxLen from by decide) (fun _ => (els_cons (E := tInt) (L1 := []) tInt_own (els_cons (E := tInt) (L1 := []) tInt_own (els_cons (E := tInt) (L1 := []) tInt_own els_nil)))) (hm.front (n := 0) rfl)) ?_
   let I13 : It := iOwn (tSl tInt 3) [.slice (some ⟨p28, 0, none⟩) 3 3] [(-1), 99, 100]
   refine WM_callW (χ := Unit) (val := fun x => .int .i64 ((spec_l1PickInt_m x0b ((spec_l1Below_m x0b G10.2 8).2) [(-1), 99, 100]).1)) (js := fun x => (iBox p 73 [.slice A2 x0b.length c3, .int .i64 ((((spec_l1PickInt_m x0b ((spec_l1Below_m x0b G10.2 8).2) [(-1), 99, 100]).2).i : Nat) : Int), .int .i64 ((spec_l1PickInt_m x0b ((spec_l1Below_m x0b G10.2 8).2) [(-1), 99, 100]).2).h] :: I13 :: (iBox p16 26 K2 :: I12 :: iBox p7 26 [.int .i64 0, .slice none 0 0] :: is))) (cl_fn cb52 rfl) (fun W hm => spec_l1PickInt_c B w0 (iBox p16 26 K2 :: I12 :: iBox p7 26 [.int .i64 0, .slice none 0 0] :: is) W p _ x0b ((spec_l1Below_m x0b G10.2 8).2) r5 _ [(-1), 99, 100] s_0 (Nat.le_of_ble_eq_true rfl) (by first | decide | exact Nat.succ_pos _) ((hm.front (n := 0) rfl).front (n := 1) rfl)) (Wd_none rfl) (by decide) (fun z30 => ?_)
   obtain ⟨G31, hG31⟩ : ∃ G, G = (spec_l1PickInt_m x0b ((spec_l1Below_m x0b G10.2 8).2) [(-1), 99, 100]) := ⟨_, rfl⟩
   rw [← hG31]
   refine qnD (fun W hm => (((((hm.front (n := 4) rfl).front (n := 3) rfl).front (n := 2) rfl).tail.front (n := 2) rfl).tail.front (n := 2) rfl).tail) (fun W hm => (((((hm.front (n := 4) rfl).front (n := 4) rfl).front (n := 4) rfl).front (n := 3) rfl).tail.front (n := 3) rfl).tail) ?_
   refine qtD 7 5 63 rfl (vix 1 0 underlying24 type3) ?_
   refine qoD 7 6 127 rfl ?_
   let K3 : List Value := [.slice A2 x0b.length c3, .int .i64 ((G31.2.i : Nat) : Int), .int .i64 G31.2.h]
   refine WM_setEl (E := tInt) (e := 3) (u := .int .i64 G31.1) (k := 0) (p := g27) (n := G10.1.Values.length) (xs := G10.1.Values) (eis := []) (js := (iBox p 73 K3 :: I13 :: iBox p16 26 K2 :: iBox p7 26 [.int .i64 0, .slice none 0 0] :: is)) (yv := G31.1) (fun W hm => (hm.front (n := 3) rfl)) (fun _ _ hs => (Sep.nil hs ▸ tInt_own)) rfl type3 rfl (by omega) rfl rfl (Wd_none rfl) ?_
   refine qxD (fun W hm => (((((hm.front (n := 4) rfl).front (n := 4) rfl).front (n := 2) rfl).tail.front (n := 2) rfl).tail.front (n := 2) rfl).tail) ?_
   refine QB_done (by kernel_rfl) ?_
   refine QM_block_normal (QM_then (sr ?_))
   refine wv (fun W hm => rv_loadN (cs := K2) underlying26 type26 rfl rfl (hm.boxCells (n := 3) rfl)) ?_
   refine WM_storeBox (p := p7) (o := 0) (cs' := K2) (fun w hm => hm.front (n := 4) rfl) type26 rfl (Nat.le_of_ble_eq_true rfl) rfl rfl rfl rfl (Wd_none rfl) ?_
   refine nt' (CM_ret ?_)
   refine QM_items (js := (iOwn tyRow K2 (⟨G10.1.Id, (G10.1.Values.set 0 G31.1)⟩ : DRow) :: (iBox p7 26 K2 :: iBox p 73 K3 :: I13 :: iBox p16 26 K2 :: is))) (fun W hm => Mem.join (is := [iOwn (tSl tInt 3) [.slice (some ⟨g27, 0, none⟩) G10.1.Values.length c13] (G10.1.Values.set 0 G31.1)]) (js := (iBox p7 26 K2 :: iBox p 73 K3 :: I13 :: iBox p16 26 K2 :: is)) (fun _ _ hs => tyRow_join (x := (⟨G10.1.Id, (G10.1.Values.set 0 G31.1)⟩ : DRow)) hs) (hm.front (n := 1) rfl)) ?_
   have he32 := (show spec_l3Any_m x0b x0 = ((⟨G10.1.Id, (G10.1.Values.set 0 G31.1)⟩ : DRow), G31.2) from by subst hG10 hG31; exact cond_f g19 (cond_t g26 (rfl)))
   refine QM_r1 rfl (RR_cell (n := 1) rfl rfl underlying26 type26 rfl) (fun W hm => ⟨K2, ?_, ?_⟩)
   ·first | rw [he32] | rfl
   ·rw [he32]; exact (((((hm.front (n := 2) rfl).front (n := 1) rfl).front (n := 2) rfl).tail.front (n := 2) rfl).tail.front (n := 2) rfl).tail
  ·have g26 := beq_eq_false_iff_ne.2 h25
   refine CM_condF rfl g26 ?_
   refine sr ?_
   refine wv (fun W hm => rv_eql rfl rfl) ?_
   refine wa (nt' ?_)
   by_cases h33 : ((spec_l1Below_m x0b G10.2 8).1) = 2
   ·have g34 := beq_iff_eq.2 h33
    refine CM_condT rfl g34 ?_
    refine CM_region ?_
    refine wv (vf underlying26 rfl type24) ?_
    refine wv (vl 1 1 underlying24) ?_
    refine WM_build (cs := [.int .i64 1]) underlying24 type3 rfl (by decide) (by decide) rfl (by kernel_rfl) (Wd_none rfl) (by decide) (fun p35 => ?_)
    let K4 : List Value := [.slice A2 x0b.length c3, .int .i64 ((((spec_l1Below_m x0b G10.2 8).2).i : Nat) : Int), .int .i64 (((spec_l1Below_m x0b G10.2 8).2).h)]
    refine ap1 tInt 3 (.slice A12 G10.1.Values.length c13) G10.1.Values 1 [] (iBox p 73 K4 :: I7 :: iBox p7 26 [.int .i64 0, .slice none 0 0] :: is) [.int .i64 1] (fun W hm => ((hm.front (n := 3) rfl).front (n := 1) rfl)) (fun _ _ hs => by cases (Sep.nil hs); exact (els_cons tInt_own els_nil)) underlying24 type3 (show (G10.1.Values.length + 1) * 8 ≤ 140737488355328 from by omega) (fun v36 => ?_)
    refine WM_form (n := 0) rfl ?_
    rintro A37 c38 rfl m39
    refine wv (vf underlying26 rfl type24) ?_
    let K5 : List Value := [.int .i64 G10.1.Id, .slice A37 (G10.1.Values ++ [1]).length c38]
    refine WM_storeBox (p := p16) (o := 1) (cs' := K5) (fun w hm => hm.front (n := 2) rfl) type24 rfl (Nat.le_of_ble_eq_true rfl) rfl rfl rfl rfl (Wd_none rfl) ?_
    refine WM_nil (QM_block_normal (QM_then (sr ?_)))
    refine wv (fun W hm => rv_loadN (cs := K5) underlying26 type26 rfl rfl (hm.boxCells (n := 0) rfl)) ?_
    refine WM_storeBox (p := p7) (o := 0) (cs' := K5) (fun w hm => hm.front (n := 3) rfl) type26 rfl (Nat.le_of_ble_eq_true rfl) rfl rfl rfl rfl (Wd_none rfl) ?_
    refine nt' (CM_ret ?_)
    refine QM_items (js := (iOwn tyRow K5 (⟨G10.1.Id, (G10.1.Values ++ [1])⟩ : DRow) :: (iBox p7 26 K5 :: iBox p16 26 K5 :: iBox p 73 K4 :: is))) (fun W hm => Mem.join (is := [iOwn (tSl tInt 3) [.slice A37 (G10.1.Values ++ [1]).length c38] (G10.1.Values ++ [1])]) (js := (iBox p7 26 K5 :: iBox p16 26 K5 :: iBox p 73 K4 :: is)) (fun _ _ hs => tyRow_join (x := (⟨G10.1.Id, (G10.1.Values ++ [1])⟩ : DRow)) hs) (hm.front (n := 2) rfl)) ?_
    have he41 := (show spec_l3Any_m x0b x0 = ((⟨G10.1.Id, (G10.1.Values ++ [1])⟩ : DRow), ((spec_l1Below_m x0b G10.2 8).2)) from by subst hG10; exact cond_f g19 (cond_f g26 (cond_t g34 (rfl))))
    refine QM_r1 rfl (RR_cell (n := 1) rfl rfl underlying26 type26 rfl) (fun W hm => ⟨K5, ?_, ?_⟩)
    ·first | rw [he41] | rfl
    ·rw [he41]; exact ((((hm.front (n := 3) rfl).front (n := 1) rfl).front (n := 2) rfl).tail.front (n := 2) rfl).tail
   ·have g34 := beq_eq_false_iff_ne.2 h33
    refine CM_condF rfl g34 ?_
    refine CM_skip (QM_block_normal (QM_then (sr ?_)))
    refine wv (fun W hm => rv_loadN (cs := [.int .i64 G10.1.Id, .slice A12 G10.1.Values.length c13]) underlying26 type26 rfl rfl (hm.boxCells (n := 1) rfl)) ?_
    refine WM_storeBox (p := p7) (o := 0) (cs' := [.int .i64 G10.1.Id, .slice A12 G10.1.Values.length c13]) (fun w hm => hm.front (n := 3) rfl) type26 rfl (Nat.le_of_ble_eq_true rfl) rfl rfl rfl rfl (Wd_none rfl) ?_
    refine nt' (CM_ret ?_)
    let K6 : List Value := [.slice A2 x0b.length c3, .int .i64 ((((spec_l1Below_m x0b G10.2 8).2).i : Nat) : Int), .int .i64 (((spec_l1Below_m x0b G10.2 8).2).h)]
    let I14 : It := iBox p7 26 [.int .i64 G10.1.Id, .slice A12 G10.1.Values.length c13]
    refine QM_items (js := (iOwn tyRow [.int .i64 G10.1.Id, .slice A12 G10.1.Values.length c13] G10.1 :: (I14 :: iBox p 73 K6 :: I7 :: is))) (fun W hm => Mem.join (is := [I8]) (js := (I14 :: iBox p 73 K6 :: I7 :: is)) (fun _ _ hs => tyRow_join (x := G10.1) hs) (hm.front (n := 3) rfl)) ?_
    have he42 := (show spec_l3Any_m x0b x0 = (G10.1, ((spec_l1Below_m x0b G10.2 8).2)) from by subst hG10; exact cond_f g19 (cond_f g26 (cond_f g34 (rfl))))
    refine QM_r1 rfl (RR_cell (n := 1) rfl rfl underlying26 type26 rfl) (fun W hm => ⟨[.int .i64 G10.1.Id, .slice A12 G10.1.Values.length c13], ?_, ?_⟩)
    ·first | rw [he42] | rfl
    ·rw [he42]; exact ((((hm.front (n := 2) rfl).front (n := 1) rfl).front (n := 2) rfl).tail.front (n := 2) rfl).tail

def spec_DrawFormatRow_m (x0 : (List Int)) : DRow :=
 (spec_l3Any_m x0 (spec_l1New_m x0)).1
theorem cb5 : Cb Tryz.prog 5 := ⟨f5, _, func5, rfl, by decide⟩
theorem spec_DrawFormatRow_c (w : World) (z0 : Value) (x0 : (List Int)) (r_0 : rdS tU8 w w.heap.size z0 x0) (s_0 : x0.length ≤ 68719476736) :
  Calls Tryz.prog 5 #[z0] w fun e w' => ∃ v : List Value, e = .returned (.agg v.toArray) ∧ Mem w.heap.size w [iOwn tyRow v (spec_DrawFormatRow_m x0)] w' := by
 obtain ⟨m1, A2, c3, rfl, q4, r5⟩ := rdS_op r_0
 have l6 : x0.length ≤ 68719476736 := s_0
 refine ce1 (L := [(0, .slice A2 x0.length c3)]) (N := 6) func5 ?_
 refine sr ?_
 refine WM_alloc type26 rfl (Wd_none rfl) (by decide) (fun p7 => ?_)
 refine nt' (sr (wm ?_))
 refine WM_call (χ := Nat) (val := fun p => .pointer (some ⟨p, 0, none⟩)) (js := fun p => [iBox p 73 [.slice A2 x0.length c3, .int .i64 (((spec_l1New_m x0).i : Nat) : Int), .int .i64 ((spec_l1New_m x0).h)]]) (cl_fn cb24 rfl) (fun W hm => spec_l1New_c W _ x0 (hm.rdS0 r5) s_0) (Wd_none rfl) (by decide) (fun p8 => ?_)
 refine WM_callW (χ := List Value) (val := fun x => .agg x.toArray) (js := fun x => (iOwn tyRow x ((spec_l3Any_m x0 (spec_l1New_m x0)).1) :: iBox p8 73 [.slice A2 x0.length c3, .int .i64 ((((spec_l3Any_m x0 (spec_l1New_m x0)).2).i : Nat) : Int), .int .i64 ((spec_l3Any_m x0 (spec_l1New_m x0)).2).h] :: [iBox p7 26 [.int .i64 0, .slice none 0 0]])) (cl_fn cb23 rfl) (fun W hm => spec_l3Any_c w.heap.size w [iBox p7 26 [.int .i64 0, .slice none 0 0]] W p8 _ x0 (spec_l1New_m x0) r5 s_0 hm) (Wd_none rfl) (by decide) (fun z9 => ?_)
 obtain ⟨G10, hG10⟩ : ∃ G, G = (spec_l3Any_m x0 (spec_l1New_m x0)) := ⟨_, rfl⟩
 rw [← hG10]
 refine tyRow_sp ?_
 rintro v11 rfl
 refine WM_form (n := 0) rfl ?_
 rintro A12 c13 rfl m14
 let I1 : It := iOwn (tSl tInt 3) [.slice A12 G10.1.Values.length c13] G10.1.Values
 refine sb 0 [.int .i64 G10.1.Id, .slice A12 G10.1.Values.length c13] [I1, iBox p8 73 [.slice A2 x0.length c3, .int .i64 ((G10.2.i : Nat) : Int), .int .i64 G10.2.h]] (pk [2, 0, 1]) type26 ?_
 refine nt' (CM_ret ?_)
 have he16 := (show spec_DrawFormatRow_m x0 = G10.1 from by subst hG10; exact rfl)
 refine QM_r1 rfl (RR_cell (n := 0) rfl rfl underlying26 type26 rfl) (fun W hm => ⟨[.int .i64 G10.1.Id, .slice A12 G10.1.Values.length c13], ?_, ?_⟩)
 ·first | rw [he16] | rfl
 ·rw [he16]; exact Mem.join (is := [I1]) (js := []) (fun _ _ hs => tyRow_join (x := G10.1) hs) (hm.pick [1] (by decide))

def spec_l1In_m (x0 : Int) (x1 : Int) (x2 : Int) : Bool :=
 cond (decide (x1 ≤ x0)) (decide (x0 ≤ x2)) false
theorem cb40 : Cb Tryz.prog 40 := ⟨f40, _, func40, rfl, by decide⟩
theorem spec_l1In_c (w : World) (x0 : Int) (x1 : Int) (x2 : Int) :
  Calls Tryz.prog 40 #[.int .i64 x0, .int .i64 x1, .int .i64 x2] w fun e w' => e = .returned (.bool (spec_l1In_m x0 x1 x2)) ∧ Below w.heap.size w w' := by
 refine ce3 (L := [(0, .int .i64 x0), (1, .int .i64 x1), (2, .int .i64 x2)]) (N := 15) func40 ?_
 refine sr (wa (nt' (sr (wm (wm ?_)))))
 refine wv (fun W hm => rv_geq rfl rfl) ?_
 refine wm ?_
 by_cases h1 : x1 ≤ x0
 ·have g2 := decide_eq_true h1
  refine wg vmv g2 ?_
  refine wg vmv g2 ?_
  refine wg (fun W hm => rv_leq rfl rfl) g2 ?_
  refine wv (vpT g2) ?_
  refine wa (nt' (CM_ret ?_))
  exact rtb (h := cond_t g2 (rfl))
 ·have g2 := decide_eq_false h1
  refine ws g2 ?_
  refine ws g2 ?_
  refine ws g2 ?_
  refine wv (vpF g2) ?_
  refine wa (nt' (CM_ret ?_))
  exact rtb (h := cond_f g2 (rfl))

theorem spec_l1In_fact {x a b : Int} (h : spec_l1In_m x a b = true) : a ≤ x ∧ x ≤ b := by
  unfold spec_l1In_m at h
  by_cases h1 : a ≤ x
  · rw [decide_eq_true h1] at h
    exact ⟨h1, of_decide_eq_true h⟩
  · rw [decide_eq_false h1] at h
    cases h
theorem spec_l1In_iff (x a b : Int) : spec_l1In_m x a b = decide (a ≤ x ∧ x ≤ b) := by
  unfold spec_l1In_m
  by_cases h1 : a ≤ x
  · by_cases h2 : x ≤ b
    · simp [h1, h2]
    · simp [h1, h2]
  · simp [h1]

def spec_IsRow_b1 (x0 : DRow) (k9 : Nat) : Bool ⊕ (Unit) :=
 cond (spec_l1In_m (gt x0.Values k9) 0 99) (Sum.inr ()) (Sum.inl false)
def spec_IsRow_m (x0 : DRow) : Bool :=
 Sum.elim id (fun (s : Unit) => cond (spec_l1In_m x0.Id 0 999) (((x0.Values.length : Nat) : Int) == 3) false) (rng (R := Bool) (fun k (_ : Unit) => spec_IsRow_b1 x0 k) (x0.Values.length - 0) 0 ())
theorem cb14 : Cb Tryz.prog 14 := ⟨f14, _, func14, rfl, by decide⟩
theorem spec_IsRow_c (w : World) (z0 : List Value) (x0 : DRow) (r_0 : tyRow.rd w w.heap.size z0 x0) :
  Calls Tryz.prog 14 #[.agg z0.toArray] w fun e w' => e = .returned (.bool (spec_IsRow_m x0)) ∧ Below w.heap.size w w' := by
 obtain ⟨v1, rfl, r2⟩ := tyRow_rd r_0
 obtain ⟨m3, A4, c5, rfl, q6, r7⟩ := rdS_op r2
 refine ce1 (L := [(0, .agg #[.int .i64 x0.Id, .slice A4 x0.Values.length c5])]) (N := 27) func14 ?_
 refine sr ?_
 refine WM_box rfl (Wd_none rfl) (by decide) (fun p8 => ?_)
 refine wa (nt' (CM_seq (sr (wa (nt' (CM_block ?_))))))
 let F1 := fun k (_ : Unit) => spec_IsRow_b1 x0 k
 let R2 := rng (R := Bool) F1
 let I3 : It := iBox p8 26 [.int .i64 x0.Id, .slice A4 x0.Values.length c5]
 refine CM_loop (σ := Nat × (Unit) × (Unit)) (fun s => [(1, .pointer (some (⟨p8, 0, none⟩ : Addr))), (3, .int .i64 ((s.1 : Nat) : Int))]) (fun s => [I3]) (fun s => s.1 ≤ x0.Values.length ∧ R2 (x0.Values.length - s.1) s.1 s.2.1 = R2 (x0.Values.length - 0) 0 ()) (fun s => x0.Values.length - s.1) (0, (), ()) sl2 (fun W hm => hm) ⟨(by omega), rfl⟩ ?_
 rintro ⟨k9, ⟨⟩, ⟨⟩⟩ H12
 obtain ⟨hk10, hF11⟩ : k9 ≤ x0.Values.length ∧ R2 (x0.Values.length - k9) k9 () = R2 (x0.Values.length - 0) 0 () := H12
 show CM Tryz.prog 27 _ _ _ _ [(1, .pointer (some (⟨p8, 0, none⟩ : Addr))), (3, .int .i64 ((k9 : Nat) : Int))] [I3]
 refine CM_seq (sr (wm ?_))
 refine wv (vf underlying26 rfl type24) ?_
 refine wv (vl 0 1 underlying24) ?_
 refine wv (vlen underlying24) ?_
 refine wv vlss ?_
 refine nt' ?_
 by_cases hl13 : k9 < x0.Values.length
 ·have g14 := dlT hl13
  refine CM_condT rfl g14 ?_
  refine CM_skip (QM_then (CM_seq (CM_block (sr ?_))))
  refine wv (vf underlying26 rfl type24) ?_
  refine wv (vl 0 1 underlying24) ?_
  refine wm ?_
  obtain ⟨a15, rfl, hb16, he17⟩ := q6 (by omega)
  refine wv (vix 1 k9 underlying24 type3) ?_
  refine wv (fun W hm => rv_load underlying3 rfl rfl ((hm.cell0 (show (a15.add (k9 * 1)).block < w.heap.size from by rw [add_block]; exact hb16.1)).trans (rdS_int he17 k9 (by omega)))) ?_
  refine wcv (cl_fn cb40 rfl) (fun W hm => spec_l1In_c W (gt x0.Values k9) 0 99) ?_
  refine wv vnot ?_
  refine nt' ?_
  rcases Bool.eq_false_or_eq_true (spec_l1In_m (gt x0.Values k9) 0 99) with g19 | g19
  ·
   have hw := spec_l1In_fact g19
   refine CM_condF rfl (nt g19) ?_
   refine CM_skip (QM_block_normal (QM_then (CM_region (wm ?_))))
   refine wv (vadN k9 1 (by omega)) ?_
   refine wa (WM_nil ?_)
   have hn20 := rng_next (R := Bool) (body := F1) (k := k9) (s := ()) (s' := ()) (show k9 < x0.Values.length from by omega) (cond_t g19 (rfl)) hF11
   exact QM_round (k9 + 1, (), ()) sl2 (fun W hm => hm) ⟨(by omega), hn20⟩ (rl (by omega))
  ·
   refine CM_condT rfl (nf g19) ?_
   refine sr (wa (nt' (CM_ret (QM_block_ret (QM_then_ret (QM_then_ret (QM_block_ret (QM_then_ret ?_))))))))
   exact rtb (h := fin_inl (rng_ret (body := F1) (k := k9) (s := ()) (show k9 < x0.Values.length from by omega) (cond_f g19 (rfl)) hF11) rfl)
 ·have g14 := dlF hl13
  refine CM_condF rfl g14 ?_
  refine CM_exit (QM_then_exit (QM_then_exit ?_))
  have hE21 : R2 (x0.Values.length - 0) 0 () = Sum.inr () := rng_end hl13 hF11
  refine QM_block_hit (QM_then (sr ?_))
  refine wv (vf underlying26 rfl type3) ?_
  refine wv (vl 0 0 underlying3) ?_
  refine wcv (cl_fn cb40 rfl) (fun W hm => spec_l1In_c W x0.Id 0 999) ?_
  refine wm ?_
  rcases Bool.eq_false_or_eq_true (spec_l1In_m x0.Id 0 999) with g23 | g23
  ·
   have hw := spec_l1In_fact g23
   refine wg (vf underlying26 rfl type24) g23 ?_
   refine wg (vl 0 1 underlying24) g23 ?_
   refine wg (vlen underlying24) g23 ?_
   refine wg (fun W hm => rv_eql rfl rfl) g23 ?_
   refine wv (vpT g23) ?_
   refine wa (nt' (CM_ret ?_))
   exact rtb (h := fin_inr hE21 (cond_t g23 (rfl)))
  ·
   refine ws g23 ?_
   refine ws g23 ?_
   refine ws g23 ?_
   refine ws g23 ?_
   refine wv (vpF g23) ?_
   refine wa (nt' (CM_ret ?_))
   exact rtb (h := fin_inr hE21 (cond_f g23 (rfl)))

def impl_within_m (x0 : Int) (x1 : Int) (x2 : Int) : Bool :=
 cond (decide (x1 ≤ x0)) (decide (x0 ≤ x2)) false
theorem cb53 : Cb Tryz.prog 53 := ⟨f53, _, func53, rfl, by decide⟩
theorem impl_within_c (w : World) (x0 : Int) (x1 : Int) (x2 : Int) :
  Calls Tryz.prog 53 #[.int .i64 x0, .int .i64 x1, .int .i64 x2] w fun e w' => e = .returned (.bool (impl_within_m x0 x1 x2)) ∧ Below w.heap.size w w' := by
 refine ce3 (L := [(0, .int .i64 x0), (1, .int .i64 x1), (2, .int .i64 x2)]) (N := 15) func53 ?_
 refine sr (wa (nt' (sr (wm (wm ?_)))))
 refine wv (fun W hm => rv_geq rfl rfl) ?_
 refine wm ?_
 by_cases h1 : x1 ≤ x0
 ·have g2 := decide_eq_true h1
  refine wg vmv g2 ?_
  refine wg vmv g2 ?_
  refine wg (fun W hm => rv_leq rfl rfl) g2 ?_
  refine wv (vpT g2) ?_
  refine wa (nt' (CM_ret ?_))
  exact rtb (h := cond_t g2 (rfl))
 ·have g2 := decide_eq_false h1
  refine ws g2 ?_
  refine ws g2 ?_
  refine ws g2 ?_
  refine wv (vpF g2) ?_
  refine wa (nt' (CM_ret ?_))
  exact rtb (h := cond_f g2 (rfl))

theorem impl_within_fact {x a b : Int} (h : impl_within_m x a b = true) : a ≤ x ∧ x ≤ b := by
  unfold impl_within_m at h
  by_cases h1 : a ≤ x
  · rw [decide_eq_true h1] at h
    exact ⟨h1, of_decide_eq_true h⟩
  · rw [decide_eq_false h1] at h
    cases h
theorem impl_within_iff (x a b : Int) : impl_within_m x a b = decide (a ≤ x ∧ x ≤ b) := by
  unfold impl_within_m
  by_cases h1 : a ≤ x
  · by_cases h2 : x ≤ b
    · simp [h1, h2]
    · simp [h1, h2]
  · simp [h1]

def impl_IsRow_b1 (x0 : DRow) (k9 : Nat) : Bool ⊕ (Unit) :=
 cond (impl_within_m (gt x0.Values k9) 0 99) (Sum.inr ()) (Sum.inl false)
def impl_IsRow_m (x0 : DRow) : Bool :=
 Sum.elim id (fun (s : Unit) => cond (impl_within_m x0.Id 0 999) (((x0.Values.length : Nat) : Int) == 3) false) (rng (R := Bool) (fun k (_ : Unit) => impl_IsRow_b1 x0 k) (x0.Values.length - 0) 0 ())
theorem cb25 : Cb Tryz.prog 25 := ⟨f25, _, func25, rfl, by decide⟩
theorem impl_IsRow_c (w : World) (z0 : List Value) (x0 : DRow) (r_0 : tyRow.rd w w.heap.size z0 x0) :
  Calls Tryz.prog 25 #[.agg z0.toArray] w fun e w' => e = .returned (.bool (impl_IsRow_m x0)) ∧ Below w.heap.size w w' := by
 obtain ⟨v1, rfl, r2⟩ := tyRow_rd r_0
 obtain ⟨m3, A4, c5, rfl, q6, r7⟩ := rdS_op r2
 refine ce1 (L := [(0, .agg #[.int .i64 x0.Id, .slice A4 x0.Values.length c5])]) (N := 25) func25 ?_
 refine sr ?_
 refine WM_box rfl (Wd_none rfl) (by decide) (fun p8 => ?_)
 refine wa (nt' (CM_seq (sr ?_)))
 refine wv (vf underlying26 rfl type24) ?_
 refine wv (vl 0 1 underlying24) ?_
 refine wv (vlen underlying24) ?_
 refine wm (nt' (CM_block ?_))
 let F1 := fun k (_ : Unit) => impl_IsRow_b1 x0 k
 let R2 := rng (R := Bool) F1
 let I3 : It := iBox p8 26 [.int .i64 x0.Id, .slice A4 x0.Values.length c5]
 refine CM_loop (σ := Nat × (Unit) × (Unit)) (fun s => [(1, .pointer (some (⟨p8, 0, none⟩ : Addr))), (6, .slice A4 x0.Values.length c5), (7, .int .i64 ((x0.Values.length : Nat) : Int)), (8, .int .i64 ((s.1 : Nat) : Int))]) (fun s => [I3]) (fun s => s.1 ≤ x0.Values.length ∧ R2 (x0.Values.length - s.1) s.1 s.2.1 = R2 (x0.Values.length - 0) 0 ()) (fun s => x0.Values.length - s.1) (0, (), ()) sl4 (fun W hm => hm) ⟨(by omega), rfl⟩ ?_
 rintro ⟨k9, ⟨⟩, ⟨⟩⟩ H12
 obtain ⟨hk10, hF11⟩ : k9 ≤ x0.Values.length ∧ R2 (x0.Values.length - k9) k9 () = R2 (x0.Values.length - 0) 0 () := H12
 show CM Tryz.prog 25 _ _ _ _ [(1, .pointer (some (⟨p8, 0, none⟩ : Addr))), (6, .slice A4 x0.Values.length c5), (7, .int .i64 ((x0.Values.length : Nat) : Int)), (8, .int .i64 ((k9 : Nat) : Int))] [I3]
 refine sr ?_
 refine wv vlss ?_
 refine nt' (CM_seq ?_)
 by_cases hl13 : k9 < x0.Values.length
 ·have g14 := dlT hl13
  refine CM_condT rfl g14 ?_
  refine CM_skip (QM_then (CM_seq (CM_block (sr ?_))))
  obtain ⟨a15, rfl, hb16, he17⟩ := q6 (by omega)
  refine wv (vix 1 k9 underlying24 type3) ?_
  refine wv (fun W hm => rv_load underlying3 rfl rfl ((hm.cell0 (show (a15.add (k9 * 1)).block < w.heap.size from by rw [add_block]; exact hb16.1)).trans (rdS_int he17 k9 (by omega)))) ?_
  refine wa (nt' (sr (wm ?_)))
  refine wcv (cl_fn cb53 rfl) (fun W hm => impl_within_c W (gt x0.Values k9) 0 99) ?_
  refine wv vnot ?_
  refine nt' ?_
  rcases Bool.eq_false_or_eq_true (impl_within_m (gt x0.Values k9) 0 99) with g19 | g19
  ·
   have hw := impl_within_fact g19
   refine CM_condF rfl (nt g19) ?_
   refine CM_skip (QM_block_normal (QM_then (CM_region ?_)))
   refine wv (vadN k9 1 (by omega)) ?_
   refine wm (WM_nil ?_)
   have hn20 := rng_next (R := Bool) (body := F1) (k := k9) (s := ()) (s' := ()) (show k9 < x0.Values.length from by omega) (cond_t g19 (rfl)) hF11
   exact QM_round (k9 + 1, (), ()) sl4 (fun W hm => hm) ⟨(by omega), hn20⟩ (rl (by omega))
  ·
   refine CM_condT rfl (nf g19) ?_
   refine sr (wa (nt' (CM_ret (QM_block_ret (QM_then_ret (QM_then_ret (QM_block_ret (QM_then_ret ?_))))))))
   exact rtb (h := fin_inl (rng_ret (body := F1) (k := k9) (s := ()) (show k9 < x0.Values.length from by omega) (cond_f g19 (rfl)) hF11) rfl)
 ·have g14 := dlF hl13
  refine CM_condF rfl g14 ?_
  refine CM_exit (QM_then_exit (QM_then_exit ?_))
  have hE21 : R2 (x0.Values.length - 0) 0 () = Sum.inr () := rng_end hl13 hF11
  refine QM_block_hit (QM_then (sr ?_))
  refine wv (vf underlying26 rfl type3) ?_
  refine wv (vl 0 0 underlying3) ?_
  refine wcv (cl_fn cb53 rfl) (fun W hm => impl_within_c W x0.Id 0 999) ?_
  refine wm ?_
  rcases Bool.eq_false_or_eq_true (impl_within_m x0.Id 0 999) with g23 | g23
  ·
   have hw := impl_within_fact g23
   refine wg (vf underlying26 rfl type24) g23 ?_
   refine wg (vl 0 1 underlying24) g23 ?_
   refine wg (vlen underlying24) g23 ?_
   refine wg (fun W hm => rv_eql rfl rfl) g23 ?_
   refine wv (vpT g23) ?_
   refine wa (nt' (CM_ret ?_))
   exact rtb (h := fin_inr hE21 (cond_t g23 (rfl)))
  ·
   refine ws g23 ?_
   refine ws g23 ?_
   refine ws g23 ?_
   refine ws g23 ?_
   refine wv (vpF g23) ?_
   refine wa (nt' (CM_ret ?_))
   exact rtb (h := fin_inr hE21 (cond_f g23 (rfl)))

def impl_FormatInt_m (x0 : Int) : ByteArray :=
 (itoaB x0)
theorem cb26 : Cb Tryz.prog 26 := ⟨f26, _, func26, rfl, by decide⟩
theorem impl_FormatInt_c (w : World) (x0 : Int) (hr : -9223372036854775808 ≤ x0 ∧ x0 ≤ 9223372036854775807) (hT : TabOK w.heap.size w) :
  Calls Tryz.prog 26 #[.int .i64 x0] w fun e w' => e = .returned (.string (impl_FormatInt_m x0)) ∧ Below w.heap.size w w' := by
 refine ce1 (L := [(0, .int .i64 x0)]) (N := 5) func26 ?_
 refine sr (wa (nt' (sr (wm ?_))))
 refine wcv (cl_fn ⟨f54, _, func54, rfl, by decide⟩ rfl) (fun W hm => itoa_c W x0 (by omega) (hT.mem hm)) ?_
 have hz1 := itoaB_sz x0 (by omega)
 refine wa (nt' (CM_ret ?_))
 exact QM_ret1 rfl rfl (fun W hm => ⟨ret_s (show impl_FormatInt_m x0 = (itoaB x0) from rfl), hm.below⟩)
theorem impl_FormatInt_sz (x : Int) (h : -9223372036854775808 ≤ x ∧ x ≤ 9223372036854775807) : (impl_FormatInt_m x).size ≤ 21 := itoaB_sz x h

def impl_numbersText_b1 (x0 : (List Int)) (k8 : Nat) (d9 : (List ByteArray)) : ByteArray ⊕ ((List ByteArray)) :=
 Sum.inr (d9 ++ [(impl_FormatInt_m (gt x0 k8))])
def impl_numbersText_m (x0 : (List Int)) : ByteArray :=
 Sum.elim id (fun (s : (List ByteArray)) => (joinB s (sB [44]))) (rng (R := ByteArray) (fun k (s : (List ByteArray)) => impl_numbersText_b1 x0 k s) (x0.length - 0) 0 [])
theorem cb27 : Cb Tryz.prog 27 := ⟨f27, _, func27, rfl, by decide⟩
theorem impl_numbersText_c (w : World) (z0 : Value) (x0 : (List Int)) (r_0 : rdS tInt w w.heap.size z0 x0) (hv : x0.length = 3 ∧ ∀ k, k < 3 → 0 ≤ gt x0 k ∧ gt x0 k ≤ 99) (hT : TabOK w.heap.size w) :
  Calls Tryz.prog 27 #[z0] w fun e w' => e = .returned (.string (impl_numbersText_m x0)) ∧ Below w.heap.size w w' := by
 obtain ⟨m1, A2, c3, rfl, q4, r5⟩ := rdS_op r_0
 refine ce1 (L := [(0, .slice A2 x0.length c3)]) (N := 21) func27 ?_
 refine sr (wa (nt' (sr ?_)))
 refine WM_build0 (E := tStr) underlying58 type9 (Wd_none rfl) (by decide) (fun p6 => ?_)
 refine wa (nt' (CM_seq (sr (wm ?_))))
 refine wv (vlen underlying24) ?_
 refine wm (nt' (CM_block ?_))
 let F1 := fun k (s : (List ByteArray)) => impl_numbersText_b1 x0 k s
 let R2 := rng (R := ByteArray) F1
 refine CM_loop (σ := Nat × ((List ByteArray)) × (Option Addr × Nat)) (fun s => [(3, .slice s.2.2.1 s.2.1.length s.2.2.2), (7, .slice A2 x0.length c3), (8, .int .i64 ((x0.length : Nat) : Int)), (9, .int .i64 ((s.1 : Nat) : Int))]) (fun s => [iOwn (tSl tStr 9) [.slice s.2.2.1 s.2.1.length s.2.2.2] s.2.1]) (fun s => s.1 ≤ x0.length ∧ R2 (x0.length - s.1) s.1 s.2.1 = R2 (x0.length - 0) 0 [] ∧ s.2.1.length ≤ 0 + s.1 ∧ s.2.1.length = s.1 ∧ ∀ z ∈ s.2.1, z.size ≤ 1000) (fun s => x0.length - s.1) (0, [], ((some ⟨p6, 0, none⟩), 0)) sl4 (fun W hm => hm) ⟨(by omega), rfl, Nat.le_refl _, rfl, (by intro z hz; cases hz)⟩ ?_
 rintro ⟨k8, d9, ⟨A10, c11⟩⟩ H14
 obtain ⟨hk12, hF13, hi15, hi16, hi17⟩ : k8 ≤ x0.length ∧ R2 (x0.length - k8) k8 d9 = R2 (x0.length - 0) 0 [] ∧ d9.length ≤ 0 + k8 ∧ d9.length = k8 ∧ ∀ z ∈ d9, z.size ≤ 1000 := H14
 show CM Tryz.prog 21 _ _ _ _ [(3, .slice A10 d9.length c11), (7, .slice A2 x0.length c3), (8, .int .i64 ((x0.length : Nat) : Int)), (9, .int .i64 ((k8 : Nat) : Int))] [iOwn (tSl tStr 9) [.slice A10 d9.length c11] d9]
 refine sr ?_
 refine wv vlss ?_
 refine nt' (CM_seq ?_)
 by_cases hl18 : k8 < x0.length
 ·have g19 := dlT hl18
  have hvk := hv.2 k8 (by omega)
  refine CM_condT rfl g19 ?_
  refine CM_skip (QM_then (CM_seq (CM_block (sr ?_))))
  obtain ⟨a20, rfl, hb21, he22⟩ := q4 (by omega)
  refine wv (vix 1 k8 underlying24 type3) ?_
  refine wv (fun W hm => rv_load underlying3 rfl rfl ((hm.cell0 (show (a20.add (k8 * 1)).block < w.heap.size from by rw [add_block]; exact hb21.1)).trans (rdS_int he22 k8 (by omega)))) ?_
  refine wa (nt' (CM_region (wm (wm ?_))))
  refine wcv (cl_fn cb26 rfl) (fun W hm => impl_FormatInt_c W (gt x0 k8) (⟨by omega, by omega⟩) (hT.mem hm)) ?_
  have hz23 := impl_FormatInt_sz (gt x0 k8) (by omega)
  refine WM_build (cs := [.string (impl_FormatInt_m (gt x0 k8))]) underlying58 type9 rfl (by decide) (by decide) rfl (by kernel_rfl) (Wd_none rfl) (by decide) (fun p24 => ?_)
  refine ap1 tStr 9 (.slice A10 d9.length c11) d9 (impl_FormatInt_m (gt x0 k8)) [] [] [.string (impl_FormatInt_m (gt x0 k8))] (fun W hm => hm) (fun _ _ hs => by cases (Sep.nil hs); exact (els_cons (tStr_own (by omega)) els_nil)) underlying58 type9 (show (d9.length + 1) * 16 ≤ 140737488355328 from by omega) (fun v25 => ?_)
  refine WM_form (n := 0) rfl ?_
  rintro A26 c27 rfl m28
  refine wa (WM_nil (QM_block_normal (QM_then (CM_region ?_))))
  refine wv (vadN k8 1 (by omega)) ?_
  refine wm (WM_nil ?_)
  have hn30 := rng_next (R := ByteArray) (body := F1) (k := k8) (s := d9) (s' := (d9 ++ [(impl_FormatInt_m (gt x0 k8))])) (show k8 < x0.length from by omega) (rfl) hF13
  exact QM_round (k8 + 1, (d9 ++ [(impl_FormatInt_m (gt x0 k8))]), (A26, c27)) sl4 (fun W hm => hm) ⟨(by omega), hn30, (show (d9 ++ [(impl_FormatInt_m (gt x0 k8))]).length ≤ 0 + (k8 + 1) from by first | omega | (simp only [List.length_append, List.length_cons, List.length_nil] at *; omega)), (show (d9 ++ [(impl_FormatInt_m (gt x0 k8))]).length = (k8 + 1) from by rw [List.length_append]; show _ + 1 = _; omega), (show ∀ z ∈ (d9 ++ [(impl_FormatInt_m (gt x0 k8))]), z.size ≤ 1000 from by intro z hz; rcases List.mem_append.1 hz with hz | hz; exact hi17 z hz; rw [List.mem_singleton.1 hz]; exact Nat.le_trans (impl_FormatInt_sz _ (by omega)) (by decide))⟩ (rl (by omega))
 ·have g19 := dlF hl18
  refine CM_condF rfl g19 ?_
  refine CM_exit (QM_then_exit (QM_then_exit ?_))
  have hE31 : R2 (x0.length - 0) 0 [] = Sum.inr d9 := rng_end hl18 hF13
  refine QM_block_hit (QM_then (sr (wm ?_)))
  refine WM_formO (n := 0) rfl (by omega) ?_
  rintro g32 rfl
  have hz34 : ByteArray.size (sB [44]) = 1 := rfl
  refine wcv (cl_fn ⟨f55, _, func55, rfl, by decide⟩ rfl) (fun W hm => join_c W g32 _ d9 (sB [44]) (hm.rdSI (n := 0) rfl) (show 1 ≤ List.length d9 ∧ List.length d9 ≤ 1000 from by omega) (by assumption) (by omega)) ?_
  have hz35 := joinB_sz (show 1 ≤ List.length d9 ∧ List.length d9 ≤ 1000 from by omega).2 (by assumption) (show ByteArray.size (sB [44]) ≤ 1000 by omega)
  refine wa (nt' (CM_ret ?_))
  exact QM_ret1 rfl rfl (fun W hm => ⟨ret_s (show impl_numbersText_m x0 = (joinB d9 (sB [44])) from fin_inr hE31 (rfl)), hm.below⟩)

theorem IsRow_same (x : DRow) : impl_IsRow_m x = spec_IsRow_m x := rfl
theorem IsRow_iff (r : DRow) : spec_IsRow_m r = true ↔ (∀ z ∈ r.Values, 0 ≤ z ∧ z ≤ 99) ∧ (0 ≤ r.Id ∧ r.Id ≤ 999) ∧ r.Values.length = 3 := by
  unfold spec_IsRow_m
  rw [rng_allB (xs := r.Values) (p := fun z => decide (0 ≤ z ∧ z ≤ 99)) (r := false) (fun k _ => by
    unfold spec_IsRow_b1
    rw [spec_l1In_iff]), spec_l1In_iff]
  have e : (r.Values.all fun z => decide (0 ≤ z ∧ z ≤ 99)) = true ↔ ∀ z ∈ r.Values, 0 ≤ z ∧ z ≤ 99 := by simp only [List.all_eq_true, decide_eq_true_eq]
  rw [← e]
  cases (r.Values.all fun z => decide (0 ≤ z ∧ z ≤ 99)) with
  | false => exact ⟨fun h => (by cases h), fun h => (by cases h.1)⟩
  | true =>
    show cond (decide (0 ≤ r.Id ∧ r.Id ≤ 999)) (((r.Values.length : Nat) : Int) == 3) false = true ↔ _
    by_cases h1 : 0 ≤ r.Id ∧ r.Id ≤ 999
    · rw [decide_eq_true h1, cond_true, beq_iff_eq]
      exact ⟨fun h => ⟨rfl, h1, by omega⟩, fun h => by omega⟩
    · rw [decide_eq_false h1]
      exact ⟨fun h => (by cases h), fun h => absurd h.2.1 h1⟩
theorem spec_Row_rng {x : DRow} (h : spec_IsRow_m x = true) : (0 ≤ x.Id ∧ x.Id ≤ 999) ∧ x.Values.length = 3 ∧ ∀ k, k < 3 → 0 ≤ gt x.Values k ∧ gt x.Values k ≤ 99 := by
  obtain ⟨h1, h2, h3⟩ := (IsRow_iff x).1 h
  exact ⟨h2, h3, fun k hk => h1 _ (gt_mem (by omega))⟩
theorem impl_Row_rng {x : DRow} (h : impl_IsRow_m x = true) : (0 ≤ x.Id ∧ x.Id ≤ 999) ∧ x.Values.length = 3 ∧ ∀ k, k < 3 → 0 ≤ gt x.Values k ∧ gt x.Values k ≤ 99 := spec_Row_rng ((IsRow_same x).symm.trans h)
theorem impl_numbersText_fold (x : List Int) : impl_numbersText_m x = joinB (x.map impl_FormatInt_m) (sB [44]) := by
  unfold impl_numbersText_m
  rw [rng_fold (xs := x) (f := fun d n => d ++ [impl_FormatInt_m n]) (b := fun k s => impl_numbersText_b1 x k s) (fun j s _ => rfl)]
  show joinB (List.foldl _ [] x) _ = _
  have h := foldl_filterMap (fun _ => true) impl_FormatInt_m x []
  have e : List.foldl (fun d n => d ++ [impl_FormatInt_m n]) [] x = x.map impl_FormatInt_m := by
    have h2 : List.filter (fun _ : Int => true) x = x := List.filter_eq_self.2 fun _ _ => rfl
    rw [h2] at h
    exact h
  rw [e]
theorem impl_numbersText_sz (x : List Int) (hv : x.length = 3 ∧ ∀ k, k < 3 → 0 ≤ gt x k ∧ gt x k ≤ 99) : (impl_numbersText_m x).size ≤ 2000000 := by
  rw [impl_numbersText_fold]
  refine joinB_sz (by rw [List.length_map]; omega) (fun z hz => ?_) (by decide)
  obtain ⟨n, hn, rfl⟩ := List.mem_map.1 hz
  obtain ⟨i, hi, rfl⟩ := List.mem_iff_getElem.1 hn
  have := hv.2 i (by omega)
  rw [gt_at hi] at this
  have h2 := impl_FormatInt_sz x[i] (by omega)
  omega
def impl_FormatRow_m (x0 : DRow) : ByteArray :=
 cond (impl_IsRow_m x0) (((impl_FormatInt_m x0.Id) ++ (sB [58])) ++ (impl_numbersText_m x0.Values)) (sB [])
theorem cb6 : Cb Tryz.prog 6 := ⟨f6, _, func6, rfl, by decide⟩
theorem impl_FormatRow_c (w : World) (z0 : List Value) (x0 : DRow) (r_0 : tyRow.rd w w.heap.size z0 x0) (hT : TabOK w.heap.size w) :
  Calls Tryz.prog 6 #[.agg z0.toArray] w fun e w' => e = .returned (.string (impl_FormatRow_m x0)) ∧ Below w.heap.size w w' := by
 obtain ⟨v1, rfl, r2⟩ := tyRow_rd r_0
 obtain ⟨m3, A4, c5, rfl, q6, r7⟩ := rdS_op r2
 refine ce1 (L := [(0, .agg #[.int .i64 x0.Id, .slice A4 x0.Values.length c5])]) (N := 14) func6 ?_
 refine sr ?_
 refine WM_box rfl (Wd_none rfl) (by decide) (fun p8 => ?_)
 refine wa (nt' (CM_seq (sr ?_)))
 refine wv (fun W hm => rv_loadN (cs := [.int .i64 x0.Id, .slice A4 x0.Values.length c5]) underlying26 type26 rfl rfl (hm.boxCells (n := 0) rfl)) ?_
 refine wcv (cl_fn cb25 rfl) (fun W hm => impl_IsRow_c W _ x0 (tyRow_mk (x := x0) (hm.rdS0 r7))) ?_
 refine wv vnot ?_
 refine nt' ?_
 rcases Bool.eq_false_or_eq_true (impl_IsRow_m x0) with g10 | g10
 ·
  have hrw := impl_Row_rng g10
  refine CM_condF rfl (nt g10) ?_
  refine CM_skip (QM_then (CM_seq ?_))
  refine CM_regionD (by kernel_rfl) (by kernel_rfl) ?_
  refine qv (vf underlying26 rfl type3) ?_
  refine qv (vl 0 0 underlying3) ?_
  refine QR_callV (cl_fn cb26 rfl) (fun W hm => impl_FormatInt_c W x0.Id (⟨by omega, by omega⟩) (hT.mem hm)) (Wd_none rfl) (by decide) ?_
  have hz11 := impl_FormatInt_sz x0.Id (by omega)
  have hz12 : ByteArray.size (sB [58]) = 1 := rfl
  refine qv (fun W hm => rv_addS (p := (impl_FormatInt_m x0.Id)) (q := (sB [58])) rfl rfl (by omega)) ?_
  have hz13 := sz_app (impl_FormatInt_m x0.Id) (sB [58])
  refine qv (vf underlying26 rfl type24) ?_
  refine qv (vl 0 1 underlying24) ?_
  refine QR_callV (cl_fn cb27 rfl) (fun W hm => impl_numbersText_c W _ x0.Values (hm.rdS0 r7) (hrw.2) (hT.mem hm)) (Wd_none rfl) (by decide) ?_
  have hzn := impl_numbersText_sz x0.Values hrw.2
  refine qv (fun W hm => rv_addS (p := ((impl_FormatInt_m x0.Id) ++ (sB [58]))) (q := (impl_numbersText_m x0.Values)) rfl rfl (by omega)) ?_
  have hz14 := sz_app ((impl_FormatInt_m x0.Id) ++ (sB [58])) (impl_numbersText_m x0.Values)
  refine qv (fun W hm => rv_assign rfl) ?_
  refine nq' (CM_ret ?_)
  exact QM_ret1 rfl rfl (fun W hm => ⟨ret_s (show impl_FormatRow_m x0 = (((impl_FormatInt_m x0.Id) ++ (sB [58])) ++ (impl_numbersText_m x0.Values)) from cond_t g10 (rfl)), hm.below⟩)
 ·
  refine CM_condT rfl (nf g10) ?_
  refine sr (wa (nt' (CM_ret (QM_then_ret ?_))))
  exact QM_ret1 rfl rfl (fun W hm => ⟨ret_s (show impl_FormatRow_m x0 = (sB []) from cond_f g10 (rfl)), hm.below⟩)
theorem impl_FormatRow_sz (x : DRow) : (impl_FormatRow_m x).size ≤ 3000000 := by
  unfold impl_FormatRow_m
  cases h : impl_IsRow_m x with
  | false => exact Nat.zero_le _
  | true =>
    have hr := impl_Row_rng h
    have h1 := impl_FormatInt_sz x.Id (by omega)
    have h2 := impl_numbersText_sz x.Values hr.2
    have h58 : ByteArray.size (sB [58]) = 1 := rfl
    rw [cond_true, sz_app, sz_app]
    omega

def impl_ParseInt_m (x0 : ByteArray) : (Int × Bool) :=
 cond (atoOk x0) (cond (eqS (impl_FormatInt_m (atoV x0)) x0) (cond (decide ((atoV x0) < (-999999999))) (0, false) (cond (decide (999999999 < (atoV x0))) (0, false) ((atoV x0), true))) (0, false)) (0, false)
theorem cb29 : Cb Tryz.prog 29 := ⟨f29, _, func29, rfl, by decide⟩
theorem impl_ParseInt_c (w : World) (x0 : ByteArray) (hs_0 : x0.size ≤ 1048576) (hT : TabOK w.heap.size w) :
  Calls Tryz.prog 29 #[.string x0] w fun e w' => e = .returned (.tuple #[.int .i64 ((impl_ParseInt_m x0).1), .bool ((impl_ParseInt_m x0).2)]) ∧ Below w.heap.size w w' := by
 refine ce1 (L := [(0, .string x0)]) (N := 28) func29 ?_
 refine sr (wa (wa (nt' (sr (wm ?_)))))
 rcases Bool.eq_false_or_eq_true (atoOk x0) with g2 | g2
 ·
  have hv3 := atoV_bd x0
  refine wcv (cl_fn ⟨f57, _, func57, rfl, by decide⟩ rfl) (fun W hm => atoi_t W x0 (by omega) g2) ?_
  refine wm ?_
  refine wv (fun W hm => rv_extract rfl rfl) ?_
  refine wv (fun W hm => rv_extract rfl rfl) ?_
  refine wa (wa (nt' (CM_seq (sr (wm ?_)))))
  refine wv (fun W hm => rv_neqIF und_err rfl) ?_
  refine wm ?_
  refine WM_val vmv (Wd_some rfl rfl rfl rfl) rfl (by decide) ?_
  refine WM_callV (cl_fn cb26 rfl) (fun W hm => impl_FormatInt_c W (atoV x0) (⟨by omega, by omega⟩) (hT.mem hm)) (Wd_some rfl rfl rfl rfl) (by decide) ?_
  have hz4 := impl_FormatInt_sz (atoV x0) (by omega)
  refine WM_val vmv (Wd_some rfl rfl rfl rfl) rfl (by decide) ?_
  refine WM_val (fun W hm => rv_neqS (p := (impl_FormatInt_m (atoV x0))) (q := x0) underlying9 rfl rfl) (Wd_some rfl rfl rfl rfl) rfl (by decide) ?_
  refine wv (vpF rfl) ?_
  refine wm ?_
  rcases Bool.eq_false_or_eq_true (eqS (impl_FormatInt_m (atoV x0)) x0) with g6 | g6
  ·
   refine wg vmv (nt g6) ?_
   refine wg vlss (nt g6) ?_
   refine wv (vpF (nt g6)) ?_
   refine wm ?_
   by_cases h7 : (atoV x0) < (-999999999)
   ·have g8 := decide_eq_true h7
    refine ws g8 ?_
    refine ws g8 ?_
    refine wv (vpT g8) ?_
    refine nt' ?_
    refine CM_condT rfl rfl ?_
    refine sr (wa (wa (nt' (CM_ret (QM_then_ret ?_)))))
    have he9 := (show impl_ParseInt_m x0 = (0, false) from cond_t g2 (cond_t g6 (cond_t g8 (rfl))))
    exact QM_r2 rfl (RR_tmp rfl) (RR_tmp rfl) (fun W hm => ⟨by rw [he9]; first | done | rfl, hm.below⟩)
   ·have g8 := decide_eq_false h7
    refine wg vmv g8 ?_
    refine wg (fun W hm => rv_gtr rfl rfl) g8 ?_
    refine wv (vpF g8) ?_
    refine nt' ?_
    by_cases h10 : 999999999 < (atoV x0)
    ·have g11 := decide_eq_true h10
     refine CM_condT rfl g11 ?_
     refine sr (wa (wa (nt' (CM_ret (QM_then_ret ?_)))))
     have he12 := (show impl_ParseInt_m x0 = (0, false) from cond_t g2 (cond_t g6 (cond_f g8 (cond_t g11 (rfl)))))
     exact QM_r2 rfl (RR_tmp rfl) (RR_tmp rfl) (fun W hm => ⟨by rw [he12]; first | done | rfl, hm.below⟩)
    ·have g11 := decide_eq_false h10
     refine CM_condF rfl g11 ?_
     refine CM_skip (QM_then (sr (wm (wa (wa (nt' (CM_ret ?_)))))))
     have he13 := (show impl_ParseInt_m x0 = ((atoV x0), true) from cond_t g2 (cond_t g6 (cond_f g8 (cond_f g11 (rfl)))))
     exact QM_r2 rfl (RR_tmp rfl) (RR_tmp rfl) (fun W hm => ⟨by rw [he13]; first | done | rfl, hm.below⟩)
  ·
   refine ws (nf g6) ?_
   refine ws (nf g6) ?_
   refine wv (vpT (nf g6)) ?_
   refine wm ?_
   refine wk ?_
   refine wk ?_
   refine wv (vpT rfl) ?_
   refine nt' ?_
   refine CM_condT rfl rfl ?_
   refine sr (wa (wa (nt' (CM_ret (QM_then_ret ?_)))))
   have he14 := (show impl_ParseInt_m x0 = (0, false) from cond_t g2 (cond_f g6 (rfl)))
   exact QM_r2 rfl (RR_tmp rfl) (RR_tmp rfl) (fun W hm => ⟨by rw [he14]; first | done | rfl, hm.below⟩)
 ·
  have hv15 := atoV_bd x0
  refine WM_callW (χ := Nat) (val := fun x => .tuple #[.int .i64 (atoV x0), .iface 116 (.pointer (some ⟨x, 0, none⟩))]) (js := fun _ => []) (cl_fn ⟨f57, _, func57, rfl, by decide⟩ rfl) (fun W hm => (atoi_f W x0 (by omega) g2 (hT.mem hm)).mono (fun _ _ ⟨x, h1, h2⟩ => ⟨x, h1, hm.ext h2⟩)) (Wd_none rfl) (by decide) (fun n16 => ?_)
  refine wm ?_
  refine wv (fun W hm => rv_extract rfl rfl) ?_
  refine wv (fun W hm => rv_extract rfl rfl) ?_
  refine wa (wa (nt' (CM_seq (sr (wm ?_)))))
  refine wv (fun W hm => rv_neqIT und_err rfl) ?_
  refine wm ?_
  refine wk ?_
  refine wk ?_
  refine wk ?_
  refine wk ?_
  refine wv (vpT rfl) ?_
  refine wm ?_
  refine wk ?_
  refine wk ?_
  refine wv (vpT rfl) ?_
  refine wm ?_
  refine wk ?_
  refine wk ?_
  refine wv (vpT rfl) ?_
  refine nt' ?_
  refine CM_condT rfl rfl ?_
  refine sr (wa (wa (nt' (CM_ret (QM_then_ret ?_)))))
  have he17 := (show impl_ParseInt_m x0 = (0, false) from cond_f g2 (rfl))
  exact QM_r2 rfl (RR_tmp rfl) (RR_tmp rfl) (fun W hm => ⟨by rw [he17]; first | done | rfl, hm.below⟩)

def impl_parseNumbers_b1 (x0 : ByteArray) (k10 : Nat) (d11 : (List Int)) : ((List Int) × Bool) ⊕ ((List Int)) :=
 cond ((impl_ParseInt_m (gt (splS x0 (sB [44])) k10)).2) (Sum.inr (d11 ++ [(impl_ParseInt_m (gt (splS x0 (sB [44])) k10)).1])) (Sum.inl ([], false))
def impl_parseNumbers_m (x0 : ByteArray) : ((List Int) × Bool) :=
 Sum.elim id (fun (s : (List Int)) => (s, true)) (rng (R := ((List Int) × Bool)) (fun k (s : (List Int)) => impl_parseNumbers_b1 x0 k s) ((splS x0 (sB [44])).length - 0) 0 [])
theorem cb30 : Cb Tryz.prog 30 := ⟨f30, _, func30, rfl, by decide⟩
theorem impl_parseNumbers_c (w : World) (x0 : ByteArray) (hs_0 : x0.size ≤ 1048576) (hT : TabOK w.heap.size w) :
  Calls Tryz.prog 30 #[.string x0] w fun e w' => ∃ v : Value, e = .returned (.tuple #[v, .bool ((impl_parseNumbers_m x0).2)]) ∧ Mem w.heap.size w [iOwn (tSl tInt 3) [v] (impl_parseNumbers_m x0).1] w' := by
 refine ce1 (L := [(0, .string x0)]) (N := 30) func30 ?_
 refine sr (wa (wa (nt' (sr ?_))))
 refine WM_build0 (E := tInt) underlying24 type3 (Wd_none rfl) (by decide) (fun p1 => ?_)
 refine wa (nt' (CM_seq (sr (wm ?_))))
 have hz3 : ByteArray.size (sB [44]) = 1 := rfl
 refine WM_callW (χ := Value) (val := fun x => x) (js := fun x => (iOwn (tSl tStr 9) [x] (splS x0 (sB [44])) :: [iOwn (tSl tInt 3) [.slice (some ⟨p1, 0, none⟩) 0 0] []])) (cl_fn ⟨f34, _, func34, rfl, by decide⟩ rfl) (fun W hm => split_c W x0 (sB [44]) (by omega) (by omega) (hT.mem hm) hm) (Wd_none rfl) (by decide) (fun v4 => ?_)
 refine WM_form (n := 0) rfl ?_
 rintro A5 c6 rfl m7
 have hl9 := splS_le x0 (sB [44]) (by omega)
 refine wv (vlen underlying58) ?_
 refine wm (nt' (CM_block ?_))
 let F1 := fun k (s : (List Int)) => impl_parseNumbers_b1 x0 k s
 let R2 := rng (R := ((List Int) × Bool)) F1
 let I4 : It := iOwn (tSl tStr 9) [.slice A5 (splS x0 (sB [44])).length c6] (splS x0 (sB [44]))
 refine CM_loop (σ := Nat × ((List Int)) × (Option Addr × Nat)) (fun s => [(4, .slice s.2.2.1 s.2.1.length s.2.2.2), (11, .slice A5 (splS x0 (sB [44])).length c6), (12, .int .i64 (((splS x0 (sB [44])).length : Nat) : Int)), (13, .int .i64 ((s.1 : Nat) : Int))]) (fun s => [I4, iOwn (tSl tInt 3) [.slice s.2.2.1 s.2.1.length s.2.2.2] s.2.1]) (fun s => s.1 ≤ (splS x0 (sB [44])).length ∧ R2 ((splS x0 (sB [44])).length - s.1) s.1 s.2.1 = R2 ((splS x0 (sB [44])).length - 0) 0 [] ∧ s.2.1.length ≤ 0 + s.1) (fun s => (splS x0 (sB [44])).length - s.1) (0, [], ((some ⟨p1, 0, none⟩), 0)) sl4 (fun W hm => hm) ⟨(by omega), rfl, Nat.le_refl _⟩ ?_
 rintro ⟨k10, d11, ⟨A12, c13⟩⟩ H16
 obtain ⟨hk14, hF15, hi17⟩ : k10 ≤ (splS x0 (sB [44])).length ∧ R2 ((splS x0 (sB [44])).length - k10) k10 d11 = R2 ((splS x0 (sB [44])).length - 0) 0 [] ∧ d11.length ≤ 0 + k10 := H16
 show CM Tryz.prog 30 _ _ _ _ [(4, .slice A12 d11.length c13), (11, .slice A5 (splS x0 (sB [44])).length c6), (12, .int .i64 (((splS x0 (sB [44])).length : Nat) : Int)), (13, .int .i64 ((k10 : Nat) : Int))] [I4, iOwn (tSl tInt 3) [.slice A12 d11.length c13] d11]
 refine sr ?_
 refine wv vlss ?_
 refine nt' (CM_seq ?_)
 by_cases hl18 : k10 < (splS x0 (sB [44])).length
 ·have g19 := dlT hl18
  refine CM_condT rfl g19 ?_
  refine CM_skip (QM_then (CM_seq (CM_block (sr ?_))))
  refine WM_formO (n := 0) rfl (by omega) ?_
  rintro g20 rfl
  refine wv (vix 1 k10 underlying58 type9) ?_
  refine wv (fun W hm => rv_load underlying9 rfl rfl (hm.ownStr (i := 0) rfl (by omega))) ?_
  have hz21 := splS_gt x0 (sB [44]) k10
  refine wa (nt' (sr (wm ?_)))
  refine wcv (cl_fn cb29 rfl) (fun W hm => impl_ParseInt_c W (gt (splS x0 (sB [44])) k10) (by omega) (hT.mem hm)) ?_
  refine wm ?_
  refine wv (fun W hm => rv_extract rfl rfl) ?_
  refine wv (fun W hm => rv_extract rfl rfl) ?_
  refine wa (wa (nt' (CM_seq (sr (wm ?_)))))
  refine wv vnot ?_
  refine nt' ?_
  rcases Bool.eq_false_or_eq_true ((impl_ParseInt_m (gt (splS x0 (sB [44])) k10)).2) with g23 | g23
  ·
   refine CM_condF rfl (nt g23) ?_
   refine CM_skip (QM_then (CM_region (wm (wm ?_))))
   let K3 : List Value := [.int .i64 ((impl_ParseInt_m (gt (splS x0 (sB [44])) k10)).1)]
   refine WM_build (cs := K3) underlying24 type3 rfl (by decide) (by decide) rfl (by kernel_rfl) (Wd_none rfl) (by decide) (fun p24 => ?_)
   refine ap1 tInt 3 (.slice A12 d11.length c13) d11 ((impl_ParseInt_m (gt (splS x0 (sB [44])) k10)).1) [] [iOwn (tSl tStr 9) [.slice (some ⟨g20, 0, none⟩) (splS x0 (sB [44])).length c6] (splS x0 (sB [44]))] K3 (pk [0, 2, 1]) (fun _ _ hs => by cases (Sep.nil hs); exact (els_cons tInt_own els_nil)) underlying24 type3 (show (d11.length + 1) * 8 ≤ 140737488355328 from by omega) (fun v25 => ?_)
   refine WM_form (n := 0) rfl ?_
   rintro A26 c27 rfl m28
   refine wa (WM_nil (QM_block_normal (QM_then (CM_region ?_))))
   refine wv (vadN k10 1 (by omega)) ?_
   refine wm (WM_nil ?_)
   have hn30 := rng_next (R := ((List Int) × Bool)) (body := F1) (k := k10) (s := d11) (s' := (d11 ++ [(impl_ParseInt_m (gt (splS x0 (sB [44])) k10)).1])) (show k10 < (splS x0 (sB [44])).length from by omega) (cond_t g23 (rfl)) hF15
   exact QM_round (k10 + 1, (d11 ++ [(impl_ParseInt_m (gt (splS x0 (sB [44])) k10)).1]), (A26, c27)) sl4 (pk [1, 0]) ⟨(by omega), hn30, (show (d11 ++ [(impl_ParseInt_m (gt (splS x0 (sB [44])) k10)).1]).length ≤ 0 + (k10 + 1) from by first | omega | (simp only [List.length_append, List.length_cons, List.length_nil] at *; omega))⟩ (show (splS x0 (sB [44])).length - (k10 + 1) < (splS x0 (sB [44])).length - k10 from by omega)
  ·
   refine CM_condT rfl (nf g23) ?_
   refine sr (wa (wa (nt' (CM_ret (QM_then_ret (QM_block_ret (QM_then_ret (QM_then_ret (QM_block_ret (QM_then_ret ?_))))))))))
   refine QM_items (fun W hm => hm.addNil (E := tInt) (e := 3)) ?_
   have he32 := (show impl_parseNumbers_m x0 = ([], false) from fin_inl (rng_ret (body := F1) (k := k10) (s := d11) (show k10 < (splS x0 (sB [44])).length from by omega) (cond_f g23 (rfl)) hF15) rfl)
   refine QM_r2 rfl (RR_tmp rfl) (RR_tmp rfl) (fun W hm => ⟨.slice none 0 0, ?_, ?_⟩)
   ·first | rw [he32] | rfl
    try rfl
   ·rw [he32]; exact (hm.pick [0] (by decide))
 ·have g19 := dlF hl18
  refine CM_condF rfl g19 ?_
  refine CM_exit (QM_then_exit (QM_then_exit ?_))
  have hE33 : R2 ((splS x0 (sB [44])).length - 0) 0 [] = Sum.inr d11 := rng_end hl18 hF15
  refine QM_block_hit (QM_then (sr (wm (wa (wa (nt' (CM_ret ?_)))))))
  have he34 := (show impl_parseNumbers_m x0 = (d11, true) from fin_inr hE33 (rfl))
  refine QM_r2 rfl (RR_tmp rfl) (RR_tmp rfl) (fun W hm => ⟨.slice A12 d11.length c13, ?_, ?_⟩)
  ·first | rw [he34] | rfl
   try rfl
  ·rw [he34]; exact (hm.pick [1] (by decide))

def impl_ParseRow_m (x0 : ByteArray) : (DRow × Bool) :=
 cond ((impl_ParseInt_m (cutA x0 (sB [58]))).2) (cond ((impl_parseNumbers_m (cutZ x0 (sB [58]))).2) (cond (impl_IsRow_m (⟨(impl_ParseInt_m (cutA x0 (sB [58]))).1, (impl_parseNumbers_m (cutZ x0 (sB [58]))).1⟩ : DRow)) (cond (eqS (impl_FormatRow_m (⟨(impl_ParseInt_m (cutA x0 (sB [58]))).1, (impl_parseNumbers_m (cutZ x0 (sB [58]))).1⟩ : DRow)) x0) ((⟨(impl_ParseInt_m (cutA x0 (sB [58]))).1, (impl_parseNumbers_m (cutZ x0 (sB [58]))).1⟩ : DRow), true) ((⟨0, []⟩ : DRow), false)) ((⟨0, []⟩ : DRow), false)) ((⟨0, []⟩ : DRow), false)) ((⟨0, []⟩ : DRow), false)
theorem cb7 : Cb Tryz.prog 7 := ⟨f7, _, func7, rfl, by decide⟩
theorem impl_ParseRow_c (w : World) (x0 : ByteArray) (hs_0 : x0.size ≤ 1048576) (hT : TabOK w.heap.size w) :
  Calls Tryz.prog 7 #[.string x0] w fun e w' => ∃ v : List Value, e = .returned (.tuple #[.agg v.toArray, .bool ((impl_ParseRow_m x0).2)]) ∧ Mem w.heap.size w [iOwn tyRow v (impl_ParseRow_m x0).1] w' := by
 refine ce1 (L := [(0, .string x0)]) (N := 50) func7 ?_
 refine sr ?_
 refine WM_alloc type26 rfl (Wd_none rfl) (by decide) (fun p1 => ?_)
 refine wa (nt' (sr (wm ?_)))
 have hz2 : ByteArray.size (sB [58]) = 1 := rfl
 refine wcv (cl_fn ⟨f28, _, func28, rfl, by decide⟩ rfl) (fun W hm => cut_c W x0 (sB [58]) (by omega) (hT.mem hm)) ?_
 have hz3 := cut_sz x0 (sB [58])
 refine wm ?_
 refine wv (fun W hm => rv_extract rfl rfl) ?_
 refine wv (fun W hm => rv_extract rfl rfl) ?_
 refine wv (fun W hm => rv_extract rfl rfl) ?_
 refine wa (wa (wa (nt' (sr (wm ?_)))))
 refine wcv (cl_fn cb29 rfl) (fun W hm => impl_ParseInt_c W (cutA x0 (sB [58])) (by omega) (hT.mem hm)) ?_
 refine wm ?_
 refine wv (fun W hm => rv_extract rfl rfl) ?_
 refine wv (fun W hm => rv_extract rfl rfl) ?_
 refine wa (wa (nt' (sr (wm ?_))))
 refine WM_call (χ := Value) (val := fun x => .tuple #[x, .bool ((impl_parseNumbers_m (cutZ x0 (sB [58]))).2)]) (js := fun x => [iOwn (tSl tInt 3) [x] ((impl_parseNumbers_m (cutZ x0 (sB [58]))).1)]) (cl_fn cb30 rfl) (fun W hm => impl_parseNumbers_c W (cutZ x0 (sB [58])) (by omega) (hT.mem hm)) (Wd_none rfl) (by decide) (fun z4 => ?_)
 refine WM_form (n := 0) rfl ?_
 rintro A5 c6 rfl m7
 refine wm ?_
 refine wv (fun W hm => rv_extract rfl rfl) ?_
 refine wv (fun W hm => rv_extract rfl rfl) ?_
 refine wa (wa (nt' (sr (wm (wm ?_)))))
 let K1 : List Value := [.int .i64 ((impl_ParseInt_m (cutA x0 (sB [58]))).1), .slice A5 ((impl_parseNumbers_m (cutZ x0 (sB [58]))).1).length c6]
 refine wv (fun W hm => rv_build (cs := K1) rfl (by kernel_rfl)) ?_
 refine WM_alloc type26 rfl (Wd_none rfl) (by decide) (fun p9 => ?_)
 let K2 : List Value := [.slice A5 ((impl_parseNumbers_m (cutZ x0 (sB [58]))).1).length c6]
 let I3 : It := iOwn (tSl tInt 3) K2 ((impl_parseNumbers_m (cutZ x0 (sB [58]))).1)
 refine sb 0 K1 [I3, iBox p1 26 [.int .i64 0, .slice none 0 0]] (fun W hm => hm) type26 ?_
 refine nt' (CM_seq (sr (wm ?_)))
 refine wv vnot ?_
 refine wm ?_
 rcases Bool.eq_false_or_eq_true ((impl_ParseInt_m (cutA x0 (sB [58]))).2) with g11 | g11
 ·
  refine wg vmv (nt g11) ?_
  refine wg vnot (nt g11) ?_
  refine wv (vpF (nt g11)) ?_
  refine wm ?_
  rcases Bool.eq_false_or_eq_true ((impl_parseNumbers_m (cutZ x0 (sB [58]))).2) with g13 | g13
  ·
   refine wg (fun W hm => rv_loadN (cs := K1) underlying26 type26 rfl rfl (hm.boxCells (n := 0) rfl)) (nt g13) ?_
   refine WM_callV (cl_fn cb25 rfl) (fun W hm => impl_IsRow_c W _ (⟨(impl_ParseInt_m (cutA x0 (sB [58]))).1, (impl_parseNumbers_m (cutZ x0 (sB [58]))).1⟩ : DRow) (tyRow_mk (x := (⟨(impl_ParseInt_m (cutA x0 (sB [58]))).1, (impl_parseNumbers_m (cutZ x0 (sB [58]))).1⟩ : DRow)) (hm.rdSI (n := 1) rfl))) (Wd_some rfl rfl rfl (bw (nt g13) rfl)) (by decide) ?_
   refine wg vnot (nt g13) ?_
   refine wv (vpF (nt g13)) ?_
   refine wm ?_
   rcases Bool.eq_false_or_eq_true (impl_IsRow_m (⟨(impl_ParseInt_m (cutA x0 (sB [58]))).1, (impl_parseNumbers_m (cutZ x0 (sB [58]))).1⟩ : DRow)) with g15 | g15
   ·
    refine wg (fun W hm => rv_loadN (cs := K1) underlying26 type26 rfl rfl (hm.boxCells (n := 0) rfl)) (nt g15) ?_
    refine WM_callV (cl_fn cb6 rfl) (fun W hm => impl_FormatRow_c W _ (⟨(impl_ParseInt_m (cutA x0 (sB [58]))).1, (impl_parseNumbers_m (cutZ x0 (sB [58]))).1⟩ : DRow) (tyRow_mk (x := (⟨(impl_ParseInt_m (cutA x0 (sB [58]))).1, (impl_parseNumbers_m (cutZ x0 (sB [58]))).1⟩ : DRow)) (hm.rdSI (n := 1) rfl)) (hT.mem hm)) (Wd_some rfl rfl rfl (bw (nt g15) rfl)) (by decide) ?_
    refine wg vmv (nt g15) ?_
    refine wg (fun W hm => rv_neqS (p := (impl_FormatRow_m (⟨(impl_ParseInt_m (cutA x0 (sB [58]))).1, (impl_parseNumbers_m (cutZ x0 (sB [58]))).1⟩ : DRow))) (q := x0) underlying9 rfl rfl) (nt g15) ?_
    refine wv (vpF (nt g15)) ?_
    refine nt' ?_
    rcases Bool.eq_false_or_eq_true (eqS (impl_FormatRow_m (⟨(impl_ParseInt_m (cutA x0 (sB [58]))).1, (impl_parseNumbers_m (cutZ x0 (sB [58]))).1⟩ : DRow)) x0) with g17 | g17
    ·
     refine CM_condF rfl (nt g17) ?_
     refine CM_skip (QM_then (sr ?_))
     refine wv (fun W hm => rv_loadN (cs := K1) underlying26 type26 rfl rfl (hm.boxCells (n := 0) rfl)) ?_
     refine sb 0 K1 [iBox p9 26 K1, I3] (pk [2, 0, 1]) type26 ?_
     refine wa (nt' (CM_ret ?_))
     have he18 := (show impl_ParseRow_m x0 = ((⟨(impl_ParseInt_m (cutA x0 (sB [58]))).1, (impl_parseNumbers_m (cutZ x0 (sB [58]))).1⟩ : DRow), true) from cond_t g11 (cond_t g13 (cond_t g15 (cond_t g17 (rfl)))))
     refine QM_r2 rfl (RR_cell (n := 0) rfl rfl underlying26 type26 rfl) (RR_tmp rfl) (fun W hm => ⟨K1, ?_, ?_⟩)
     ·first | rw [he18] | rfl
      try rfl
     ·rw [he18]; exact Mem.join (is := [I3]) (js := []) (fun _ _ hs => tyRow_join (x := (⟨(impl_ParseInt_m (cutA x0 (sB [58]))).1, (impl_parseNumbers_m (cutZ x0 (sB [58]))).1⟩ : DRow)) hs) (hm.pick [2] (by decide))
    ·
     refine CM_condT rfl (nf g17) ?_
     refine sr ?_
     refine wv (fun W hm => rv_build (cs := [.int .i64 0, .slice none 0 0]) rfl (by kernel_rfl)) ?_
     refine sb 0 [.int .i64 0, .slice none 0 0] [iBox p9 26 K1, I3] (pk [2, 0, 1]) type26 ?_
     refine wa (nt' (CM_ret (QM_then_ret ?_)))
     refine QM_items (fun W hm => hm.addNil (E := tInt) (e := 3)) ?_
     have he20 := (show impl_ParseRow_m x0 = ((⟨0, []⟩ : DRow), false) from cond_t g11 (cond_t g13 (cond_t g15 (cond_f g17 (rfl)))))
     refine QM_r2 rfl (RR_cell (n := 1) rfl rfl underlying26 type26 rfl) (RR_tmp rfl) (fun W hm => ⟨[.int .i64 0, .slice none 0 0], ?_, ?_⟩)
     ·first | rw [he20] | rfl
      try rfl
     ·rw [he20]; exact Mem.join (is := [iOwn (tSl tInt 3) [.slice none 0 0] []]) (js := []) (fun _ _ hs => tyRow_join (x := (⟨0, []⟩ : DRow)) hs) (hm.pick [0] (by decide))
   ·
    refine ws (nf g15) ?_
    refine ws (nf g15) ?_
    refine ws (nf g15) ?_
    refine ws (nf g15) ?_
    refine wv (vpT (nf g15)) ?_
    refine nt' ?_
    refine CM_condT rfl rfl ?_
    refine sr ?_
    refine wv (fun W hm => rv_build (cs := [.int .i64 0, .slice none 0 0]) rfl (by kernel_rfl)) ?_
    refine sb 0 [.int .i64 0, .slice none 0 0] [iBox p9 26 K1, I3] (pk [2, 0, 1]) type26 ?_
    refine wa (nt' (CM_ret (QM_then_ret ?_)))
    refine QM_items (fun W hm => hm.addNil (E := tInt) (e := 3)) ?_
    have he22 := (show impl_ParseRow_m x0 = ((⟨0, []⟩ : DRow), false) from cond_t g11 (cond_t g13 (cond_f g15 (rfl))))
    refine QM_r2 rfl (RR_cell (n := 1) rfl rfl underlying26 type26 rfl) (RR_tmp rfl) (fun W hm => ⟨[.int .i64 0, .slice none 0 0], ?_, ?_⟩)
    ·first | rw [he22] | rfl
     try rfl
    ·rw [he22]; exact Mem.join (is := [iOwn (tSl tInt 3) [.slice none 0 0] []]) (js := []) (fun _ _ hs => tyRow_join (x := (⟨0, []⟩ : DRow)) hs) (hm.pick [0] (by decide))
  ·
   refine ws (nf g13) ?_
   refine ws (nf g13) ?_
   refine ws (nf g13) ?_
   refine wv (vpT (nf g13)) ?_
   refine wm ?_
   refine wk ?_
   refine wk ?_
   refine wk ?_
   refine wk ?_
   refine wv (vpT rfl) ?_
   refine nt' ?_
   refine CM_condT rfl rfl ?_
   refine sr ?_
   refine wv (fun W hm => rv_build (cs := [.int .i64 0, .slice none 0 0]) rfl (by kernel_rfl)) ?_
   refine sb 0 [.int .i64 0, .slice none 0 0] [iBox p9 26 K1, I3] (pk [2, 0, 1]) type26 ?_
   refine wa (nt' (CM_ret (QM_then_ret ?_)))
   refine QM_items (fun W hm => hm.addNil (E := tInt) (e := 3)) ?_
   have he24 := (show impl_ParseRow_m x0 = ((⟨0, []⟩ : DRow), false) from cond_t g11 (cond_f g13 (rfl)))
   refine QM_r2 rfl (RR_cell (n := 1) rfl rfl underlying26 type26 rfl) (RR_tmp rfl) (fun W hm => ⟨[.int .i64 0, .slice none 0 0], ?_, ?_⟩)
   ·first | rw [he24] | rfl
    try rfl
   ·rw [he24]; exact Mem.join (is := [iOwn (tSl tInt 3) [.slice none 0 0] []]) (js := []) (fun _ _ hs => tyRow_join (x := (⟨0, []⟩ : DRow)) hs) (hm.pick [0] (by decide))
 ·
  refine ws (nf g11) ?_
  refine ws (nf g11) ?_
  refine wv (vpT (nf g11)) ?_
  refine wm ?_
  refine wk ?_
  refine wk ?_
  refine wk ?_
  refine wv (vpT rfl) ?_
  refine wm ?_
  refine wk ?_
  refine wk ?_
  refine wk ?_
  refine wk ?_
  refine wv (vpT rfl) ?_
  refine nt' ?_
  refine CM_condT rfl rfl ?_
  refine sr ?_
  refine wv (fun W hm => rv_build (cs := [.int .i64 0, .slice none 0 0]) rfl (by kernel_rfl)) ?_
  refine sb 0 [.int .i64 0, .slice none 0 0] [iBox p9 26 K1, I3] (pk [2, 0, 1]) type26 ?_
  refine wa (nt' (CM_ret (QM_then_ret ?_)))
  refine QM_items (fun W hm => hm.addNil (E := tInt) (e := 3)) ?_
  have he26 := (show impl_ParseRow_m x0 = ((⟨0, []⟩ : DRow), false) from cond_f g11 (rfl))
  refine QM_r2 rfl (RR_cell (n := 1) rfl rfl underlying26 type26 rfl) (RR_tmp rfl) (fun W hm => ⟨[.int .i64 0, .slice none 0 0], ?_, ?_⟩)
  ·first | rw [he26] | rfl
   try rfl
  ·rw [he26]; exact Mem.join (is := [iOwn (tSl tInt 3) [.slice none 0 0] []]) (js := []) (fun _ _ hs => tyRow_join (x := (⟨0, []⟩ : DRow)) hs) (hm.pick [0] (by decide))

def spec_l3Rows_b1 (x0b : List Int) (k12 : Nat) (d13 : (List DRow)) (s16 : Int) (s17 : Int) (s18 : Nat) (s19 : Int) : ((List DRow) × Dl1Cur) ⊕ (((List DRow) × Int × Int × Nat × Int) ⊕ ((List DRow) × Int × Int × Nat × Int)) :=
 cond (decide (0 < s17)) (Sum.inr (Sum.inr ((d13 ++ [(spec_l3Row_m x0b (⟨s18, s19⟩ : Dl1Cur) s16).1]), (IntKind.i64.wrap ((IntKind.i64.wrap (s16 + 1)) + ((spec_l1Below_m x0b (spec_l3Row_m x0b (⟨s18, s19⟩ : Dl1Cur) s16).2 3).1))), (IntKind.i64.wrap (s17 - 1)), ((spec_l1Below_m x0b (spec_l3Row_m x0b (⟨s18, s19⟩ : Dl1Cur) s16).2 3).2).i, ((spec_l1Below_m x0b (spec_l3Row_m x0b (⟨s18, s19⟩ : Dl1Cur) s16).2 3).2).h))) (Sum.inr (Sum.inl (d13, s16, s17, s18, s19)))
def spec_l3Rows_m (x0b : List Int) (x0 : Dl1Cur) (x1 : Int) : ((List DRow) × Dl1Cur) :=
 Sum.elim id (fun (s : (List DRow) × Int × Int × Nat × Int) => (s.1, (⟨s.2.2.2.1, s.2.2.2.2⟩ : Dl1Cur))) (rngb (R := ((List DRow) × Dl1Cur)) (fun k (s : (List DRow) × Int × Int × Nat × Int) => spec_l3Rows_b1 x0b k s.1 s.2.1 s.2.2.1 s.2.2.2.1 s.2.2.2.2) (((spec_l1Below_m x0b ((spec_l1Below_m x0b x0 3).2) (IntKind.i64.wrap (x1 + 1))).1).toNat + 1 - 0) 0 ([], (spec_l1Below_m x0b x0 3).1, (spec_l1Below_m x0b ((spec_l1Below_m x0b x0 3).2) (IntKind.i64.wrap (x1 + 1))).1, (spec_l1Below_m x0b ((spec_l1Below_m x0b x0 3).2) (IntKind.i64.wrap (x1 + 1))).2.i, (spec_l1Below_m x0b ((spec_l1Below_m x0b x0 3).2) (IntKind.i64.wrap (x1 + 1))).2.h))
theorem cb63 : Cb Tryz.prog 63 := ⟨f63, _, func63, rfl, by decide⟩
theorem spec_l3Rows_c (B : Nat) (w0 : World) (is : List It) (w : World) (p : Nat) (z0 : Value) (x0b : List Int) (x0 : Dl1Cur) (r_0 : rdS tU8 w0 B z0 x0b) (x1 : Int) (s_0 : x0b.length ≤ 68719476736) (hx1 : 0 ≤ x1 ∧ x1 ≤ 100) (hm : Mem B w0 (iBox p 73 [z0, .int .i64 ((x0.i : Nat) : Int), .int .i64 x0.h] :: is) w) :
  Calls Tryz.prog 63 #[.pointer (some ⟨p, 0, none⟩), .int .i64 x1] w fun e w' => ∃ x : Value, e = .returned (x) ∧ Mem B w0 (iOwn (tSl tyRow 26) [x] ((spec_l3Rows_m x0b x0 x1).1) :: iBox p 73 [z0, .int .i64 ((((spec_l3Rows_m x0b x0 x1).2).i : Nat) : Int), .int .i64 ((spec_l3Rows_m x0b x0 x1).2).h] :: is) w' := by
 obtain ⟨m1, A2, c3, rfl, q4, r5⟩ := rdS_op r_0
 refine call_enterW (L := [(0, .pointer (some ⟨p, 0, none⟩)), (1, .int .i64 x1)]) (N := 31) func63 rfl rfl (Nat.le_of_ble_eq_true rfl) (argsL_cons rfl (argsL_cons rfl argsL_nil)) hm ?_
 have l6 : x0b.length ≤ 68719476736 := s_0
 refine sr (wa (nt' (sr ?_)))
 refine WM_build0 (E := tyRow) underlying37 type26 (Wd_none rfl) (by decide) (fun p7 => ?_)
 refine wa (nt' (sr (wm ?_)))
 let I3 : It := iOwn (tSl tyRow 26) [.slice (some ⟨p7, 0, none⟩) 0 0] []
 refine WM_callW (χ := Unit) (val := fun x => .int .i64 ((spec_l1Below_m x0b x0 3).1)) (js := fun x => (iBox p 73 [.slice A2 x0b.length c3, .int .i64 ((((spec_l1Below_m x0b x0 3).2).i : Nat) : Int), .int .i64 ((spec_l1Below_m x0b x0 3).2).h] :: (I3 :: is))) (cl_fn cb51 rfl) (fun W hm => spec_l1Below_c B w0 (I3 :: is) W p _ x0b x0 r5 3 s_0 (hm.front (n := 1) rfl)) (Wd_none rfl) (by decide) (fun z9 => ?_)
 have hb := spec_l1Below_rng x0b x0 3
 refine wa (nt' (CM_seq (sr (wm (wm ?_)))))
 refine wv vadd ?_
 refine WM_callW (χ := Unit) (val := fun x => .int .i64 ((spec_l1Below_m x0b ((spec_l1Below_m x0b x0 3).2) (IntKind.i64.wrap (x1 + 1))).1)) (js := fun x => (iBox p 73 [.slice A2 x0b.length c3, .int .i64 ((((spec_l1Below_m x0b ((spec_l1Below_m x0b x0 3).2) (IntKind.i64.wrap (x1 + 1))).2).i : Nat) : Int), .int .i64 ((spec_l1Below_m x0b ((spec_l1Below_m x0b x0 3).2) (IntKind.i64.wrap (x1 + 1))).2).h] :: (I3 :: is))) (cl_fn cb51 rfl) (fun W hm => spec_l1Below_c B w0 (I3 :: is) W p _ x0b ((spec_l1Below_m x0b x0 3).2) r5 (IntKind.i64.wrap (x1 + 1)) s_0 (hm.front (n := 0) rfl)) (Wd_none rfl) (by decide) (fun z10 => ?_)
 have hb := spec_l1Below_rng x0b ((spec_l1Below_m x0b x0 3).2) (IntKind.i64.wrap (x1 + 1))
 obtain ⟨G11, hG11⟩ : ∃ G, G = (spec_l1Below_m x0b ((spec_l1Below_m x0b x0 3).2) (IntKind.i64.wrap (x1 + 1))) := ⟨_, rfl⟩
 rw [← hG11]
 rw [← hG11] at hb
 refine wa (nt' ?_)
 have hw2 := wrap_id (n := x1 + 1) (by omega) (by omega)
 let F1 := fun k (s : (List DRow) × Int × Int × Nat × Int) => spec_l3Rows_b1 x0b k s.1 s.2.1 s.2.2.1 s.2.2.2.1 s.2.2.2.2
 let R2 := rngb (R := ((List DRow) × Dl1Cur)) F1
 refine CM_cut (σ := ((List DRow) × Int × Int × Nat × Int) × (Option Addr × Nat)) (fun s => [(5, .slice s.2.1 s.1.1.length s.2.2)]) (fun s => (iBox p 73 [.slice A2 x0b.length c3, .int .i64 ((s.1.2.2.2.1 : Nat) : Int), .int .i64 s.1.2.2.2.2] :: iOwn (tSl tyRow 26) [.slice s.2.1 s.1.1.length s.2.2] s.1.1 :: is)) (fun s => R2 ((G11.1).toNat + 1 - 0) 0 ([], (spec_l1Below_m x0b x0 3).1, G11.1, G11.2.i, G11.2.h) = Sum.inr s.1) ?_ ?_
 ·
  refine CM_block ?_
  refine CM_loop (σ := Nat × ((List DRow) × Int × Int × Nat × Int) × (Option Addr × Nat)) (fun s => [(0, .pointer (some (⟨p, 0, none⟩ : Addr))), (5, .slice s.2.2.1 s.2.1.1.length s.2.2.2), (6, .int .i64 s.2.1.2.1), (7, .int .i64 s.2.1.2.2.1)]) (fun s => (iBox p 73 [.slice A2 x0b.length c3, .int .i64 ((s.2.1.2.2.2.1 : Nat) : Int), .int .i64 s.2.1.2.2.2.2] :: iOwn (tSl tyRow 26) [.slice s.2.2.1 s.2.1.1.length s.2.2.2] s.2.1.1 :: is)) (fun s => s.1 + ((s.2.1.2.2.1).toNat) + 1 ≤ (G11.1).toNat + 1 ∧ R2 ((G11.1).toNat + 1 - s.1) s.1 s.2.1 = R2 ((G11.1).toNat + 1 - 0) 0 ([], (spec_l1Below_m x0b x0 3).1, G11.1, G11.2.i, G11.2.h) ∧ s.2.1.1.length ≤ 0 + s.1 ∧ 0 ≤ s.2.1.2.2.1 ∧ s.2.1.2.2.1 ≤ 101) (fun s => (G11.1).toNat + 1 - s.1) (0, ([], (spec_l1Below_m x0b x0 3).1, G11.1, G11.2.i, G11.2.h), ((some ⟨p7, 0, none⟩), 0)) sl4 (fun W hm => hm) ⟨(show 0 + ((G11.1).toNat) + 1 ≤ (G11.1).toNat + 1 from by omega), rfl, Nat.le_refl _, (show 0 ≤ G11.1 from by omega), (show G11.1 ≤ 101 from by omega)⟩ ?_
  rintro ⟨k12, ⟨d13, s16, s17, s18, s19⟩, ⟨A14, c15⟩⟩ H22
  obtain ⟨hk20, hF21, hi23, hi24, hi25⟩ : k12 + ((s17).toNat) + 1 ≤ (G11.1).toNat + 1 ∧ R2 ((G11.1).toNat + 1 - k12) k12 (d13, s16, s17, s18, s19) = R2 ((G11.1).toNat + 1 - 0) 0 ([], (spec_l1Below_m x0b x0 3).1, G11.1, G11.2.i, G11.2.h) ∧ d13.length ≤ 0 + k12 ∧ 0 ≤ s17 ∧ s17 ≤ 101 := H22
  let I4 : It := iOwn (tSl tyRow 26) [.slice A14 d13.length c15] d13
  show CM Tryz.prog 31 _ _ _ _ [(0, .pointer (some (⟨p, 0, none⟩ : Addr))), (5, .slice A14 d13.length c15), (6, .int .i64 s16), (7, .int .i64 s17)] (iBox p 73 [.slice A2 x0b.length c3, .int .i64 ((s18 : Nat) : Int), .int .i64 s19] :: I4 :: is)
  have hw1 := wrap_id (n := s17 - 1) (by omega) (by omega)
  have hw2 := wrap_id (n := x1 + 1) (by omega) (by omega)
  refine CM_seq (sr (wm ?_))
  refine wv (fun W hm => rv_gtr rfl rfl) ?_
  refine nt' ?_
  by_cases h26 : 0 < s17
  ·have g27 := decide_eq_true h26
   refine CM_condT rfl g27 ?_
   refine CM_skip (QM_then (CM_seq (CM_block (sr (wm (wm (wm ?_)))))))
   refine WM_callW (χ := List Value) (val := fun x => .agg x.toArray) (js := fun x => (iOwn tyRow x ((spec_l3Row_m x0b (⟨s18, s19⟩ : Dl1Cur) s16).1) :: iBox p 73 [.slice A2 x0b.length c3, .int .i64 ((((spec_l3Row_m x0b (⟨s18, s19⟩ : Dl1Cur) s16).2).i : Nat) : Int), .int .i64 ((spec_l3Row_m x0b (⟨s18, s19⟩ : Dl1Cur) s16).2).h] :: (I4 :: is))) (cl_fn cb50 rfl) (fun W hm => spec_l3Row_c B w0 (I4 :: is) W p _ x0b (⟨s18, s19⟩ : Dl1Cur) r5 s16 s_0 (hm.front (n := 0) rfl)) (Wd_none rfl) (by decide) (fun z28 => ?_)
   obtain ⟨G29, hG29⟩ : ∃ G, G = (spec_l3Row_m x0b (⟨s18, s19⟩ : Dl1Cur) s16) := ⟨_, rfl⟩
   rw [← hG29]
   refine tyRow_sp ?_
   rintro v30 rfl
   refine WM_form (n := 0) rfl ?_
   rintro A31 c32 rfl m33
   refine WM_build (cs := [.int .i64 G29.1.Id, .slice A31 G29.1.Values.length c32]) underlying37 type26 rfl (by decide) (by decide) rfl (by kernel_rfl) (Wd_none rfl) (by decide) (fun p35 => ?_)
   refine ap1 tyRow 26 (.slice A14 d13.length c15) d13 G29.1 [iOwn (tSl tInt 3) [.slice A31 G29.1.Values.length c32] G29.1.Values] (iBox p 73 [.slice A2 x0b.length c3, .int .i64 ((G29.2.i : Nat) : Int), .int .i64 G29.2.h] :: is) [.int .i64 G29.1.Id, .slice A31 G29.1.Values.length c32] (fun W hm => (((hm.front (n := 1) rfl).front (n := 3) rfl).front (n := 2) rfl)) (fun _ _ hs => Els.single (tyRow_join (x := G29.1) hs)) underlying37 type26 (show (d13.length + 1) * 32 ≤ 140737488355328 from by omega) (fun v36 => ?_)
   refine WM_form (n := 0) rfl ?_
   rintro A37 c38 rfl m39
   refine wa (nt' (CM_region (wm ?_)))
   refine wv vadd ?_
   refine wm ?_
   let I5 : It := iOwn (tSl tyRow 26) [.slice A37 (d13 ++ [G29.1]).length c38] (d13 ++ [G29.1])
   refine WM_callW (χ := Unit) (val := fun x => .int .i64 ((spec_l1Below_m x0b G29.2 3).1)) (js := fun x => (iBox p 73 [.slice A2 x0b.length c3, .int .i64 ((((spec_l1Below_m x0b G29.2 3).2).i : Nat) : Int), .int .i64 ((spec_l1Below_m x0b G29.2 3).2).h] :: (I5 :: is))) (cl_fn cb51 rfl) (fun W hm => spec_l1Below_c B w0 (I5 :: is) W p _ x0b G29.2 r5 3 s_0 (hm.front (n := 1) rfl)) (Wd_none rfl) (by decide) (fun z41 => ?_)
   have hb := spec_l1Below_rng x0b G29.2 3
   refine wv vadd ?_
   refine wa (WM_nil (QM_block_normal (QM_then (CM_region (wm ?_)))))
   refine wv (fun W hm => rv_sub rfl rfl) ?_
   refine wa (WM_nil ?_)
   have hn42 := rngb_next (R := ((List DRow) × Dl1Cur)) (body := F1) (k := k12) (s := (d13, s16, s17, s18, s19)) (s' := ((d13 ++ [G29.1]), (IntKind.i64.wrap ((IntKind.i64.wrap (s16 + 1)) + ((spec_l1Below_m x0b G29.2 3).1))), (IntKind.i64.wrap (s17 - 1)), ((spec_l1Below_m x0b G29.2 3).2).i, ((spec_l1Below_m x0b G29.2 3).2).h)) (show k12 < (G11.1).toNat + 1 from by omega) (by subst hG11 hG29; exact cond_t g27 (rfl)) hF21
   exact QM_round (k12 + 1, ((d13 ++ [G29.1]), (IntKind.i64.wrap ((IntKind.i64.wrap (s16 + 1)) + ((spec_l1Below_m x0b G29.2 3).1))), (IntKind.i64.wrap (s17 - 1)), ((spec_l1Below_m x0b G29.2 3).2).i, ((spec_l1Below_m x0b G29.2 3).2).h), (A37, c38)) sl4 (fun W hm => hm) ⟨(show (k12 + 1) + (((IntKind.i64.wrap (s17 - 1))).toNat) + 1 ≤ (G11.1).toNat + 1 from by omega), hn42, (show (d13 ++ [G29.1]).length ≤ 0 + (k12 + 1) from by first | omega | (simp only [List.length_append, List.length_cons, List.length_nil] at *; omega)), (show 0 ≤ (IntKind.i64.wrap (s17 - 1)) from by first | omega | (simp only [List.length_append, List.length_cons, List.length_nil] at *; omega)), (show (IntKind.i64.wrap (s17 - 1)) ≤ 101 from by first | omega | (simp only [List.length_append, List.length_cons, List.length_nil] at *; omega))⟩ (show (G11.1).toNat + 1 - (k12 + 1) < (G11.1).toNat + 1 - k12 from by omega)
  ·have g27 := decide_eq_false h26
   refine CM_condF rfl g27 ?_
   refine CM_exit (QM_then_exit (QM_then_exit (QM_block_hit ?_)))
   have hE43 := rngb_brk (R := ((List DRow) × Dl1Cur)) (body := F1) (k := k12) (s := (d13, s16, s17, s18, s19)) (s' := (d13, s16, s17, s18, s19)) (show k12 < (G11.1).toNat + 1 from by omega) (by subst hG11; exact cond_f g27 (rfl)) hF21
   exact QM_cut_normal ((d13, s16, s17, s18, s19), (A14, c15)) (subL_cons rfl subL_nil) (fun W hm => hm) hE43
 ·
  rintro ⟨⟨d13, s16, s17, s18, s19⟩, ⟨A14, c15⟩⟩ H45
  have hE44 : R2 ((G11.1).toNat + 1 - 0) 0 ([], (spec_l1Below_m x0b x0 3).1, G11.1, G11.2.i, G11.2.h) = Sum.inr (d13, s16, s17, s18, s19) := H45
  show QM 31 _ _ _ .normal [(5, .slice A14 d13.length c15)] (iBox p 73 [.slice A2 x0b.length c3, .int .i64 ((s18 : Nat) : Int), .int .i64 s19] :: iOwn (tSl tyRow 26) [.slice A14 d13.length c15] d13 :: is)
  refine QM_then (sr (wm (wa (nt' (CM_ret ?_)))))
  have he46 := (show spec_l3Rows_m x0b x0 x1 = (d13, (⟨s18, s19⟩ : Dl1Cur)) from by subst hG11; exact fin_inr hE44 (rfl))
  refine QM_r1 rfl (RR_tmp rfl) (fun W hm => ⟨.slice A14 d13.length c15, ?_, ?_⟩)
  ·first | rw [he46] | rfl
  ·rw [he46]; exact ((hm.front (n := 0) rfl).front (n := 1) rfl)

def spec_AreRows_b1 (x0 : (List DRow)) (k6 : Nat) : Bool ⊕ (Unit) :=
 cond (spec_IsRow_m (gt x0 k6)) (cond (decide (0 < ((k6 : Nat) : Int))) (cond (decide (((gt x0 k6).Id) ≤ ((gt x0 (k6 - 1)).Id))) (Sum.inl false) (Sum.inr ())) (Sum.inr ())) (Sum.inl false)
def spec_AreRows_m (x0 : (List DRow)) : Bool :=
 Sum.elim id (fun (s : Unit) => (decide (((x0.length : Nat) : Int) ≤ 32))) (rng (R := Bool) (fun k (_ : Unit) => spec_AreRows_b1 x0 k) (x0.length - 0) 0 ())
theorem cb20 : Cb Tryz.prog 20 := ⟨f20, _, func20, rfl, by decide⟩
theorem spec_AreRows_c (w : World) (z0 : Value) (x0 : (List DRow)) (r_0 : rdS tyRow w w.heap.size z0 x0) :
  Calls Tryz.prog 20 #[z0] w fun e w' => e = .returned (.bool (spec_AreRows_m x0)) ∧ Below w.heap.size w w' := by
 obtain ⟨m1, A2, c3, rfl, q4, r5⟩ := rdS_op r_0
 refine ce1 (L := [(0, .slice A2 x0.length c3)]) (N := 37) func20 ?_
 refine sr (wa (nt' (CM_seq (sr (wa (nt' (CM_block ?_)))))))
 let F1 := fun k (_ : Unit) => spec_AreRows_b1 x0 k
 let R2 := rng (R := Bool) F1
 refine CM_loop (σ := Nat × (Unit) × (Unit)) (fun s => [(0, .slice A2 x0.length c3), (3, .int .i64 ((s.1 : Nat) : Int))]) (fun s => []) (fun s => s.1 ≤ x0.length ∧ R2 (x0.length - s.1) s.1 s.2.1 = R2 (x0.length - 0) 0 ()) (fun s => x0.length - s.1) (0, (), ()) sl2 (fun W hm => hm) ⟨(by omega), rfl⟩ ?_
 rintro ⟨k6, ⟨⟩, ⟨⟩⟩ H9
 obtain ⟨hk7, hF8⟩ : k6 ≤ x0.length ∧ R2 (x0.length - k6) k6 () = R2 (x0.length - 0) 0 () := H9
 show CM Tryz.prog 37 _ _ _ _ [(0, .slice A2 x0.length c3), (3, .int .i64 ((k6 : Nat) : Int))] []
 refine CM_seq (sr (wm (wm ?_)))
 refine wv (vlen underlying37) ?_
 refine wv vlss ?_
 refine nt' ?_
 by_cases hl10 : k6 < x0.length
 ·have g11 := dlT hl10
  refine CM_condT rfl g11 ?_
  refine CM_skip (QM_then (CM_seq (CM_block (CM_seq ?_))))
  refine CM_regionD (by kernel_rfl) (by kernel_rfl) ?_
  refine qm (qm ?_)
  obtain ⟨a12, rfl, hb13, he14⟩ := q4 (by omega)
  refine qv (vix 2 k6 underlying37 type26) ?_
  obtain ⟨_, e18, hc15⟩ := he14 k6 _ (gt_some (show k6 < x0.length from by omega))
  obtain ⟨v16, rfl, r17⟩ := tyRow_rd e18
  obtain ⟨m19, A20, c21, rfl, q22, r23⟩ := rdS_op r17
  refine qv (fun W hm => rv_loadN (cs := [.int .i64 ((gt x0 k6).Id), .slice A20 ((gt x0 k6).Values).length c21]) underlying26 type26 rfl rfl (hm.elCells (show (a12.add (k6 * 2)).block < w.heap.size from by rw [add_block]; exact hb13.1) hc15)) ?_
  refine QR_callV (cl_fn cb14 rfl) (fun W hm => spec_IsRow_c W _ (gt x0 k6) (tyRow_mk (x := (gt x0 k6)) (hm.rdS0 r23))) (Wd_none rfl) (by decide) ?_
  refine qv vnot ?_
  refine qm ?_
  rcases Bool.eq_false_or_eq_true (spec_IsRow_m (gt x0 k6)) with g25 | g25
  ·
   refine qg vmv (nt g25) ?_
   refine qg (fun W hm => rv_gtr rfl rfl) (nt g25) ?_
   refine qg vmv (nt g25) ?_
   by_cases h26 : 0 < ((k6 : Nat) : Int)
   ·have g27 := decide_eq_true h26
    refine qg vmv g27 ?_
    refine qg vmv g27 ?_
    refine qg (vix 2 k6 underlying37 type26) g27 ?_
    refine qg (vf underlying26 rfl type3) g27 ?_
    refine qg (fun W hm => rv_load underlying3 rfl rfl ((hm.cell0 (show ((a12.add (k6 * 2)).add 0).block < w.heap.size from by rw [add_block, add_block]; exact hb13.1)).trans (hc15 0 _ rfl))) g27 ?_
    refine qg vmv g27 ?_
    refine qg vmv g27 ?_
    refine qg (fun W hm => rv_subN (p := k6) (q := 1) rfl rfl (by omega) (by omega)) g27 ?_
    refine qg (fun W hm => rv_index (sz := 2) (k := k6 - 1) underlying37 type26 rfl rfl rfl (by omega)) g27 ?_
    refine qg (vf underlying26 rfl type3) g27 ?_
    obtain ⟨_, e31, hc28⟩ := he14 (k6 - 1) _ (gt_some (show (k6 - 1) < x0.length from by omega))
    obtain ⟨v29, rfl, r30⟩ := tyRow_rd e31
    obtain ⟨m32, A33, c34, rfl, q35, r36⟩ := rdS_op r30
    refine qg (fun W hm => rv_load underlying3 rfl rfl ((hm.cell0 (show ((a12.add ((k6 - 1) * 2)).add 0).block < w.heap.size from by rw [add_block, add_block]; exact hb13.1)).trans (hc28 0 _ rfl))) g27 ?_
    refine qg (fun W hm => rv_leq rfl rfl) g27 ?_
    refine qg (vpT g27) (nt g25) ?_
    refine qv (vpF (nt g25)) ?_
    refine nq' ?_
    by_cases h37 : ((gt x0 k6).Id) ≤ ((gt x0 (k6 - 1)).Id)
    ·have g38 := decide_eq_true h37
     refine CM_condT rfl g38 ?_
     refine sr (wa (nt' (CM_ret (QM_block_ret (QM_then_ret (QM_then_ret (QM_block_ret (QM_then_ret ?_))))))))
     exact rtb (h := fin_inl (rng_ret (body := F1) (k := k6) (s := ()) (show k6 < x0.length from by omega) (cond_t g25 (cond_t g27 (cond_t g38 (rfl)))) hF8) rfl)
    ·have g38 := decide_eq_false h37
     refine CM_condF rfl g38 ?_
     refine CM_skip (QM_block_normal (QM_then (CM_region (wm ?_))))
     refine wv (vadN k6 1 (by omega)) ?_
     refine wa (WM_nil ?_)
     have hn39 := rng_next (R := Bool) (body := F1) (k := k6) (s := ()) (s' := ()) (show k6 < x0.length from by omega) (cond_t g25 (cond_t g27 (cond_f g38 (rfl)))) hF8
     exact QM_round (k6 + 1, (), ()) sl2 (fun W hm => hm) ⟨(by omega), hn39⟩ (rl (by omega))
   ·have g27 := decide_eq_false h26
    refine qs g27 ?_
    refine qs g27 ?_
    refine qs g27 ?_
    refine qs g27 ?_
    refine qs g27 ?_
    refine qs g27 ?_
    refine qs g27 ?_
    refine qs g27 ?_
    refine qs g27 ?_
    refine qs g27 ?_
    refine qs g27 ?_
    refine qs g27 ?_
    refine qg (vpF g27) (nt g25) ?_
    refine qv (vpF (nt g25)) ?_
    refine nq' ?_
    refine CM_condF rfl rfl ?_
    refine CM_skip (QM_block_normal (QM_then (CM_region (wm ?_))))
    refine wv (vadN k6 1 (by omega)) ?_
    refine wa (WM_nil ?_)
    have hn40 := rng_next (R := Bool) (body := F1) (k := k6) (s := ()) (s' := ()) (show k6 < x0.length from by omega) (cond_t g25 (cond_f g27 (rfl))) hF8
    exact QM_round (k6 + 1, (), ()) sl2 (fun W hm => hm) ⟨(by omega), hn40⟩ (rl (by omega))
  ·
   refine qs (nf g25) ?_
   refine qs (nf g25) ?_
   refine qs (nf g25) ?_
   refine qu ?_
   refine qu ?_
   refine qu ?_
   refine qu ?_
   refine qu ?_
   refine qu ?_
   refine qu ?_
   refine qu ?_
   refine qu ?_
   refine qu ?_
   refine qu ?_
   refine qu ?_
   refine qs (nf g25) ?_
   refine qv (vpT (nf g25)) ?_
   refine nq' ?_
   refine CM_condT rfl rfl ?_
   refine sr (wa (nt' (CM_ret (QM_block_ret (QM_then_ret (QM_then_ret (QM_block_ret (QM_then_ret ?_))))))))
   exact rtb (h := fin_inl (rng_ret (body := F1) (k := k6) (s := ()) (show k6 < x0.length from by omega) (cond_f g25 (rfl)) hF8) rfl)
 ·have g11 := dlF hl10
  refine CM_condF rfl g11 ?_
  refine CM_exit (QM_then_exit (QM_then_exit ?_))
  have hE41 : R2 (x0.length - 0) 0 () = Sum.inr () := rng_end hl10 hF8
  refine QM_block_hit (QM_then (sr (wm ?_)))
  refine wv (vlen underlying37) ?_
  refine wv (fun W hm => rv_leq rfl rfl) ?_
  refine wa (nt' (CM_ret ?_))
  exact rtb (h := fin_inr hE41 (rfl))

def spec_NewStore_b2 (x0 : (List DRow)) (x1 : Int) (k31 : Nat) (d32 : (List DVersion)) (s35 : Int) : (DStore × Bool) ⊕ (((List DVersion) × Int) ⊕ ((List DVersion) × Int)) :=
 cond (decide (s35 < ((x0.length : Nat) : Int))) (Sum.inr (Sum.inr ((d32 ++ [(⟨(gt x0 (s35.toNat)).Id, (gt x0 (s35.toNat)).Values, 0, (-1)⟩ : DVersion)]), (IntKind.i64.wrap (s35 + x1))))) (Sum.inr (Sum.inl (d32, s35)))
def spec_NewStore_b1 (x0 : (List DRow)) (x1 : Int) (k17 : Nat) (d20 : (List (List DVersion))) : (DStore × Bool) ⊕ ((List (List DVersion))) :=
 Sum.elim Sum.inl (fun (s : (List DVersion) × Int) => Sum.inr (d20 ++ [s.1])) (rngb (R := (DStore × Bool)) (fun k (s : (List DVersion) × Int) => spec_NewStore_b2 x0 x1 k s.1 s.2) (x0.length + 1 - 0) 0 ([], ((k17 : Nat) : Int)))
def spec_NewStore_m (x0 : (List DRow)) (x1 : Int) : (DStore × Bool) :=
 cond (spec_AreRows_m x0) (cond (spec_l1In_m x1 1 8) (cond (decide ((IntKind.i64.wrap (x1 * 4)) < ((x0.length : Nat) : Int))) ((⟨[], 0⟩ : DStore), false) (Sum.elim id (fun (s : (List (List DVersion))) => ((⟨s, 0⟩ : DStore), true)) (rng (R := (DStore × Bool)) (fun k (s : (List (List DVersion))) => spec_NewStore_b1 x0 x1 k s) ((x1).toNat - 0) 0 []))) ((⟨[], 0⟩ : DStore), false)) ((⟨[], 0⟩ : DStore), false)
theorem cb78 : Cb Tryz.prog 78 := ⟨f78, _, func78, rfl, by decide⟩
theorem spec_NewStore_c (w : World) (z0 : Value) (x0 : (List DRow)) (x1 : Int) (r_0 : rdS tyRow w w.heap.size z0 x0) (s_0 : (x0.length ≤ 68719476736 ∧ ∀ y ∈ x0, smRow 68719476736 y)) :
  Calls Tryz.prog 78 #[z0, .int .i64 x1] w fun e w' => ∃ v : List Value, e = .returned (.tuple #[.agg v.toArray, .bool ((spec_NewStore_m x0 x1).2)]) ∧ Mem w.heap.size w [iOwn tyStore v (spec_NewStore_m x0 x1).1] w' := by
 obtain ⟨m1, A2, c3, rfl, q4, r5⟩ := rdS_op r_0
 have l6 : x0.length ≤ 68719476736 := s_0.1
 refine ce2 (L := [(0, .slice A2 x0.length c3), (1, .int .i64 x1)]) (N := 64) func78 ?_
 refine sr ?_
 refine WM_alloc type81 rfl (Wd_none rfl) (by decide) (fun p7 => ?_)
 refine wa (nt' (CM_seq (sr (wm ?_))))
 refine wcv (cl_fn cb20 rfl) (fun W hm => spec_AreRows_c W _ x0 (hm.rdS0 r5)) ?_
 refine wv vnot ?_
 refine wm ?_
 rcases Bool.eq_false_or_eq_true (spec_AreRows_m x0) with g9 | g9
 ·
  refine wg vmv (nt g9) ?_
  refine WM_callV (cl_fn cb40 rfl) (fun W hm => spec_l1In_c W x1 1 8) (Wd_some rfl rfl rfl (bw (nt g9) rfl)) (by decide) ?_
  refine wg vnot (nt g9) ?_
  refine wv (vpF (nt g9)) ?_
  refine wm ?_
  rcases Bool.eq_false_or_eq_true (spec_l1In_m x1 1 8) with g11 | g11
  ·
   have hw := spec_l1In_fact g11
   refine wg vmv (nt g11) ?_
   refine wg (vlen underlying37) (nt g11) ?_
   refine wg vmv (nt g11) ?_
   refine wg (fun W hm => rv_mul rfl rfl) (nt g11) ?_
   refine wg (fun W hm => rv_gtr rfl rfl) (nt g11) ?_
   refine wv (vpF (nt g11)) ?_
   refine nt' ?_
   by_cases h12 : (IntKind.i64.wrap (x1 * 4)) < ((x0.length : Nat) : Int)
   ·have g13 := decide_eq_true h12
    refine CM_condT rfl g13 ?_
    refine sr ?_
    refine wv (fun W hm => rv_build (cs := [.slice none 0 0, .int .i64 0]) rfl (by kernel_rfl)) ?_
    refine sb 0 [.slice none 0 0, .int .i64 0] [] (fun W hm => hm) type81 ?_
    refine wa (nt' (CM_ret (QM_then_ret ?_)))
    refine QM_items (fun W hm => hm.addNil (E := (tSl tyVersion 121)) (e := 119)) ?_
    have he15 := (show spec_NewStore_m x0 x1 = ((⟨[], 0⟩ : DStore), false) from cond_t g9 (cond_t g11 (cond_t g13 (rfl))))
    refine QM_r2 rfl (RR_cell (n := 1) rfl rfl underlying81 type81 rfl) (RR_tmp rfl) (fun W hm => ⟨[.slice none 0 0, .int .i64 0], ?_, ?_⟩)
    ·first | rw [he15] | rfl
     try rfl
    ·rw [he15]; exact Mem.join (is := [iOwn (tSl (tSl tyVersion 121) 119) [.slice none 0 0] []]) (js := []) (fun _ _ hs => tyStore_join (x := (⟨[], 0⟩ : DStore)) hs) (hm.pick [0] (by decide))
   ·have g13 := decide_eq_false h12
    refine CM_condF rfl g13 ?_
    refine CM_skip (QM_then (sr ?_))
    refine wv (fun W hm => rv_build (cs := [.slice none 0 0, .int .i64 0]) rfl (by kernel_rfl)) ?_
    refine WM_alloc type81 rfl (Wd_none rfl) (by decide) (fun p16 => ?_)
    refine sb 0 [.slice none 0 0, .int .i64 0] [iBox p7 81 [.slice none 0 0, .int .i64 0]] (fun W hm => hm) type81 ?_
    refine nt' (CM_seq (sr (wa (nt' (CM_block ?_)))))
    refine CM_items (fun W hm => (hm.addNil (E := (tSl tyVersion 121)) (e := 119)).last) ?_
    let F1 := fun k (s : (List (List DVersion))) => spec_NewStore_b1 x0 x1 k s
    let R3 := rng (R := (DStore × Bool)) F1
    refine CM_loop (σ := Nat × ((List (List DVersion))) × (Option Addr × Nat)) (fun s => [(0, .slice A2 x0.length c3), (1, .int .i64 x1), (4, .pointer (some (⟨p7, 0, none⟩ : Addr))), (6, .pointer (some (⟨p16, 0, none⟩ : Addr))), (7, .int .i64 ((s.1 : Nat) : Int))]) (fun s => [iBox p16 81 [.slice s.2.2.1 s.2.1.length s.2.2.2, .int .i64 0], iBox p7 81 [.slice none 0 0, .int .i64 0], iOwn (tSl (tSl tyVersion 121) 119) [.slice s.2.2.1 s.2.1.length s.2.2.2] s.2.1]) (fun s => s.1 ≤ (x1).toNat ∧ R3 ((x1).toNat - s.1) s.1 s.2.1 = R3 ((x1).toNat - 0) 0 [] ∧ s.2.1.length ≤ 0 + s.1) (fun s => (x1).toNat - s.1) (0, [], (none, 0)) sl5 (fun W hm => hm) ⟨(by omega), rfl, Nat.le_refl _⟩ ?_
    rintro ⟨k17, d20, ⟨A21, c22⟩⟩ H25
    obtain ⟨hk23, hF24, hi26⟩ : k17 ≤ (x1).toNat ∧ R3 ((x1).toNat - k17) k17 d20 = R3 ((x1).toNat - 0) 0 [] ∧ d20.length ≤ 0 + k17 := H25
    let I6 : It := iBox p16 81 [.slice A21 d20.length c22, .int .i64 0]
    let I7 : It := iOwn (tSl (tSl tyVersion 121) 119) [.slice A21 d20.length c22] d20
    show CM Tryz.prog 64 _ _ _ _ [(0, .slice A2 x0.length c3), (1, .int .i64 x1), (4, .pointer (some (⟨p7, 0, none⟩ : Addr))), (6, .pointer (some (⟨p16, 0, none⟩ : Addr))), (7, .int .i64 ((k17 : Nat) : Int))] [I6, iBox p7 81 [.slice none 0 0, .int .i64 0], I7]
    refine CM_seq (sr (wm (wm ?_)))
    refine wv vlss ?_
    refine nt' ?_
    by_cases hl27 : k17 < (x1).toNat
    ·have g28 : (decide (((k17 : Nat) : Int) < x1)) = true := decide_eq_true (by omega)
     refine CM_condT rfl g28 ?_
     refine CM_skip (QM_then (CM_seq (CM_block (sr ?_))))
     refine WM_build0 (E := tyVersion) underlying119 type121 (Wd_none rfl) (by decide) (fun p29 => ?_)
     refine wa (nt' (CM_seq (sr (wm (wa (nt' ?_))))))
     let F2 := fun k (s : (List DVersion) × Int) => spec_NewStore_b2 x0 x1 k s.1 s.2
     let R4 := rngb (R := (DStore × Bool)) F2
     refine CM_cut (σ := ((List DVersion) × Int) × (Option Addr × Nat)) (fun s => [(0, .slice A2 x0.length c3), (1, .int .i64 x1), (4, .pointer (some (⟨p7, 0, none⟩ : Addr))), (6, .pointer (some (⟨p16, 0, none⟩ : Addr))), (7, .int .i64 ((k17 : Nat) : Int)), (8, .slice s.2.1 s.1.1.length s.2.2)]) (fun s => [iOwn (tSl tyVersion 121) [.slice s.2.1 s.1.1.length s.2.2] s.1.1, I6, iBox p7 81 [.slice none 0 0, .int .i64 0], I7]) (fun s => R4 (x0.length + 1 - 0) 0 ([], ((k17 : Nat) : Int)) = Sum.inr s.1) ?_ ?_
     ·
      refine CM_block ?_
      refine CM_loop (σ := Nat × ((List DVersion) × Int) × (Option Addr × Nat)) (fun s => [(0, .slice A2 x0.length c3), (1, .int .i64 x1), (4, .pointer (some (⟨p7, 0, none⟩ : Addr))), (6, .pointer (some (⟨p16, 0, none⟩ : Addr))), (7, .int .i64 ((k17 : Nat) : Int)), (8, .slice s.2.2.1 s.2.1.1.length s.2.2.2), (9, .int .i64 s.2.1.2)]) (fun s => [iOwn (tSl tyVersion 121) [.slice s.2.2.1 s.2.1.1.length s.2.2.2] s.2.1.1, I6, iBox p7 81 [.slice none 0 0, .int .i64 0], I7]) (fun s => s.1 + (x0.length - (s.2.1.2).toNat) + 1 ≤ x0.length + 1 ∧ R4 (x0.length + 1 - s.1) s.1 s.2.1 = R4 (x0.length + 1 - 0) 0 ([], ((k17 : Nat) : Int)) ∧ s.2.1.1.length ≤ 0 + s.1 ∧ 0 ≤ s.2.1.2 ∧ s.2.1.2 ≤ ((x0.length : Nat) : Int) + 8) (fun s => x0.length + 1 - s.1) (0, ([], ((k17 : Nat) : Int)), ((some ⟨p29, 0, none⟩), 0)) sl7 (fun W hm => hm) ⟨(show 0 + (x0.length - (((k17 : Nat) : Int)).toNat) + 1 ≤ x0.length + 1 from by omega), rfl, Nat.le_refl _, (show 0 ≤ ((k17 : Nat) : Int) from by omega), (show ((k17 : Nat) : Int) ≤ ((x0.length : Nat) : Int) + 8 from by omega)⟩ ?_
      rintro ⟨k31, ⟨d32, s35⟩, ⟨A33, c34⟩⟩ H38
      obtain ⟨hk36, hF37, hi39, hi40, hi41⟩ : k31 + (x0.length - (s35).toNat) + 1 ≤ x0.length + 1 ∧ R4 (x0.length + 1 - k31) k31 (d32, s35) = R4 (x0.length + 1 - 0) 0 ([], ((k17 : Nat) : Int)) ∧ d32.length ≤ 0 + k31 ∧ 0 ≤ s35 ∧ s35 ≤ ((x0.length : Nat) : Int) + 8 := H38
      let I8 : It := iOwn (tSl tyVersion 121) [.slice A33 d32.length c34] d32
      show CM Tryz.prog 64 _ _ _ _ [(0, .slice A2 x0.length c3), (1, .int .i64 x1), (4, .pointer (some (⟨p7, 0, none⟩ : Addr))), (6, .pointer (some (⟨p16, 0, none⟩ : Addr))), (7, .int .i64 ((k17 : Nat) : Int)), (8, .slice A33 d32.length c34), (9, .int .i64 s35)] [I8, I6, iBox p7 81 [.slice none 0 0, .int .i64 0], I7]
      have hw1 := wrap_id (n := s35 + x1) (by omega) (by omega)
      refine CM_seq (sr (wm (wm ?_)))
      refine wv (vlen underlying37) ?_
      refine wv vlss ?_
      refine nt' ?_
      by_cases h42 : s35 < ((x0.length : Nat) : Int)
      ·have g43 := decide_eq_true h42
       refine CM_condT rfl g43 ?_
       refine CM_skip (QM_then (CM_seq (CM_block ?_)))
       refine rb 17 (s := [I6, iBox p7 81 [.slice none 0 0, .int .i64 0], I7]) (pk [1, 2, 3]) ?_
       refine qt 17 0 1 rfl vmv ?_
       refine qt 17 1 3 rfl vmv ?_
       refine qt 17 2 7 rfl vmv ?_
       obtain ⟨a44, rfl, hb45, he46⟩ := q4 (by omega)
       refine qt 17 3 15 rfl (fun W hm => rv_indexI (sz := 2) (k := s35) underlying37 type26 rfl rfl rfl (by omega) (by omega)) ?_
       refine qt 17 4 31 rfl (vf underlying26 rfl type3) ?_
       obtain ⟨_, e50, hc47⟩ := he46 (s35.toNat) _ (gt_some (show (s35.toNat) < x0.length from by omega))
       obtain ⟨v48, rfl, r49⟩ := tyRow_rd e50
       have l51 : ((gt x0 (s35.toNat)).Values).length ≤ 68719476736 := (s_0.2 _ (gt_mem (show (s35.toNat) < x0.length from by omega)))
       obtain ⟨m52, A53, c54, rfl, q55, r56⟩ := rdS_op r49
       refine qt 17 5 63 rfl (fun W hm => rv_load underlying3 rfl rfl ((hm.cell0 (show ((a44.add ((s35.toNat) * 2)).add 0).block < w.heap.size from by rw [add_block, add_block]; exact hb45.1)).trans (hc47 0 _ rfl))) ?_
       refine qt 17 7 191 rfl vmv ?_
       refine qt 17 8 447 rfl vmv ?_
       refine qt 17 9 959 rfl (fun W hm => rv_indexI (sz := 2) (k := s35) underlying37 type26 rfl rfl rfl (by omega) (by omega)) ?_
       refine qt 17 10 1983 rfl (vf underlying26 rfl type24) ?_
       refine qt 17 11 4031 rfl (fun W hm => rv_load underlying24 rfl rfl ((hm.cell0 (show ((a44.add ((s35.toNat) * 2)).add 1).block < w.heap.size from by rw [add_block, add_block]; exact hb45.1)).trans (hc47 1 _ rfl))) ?_
       refine qo 17 6 4095 rfl ?_
       refine WM_build0 (E := tInt) underlying24 type3 (Wd_none rfl) (by decide) (fun p57 => ?_)
       refine qn (pk [2, 3, 4]) ?_
       refine qo 17 12 8191 rfl ?_
       refine apR tInt tInt 3 (.slice (some ⟨p57, 0, none⟩) 0 0) [] ((gt x0 (s35.toNat)).Values) [I8, I6, iBox p7 81 [.slice none 0 0, .int .i64 0], I7] (fun W hm => hm) (fun W hm => src_flat flat_int (hm.rdS0 r56)) underlying24 type3 (show (0 + ((gt x0 (s35.toNat)).Values).length) * 8 ≤ 140737488355328 from by omega) (fun v59 => ?_)
       refine WM_form (n := 0) rfl ?_
       rintro A60 c61 rfl m62
       refine qn (pk [2, 3, 4]) ?_
       let K5 : List Value := [.int .i64 ((gt x0 (s35.toNat)).Id), .slice A60 ((gt x0 (s35.toNat)).Values).length c61, .int .i64 0, .int .i64 (-1)]
       refine qt 17 13 16383 rfl (fun W hm => rv_build (cs := K5) rfl (by kernel_rfl)) ?_
       refine qo 17 14 32767 rfl ?_
       refine WM_build (cs := K5) underlying119 type121 rfl (by decide) (by decide) rfl (by kernel_rfl) (Wd_none rfl) (by decide) (fun p64 => ?_)
       refine qn (pk [3, 4, 5]) ?_
       refine qo 17 15 65535 rfl ?_
       refine ap1 tyVersion 121 (.slice A33 d32.length c34) d32 (⟨(gt x0 (s35.toNat)).Id, (gt x0 (s35.toNat)).Values, 0, (-1)⟩ : DVersion) [iOwn (tSl tInt 3) [.slice A60 ((gt x0 (s35.toNat)).Values).length c61] ((gt x0 (s35.toNat)).Values)] [I6, iBox p7 81 [.slice none 0 0, .int .i64 0], I7] K5 (pk [0, 2, 1, 3, 4, 5]) (fun _ _ hs => Els.single (tyVersion_join (x := (⟨(gt x0 (s35.toNat)).Id, (gt x0 (s35.toNat)).Values, 0, (-1)⟩ : DVersion)) hs)) underlying119 type121 (show (d32.length + 1) * 48 ≤ 140737488355328 from by omega) (fun v65 => ?_)
       refine WM_form (n := 0) rfl ?_
       rintro A66 c67 rfl m68
       refine qn (pk [1, 2, 3]) ?_
       refine qt 17 16 131071 rfl (fun W hm => rv_assign rfl) ?_
       refine QB_done (by kernel_rfl) ?_
       refine QM_block_normal (QM_then (CM_region (wm (wm ?_))))
       refine wv vadd ?_
       refine wa (WM_nil ?_)
       have hn70 := rngb_next (R := (DStore × Bool)) (body := F2) (k := k31) (s := (d32, s35)) (s' := ((d32 ++ [(⟨(gt x0 (s35.toNat)).Id, (gt x0 (s35.toNat)).Values, 0, (-1)⟩ : DVersion)]), (IntKind.i64.wrap (s35 + x1)))) (show k31 < x0.length + 1 from by omega) (cond_t g43 (rfl)) hF37
       exact QM_round (k31 + 1, ((d32 ++ [(⟨(gt x0 (s35.toNat)).Id, (gt x0 (s35.toNat)).Values, 0, (-1)⟩ : DVersion)]), (IntKind.i64.wrap (s35 + x1))), (A66, c67)) sl7 (fun W hm => hm) ⟨(show (k31 + 1) + (x0.length - ((IntKind.i64.wrap (s35 + x1))).toNat) + 1 ≤ x0.length + 1 from by omega), hn70, (show (d32 ++ [(⟨(gt x0 (s35.toNat)).Id, (gt x0 (s35.toNat)).Values, 0, (-1)⟩ : DVersion)]).length ≤ 0 + (k31 + 1) from by first | omega | (simp only [List.length_append, List.length_cons, List.length_nil] at *; omega)), (show 0 ≤ (IntKind.i64.wrap (s35 + x1)) from by first | omega | (simp only [List.length_append, List.length_cons, List.length_nil] at *; omega)), (show (IntKind.i64.wrap (s35 + x1)) ≤ ((x0.length : Nat) : Int) + 8 from by first | omega | (simp only [List.length_append, List.length_cons, List.length_nil] at *; omega))⟩ (show x0.length + 1 - (k31 + 1) < x0.length + 1 - k31 from by omega)
      ·have g43 := decide_eq_false h42
       refine CM_condF rfl g43 ?_
       refine CM_exit (QM_then_exit (QM_then_exit (QM_block_hit ?_)))
       have hE71 := rngb_brk (R := (DStore × Bool)) (body := F2) (k := k31) (s := (d32, s35)) (s' := (d32, s35)) (show k31 < x0.length + 1 from by omega) (cond_f g43 (rfl)) hF37
       exact QM_cut_normal ((d32, s35), (A33, c34)) sl6 (fun W hm => hm) hE71
     ·
      rintro ⟨⟨d32, s35⟩, ⟨A33, c34⟩⟩ H73
      have hE72 : R4 (x0.length + 1 - 0) 0 ([], ((k17 : Nat) : Int)) = Sum.inr (d32, s35) := H73
      let I9 : It := iOwn (tSl tyVersion 121) [.slice A33 d32.length c34] d32
      show QM 64 _ _ _ .normal [(0, .slice A2 x0.length c3), (1, .int .i64 x1), (4, .pointer (some (⟨p7, 0, none⟩ : Addr))), (6, .pointer (some (⟨p16, 0, none⟩ : Addr))), (7, .int .i64 ((k17 : Nat) : Int)), (8, .slice A33 d32.length c34)] [I9, I6, iBox p7 81 [.slice none 0 0, .int .i64 0], I7]
      refine QM_then (CM_region ?_)
      refine wv (vf underlying81 rfl type79) ?_
      refine wv (vl 1 0 underlying79) ?_
      refine wm ?_
      refine WM_build (cs := [.slice A33 d32.length c34]) underlying79 type119 rfl (by decide) (by decide) rfl (by kernel_rfl) (Wd_none rfl) (by decide) (fun p74 => ?_)
      refine ap1 (tSl tyVersion 121) 119 (.slice A21 d20.length c22) d20 d32 [I9] [I6, iBox p7 81 [.slice none 0 0, .int .i64 0]] [.slice A33 d32.length c34] (pk [0, 4, 1, 2, 3]) (fun _ _ hs => Els.single (Sep.one hs)) underlying79 type119 (show (d20.length + 1) * 24 ≤ 140737488355328 from by omega) (fun v75 => ?_)
      refine WM_form (n := 0) rfl ?_
      rintro A76 c77 rfl m78
      refine wv (vf underlying81 rfl type79) ?_
      refine sb 0 [.slice A76 (d20 ++ [d32]).length c77, .int .i64 0] [iOwn (tSl (tSl tyVersion 121) 119) [.slice A76 (d20 ++ [d32]).length c77] (d20 ++ [d32]), iBox p7 81 [.slice none 0 0, .int .i64 0]] (pk [1, 0, 2]) type79 ?_
      refine WM_nil (QM_block_normal (QM_then (CM_region (wm ?_))))
      refine wv (vadN k17 1 (by omega)) ?_
      refine wa (WM_nil ?_)
      have hn80 := rng_next (R := (DStore × Bool)) (body := F1) (k := k17) (s := d20) (s' := (d20 ++ [d32])) (show k17 < (x1).toNat from by omega) (fin_inr hE72 (rfl)) hF24
      exact QM_round (k17 + 1, (d20 ++ [d32]), (A76, c77)) sl5 (pk [0, 2, 1]) ⟨(by omega), hn80, (show (d20 ++ [d32]).length ≤ 0 + (k17 + 1) from by first | omega | (simp only [List.length_append, List.length_cons, List.length_nil] at *; omega))⟩ (rl (by omega))
    ·have g28 : (decide (((k17 : Nat) : Int) < x1)) = false := decide_eq_false (by omega)
     refine CM_condF rfl g28 ?_
     refine CM_exit (QM_then_exit (QM_then_exit ?_))
     have hE81 : R3 ((x1).toNat - 0) 0 [] = Sum.inr d20 := rng_end hl27 hF24
     refine QM_block_hit (QM_then (sr ?_))
     refine wv (fun W hm => rv_loadN (cs := [.slice A21 d20.length c22, .int .i64 0]) underlying81 type81 rfl rfl (hm.boxCells (n := 0) rfl)) ?_
     refine sb 0 [.slice A21 d20.length c22, .int .i64 0] [I6, I7] (pk [1, 0, 2]) type81 ?_
     refine wa (nt' (CM_ret ?_))
     have he82 := (show spec_NewStore_m x0 x1 = ((⟨d20, 0⟩ : DStore), true) from cond_t g9 (cond_t g11 (cond_f g13 (fin_inr hE81 (rfl)))))
     refine QM_r2 rfl (RR_cell (n := 0) rfl rfl underlying81 type81 rfl) (RR_tmp rfl) (fun W hm => ⟨[.slice A21 d20.length c22, .int .i64 0], ?_, ?_⟩)
     ·first | rw [he82] | rfl
      try rfl
     ·rw [he82]; exact Mem.join (is := [I7]) (js := []) (fun _ _ hs => tyStore_join (x := (⟨d20, 0⟩ : DStore)) hs) (hm.pick [2] (by decide))
  ·
   refine ws (nf g11) ?_
   refine ws (nf g11) ?_
   refine ws (nf g11) ?_
   refine ws (nf g11) ?_
   refine ws (nf g11) ?_
   refine wv (vpT (nf g11)) ?_
   refine nt' ?_
   refine CM_condT rfl rfl ?_
   refine sr ?_
   refine wv (fun W hm => rv_build (cs := [.slice none 0 0, .int .i64 0]) rfl (by kernel_rfl)) ?_
   refine sb 0 [.slice none 0 0, .int .i64 0] [] (fun W hm => hm) type81 ?_
   refine wa (nt' (CM_ret (QM_then_ret ?_)))
   refine QM_items (fun W hm => hm.addNil (E := (tSl tyVersion 121)) (e := 119)) ?_
   have he84 := (show spec_NewStore_m x0 x1 = ((⟨[], 0⟩ : DStore), false) from cond_t g9 (cond_f g11 (rfl)))
   refine QM_r2 rfl (RR_cell (n := 1) rfl rfl underlying81 type81 rfl) (RR_tmp rfl) (fun W hm => ⟨[.slice none 0 0, .int .i64 0], ?_, ?_⟩)
   ·first | rw [he84] | rfl
    try rfl
   ·rw [he84]; exact Mem.join (is := [iOwn (tSl (tSl tyVersion 121) 119) [.slice none 0 0] []]) (js := []) (fun _ _ hs => tyStore_join (x := (⟨[], 0⟩ : DStore)) hs) (hm.pick [0] (by decide))
 ·
  refine ws (nf g9) ?_
  refine ws (nf g9) ?_
  refine ws (nf g9) ?_
  refine wv (vpT (nf g9)) ?_
  refine wm ?_
  refine wk ?_
  refine wk ?_
  refine wk ?_
  refine wk ?_
  refine wk ?_
  refine wv (vpT rfl) ?_
  refine nt' ?_
  refine CM_condT rfl rfl ?_
  refine sr ?_
  refine wv (fun W hm => rv_build (cs := [.slice none 0 0, .int .i64 0]) rfl (by kernel_rfl)) ?_
  refine sb 0 [.slice none 0 0, .int .i64 0] [] (fun W hm => hm) type81 ?_
  refine wa (nt' (CM_ret (QM_then_ret ?_)))
  refine QM_items (fun W hm => hm.addNil (E := (tSl tyVersion 121)) (e := 119)) ?_
  have he86 := (show spec_NewStore_m x0 x1 = ((⟨[], 0⟩ : DStore), false) from cond_f g9 (rfl))
  refine QM_r2 rfl (RR_cell (n := 1) rfl rfl underlying81 type81 rfl) (RR_tmp rfl) (fun W hm => ⟨[.slice none 0 0, .int .i64 0], ?_, ?_⟩)
  ·first | rw [he86] | rfl
   try rfl
  ·rw [he86]; exact Mem.join (is := [iOwn (tSl (tSl tyVersion 121) 119) [.slice none 0 0] []]) (js := []) (fun _ _ hs => tyStore_join (x := (⟨[], 0⟩ : DStore)) hs) (hm.pick [0] (by decide))

def spec_l7All_b1 (x0 : DStore) (k12 : Nat) (d13 : (List DVersion)) : (List DVersion) ⊕ ((List DVersion)) :=
 Sum.inr (d13 ++ (gt x0.Segments k12))
def spec_l7All_m (x0 : DStore) : (List DVersion) :=
 Sum.elim id (fun (s : (List DVersion)) => s) (rng (R := (List DVersion)) (fun k (s : (List DVersion)) => spec_l7All_b1 x0 k s) (x0.Segments.length - 0) 0 [])
theorem cb105 : Cb Tryz.prog 105 := ⟨f105, _, func105, rfl, by decide⟩
theorem spec_l7All_c (B : Nat) (w0 : World) (is : List It) (w : World) (z0 : List Value) (x0 : DStore) (r_0 : tyStore.rd w0 B z0 x0) (s_0 : smStore 68719476736 x0) (hq : (x0.Segments.map List.length).sum ≤ 68719476736) (hm : Mem B w0 is w) :
  Calls Tryz.prog 105 #[.agg z0.toArray] w fun e w' => ∃ v : Value, e = .returned (v) ∧ Mem B w0 (iOwn (tSl (tBor tyVersion w0 B) 121) [v] (spec_l7All_m x0) :: is) w' := by
 obtain ⟨v1, rfl, r2⟩ := tyStore_rd r_0
 obtain ⟨m3, A4, c5, rfl, q6, r7⟩ := rdS_op r2
 have l8 : x0.Segments.length ≤ 68719476736 := s_0.1
 refine call_enterW (L := [(0, .agg #[.slice A4 x0.Segments.length c5, .int .i64 x0.Now])]) (N := 21) func105 rfl rfl (Nat.le_of_ble_eq_true rfl) (argsL_cons rfl argsL_nil) hm ?_
 refine sr ?_
 refine WM_box rfl (Wd_none rfl) (by decide) (fun p9 => ?_)
 refine wa (nt' (sr ?_))
 refine WM_build0 (E := (tBor tyVersion w0 B)) underlying119 type121 (Wd_none rfl) (by decide) (fun p10 => ?_)
 refine wa (nt' (CM_seq (sr (wa (nt' (CM_block ?_))))))
 let F1 := fun k (s : (List DVersion)) => spec_l7All_b1 x0 k s
 let R2 := rng (R := (List DVersion)) F1
 let I3 : It := iBox p9 81 [.slice A4 x0.Segments.length c5, .int .i64 x0.Now]
 refine CM_loop (σ := Nat × ((List DVersion)) × (Option Addr × Nat)) (fun s => [(1, .pointer (some (⟨p9, 0, none⟩ : Addr))), (3, .slice s.2.2.1 s.2.1.length s.2.2.2), (4, .int .i64 ((s.1 : Nat) : Int))]) (fun s => (iOwn (tSl (tBor tyVersion w0 B) 121) [.slice s.2.2.1 s.2.1.length s.2.2.2] s.2.1 :: I3 :: is)) (fun s => s.1 ≤ x0.Segments.length ∧ R2 (x0.Segments.length - s.1) s.1 s.2.1 = R2 (x0.Segments.length - 0) 0 [] ∧ s.2.1.length ≤ ((x0.Segments.take s.1).map List.length).sum) (fun s => x0.Segments.length - s.1) (0, [], ((some ⟨p10, 0, none⟩), 0)) sl3 (fun W hm => hm) ⟨(by omega), rfl, Nat.zero_le _⟩ ?_
 rintro ⟨k12, d13, ⟨A14, c15⟩⟩ H18
 obtain ⟨hk16, hF17, hi19⟩ : k12 ≤ x0.Segments.length ∧ R2 (x0.Segments.length - k12) k12 d13 = R2 (x0.Segments.length - 0) 0 [] ∧ d13.length ≤ ((x0.Segments.take k12).map List.length).sum := H18
 show CM Tryz.prog 21 _ _ _ _ [(1, .pointer (some (⟨p9, 0, none⟩ : Addr))), (3, .slice A14 d13.length c15), (4, .int .i64 ((k12 : Nat) : Int))] (iOwn (tSl (tBor tyVersion w0 B) 121) [.slice A14 d13.length c15] d13 :: I3 :: is)
 refine CM_seq (sr (wm ?_))
 refine wv (vf underlying81 rfl type79) ?_
 refine wv (vl 1 0 underlying79) ?_
 refine wv (vlen underlying79) ?_
 refine wv vlss ?_
 refine nt' ?_
 by_cases hl20 : k12 < x0.Segments.length
 ·have g21 := dlT hl20
  refine CM_condT rfl g21 ?_
  refine CM_skip (QM_then (CM_seq (CM_block (CM_region (wm ?_)))))
  refine wv (vf underlying81 rfl type79) ?_
  refine wv (vl 1 0 underlying79) ?_
  refine wm ?_
  obtain ⟨a22, rfl, hb23, he24⟩ := q6 (by omega)
  refine wv (vix 1 k12 underlying79 type119) ?_
  obtain ⟨_, e26, hc25⟩ := he24 k12 _ (gt_some (show k12 < x0.Segments.length from by omega))
  have l27 : (gt x0.Segments k12).length ≤ 68719476736 := (s_0.2 _ (gt_mem (show k12 < x0.Segments.length from by omega))).1
  obtain ⟨v28, rfl, r29⟩ := e26
  obtain ⟨m30, A31, c32, rfl, q33, r34⟩ := rdS_op r29
  refine wv (fun W hm => rv_load underlying119 rfl rfl ((hm.cell0 (show (a22.add (k12 * 1)).block < B from by rw [add_block]; exact hb23.1)).trans (hc25 0 _ rfl))) ?_
  refine apR (tBor tyVersion w0 B) tyVersion 121 (.slice A14 d13.length c15) d13 (gt x0.Segments k12) (iBox p9 81 [.slice (some a22) x0.Segments.length c5, .int .i64 x0.Now] :: is) (fun W hm => (hm.front (n := 0) rfl)) (fun W hm => src_bor hm r34) underlying119 type121 (show (d13.length + (gt x0.Segments k12).length) * 48 ≤ 140737488355328 from by have h1 := sum_take_succ (w := List.length) (xs := x0.Segments) (j := k12) (by omega); have h2 := sum_take_le (w := List.length) (xs := x0.Segments) (k12 + 1); omega) (fun v35 => ?_)
  refine WM_form (n := 0) rfl ?_
  rintro A36 c37 rfl m38
  refine wa (WM_nil (QM_block_normal (QM_then (CM_region (wm ?_)))))
  refine wv (vadN k12 1 (by omega)) ?_
  refine wa (WM_nil ?_)
  have hn40 := rng_next (R := (List DVersion)) (body := F1) (k := k12) (s := d13) (s' := (d13 ++ (gt x0.Segments k12))) (show k12 < x0.Segments.length from by omega) (rfl) hF17
  exact QM_round (k12 + 1, (d13 ++ (gt x0.Segments k12)), (A36, c37)) sl3 (fun W hm => hm) ⟨(by omega), hn40, (show (d13 ++ (gt x0.Segments k12)).length ≤ ((x0.Segments.take (k12 + 1)).map List.length).sum from by rw [List.length_append, sum_take_succ (by omega)]; omega)⟩ (rl (by omega))
 ·have g21 := dlF hl20
  refine CM_condF rfl g21 ?_
  refine CM_exit (QM_then_exit (QM_then_exit ?_))
  have hE41 : R2 (x0.Segments.length - 0) 0 [] = Sum.inr d13 := rng_end hl20 hF17
  refine QM_block_hit (QM_then (sr (wm (wa (nt' (CM_ret ?_))))))
  have he42 := (show spec_l7All_m x0 = d13 from fin_inr hE41 (rfl))
  refine QM_r1 rfl (RR_tmp rfl) (fun W hm => ⟨.slice A14 d13.length c15, ?_, ?_⟩)
  ·first | rw [he42] | rfl
  ·rw [he42]; exact ((hm.front (n := 0) rfl).front (n := 1) rfl).tail

def spec_l7All_sh_b1 (x0 : DStore) (k12 : Nat) (d13 : (List DVersion)) : (List DVersion) ⊕ ((List DVersion)) :=
 Sum.inr (d13 ++ (gt x0.Segments k12))
def spec_l7All_sh_m (x0 : DStore) : (List DVersion) :=
 Sum.elim id (fun (s : (List DVersion)) => s) (rng (R := (List DVersion)) (fun k (s : (List DVersion)) => spec_l7All_sh_b1 x0 k s) (x0.Segments.length - 0) 0 [])
theorem spec_l7All_sh_c (w : World) (z0 : List Value) (x0 : DStore) (r_0 : tyStore.rd w w.heap.size z0 x0) (s_0 : smStore 68719476736 x0) (hq : (x0.Segments.map List.length).sum ≤ 68719476736) :
  Calls Tryz.prog 105 #[.agg z0.toArray] w fun e w' => ∃ v : Value, e = .returned (v) ∧ Mem w.heap.size w [iOwn (tSl (tSh tyVersion) 121) [v] (spec_l7All_sh_m x0)] w' := by
 obtain ⟨v1, rfl, r2⟩ := tyStore_rd r_0
 obtain ⟨m3, A4, c5, rfl, q6, r7⟩ := rdS_op r2
 have l8 : x0.Segments.length ≤ 68719476736 := s_0.1
 refine ce1 (L := [(0, .agg #[.slice A4 x0.Segments.length c5, .int .i64 x0.Now])]) (N := 21) func105 ?_
 refine sr ?_
 refine WM_box rfl (Wd_none rfl) (by decide) (fun p9 => ?_)
 refine wa (nt' (sr ?_))
 refine WM_build0 (E := (tSh tyVersion)) underlying119 type121 (Wd_none rfl) (by decide) (fun p10 => ?_)
 refine wa (nt' (CM_seq (sr (wa (nt' (CM_block ?_))))))
 let F1 := fun k (s : (List DVersion)) => spec_l7All_sh_b1 x0 k s
 let R2 := rng (R := (List DVersion)) F1
 let I3 : It := iBox p9 81 [.slice A4 x0.Segments.length c5, .int .i64 x0.Now]
 refine CM_loop (σ := Nat × ((List DVersion)) × (Option Addr × Nat)) (fun s => [(1, .pointer (some (⟨p9, 0, none⟩ : Addr))), (3, .slice s.2.2.1 s.2.1.length s.2.2.2), (4, .int .i64 ((s.1 : Nat) : Int))]) (fun s => [iOwn (tSl (tSh tyVersion) 121) [.slice s.2.2.1 s.2.1.length s.2.2.2] s.2.1, I3]) (fun s => s.1 ≤ x0.Segments.length ∧ R2 (x0.Segments.length - s.1) s.1 s.2.1 = R2 (x0.Segments.length - 0) 0 [] ∧ s.2.1.length ≤ ((x0.Segments.take s.1).map List.length).sum) (fun s => x0.Segments.length - s.1) (0, [], ((some ⟨p10, 0, none⟩), 0)) sl3 (fun W hm => hm) ⟨(by omega), rfl, Nat.zero_le _⟩ ?_
 rintro ⟨k12, d13, ⟨A14, c15⟩⟩ H18
 obtain ⟨hk16, hF17, hi19⟩ : k12 ≤ x0.Segments.length ∧ R2 (x0.Segments.length - k12) k12 d13 = R2 (x0.Segments.length - 0) 0 [] ∧ d13.length ≤ ((x0.Segments.take k12).map List.length).sum := H18
 show CM Tryz.prog 21 _ _ _ _ [(1, .pointer (some (⟨p9, 0, none⟩ : Addr))), (3, .slice A14 d13.length c15), (4, .int .i64 ((k12 : Nat) : Int))] [iOwn (tSl (tSh tyVersion) 121) [.slice A14 d13.length c15] d13, I3]
 refine CM_seq (sr (wm ?_))
 refine wv (vf underlying81 rfl type79) ?_
 refine wv (vl 1 0 underlying79) ?_
 refine wv (vlen underlying79) ?_
 refine wv vlss ?_
 refine nt' ?_
 by_cases hl20 : k12 < x0.Segments.length
 ·have g21 := dlT hl20
  refine CM_condT rfl g21 ?_
  refine CM_skip (QM_then (CM_seq (CM_block (CM_region (wm ?_)))))
  refine wv (vf underlying81 rfl type79) ?_
  refine wv (vl 1 0 underlying79) ?_
  refine wm ?_
  obtain ⟨a22, rfl, hb23, he24⟩ := q6 (by omega)
  refine wv (vix 1 k12 underlying79 type119) ?_
  obtain ⟨_, e26, hc25⟩ := he24 k12 _ (gt_some (show k12 < x0.Segments.length from by omega))
  have l27 : (gt x0.Segments k12).length ≤ 68719476736 := (s_0.2 _ (gt_mem (show k12 < x0.Segments.length from by omega))).1
  obtain ⟨v28, rfl, r29⟩ := e26
  obtain ⟨m30, A31, c32, rfl, q33, r34⟩ := rdS_op r29
  refine wv (fun W hm => rv_load underlying119 rfl rfl ((hm.cell0 (show (a22.add (k12 * 1)).block < w.heap.size from by rw [add_block]; exact hb23.1)).trans (hc25 0 _ rfl))) ?_
  refine apR (tSh tyVersion) tyVersion 121 (.slice A14 d13.length c15) d13 (gt x0.Segments k12) [iBox p9 81 [.slice (some a22) x0.Segments.length c5, .int .i64 x0.Now]] (fun W hm => hm) (fun W hm => src_sh hm r34) underlying119 type121 (show (d13.length + (gt x0.Segments k12).length) * 48 ≤ 140737488355328 from by have h1 := sum_take_succ (w := List.length) (xs := x0.Segments) (j := k12) (by omega); have h2 := sum_take_le (w := List.length) (xs := x0.Segments) (k12 + 1); omega) (fun v35 => ?_)
  refine WM_form (n := 0) rfl ?_
  rintro A36 c37 rfl m38
  refine wa (WM_nil (QM_block_normal (QM_then (CM_region (wm ?_)))))
  refine wv (vadN k12 1 (by omega)) ?_
  refine wa (WM_nil ?_)
  have hn40 := rng_next (R := (List DVersion)) (body := F1) (k := k12) (s := d13) (s' := (d13 ++ (gt x0.Segments k12))) (show k12 < x0.Segments.length from by omega) (rfl) hF17
  exact QM_round (k12 + 1, (d13 ++ (gt x0.Segments k12)), (A36, c37)) sl3 (fun W hm => hm) ⟨(by omega), hn40, (show (d13 ++ (gt x0.Segments k12)).length ≤ ((x0.Segments.take (k12 + 1)).map List.length).sum from by rw [List.length_append, sum_take_succ (by omega)]; omega)⟩ (rl (by omega))
 ·have g21 := dlF hl20
  refine CM_condF rfl g21 ?_
  refine CM_exit (QM_then_exit (QM_then_exit ?_))
  have hE41 : R2 (x0.Segments.length - 0) 0 [] = Sum.inr d13 := rng_end hl20 hF17
  refine QM_block_hit (QM_then (sr (wm (wa (nt' (CM_ret ?_))))))
  have he42 := (show spec_l7All_sh_m x0 = d13 from fin_inr hE41 (rfl))
  refine QM_r1 rfl (RR_tmp rfl) (fun W hm => ⟨.slice A14 d13.length c15, ?_, ?_⟩)
  ·first | rw [he42] | rfl
  ·rw [he42]; exact (hm.pick [0] (by decide))

def spec_l1Once_m (x0b : List Int) (x0 : Dl1Cur) (x1 : Int) : (Bool × Dl1Cur) :=
 ((((spec_l1Below_m x0b x0 x1).1) == 0), ((spec_l1Below_m x0b x0 x1).2))
theorem cb36 : Cb Tryz.prog 36 := ⟨f36, _, func36, rfl, by decide⟩
theorem spec_l1Once_c (B : Nat) (w0 : World) (is : List It) (w : World) (p : Nat) (z0 : Value) (x0b : List Int) (x0 : Dl1Cur) (r_0 : rdS tU8 w0 B z0 x0b) (x1 : Int) (s_0 : x0b.length ≤ 68719476736) (hm : Mem B w0 (iBox p 73 [z0, .int .i64 ((x0.i : Nat) : Int), .int .i64 x0.h] :: is) w) :
  Calls Tryz.prog 36 #[.pointer (some ⟨p, 0, none⟩), .int .i64 x1] w fun e w' => ∃ x : Unit, e = .returned (.bool ((spec_l1Once_m x0b x0 x1).1)) ∧ Mem B w0 (iBox p 73 [z0, .int .i64 ((((spec_l1Once_m x0b x0 x1).2).i : Nat) : Int), .int .i64 ((spec_l1Once_m x0b x0 x1).2).h] :: is) w' := by
 obtain ⟨m1, A2, c3, rfl, q4, r5⟩ := rdS_op r_0
 refine call_enterW (L := [(0, .pointer (some ⟨p, 0, none⟩)), (1, .int .i64 x1)]) (N := 9) func36 rfl rfl (Nat.le_of_ble_eq_true rfl) (argsL_cons rfl (argsL_cons rfl argsL_nil)) hm ?_
 have l6 : x0b.length ≤ 68719476736 := s_0
 refine sr (wa (nt' (sr (wm (wm ?_)))))
 refine WM_callW (χ := Unit) (val := fun x => .int .i64 ((spec_l1Below_m x0b x0 x1).1)) (js := fun x => (iBox p 73 [.slice A2 x0b.length c3, .int .i64 ((((spec_l1Below_m x0b x0 x1).2).i : Nat) : Int), .int .i64 ((spec_l1Below_m x0b x0 x1).2).h] :: (is))) (cl_fn cb51 rfl) (fun W hm => spec_l1Below_c B w0 (is) W p _ x0b x0 r5 x1 s_0 (hm.front (n := 0) rfl)) (Wd_none rfl) (by decide) (fun z7 => ?_)
 have hb := spec_l1Below_rng x0b x0 x1
 refine wv (fun W hm => rv_eql rfl rfl) ?_
 refine wa (nt' (CM_ret ?_))
 have he8 := (show spec_l1Once_m x0b x0 x1 = ((((spec_l1Below_m x0b x0 x1).1) == 0), ((spec_l1Below_m x0b x0 x1).2)) from rfl)
 refine QM_r1 rfl (RR_tmp rfl) (fun W hm => ⟨(), ?_, ?_⟩)
 ·first | rw [he8] | rfl
 ·rw [he8]; exact hm

def spec_l8Update_m (x0b : List Int) (x0 : Dl1Cur) (x1 : DStore) : (DUpdate × Dl1Cur) :=
 cond (decide (0 < (((spec_l7All_sh_m x1).length : Nat) : Int))) (cond ((spec_l1Once_m x0b ((spec_l1Below_m x0b x0 12).2) 4).1) (cond (((spec_l1Below_m x0b (spec_l1Once_m x0b ((spec_l1Below_m x0b x0 12).2) 4).2 3).1) == 0) ((⟨1, (spec_l3Row_m x0b (spec_l1Below_m x0b ((spec_l1Below_m x0b (spec_l1Once_m x0b ((spec_l1Below_m x0b x0 12).2) 4).2 3).2) 20).2 (spec_l1Below_m x0b ((spec_l1Below_m x0b (spec_l1Once_m x0b ((spec_l1Below_m x0b x0 12).2) 4).2 3).2) 20).1).1, 0, 0⟩ : DUpdate), (spec_l3Row_m x0b (spec_l1Below_m x0b ((spec_l1Below_m x0b (spec_l1Once_m x0b ((spec_l1Below_m x0b x0 12).2) 4).2 3).2) 20).2 (spec_l1Below_m x0b ((spec_l1Below_m x0b (spec_l1Once_m x0b ((spec_l1Below_m x0b x0 12).2) 4).2 3).2) 20).1).2) (cond (((spec_l1Below_m x0b (spec_l1Once_m x0b ((spec_l1Below_m x0b x0 12).2) 4).2 3).1) == 1) ((⟨2, (⟨(spec_l1Below_m x0b x0 12).1, []⟩ : DRow), 0, 0⟩ : DUpdate), ((spec_l1Below_m x0b (spec_l1Once_m x0b ((spec_l1Below_m x0b x0 12).2) 4).2 3).2)) ((⟨3, (⟨(spec_l1Below_m x0b x0 12).1, []⟩ : DRow), (spec_l1Below_m x0b ((spec_l1Below_m x0b (spec_l1Once_m x0b ((spec_l1Below_m x0b x0 12).2) 4).2 3).2) 3).1, (spec_l1Below_m x0b (spec_l1Below_m x0b ((spec_l1Below_m x0b (spec_l1Once_m x0b ((spec_l1Below_m x0b x0 12).2) 4).2 3).2) 3).2 6).1⟩ : DUpdate), ((spec_l1Below_m x0b (spec_l1Below_m x0b ((spec_l1Below_m x0b (spec_l1Once_m x0b ((spec_l1Below_m x0b x0 12).2) 4).2 3).2) 3).2 6).2)))) (cond (((spec_l1Below_m x0b (spec_l1Below_m x0b (spec_l1Once_m x0b ((spec_l1Below_m x0b x0 12).2) 4).2 (((spec_l7All_sh_m x1).length : Nat) : Int)).2 3).1) == 0) ((⟨1, (spec_l3Row_m x0b (spec_l1Below_m x0b ((spec_l1Below_m x0b (spec_l1Below_m x0b (spec_l1Once_m x0b ((spec_l1Below_m x0b x0 12).2) 4).2 (((spec_l7All_sh_m x1).length : Nat) : Int)).2 3).2) 20).2 (spec_l1Below_m x0b ((spec_l1Below_m x0b (spec_l1Below_m x0b (spec_l1Once_m x0b ((spec_l1Below_m x0b x0 12).2) 4).2 (((spec_l7All_sh_m x1).length : Nat) : Int)).2 3).2) 20).1).1, 0, 0⟩ : DUpdate), (spec_l3Row_m x0b (spec_l1Below_m x0b ((spec_l1Below_m x0b (spec_l1Below_m x0b (spec_l1Once_m x0b ((spec_l1Below_m x0b x0 12).2) 4).2 (((spec_l7All_sh_m x1).length : Nat) : Int)).2 3).2) 20).2 (spec_l1Below_m x0b ((spec_l1Below_m x0b (spec_l1Below_m x0b (spec_l1Once_m x0b ((spec_l1Below_m x0b x0 12).2) 4).2 (((spec_l7All_sh_m x1).length : Nat) : Int)).2 3).2) 20).1).2) (cond (((spec_l1Below_m x0b (spec_l1Below_m x0b (spec_l1Once_m x0b ((spec_l1Below_m x0b x0 12).2) 4).2 (((spec_l7All_sh_m x1).length : Nat) : Int)).2 3).1) == 1) ((⟨2, (⟨(gt (spec_l7All_sh_m x1) ((spec_l1Below_m x0b (spec_l1Once_m x0b ((spec_l1Below_m x0b x0 12).2) 4).2 (((spec_l7All_sh_m x1).length : Nat) : Int)).1.toNat)).Id, []⟩ : DRow), 0, 0⟩ : DUpdate), ((spec_l1Below_m x0b (spec_l1Below_m x0b (spec_l1Once_m x0b ((spec_l1Below_m x0b x0 12).2) 4).2 (((spec_l7All_sh_m x1).length : Nat) : Int)).2 3).2)) ((⟨3, (⟨(gt (spec_l7All_sh_m x1) ((spec_l1Below_m x0b (spec_l1Once_m x0b ((spec_l1Below_m x0b x0 12).2) 4).2 (((spec_l7All_sh_m x1).length : Nat) : Int)).1.toNat)).Id, []⟩ : DRow), (spec_l1Below_m x0b ((spec_l1Below_m x0b (spec_l1Below_m x0b (spec_l1Once_m x0b ((spec_l1Below_m x0b x0 12).2) 4).2 (((spec_l7All_sh_m x1).length : Nat) : Int)).2 3).2) 3).1, (spec_l1Below_m x0b (spec_l1Below_m x0b ((spec_l1Below_m x0b (spec_l1Below_m x0b (spec_l1Once_m x0b ((spec_l1Below_m x0b x0 12).2) 4).2 (((spec_l7All_sh_m x1).length : Nat) : Int)).2 3).2) 3).2 6).1⟩ : DUpdate), ((spec_l1Below_m x0b (spec_l1Below_m x0b ((spec_l1Below_m x0b (spec_l1Below_m x0b (spec_l1Once_m x0b ((spec_l1Below_m x0b x0 12).2) 4).2 (((spec_l7All_sh_m x1).length : Nat) : Int)).2 3).2) 3).2 6).2))))) (cond ((spec_l1Below_m x0b ((spec_l1Below_m x0b x0 12).2) 3).1 == 0) ((⟨1, (spec_l3Row_m x0b ((spec_l1Below_m x0b (spec_l1Below_m x0b ((spec_l1Below_m x0b x0 12).2) 3).2 20).2) ((spec_l1Below_m x0b (spec_l1Below_m x0b ((spec_l1Below_m x0b x0 12).2) 3).2 20).1)).1, 0, 0⟩ : DUpdate), (spec_l3Row_m x0b ((spec_l1Below_m x0b (spec_l1Below_m x0b ((spec_l1Below_m x0b x0 12).2) 3).2 20).2) ((spec_l1Below_m x0b (spec_l1Below_m x0b ((spec_l1Below_m x0b x0 12).2) 3).2 20).1)).2) (cond ((spec_l1Below_m x0b ((spec_l1Below_m x0b x0 12).2) 3).1 == 1) ((⟨2, (⟨(spec_l1Below_m x0b x0 12).1, []⟩ : DRow), 0, 0⟩ : DUpdate), (spec_l1Below_m x0b ((spec_l1Below_m x0b x0 12).2) 3).2) ((⟨3, (⟨(spec_l1Below_m x0b x0 12).1, []⟩ : DRow), (spec_l1Below_m x0b (spec_l1Below_m x0b ((spec_l1Below_m x0b x0 12).2) 3).2 3).1, (spec_l1Below_m x0b ((spec_l1Below_m x0b (spec_l1Below_m x0b ((spec_l1Below_m x0b x0 12).2) 3).2 3).2) 6).1⟩ : DUpdate), (spec_l1Below_m x0b ((spec_l1Below_m x0b (spec_l1Below_m x0b ((spec_l1Below_m x0b x0 12).2) 3).2 3).2) 6).2)))
theorem cb80 : Cb Tryz.prog 80 := ⟨f80, _, func80, rfl, by decide⟩
theorem spec_l8Update_c (B : Nat) (w0 : World) (is : List It) (w : World) (p : Nat) (z0 : Value) (x0b : List Int) (x0 : Dl1Cur) (r_0 : rdS tU8 w0 B z0 x0b) (z1 : List Value) (x1 : DStore) (s_0 : x0b.length ≤ 68719476736) (s_1 : smStore 68719476736 x1) (HQ : (x1.Segments.map List.length).sum ≤ 68719476736) (hm : Mem B w0 (iBox p 73 [z0, .int .i64 ((x0.i : Nat) : Int), .int .i64 x0.h] :: iOwn tyStore z1 x1 :: is) w) :
  Calls Tryz.prog 80 #[.pointer (some ⟨p, 0, none⟩), .agg z1.toArray] w fun e w' => ∃ x : List Value, e = .returned (.agg x.toArray) ∧ Mem B w0 (iOwn tyUpdate x ((spec_l8Update_m x0b x0 x1).1) :: iBox p 73 [z0, .int .i64 ((((spec_l8Update_m x0b x0 x1).2).i : Nat) : Int), .int .i64 ((spec_l8Update_m x0b x0 x1).2).h] :: iOwn tyStore z1 x1 :: is) w' := by
 obtain ⟨m1, A2, c3, rfl, q4, r5⟩ := rdS_op r_0
 refine call_enterW (L := [(0, .pointer (some ⟨p, 0, none⟩)), (1, .agg z1.toArray)]) (N := 50) func80 rfl rfl (Nat.le_of_ble_eq_true rfl) (argsL_cons rfl (argsL_cons rfl argsL_nil)) hm ?_
 refine CM_items (js := (iOwn tyStore z1 x1 :: iBox p 73 [.slice A2 x0b.length c3, .int .i64 ((x0.i : Nat) : Int), .int .i64 x0.h] :: is)) (fun W hm => (hm.front (n := 1) rfl)) ?_
 refine CM_split (γ := Value) (js := fun g => [iOwn (tSl (tSl tyVersion 121) 119) [g] x1.Segments]) (C := fun g => z1 = [g, .int .i64 x1.Now]) (fun _ _ h => tyStore_split h) ?_
 rintro v6 rfl
 refine CM_form (n := 0) rfl ?_
 rintro A7 c8 rfl m9
 have l11 : x0b.length ≤ 68719476736 := s_0
 have l12 : x1.Segments.length ≤ 68719476736 := s_1.1
 refine sr ?_
 refine WM_box rfl (Wd_none rfl) (by decide) (fun p13 => ?_)
 refine WM_alloc type32 rfl (Wd_none rfl) (by decide) (fun p14 => ?_)
 refine nt' (sr ?_)
 refine wv (fun W hm => rv_loadN (cs := [.slice A7 x1.Segments.length c8, .int .i64 x1.Now]) underlying81 type81 rfl rfl (hm.boxCells (n := 1) rfl)) ?_
 refine wcl (tSl (tSh tyVersion) 121) (spec_l7All_sh_m x1) (cl_fn cb105 rfl) (fun W hm => spec_l7All_sh_c W _ x1 (tyStore_mk (x := x1) (hm.rdSI (n := 2) rfl)) s_1 (HQ)) (fun z15 => ?_)
 refine WM_form (n := 0) rfl ?_
 rintro A16 c17 rfl m18
 refine wa (nt' (sr (wm ?_)))
 let K1 : List Value := [.int .i64 0, .int .i64 0, .slice none 0 0, .int .i64 0, .int .i64 0]
 let I24 : It := iOwn (tSl (tSh tyVersion) 121) [.slice A16 (spec_l7All_sh_m x1).length c17] (spec_l7All_sh_m x1)
 let I25 : It := iBox p13 81 [.slice A7 x1.Segments.length c8, .int .i64 x1.Now]
 let I26 : It := iOwn (tSl (tSl tyVersion 121) 119) [.slice A7 x1.Segments.length c8] x1.Segments
 refine WM_callW (χ := Unit) (val := fun x => .int .i64 ((spec_l1Below_m x0b x0 12).1)) (js := fun x => (iBox p 73 [.slice A2 x0b.length c3, .int .i64 ((((spec_l1Below_m x0b x0 12).2).i : Nat) : Int), .int .i64 ((spec_l1Below_m x0b x0 12).2).h] :: (I24 :: iBox p14 32 K1 :: I25 :: I26 :: is))) (cl_fn cb51 rfl) (fun W hm => spec_l1Below_c B w0 (I24 :: iBox p14 32 K1 :: I25 :: I26 :: is) W p _ x0b x0 r5 12 s_0 (hm.front (n := 4) rfl)) (Wd_none rfl) (by decide) (fun z20 => ?_)
 have hb := spec_l1Below_rng x0b x0 12
 refine wa (nt' (CM_seq (sr (wm ?_))))
 refine wv (vlen underlying119) ?_
 refine wv (fun W hm => rv_gtr rfl rfl) ?_
 refine wm ?_
 by_cases h21 : 0 < (((spec_l7All_sh_m x1).length : Nat) : Int)
 ·have g22 := decide_eq_true h21
  refine wg vmv g22 ?_
  refine WM_callW (χ := Unit) (val := fun x => .bool ((spec_l1Once_m x0b ((spec_l1Below_m x0b x0 12).2) 4).1)) (js := fun x => (iBox p 73 [.slice A2 x0b.length c3, .int .i64 ((((spec_l1Once_m x0b ((spec_l1Below_m x0b x0 12).2) 4).2).i : Nat) : Int), .int .i64 ((spec_l1Once_m x0b ((spec_l1Below_m x0b x0 12).2) 4).2).h] :: (I24 :: iBox p14 32 K1 :: I25 :: I26 :: is))) (cl_fn cb36 rfl) (fun W hm => spec_l1Once_c B w0 (I24 :: iBox p14 32 K1 :: I25 :: I26 :: is) W p _ x0b ((spec_l1Below_m x0b x0 12).2) r5 4 s_0 (hm.front (n := 0) rfl)) (Wd_some rfl rfl rfl (bw g22 rfl)) (by decide) (fun z23 => ?_)
  obtain ⟨G24, hG24⟩ : ∃ G, G = (spec_l1Once_m x0b ((spec_l1Below_m x0b x0 12).2) 4) := ⟨_, rfl⟩
  rw [← hG24]
  refine wg vnot g22 ?_
  refine wv (vpT g22) ?_
  refine nt' ?_
  rcases Bool.eq_false_or_eq_true G24.1 with g26 | g26
  ·
   refine CM_condF rfl (nt g26) ?_
   refine CM_skip (QM_then (CM_seq (sr (wm ?_))))
   refine WM_callW (χ := Unit) (val := fun x => .int .i64 ((spec_l1Below_m x0b G24.2 3).1)) (js := fun x => (iBox p 73 [.slice A2 x0b.length c3, .int .i64 ((((spec_l1Below_m x0b G24.2 3).2).i : Nat) : Int), .int .i64 ((spec_l1Below_m x0b G24.2 3).2).h] :: (I24 :: iBox p14 32 K1 :: I25 :: I26 :: is))) (cl_fn cb51 rfl) (fun W hm => spec_l1Below_c B w0 (I24 :: iBox p14 32 K1 :: I25 :: I26 :: is) W p _ x0b G24.2 r5 3 s_0 (hm.front (n := 0) rfl)) (Wd_none rfl) (by decide) (fun z27 => ?_)
   have hb := spec_l1Below_rng x0b G24.2 3
   refine nt' (CM_block (sr ?_))
   refine wv (fun W hm => rv_eql rfl rfl) ?_
   refine wa (nt' ?_)
   by_cases h28 : ((spec_l1Below_m x0b G24.2 3).1) = 0
   ·have g29 := beq_iff_eq.2 h28
    refine CM_condT rfl g29 ?_
    refine sr (wm (wm ?_))
    refine WM_callW (χ := Unit) (val := fun x => .int .i64 ((spec_l1Below_m x0b ((spec_l1Below_m x0b G24.2 3).2) 20).1)) (js := fun x => (iBox p 73 [.slice A2 x0b.length c3, .int .i64 ((((spec_l1Below_m x0b ((spec_l1Below_m x0b G24.2 3).2) 20).2).i : Nat) : Int), .int .i64 ((spec_l1Below_m x0b ((spec_l1Below_m x0b G24.2 3).2) 20).2).h] :: (I24 :: iBox p14 32 K1 :: I25 :: I26 :: is))) (cl_fn cb51 rfl) (fun W hm => spec_l1Below_c B w0 (I24 :: iBox p14 32 K1 :: I25 :: I26 :: is) W p _ x0b ((spec_l1Below_m x0b G24.2 3).2) r5 20 s_0 (hm.front (n := 0) rfl)) (Wd_none rfl) (by decide) (fun z30 => ?_)
    have hb := spec_l1Below_rng x0b ((spec_l1Below_m x0b G24.2 3).2) 20
    obtain ⟨G31, hG31⟩ : ∃ G, G = (spec_l1Below_m x0b ((spec_l1Below_m x0b G24.2 3).2) 20) := ⟨_, rfl⟩
    rw [← hG31]
    rw [← hG31] at hb
    refine WM_callW (χ := List Value) (val := fun x => .agg x.toArray) (js := fun x => (iOwn tyRow x ((spec_l3Row_m x0b G31.2 G31.1).1) :: iBox p 73 [.slice A2 x0b.length c3, .int .i64 ((((spec_l3Row_m x0b G31.2 G31.1).2).i : Nat) : Int), .int .i64 ((spec_l3Row_m x0b G31.2 G31.1).2).h] :: (I24 :: iBox p14 32 K1 :: I25 :: I26 :: is))) (cl_fn cb50 rfl) (fun W hm => spec_l3Row_c B w0 (I24 :: iBox p14 32 K1 :: I25 :: I26 :: is) W p _ x0b G31.2 r5 G31.1 s_0 (hm.front (n := 0) rfl)) (Wd_none rfl) (by decide) (fun z32 => ?_)
    obtain ⟨G33, hG33⟩ : ∃ G, G = (spec_l3Row_m x0b G31.2 G31.1) := ⟨_, rfl⟩
    rw [← hG33]
    refine tyRow_sp ?_
    rintro v34 rfl
    refine WM_form (n := 0) rfl ?_
    rintro A35 c36 rfl m37
    let K2 : List Value := [.int .i64 1, .int .i64 G33.1.Id, .slice A35 G33.1.Values.length c36, .int .i64 0, .int .i64 0]
    refine wv (fun W hm => rv_build (cs := K2) rfl (by kernel_rfl)) ?_
    refine WM_storeBox (p := p14) (o := 0) (cs' := K2) (fun w hm => hm.front (n := 3) rfl) type32 rfl (Nat.le_of_ble_eq_true rfl) rfl rfl rfl rfl (Wd_none rfl) ?_
    refine nt' (CM_ret (QM_block_ret (QM_then_ret ?_)))
    let K3 : List Value := [.slice A2 x0b.length c3, .int .i64 ((G33.2.i : Nat) : Int), .int .i64 G33.2.h]
    let I27 : It := iOwn tyStore [.slice A7 x1.Segments.length c8, .int .i64 x1.Now] x1
    let I28 : It := iOwn (tSl tInt 3) [.slice A35 G33.1.Values.length c36] G33.1.Values
    refine QM_items (js := (I27 :: (iBox p14 32 K2 :: I28 :: iBox p 73 K3 :: I24 :: I25 :: is))) (fun W hm => Mem.join (is := [I26]) (js := (iBox p14 32 K2 :: I28 :: iBox p 73 K3 :: I24 :: I25 :: is)) (fun _ _ hs => tyStore_join (x := x1) hs) (hm.front (n := 5) rfl)) ?_
    refine QM_items (js := (iOwn tyUpdate K2 (⟨1, G33.1, 0, 0⟩ : DUpdate) :: (I27 :: iBox p14 32 K2 :: iBox p 73 K3 :: I24 :: I25 :: is))) (fun W hm => Mem.join (is := [I28]) (js := (I27 :: iBox p14 32 K2 :: iBox p 73 K3 :: I24 :: I25 :: is)) (fun _ _ hs => tyUpdate_join (x := (⟨1, G33.1, 0, 0⟩ : DUpdate)) hs) (hm.front (n := 2) rfl)) ?_
    have he39 := (show spec_l8Update_m x0b x0 x1 = ((⟨1, G33.1, 0, 0⟩ : DUpdate), G33.2) from by subst hG24 hG31 hG33; exact cond_t g22 (cond_t g26 (cond_t g29 (rfl))))
    refine QM_r1 rfl (RR_cell (n := 2) rfl rfl underlying32 type32 rfl) (fun W hm => ⟨K2, ?_, ?_⟩)
    ·first | rw [he39] | rfl
    ·rw [he39]; exact ((((((hm.front (n := 1) rfl).front (n := 3) rfl).front (n := 2) rfl).front (n := 3) rfl).tail.front (n := 3) rfl).tail.front (n := 3) rfl).tail
   ·have g29 := beq_eq_false_iff_ne.2 h28
    refine CM_condF rfl g29 ?_
    refine sr ?_
    refine wv (fun W hm => rv_eql rfl rfl) ?_
    refine wa (nt' ?_)
    by_cases h40 : ((spec_l1Below_m x0b G24.2 3).1) = 1
    ·have g41 := beq_iff_eq.2 h40
     refine CM_condT rfl g41 ?_
     refine sr (wm ?_)
     refine wv (fun W hm => rv_build (cs := [.int .i64 ((spec_l1Below_m x0b x0 12).1), .slice none 0 0]) rfl (by kernel_rfl)) ?_
     let K4 : List Value := [.int .i64 2, .int .i64 ((spec_l1Below_m x0b x0 12).1), .slice none 0 0, .int .i64 0, .int .i64 0]
     refine wv (fun W hm => rv_build (cs := K4) rfl (by kernel_rfl)) ?_
     refine WM_storeBox (p := p14) (o := 0) (cs' := K4) (fun w hm => hm.front (n := 2) rfl) type32 rfl (Nat.le_of_ble_eq_true rfl) rfl rfl rfl rfl (Wd_none rfl) ?_
     refine nt' (CM_ret (QM_block_ret (QM_then_ret ?_)))
     let K5 : List Value := [.slice A2 x0b.length c3, .int .i64 ((((spec_l1Below_m x0b G24.2 3).2).i : Nat) : Int), .int .i64 (((spec_l1Below_m x0b G24.2 3).2).h)]
     let I29 : It := iOwn tyStore [.slice A7 x1.Segments.length c8, .int .i64 x1.Now] x1
     refine QM_items (js := (I29 :: (iBox p14 32 K4 :: iBox p 73 K5 :: I24 :: I25 :: is))) (fun W hm => Mem.join (is := [I26]) (js := (iBox p14 32 K4 :: iBox p 73 K5 :: I24 :: I25 :: is)) (fun _ _ hs => tyStore_join (x := x1) hs) (hm.front (n := 4) rfl)) ?_
     refine QM_items (fun W hm => hm.addNil (E := tInt) (e := 3)) ?_
     refine QM_items (js := (iOwn tyUpdate K4 (⟨2, (⟨(spec_l1Below_m x0b x0 12).1, []⟩ : DRow), 0, 0⟩ : DUpdate) :: (I29 :: iBox p14 32 K4 :: iBox p 73 K5 :: I24 :: I25 :: is))) (fun W hm => Mem.join (is := [iOwn (tSl tInt 3) [.slice none 0 0] []]) (js := (I29 :: iBox p14 32 K4 :: iBox p 73 K5 :: I24 :: I25 :: is)) (fun _ _ hs => tyUpdate_join (x := (⟨2, (⟨(spec_l1Below_m x0b x0 12).1, []⟩ : DRow), 0, 0⟩ : DUpdate)) hs) (hm.front (n := 0) rfl)) ?_
     have he43 := (show spec_l8Update_m x0b x0 x1 = ((⟨2, (⟨(spec_l1Below_m x0b x0 12).1, []⟩ : DRow), 0, 0⟩ : DUpdate), ((spec_l1Below_m x0b G24.2 3).2)) from by subst hG24; exact cond_t g22 (cond_t g26 (cond_f g29 (cond_t g41 (rfl)))))
     refine QM_r1 rfl (RR_cell (n := 2) rfl rfl underlying32 type32 rfl) (fun W hm => ⟨K4, ?_, ?_⟩)
     ·first | rw [he43] | rfl
     ·rw [he43]; exact ((((((hm.front (n := 1) rfl).front (n := 3) rfl).front (n := 2) rfl).front (n := 3) rfl).tail.front (n := 3) rfl).tail.front (n := 3) rfl).tail
    ·have g41 := beq_eq_false_iff_ne.2 h40
     refine CM_condF rfl g41 ?_
     refine CM_skip (QM_block_normal (QM_then (sr (wm ?_))))
     refine WM_callW (χ := Unit) (val := fun x => .int .i64 ((spec_l1Below_m x0b ((spec_l1Below_m x0b G24.2 3).2) 3).1)) (js := fun x => (iBox p 73 [.slice A2 x0b.length c3, .int .i64 ((((spec_l1Below_m x0b ((spec_l1Below_m x0b G24.2 3).2) 3).2).i : Nat) : Int), .int .i64 ((spec_l1Below_m x0b ((spec_l1Below_m x0b G24.2 3).2) 3).2).h] :: (I24 :: iBox p14 32 K1 :: I25 :: I26 :: is))) (cl_fn cb51 rfl) (fun W hm => spec_l1Below_c B w0 (I24 :: iBox p14 32 K1 :: I25 :: I26 :: is) W p _ x0b ((spec_l1Below_m x0b G24.2 3).2) r5 3 s_0 (hm.front (n := 0) rfl)) (Wd_none rfl) (by decide) (fun z44 => ?_)
     have hb := spec_l1Below_rng x0b ((spec_l1Below_m x0b G24.2 3).2) 3
     obtain ⟨G45, hG45⟩ : ∃ G, G = (spec_l1Below_m x0b ((spec_l1Below_m x0b G24.2 3).2) 3) := ⟨_, rfl⟩
     rw [← hG45]
     rw [← hG45] at hb
     refine wa (nt' (sr (wm ?_)))
     refine wv (fun W hm => rv_build (cs := [.int .i64 ((spec_l1Below_m x0b x0 12).1), .slice none 0 0]) rfl (by kernel_rfl)) ?_
     refine wm (wm ?_)
     refine WM_callW (χ := Unit) (val := fun x => .int .i64 ((spec_l1Below_m x0b G45.2 6).1)) (js := fun x => (iBox p 73 [.slice A2 x0b.length c3, .int .i64 ((((spec_l1Below_m x0b G45.2 6).2).i : Nat) : Int), .int .i64 ((spec_l1Below_m x0b G45.2 6).2).h] :: (I24 :: iBox p14 32 K1 :: I25 :: I26 :: is))) (cl_fn cb51 rfl) (fun W hm => spec_l1Below_c B w0 (I24 :: iBox p14 32 K1 :: I25 :: I26 :: is) W p _ x0b G45.2 r5 6 s_0 (hm.front (n := 0) rfl)) (Wd_none rfl) (by decide) (fun z46 => ?_)
     have hb := spec_l1Below_rng x0b G45.2 6
     let K6 : List Value := [.int .i64 3, .int .i64 ((spec_l1Below_m x0b x0 12).1), .slice none 0 0, .int .i64 G45.1, .int .i64 ((spec_l1Below_m x0b G45.2 6).1)]
     refine wv (fun W hm => rv_build (cs := K6) rfl (by kernel_rfl)) ?_
     refine WM_storeBox (p := p14) (o := 0) (cs' := K6) (fun w hm => hm.front (n := 2) rfl) type32 rfl (Nat.le_of_ble_eq_true rfl) rfl rfl rfl rfl (Wd_none rfl) ?_
     refine nt' (CM_ret ?_)
     let K7 : List Value := [.slice A2 x0b.length c3, .int .i64 ((((spec_l1Below_m x0b G45.2 6).2).i : Nat) : Int), .int .i64 (((spec_l1Below_m x0b G45.2 6).2).h)]
     let I30 : It := iOwn tyStore [.slice A7 x1.Segments.length c8, .int .i64 x1.Now] x1
     refine QM_items (js := (I30 :: (iBox p14 32 K6 :: iBox p 73 K7 :: I24 :: I25 :: is))) (fun W hm => Mem.join (is := [I26]) (js := (iBox p14 32 K6 :: iBox p 73 K7 :: I24 :: I25 :: is)) (fun _ _ hs => tyStore_join (x := x1) hs) (hm.front (n := 4) rfl)) ?_
     refine QM_items (fun W hm => hm.addNil (E := tInt) (e := 3)) ?_
     refine QM_items (js := (iOwn tyUpdate K6 (⟨3, (⟨(spec_l1Below_m x0b x0 12).1, []⟩ : DRow), G45.1, (spec_l1Below_m x0b G45.2 6).1⟩ : DUpdate) :: (I30 :: iBox p14 32 K6 :: iBox p 73 K7 :: I24 :: I25 :: is))) (fun W hm => Mem.join (is := [iOwn (tSl tInt 3) [.slice none 0 0] []]) (js := (I30 :: iBox p14 32 K6 :: iBox p 73 K7 :: I24 :: I25 :: is)) (fun _ _ hs => tyUpdate_join (x := (⟨3, (⟨(spec_l1Below_m x0b x0 12).1, []⟩ : DRow), G45.1, (spec_l1Below_m x0b G45.2 6).1⟩ : DUpdate)) hs) (hm.front (n := 0) rfl)) ?_
     have he48 := (show spec_l8Update_m x0b x0 x1 = ((⟨3, (⟨(spec_l1Below_m x0b x0 12).1, []⟩ : DRow), G45.1, (spec_l1Below_m x0b G45.2 6).1⟩ : DUpdate), ((spec_l1Below_m x0b G45.2 6).2)) from by subst hG24 hG45; exact cond_t g22 (cond_t g26 (cond_f g29 (cond_f g41 (rfl)))))
     refine QM_r1 rfl (RR_cell (n := 2) rfl rfl underlying32 type32 rfl) (fun W hm => ⟨K6, ?_, ?_⟩)
     ·first | rw [he48] | rfl
     ·rw [he48]; exact ((((((hm.front (n := 1) rfl).front (n := 3) rfl).front (n := 2) rfl).front (n := 3) rfl).tail.front (n := 3) rfl).tail.front (n := 3) rfl).tail
  ·
   refine CM_condT rfl (nf g26) ?_
   refine CM_region (wm (wm (wm ?_)))
   refine wv (vlen underlying119) ?_
   refine WM_callW (χ := Unit) (val := fun x => .int .i64 ((spec_l1Below_m x0b G24.2 (((spec_l7All_sh_m x1).length : Nat) : Int)).1)) (js := fun x => (iBox p 73 [.slice A2 x0b.length c3, .int .i64 ((((spec_l1Below_m x0b G24.2 (((spec_l7All_sh_m x1).length : Nat) : Int)).2).i : Nat) : Int), .int .i64 ((spec_l1Below_m x0b G24.2 (((spec_l7All_sh_m x1).length : Nat) : Int)).2).h] :: (I24 :: iBox p14 32 K1 :: I25 :: I26 :: is))) (cl_fn cb51 rfl) (fun W hm => spec_l1Below_c B w0 (I24 :: iBox p14 32 K1 :: I25 :: I26 :: is) W p _ x0b G24.2 r5 (((spec_l7All_sh_m x1).length : Nat) : Int) s_0 (hm.front (n := 0) rfl)) (Wd_none rfl) (by decide) (fun z49 => ?_)
   have hb := spec_l1Below_rng x0b G24.2 (((spec_l7All_sh_m x1).length : Nat) : Int)
   obtain ⟨G50, hG50⟩ : ∃ G, G = (spec_l1Below_m x0b G24.2 (((spec_l7All_sh_m x1).length : Nat) : Int)) := ⟨_, rfl⟩
   rw [← hG50]
   rw [← hG50] at hb
   refine WM_formO (n := 1) rfl (by omega) ?_
   rintro g51 rfl
   refine wv (fun W hm => rv_indexI (sz := 4) (k := G50.1) underlying119 type121 rfl rfl rfl (by omega) (by omega)) ?_
   refine wv (vf underlying121 rfl type3) ?_
   refine WM_focus (E := (tSh tyVersion)) (e := 121) (A := (some ⟨g51, 0, none⟩)) (n := (spec_l7All_sh_m x1).length) (c := c17) (xs := (spec_l7All_sh_m x1)) (k := (G50.1.toNat)) (js := (iBox p 73 [.slice A2 x0b.length c3, .int .i64 ((G50.2.i : Nat) : Int), .int .i64 G50.2.h] :: iBox p14 32 K1 :: I25 :: I26 :: is)) (by omega) (fun W hm => (hm.front (n := 1) rfl)) (fun ck52 => ?_)
   refine WM_split (γ := World × Nat) (js := fun _ => []) (C := fun g => tyVersion.rd g.1 g.2 ck52 (gt (spec_l7All_sh_m x1) (G50.1.toNat))) (fun _ _ h => tSh_split h) ?_
   rintro ⟨_, _⟩ e53
   obtain ⟨v54, rfl, r55⟩ := tyVersion_rd e53
   obtain ⟨m56, A57, c58, rfl, q59, r60⟩ := rdS_op r55
   refine wv (fun W hm => rv_load underlying3 rfl rfl (hm.focCells (i := 0) rfl rfl 0 _ rfl)) ?_
   refine wa (nt' (CM_seq (sr (wm ?_))))
   let K8 : List Value := [.int .i64 ((gt (spec_l7All_sh_m x1) (G50.1.toNat)).Id), .slice A57 ((gt (spec_l7All_sh_m x1) (G50.1.toNat)).Values).length c58, .int .i64 ((gt (spec_l7All_sh_m x1) (G50.1.toNat)).Born), .int .i64 ((gt (spec_l7All_sh_m x1) (G50.1.toNat)).Died)]
   refine WM_callW (χ := Unit) (val := fun x => .int .i64 ((spec_l1Below_m x0b G50.2 3).1)) (js := fun x => (iBox p 73 [.slice A2 x0b.length c3, .int .i64 ((((spec_l1Below_m x0b G50.2 3).2).i : Nat) : Int), .int .i64 ((spec_l1Below_m x0b G50.2 3).2).h] :: (iFoc (tSh tyVersion) 121 (some ⟨g51, 0, none⟩) ((spec_l7All_sh_m x1).length) c17 (spec_l7All_sh_m x1) (G50.1.toNat) K8 :: iBox p14 32 K1 :: I25 :: I26 :: is))) (cl_fn cb51 rfl) (fun W hm => spec_l1Below_c B w0 (iFoc (tSh tyVersion) 121 (some ⟨g51, 0, none⟩) ((spec_l7All_sh_m x1).length) c17 (spec_l7All_sh_m x1) (G50.1.toNat) K8 :: iBox p14 32 K1 :: I25 :: I26 :: is) W p _ x0b G50.2 r5 3 s_0 (hm.front (n := 1) rfl)) (Wd_none rfl) (by decide) (fun z61 => ?_)
   have hb := spec_l1Below_rng x0b G50.2 3
   refine nt' (CM_block (sr ?_))
   refine wv (fun W hm => rv_eql rfl rfl) ?_
   refine wa (nt' ?_)
   by_cases h62 : ((spec_l1Below_m x0b G50.2 3).1) = 0
   ·have g63 := beq_iff_eq.2 h62
    refine CM_condT rfl g63 ?_
    refine sr (wm (wm ?_))
    refine WM_callW (χ := Unit) (val := fun x => .int .i64 ((spec_l1Below_m x0b ((spec_l1Below_m x0b G50.2 3).2) 20).1)) (js := fun x => (iBox p 73 [.slice A2 x0b.length c3, .int .i64 ((((spec_l1Below_m x0b ((spec_l1Below_m x0b G50.2 3).2) 20).2).i : Nat) : Int), .int .i64 ((spec_l1Below_m x0b ((spec_l1Below_m x0b G50.2 3).2) 20).2).h] :: (iFoc (tSh tyVersion) 121 (some ⟨g51, 0, none⟩) ((spec_l7All_sh_m x1).length) c17 (spec_l7All_sh_m x1) (G50.1.toNat) K8 :: iBox p14 32 K1 :: I25 :: I26 :: is))) (cl_fn cb51 rfl) (fun W hm => spec_l1Below_c B w0 (iFoc (tSh tyVersion) 121 (some ⟨g51, 0, none⟩) ((spec_l7All_sh_m x1).length) c17 (spec_l7All_sh_m x1) (G50.1.toNat) K8 :: iBox p14 32 K1 :: I25 :: I26 :: is) W p _ x0b ((spec_l1Below_m x0b G50.2 3).2) r5 20 s_0 (hm.front (n := 0) rfl)) (Wd_none rfl) (by decide) (fun z64 => ?_)
    have hb := spec_l1Below_rng x0b ((spec_l1Below_m x0b G50.2 3).2) 20
    obtain ⟨G65, hG65⟩ : ∃ G, G = (spec_l1Below_m x0b ((spec_l1Below_m x0b G50.2 3).2) 20) := ⟨_, rfl⟩
    rw [← hG65]
    rw [← hG65] at hb
    refine WM_callW (χ := List Value) (val := fun x => .agg x.toArray) (js := fun x => (iOwn tyRow x ((spec_l3Row_m x0b G65.2 G65.1).1) :: iBox p 73 [.slice A2 x0b.length c3, .int .i64 ((((spec_l3Row_m x0b G65.2 G65.1).2).i : Nat) : Int), .int .i64 ((spec_l3Row_m x0b G65.2 G65.1).2).h] :: (iFoc (tSh tyVersion) 121 (some ⟨g51, 0, none⟩) ((spec_l7All_sh_m x1).length) c17 (spec_l7All_sh_m x1) (G50.1.toNat) K8 :: iBox p14 32 K1 :: I25 :: I26 :: is))) (cl_fn cb50 rfl) (fun W hm => spec_l3Row_c B w0 (iFoc (tSh tyVersion) 121 (some ⟨g51, 0, none⟩) ((spec_l7All_sh_m x1).length) c17 (spec_l7All_sh_m x1) (G50.1.toNat) K8 :: iBox p14 32 K1 :: I25 :: I26 :: is) W p _ x0b G65.2 r5 G65.1 s_0 (hm.front (n := 0) rfl)) (Wd_none rfl) (by decide) (fun z66 => ?_)
    obtain ⟨G67, hG67⟩ : ∃ G, G = (spec_l3Row_m x0b G65.2 G65.1) := ⟨_, rfl⟩
    rw [← hG67]
    refine tyRow_sp ?_
    rintro v68 rfl
    refine WM_form (n := 0) rfl ?_
    rintro A69 c70 rfl m71
    let K9 : List Value := [.int .i64 1, .int .i64 G67.1.Id, .slice A69 G67.1.Values.length c70, .int .i64 0, .int .i64 0]
    refine wv (fun W hm => rv_build (cs := K9) rfl (by kernel_rfl)) ?_
    refine WM_storeBox (p := p14) (o := 0) (cs' := K9) (fun w hm => hm.front (n := 3) rfl) type32 rfl (Nat.le_of_ble_eq_true rfl) rfl rfl rfl rfl (Wd_none rfl) ?_
    refine nt' (CM_ret (QM_block_ret (QM_then_ret ?_)))
    let K10 : List Value := [.slice A2 x0b.length c3, .int .i64 ((G67.2.i : Nat) : Int), .int .i64 G67.2.h]
    let I31 : It := iOwn (tSl tInt 3) [.slice A69 G67.1.Values.length c70] G67.1.Values
    refine QM_items (fun W hm => Mem.unfocus0 (Mem.join (is := []) (js := (iFoc (tSh tyVersion) 121 (some ⟨g51, 0, none⟩) ((spec_l7All_sh_m x1).length) c17 (spec_l7All_sh_m x1) (G50.1.toNat) K8 :: (iBox p14 32 K9 :: I31 :: iBox p 73 K10 :: I25 :: I26 :: is))) (fun _ _ hs => ⟨Sep.nil hs, _, _, (tyVersion_mk r60)⟩) (hm.front (n := 3) rfl))) ?_
    let K11 : List Value := [.slice (some ⟨g51, 0, none⟩) (spec_l7All_sh_m x1).length c17]
    let I32 : It := iOwn tyStore [.slice A7 x1.Segments.length c8, .int .i64 x1.Now] x1
    let I33 : It := iOwn (tSl (tSh tyVersion) 121) K11 (spec_l7All_sh_m x1)
    refine QM_items (js := (I32 :: (I33 :: iBox p14 32 K9 :: I31 :: iBox p 73 K10 :: I25 :: is))) (fun W hm => Mem.join (is := [I26]) (js := (I33 :: iBox p14 32 K9 :: I31 :: iBox p 73 K10 :: I25 :: is)) (fun _ _ hs => tyStore_join (x := x1) hs) (hm.front (n := 5) rfl)) ?_
    refine QM_items (js := (iOwn tyUpdate K9 (⟨1, G67.1, 0, 0⟩ : DUpdate) :: (I32 :: I33 :: iBox p14 32 K9 :: iBox p 73 K10 :: I25 :: is))) (fun W hm => Mem.join (is := [I31]) (js := (I32 :: I33 :: iBox p14 32 K9 :: iBox p 73 K10 :: I25 :: is)) (fun _ _ hs => tyUpdate_join (x := (⟨1, G67.1, 0, 0⟩ : DUpdate)) hs) (hm.front (n := 3) rfl)) ?_
    have he73 := (show spec_l8Update_m x0b x0 x1 = ((⟨1, G67.1, 0, 0⟩ : DUpdate), G67.2) from by subst hG24 hG50 hG65 hG67; exact cond_t g22 (cond_f g26 (cond_t g63 (rfl))))
    refine QM_r1 rfl (RR_cell (n := 3) rfl rfl underlying32 type32 rfl) (fun W hm => ⟨K9, ?_, ?_⟩)
    ·first | rw [he73] | rfl
    ·rw [he73]; exact ((((((hm.front (n := 1) rfl).front (n := 4) rfl).front (n := 2) rfl).front (n := 3) rfl).tail.front (n := 3) rfl).tail.front (n := 3) rfl).tail
   ·have g63 := beq_eq_false_iff_ne.2 h62
    refine CM_condF rfl g63 ?_
    refine sr ?_
    refine wv (fun W hm => rv_eql rfl rfl) ?_
    refine wa (nt' ?_)
    by_cases h74 : ((spec_l1Below_m x0b G50.2 3).1) = 1
    ·have g75 := beq_iff_eq.2 h74
     refine CM_condT rfl g75 ?_
     refine sr (wm ?_)
     refine wv (fun W hm => rv_build (cs := [.int .i64 ((gt (spec_l7All_sh_m x1) (G50.1.toNat)).Id), .slice none 0 0]) rfl (by kernel_rfl)) ?_
     let K12 : List Value := [.int .i64 2, .int .i64 ((gt (spec_l7All_sh_m x1) (G50.1.toNat)).Id), .slice none 0 0, .int .i64 0, .int .i64 0]
     refine wv (fun W hm => rv_build (cs := K12) rfl (by kernel_rfl)) ?_
     refine WM_storeBox (p := p14) (o := 0) (cs' := K12) (fun w hm => hm.front (n := 2) rfl) type32 rfl (Nat.le_of_ble_eq_true rfl) rfl rfl rfl rfl (Wd_none rfl) ?_
     refine nt' (CM_ret (QM_block_ret (QM_then_ret ?_)))
     let K13 : List Value := [.slice A2 x0b.length c3, .int .i64 ((((spec_l1Below_m x0b G50.2 3).2).i : Nat) : Int), .int .i64 (((spec_l1Below_m x0b G50.2 3).2).h)]
     refine QM_items (fun W hm => Mem.unfocus0 (Mem.join (is := []) (js := (iFoc (tSh tyVersion) 121 (some ⟨g51, 0, none⟩) ((spec_l7All_sh_m x1).length) c17 (spec_l7All_sh_m x1) (G50.1.toNat) K8 :: (iBox p14 32 K12 :: iBox p 73 K13 :: I25 :: I26 :: is))) (fun _ _ hs => ⟨Sep.nil hs, _, _, (tyVersion_mk r60)⟩) (hm.front (n := 2) rfl))) ?_
     let K14 : List Value := [.slice (some ⟨g51, 0, none⟩) (spec_l7All_sh_m x1).length c17]
     let I34 : It := iOwn tyStore [.slice A7 x1.Segments.length c8, .int .i64 x1.Now] x1
     let I35 : It := iOwn (tSl (tSh tyVersion) 121) K14 (spec_l7All_sh_m x1)
     refine QM_items (js := (I34 :: (I35 :: iBox p14 32 K12 :: iBox p 73 K13 :: I25 :: is))) (fun W hm => Mem.join (is := [I26]) (js := (I35 :: iBox p14 32 K12 :: iBox p 73 K13 :: I25 :: is)) (fun _ _ hs => tyStore_join (x := x1) hs) (hm.front (n := 4) rfl)) ?_
     refine QM_items (fun W hm => hm.addNil (E := tInt) (e := 3)) ?_
     refine QM_items (js := (iOwn tyUpdate K12 (⟨2, (⟨(gt (spec_l7All_sh_m x1) (G50.1.toNat)).Id, []⟩ : DRow), 0, 0⟩ : DUpdate) :: (I34 :: I35 :: iBox p14 32 K12 :: iBox p 73 K13 :: I25 :: is))) (fun W hm => Mem.join (is := [iOwn (tSl tInt 3) [.slice none 0 0] []]) (js := (I34 :: I35 :: iBox p14 32 K12 :: iBox p 73 K13 :: I25 :: is)) (fun _ _ hs => tyUpdate_join (x := (⟨2, (⟨(gt (spec_l7All_sh_m x1) (G50.1.toNat)).Id, []⟩ : DRow), 0, 0⟩ : DUpdate)) hs) (hm.front (n := 0) rfl)) ?_
     have he77 := (show spec_l8Update_m x0b x0 x1 = ((⟨2, (⟨(gt (spec_l7All_sh_m x1) (G50.1.toNat)).Id, []⟩ : DRow), 0, 0⟩ : DUpdate), ((spec_l1Below_m x0b G50.2 3).2)) from by subst hG24 hG50; exact cond_t g22 (cond_f g26 (cond_f g63 (cond_t g75 (rfl)))))
     refine QM_r1 rfl (RR_cell (n := 3) rfl rfl underlying32 type32 rfl) (fun W hm => ⟨K12, ?_, ?_⟩)
     ·first | rw [he77] | rfl
     ·rw [he77]; exact ((((((hm.front (n := 1) rfl).front (n := 4) rfl).front (n := 2) rfl).front (n := 3) rfl).tail.front (n := 3) rfl).tail.front (n := 3) rfl).tail
    ·have g75 := beq_eq_false_iff_ne.2 h74
     refine CM_condF rfl g75 ?_
     refine CM_skip (QM_block_normal (QM_then (sr (wm ?_))))
     refine WM_callW (χ := Unit) (val := fun x => .int .i64 ((spec_l1Below_m x0b ((spec_l1Below_m x0b G50.2 3).2) 3).1)) (js := fun x => (iBox p 73 [.slice A2 x0b.length c3, .int .i64 ((((spec_l1Below_m x0b ((spec_l1Below_m x0b G50.2 3).2) 3).2).i : Nat) : Int), .int .i64 ((spec_l1Below_m x0b ((spec_l1Below_m x0b G50.2 3).2) 3).2).h] :: (iFoc (tSh tyVersion) 121 (some ⟨g51, 0, none⟩) ((spec_l7All_sh_m x1).length) c17 (spec_l7All_sh_m x1) (G50.1.toNat) K8 :: iBox p14 32 K1 :: I25 :: I26 :: is))) (cl_fn cb51 rfl) (fun W hm => spec_l1Below_c B w0 (iFoc (tSh tyVersion) 121 (some ⟨g51, 0, none⟩) ((spec_l7All_sh_m x1).length) c17 (spec_l7All_sh_m x1) (G50.1.toNat) K8 :: iBox p14 32 K1 :: I25 :: I26 :: is) W p _ x0b ((spec_l1Below_m x0b G50.2 3).2) r5 3 s_0 (hm.front (n := 0) rfl)) (Wd_none rfl) (by decide) (fun z78 => ?_)
     have hb := spec_l1Below_rng x0b ((spec_l1Below_m x0b G50.2 3).2) 3
     obtain ⟨G79, hG79⟩ : ∃ G, G = (spec_l1Below_m x0b ((spec_l1Below_m x0b G50.2 3).2) 3) := ⟨_, rfl⟩
     rw [← hG79]
     rw [← hG79] at hb
     refine wa (nt' (sr (wm ?_)))
     refine wv (fun W hm => rv_build (cs := [.int .i64 ((gt (spec_l7All_sh_m x1) (G50.1.toNat)).Id), .slice none 0 0]) rfl (by kernel_rfl)) ?_
     refine wm (wm ?_)
     refine WM_callW (χ := Unit) (val := fun x => .int .i64 ((spec_l1Below_m x0b G79.2 6).1)) (js := fun x => (iBox p 73 [.slice A2 x0b.length c3, .int .i64 ((((spec_l1Below_m x0b G79.2 6).2).i : Nat) : Int), .int .i64 ((spec_l1Below_m x0b G79.2 6).2).h] :: (iFoc (tSh tyVersion) 121 (some ⟨g51, 0, none⟩) ((spec_l7All_sh_m x1).length) c17 (spec_l7All_sh_m x1) (G50.1.toNat) K8 :: iBox p14 32 K1 :: I25 :: I26 :: is))) (cl_fn cb51 rfl) (fun W hm => spec_l1Below_c B w0 (iFoc (tSh tyVersion) 121 (some ⟨g51, 0, none⟩) ((spec_l7All_sh_m x1).length) c17 (spec_l7All_sh_m x1) (G50.1.toNat) K8 :: iBox p14 32 K1 :: I25 :: I26 :: is) W p _ x0b G79.2 r5 6 s_0 (hm.front (n := 0) rfl)) (Wd_none rfl) (by decide) (fun z80 => ?_)
     have hb := spec_l1Below_rng x0b G79.2 6
     let K15 : List Value := [.int .i64 3, .int .i64 ((gt (spec_l7All_sh_m x1) (G50.1.toNat)).Id), .slice none 0 0, .int .i64 G79.1, .int .i64 ((spec_l1Below_m x0b G79.2 6).1)]
     refine wv (fun W hm => rv_build (cs := K15) rfl (by kernel_rfl)) ?_
     refine WM_storeBox (p := p14) (o := 0) (cs' := K15) (fun w hm => hm.front (n := 2) rfl) type32 rfl (Nat.le_of_ble_eq_true rfl) rfl rfl rfl rfl (Wd_none rfl) ?_
     refine nt' (CM_ret ?_)
     let K16 : List Value := [.slice A2 x0b.length c3, .int .i64 ((((spec_l1Below_m x0b G79.2 6).2).i : Nat) : Int), .int .i64 (((spec_l1Below_m x0b G79.2 6).2).h)]
     refine QM_items (fun W hm => Mem.unfocus0 (Mem.join (is := []) (js := (iFoc (tSh tyVersion) 121 (some ⟨g51, 0, none⟩) ((spec_l7All_sh_m x1).length) c17 (spec_l7All_sh_m x1) (G50.1.toNat) K8 :: (iBox p14 32 K15 :: iBox p 73 K16 :: I25 :: I26 :: is))) (fun _ _ hs => ⟨Sep.nil hs, _, _, (tyVersion_mk r60)⟩) (hm.front (n := 2) rfl))) ?_
     let K17 : List Value := [.slice (some ⟨g51, 0, none⟩) (spec_l7All_sh_m x1).length c17]
     let I36 : It := iOwn tyStore [.slice A7 x1.Segments.length c8, .int .i64 x1.Now] x1
     let I37 : It := iOwn (tSl (tSh tyVersion) 121) K17 (spec_l7All_sh_m x1)
     refine QM_items (js := (I36 :: (I37 :: iBox p14 32 K15 :: iBox p 73 K16 :: I25 :: is))) (fun W hm => Mem.join (is := [I26]) (js := (I37 :: iBox p14 32 K15 :: iBox p 73 K16 :: I25 :: is)) (fun _ _ hs => tyStore_join (x := x1) hs) (hm.front (n := 4) rfl)) ?_
     refine QM_items (fun W hm => hm.addNil (E := tInt) (e := 3)) ?_
     refine QM_items (js := (iOwn tyUpdate K15 (⟨3, (⟨(gt (spec_l7All_sh_m x1) (G50.1.toNat)).Id, []⟩ : DRow), G79.1, (spec_l1Below_m x0b G79.2 6).1⟩ : DUpdate) :: (I36 :: I37 :: iBox p14 32 K15 :: iBox p 73 K16 :: I25 :: is))) (fun W hm => Mem.join (is := [iOwn (tSl tInt 3) [.slice none 0 0] []]) (js := (I36 :: I37 :: iBox p14 32 K15 :: iBox p 73 K16 :: I25 :: is)) (fun _ _ hs => tyUpdate_join (x := (⟨3, (⟨(gt (spec_l7All_sh_m x1) (G50.1.toNat)).Id, []⟩ : DRow), G79.1, (spec_l1Below_m x0b G79.2 6).1⟩ : DUpdate)) hs) (hm.front (n := 0) rfl)) ?_
     have he82 := (show spec_l8Update_m x0b x0 x1 = ((⟨3, (⟨(gt (spec_l7All_sh_m x1) (G50.1.toNat)).Id, []⟩ : DRow), G79.1, (spec_l1Below_m x0b G79.2 6).1⟩ : DUpdate), ((spec_l1Below_m x0b G79.2 6).2)) from by subst hG24 hG50 hG79; exact cond_t g22 (cond_f g26 (cond_f g63 (cond_f g75 (rfl)))))
     refine QM_r1 rfl (RR_cell (n := 3) rfl rfl underlying32 type32 rfl) (fun W hm => ⟨K15, ?_, ?_⟩)
     ·first | rw [he82] | rfl
     ·rw [he82]; exact ((((((hm.front (n := 1) rfl).front (n := 4) rfl).front (n := 2) rfl).front (n := 3) rfl).tail.front (n := 3) rfl).tail.front (n := 3) rfl).tail
 ·have g22 := decide_eq_false h21
  refine ws g22 ?_
  refine ws g22 ?_
  refine ws g22 ?_
  refine wv (vpF g22) ?_
  refine nt' ?_
  refine CM_condF rfl rfl ?_
  refine CM_skip (QM_then (CM_seq (sr (wm ?_))))
  refine WM_callW (χ := Unit) (val := fun x => .int .i64 ((spec_l1Below_m x0b ((spec_l1Below_m x0b x0 12).2) 3).1)) (js := fun x => (iBox p 73 [.slice A2 x0b.length c3, .int .i64 ((((spec_l1Below_m x0b ((spec_l1Below_m x0b x0 12).2) 3).2).i : Nat) : Int), .int .i64 ((spec_l1Below_m x0b ((spec_l1Below_m x0b x0 12).2) 3).2).h] :: (I24 :: iBox p14 32 K1 :: I25 :: I26 :: is))) (cl_fn cb51 rfl) (fun W hm => spec_l1Below_c B w0 (I24 :: iBox p14 32 K1 :: I25 :: I26 :: is) W p _ x0b ((spec_l1Below_m x0b x0 12).2) r5 3 s_0 (hm.front (n := 0) rfl)) (Wd_none rfl) (by decide) (fun z83 => ?_)
  have hb := spec_l1Below_rng x0b ((spec_l1Below_m x0b x0 12).2) 3
  obtain ⟨G84, hG84⟩ : ∃ G, G = (spec_l1Below_m x0b ((spec_l1Below_m x0b x0 12).2) 3) := ⟨_, rfl⟩
  rw [← hG84]
  rw [← hG84] at hb
  refine nt' (CM_block (sr ?_))
  refine wv (fun W hm => rv_eql rfl rfl) ?_
  refine wa (nt' ?_)
  by_cases h85 : G84.1 = 0
  ·have g86 := beq_iff_eq.2 h85
   refine CM_condT rfl g86 ?_
   refine sr (wm (wm ?_))
   refine WM_callW (χ := Unit) (val := fun x => .int .i64 ((spec_l1Below_m x0b G84.2 20).1)) (js := fun x => (iBox p 73 [.slice A2 x0b.length c3, .int .i64 ((((spec_l1Below_m x0b G84.2 20).2).i : Nat) : Int), .int .i64 ((spec_l1Below_m x0b G84.2 20).2).h] :: (I24 :: iBox p14 32 K1 :: I25 :: I26 :: is))) (cl_fn cb51 rfl) (fun W hm => spec_l1Below_c B w0 (I24 :: iBox p14 32 K1 :: I25 :: I26 :: is) W p _ x0b G84.2 r5 20 s_0 (hm.front (n := 0) rfl)) (Wd_none rfl) (by decide) (fun z87 => ?_)
   have hb := spec_l1Below_rng x0b G84.2 20
   refine WM_callW (χ := List Value) (val := fun x => .agg x.toArray) (js := fun x => (iOwn tyRow x ((spec_l3Row_m x0b ((spec_l1Below_m x0b G84.2 20).2) ((spec_l1Below_m x0b G84.2 20).1)).1) :: iBox p 73 [.slice A2 x0b.length c3, .int .i64 ((((spec_l3Row_m x0b ((spec_l1Below_m x0b G84.2 20).2) ((spec_l1Below_m x0b G84.2 20).1)).2).i : Nat) : Int), .int .i64 ((spec_l3Row_m x0b ((spec_l1Below_m x0b G84.2 20).2) ((spec_l1Below_m x0b G84.2 20).1)).2).h] :: (I24 :: iBox p14 32 K1 :: I25 :: I26 :: is))) (cl_fn cb50 rfl) (fun W hm => spec_l3Row_c B w0 (I24 :: iBox p14 32 K1 :: I25 :: I26 :: is) W p _ x0b ((spec_l1Below_m x0b G84.2 20).2) r5 ((spec_l1Below_m x0b G84.2 20).1) s_0 (hm.front (n := 0) rfl)) (Wd_none rfl) (by decide) (fun z88 => ?_)
   obtain ⟨G89, hG89⟩ : ∃ G, G = (spec_l3Row_m x0b ((spec_l1Below_m x0b G84.2 20).2) ((spec_l1Below_m x0b G84.2 20).1)) := ⟨_, rfl⟩
   rw [← hG89]
   refine tyRow_sp ?_
   rintro v90 rfl
   refine WM_form (n := 0) rfl ?_
   rintro A91 c92 rfl m93
   let K18 : List Value := [.int .i64 1, .int .i64 G89.1.Id, .slice A91 G89.1.Values.length c92, .int .i64 0, .int .i64 0]
   refine wv (fun W hm => rv_build (cs := K18) rfl (by kernel_rfl)) ?_
   refine WM_storeBox (p := p14) (o := 0) (cs' := K18) (fun w hm => hm.front (n := 3) rfl) type32 rfl (Nat.le_of_ble_eq_true rfl) rfl rfl rfl rfl (Wd_none rfl) ?_
   refine nt' (CM_ret (QM_block_ret (QM_then_ret ?_)))
   let K19 : List Value := [.slice A2 x0b.length c3, .int .i64 ((G89.2.i : Nat) : Int), .int .i64 G89.2.h]
   let I38 : It := iOwn tyStore [.slice A7 x1.Segments.length c8, .int .i64 x1.Now] x1
   let I39 : It := iOwn (tSl tInt 3) [.slice A91 G89.1.Values.length c92] G89.1.Values
   refine QM_items (js := (I38 :: (iBox p14 32 K18 :: I39 :: iBox p 73 K19 :: I24 :: I25 :: is))) (fun W hm => Mem.join (is := [I26]) (js := (iBox p14 32 K18 :: I39 :: iBox p 73 K19 :: I24 :: I25 :: is)) (fun _ _ hs => tyStore_join (x := x1) hs) (hm.front (n := 5) rfl)) ?_
   refine QM_items (js := (iOwn tyUpdate K18 (⟨1, G89.1, 0, 0⟩ : DUpdate) :: (I38 :: iBox p14 32 K18 :: iBox p 73 K19 :: I24 :: I25 :: is))) (fun W hm => Mem.join (is := [I39]) (js := (I38 :: iBox p14 32 K18 :: iBox p 73 K19 :: I24 :: I25 :: is)) (fun _ _ hs => tyUpdate_join (x := (⟨1, G89.1, 0, 0⟩ : DUpdate)) hs) (hm.front (n := 2) rfl)) ?_
   have he95 := (show spec_l8Update_m x0b x0 x1 = ((⟨1, G89.1, 0, 0⟩ : DUpdate), G89.2) from by subst hG84 hG89; exact cond_f g22 (cond_t g86 (rfl)))
   refine QM_r1 rfl (RR_cell (n := 2) rfl rfl underlying32 type32 rfl) (fun W hm => ⟨K18, ?_, ?_⟩)
   ·first | rw [he95] | rfl
   ·rw [he95]; exact ((((((hm.front (n := 1) rfl).front (n := 3) rfl).front (n := 2) rfl).front (n := 3) rfl).tail.front (n := 3) rfl).tail.front (n := 3) rfl).tail
  ·have g86 := beq_eq_false_iff_ne.2 h85
   refine CM_condF rfl g86 ?_
   refine sr ?_
   refine wv (fun W hm => rv_eql rfl rfl) ?_
   refine wa (nt' ?_)
   by_cases h96 : G84.1 = 1
   ·have g97 := beq_iff_eq.2 h96
    refine CM_condT rfl g97 ?_
    refine sr (wm ?_)
    refine wv (fun W hm => rv_build (cs := [.int .i64 ((spec_l1Below_m x0b x0 12).1), .slice none 0 0]) rfl (by kernel_rfl)) ?_
    let K20 : List Value := [.int .i64 2, .int .i64 ((spec_l1Below_m x0b x0 12).1), .slice none 0 0, .int .i64 0, .int .i64 0]
    refine wv (fun W hm => rv_build (cs := K20) rfl (by kernel_rfl)) ?_
    refine WM_storeBox (p := p14) (o := 0) (cs' := K20) (fun w hm => hm.front (n := 2) rfl) type32 rfl (Nat.le_of_ble_eq_true rfl) rfl rfl rfl rfl (Wd_none rfl) ?_
    refine nt' (CM_ret (QM_block_ret (QM_then_ret ?_)))
    let K21 : List Value := [.slice A2 x0b.length c3, .int .i64 ((G84.2.i : Nat) : Int), .int .i64 G84.2.h]
    let I40 : It := iOwn tyStore [.slice A7 x1.Segments.length c8, .int .i64 x1.Now] x1
    refine QM_items (js := (I40 :: (iBox p14 32 K20 :: iBox p 73 K21 :: I24 :: I25 :: is))) (fun W hm => Mem.join (is := [I26]) (js := (iBox p14 32 K20 :: iBox p 73 K21 :: I24 :: I25 :: is)) (fun _ _ hs => tyStore_join (x := x1) hs) (hm.front (n := 4) rfl)) ?_
    refine QM_items (fun W hm => hm.addNil (E := tInt) (e := 3)) ?_
    refine QM_items (js := (iOwn tyUpdate K20 (⟨2, (⟨(spec_l1Below_m x0b x0 12).1, []⟩ : DRow), 0, 0⟩ : DUpdate) :: (I40 :: iBox p14 32 K20 :: iBox p 73 K21 :: I24 :: I25 :: is))) (fun W hm => Mem.join (is := [iOwn (tSl tInt 3) [.slice none 0 0] []]) (js := (I40 :: iBox p14 32 K20 :: iBox p 73 K21 :: I24 :: I25 :: is)) (fun _ _ hs => tyUpdate_join (x := (⟨2, (⟨(spec_l1Below_m x0b x0 12).1, []⟩ : DRow), 0, 0⟩ : DUpdate)) hs) (hm.front (n := 0) rfl)) ?_
    have he99 := (show spec_l8Update_m x0b x0 x1 = ((⟨2, (⟨(spec_l1Below_m x0b x0 12).1, []⟩ : DRow), 0, 0⟩ : DUpdate), G84.2) from by subst hG84; exact cond_f g22 (cond_f g86 (cond_t g97 (rfl))))
    refine QM_r1 rfl (RR_cell (n := 2) rfl rfl underlying32 type32 rfl) (fun W hm => ⟨K20, ?_, ?_⟩)
    ·first | rw [he99] | rfl
    ·rw [he99]; exact ((((((hm.front (n := 1) rfl).front (n := 3) rfl).front (n := 2) rfl).front (n := 3) rfl).tail.front (n := 3) rfl).tail.front (n := 3) rfl).tail
   ·have g97 := beq_eq_false_iff_ne.2 h96
    refine CM_condF rfl g97 ?_
    refine CM_skip (QM_block_normal (QM_then (sr (wm ?_))))
    refine WM_callW (χ := Unit) (val := fun x => .int .i64 ((spec_l1Below_m x0b G84.2 3).1)) (js := fun x => (iBox p 73 [.slice A2 x0b.length c3, .int .i64 ((((spec_l1Below_m x0b G84.2 3).2).i : Nat) : Int), .int .i64 ((spec_l1Below_m x0b G84.2 3).2).h] :: (I24 :: iBox p14 32 K1 :: I25 :: I26 :: is))) (cl_fn cb51 rfl) (fun W hm => spec_l1Below_c B w0 (I24 :: iBox p14 32 K1 :: I25 :: I26 :: is) W p _ x0b G84.2 r5 3 s_0 (hm.front (n := 0) rfl)) (Wd_none rfl) (by decide) (fun z100 => ?_)
    have hb := spec_l1Below_rng x0b G84.2 3
    refine wa (nt' (sr (wm ?_)))
    refine wv (fun W hm => rv_build (cs := [.int .i64 ((spec_l1Below_m x0b x0 12).1), .slice none 0 0]) rfl (by kernel_rfl)) ?_
    refine wm (wm ?_)
    refine WM_callW (χ := Unit) (val := fun x => .int .i64 ((spec_l1Below_m x0b ((spec_l1Below_m x0b G84.2 3).2) 6).1)) (js := fun x => (iBox p 73 [.slice A2 x0b.length c3, .int .i64 ((((spec_l1Below_m x0b ((spec_l1Below_m x0b G84.2 3).2) 6).2).i : Nat) : Int), .int .i64 ((spec_l1Below_m x0b ((spec_l1Below_m x0b G84.2 3).2) 6).2).h] :: (I24 :: iBox p14 32 K1 :: I25 :: I26 :: is))) (cl_fn cb51 rfl) (fun W hm => spec_l1Below_c B w0 (I24 :: iBox p14 32 K1 :: I25 :: I26 :: is) W p _ x0b ((spec_l1Below_m x0b G84.2 3).2) r5 6 s_0 (hm.front (n := 0) rfl)) (Wd_none rfl) (by decide) (fun z101 => ?_)
    have hb := spec_l1Below_rng x0b ((spec_l1Below_m x0b G84.2 3).2) 6
    obtain ⟨G102, hG102⟩ : ∃ G, G = (spec_l1Below_m x0b ((spec_l1Below_m x0b G84.2 3).2) 6) := ⟨_, rfl⟩
    rw [← hG102]
    rw [← hG102] at hb
    let K22 : List Value := [.int .i64 3, .int .i64 ((spec_l1Below_m x0b x0 12).1), .slice none 0 0, .int .i64 ((spec_l1Below_m x0b G84.2 3).1), .int .i64 G102.1]
    refine wv (fun W hm => rv_build (cs := K22) rfl (by kernel_rfl)) ?_
    refine WM_storeBox (p := p14) (o := 0) (cs' := K22) (fun w hm => hm.front (n := 2) rfl) type32 rfl (Nat.le_of_ble_eq_true rfl) rfl rfl rfl rfl (Wd_none rfl) ?_
    refine nt' (CM_ret ?_)
    let K23 : List Value := [.slice A2 x0b.length c3, .int .i64 ((G102.2.i : Nat) : Int), .int .i64 G102.2.h]
    let I41 : It := iOwn tyStore [.slice A7 x1.Segments.length c8, .int .i64 x1.Now] x1
    refine QM_items (js := (I41 :: (iBox p14 32 K22 :: iBox p 73 K23 :: I24 :: I25 :: is))) (fun W hm => Mem.join (is := [I26]) (js := (iBox p14 32 K22 :: iBox p 73 K23 :: I24 :: I25 :: is)) (fun _ _ hs => tyStore_join (x := x1) hs) (hm.front (n := 4) rfl)) ?_
    refine QM_items (fun W hm => hm.addNil (E := tInt) (e := 3)) ?_
    refine QM_items (js := (iOwn tyUpdate K22 (⟨3, (⟨(spec_l1Below_m x0b x0 12).1, []⟩ : DRow), (spec_l1Below_m x0b G84.2 3).1, G102.1⟩ : DUpdate) :: (I41 :: iBox p14 32 K22 :: iBox p 73 K23 :: I24 :: I25 :: is))) (fun W hm => Mem.join (is := [iOwn (tSl tInt 3) [.slice none 0 0] []]) (js := (I41 :: iBox p14 32 K22 :: iBox p 73 K23 :: I24 :: I25 :: is)) (fun _ _ hs => tyUpdate_join (x := (⟨3, (⟨(spec_l1Below_m x0b x0 12).1, []⟩ : DRow), (spec_l1Below_m x0b G84.2 3).1, G102.1⟩ : DUpdate)) hs) (hm.front (n := 0) rfl)) ?_
    have he104 := (show spec_l8Update_m x0b x0 x1 = ((⟨3, (⟨(spec_l1Below_m x0b x0 12).1, []⟩ : DRow), (spec_l1Below_m x0b G84.2 3).1, G102.1⟩ : DUpdate), G102.2) from by subst hG84 hG102; exact cond_f g22 (cond_f g86 (cond_f g97 (rfl))))
    refine QM_r1 rfl (RR_cell (n := 2) rfl rfl underlying32 type32 rfl) (fun W hm => ⟨K22, ?_, ?_⟩)
    ·first | rw [he104] | rfl
    ·rw [he104]; exact ((((((hm.front (n := 1) rfl).front (n := 3) rfl).front (n := 2) rfl).front (n := 3) rfl).tail.front (n := 3) rfl).tail.front (n := 3) rfl).tail

def spec_l7One_m (x0 : Int) (x1 : (List Int)) (x2 : Int) (x3 : Int) : DVersion :=
 (⟨x0, x1, x2, x3⟩ : DVersion)
theorem cb135 : Cb Tryz.prog 135 := ⟨f135, _, func135, rfl, by decide⟩
theorem spec_l7One_c (w : World) (x0 : Int) (z1 : Value) (x1 : (List Int)) (x2 : Int) (x3 : Int) (r_1 : rdS tInt w w.heap.size z1 x1) (s_1 : x1.length ≤ 68719476736) :
  Calls Tryz.prog 135 #[.int .i64 x0, z1, .int .i64 x2, .int .i64 x3] w fun e w' => ∃ v : List Value, e = .returned (.agg v.toArray) ∧ Mem w.heap.size w [iOwn tyVersion v (spec_l7One_m x0 x1 x2 x3)] w' := by
 obtain ⟨m1, A2, c3, rfl, q4, r5⟩ := rdS_op r_1
 have l6 : x1.length ≤ 68719476736 := s_1
 refine ce4 (L := [(0, .int .i64 x0), (1, .slice A2 x1.length c3), (2, .int .i64 x2), (3, .int .i64 x3)]) (N := 16) func135 ?_
 refine sr ?_
 refine WM_alloc type121 rfl (Wd_none rfl) (by decide) (fun p7 => ?_)
 refine nt' (sr (wm ?_))
 refine WM_build0 (E := tInt) underlying24 type3 (Wd_none rfl) (by decide) (fun p8 => ?_)
 refine wm ?_
 refine apR tInt tInt 3 (.slice (some ⟨p8, 0, none⟩) 0 0) [] x1 [iBox p7 121 [.int .i64 0, .slice none 0 0, .int .i64 0, .int .i64 0]] (fun W hm => hm) (fun W hm => src_flat flat_int (hm.rdS0 r5)) underlying24 type3 (show (0 + x1.length) * 8 ≤ 140737488355328 from by omega) (fun v10 => ?_)
 refine WM_form (n := 0) rfl ?_
 rintro A11 c12 rfl m13
 refine wm (wm ?_)
 let K1 : List Value := [.int .i64 x0, .slice A11 x1.length c12, .int .i64 x2, .int .i64 x3]
 refine wv (fun W hm => rv_build (cs := K1) rfl (by kernel_rfl)) ?_
 let I2 : It := iOwn (tSl tInt 3) [.slice A11 x1.length c12] x1
 refine sb 0 K1 [I2] (pk [1, 0]) type121 ?_
 refine nt' (CM_ret ?_)
 have he15 := (show spec_l7One_m x0 x1 x2 x3 = (⟨x0, x1, x2, x3⟩ : DVersion) from rfl)
 refine QM_r1 rfl (RR_cell (n := 0) rfl rfl underlying121 type121 rfl) (fun W hm => ⟨K1, ?_, ?_⟩)
 ·first | rw [he15] | rfl
 ·rw [he15]; exact Mem.join (is := [I2]) (js := []) (fun _ _ hs => tyVersion_join (x := (⟨x0, x1, x2, x3⟩ : DVersion)) hs) (hm.pick [1] (by decide))

def spec_l7Part_b1 (x0 : (List DVersion)) (k9 : Nat) (d10 : (List DVersion)) : (List DVersion) ⊕ ((List DVersion)) :=
 Sum.inr (d10 ++ [(spec_l7One_m ((gt x0 k9).Id) ((gt x0 k9).Values) ((gt x0 k9).Born) ((gt x0 k9).Died))])
def spec_l7Part_m (x0 : (List DVersion)) : (List DVersion) :=
 Sum.elim id (fun (s : (List DVersion)) => s) (rng (R := (List DVersion)) (fun k (s : (List DVersion)) => spec_l7Part_b1 x0 k s) (x0.length - 0) 0 [])
theorem cb122 : Cb Tryz.prog 122 := ⟨f122, _, func122, rfl, by decide⟩
theorem spec_l7Part_c (w : World) (z0 : Value) (x0 : (List DVersion)) (r_0 : rdS tyVersion w w.heap.size z0 x0) (s_0 : (x0.length ≤ 68719476736 ∧ ∀ y ∈ x0, smVersion 68719476736 y)) :
  Calls Tryz.prog 122 #[z0] w fun e w' => ∃ v : Value, e = .returned (v) ∧ Mem w.heap.size w [iOwn (tSl tyVersion 121) [v] (spec_l7Part_m x0)] w' := by
 obtain ⟨m1, A2, c3, rfl, q4, r5⟩ := rdS_op r_0
 have l6 : x0.length ≤ 68719476736 := s_0.1
 refine ce1 (L := [(0, .slice A2 x0.length c3)]) (N := 37) func122 ?_
 refine sr (wa (nt' (sr ?_)))
 refine WM_build0 (E := tyVersion) underlying119 type121 (Wd_none rfl) (by decide) (fun p7 => ?_)
 refine wa (nt' (CM_seq (sr (wa (nt' (CM_block ?_))))))
 let F1 := fun k (s : (List DVersion)) => spec_l7Part_b1 x0 k s
 let R2 := rng (R := (List DVersion)) F1
 refine CM_loop (σ := Nat × ((List DVersion)) × (Option Addr × Nat)) (fun s => [(0, .slice A2 x0.length c3), (3, .slice s.2.2.1 s.2.1.length s.2.2.2), (4, .int .i64 ((s.1 : Nat) : Int))]) (fun s => [iOwn (tSl tyVersion 121) [.slice s.2.2.1 s.2.1.length s.2.2.2] s.2.1]) (fun s => s.1 ≤ x0.length ∧ R2 (x0.length - s.1) s.1 s.2.1 = R2 (x0.length - 0) 0 [] ∧ s.2.1.length ≤ 0 + s.1) (fun s => x0.length - s.1) (0, [], ((some ⟨p7, 0, none⟩), 0)) sl3 (fun W hm => hm) ⟨(by omega), rfl, Nat.le_refl _⟩ ?_
 rintro ⟨k9, d10, ⟨A11, c12⟩⟩ H15
 obtain ⟨hk13, hF14, hi16⟩ : k9 ≤ x0.length ∧ R2 (x0.length - k9) k9 d10 = R2 (x0.length - 0) 0 [] ∧ d10.length ≤ 0 + k9 := H15
 show CM Tryz.prog 37 _ _ _ _ [(0, .slice A2 x0.length c3), (3, .slice A11 d10.length c12), (4, .int .i64 ((k9 : Nat) : Int))] [iOwn (tSl tyVersion 121) [.slice A11 d10.length c12] d10]
 refine CM_seq (sr (wm (wm ?_)))
 refine wv (vlen underlying119) ?_
 refine wv vlss ?_
 refine nt' ?_
 by_cases hl17 : k9 < x0.length
 ·have g18 := dlT hl17
  refine CM_condT rfl g18 ?_
  refine CM_skip (QM_then (CM_seq (CM_block ?_)))
  refine rb 25 (s := []) (pk []) ?_
  refine qt 25 0 1 rfl vmv ?_
  refine qt 25 1 3 rfl vmv ?_
  refine qt 25 2 7 rfl vmv ?_
  obtain ⟨a19, rfl, hb20, he21⟩ := q4 (by omega)
  refine qt 25 3 15 rfl (vix 4 k9 underlying119 type121) ?_
  refine qt 25 4 31 rfl (vf underlying121 rfl type3) ?_
  obtain ⟨_, e25, hc22⟩ := he21 k9 _ (gt_some (show k9 < x0.length from by omega))
  obtain ⟨v23, rfl, r24⟩ := tyVersion_rd e25
  have l26 : ((gt x0 k9).Values).length ≤ 68719476736 := (s_0.2 _ (gt_mem (show k9 < x0.length from by omega)))
  obtain ⟨m27, A28, c29, rfl, q30, r31⟩ := rdS_op r24
  refine qt 25 5 63 rfl (fun W hm => rv_load underlying3 rfl rfl ((hm.cell0 (show ((a19.add (k9 * 4)).add 0).block < w.heap.size from by rw [add_block, add_block]; exact hb20.1)).trans (hc22 0 _ rfl))) ?_
  refine qt 25 6 127 rfl vmv ?_
  refine qt 25 7 255 rfl vmv ?_
  refine qt 25 8 511 rfl (vix 4 k9 underlying119 type121) ?_
  refine qt 25 9 1023 rfl (vf underlying121 rfl type24) ?_
  refine qt 25 10 2047 rfl (fun W hm => rv_load underlying24 rfl rfl ((hm.cell0 (show ((a19.add (k9 * 4)).add 1).block < w.heap.size from by rw [add_block, add_block]; exact hb20.1)).trans (hc22 1 _ rfl))) ?_
  refine qt 25 11 4095 rfl vmv ?_
  refine qt 25 12 8191 rfl vmv ?_
  refine qt 25 13 16383 rfl (vix 4 k9 underlying119 type121) ?_
  refine qt 25 14 32767 rfl (vf underlying121 rfl type3) ?_
  refine qt 25 15 65535 rfl (fun W hm => rv_load underlying3 rfl rfl ((hm.cell0 (show ((a19.add (k9 * 4)).add 2).block < w.heap.size from by rw [add_block, add_block]; exact hb20.1)).trans (hc22 2 _ rfl))) ?_
  refine qt 25 16 131071 rfl vmv ?_
  refine qt 25 17 262143 rfl vmv ?_
  refine qt 25 18 524287 rfl (vix 4 k9 underlying119 type121) ?_
  refine qt 25 19 1048575 rfl (vf underlying121 rfl type3) ?_
  refine qt 25 20 2097151 rfl (fun W hm => rv_load underlying3 rfl rfl ((hm.cell0 (show ((a19.add (k9 * 4)).add 3).block < w.heap.size from by rw [add_block, add_block]; exact hb20.1)).trans (hc22 3 _ rfl))) ?_
  refine qo 25 21 4194303 rfl ?_
  refine wcs tyVersion (spec_l7One_m ((gt x0 k9).Id) ((gt x0 k9).Values) ((gt x0 k9).Born) ((gt x0 k9).Died)) (cl_fn cb135 rfl) (fun W hm => spec_l7One_c W ((gt x0 k9).Id) _ ((gt x0 k9).Values) ((gt x0 k9).Born) ((gt x0 k9).Died) (hm.rdS0 r31) (s_0.2 _ (gt_mem (show k9 < x0.length from by omega)))) (fun z32 => ?_)
  refine tyVersion_sp ?_
  rintro v33 rfl
  refine WM_form (n := 0) rfl ?_
  rintro A34 c35 rfl m36
  refine qn (pk []) ?_
  refine qo 25 22 8388607 rfl ?_
  let K3 : List Value := [.int .i64 ((spec_l7One_m ((gt x0 k9).Id) ((gt x0 k9).Values) ((gt x0 k9).Born) ((gt x0 k9).Died)).Id), .slice A34 ((spec_l7One_m ((gt x0 k9).Id) ((gt x0 k9).Values) ((gt x0 k9).Born) ((gt x0 k9).Died)).Values).length c35, .int .i64 ((spec_l7One_m ((gt x0 k9).Id) ((gt x0 k9).Values) ((gt x0 k9).Born) ((gt x0 k9).Died)).Born), .int .i64 ((spec_l7One_m ((gt x0 k9).Id) ((gt x0 k9).Values) ((gt x0 k9).Born) ((gt x0 k9).Died)).Died)]
  refine WM_build (cs := K3) underlying119 type121 rfl (by decide) (by decide) rfl (by kernel_rfl) (Wd_none rfl) (by decide) (fun p38 => ?_)
  refine qn (pk []) ?_
  refine qo 25 23 16777215 rfl ?_
  refine ap1 tyVersion 121 (.slice A11 d10.length c12) d10 (spec_l7One_m ((gt x0 k9).Id) ((gt x0 k9).Values) ((gt x0 k9).Born) ((gt x0 k9).Died)) [iOwn (tSl tInt 3) [.slice A34 ((spec_l7One_m ((gt x0 k9).Id) ((gt x0 k9).Values) ((gt x0 k9).Born) ((gt x0 k9).Died)).Values).length c35] ((spec_l7One_m ((gt x0 k9).Id) ((gt x0 k9).Values) ((gt x0 k9).Born) ((gt x0 k9).Died)).Values)] [] K3 (pk [0, 2, 1]) (fun _ _ hs => Els.single (tyVersion_join (x := (spec_l7One_m ((gt x0 k9).Id) ((gt x0 k9).Values) ((gt x0 k9).Born) ((gt x0 k9).Died))) hs)) underlying119 type121 (show (d10.length + 1) * 48 ≤ 140737488355328 from by omega) (fun v39 => ?_)
  refine WM_form (n := 0) rfl ?_
  rintro A40 c41 rfl m42
  refine qn (pk []) ?_
  refine qt 25 24 33554431 rfl (fun W hm => rv_assign rfl) ?_
  refine QB_done (by kernel_rfl) ?_
  refine QM_block_normal (QM_then (CM_region (wm ?_)))
  refine wv (vadN k9 1 (by omega)) ?_
  refine wa (WM_nil ?_)
  have hn44 := rng_next (R := (List DVersion)) (body := F1) (k := k9) (s := d10) (s' := (d10 ++ [(spec_l7One_m ((gt x0 k9).Id) ((gt x0 k9).Values) ((gt x0 k9).Born) ((gt x0 k9).Died))])) (show k9 < x0.length from by omega) (rfl) hF14
  exact QM_round (k9 + 1, (d10 ++ [(spec_l7One_m ((gt x0 k9).Id) ((gt x0 k9).Values) ((gt x0 k9).Born) ((gt x0 k9).Died))]), (A40, c41)) sl3 (fun W hm => hm) ⟨(by omega), hn44, (show (d10 ++ [(spec_l7One_m ((gt x0 k9).Id) ((gt x0 k9).Values) ((gt x0 k9).Born) ((gt x0 k9).Died))]).length ≤ 0 + (k9 + 1) from by first | omega | (simp only [List.length_append, List.length_cons, List.length_nil] at *; omega))⟩ (rl (by omega))
 ·have g18 := dlF hl17
  refine CM_condF rfl g18 ?_
  refine CM_exit (QM_then_exit (QM_then_exit ?_))
  have hE45 : R2 (x0.length - 0) 0 [] = Sum.inr d10 := rng_end hl17 hF14
  refine QM_block_hit (QM_then (sr (wm (wa (nt' (CM_ret ?_))))))
  have he46 := (show spec_l7Part_m x0 = d10 from fin_inr hE45 (rfl))
  refine QM_r1 rfl (RR_tmp rfl) (fun W hm => ⟨.slice A11 d10.length c12, ?_, ?_⟩)
  ·first | rw [he46] | rfl
  ·rw [he46]; exact hm
theorem spec_l7Part_eq (x0 : (List DVersion)) : spec_l7Part_m x0 = x0 := by
 unfold spec_l7Part_m; rw [rng_app (xs := x0) (b := fun k s => spec_l7Part_b1 x0 k s) (fun _ _ => rfl)]; rfl
theorem spec_l7Part_c2 (w : World) (z0 : Value) (x0 : (List DVersion)) (r_0 : rdS tyVersion w w.heap.size z0 x0) (s_0 : (x0.length ≤ 68719476736 ∧ ∀ y ∈ x0, smVersion 68719476736 y)) :
  Calls Tryz.prog 122 #[z0] w fun e w' => ∃ v : Value, e = .returned (v) ∧ Mem w.heap.size w [iOwn (tSl tyVersion 121) [v] x0] w' := by
 have h := spec_l7Part_c w z0 x0 r_0 s_0
 rw [spec_l7Part_eq] at h
 exact h

def spec_l7Copy_b1 (x0 : DStore) (k12 : Nat) (d15 : (List (List DVersion))) : DStore ⊕ ((List (List DVersion))) :=
 Sum.inr (d15 ++ [(gt x0.Segments k12)])
def spec_l7Copy_m (x0 : DStore) : DStore :=
 Sum.elim id (fun (s : (List (List DVersion))) => (⟨s, x0.Now⟩ : DStore)) (rng (R := DStore) (fun k (s : (List (List DVersion))) => spec_l7Copy_b1 x0 k s) (x0.Segments.length - 0) 0 [])
theorem cb101 : Cb Tryz.prog 101 := ⟨f101, _, func101, rfl, by decide⟩
theorem spec_l7Copy_c (w : World) (z0 : List Value) (x0 : DStore) (r_0 : tyStore.rd w w.heap.size z0 x0) (s_0 : smStore 68719476736 x0) :
  Calls Tryz.prog 101 #[.agg z0.toArray] w fun e w' => ∃ v : List Value, e = .returned (.agg v.toArray) ∧ Mem w.heap.size w [iOwn tyStore v (spec_l7Copy_m x0)] w' := by
 obtain ⟨v1, rfl, r2⟩ := tyStore_rd r_0
 obtain ⟨m3, A4, c5, rfl, q6, r7⟩ := rdS_op r2
 have l8 : x0.Segments.length ≤ 68719476736 := s_0.1
 refine ce1 (L := [(0, .agg #[.slice A4 x0.Segments.length c5, .int .i64 x0.Now])]) (N := 27) func101 ?_
 refine sr ?_
 refine WM_box rfl (Wd_none rfl) (by decide) (fun p9 => ?_)
 refine WM_alloc type81 rfl (Wd_none rfl) (by decide) (fun p10 => ?_)
 refine nt' (sr ?_)
 refine wv (vf underlying81 rfl type3) ?_
 refine wv (vl 1 1 underlying3) ?_
 refine wv (fun W hm => rv_build (cs := [.slice none 0 0, .int .i64 x0.Now]) rfl (by kernel_rfl)) ?_
 refine WM_alloc type81 rfl (Wd_none rfl) (by decide) (fun p11 => ?_)
 let I3 : It := iBox p9 81 [.slice A4 x0.Segments.length c5, .int .i64 x0.Now]
 refine sb 0 [.slice none 0 0, .int .i64 x0.Now] [iBox p10 81 [.slice none 0 0, .int .i64 0], I3] (fun W hm => hm) type81 ?_
 refine nt' (CM_seq (sr (wa (nt' (CM_block ?_)))))
 refine CM_items (fun W hm => (hm.addNil (E := (tSl tyVersion 121)) (e := 119)).last) ?_
 let F1 := fun k (s : (List (List DVersion))) => spec_l7Copy_b1 x0 k s
 let R2 := rng (R := DStore) F1
 refine CM_loop (σ := Nat × ((List (List DVersion))) × (Option Addr × Nat)) (fun s => [(1, .pointer (some (⟨p9, 0, none⟩ : Addr))), (2, .pointer (some (⟨p10, 0, none⟩ : Addr))), (3, .pointer (some (⟨p11, 0, none⟩ : Addr))), (4, .int .i64 ((s.1 : Nat) : Int))]) (fun s => [iBox p11 81 [.slice s.2.2.1 s.2.1.length s.2.2.2, .int .i64 x0.Now], iBox p10 81 [.slice none 0 0, .int .i64 0], I3, iOwn (tSl (tSl tyVersion 121) 119) [.slice s.2.2.1 s.2.1.length s.2.2.2] s.2.1]) (fun s => s.1 ≤ x0.Segments.length ∧ R2 (x0.Segments.length - s.1) s.1 s.2.1 = R2 (x0.Segments.length - 0) 0 [] ∧ s.2.1.length ≤ 0 + s.1) (fun s => x0.Segments.length - s.1) (0, [], (none, 0)) sl4 (fun W hm => hm) ⟨(by omega), rfl, Nat.le_refl _⟩ ?_
 rintro ⟨k12, d15, ⟨A16, c17⟩⟩ H20
 obtain ⟨hk18, hF19, hi21⟩ : k12 ≤ x0.Segments.length ∧ R2 (x0.Segments.length - k12) k12 d15 = R2 (x0.Segments.length - 0) 0 [] ∧ d15.length ≤ 0 + k12 := H20
 let I4 : It := iBox p11 81 [.slice A16 d15.length c17, .int .i64 x0.Now]
 let I5 : It := iOwn (tSl (tSl tyVersion 121) 119) [.slice A16 d15.length c17] d15
 show CM Tryz.prog 27 _ _ _ _ [(1, .pointer (some (⟨p9, 0, none⟩ : Addr))), (2, .pointer (some (⟨p10, 0, none⟩ : Addr))), (3, .pointer (some (⟨p11, 0, none⟩ : Addr))), (4, .int .i64 ((k12 : Nat) : Int))] [I4, iBox p10 81 [.slice none 0 0, .int .i64 0], I3, I5]
 refine CM_seq (sr (wm ?_))
 refine wv (vf underlying81 rfl type79) ?_
 refine wv (vl 2 0 underlying79) ?_
 refine wv (vlen underlying79) ?_
 refine wv vlss ?_
 refine nt' ?_
 by_cases hl22 : k12 < x0.Segments.length
 ·have g23 := dlT hl22
  refine CM_condT rfl g23 ?_
  refine CM_skip (QM_then (CM_seq (CM_block ?_)))
  refine rd2 12 [11] (s := [iBox p10 81 [.slice none 0 0, .int .i64 0]]) (s2 := [I4, iBox p10 81 [.slice none 0 0, .int .i64 0], I3]) (pk [1]) (pk [0, 1, 2]) ?_
  refine qtD 12 0 1 rfl (vf underlying81 rfl type79) ?_
  refine qtD 12 1 3 rfl (vl 0 0 underlying79) ?_
  refine qtD 12 2 7 rfl (vf underlying81 rfl type79) ?_
  refine qtD 12 3 15 rfl (vl 2 0 underlying79) ?_
  refine qtD 12 4 31 rfl vmv ?_
  obtain ⟨a24, rfl, hb25, he26⟩ := q6 (by omega)
  refine qtD 12 5 63 rfl (vix 1 k12 underlying79 type119) ?_
  obtain ⟨_, e28, hc27⟩ := he26 k12 _ (gt_some (show k12 < x0.Segments.length from by omega))
  have l29 : (gt x0.Segments k12).length ≤ 68719476736 := (s_0.2 _ (gt_mem (show k12 < x0.Segments.length from by omega))).1
  obtain ⟨v30, rfl, r31⟩ := e28
  obtain ⟨m32, A33, c34, rfl, q35, r36⟩ := rdS_op r31
  refine qtD 12 6 127 rfl (fun W hm => rv_load underlying119 rfl rfl ((hm.cell0 (show (a24.add (k12 * 1)).block < w.heap.size from by rw [add_block]; exact hb25.1)).trans (hc27 0 _ rfl))) ?_
  refine qoD 12 7 255 rfl ?_
  refine wcl (tSl tyVersion 121) (gt x0.Segments k12) (cl_fn cb122 rfl) (fun W hm => spec_l7Part_c2 W _ (gt x0.Segments k12) (hm.rdS0 r36) (s_0.2 _ (gt_mem (show k12 < x0.Segments.length from by omega)))) (fun z37 => ?_)
  refine WM_form (n := 0) rfl ?_
  rintro A38 c39 rfl m40
  refine qnD (pk [2]) (pk [1, 2, 3]) ?_
  refine qoD 12 8 511 rfl ?_
  refine WM_build (cs := [.slice A38 (gt x0.Segments k12).length c39]) underlying79 type119 rfl (by decide) (by decide) rfl (by kernel_rfl) (Wd_none rfl) (by decide) (fun p42 => ?_)
  refine qnD (pk [3]) (pk [2, 3, 4]) ?_
  refine qoD 12 9 1023 rfl ?_
  let I6 : It := iBox p9 81 [.slice (some a24) x0.Segments.length c5, .int .i64 x0.Now]
  refine ap1 (tSl tyVersion 121) 119 (.slice A16 d15.length c17) d15 (gt x0.Segments k12) [iOwn (tSl tyVersion 121) [.slice A38 (gt x0.Segments k12).length c39] (gt x0.Segments k12)] [I4, iBox p10 81 [.slice none 0 0, .int .i64 0], I6] [.slice A38 (gt x0.Segments k12).length c39] (pk [0, 5, 1, 2, 3, 4]) (fun _ _ hs => Els.single (Sep.one hs)) underlying79 type119 (show (d15.length + 1) * 24 ≤ 140737488355328 from by omega) (fun v43 => ?_)
  refine WM_form (n := 0) rfl ?_
  rintro A44 c45 rfl m46
  refine qnD (pk [2]) (pk [1, 2, 3]) ?_
  refine qtD 12 10 2047 rfl (vf underlying81 rfl type79) ?_
  refine qoD 12 11 4095 rfl ?_
  refine sb 0 [.slice A44 (d15 ++ [(gt x0.Segments k12)]).length c45, .int .i64 x0.Now] [iOwn (tSl (tSl tyVersion 121) 119) [.slice A44 (d15 ++ [(gt x0.Segments k12)]).length c45] (d15 ++ [(gt x0.Segments k12)]), iBox p10 81 [.slice none 0 0, .int .i64 0], I6] (pk [1, 0, 2, 3]) type79 ?_
  refine qxD (pk [2]) ?_
  refine QB_done (by kernel_rfl) ?_
  refine QM_block_normal (QM_then (CM_region (wm ?_)))
  refine wv (vadN k12 1 (by omega)) ?_
  refine wa (WM_nil ?_)
  have hn48 := rng_next (R := DStore) (body := F1) (k := k12) (s := d15) (s' := (d15 ++ [(gt x0.Segments k12)])) (show k12 < x0.Segments.length from by omega) (rfl) hF19
  exact QM_round (k12 + 1, (d15 ++ [(gt x0.Segments k12)]), (A44, c45)) sl4 (pk [0, 2, 3, 1]) ⟨(by omega), hn48, (show (d15 ++ [(gt x0.Segments k12)]).length ≤ 0 + (k12 + 1) from by first | omega | (simp only [List.length_append, List.length_cons, List.length_nil] at *; omega))⟩ (rl (by omega))
 ·have g23 := dlF hl22
  refine CM_condF rfl g23 ?_
  refine CM_exit (QM_then_exit (QM_then_exit ?_))
  have hE49 : R2 (x0.Segments.length - 0) 0 [] = Sum.inr d15 := rng_end hl22 hF19
  refine QM_block_hit (QM_then (sr ?_))
  refine wv (fun W hm => rv_loadN (cs := [.slice A16 d15.length c17, .int .i64 x0.Now]) underlying81 type81 rfl rfl (hm.boxCells (n := 0) rfl)) ?_
  refine sb 0 [.slice A16 d15.length c17, .int .i64 x0.Now] [I4, I3, I5] (pk [1, 0, 2, 3]) type81 ?_
  refine nt' (CM_ret ?_)
  have he50 := (show spec_l7Copy_m x0 = (⟨d15, x0.Now⟩ : DStore) from fin_inr hE49 (rfl))
  refine QM_r1 rfl (RR_cell (n := 0) rfl rfl underlying81 type81 rfl) (fun W hm => ⟨[.slice A16 d15.length c17, .int .i64 x0.Now], ?_, ?_⟩)
  ·first | rw [he50] | rfl
  ·rw [he50]; exact Mem.join (is := [I5]) (js := []) (fun _ _ hs => tyStore_join (x := (⟨d15, x0.Now⟩ : DStore)) hs) (hm.pick [3] (by decide))
theorem spec_l7Copy_eq (x0 : DStore) : spec_l7Copy_m x0 = x0 := by
 unfold spec_l7Copy_m; rw [rng_app (xs := x0.Segments) (b := fun k s => spec_l7Copy_b1 x0 k s) (fun _ _ => rfl)]; rfl
theorem spec_l7Copy_c2 (w : World) (z0 : List Value) (x0 : DStore) (r_0 : tyStore.rd w w.heap.size z0 x0) (s_0 : smStore 68719476736 x0) :
  Calls Tryz.prog 101 #[.agg z0.toArray] w fun e w' => ∃ v : List Value, e = .returned (.agg v.toArray) ∧ Mem w.heap.size w [iOwn tyStore v x0] w' := by
 have h := spec_l7Copy_c w z0 x0 r_0 s_0
 rw [spec_l7Copy_eq] at h
 exact h

def spec_l7Version_m (x0 : DVersion) (x1 : Int) : Bool :=
 cond (spec_IsRow_m (⟨x0.Id, x0.Values⟩ : DRow)) (cond (spec_l1In_m x0.Born 0 x1) (cond (x0.Died == (-1)) true (spec_l1In_m x0.Died (IntKind.i64.wrap (x0.Born + 1)) x1)) false) false
theorem cb123 : Cb Tryz.prog 123 := ⟨f123, _, func123, rfl, by decide⟩
theorem spec_l7Version_c (w : World) (z0 : List Value) (x0 : DVersion) (x1 : Int) (r_0 : tyVersion.rd w w.heap.size z0 x0) :
  Calls Tryz.prog 123 #[.agg z0.toArray, .int .i64 x1] w fun e w' => e = .returned (.bool (spec_l7Version_m x0 x1)) ∧ Below w.heap.size w w' := by
 obtain ⟨v1, rfl, r2⟩ := tyVersion_rd r_0
 obtain ⟨m3, A4, c5, rfl, q6, r7⟩ := rdS_op r2
 refine ce2 (L := [(0, .agg #[.int .i64 x0.Id, .slice A4 x0.Values.length c5, .int .i64 x0.Born, .int .i64 x0.Died]), (1, .int .i64 x1)]) (N := 31) func123 ?_
 refine sr ?_
 refine WM_box rfl (Wd_none rfl) (by decide) (fun p8 => ?_)
 refine wa (nt' (sr ?_))
 refine wv (vf underlying121 rfl type3) ?_
 refine wv (vl 0 0 underlying3) ?_
 refine wv (vf underlying121 rfl type24) ?_
 refine wv (vl 0 1 underlying24) ?_
 refine wv (fun W hm => rv_build (cs := [.int .i64 x0.Id, .slice A4 x0.Values.length c5]) rfl (by kernel_rfl)) ?_
 refine wcv (cl_fn cb14 rfl) (fun W hm => spec_IsRow_c W _ (⟨x0.Id, x0.Values⟩ : DRow) (tyRow_mk (x := (⟨x0.Id, x0.Values⟩ : DRow)) (hm.rdS0 r7))) ?_
 refine wm ?_
 rcases Bool.eq_false_or_eq_true (spec_IsRow_m (⟨x0.Id, x0.Values⟩ : DRow)) with g10 | g10
 ·
  refine wg (vf underlying121 rfl type3) g10 ?_
  refine wg (vl 0 2 underlying3) g10 ?_
  refine wg vmv g10 ?_
  refine WM_callV (cl_fn cb40 rfl) (fun W hm => spec_l1In_c W x0.Born 0 x1) (Wd_some rfl rfl rfl (bw g10 rfl)) (by decide) ?_
  refine wv (vpT g10) ?_
  refine wm ?_
  rcases Bool.eq_false_or_eq_true (spec_l1In_m x0.Born 0 x1) with g12 | g12
  ·
   have hw := spec_l1In_fact g12
   refine wg (vf underlying121 rfl type3) g12 ?_
   refine wg (vl 0 3 underlying3) g12 ?_
   refine wg (fun W hm => rv_eql rfl rfl) g12 ?_
   refine wg vmv g12 ?_
   by_cases h13 : x0.Died = (-1)
   ·have g14 := beq_iff_eq.2 h13
    refine ws g14 ?_
    refine ws g14 ?_
    refine ws g14 ?_
    refine ws g14 ?_
    refine ws g14 ?_
    refine ws g14 ?_
    refine ws g14 ?_
    refine wg (vpT g14) g12 ?_
    refine wv (vpT g12) ?_
    refine wa (nt' (CM_ret ?_))
    exact rtb (h := cond_t g10 (cond_t g12 (cond_t g14 (rfl))))
   ·have g14 := beq_eq_false_iff_ne.2 h13
    refine wg (vf underlying121 rfl type3) g14 ?_
    refine wg (vl 0 3 underlying3) g14 ?_
    refine wg (vf underlying121 rfl type3) g14 ?_
    refine wg (vl 0 2 underlying3) g14 ?_
    refine wg vadd g14 ?_
    refine wg vmv g14 ?_
    refine WM_callV (cl_fn cb40 rfl) (fun W hm => spec_l1In_c W x0.Died (IntKind.i64.wrap (x0.Born + 1)) x1) (Wd_some rfl rfl rfl (bw g14 rfl)) (by decide) ?_
    refine wg (vpF g14) g12 ?_
    refine wv (vpT g12) ?_
    refine wa (nt' (CM_ret ?_))
    exact rtb (h := cond_t g10 (cond_t g12 (cond_f g14 (rfl))))
  ·
   refine ws g12 ?_
   refine ws g12 ?_
   refine ws g12 ?_
   refine ws g12 ?_
   refine wu ?_
   refine wu ?_
   refine wu ?_
   refine wu ?_
   refine wu ?_
   refine wu ?_
   refine wu ?_
   refine ws g12 ?_
   refine wv (vpF g12) ?_
   refine wa (nt' (CM_ret ?_))
   exact rtb (h := cond_t g10 (cond_f g12 (rfl)))
 ·
  refine ws g10 ?_
  refine ws g10 ?_
  refine ws g10 ?_
  refine ws g10 ?_
  refine wv (vpF g10) ?_
  refine wm ?_
  refine wk ?_
  refine wk ?_
  refine wk ?_
  refine wk ?_
  refine wu ?_
  refine wu ?_
  refine wu ?_
  refine wu ?_
  refine wu ?_
  refine wu ?_
  refine wu ?_
  refine wk ?_
  refine wv (vpF rfl) ?_
  refine wa (nt' (CM_ret ?_))
  exact rtb (h := cond_f g10 (rfl))

def spec_l7Apart_m (x0 : DVersion) (x1 : DVersion) : Bool :=
 cond (x0.Id != x1.Id) true (cond (x0.Died != (-1)) (cond (decide (x0.Died ≤ x1.Born)) true (cond (x1.Died != (-1)) (decide (x1.Died ≤ x0.Born)) false)) (cond (x1.Died != (-1)) (decide (x1.Died ≤ x0.Born)) false))
theorem cb124 : Cb Tryz.prog 124 := ⟨f124, _, func124, rfl, by decide⟩
theorem spec_l7Apart_c (w : World) (z0 : List Value) (x0 : DVersion) (z1 : List Value) (x1 : DVersion) (r_0 : tyVersion.rd w w.heap.size z0 x0) (r_1 : tyVersion.rd w w.heap.size z1 x1) :
  Calls Tryz.prog 124 #[.agg z0.toArray, .agg z1.toArray] w fun e w' => e = .returned (.bool (spec_l7Apart_m x0 x1)) ∧ Below w.heap.size w w' := by
 obtain ⟨v1, rfl, r2⟩ := tyVersion_rd r_0
 obtain ⟨m3, A4, c5, rfl, q6, r7⟩ := rdS_op r2
 obtain ⟨v8, rfl, r9⟩ := tyVersion_rd r_1
 obtain ⟨m10, A11, c12, rfl, q13, r14⟩ := rdS_op r9
 refine ce2 (L := [(0, .agg #[.int .i64 x0.Id, .slice A4 x0.Values.length c5, .int .i64 x0.Born, .int .i64 x0.Died]), (1, .agg #[.int .i64 x1.Id, .slice A11 x1.Values.length c12, .int .i64 x1.Born, .int .i64 x1.Died])]) (N := 34) func124 ?_
 refine sr ?_
 refine WM_box rfl (Wd_none rfl) (by decide) (fun p15 => ?_)
 refine WM_box rfl (Wd_none rfl) (by decide) (fun p16 => ?_)
 refine wa (nt' (sr ?_))
 refine wv (vf underlying121 rfl type3) ?_
 refine wv (vl 1 0 underlying3) ?_
 refine wv (vf underlying121 rfl type3) ?_
 refine wv (vl 0 0 underlying3) ?_
 refine wv vneq ?_
 refine wm ?_
 by_cases h17 : x0.Id = x1.Id
 ·have g18 : (x0.Id != x1.Id) = false := by rw [h17]; exact bne_self_eq_false _
  refine wg (vf underlying121 rfl type3) g18 ?_
  refine wg (vl 1 3 underlying3) g18 ?_
  refine wg vneq g18 ?_
  refine wg vmv g18 ?_
  by_cases h19 : x0.Died = (-1)
  ·have g20 : (x0.Died != (-1)) = false := by rw [h19]; exact bne_self_eq_false _
   refine ws g20 ?_
   refine ws g20 ?_
   refine ws g20 ?_
   refine ws g20 ?_
   refine ws g20 ?_
   refine wg (vpF g20) g18 ?_
   refine wv (vpF g18) ?_
   refine wm ?_
   refine WM_val (vf underlying121 rfl type3) (Wd_some rfl rfl rfl rfl) rfl (by decide) ?_
   refine WM_val (vl 0 3 underlying3) (Wd_some rfl rfl rfl rfl) rfl (by decide) ?_
   refine WM_val vneq (Wd_some rfl rfl rfl rfl) rfl (by decide) ?_
   refine WM_val vmv (Wd_some rfl rfl rfl rfl) rfl (by decide) ?_
   by_cases h21 : x1.Died = (-1)
   ·have g22 : (x1.Died != (-1)) = false := by rw [h21]; exact bne_self_eq_false _
    refine ws g22 ?_
    refine ws g22 ?_
    refine ws g22 ?_
    refine ws g22 ?_
    refine ws g22 ?_
    refine WM_val (vpF g22) (Wd_some rfl rfl rfl rfl) rfl (by decide) ?_
    refine wv (vpF rfl) ?_
    refine wa (nt' (CM_ret ?_))
    exact rtb (h := cond_f g18 (cond_f g20 (cond_f g22 (rfl))))
   ·have g22 : (x1.Died != (-1)) = true := bne_iff_ne.2 h21
    refine wg (vf underlying121 rfl type3) g22 ?_
    refine wg (vl 0 3 underlying3) g22 ?_
    refine wg (vf underlying121 rfl type3) g22 ?_
    refine wg (vl 1 2 underlying3) g22 ?_
    refine wg (fun W hm => rv_leq rfl rfl) g22 ?_
    refine WM_val (vpT g22) (Wd_some rfl rfl rfl rfl) rfl (by decide) ?_
    refine wv (vpF rfl) ?_
    refine wa (nt' (CM_ret ?_))
    exact rtb (h := cond_f g18 (cond_f g20 (cond_t g22 (rfl))))
  ·have g20 : (x0.Died != (-1)) = true := bne_iff_ne.2 h19
   refine wg (vf underlying121 rfl type3) g20 ?_
   refine wg (vl 1 3 underlying3) g20 ?_
   refine wg (vf underlying121 rfl type3) g20 ?_
   refine wg (vl 0 2 underlying3) g20 ?_
   refine wg (fun W hm => rv_leq rfl rfl) g20 ?_
   refine wg (vpT g20) g18 ?_
   refine wv (vpF g18) ?_
   refine wm ?_
   by_cases h23 : x0.Died ≤ x1.Born
   ·have g24 := decide_eq_true h23
    refine ws g24 ?_
    refine ws g24 ?_
    refine ws g24 ?_
    refine ws g24 ?_
    refine wu ?_
    refine wu ?_
    refine wu ?_
    refine wu ?_
    refine wu ?_
    refine ws g24 ?_
    refine wv (vpT g24) ?_
    refine wa (nt' (CM_ret ?_))
    exact rtb (h := cond_f g18 (cond_t g20 (cond_t g24 (rfl))))
   ·have g24 := decide_eq_false h23
    refine wg (vf underlying121 rfl type3) g24 ?_
    refine wg (vl 0 3 underlying3) g24 ?_
    refine wg vneq g24 ?_
    refine wg vmv g24 ?_
    by_cases h25 : x1.Died = (-1)
    ·have g26 : (x1.Died != (-1)) = false := by rw [h25]; exact bne_self_eq_false _
     refine ws g26 ?_
     refine ws g26 ?_
     refine ws g26 ?_
     refine ws g26 ?_
     refine ws g26 ?_
     refine wg (vpF g26) g24 ?_
     refine wv (vpF g24) ?_
     refine wa (nt' (CM_ret ?_))
     exact rtb (h := cond_f g18 (cond_t g20 (cond_f g24 (cond_f g26 (rfl)))))
    ·have g26 : (x1.Died != (-1)) = true := bne_iff_ne.2 h25
     refine wg (vf underlying121 rfl type3) g26 ?_
     refine wg (vl 0 3 underlying3) g26 ?_
     refine wg (vf underlying121 rfl type3) g26 ?_
     refine wg (vl 1 2 underlying3) g26 ?_
     refine wg (fun W hm => rv_leq rfl rfl) g26 ?_
     refine wg (vpT g26) g24 ?_
     refine wv (vpF g24) ?_
     refine wa (nt' (CM_ret ?_))
     exact rtb (h := cond_f g18 (cond_t g20 (cond_f g24 (cond_t g26 (rfl)))))
 ·have g18 : (x0.Id != x1.Id) = true := bne_iff_ne.2 h17
  refine ws g18 ?_
  refine ws g18 ?_
  refine ws g18 ?_
  refine ws g18 ?_
  refine wu ?_
  refine wu ?_
  refine wu ?_
  refine wu ?_
  refine wu ?_
  refine ws g18 ?_
  refine wv (vpT g18) ?_
  refine wm ?_
  refine wk ?_
  refine wk ?_
  refine wk ?_
  refine wk ?_
  refine wu ?_
  refine wu ?_
  refine wu ?_
  refine wu ?_
  refine wu ?_
  refine wk ?_
  refine wv (vpT rfl) ?_
  refine wa (nt' (CM_ret ?_))
  exact rtb (h := cond_t g18 (rfl))

end Go.Proofs.YtfdaaliffcfjjaaGreatDoor
