/-
  Contracts of functions, printed by a program of ours.
-/
import Derived.Test.YtpijbmiahfnliaaDat
namespace Go.Proofs.Ytpijbmiahfnliaa
open Go.RowKit
set_option maxRecDepth 100000
set_option maxHeartbeats 4000000
open _root_.Go.Proofs.Try
def laws_big_m (x0 : (List Int)) : Bool :=
 (decide (1048576 < ((x0.length : Nat) : Int)))
theorem cb4 : Cb Try.prog 4 := ⟨f4, _, func4, rfl, by decide⟩
theorem laws_big_c (w : World) (z0 : Value) (x0 : (List Int)) (r_0 : rdS tU8 w w.heap.size z0 x0) :
  Calls Try.prog 4 #[z0] w fun e w' => e = .returned (.bool (laws_big_m x0)) ∧ Below w.heap.size w w' := by
 obtain ⟨m1, A2, c3, rfl, q4, r5⟩ := rdS_op r_0
 refine ce1 (L := [(0, .slice A2 x0.length c3)]) (N := 6) func4 ?_
 refine sr (wa (nt' (sr (wm ?_))))
 refine wv (vlen underlying22) ?_
 refine wv (fun W hm => rv_gtr rfl rfl) ?_
 refine wa (nt' (CM_ret ?_))
 exact rtb (h := rfl)

def spec_l1New_b1 (x0 : (List Int)) (k7 : Nat) (s8 : Int) : Dl1Cur ⊕ ((Int) ⊕ (Int)) :=
 cond (decide (((k7 : Nat) : Int) < 4000)) (Sum.inr (Sum.inr (bits .and .i64 (IntKind.i64.wrap ((IntKind.i64.wrap ((IntKind.i64.wrap (s8 * 131)) + (IntKind.i64.wrap (gt x0 k7)))) + 7)) 1073741823))) (Sum.inr (Sum.inl s8))
def spec_l1New_m (x0 : (List Int)) : Dl1Cur :=
 Sum.elim id (fun (s : Int) => (⟨0, s⟩ : Dl1Cur)) (rngb (R := Dl1Cur) (fun k (s : Int) => spec_l1New_b1 x0 k s) (x0.length - 0) 0 ((10101 + x0.length : Nat) : Int))
theorem cb22 : Cb Try.prog 22 := ⟨f22, _, func22, rfl, by decide⟩
theorem spec_l1New_c (w : World) (z0 : Value) (x0 : (List Int)) (r_0 : rdS tU8 w w.heap.size z0 x0) (s_0 : x0.length ≤ 68719476736) :
  Calls Try.prog 22 #[z0] w fun e w' => ∃ p : Nat, e = .returned (.pointer (some ⟨p, 0, none⟩)) ∧ Mem w.heap.size w [iBox p 74 [z0, .int .i64 (((spec_l1New_m x0).i : Nat) : Int), .int .i64 (spec_l1New_m x0).h]] w' := by
 obtain ⟨m1, A2, c3, rfl, q4, r5⟩ := rdS_op r_0
 have l6 : x0.length ≤ 68719476736 := s_0
 refine ce1 (L := [(0, .slice A2 x0.length c3)]) (N := 32) func22 ?_
 refine sr (wa (nt' (sr (wm ?_))))
 refine wv (vlen underlying22) ?_
 refine wv (vadN 10101 x0.length (by omega)) ?_
 refine wa (nt' (CM_seq (sr (wa (nt' ?_)))))
 let F1 := fun k (s : Int) => spec_l1New_b1 x0 k s
 let R2 := rngb (R := Dl1Cur) F1
 refine CM_cut (σ := (Int) × (Unit)) (fun s => [(0, .slice A2 x0.length c3), (3, .int .i64 s.1)]) (fun s => []) (fun s => R2 (x0.length - 0) 0 ((10101 + x0.length : Nat) : Int) = Sum.inr s.1) ?_ ?_
 ·
  refine CM_block ?_
  refine CM_loop (σ := Nat × (Int) × (Unit)) (fun s => [(0, .slice A2 x0.length c3), (3, .int .i64 s.2.1), (4, .int .i64 ((s.1 : Nat) : Int))]) (fun s => []) (fun s => s.1 ≤ x0.length ∧ R2 (x0.length - s.1) s.1 s.2.1 = R2 (x0.length - 0) 0 ((10101 + x0.length : Nat) : Int)) (fun s => x0.length - s.1) (0, ((10101 + x0.length : Nat) : Int), ()) sl3 (fun W hm => hm) ⟨(by omega), rfl⟩ ?_
  rintro ⟨k7, s8, ⟨⟩⟩ H11
  obtain ⟨hk9, hF10⟩ : k7 ≤ x0.length ∧ R2 (x0.length - k7) k7 s8 = R2 (x0.length - 0) 0 ((10101 + x0.length : Nat) : Int) := H11
  show CM Try.prog 32 _ _ _ _ [(0, .slice A2 x0.length c3), (3, .int .i64 s8), (4, .int .i64 ((k7 : Nat) : Int))] []
  refine CM_seq (sr (wm (wm ?_)))
  refine wv (vlen underlying22) ?_
  refine wv vlss ?_
  refine wm ?_
  by_cases hl12 : k7 < x0.length
  ·have g13 := dlT hl12
   refine wg vmv g13 ?_
   refine wg vlss g13 ?_
   refine wv (vpT g13) ?_
   refine nt' ?_
   by_cases h14 : ((k7 : Nat) : Int) < 4000
   ·have g15 := decide_eq_true h14
    refine CM_condT rfl g15 ?_
    refine CM_skip (QM_then (CM_seq (CM_block (CM_region (wm ?_)))))
    refine wv (fun W hm => rv_mul rfl rfl) ?_
    refine wm (wm ?_)
    obtain ⟨a16, rfl, hb17, he18⟩ := q4 (by omega)
    refine wv (vix 1 k7 underlying22 type5) ?_
    refine wv (fun W hm => rv_load underlying5 rfl rfl ((hm.cell0 (show (a16.add (k7 * 1)).block < w.heap.size from by rw [add_block]; exact hb17.1)).trans (rdS_u8 he18 k7 (by omega)))) ?_
    refine wv (fun W hm => rv_conv8 underlying5 underlying3 rfl) ?_
    refine wv vadd ?_
    refine wv vadd ?_
    refine wv (fun W hm => rv_and rfl rfl) ?_
    refine wa (WM_nil (QM_block_normal (QM_then (CM_region (wm ?_)))))
    refine wv (vadN k7 1 (by omega)) ?_
    refine wa (WM_nil ?_)
    have hn19 := rngb_next (R := Dl1Cur) (body := F1) (k := k7) (s := s8) (s' := (bits .and .i64 (IntKind.i64.wrap ((IntKind.i64.wrap ((IntKind.i64.wrap (s8 * 131)) + (IntKind.i64.wrap (gt x0 k7)))) + 7)) 1073741823)) (show k7 < x0.length from by omega) (cond_t g15 (rfl)) hF10
    exact QM_round (k7 + 1, (bits .and .i64 (IntKind.i64.wrap ((IntKind.i64.wrap ((IntKind.i64.wrap (s8 * 131)) + (IntKind.i64.wrap (gt x0 k7)))) + 7)) 1073741823), ()) sl3 (fun W hm => hm) ⟨(by omega), hn19⟩ (rl (by omega))
   ·have g15 := decide_eq_false h14
    refine CM_condF rfl g15 ?_
    refine CM_exit (QM_then_exit (QM_then_exit (QM_block_hit ?_)))
    have hE20 := rngb_brk (R := Dl1Cur) (body := F1) (k := k7) (s := s8) (s' := s8) (show k7 < x0.length from by omega) (cond_f g15 (rfl)) hF10
    exact QM_cut_normal (s8, ()) sl2 (fun W hm => hm) hE20
  ·have g13 := dlF hl12
   refine ws g13 ?_
   refine ws g13 ?_
   refine wv (vpF g13) ?_
   refine nt' ?_
   refine CM_condF rfl rfl ?_
   refine CM_exit (QM_then_exit (QM_then_exit (QM_block_hit ?_)))
   have hE21 : R2 (x0.length - 0) 0 ((10101 + x0.length : Nat) : Int) = Sum.inr s8 := rngb_end hl12 hF10
   exact QM_cut_normal (s8, ()) sl2 (fun W hm => hm) hE21
 ·
  rintro ⟨s8, ⟨⟩⟩ H23
  have hE22 : R2 (x0.length - 0) 0 ((10101 + x0.length : Nat) : Int) = Sum.inr s8 := H23
  show QM 32 _ _ _ .normal [(0, .slice A2 x0.length c3), (3, .int .i64 s8)] []
  refine QM_then (sr (wm (wm ?_)))
  refine wv (fun W hm => rv_build (cs := [.slice A2 x0.length c3, .int .i64 0, .int .i64 s8]) rfl (by kernel_rfl)) ?_
  refine WM_box rfl (Wd_none rfl) (by decide) (fun p24 => ?_)
  refine wa (nt' (CM_ret ?_))
  refine QM_r1 rfl (RR_tmp rfl) (fun W hm => ⟨p24, rfl, ?_⟩)
  rw [(show spec_l1New_m x0 = (⟨0, s8⟩ : Dl1Cur) from fin_inr hE22 (rfl))]
  exact hm

def spec_l1Byte_m (x0b : List Int) (x0 : Dl1Cur) : (Int × Dl1Cur) :=
 cond (decide (((x0.i : Nat) : Int) < ((x0b.length : Nat) : Int))) ((bits .and .i64 (IntKind.i64.wrap ((bits .and .i64 (bits .xor .i64 ((IntKind.i64.wrap ((IntKind.i64.wrap (x0.h * 6364136223846793005)) + 1442695040888963407)) / 2 ^ (33 : Int).toNat) ((IntKind.i64.wrap ((IntKind.i64.wrap (x0.h * 6364136223846793005)) + 1442695040888963407)) / 2 ^ (45 : Int).toNat)) 255) + (IntKind.i64.wrap (gt x0b (x0.i))))) 255), (⟨x0.i + 1, (IntKind.i64.wrap ((IntKind.i64.wrap (x0.h * 6364136223846793005)) + 1442695040888963407))⟩ : Dl1Cur)) ((bits .and .i64 (bits .xor .i64 ((IntKind.i64.wrap ((IntKind.i64.wrap (x0.h * 6364136223846793005)) + 1442695040888963407)) / 2 ^ (33 : Int).toNat) ((IntKind.i64.wrap ((IntKind.i64.wrap (x0.h * 6364136223846793005)) + 1442695040888963407)) / 2 ^ (45 : Int).toNat)) 255), (⟨x0.i, (IntKind.i64.wrap ((IntKind.i64.wrap (x0.h * 6364136223846793005)) + 1442695040888963407))⟩ : Dl1Cur))
theorem cb70 : Cb Try.prog 70 := ⟨f70, _, func70, rfl, by decide⟩
theorem spec_l1Byte_c (B : Nat) (w0 : World) (is : List It) (w : World) (p : Nat) (z0 : Value) (x0b : List Int) (x0 : Dl1Cur) (r_0 : rdS tU8 w0 B z0 x0b) (s_0 : x0b.length ≤ 68719476736) (hm : Mem B w0 (iBox p 74 [z0, .int .i64 ((x0.i : Nat) : Int), .int .i64 x0.h] :: is) w) :
  Calls Try.prog 70 #[.pointer (some ⟨p, 0, none⟩)] w fun e w' => ∃ x : Unit, e = .returned (.int .i64 ((spec_l1Byte_m x0b x0).1)) ∧ Mem B w0 (iBox p 74 [z0, .int .i64 ((((spec_l1Byte_m x0b x0).2).i : Nat) : Int), .int .i64 ((spec_l1Byte_m x0b x0).2).h] :: is) w' := by
 obtain ⟨m1, A2, c3, rfl, q4, r5⟩ := rdS_op r_0
 refine call_enterW (L := [(0, .pointer (some ⟨p, 0, none⟩))]) (N := 58) func70 rfl rfl (Nat.le_of_ble_eq_true rfl) (argsL_cons rfl argsL_nil) hm ?_
 have l6 : x0b.length ≤ 68719476736 := s_0
 refine sr (wa (nt' (sr (wm (wm ?_)))))
 refine wv (fun W hm => rv_nilCheck rfl) ?_
 refine wv (vf underlying74 rfl type3) ?_
 refine wv (vl 0 2 underlying3) ?_
 refine wv (fun W hm => rv_mul rfl rfl) ?_
 refine wv vadd ?_
 refine wv (fun W hm => rv_nilCheck rfl) ?_
 refine wv (vf underlying74 rfl type3) ?_
 refine WM_storeBox (p := p) (o := 2) (cs' := [.slice A2 x0b.length c3, .int .i64 ((x0.i : Nat) : Int), .int .i64 (IntKind.i64.wrap ((IntKind.i64.wrap (x0.h * 6364136223846793005)) + 1442695040888963407))]) (fun w hm => hm.front (n := 0) rfl) type3 rfl (Nat.le_of_ble_eq_true rfl) rfl rfl rfl rfl (Wd_none rfl) ?_
 refine nt' (CM_seq ?_)
 refine CM_regionD (by kernel_rfl) (by kernel_rfl) ?_
 refine qm ?_
 refine qv (fun W hm => rv_nilCheck rfl) ?_
 refine qv (vf underlying74 rfl type3) ?_
 refine qv (vl 0 2 underlying3) ?_
 refine qv (fun W hm => rv_shr (by decide) (by decide) rfl rfl) ?_
 refine qm ?_
 refine qv (fun W hm => rv_nilCheck rfl) ?_
 refine qv (vf underlying74 rfl type3) ?_
 refine qv (vl 0 2 underlying3) ?_
 refine qv (fun W hm => rv_shr (by decide) (by decide) rfl rfl) ?_
 refine qv (fun W hm => rv_xor rfl rfl) ?_
 refine qv (fun W hm => rv_and rfl rfl) ?_
 refine qv (fun W hm => rv_assign rfl) ?_
 refine nq' (CM_seq (CM_seq ?_))
 refine CM_regionD (by kernel_rfl) (by kernel_rfl) ?_
 refine qm ?_
 refine qv (fun W hm => rv_nilCheck rfl) ?_
 refine qv (vf underlying74 rfl type3) ?_
 refine qv (vl 0 1 underlying3) ?_
 refine qm ?_
 refine qv (fun W hm => rv_nilCheck rfl) ?_
 refine qv (vf underlying74 rfl type22) ?_
 refine qv (vl 0 0 underlying22) ?_
 refine qv (vlen underlying22) ?_
 refine qv vlss ?_
 refine nq' ?_
 by_cases h7 : ((x0.i : Nat) : Int) < ((x0b.length : Nat) : Int)
 ·have g8 := decide_eq_true h7
  refine CM_condT rfl g8 ?_
  refine CM_seq ?_
  refine CM_regionD (by kernel_rfl) (by kernel_rfl) ?_
  refine qm (qm ?_)
  refine qv (fun W hm => rv_nilCheck rfl) ?_
  refine qv (vf underlying74 rfl type22) ?_
  refine qv (vl 0 0 underlying22) ?_
  refine qm ?_
  refine qv (fun W hm => rv_nilCheck rfl) ?_
  refine qv (vf underlying74 rfl type3) ?_
  refine qv (vl 0 1 underlying3) ?_
  obtain ⟨a9, rfl, hb10, he11⟩ := q4 (by omega)
  refine qv (vix 1 x0.i underlying22 type5) ?_
  refine qv (fun W hm => rv_load underlying5 rfl rfl ((hm.cell0 (show (a9.add ((x0.i) * 1)).block < B from by rw [add_block]; exact hb10.1)).trans (rdS_u8 he11 (x0.i) (by omega)))) ?_
  refine qv (fun W hm => rv_conv8 underlying5 underlying3 rfl) ?_
  refine qv vadd ?_
  refine qv (fun W hm => rv_and rfl rfl) ?_
  refine qv (fun W hm => rv_assign rfl) ?_
  refine nq' (CM_region (wm (wm ?_)))
  refine wv (fun W hm => rv_nilCheck rfl) ?_
  refine wv (vf underlying74 rfl type3) ?_
  refine wv (vl 0 1 underlying3) ?_
  refine wv (vadN x0.i 1 (by omega)) ?_
  refine wv (fun W hm => rv_nilCheck rfl) ?_
  refine wv (vf underlying74 rfl type3) ?_
  refine WM_storeBox (p := p) (o := 1) (cs' := [.slice (some a9) x0b.length c3, .int .i64 ((x0.i + 1 : Nat) : Int), .int .i64 (IntKind.i64.wrap ((IntKind.i64.wrap (x0.h * 6364136223846793005)) + 1442695040888963407))]) (fun w hm => hm.front (n := 0) rfl) type3 rfl (Nat.le_of_ble_eq_true rfl) rfl rfl rfl rfl (Wd_none rfl) ?_
  refine nt' (sr (wm (wa (nt' (CM_ret ?_)))))
  have he12 := (show spec_l1Byte_m x0b x0 = ((bits .and .i64 (IntKind.i64.wrap ((bits .and .i64 (bits .xor .i64 ((IntKind.i64.wrap ((IntKind.i64.wrap (x0.h * 6364136223846793005)) + 1442695040888963407)) / 2 ^ (33 : Int).toNat) ((IntKind.i64.wrap ((IntKind.i64.wrap (x0.h * 6364136223846793005)) + 1442695040888963407)) / 2 ^ (45 : Int).toNat)) 255) + (IntKind.i64.wrap (gt x0b (x0.i))))) 255), (⟨x0.i + 1, (IntKind.i64.wrap ((IntKind.i64.wrap (x0.h * 6364136223846793005)) + 1442695040888963407))⟩ : Dl1Cur)) from cond_t g8 (rfl))
  refine QM_r1 rfl (RR_tmp rfl) (fun W hm => ⟨(), ?_, ?_⟩)
  ·first | rw [he12] | rfl
  ·rw [he12]; exact hm
 ·have g8 := decide_eq_false h7
  refine CM_condF rfl g8 ?_
  refine CM_skip (QM_then (sr (wm (wa (nt' (CM_ret ?_))))))
  have he13 := (show spec_l1Byte_m x0b x0 = ((bits .and .i64 (bits .xor .i64 ((IntKind.i64.wrap ((IntKind.i64.wrap (x0.h * 6364136223846793005)) + 1442695040888963407)) / 2 ^ (33 : Int).toNat) ((IntKind.i64.wrap ((IntKind.i64.wrap (x0.h * 6364136223846793005)) + 1442695040888963407)) / 2 ^ (45 : Int).toNat)) 255), (⟨x0.i, (IntKind.i64.wrap ((IntKind.i64.wrap (x0.h * 6364136223846793005)) + 1442695040888963407))⟩ : Dl1Cur)) from cond_f g8 (rfl))
  refine QM_r1 rfl (RR_tmp rfl) (fun W hm => ⟨(), ?_, ?_⟩)
  ·first | rw [he13] | rfl
  ·rw [he13]; exact hm

def spec_l1Below_m (x0b : List Int) (x0 : Dl1Cur) (x1 : Int) : (Int × Dl1Cur) :=
 cond (decide (x1 ≤ 0)) (0, x0) (cond (decide (x1 ≤ 256)) ((Int.tmod ((spec_l1Byte_m x0b x0).1) x1), ((spec_l1Byte_m x0b x0).2)) ((Int.tmod (IntKind.i64.wrap ((IntKind.i64.wrap ((IntKind.i64.wrap ((IntKind.i64.wrap (((spec_l1Byte_m x0b x0).1) * 16777216)) + (IntKind.i64.wrap ((spec_l1Byte_m x0b ((spec_l1Byte_m x0b x0).2)).1 * 65536)))) + (IntKind.i64.wrap (((spec_l1Byte_m x0b (spec_l1Byte_m x0b ((spec_l1Byte_m x0b x0).2)).2).1) * 256)))) + (spec_l1Byte_m x0b ((spec_l1Byte_m x0b (spec_l1Byte_m x0b ((spec_l1Byte_m x0b x0).2)).2).2)).1)) x1), (spec_l1Byte_m x0b ((spec_l1Byte_m x0b (spec_l1Byte_m x0b ((spec_l1Byte_m x0b x0).2)).2).2)).2))
theorem cb41 : Cb Try.prog 41 := ⟨f41, _, func41, rfl, by decide⟩
theorem spec_l1Below_c (B : Nat) (w0 : World) (is : List It) (w : World) (p : Nat) (z0 : Value) (x0b : List Int) (x0 : Dl1Cur) (r_0 : rdS tU8 w0 B z0 x0b) (x1 : Int) (s_0 : x0b.length ≤ 68719476736) (hm : Mem B w0 (iBox p 74 [z0, .int .i64 ((x0.i : Nat) : Int), .int .i64 x0.h] :: is) w) :
  Calls Try.prog 41 #[.pointer (some ⟨p, 0, none⟩), .int .i64 x1] w fun e w' => ∃ x : Unit, e = .returned (.int .i64 ((spec_l1Below_m x0b x0 x1).1)) ∧ Mem B w0 (iBox p 74 [z0, .int .i64 ((((spec_l1Below_m x0b x0 x1).2).i : Nat) : Int), .int .i64 ((spec_l1Below_m x0b x0 x1).2).h] :: is) w' := by
 obtain ⟨m1, A2, c3, rfl, q4, r5⟩ := rdS_op r_0
 refine call_enterW (L := [(0, .pointer (some ⟨p, 0, none⟩)), (1, .int .i64 x1)]) (N := 37) func41 rfl rfl (Nat.le_of_ble_eq_true rfl) (argsL_cons rfl (argsL_cons rfl argsL_nil)) hm ?_
 have l6 : x0b.length ≤ 68719476736 := s_0
 refine sr (wa (nt' (CM_seq (sr (wm ?_)))))
 refine wv (fun W hm => rv_leq rfl rfl) ?_
 refine nt' ?_
 by_cases h7 : x1 ≤ 0
 ·have g8 := decide_eq_true h7
  refine CM_condT rfl g8 ?_
  refine sr (wa (nt' (CM_ret (QM_then_ret ?_))))
  have he9 := (show spec_l1Below_m x0b x0 x1 = (0, x0) from cond_t g8 (rfl))
  refine QM_r1 rfl (RR_tmp rfl) (fun W hm => ⟨(), ?_, ?_⟩)
  ·first | rw [he9] | rfl
  ·rw [he9]; exact hm
 ·have g8 := decide_eq_false h7
  refine CM_condF rfl g8 ?_
  refine CM_skip (QM_then (CM_seq (sr (wm ?_))))
  refine wv (fun W hm => rv_leq rfl rfl) ?_
  refine nt' ?_
  by_cases h10 : x1 ≤ 256
  ·have g11 := decide_eq_true h10
   refine CM_condT rfl g11 ?_
   refine sr (wm ?_)
   refine WM_callW (χ := Unit) (val := fun x => .int .i64 ((spec_l1Byte_m x0b x0).1)) (js := fun x => (iBox p 74 [.slice A2 x0b.length c3, .int .i64 ((((spec_l1Byte_m x0b x0).2).i : Nat) : Int), .int .i64 ((spec_l1Byte_m x0b x0).2).h] :: (is))) (cl_fn cb70 rfl) (fun W hm => spec_l1Byte_c B w0 (is) W p _ x0b x0 r5 s_0 (hm.front (n := 0) rfl)) (Wd_none rfl) (by decide) (fun z12 => ?_)
   refine wm ?_
   refine wv (fun W hm => rv_rem rfl rfl (by omega)) ?_
   refine wa (nt' (CM_ret (QM_then_ret ?_)))
   have he13 := (show spec_l1Below_m x0b x0 x1 = ((Int.tmod ((spec_l1Byte_m x0b x0).1) x1), ((spec_l1Byte_m x0b x0).2)) from cond_f g8 (cond_t g11 (rfl)))
   refine QM_r1 rfl (RR_tmp rfl) (fun W hm => ⟨(), ?_, ?_⟩)
   ·first | rw [he13] | rfl
   ·rw [he13]; exact hm
  ·have g11 := decide_eq_false h10
   refine CM_condF rfl g11 ?_
   refine CM_skip (QM_then (sr (wm ?_)))
   refine WM_callW (χ := Unit) (val := fun x => .int .i64 ((spec_l1Byte_m x0b x0).1)) (js := fun x => (iBox p 74 [.slice A2 x0b.length c3, .int .i64 ((((spec_l1Byte_m x0b x0).2).i : Nat) : Int), .int .i64 ((spec_l1Byte_m x0b x0).2).h] :: (is))) (cl_fn cb70 rfl) (fun W hm => spec_l1Byte_c B w0 (is) W p _ x0b x0 r5 s_0 (hm.front (n := 0) rfl)) (Wd_none rfl) (by decide) (fun z14 => ?_)
   refine wa (nt' (sr (wm ?_)))
   refine WM_callW (χ := Unit) (val := fun x => .int .i64 ((spec_l1Byte_m x0b ((spec_l1Byte_m x0b x0).2)).1)) (js := fun x => (iBox p 74 [.slice A2 x0b.length c3, .int .i64 ((((spec_l1Byte_m x0b ((spec_l1Byte_m x0b x0).2)).2).i : Nat) : Int), .int .i64 ((spec_l1Byte_m x0b ((spec_l1Byte_m x0b x0).2)).2).h] :: (is))) (cl_fn cb70 rfl) (fun W hm => spec_l1Byte_c B w0 (is) W p _ x0b ((spec_l1Byte_m x0b x0).2) r5 s_0 (hm.front (n := 0) rfl)) (Wd_none rfl) (by decide) (fun z15 => ?_)
   obtain ⟨G16, hG16⟩ : ∃ G, G = (spec_l1Byte_m x0b ((spec_l1Byte_m x0b x0).2)) := ⟨_, rfl⟩
   rw [← hG16]
   refine wa (nt' (sr (wm ?_)))
   refine WM_callW (χ := Unit) (val := fun x => .int .i64 ((spec_l1Byte_m x0b G16.2).1)) (js := fun x => (iBox p 74 [.slice A2 x0b.length c3, .int .i64 ((((spec_l1Byte_m x0b G16.2).2).i : Nat) : Int), .int .i64 ((spec_l1Byte_m x0b G16.2).2).h] :: (is))) (cl_fn cb70 rfl) (fun W hm => spec_l1Byte_c B w0 (is) W p _ x0b G16.2 r5 s_0 (hm.front (n := 0) rfl)) (Wd_none rfl) (by decide) (fun z17 => ?_)
   refine wa (nt' (sr (wm ?_)))
   refine WM_callW (χ := Unit) (val := fun x => .int .i64 ((spec_l1Byte_m x0b ((spec_l1Byte_m x0b G16.2).2)).1)) (js := fun x => (iBox p 74 [.slice A2 x0b.length c3, .int .i64 ((((spec_l1Byte_m x0b ((spec_l1Byte_m x0b G16.2).2)).2).i : Nat) : Int), .int .i64 ((spec_l1Byte_m x0b ((spec_l1Byte_m x0b G16.2).2)).2).h] :: (is))) (cl_fn cb70 rfl) (fun W hm => spec_l1Byte_c B w0 (is) W p _ x0b ((spec_l1Byte_m x0b G16.2).2) r5 s_0 (hm.front (n := 0) rfl)) (Wd_none rfl) (by decide) (fun z18 => ?_)
   obtain ⟨G19, hG19⟩ : ∃ G, G = (spec_l1Byte_m x0b ((spec_l1Byte_m x0b G16.2).2)) := ⟨_, rfl⟩
   rw [← hG19]
   refine wa (nt' (sr (wm ?_)))
   refine wv (fun W hm => rv_mul rfl rfl) ?_
   refine wm ?_
   refine wv (fun W hm => rv_mul rfl rfl) ?_
   refine wv vadd ?_
   refine wm ?_
   refine wv (fun W hm => rv_mul rfl rfl) ?_
   refine wv vadd ?_
   refine wm ?_
   refine wv vadd ?_
   refine wm ?_
   refine wv (fun W hm => rv_rem rfl rfl (by omega)) ?_
   refine wa (nt' (CM_ret ?_))
   have he20 := (show spec_l1Below_m x0b x0 x1 = ((Int.tmod (IntKind.i64.wrap ((IntKind.i64.wrap ((IntKind.i64.wrap ((IntKind.i64.wrap (((spec_l1Byte_m x0b x0).1) * 16777216)) + (IntKind.i64.wrap (G16.1 * 65536)))) + (IntKind.i64.wrap (((spec_l1Byte_m x0b G16.2).1) * 256)))) + G19.1)) x1), G19.2) from by subst hG16 hG19; exact cond_f g8 (cond_f g11 (rfl)))
   refine QM_r1 rfl (RR_tmp rfl) (fun W hm => ⟨(), ?_, ?_⟩)
   ·first | rw [he20] | rfl
   ·rw [he20]; exact hm

theorem spec_l1Byte_rng (b : List Int) (D : Dl1Cur) : 0 ≤ (spec_l1Byte_m b D).1 ∧ (spec_l1Byte_m b D).1 ≤ 255 := by
  unfold spec_l1Byte_m
  cases decide (((D.i : Nat) : Int) < ((b.length : Nat) : Int))
  · exact and255 _
  · exact and255 _
theorem spec_l1Below_rng (b : List Int) (D : Dl1Cur) (n : Int) : 0 ≤ (spec_l1Below_m b D n).1 ∧ (0 < n → (spec_l1Below_m b D n).1 < n) ∧ (n ≤ 0 → (spec_l1Below_m b D n).1 = 0) := by
  unfold spec_l1Below_m
  by_cases h : n ≤ 0
  · rw [decide_eq_true h]
    exact ⟨Int.le_refl _, fun h2 => absurd h (by omega), fun _ => rfl⟩
  rw [decide_eq_false h, cond_false]
  by_cases h2 : n ≤ 256
  · rw [decide_eq_true h2, cond_true]
    have h3 := spec_l1Byte_rng b D
    exact ⟨Int.tmod_nonneg _ h3.1, fun _ => Int.tmod_lt_of_pos _ (by omega), fun h4 => absurd h4 h⟩
  · rw [decide_eq_false h2, cond_false]
    have h3 := spec_l1Byte_rng b D
    have h4 := spec_l1Byte_rng b (spec_l1Byte_m b D).2
    have h5 := spec_l1Byte_rng b (spec_l1Byte_m b (spec_l1Byte_m b D).2).2
    have h6 := spec_l1Byte_rng b (spec_l1Byte_m b (spec_l1Byte_m b (spec_l1Byte_m b D).2).2).2
    refine ⟨Int.tmod_nonneg _ ?_, fun _ => Int.tmod_lt_of_pos _ (by omega), fun h4 => absurd h4 h⟩
    rw [wrap_id (n := (spec_l1Byte_m b D).1 * 16777216) (by omega) (by omega), wrap_id (n := (spec_l1Byte_m b (spec_l1Byte_m b D).2).1 * 65536) (by omega) (by omega), wrap_id (n := (spec_l1Byte_m b (spec_l1Byte_m b (spec_l1Byte_m b D).2).2).1 * 256) (by omega) (by omega),
      wrap_id (n := (spec_l1Byte_m b D).1 * 16777216 + (spec_l1Byte_m b (spec_l1Byte_m b D).2).1 * 65536) (by omega) (by omega)]
    rw [wrap_id (n := (spec_l1Byte_m b D).1 * 16777216 + (spec_l1Byte_m b (spec_l1Byte_m b D).2).1 * 65536 + (spec_l1Byte_m b (spec_l1Byte_m b (spec_l1Byte_m b D).2).2).1 * 256) (by omega) (by omega), wrap_id (by omega) (by omega)]
    omega
def spec_l1PickInt_m (x0b : List Int) (x0 : Dl1Cur) (x1 : (List Int)) : (Int × Dl1Cur) :=
 ((gt x1 ((spec_l1Below_m x0b x0 ((x1.length : Nat) : Int)).1.toNat)), (spec_l1Below_m x0b x0 ((x1.length : Nat) : Int)).2)
theorem cb66 : Cb Try.prog 66 := ⟨f66, _, func66, rfl, by decide⟩
theorem spec_l1PickInt_c (B : Nat) (w0 : World) (is : List It) (w : World) (p : Nat) (z0 : Value) (x0b : List Int) (x0 : Dl1Cur) (r_0 : rdS tU8 w0 B z0 x0b) (z1 : Value) (x1 : (List Int)) (s_0 : x0b.length ≤ 68719476736) (s_1 : x1.length ≤ 68719476736) (hx1 : 0 < x1.length) (hm : Mem B w0 (iBox p 74 [z0, .int .i64 ((x0.i : Nat) : Int), .int .i64 x0.h] :: iOwn (tSl tInt 3) [z1] x1 :: is) w) :
  Calls Try.prog 66 #[.pointer (some ⟨p, 0, none⟩), z1] w fun e w' => ∃ x : Unit, e = .returned (.int .i64 ((spec_l1PickInt_m x0b x0 x1).1)) ∧ Mem B w0 (iBox p 74 [z0, .int .i64 ((((spec_l1PickInt_m x0b x0 x1).2).i : Nat) : Int), .int .i64 ((spec_l1PickInt_m x0b x0 x1).2).h] :: iOwn (tSl tInt 3) [z1] x1 :: is) w' := by
 obtain ⟨m1, A2, c3, rfl, q4, r5⟩ := rdS_op r_0
 refine call_enterW (L := [(0, .pointer (some ⟨p, 0, none⟩)), (1, z1)]) (N := 12) func66 rfl rfl (Nat.le_of_ble_eq_true rfl) (argsL_cons rfl (argsL_cons rfl argsL_nil)) hm ?_
 refine CM_form (n := 1) rfl ?_
 rintro A6 c7 rfl m8
 have l10 : x0b.length ≤ 68719476736 := s_0
 have l11 : x1.length ≤ 68719476736 := s_1
 refine sr (wa (nt' (sr (wm (wm (wm ?_))))))
 refine wv (vlen underlying37) ?_
 refine WM_callW (χ := Unit) (val := fun x => .int .i64 ((spec_l1Below_m x0b x0 ((x1.length : Nat) : Int)).1)) (js := fun x => (iBox p 74 [.slice A2 x0b.length c3, .int .i64 ((((spec_l1Below_m x0b x0 ((x1.length : Nat) : Int)).2).i : Nat) : Int), .int .i64 ((spec_l1Below_m x0b x0 ((x1.length : Nat) : Int)).2).h] :: (iOwn (tSl tInt 3) [.slice A6 x1.length c7] x1 :: is))) (cl_fn cb41 rfl) (fun W hm => spec_l1Below_c B w0 (iOwn (tSl tInt 3) [.slice A6 x1.length c7] x1 :: is) W p _ x0b x0 r5 ((x1.length : Nat) : Int) s_0 (hm.front (n := 0) rfl)) (Wd_none rfl) (by decide) (fun z12 => ?_)
 have hb := spec_l1Below_rng x0b x0 ((x1.length : Nat) : Int)
 obtain ⟨G13, hG13⟩ : ∃ G, G = (spec_l1Below_m x0b x0 ((x1.length : Nat) : Int)) := ⟨_, rfl⟩
 rw [← hG13]
 rw [← hG13] at hb
 refine WM_formO (n := 1) rfl (by omega) ?_
 rintro g14 rfl
 refine wv (fun W hm => rv_indexI (sz := 1) (k := G13.1) underlying37 type3 rfl rfl rfl (by omega) (by omega)) ?_
 refine wv (fun W hm => rv_load underlying3 rfl rfl (hm.ownInt (i := 1) rfl (by omega))) ?_
 refine wa (nt' (CM_ret ?_))
 have he15 := (show spec_l1PickInt_m x0b x0 x1 = ((gt x1 (G13.1.toNat)), G13.2) from by subst hG13; exact rfl)
 refine QM_r1 rfl (RR_tmp rfl) (fun W hm => ⟨(), ?_, ?_⟩)
 ·first | rw [he15] | rfl
 ·rw [he15]; exact hm

def spec_l1Once_m (x0b : List Int) (x0 : Dl1Cur) (x1 : Int) : (Bool × Dl1Cur) :=
 ((((spec_l1Below_m x0b x0 x1).1) == 0), ((spec_l1Below_m x0b x0 x1).2))
theorem cb51 : Cb Try.prog 51 := ⟨f51, _, func51, rfl, by decide⟩
theorem spec_l1Once_c (B : Nat) (w0 : World) (is : List It) (w : World) (p : Nat) (z0 : Value) (x0b : List Int) (x0 : Dl1Cur) (r_0 : rdS tU8 w0 B z0 x0b) (x1 : Int) (s_0 : x0b.length ≤ 68719476736) (hm : Mem B w0 (iBox p 74 [z0, .int .i64 ((x0.i : Nat) : Int), .int .i64 x0.h] :: is) w) :
  Calls Try.prog 51 #[.pointer (some ⟨p, 0, none⟩), .int .i64 x1] w fun e w' => ∃ x : Unit, e = .returned (.bool ((spec_l1Once_m x0b x0 x1).1)) ∧ Mem B w0 (iBox p 74 [z0, .int .i64 ((((spec_l1Once_m x0b x0 x1).2).i : Nat) : Int), .int .i64 ((spec_l1Once_m x0b x0 x1).2).h] :: is) w' := by
 obtain ⟨m1, A2, c3, rfl, q4, r5⟩ := rdS_op r_0
 refine call_enterW (L := [(0, .pointer (some ⟨p, 0, none⟩)), (1, .int .i64 x1)]) (N := 9) func51 rfl rfl (Nat.le_of_ble_eq_true rfl) (argsL_cons rfl (argsL_cons rfl argsL_nil)) hm ?_
 have l6 : x0b.length ≤ 68719476736 := s_0
 refine sr (wa (nt' (sr (wm (wm ?_)))))
 refine WM_callW (χ := Unit) (val := fun x => .int .i64 ((spec_l1Below_m x0b x0 x1).1)) (js := fun x => (iBox p 74 [.slice A2 x0b.length c3, .int .i64 ((((spec_l1Below_m x0b x0 x1).2).i : Nat) : Int), .int .i64 ((spec_l1Below_m x0b x0 x1).2).h] :: (is))) (cl_fn cb41 rfl) (fun W hm => spec_l1Below_c B w0 (is) W p _ x0b x0 r5 x1 s_0 (hm.front (n := 0) rfl)) (Wd_none rfl) (by decide) (fun z7 => ?_)
 have hb := spec_l1Below_rng x0b x0 x1
 refine wv (fun W hm => rv_eql rfl rfl) ?_
 refine wa (nt' (CM_ret ?_))
 have he8 := (show spec_l1Once_m x0b x0 x1 = ((((spec_l1Below_m x0b x0 x1).1) == 0), ((spec_l1Below_m x0b x0 x1).2)) from rfl)
 refine QM_r1 rfl (RR_tmp rfl) (fun W hm => ⟨(), ?_, ?_⟩)
 ·first | rw [he8] | rfl
 ·rw [he8]; exact hm

def spec_l4Query_b2 (x0b : List Int) (k57 : Nat) (s59 : Int) (s60 : Nat) (s61 : Int) (d63 : (List Int)) : (DQuery × Dl1Cur) ⊕ ((Int × Nat × Int × (List Int)) ⊕ (Int × Nat × Int × (List Int))) :=
 cond (decide (0 < s59)) (Sum.inr (Sum.inr ((IntKind.i64.wrap (s59 - 1)), (spec_l1Below_m x0b (⟨s60, s61⟩ : Dl1Cur) 3).2.i, (spec_l1Below_m x0b (⟨s60, s61⟩ : Dl1Cur) 3).2.h, (d63 ++ [(spec_l1Below_m x0b (⟨s60, s61⟩ : Dl1Cur) 3).1])))) (Sum.inr (Sum.inl (s59, s60, s61, d63)))
def spec_l4Query_b1 (x0b : List Int) (x0 : Dl1Cur) (k14 : Nat) (s16 : Nat) (s17 : Int) (d19 : (List DCond)) : (DQuery × Dl1Cur) ⊕ (Nat × Int × (List DCond)) :=
 cond ((spec_l1Once_m x0b (⟨s16, s17⟩ : Dl1Cur) 2).1) (cond ((spec_l1Once_m x0b (spec_l1Below_m x0b (spec_l1Below_m x0b (spec_l1Once_m x0b (⟨s16, s17⟩ : Dl1Cur) 2).2 (spec_l1PickInt_m x0b ((spec_l1Below_m x0b x0 4).2) [3, 6, 100]).1).2 (spec_l1PickInt_m x0b ((spec_l1Below_m x0b x0 4).2) [3, 6, 100]).1).2 3).1) (Sum.inr (((spec_l1Once_m x0b (spec_l1Below_m x0b (spec_l1Below_m x0b (spec_l1Once_m x0b (⟨s16, s17⟩ : Dl1Cur) 2).2 (spec_l1PickInt_m x0b ((spec_l1Below_m x0b x0 4).2) [3, 6, 100]).1).2 (spec_l1PickInt_m x0b ((spec_l1Below_m x0b x0 4).2) [3, 6, 100]).1).2 3).2).i, ((spec_l1Once_m x0b (spec_l1Below_m x0b (spec_l1Below_m x0b (spec_l1Once_m x0b (⟨s16, s17⟩ : Dl1Cur) 2).2 (spec_l1PickInt_m x0b ((spec_l1Below_m x0b x0 4).2) [3, 6, 100]).1).2 (spec_l1PickInt_m x0b ((spec_l1Below_m x0b x0 4).2) [3, 6, 100]).1).2 3).2).h, (d19 ++ [(⟨((k14 : Nat) : Int), (spec_l1Below_m x0b (spec_l1Once_m x0b (⟨s16, s17⟩ : Dl1Cur) 2).2 (spec_l1PickInt_m x0b ((spec_l1Below_m x0b x0 4).2) [3, 6, 100]).1).1, (spec_l1Below_m x0b (spec_l1Once_m x0b (⟨s16, s17⟩ : Dl1Cur) 2).2 (spec_l1PickInt_m x0b ((spec_l1Below_m x0b x0 4).2) [3, 6, 100]).1).1⟩ : DCond)]))) (Sum.inr (((spec_l1Once_m x0b (spec_l1Below_m x0b (spec_l1Below_m x0b (spec_l1Once_m x0b (⟨s16, s17⟩ : Dl1Cur) 2).2 (spec_l1PickInt_m x0b ((spec_l1Below_m x0b x0 4).2) [3, 6, 100]).1).2 (spec_l1PickInt_m x0b ((spec_l1Below_m x0b x0 4).2) [3, 6, 100]).1).2 3).2).i, ((spec_l1Once_m x0b (spec_l1Below_m x0b (spec_l1Below_m x0b (spec_l1Once_m x0b (⟨s16, s17⟩ : Dl1Cur) 2).2 (spec_l1PickInt_m x0b ((spec_l1Below_m x0b x0 4).2) [3, 6, 100]).1).2 (spec_l1PickInt_m x0b ((spec_l1Below_m x0b x0 4).2) [3, 6, 100]).1).2 3).2).h, (d19 ++ [(⟨((k14 : Nat) : Int), (spec_l1Below_m x0b (spec_l1Once_m x0b (⟨s16, s17⟩ : Dl1Cur) 2).2 (spec_l1PickInt_m x0b ((spec_l1Below_m x0b x0 4).2) [3, 6, 100]).1).1, (if (IntKind.i64.wrap ((spec_l1Below_m x0b (spec_l1Once_m x0b (⟨s16, s17⟩ : Dl1Cur) 2).2 (spec_l1PickInt_m x0b ((spec_l1Below_m x0b x0 4).2) [3, 6, 100]).1).1 + (spec_l1Below_m x0b (spec_l1Below_m x0b (spec_l1Once_m x0b (⟨s16, s17⟩ : Dl1Cur) 2).2 (spec_l1PickInt_m x0b ((spec_l1Below_m x0b x0 4).2) [3, 6, 100]).1).2 (spec_l1PickInt_m x0b ((spec_l1Below_m x0b x0 4).2) [3, 6, 100]).1).1)) < 99 then (IntKind.i64.wrap ((spec_l1Below_m x0b (spec_l1Once_m x0b (⟨s16, s17⟩ : Dl1Cur) 2).2 (spec_l1PickInt_m x0b ((spec_l1Below_m x0b x0 4).2) [3, 6, 100]).1).1 + (spec_l1Below_m x0b (spec_l1Below_m x0b (spec_l1Once_m x0b (⟨s16, s17⟩ : Dl1Cur) 2).2 (spec_l1PickInt_m x0b ((spec_l1Below_m x0b x0 4).2) [3, 6, 100]).1).2 (spec_l1PickInt_m x0b ((spec_l1Below_m x0b x0 4).2) [3, 6, 100]).1).1)) else 99)⟩ : DCond)])))) (Sum.inr ((spec_l1Once_m x0b (⟨s16, s17⟩ : Dl1Cur) 2).2.i, (spec_l1Once_m x0b (⟨s16, s17⟩ : Dl1Cur) 2).2.h, d19))
def spec_l4Query_m (x0b : List Int) (x0 : Dl1Cur) (x1 : Int) : (DQuery × Dl1Cur) :=
 Sum.elim id (fun (s1_ : Nat × Int × (List DCond)) => Sum.elim id (fun (s : Int × Nat × Int × (List Int)) => ((⟨x1, (spec_l1Below_m x0b x0 4).1, s1_.2.2, s.2.2.2⟩ : DQuery), (⟨s.2.1, s.2.2.1⟩ : Dl1Cur))) (rngb (R := (DQuery × Dl1Cur)) (fun k (s : Int × Nat × Int × (List Int)) => spec_l4Query_b2 x0b k s.1 s.2.1 s.2.2.1 s.2.2.2) (((IntKind.i64.wrap (1 + (spec_l1Below_m x0b (⟨s1_.1, s1_.2.1⟩ : Dl1Cur) 3).1))).toNat + 1 - 0) 0 ((IntKind.i64.wrap (1 + (spec_l1Below_m x0b (⟨s1_.1, s1_.2.1⟩ : Dl1Cur) 3).1)), (spec_l1Below_m x0b (⟨s1_.1, s1_.2.1⟩ : Dl1Cur) 3).2.i, (spec_l1Below_m x0b (⟨s1_.1, s1_.2.1⟩ : Dl1Cur) 3).2.h, []))) (rng (R := (DQuery × Dl1Cur)) (fun k (s : Nat × Int × (List DCond)) => spec_l4Query_b1 x0b x0 k s.1 s.2.1 s.2.2) (3 - 0) 0 ((spec_l1PickInt_m x0b ((spec_l1Below_m x0b x0 4).2) [3, 6, 100]).2.i, (spec_l1PickInt_m x0b ((spec_l1Below_m x0b x0 4).2) [3, 6, 100]).2.h, []))
theorem cb72 : Cb Try.prog 72 := ⟨f72, _, func72, rfl, by decide⟩
theorem spec_l4Query_c (B : Nat) (w0 : World) (is : List It) (w : World) (p : Nat) (z0 : Value) (x0b : List Int) (x0 : Dl1Cur) (r_0 : rdS tU8 w0 B z0 x0b) (x1 : Int) (s_0 : x0b.length ≤ 68719476736) (hm : Mem B w0 (iBox p 74 [z0, .int .i64 ((x0.i : Nat) : Int), .int .i64 x0.h] :: is) w) :
  Calls Try.prog 72 #[.pointer (some ⟨p, 0, none⟩), .int .i64 x1] w fun e w' => ∃ x : List Value, e = .returned (.agg x.toArray) ∧ Mem B w0 (iOwn tyQuery x ((spec_l4Query_m x0b x0 x1).1) :: iBox p 74 [z0, .int .i64 ((((spec_l4Query_m x0b x0 x1).2).i : Nat) : Int), .int .i64 ((spec_l4Query_m x0b x0 x1).2).h] :: is) w' := by
 obtain ⟨m1, A2, c3, rfl, q4, r5⟩ := rdS_op r_0
 refine call_enterW (L := [(0, .pointer (some ⟨p, 0, none⟩)), (1, .int .i64 x1)]) (N := 62) func72 rfl rfl (Nat.le_of_ble_eq_true rfl) (argsL_cons rfl (argsL_cons rfl argsL_nil)) hm ?_
 have l6 : x0b.length ≤ 68719476736 := s_0
 refine sr ?_
 refine WM_alloc type39 rfl (Wd_none rfl) (by decide) (fun p7 => ?_)
 refine nt' (sr (wm (wm ?_)))
 let K5 : List Value := [.int .i64 0, .int .i64 0, .slice none 0 0, .slice none 0 0]
 refine WM_callW (χ := Unit) (val := fun x => .int .i64 ((spec_l1Below_m x0b x0 4).1)) (js := fun x => (iBox p 74 [.slice A2 x0b.length c3, .int .i64 ((((spec_l1Below_m x0b x0 4).2).i : Nat) : Int), .int .i64 ((spec_l1Below_m x0b x0 4).2).h] :: (iBox p7 39 K5 :: is))) (cl_fn cb41 rfl) (fun W hm => spec_l1Below_c B w0 (iBox p7 39 K5 :: is) W p _ x0b x0 r5 4 s_0 (hm.front (n := 1) rfl)) (Wd_none rfl) (by decide) (fun z8 => ?_)
 have hb := spec_l1Below_rng x0b x0 4
 let K6 : List Value := [.int .i64 x1, .int .i64 ((spec_l1Below_m x0b x0 4).1), .slice none 0 0, .slice none 0 0]
 refine wv (fun W hm => rv_build (cs := K6) rfl (by kernel_rfl)) ?_
 refine WM_alloc type39 rfl (Wd_none rfl) (by decide) (fun p9 => ?_)
 refine WM_storeBox (p := p9) (o := 0) (cs' := K6) (fun w hm => hm.front (n := 0) rfl) type39 rfl (Nat.le_of_ble_eq_true rfl) rfl rfl rfl rfl (Wd_none rfl) ?_
 refine nt' (sr (wm ?_))
 refine WM_build (cs := [.int .i64 3, .int .i64 6, .int .i64 100]) underlying37 type3 rfl (by decide) (by decide) rfl (by kernel_rfl) (Wd_none rfl) (by decide) (fun p10 => ?_)
 refine WM_items (fun W hm => Mem.litOwn (E := tInt) (xs := [3, 6, 100]) rfl (show 3 ≤ maxLen from by decide) (fun _ => (els_cons (E := tInt) (L1 := []) tInt_own (els_cons (E := tInt) (L1 := []) tInt_own (els_cons (E := tInt) (L1 := []) tInt_own els_nil)))) (hm.front (n := 0) rfl)) ?_
 let I15 : It := iOwn (tSl tInt 3) [.slice (some ⟨p10, 0, none⟩) 3 3] [3, 6, 100]
 refine WM_callW (χ := Unit) (val := fun x => .int .i64 ((spec_l1PickInt_m x0b ((spec_l1Below_m x0b x0 4).2) [3, 6, 100]).1)) (js := fun x => (iBox p 74 [.slice A2 x0b.length c3, .int .i64 ((((spec_l1PickInt_m x0b ((spec_l1Below_m x0b x0 4).2) [3, 6, 100]).2).i : Nat) : Int), .int .i64 ((spec_l1PickInt_m x0b ((spec_l1Below_m x0b x0 4).2) [3, 6, 100]).2).h] :: I15 :: (iBox p9 39 K6 :: iBox p7 39 K5 :: is))) (cl_fn cb66 rfl) (fun W hm => spec_l1PickInt_c B w0 (iBox p9 39 K6 :: iBox p7 39 K5 :: is) W p _ x0b ((spec_l1Below_m x0b x0 4).2) r5 _ [3, 6, 100] s_0 (Nat.le_of_ble_eq_true rfl) (by first | decide | exact Nat.succ_pos _) ((hm.front (n := 0) rfl).front (n := 2) rfl)) (Wd_none rfl) (by decide) (fun z12 => ?_)
 obtain ⟨G13, hG13⟩ : ∃ G, G = (spec_l1PickInt_m x0b ((spec_l1Below_m x0b x0 4).2) [3, 6, 100]) := ⟨_, rfl⟩
 rw [← hG13]
 refine wa (nt' (CM_seq (sr (wa (nt' (CM_block ?_))))))
 let K7 : List Value := [.slice A2 x0b.length c3, .int .i64 ((G13.2.i : Nat) : Int), .int .i64 G13.2.h]
 refine CM_items (js := (iOwn (tSl tyCond 90) [.slice none 0 0] [] :: iBox p 74 K7 :: I15 :: iBox p9 39 K6 :: iBox p7 39 K5 :: is)) (fun W hm => hm.addNil (E := tyCond) (e := 90)) ?_
 refine CM_items (js := (iBox p 74 K7 :: I15 :: iBox p9 39 K6 :: iBox p7 39 K5 :: iOwn (tSl tyCond 90) [.slice none 0 0] [] :: is)) (fun W hm => ((((hm.front (n := 4) rfl).front (n := 4) rfl).front (n := 4) rfl).front (n := 4) rfl)) ?_
 let F1 := fun k (s : Nat × Int × (List DCond)) => spec_l4Query_b1 x0b x0 k s.1 s.2.1 s.2.2
 let R3 := rng (R := (DQuery × Dl1Cur)) F1
 refine CM_loop (σ := Nat × (Nat × Int × (List DCond)) × (Option Addr × Nat)) (fun s => [(0, .pointer (some (⟨p, 0, none⟩ : Addr))), (4, .pointer (some (⟨p7, 0, none⟩ : Addr))), (5, .pointer (some (⟨p9, 0, none⟩ : Addr))), (6, .int .i64 G13.1), (7, .int .i64 ((s.1 : Nat) : Int))]) (fun s => (iBox p 74 [.slice A2 x0b.length c3, .int .i64 ((s.2.1.1 : Nat) : Int), .int .i64 s.2.1.2.1] :: I15 :: iBox p9 39 [.int .i64 x1, .int .i64 ((spec_l1Below_m x0b x0 4).1), .slice s.2.2.1 s.2.1.2.2.length s.2.2.2, .slice none 0 0] :: iBox p7 39 K5 :: iOwn (tSl tyCond 90) [.slice s.2.2.1 s.2.1.2.2.length s.2.2.2] s.2.1.2.2 :: is)) (fun s => s.1 ≤ 3 ∧ R3 (3 - s.1) s.1 s.2.1 = R3 (3 - 0) 0 (G13.2.i, G13.2.h, []) ∧ s.2.1.2.2.length ≤ 0 + s.1) (fun s => 3 - s.1) (0, (G13.2.i, G13.2.h, []), (none, 0)) sl5 (fun W hm => hm) ⟨(by omega), rfl, Nat.le_refl _⟩ ?_
 rintro ⟨k14, ⟨s16, s17, d19⟩, ⟨A20, c21⟩⟩ H24
 obtain ⟨hk22, hF23, hi25⟩ : k14 ≤ 3 ∧ R3 (3 - k14) k14 (s16, s17, d19) = R3 (3 - 0) 0 (G13.2.i, G13.2.h, []) ∧ d19.length ≤ 0 + k14 := H24
 let K8 : List Value := [.int .i64 x1, .int .i64 ((spec_l1Below_m x0b x0 4).1), .slice A20 d19.length c21, .slice none 0 0]
 let I16 : It := iOwn (tSl tyCond 90) [.slice A20 d19.length c21] d19
 show CM Try.prog 62 _ _ _ _ [(0, .pointer (some (⟨p, 0, none⟩ : Addr))), (4, .pointer (some (⟨p7, 0, none⟩ : Addr))), (5, .pointer (some (⟨p9, 0, none⟩ : Addr))), (6, .int .i64 G13.1), (7, .int .i64 ((k14 : Nat) : Int))] (iBox p 74 [.slice A2 x0b.length c3, .int .i64 ((s16 : Nat) : Int), .int .i64 s17] :: I15 :: iBox p9 39 K8 :: iBox p7 39 K5 :: I16 :: is)
 refine CM_seq (sr (wm ?_))
 refine wv vlss ?_
 refine nt' ?_
 by_cases hl26 : k14 < 3
 ·have g27 : (decide (((k14 : Nat) : Int) < 3)) = true := decide_eq_true (by omega)
  refine CM_condT rfl g27 ?_
  refine CM_skip (QM_then (CM_seq (CM_block (sr (wm ?_)))))
  refine WM_callW (χ := Unit) (val := fun x => .bool ((spec_l1Once_m x0b (⟨s16, s17⟩ : Dl1Cur) 2).1)) (js := fun x => (iBox p 74 [.slice A2 x0b.length c3, .int .i64 ((((spec_l1Once_m x0b (⟨s16, s17⟩ : Dl1Cur) 2).2).i : Nat) : Int), .int .i64 ((spec_l1Once_m x0b (⟨s16, s17⟩ : Dl1Cur) 2).2).h] :: (I15 :: iBox p9 39 K8 :: iBox p7 39 K5 :: I16 :: is))) (cl_fn cb51 rfl) (fun W hm => spec_l1Once_c B w0 (I15 :: iBox p9 39 K8 :: iBox p7 39 K5 :: I16 :: is) W p _ x0b (⟨s16, s17⟩ : Dl1Cur) r5 2 s_0 (hm.front (n := 0) rfl)) (Wd_none rfl) (by decide) (fun z28 => ?_)
  obtain ⟨G29, hG29⟩ : ∃ G, G = (spec_l1Once_m x0b (⟨s16, s17⟩ : Dl1Cur) 2) := ⟨_, rfl⟩
  rw [← hG29]
  refine nt' ?_
  rcases Bool.eq_false_or_eq_true G29.1 with g31 | g31
  ·
   refine CM_condT rfl g31 ?_
   refine sr (wm (wm ?_))
   refine WM_callW (χ := Unit) (val := fun x => .int .i64 ((spec_l1Below_m x0b G29.2 G13.1).1)) (js := fun x => (iBox p 74 [.slice A2 x0b.length c3, .int .i64 ((((spec_l1Below_m x0b G29.2 G13.1).2).i : Nat) : Int), .int .i64 ((spec_l1Below_m x0b G29.2 G13.1).2).h] :: (I15 :: iBox p9 39 K8 :: iBox p7 39 K5 :: I16 :: is))) (cl_fn cb41 rfl) (fun W hm => spec_l1Below_c B w0 (I15 :: iBox p9 39 K8 :: iBox p7 39 K5 :: I16 :: is) W p _ x0b G29.2 r5 G13.1 s_0 (hm.front (n := 0) rfl)) (Wd_none rfl) (by decide) (fun z32 => ?_)
   have hb := spec_l1Below_rng x0b G29.2 G13.1
   obtain ⟨G33, hG33⟩ : ∃ G, G = (spec_l1Below_m x0b G29.2 G13.1) := ⟨_, rfl⟩
   rw [← hG33]
   rw [← hG33] at hb
   refine wa (nt' (sr (wm (wm (wm ?_)))))
   refine WM_callW (χ := Unit) (val := fun x => .int .i64 ((spec_l1Below_m x0b G33.2 G13.1).1)) (js := fun x => (iBox p 74 [.slice A2 x0b.length c3, .int .i64 ((((spec_l1Below_m x0b G33.2 G13.1).2).i : Nat) : Int), .int .i64 ((spec_l1Below_m x0b G33.2 G13.1).2).h] :: (I15 :: iBox p9 39 K8 :: iBox p7 39 K5 :: I16 :: is))) (cl_fn cb41 rfl) (fun W hm => spec_l1Below_c B w0 (I15 :: iBox p9 39 K8 :: iBox p7 39 K5 :: I16 :: is) W p _ x0b G33.2 r5 G13.1 s_0 (hm.front (n := 0) rfl)) (Wd_none rfl) (by decide) (fun z34 => ?_)
   have hb := spec_l1Below_rng x0b G33.2 G13.1
   obtain ⟨G35, hG35⟩ : ∃ G, G = (spec_l1Below_m x0b G33.2 G13.1) := ⟨_, rfl⟩
   rw [← hG35]
   rw [← hG35] at hb
   refine wv vadd ?_
   refine wv (fun W hm => rv_min rfl rfl) ?_
   refine wa (nt' (CM_seq (sr (wm ?_))))
   refine WM_callW (χ := Unit) (val := fun x => .bool ((spec_l1Once_m x0b G35.2 3).1)) (js := fun x => (iBox p 74 [.slice A2 x0b.length c3, .int .i64 ((((spec_l1Once_m x0b G35.2 3).2).i : Nat) : Int), .int .i64 ((spec_l1Once_m x0b G35.2 3).2).h] :: (I15 :: iBox p9 39 K8 :: iBox p7 39 K5 :: I16 :: is))) (cl_fn cb51 rfl) (fun W hm => spec_l1Once_c B w0 (I15 :: iBox p9 39 K8 :: iBox p7 39 K5 :: I16 :: is) W p _ x0b G35.2 r5 3 s_0 (hm.front (n := 0) rfl)) (Wd_none rfl) (by decide) (fun z36 => ?_)
   refine nt' ?_
   rcases Bool.eq_false_or_eq_true ((spec_l1Once_m x0b G35.2 3).1) with g38 | g38
   ·
    refine CM_condT rfl g38 ?_
    refine CM_region (wm (wa (nt' (CM_region ?_))))
    refine wv (vf underlying39 rfl type36) ?_
    refine wv (vl 2 2 underlying36) ?_
    refine wm (wm (wm ?_))
    let K9 : List Value := [.int .i64 ((k14 : Nat) : Int), .int .i64 G33.1, .int .i64 G33.1]
    refine wv (fun W hm => rv_build (cs := K9) rfl (by kernel_rfl)) ?_
    refine WM_build (cs := K9) underlying36 type90 rfl (by decide) (by decide) rfl (by kernel_rfl) (Wd_none rfl) (by decide) (fun p39 => ?_)
    refine ap1 tyCond 90 (.slice A20 d19.length c21) d19 (⟨((k14 : Nat) : Int), G33.1, G33.1⟩ : DCond) [] (iBox p 74 [.slice A2 x0b.length c3, .int .i64 ((((spec_l1Once_m x0b G35.2 3).2).i : Nat) : Int), .int .i64 (((spec_l1Once_m x0b G35.2 3).2).h)] :: I15 :: iBox p9 39 K8 :: iBox p7 39 K5 :: is) K9 (fun W hm => ((hm.front (n := 5) rfl).front (n := 1) rfl)) (fun _ _ hs => by cases (Sep.nil hs); exact (els_cons (tyCond_join (x := (⟨((k14 : Nat) : Int), G33.1, G33.1⟩ : DCond)) (L := []) rfl) els_nil)) underlying36 type90 (show (d19.length + 1) * 24 ≤ 140737488355328 from by omega) (fun v40 => ?_)
    refine WM_form (n := 0) rfl ?_
    rintro A41 c42 rfl m43
    refine wv (vf underlying39 rfl type36) ?_
    refine WM_storeBox (p := p9) (o := 2) (cs' := [.int .i64 x1, .int .i64 ((spec_l1Below_m x0b x0 4).1), .slice A41 (d19 ++ [(⟨((k14 : Nat) : Int), G33.1, G33.1⟩ : DCond)]).length c42, .slice none 0 0]) (fun w hm => hm.front (n := 3) rfl) type36 rfl (Nat.le_of_ble_eq_true rfl) rfl rfl rfl rfl (Wd_none rfl) ?_
    refine WM_nil (QM_block_normal (QM_then (CM_region (wm ?_))))
    refine wv (vadN k14 1 (by omega)) ?_
    refine wa (WM_nil ?_)
    have hn45 := rng_next (R := (DQuery × Dl1Cur)) (body := F1) (k := k14) (s := (s16, s17, d19)) (s' := (((spec_l1Once_m x0b G35.2 3).2).i, ((spec_l1Once_m x0b G35.2 3).2).h, (d19 ++ [(⟨((k14 : Nat) : Int), G33.1, G33.1⟩ : DCond)]))) (show k14 < 3 from by omega) (by subst hG13 hG29 hG33 hG35; exact cond_t g31 (cond_t g38 (rfl))) hF23
    exact QM_round (k14 + 1, (((spec_l1Once_m x0b G35.2 3).2).i, ((spec_l1Once_m x0b G35.2 3).2).h, (d19 ++ [(⟨((k14 : Nat) : Int), G33.1, G33.1⟩ : DCond)])), (A41, c42)) sl5 (fun W hm => (((((hm.front (n := 1) rfl).front (n := 4) rfl).front (n := 2) rfl).front (n := 4) rfl).front (n := 4) rfl)) ⟨(by omega), hn45, (show (d19 ++ [(⟨((k14 : Nat) : Int), G33.1, G33.1⟩ : DCond)]).length ≤ 0 + (k14 + 1) from by first | omega | (simp only [List.length_append, List.length_cons, List.length_nil] at *; omega))⟩ (rl (by omega))
   ·
    refine CM_condF rfl g38 ?_
    refine CM_skip (QM_then (CM_region ?_))
    refine wv (vf underlying39 rfl type36) ?_
    refine wv (vl 2 2 underlying36) ?_
    refine wm (wm (wm ?_))
    let K10 : List Value := [.int .i64 ((k14 : Nat) : Int), .int .i64 G33.1, .int .i64 (if (IntKind.i64.wrap (G33.1 + G35.1)) < 99 then (IntKind.i64.wrap (G33.1 + G35.1)) else 99)]
    refine wv (fun W hm => rv_build (cs := K10) rfl (by kernel_rfl)) ?_
    refine WM_build (cs := K10) underlying36 type90 rfl (by decide) (by decide) rfl (by kernel_rfl) (Wd_none rfl) (by decide) (fun p46 => ?_)
    refine ap1 tyCond 90 (.slice A20 d19.length c21) d19 (⟨((k14 : Nat) : Int), G33.1, (if (IntKind.i64.wrap (G33.1 + G35.1)) < 99 then (IntKind.i64.wrap (G33.1 + G35.1)) else 99)⟩ : DCond) [] (iBox p 74 [.slice A2 x0b.length c3, .int .i64 ((((spec_l1Once_m x0b G35.2 3).2).i : Nat) : Int), .int .i64 (((spec_l1Once_m x0b G35.2 3).2).h)] :: I15 :: iBox p9 39 K8 :: iBox p7 39 K5 :: is) K10 (fun W hm => ((hm.front (n := 5) rfl).front (n := 1) rfl)) (fun _ _ hs => by cases (Sep.nil hs); exact (els_cons (tyCond_join (x := (⟨((k14 : Nat) : Int), G33.1, (if (IntKind.i64.wrap (G33.1 + G35.1)) < 99 then (IntKind.i64.wrap (G33.1 + G35.1)) else 99)⟩ : DCond)) (L := []) rfl) els_nil)) underlying36 type90 (show (d19.length + 1) * 24 ≤ 140737488355328 from by omega) (fun v47 => ?_)
    refine WM_form (n := 0) rfl ?_
    rintro A48 c49 rfl m50
    refine wv (vf underlying39 rfl type36) ?_
    refine WM_storeBox (p := p9) (o := 2) (cs' := [.int .i64 x1, .int .i64 ((spec_l1Below_m x0b x0 4).1), .slice A48 (d19 ++ [(⟨((k14 : Nat) : Int), G33.1, (if (IntKind.i64.wrap (G33.1 + G35.1)) < 99 then (IntKind.i64.wrap (G33.1 + G35.1)) else 99)⟩ : DCond)]).length c49, .slice none 0 0]) (fun w hm => hm.front (n := 3) rfl) type36 rfl (Nat.le_of_ble_eq_true rfl) rfl rfl rfl rfl (Wd_none rfl) ?_
    refine WM_nil (QM_block_normal (QM_then (CM_region (wm ?_))))
    refine wv (vadN k14 1 (by omega)) ?_
    refine wa (WM_nil ?_)
    have hn52 := rng_next (R := (DQuery × Dl1Cur)) (body := F1) (k := k14) (s := (s16, s17, d19)) (s' := (((spec_l1Once_m x0b G35.2 3).2).i, ((spec_l1Once_m x0b G35.2 3).2).h, (d19 ++ [(⟨((k14 : Nat) : Int), G33.1, (if (IntKind.i64.wrap (G33.1 + G35.1)) < 99 then (IntKind.i64.wrap (G33.1 + G35.1)) else 99)⟩ : DCond)]))) (show k14 < 3 from by omega) (by subst hG13 hG29 hG33 hG35; exact cond_t g31 (cond_f g38 (rfl))) hF23
    exact QM_round (k14 + 1, (((spec_l1Once_m x0b G35.2 3).2).i, ((spec_l1Once_m x0b G35.2 3).2).h, (d19 ++ [(⟨((k14 : Nat) : Int), G33.1, (if (IntKind.i64.wrap (G33.1 + G35.1)) < 99 then (IntKind.i64.wrap (G33.1 + G35.1)) else 99)⟩ : DCond)])), (A48, c49)) sl5 (fun W hm => (((((hm.front (n := 1) rfl).front (n := 4) rfl).front (n := 2) rfl).front (n := 4) rfl).front (n := 4) rfl)) ⟨(by omega), hn52, (show (d19 ++ [(⟨((k14 : Nat) : Int), G33.1, (if (IntKind.i64.wrap (G33.1 + G35.1)) < 99 then (IntKind.i64.wrap (G33.1 + G35.1)) else 99)⟩ : DCond)]).length ≤ 0 + (k14 + 1) from by first | omega | (simp only [List.length_append, List.length_cons, List.length_nil] at *; omega))⟩ (rl (by omega))
  ·
   refine CM_condF rfl g31 ?_
   refine CM_skip (QM_block_normal (QM_then (CM_region (wm ?_))))
   refine wv (vadN k14 1 (by omega)) ?_
   refine wa (WM_nil ?_)
   have hn53 := rng_next (R := (DQuery × Dl1Cur)) (body := F1) (k := k14) (s := (s16, s17, d19)) (s' := (G29.2.i, G29.2.h, d19)) (show k14 < 3 from by omega) (by subst hG13 hG29; exact cond_f g31 (rfl)) hF23
   exact QM_round (k14 + 1, (G29.2.i, G29.2.h, d19), (A20, c21)) sl5 (fun W hm => hm) ⟨(by omega), hn53, (show d19.length ≤ 0 + (k14 + 1) from by first | omega | (simp only [List.length_append, List.length_cons, List.length_nil] at *; omega))⟩ (rl (by omega))
 ·have g27 : (decide (((k14 : Nat) : Int) < 3)) = false := decide_eq_false (by omega)
  refine CM_condF rfl g27 ?_
  refine CM_exit (QM_then_exit (QM_then_exit ?_))
  have hE54 : R3 (3 - 0) 0 (G13.2.i, G13.2.h, []) = Sum.inr (s16, s17, d19) := rng_end hl26 hF23
  refine QM_block_hit (QM_then (CM_seq (sr (wm ?_))))
  refine WM_callW (χ := Unit) (val := fun x => .int .i64 ((spec_l1Below_m x0b (⟨s16, s17⟩ : Dl1Cur) 3).1)) (js := fun x => (iBox p 74 [.slice A2 x0b.length c3, .int .i64 ((((spec_l1Below_m x0b (⟨s16, s17⟩ : Dl1Cur) 3).2).i : Nat) : Int), .int .i64 ((spec_l1Below_m x0b (⟨s16, s17⟩ : Dl1Cur) 3).2).h] :: (I15 :: iBox p9 39 K8 :: iBox p7 39 K5 :: I16 :: is))) (cl_fn cb41 rfl) (fun W hm => spec_l1Below_c B w0 (I15 :: iBox p9 39 K8 :: iBox p7 39 K5 :: I16 :: is) W p _ x0b (⟨s16, s17⟩ : Dl1Cur) r5 3 s_0 (hm.front (n := 0) rfl)) (Wd_none rfl) (by decide) (fun z55 => ?_)
  have hb := spec_l1Below_rng x0b (⟨s16, s17⟩ : Dl1Cur) 3
  have hw5 := wrap_id (n := 1 + (spec_l1Below_m x0b (⟨s16, s17⟩ : Dl1Cur) 3).1) (by omega) (by omega)
  obtain ⟨G56, hG56⟩ : ∃ G, G = (spec_l1Below_m x0b (⟨s16, s17⟩ : Dl1Cur) 3) := ⟨_, rfl⟩
  rw [← hG56]
  rw [← hG56] at hb
  rw [← hG56] at hw5
  refine wv vadd ?_
  refine wa (nt' ?_)
  let K11 : List Value := [.slice A2 x0b.length c3, .int .i64 ((G56.2.i : Nat) : Int), .int .i64 G56.2.h]
  refine CM_items (js := (iOwn (tSl tInt 3) [.slice none 0 0] [] :: iBox p 74 K11 :: I15 :: iBox p9 39 K8 :: iBox p7 39 K5 :: I16 :: is)) (fun W hm => hm.addNil (E := tInt) (e := 3)) ?_
  refine CM_items (js := (iBox p 74 K11 :: I15 :: iBox p9 39 K8 :: iBox p7 39 K5 :: I16 :: iOwn (tSl tInt 3) [.slice none 0 0] [] :: is)) (fun W hm => (((((hm.front (n := 5) rfl).front (n := 5) rfl).front (n := 5) rfl).front (n := 5) rfl).front (n := 5) rfl)) ?_
  let F2 := fun k (s : Int × Nat × Int × (List Int)) => spec_l4Query_b2 x0b k s.1 s.2.1 s.2.2.1 s.2.2.2
  let R4 := rngb (R := (DQuery × Dl1Cur)) F2
  refine CM_cut (σ := (Int × Nat × Int × (List Int)) × (Option Addr × Nat)) (fun s => [(4, .pointer (some (⟨p7, 0, none⟩ : Addr))), (5, .pointer (some (⟨p9, 0, none⟩ : Addr)))]) (fun s => (iBox p 74 [.slice A2 x0b.length c3, .int .i64 ((s.1.2.1 : Nat) : Int), .int .i64 s.1.2.2.1] :: I15 :: iBox p9 39 [.int .i64 x1, .int .i64 ((spec_l1Below_m x0b x0 4).1), .slice A20 d19.length c21, .slice s.2.1 s.1.2.2.2.length s.2.2] :: iBox p7 39 K5 :: I16 :: iOwn (tSl tInt 3) [.slice s.2.1 s.1.2.2.2.length s.2.2] s.1.2.2.2 :: is)) (fun s => R4 (((IntKind.i64.wrap (1 + G56.1))).toNat + 1 - 0) 0 ((IntKind.i64.wrap (1 + G56.1)), G56.2.i, G56.2.h, []) = Sum.inr s.1) ?_ ?_
  ·
   refine CM_block ?_
   refine CM_loop (σ := Nat × (Int × Nat × Int × (List Int)) × (Option Addr × Nat)) (fun s => [(0, .pointer (some (⟨p, 0, none⟩ : Addr))), (4, .pointer (some (⟨p7, 0, none⟩ : Addr))), (5, .pointer (some (⟨p9, 0, none⟩ : Addr))), (10, .int .i64 s.2.1.1)]) (fun s => (iBox p 74 [.slice A2 x0b.length c3, .int .i64 ((s.2.1.2.1 : Nat) : Int), .int .i64 s.2.1.2.2.1] :: I15 :: iBox p9 39 [.int .i64 x1, .int .i64 ((spec_l1Below_m x0b x0 4).1), .slice A20 d19.length c21, .slice s.2.2.1 s.2.1.2.2.2.length s.2.2.2] :: iBox p7 39 K5 :: I16 :: iOwn (tSl tInt 3) [.slice s.2.2.1 s.2.1.2.2.2.length s.2.2.2] s.2.1.2.2.2 :: is)) (fun s => s.1 + ((s.2.1.1).toNat) + 1 ≤ ((IntKind.i64.wrap (1 + G56.1))).toNat + 1 ∧ R4 (((IntKind.i64.wrap (1 + G56.1))).toNat + 1 - s.1) s.1 s.2.1 = R4 (((IntKind.i64.wrap (1 + G56.1))).toNat + 1 - 0) 0 ((IntKind.i64.wrap (1 + G56.1)), G56.2.i, G56.2.h, []) ∧ s.2.1.2.2.2.length ≤ 0 + s.1 ∧ 0 ≤ s.2.1.1 ∧ s.2.1.1 ≤ 3) (fun s => ((IntKind.i64.wrap (1 + G56.1))).toNat + 1 - s.1) (0, ((IntKind.i64.wrap (1 + G56.1)), G56.2.i, G56.2.h, []), (none, 0)) sl4 (fun W hm => hm) ⟨(show 0 + (((IntKind.i64.wrap (1 + G56.1))).toNat) + 1 ≤ ((IntKind.i64.wrap (1 + G56.1))).toNat + 1 from by omega), rfl, Nat.le_refl _, (show 0 ≤ (IntKind.i64.wrap (1 + G56.1)) from by omega), (show (IntKind.i64.wrap (1 + G56.1)) ≤ 3 from by omega)⟩ ?_
   rintro ⟨k57, ⟨s59, s60, s61, d63⟩, ⟨A64, c65⟩⟩ H68
   obtain ⟨hk66, hF67, hi69, hi70, hi71⟩ : k57 + ((s59).toNat) + 1 ≤ ((IntKind.i64.wrap (1 + G56.1))).toNat + 1 ∧ R4 (((IntKind.i64.wrap (1 + G56.1))).toNat + 1 - k57) k57 (s59, s60, s61, d63) = R4 (((IntKind.i64.wrap (1 + G56.1))).toNat + 1 - 0) 0 ((IntKind.i64.wrap (1 + G56.1)), G56.2.i, G56.2.h, []) ∧ d63.length ≤ 0 + k57 ∧ 0 ≤ s59 ∧ s59 ≤ 3 := H68
   let K12 : List Value := [.int .i64 x1, .int .i64 ((spec_l1Below_m x0b x0 4).1), .slice A20 d19.length c21, .slice A64 d63.length c65]
   let I17 : It := iOwn (tSl tInt 3) [.slice A64 d63.length c65] d63
   show CM Try.prog 62 _ _ _ _ [(0, .pointer (some (⟨p, 0, none⟩ : Addr))), (4, .pointer (some (⟨p7, 0, none⟩ : Addr))), (5, .pointer (some (⟨p9, 0, none⟩ : Addr))), (10, .int .i64 s59)] (iBox p 74 [.slice A2 x0b.length c3, .int .i64 ((s60 : Nat) : Int), .int .i64 s61] :: I15 :: iBox p9 39 K12 :: iBox p7 39 K5 :: I16 :: I17 :: is)
   have hw1 := wrap_id (n := s59 - 1) (by omega) (by omega)
   refine CM_seq (sr (wm ?_))
   refine wv (fun W hm => rv_gtr rfl rfl) ?_
   refine nt' ?_
   by_cases h72 : 0 < s59
   ·have g73 := decide_eq_true h72
    refine CM_condT rfl g73 ?_
    refine CM_skip (QM_then (CM_seq (CM_block (sr (wm ?_)))))
    refine WM_callW (χ := Unit) (val := fun x => .int .i64 ((spec_l1Below_m x0b (⟨s60, s61⟩ : Dl1Cur) 3).1)) (js := fun x => (iBox p 74 [.slice A2 x0b.length c3, .int .i64 ((((spec_l1Below_m x0b (⟨s60, s61⟩ : Dl1Cur) 3).2).i : Nat) : Int), .int .i64 ((spec_l1Below_m x0b (⟨s60, s61⟩ : Dl1Cur) 3).2).h] :: (I15 :: iBox p9 39 K12 :: iBox p7 39 K5 :: I16 :: I17 :: is))) (cl_fn cb41 rfl) (fun W hm => spec_l1Below_c B w0 (I15 :: iBox p9 39 K12 :: iBox p7 39 K5 :: I16 :: I17 :: is) W p _ x0b (⟨s60, s61⟩ : Dl1Cur) r5 3 s_0 (hm.front (n := 0) rfl)) (Wd_none rfl) (by decide) (fun z74 => ?_)
    have hb := spec_l1Below_rng x0b (⟨s60, s61⟩ : Dl1Cur) 3
    have hw5 := wrap_id (n := 1 + (spec_l1Below_m x0b (⟨s60, s61⟩ : Dl1Cur) 3).1) (by omega) (by omega)
    obtain ⟨G75, hG75⟩ : ∃ G, G = (spec_l1Below_m x0b (⟨s60, s61⟩ : Dl1Cur) 3) := ⟨_, rfl⟩
    rw [← hG75]
    rw [← hG75] at hb
    rw [← hG75] at hw5
    refine wa (nt' (CM_region ?_))
    refine wv (vf underlying39 rfl type37) ?_
    refine wv (vl 2 3 underlying37) ?_
    refine wm ?_
    refine WM_build (cs := [.int .i64 G75.1]) underlying37 type3 rfl (by decide) (by decide) rfl (by kernel_rfl) (Wd_none rfl) (by decide) (fun p76 => ?_)
    refine ap1 tInt 3 (.slice A64 d63.length c65) d63 G75.1 [] (iBox p 74 [.slice A2 x0b.length c3, .int .i64 ((G75.2.i : Nat) : Int), .int .i64 G75.2.h] :: I15 :: iBox p9 39 K12 :: iBox p7 39 K5 :: I16 :: is) [.int .i64 G75.1] (fun W hm => ((hm.front (n := 6) rfl).front (n := 1) rfl)) (fun _ _ hs => by cases (Sep.nil hs); exact (els_cons tInt_own els_nil)) underlying37 type3 (show (d63.length + 1) * 8 ≤ 140737488355328 from by omega) (fun v77 => ?_)
    refine WM_form (n := 0) rfl ?_
    rintro A78 c79 rfl m80
    refine wv (vf underlying39 rfl type37) ?_
    refine WM_storeBox (p := p9) (o := 3) (cs' := [.int .i64 x1, .int .i64 ((spec_l1Below_m x0b x0 4).1), .slice A20 d19.length c21, .slice A78 (d63 ++ [G75.1]).length c79]) (fun w hm => hm.front (n := 3) rfl) type37 rfl (Nat.le_of_ble_eq_true rfl) rfl rfl rfl rfl (Wd_none rfl) ?_
    refine WM_nil (QM_block_normal (QM_then (CM_region (wm ?_))))
    refine wv (fun W hm => rv_sub rfl rfl) ?_
    refine wa (WM_nil ?_)
    have hn82 := rngb_next (R := (DQuery × Dl1Cur)) (body := F2) (k := k57) (s := (s59, s60, s61, d63)) (s' := ((IntKind.i64.wrap (s59 - 1)), G75.2.i, G75.2.h, (d63 ++ [G75.1]))) (show k57 < ((IntKind.i64.wrap (1 + G56.1))).toNat + 1 from by omega) (by subst hG13 hG56 hG75; exact cond_t g73 (rfl)) hF67
    exact QM_round (k57 + 1, ((IntKind.i64.wrap (s59 - 1)), G75.2.i, G75.2.h, (d63 ++ [G75.1])), (A78, c79)) sl4 (fun W hm => ((((((hm.front (n := 1) rfl).front (n := 5) rfl).front (n := 5) rfl).front (n := 3) rfl).front (n := 5) rfl).front (n := 5) rfl)) ⟨(show (k57 + 1) + (((IntKind.i64.wrap (s59 - 1))).toNat) + 1 ≤ ((IntKind.i64.wrap (1 + G56.1))).toNat + 1 from by omega), hn82, (show (d63 ++ [G75.1]).length ≤ 0 + (k57 + 1) from by first | omega | (simp only [List.length_append, List.length_cons, List.length_nil] at *; omega)), (show 0 ≤ (IntKind.i64.wrap (s59 - 1)) from by first | omega | (simp only [List.length_append, List.length_cons, List.length_nil] at *; omega)), (show (IntKind.i64.wrap (s59 - 1)) ≤ 3 from by first | omega | (simp only [List.length_append, List.length_cons, List.length_nil] at *; omega))⟩ (show ((IntKind.i64.wrap (1 + G56.1))).toNat + 1 - (k57 + 1) < ((IntKind.i64.wrap (1 + G56.1))).toNat + 1 - k57 from by omega)
   ·have g73 := decide_eq_false h72
    refine CM_condF rfl g73 ?_
    refine CM_exit (QM_then_exit (QM_then_exit (QM_block_hit ?_)))
    have hE83 := rngb_brk (R := (DQuery × Dl1Cur)) (body := F2) (k := k57) (s := (s59, s60, s61, d63)) (s' := (s59, s60, s61, d63)) (show k57 < ((IntKind.i64.wrap (1 + G56.1))).toNat + 1 from by omega) (by subst hG13 hG56; exact cond_f g73 (rfl)) hF67
    exact QM_cut_normal ((s59, s60, s61, d63), (A64, c65)) sl2 (fun W hm => hm) hE83
  ·
   rintro ⟨⟨s59, s60, s61, d63⟩, ⟨A64, c65⟩⟩ H85
   have hE84 : R4 (((IntKind.i64.wrap (1 + G56.1))).toNat + 1 - 0) 0 ((IntKind.i64.wrap (1 + G56.1)), G56.2.i, G56.2.h, []) = Sum.inr (s59, s60, s61, d63) := H85
   let K13 : List Value := [.slice A2 x0b.length c3, .int .i64 ((s60 : Nat) : Int), .int .i64 s61]
   let K14 : List Value := [.int .i64 x1, .int .i64 ((spec_l1Below_m x0b x0 4).1), .slice A20 d19.length c21, .slice A64 d63.length c65]
   show QM 62 _ _ _ .normal [(4, .pointer (some (⟨p7, 0, none⟩ : Addr))), (5, .pointer (some (⟨p9, 0, none⟩ : Addr)))] (iBox p 74 K13 :: I15 :: iBox p9 39 K14 :: iBox p7 39 K5 :: I16 :: iOwn (tSl tInt 3) [.slice A64 d63.length c65] d63 :: is)
   refine QM_then (sr ?_)
   refine wv (fun W hm => rv_loadN (cs := K14) underlying39 type39 rfl rfl (hm.boxCells (n := 2) rfl)) ?_
   refine WM_storeBox (p := p7) (o := 0) (cs' := K14) (fun w hm => hm.front (n := 3) rfl) type39 rfl (Nat.le_of_ble_eq_true rfl) rfl rfl rfl rfl (Wd_none rfl) ?_
   refine nt' (CM_ret ?_)
   refine QM_items (js := (iOwn tyQuery K14 (⟨x1, (spec_l1Below_m x0b x0 4).1, d19, d63⟩ : DQuery) :: (iBox p7 39 K14 :: iBox p 74 K13 :: I15 :: iBox p9 39 K14 :: is))) (fun W hm => Mem.join (is := [I16, iOwn (tSl tInt 3) [.slice A64 d63.length c65] d63]) (js := (iBox p7 39 K14 :: iBox p 74 K13 :: I15 :: iBox p9 39 K14 :: is)) (fun _ _ hs => tyQuery_join (x := (⟨x1, (spec_l1Below_m x0b x0 4).1, d19, d63⟩ : DQuery)) hs) ((hm.front (n := 5) rfl).front (n := 5) rfl)) ?_
   have he86 := (show spec_l4Query_m x0b x0 x1 = ((⟨x1, (spec_l1Below_m x0b x0 4).1, d19, d63⟩ : DQuery), (⟨s60, s61⟩ : Dl1Cur)) from by subst hG13 hG56; exact fin_inr hE54 (fin_inr hE84 (rfl)))
   refine QM_r1 rfl (RR_cell (n := 1) rfl rfl underlying39 type39 rfl) (fun W hm => ⟨K14, ?_, ?_⟩)
   ·first | rw [he86] | rfl
   ·rw [he86]; exact (((((hm.front (n := 2) rfl).front (n := 1) rfl).front (n := 2) rfl).tail.front (n := 2) rfl).tail.front (n := 2) rfl).tail

def spec_l4Queries_b1 (x0b : List Int) (k12 : Nat) (d13 : (List DQuery)) (s16 : Int) (s17 : Int) (s18 : Nat) (s19 : Int) : ((List DQuery) × Dl1Cur) ⊕ (((List DQuery) × Int × Int × Nat × Int) ⊕ ((List DQuery) × Int × Int × Nat × Int)) :=
 cond (decide (0 < s17)) (Sum.inr (Sum.inr ((d13 ++ [(spec_l4Query_m x0b (⟨s18, s19⟩ : Dl1Cur) s16).1]), (IntKind.i64.wrap ((IntKind.i64.wrap (s16 + 1)) + ((spec_l1Below_m x0b (spec_l4Query_m x0b (⟨s18, s19⟩ : Dl1Cur) s16).2 2).1))), (IntKind.i64.wrap (s17 - 1)), ((spec_l1Below_m x0b (spec_l4Query_m x0b (⟨s18, s19⟩ : Dl1Cur) s16).2 2).2).i, ((spec_l1Below_m x0b (spec_l4Query_m x0b (⟨s18, s19⟩ : Dl1Cur) s16).2 2).2).h))) (Sum.inr (Sum.inl (d13, s16, s17, s18, s19)))
def spec_l4Queries_m (x0b : List Int) (x0 : Dl1Cur) (x1 : Int) : ((List DQuery) × Dl1Cur) :=
 Sum.elim id (fun (s : (List DQuery) × Int × Int × Nat × Int) => (s.1, (⟨s.2.2.2.1, s.2.2.2.2⟩ : Dl1Cur))) (rngb (R := ((List DQuery) × Dl1Cur)) (fun k (s : (List DQuery) × Int × Int × Nat × Int) => spec_l4Queries_b1 x0b k s.1 s.2.1 s.2.2.1 s.2.2.2.1 s.2.2.2.2) (((spec_l1Below_m x0b ((spec_l1Below_m x0b x0 2).2) (IntKind.i64.wrap (x1 + 1))).1).toNat + 1 - 0) 0 ([], (spec_l1Below_m x0b x0 2).1, (spec_l1Below_m x0b ((spec_l1Below_m x0b x0 2).2) (IntKind.i64.wrap (x1 + 1))).1, (spec_l1Below_m x0b ((spec_l1Below_m x0b x0 2).2) (IntKind.i64.wrap (x1 + 1))).2.i, (spec_l1Below_m x0b ((spec_l1Below_m x0b x0 2).2) (IntKind.i64.wrap (x1 + 1))).2.h))
theorem cb48 : Cb Try.prog 48 := ⟨f48, _, func48, rfl, by decide⟩
theorem spec_l4Queries_c (B : Nat) (w0 : World) (is : List It) (w : World) (p : Nat) (z0 : Value) (x0b : List Int) (x0 : Dl1Cur) (r_0 : rdS tU8 w0 B z0 x0b) (x1 : Int) (s_0 : x0b.length ≤ 68719476736) (hx1 : 0 ≤ x1 ∧ x1 ≤ 100) (hm : Mem B w0 (iBox p 74 [z0, .int .i64 ((x0.i : Nat) : Int), .int .i64 x0.h] :: is) w) :
  Calls Try.prog 48 #[.pointer (some ⟨p, 0, none⟩), .int .i64 x1] w fun e w' => ∃ x : Value, e = .returned (x) ∧ Mem B w0 (iOwn (tSl tyQuery 39) [x] ((spec_l4Queries_m x0b x0 x1).1) :: iBox p 74 [z0, .int .i64 ((((spec_l4Queries_m x0b x0 x1).2).i : Nat) : Int), .int .i64 ((spec_l4Queries_m x0b x0 x1).2).h] :: is) w' := by
 obtain ⟨m1, A2, c3, rfl, q4, r5⟩ := rdS_op r_0
 refine call_enterW (L := [(0, .pointer (some ⟨p, 0, none⟩)), (1, .int .i64 x1)]) (N := 31) func48 rfl rfl (Nat.le_of_ble_eq_true rfl) (argsL_cons rfl (argsL_cons rfl argsL_nil)) hm ?_
 have l6 : x0b.length ≤ 68719476736 := s_0
 refine sr (wa (nt' (sr ?_)))
 refine WM_build0 (E := tyQuery) underlying24 type39 (Wd_none rfl) (by decide) (fun p7 => ?_)
 refine wa (nt' (sr (wm ?_)))
 let I4 : It := iOwn (tSl tyQuery 39) [.slice (some ⟨p7, 0, none⟩) 0 0] []
 refine WM_callW (χ := Unit) (val := fun x => .int .i64 ((spec_l1Below_m x0b x0 2).1)) (js := fun x => (iBox p 74 [.slice A2 x0b.length c3, .int .i64 ((((spec_l1Below_m x0b x0 2).2).i : Nat) : Int), .int .i64 ((spec_l1Below_m x0b x0 2).2).h] :: (I4 :: is))) (cl_fn cb41 rfl) (fun W hm => spec_l1Below_c B w0 (I4 :: is) W p _ x0b x0 r5 2 s_0 (hm.front (n := 1) rfl)) (Wd_none rfl) (by decide) (fun z9 => ?_)
 have hb := spec_l1Below_rng x0b x0 2
 refine wa (nt' (CM_seq (sr (wm (wm ?_)))))
 refine wv vadd ?_
 refine WM_callW (χ := Unit) (val := fun x => .int .i64 ((spec_l1Below_m x0b ((spec_l1Below_m x0b x0 2).2) (IntKind.i64.wrap (x1 + 1))).1)) (js := fun x => (iBox p 74 [.slice A2 x0b.length c3, .int .i64 ((((spec_l1Below_m x0b ((spec_l1Below_m x0b x0 2).2) (IntKind.i64.wrap (x1 + 1))).2).i : Nat) : Int), .int .i64 ((spec_l1Below_m x0b ((spec_l1Below_m x0b x0 2).2) (IntKind.i64.wrap (x1 + 1))).2).h] :: (I4 :: is))) (cl_fn cb41 rfl) (fun W hm => spec_l1Below_c B w0 (I4 :: is) W p _ x0b ((spec_l1Below_m x0b x0 2).2) r5 (IntKind.i64.wrap (x1 + 1)) s_0 (hm.front (n := 0) rfl)) (Wd_none rfl) (by decide) (fun z10 => ?_)
 have hb := spec_l1Below_rng x0b ((spec_l1Below_m x0b x0 2).2) (IntKind.i64.wrap (x1 + 1))
 obtain ⟨G11, hG11⟩ : ∃ G, G = (spec_l1Below_m x0b ((spec_l1Below_m x0b x0 2).2) (IntKind.i64.wrap (x1 + 1))) := ⟨_, rfl⟩
 rw [← hG11]
 rw [← hG11] at hb
 refine wa (nt' ?_)
 have hw2 := wrap_id (n := x1 + 1) (by omega) (by omega)
 let F1 := fun k (s : (List DQuery) × Int × Int × Nat × Int) => spec_l4Queries_b1 x0b k s.1 s.2.1 s.2.2.1 s.2.2.2.1 s.2.2.2.2
 let R2 := rngb (R := ((List DQuery) × Dl1Cur)) F1
 refine CM_cut (σ := ((List DQuery) × Int × Int × Nat × Int) × (Option Addr × Nat)) (fun s => [(5, .slice s.2.1 s.1.1.length s.2.2)]) (fun s => (iBox p 74 [.slice A2 x0b.length c3, .int .i64 ((s.1.2.2.2.1 : Nat) : Int), .int .i64 s.1.2.2.2.2] :: iOwn (tSl tyQuery 39) [.slice s.2.1 s.1.1.length s.2.2] s.1.1 :: is)) (fun s => R2 ((G11.1).toNat + 1 - 0) 0 ([], (spec_l1Below_m x0b x0 2).1, G11.1, G11.2.i, G11.2.h) = Sum.inr s.1) ?_ ?_
 ·
  refine CM_block ?_
  refine CM_loop (σ := Nat × ((List DQuery) × Int × Int × Nat × Int) × (Option Addr × Nat)) (fun s => [(0, .pointer (some (⟨p, 0, none⟩ : Addr))), (5, .slice s.2.2.1 s.2.1.1.length s.2.2.2), (6, .int .i64 s.2.1.2.1), (7, .int .i64 s.2.1.2.2.1)]) (fun s => (iBox p 74 [.slice A2 x0b.length c3, .int .i64 ((s.2.1.2.2.2.1 : Nat) : Int), .int .i64 s.2.1.2.2.2.2] :: iOwn (tSl tyQuery 39) [.slice s.2.2.1 s.2.1.1.length s.2.2.2] s.2.1.1 :: is)) (fun s => s.1 + ((s.2.1.2.2.1).toNat) + 1 ≤ (G11.1).toNat + 1 ∧ R2 ((G11.1).toNat + 1 - s.1) s.1 s.2.1 = R2 ((G11.1).toNat + 1 - 0) 0 ([], (spec_l1Below_m x0b x0 2).1, G11.1, G11.2.i, G11.2.h) ∧ s.2.1.1.length ≤ 0 + s.1 ∧ 0 ≤ s.2.1.2.2.1 ∧ s.2.1.2.2.1 ≤ 101) (fun s => (G11.1).toNat + 1 - s.1) (0, ([], (spec_l1Below_m x0b x0 2).1, G11.1, G11.2.i, G11.2.h), ((some ⟨p7, 0, none⟩), 0)) sl4 (fun W hm => hm) ⟨(show 0 + ((G11.1).toNat) + 1 ≤ (G11.1).toNat + 1 from by omega), rfl, Nat.le_refl _, (show 0 ≤ G11.1 from by omega), (show G11.1 ≤ 101 from by omega)⟩ ?_
  rintro ⟨k12, ⟨d13, s16, s17, s18, s19⟩, ⟨A14, c15⟩⟩ H22
  obtain ⟨hk20, hF21, hi23, hi24, hi25⟩ : k12 + ((s17).toNat) + 1 ≤ (G11.1).toNat + 1 ∧ R2 ((G11.1).toNat + 1 - k12) k12 (d13, s16, s17, s18, s19) = R2 ((G11.1).toNat + 1 - 0) 0 ([], (spec_l1Below_m x0b x0 2).1, G11.1, G11.2.i, G11.2.h) ∧ d13.length ≤ 0 + k12 ∧ 0 ≤ s17 ∧ s17 ≤ 101 := H22
  let I5 : It := iOwn (tSl tyQuery 39) [.slice A14 d13.length c15] d13
  show CM Try.prog 31 _ _ _ _ [(0, .pointer (some (⟨p, 0, none⟩ : Addr))), (5, .slice A14 d13.length c15), (6, .int .i64 s16), (7, .int .i64 s17)] (iBox p 74 [.slice A2 x0b.length c3, .int .i64 ((s18 : Nat) : Int), .int .i64 s19] :: I5 :: is)
  have hw1 := wrap_id (n := s17 - 1) (by omega) (by omega)
  have hw2 := wrap_id (n := x1 + 1) (by omega) (by omega)
  refine CM_seq (sr (wm ?_))
  refine wv (fun W hm => rv_gtr rfl rfl) ?_
  refine nt' ?_
  by_cases h26 : 0 < s17
  ·have g27 := decide_eq_true h26
   refine CM_condT rfl g27 ?_
   refine CM_skip (QM_then (CM_seq (CM_block (sr (wm (wm (wm ?_)))))))
   refine WM_callW (χ := List Value) (val := fun x => .agg x.toArray) (js := fun x => (iOwn tyQuery x ((spec_l4Query_m x0b (⟨s18, s19⟩ : Dl1Cur) s16).1) :: iBox p 74 [.slice A2 x0b.length c3, .int .i64 ((((spec_l4Query_m x0b (⟨s18, s19⟩ : Dl1Cur) s16).2).i : Nat) : Int), .int .i64 ((spec_l4Query_m x0b (⟨s18, s19⟩ : Dl1Cur) s16).2).h] :: (I5 :: is))) (cl_fn cb72 rfl) (fun W hm => spec_l4Query_c B w0 (I5 :: is) W p _ x0b (⟨s18, s19⟩ : Dl1Cur) r5 s16 s_0 (hm.front (n := 0) rfl)) (Wd_none rfl) (by decide) (fun z28 => ?_)
   obtain ⟨G29, hG29⟩ : ∃ G, G = (spec_l4Query_m x0b (⟨s18, s19⟩ : Dl1Cur) s16) := ⟨_, rfl⟩
   rw [← hG29]
   refine tyQuery_sp ?_
   rintro ⟨v30, v31⟩ rfl
   refine WM_form (n := 0) rfl ?_
   rintro A32 c33 rfl m34
   refine WM_form (n := 1) rfl ?_
   rintro A36 c37 rfl m38
   let K3 : List Value := [.int .i64 G29.1.Id, .int .i64 G29.1.Tenant, .slice A32 G29.1.Conds.length c33, .slice A36 G29.1.Out.length c37]
   refine WM_build (cs := K3) underlying24 type39 rfl (by decide) (by decide) rfl (by kernel_rfl) (Wd_none rfl) (by decide) (fun p40 => ?_)
   refine ap1 tyQuery 39 (.slice A14 d13.length c15) d13 G29.1 [iOwn (tSl tyCond 90) [.slice A32 G29.1.Conds.length c33] G29.1.Conds, iOwn (tSl tInt 3) [.slice A36 G29.1.Out.length c37] G29.1.Out] (iBox p 74 [.slice A2 x0b.length c3, .int .i64 ((G29.2.i : Nat) : Int), .int .i64 G29.2.h] :: is) K3 (fun W hm => ((((hm.front (n := 2) rfl).front (n := 2) rfl).front (n := 4) rfl).front (n := 3) rfl)) (fun _ _ hs => Els.single (tyQuery_join (x := G29.1) hs)) underlying24 type39 (show (d13.length + 1) * 64 ≤ 140737488355328 from by omega) (fun v41 => ?_)
   refine WM_form (n := 0) rfl ?_
   rintro A42 c43 rfl m44
   refine wa (nt' (CM_region (wm ?_)))
   refine wv vadd ?_
   refine wm ?_
   let I6 : It := iOwn (tSl tyQuery 39) [.slice A42 (d13 ++ [G29.1]).length c43] (d13 ++ [G29.1])
   refine WM_callW (χ := Unit) (val := fun x => .int .i64 ((spec_l1Below_m x0b G29.2 2).1)) (js := fun x => (iBox p 74 [.slice A2 x0b.length c3, .int .i64 ((((spec_l1Below_m x0b G29.2 2).2).i : Nat) : Int), .int .i64 ((spec_l1Below_m x0b G29.2 2).2).h] :: (I6 :: is))) (cl_fn cb41 rfl) (fun W hm => spec_l1Below_c B w0 (I6 :: is) W p _ x0b G29.2 r5 2 s_0 (hm.front (n := 1) rfl)) (Wd_none rfl) (by decide) (fun z46 => ?_)
   have hb := spec_l1Below_rng x0b G29.2 2
   refine wv vadd ?_
   refine wa (WM_nil (QM_block_normal (QM_then (CM_region (wm ?_)))))
   refine wv (fun W hm => rv_sub rfl rfl) ?_
   refine wa (WM_nil ?_)
   have hn47 := rngb_next (R := ((List DQuery) × Dl1Cur)) (body := F1) (k := k12) (s := (d13, s16, s17, s18, s19)) (s' := ((d13 ++ [G29.1]), (IntKind.i64.wrap ((IntKind.i64.wrap (s16 + 1)) + ((spec_l1Below_m x0b G29.2 2).1))), (IntKind.i64.wrap (s17 - 1)), ((spec_l1Below_m x0b G29.2 2).2).i, ((spec_l1Below_m x0b G29.2 2).2).h)) (show k12 < (G11.1).toNat + 1 from by omega) (by subst hG11 hG29; exact cond_t g27 (rfl)) hF21
   exact QM_round (k12 + 1, ((d13 ++ [G29.1]), (IntKind.i64.wrap ((IntKind.i64.wrap (s16 + 1)) + ((spec_l1Below_m x0b G29.2 2).1))), (IntKind.i64.wrap (s17 - 1)), ((spec_l1Below_m x0b G29.2 2).2).i, ((spec_l1Below_m x0b G29.2 2).2).h), (A42, c43)) sl4 (fun W hm => hm) ⟨(show (k12 + 1) + (((IntKind.i64.wrap (s17 - 1))).toNat) + 1 ≤ (G11.1).toNat + 1 from by omega), hn47, (show (d13 ++ [G29.1]).length ≤ 0 + (k12 + 1) from by first | omega | (simp only [List.length_append, List.length_cons, List.length_nil] at *; omega)), (show 0 ≤ (IntKind.i64.wrap (s17 - 1)) from by first | omega | (simp only [List.length_append, List.length_cons, List.length_nil] at *; omega)), (show (IntKind.i64.wrap (s17 - 1)) ≤ 101 from by first | omega | (simp only [List.length_append, List.length_cons, List.length_nil] at *; omega))⟩ (show (G11.1).toNat + 1 - (k12 + 1) < (G11.1).toNat + 1 - k12 from by omega)
  ·have g27 := decide_eq_false h26
   refine CM_condF rfl g27 ?_
   refine CM_exit (QM_then_exit (QM_then_exit (QM_block_hit ?_)))
   have hE48 := rngb_brk (R := ((List DQuery) × Dl1Cur)) (body := F1) (k := k12) (s := (d13, s16, s17, s18, s19)) (s' := (d13, s16, s17, s18, s19)) (show k12 < (G11.1).toNat + 1 from by omega) (by subst hG11; exact cond_f g27 (rfl)) hF21
   exact QM_cut_normal ((d13, s16, s17, s18, s19), (A14, c15)) (subL_cons rfl subL_nil) (fun W hm => hm) hE48
 ·
  rintro ⟨⟨d13, s16, s17, s18, s19⟩, ⟨A14, c15⟩⟩ H50
  have hE49 : R2 ((G11.1).toNat + 1 - 0) 0 ([], (spec_l1Below_m x0b x0 2).1, G11.1, G11.2.i, G11.2.h) = Sum.inr (d13, s16, s17, s18, s19) := H50
  show QM 31 _ _ _ .normal [(5, .slice A14 d13.length c15)] (iBox p 74 [.slice A2 x0b.length c3, .int .i64 ((s18 : Nat) : Int), .int .i64 s19] :: iOwn (tSl tyQuery 39) [.slice A14 d13.length c15] d13 :: is)
  refine QM_then (sr (wm (wa (nt' (CM_ret ?_)))))
  have he51 := (show spec_l4Queries_m x0b x0 x1 = (d13, (⟨s18, s19⟩ : Dl1Cur)) from by subst hG11; exact fin_inr hE49 (rfl))
  refine QM_r1 rfl (RR_tmp rfl) (fun W hm => ⟨.slice A14 d13.length c15, ?_, ?_⟩)
  ·first | rw [he51] | rfl
  ·rw [he51]; exact ((hm.front (n := 0) rfl).front (n := 1) rfl)

def spec_l1In_m (x0 : Int) (x1 : Int) (x2 : Int) : Bool :=
 cond (decide (x1 ≤ x0)) (decide (x0 ≤ x2)) false
theorem cb42 : Cb Try.prog 42 := ⟨f42, _, func42, rfl, by decide⟩
theorem spec_l1In_c (w : World) (x0 : Int) (x1 : Int) (x2 : Int) :
  Calls Try.prog 42 #[.int .i64 x0, .int .i64 x1, .int .i64 x2] w fun e w' => e = .returned (.bool (spec_l1In_m x0 x1 x2)) ∧ Below w.heap.size w w' := by
 refine ce3 (L := [(0, .int .i64 x0), (1, .int .i64 x1), (2, .int .i64 x2)]) (N := 15) func42 ?_
 refine sr (wa (nt' (sr (wm (wm ?_)))))
 refine wv (fun W hm => rv_geq rfl rfl) ?_
 refine wm ?_
 by_cases h1 : x1 ≤ x0
 ·have g2 := decide_eq_true h1
  refine wg vmv g2 ?_
  refine wg vmv g2 ?_
  refine wg (fun W hm => rv_leq rfl rfl) g2 ?_
  refine wv (vpT g2) ?_
  refine wa (nt' (CM_ret ?_))
  exact rtb (h := cond_t g2 (rfl))
 ·have g2 := decide_eq_false h1
  refine ws g2 ?_
  refine ws g2 ?_
  refine ws g2 ?_
  refine wv (vpF g2) ?_
  refine wa (nt' (CM_ret ?_))
  exact rtb (h := cond_f g2 (rfl))

theorem spec_l1In_fact {x a b : Int} (h : spec_l1In_m x a b = true) : a ≤ x ∧ x ≤ b := by
  unfold spec_l1In_m at h
  by_cases h1 : a ≤ x
  · rw [decide_eq_true h1] at h
    exact ⟨h1, of_decide_eq_true h⟩
  · rw [decide_eq_false h1] at h
    cases h
theorem spec_l1In_iff (x a b : Int) : spec_l1In_m x a b = decide (a ≤ x ∧ x ≤ b) := by
  unfold spec_l1In_m
  by_cases h1 : a ≤ x
  · by_cases h2 : x ≤ b
    · simp [h1, h2]
    · simp [h1, h2]
  · simp [h1]

def spec_IsCond_m (x0 : DCond) : Bool :=
 cond (spec_l1In_m x0.Field 0 2) (cond (spec_l1In_m x0.Low 0 x0.High) (decide (x0.High ≤ 99)) false) false
theorem cb82 : Cb Try.prog 82 := ⟨f82, _, func82, rfl, by decide⟩
theorem spec_IsCond_c (w : World) (z0 : List Value) (x0 : DCond) (r_0 : tyCond.rd w w.heap.size z0 x0) :
  Calls Try.prog 82 #[.agg z0.toArray] w fun e w' => e = .returned (.bool (spec_IsCond_m x0)) ∧ Below w.heap.size w w' := by
 obtain rfl := tyCond_rd r_0
 refine ce1 (L := [(0, .agg #[.int .i64 x0.Field, .int .i64 x0.Low, .int .i64 x0.High])]) (N := 18) func82 ?_
 refine sr ?_
 refine WM_box rfl (Wd_none rfl) (by decide) (fun p1 => ?_)
 refine wa (nt' (sr ?_))
 refine wv (vf underlying90 rfl type3) ?_
 refine wv (vl 0 0 underlying3) ?_
 refine wcv (cl_fn cb42 rfl) (fun W hm => spec_l1In_c W x0.Field 0 2) ?_
 refine wm ?_
 rcases Bool.eq_false_or_eq_true (spec_l1In_m x0.Field 0 2) with g3 | g3
 ·
  have hw := spec_l1In_fact g3
  refine wg (vf underlying90 rfl type3) g3 ?_
  refine wg (vl 0 1 underlying3) g3 ?_
  refine wg (vf underlying90 rfl type3) g3 ?_
  refine wg (vl 0 2 underlying3) g3 ?_
  refine WM_callV (cl_fn cb42 rfl) (fun W hm => spec_l1In_c W x0.Low 0 x0.High) (Wd_some rfl rfl rfl (bw g3 rfl)) (by decide) ?_
  refine wv (vpT g3) ?_
  refine wm ?_
  rcases Bool.eq_false_or_eq_true (spec_l1In_m x0.Low 0 x0.High) with g5 | g5
  ·
   have hw := spec_l1In_fact g5
   refine wg (vf underlying90 rfl type3) g5 ?_
   refine wg (vl 0 2 underlying3) g5 ?_
   refine wg (fun W hm => rv_leq rfl rfl) g5 ?_
   refine wv (vpT g5) ?_
   refine wa (nt' (CM_ret ?_))
   exact rtb (h := cond_t g3 (cond_t g5 (rfl)))
  ·
   refine ws g5 ?_
   refine ws g5 ?_
   refine ws g5 ?_
   refine wv (vpF g5) ?_
   refine wa (nt' (CM_ret ?_))
   exact rtb (h := cond_t g3 (cond_f g5 (rfl)))
 ·
  refine ws g3 ?_
  refine ws g3 ?_
  refine ws g3 ?_
  refine ws g3 ?_
  refine ws g3 ?_
  refine wv (vpF g3) ?_
  refine wm ?_
  refine wk ?_
  refine wk ?_
  refine wk ?_
  refine wv (vpF rfl) ?_
  refine wa (nt' (CM_ret ?_))
  exact rtb (h := cond_f g3 (rfl))

def spec_l4Fields_b1 (x0 : (List Int)) (k6 : Nat) : Bool ⊕ (Unit) :=
 cond (spec_l1In_m (gt x0 k6) 0 2) (Sum.inr ()) (Sum.inl false)
def spec_l4Fields_m (x0 : (List Int)) : Bool :=
 Sum.elim id (fun (s : Unit) => (spec_l1In_m ((x0.length : Nat) : Int) 1 3)) (rng (R := Bool) (fun k (_ : Unit) => spec_l4Fields_b1 x0 k) (x0.length - 0) 0 ())
theorem cb83 : Cb Try.prog 83 := ⟨f83, _, func83, rfl, by decide⟩
theorem spec_l4Fields_c (w : World) (z0 : Value) (x0 : (List Int)) (r_0 : rdS tInt w w.heap.size z0 x0) :
  Calls Try.prog 83 #[z0] w fun e w' => e = .returned (.bool (spec_l4Fields_m x0)) ∧ Below w.heap.size w w' := by
 obtain ⟨m1, A2, c3, rfl, q4, r5⟩ := rdS_op r_0
 refine ce1 (L := [(0, .slice A2 x0.length c3)]) (N := 19) func83 ?_
 refine sr (wa (nt' (CM_seq (sr (wa (nt' (CM_block ?_)))))))
 let F1 := fun k (_ : Unit) => spec_l4Fields_b1 x0 k
 let R2 := rng (R := Bool) F1
 refine CM_loop (σ := Nat × (Unit) × (Unit)) (fun s => [(0, .slice A2 x0.length c3), (3, .int .i64 ((s.1 : Nat) : Int))]) (fun s => []) (fun s => s.1 ≤ x0.length ∧ R2 (x0.length - s.1) s.1 s.2.1 = R2 (x0.length - 0) 0 ()) (fun s => x0.length - s.1) (0, (), ()) sl2 (fun W hm => hm) ⟨(by omega), rfl⟩ ?_
 rintro ⟨k6, ⟨⟩, ⟨⟩⟩ H9
 obtain ⟨hk7, hF8⟩ : k6 ≤ x0.length ∧ R2 (x0.length - k6) k6 () = R2 (x0.length - 0) 0 () := H9
 show CM Try.prog 19 _ _ _ _ [(0, .slice A2 x0.length c3), (3, .int .i64 ((k6 : Nat) : Int))] []
 refine CM_seq (sr (wm (wm ?_)))
 refine wv (vlen underlying37) ?_
 refine wv vlss ?_
 refine nt' ?_
 by_cases hl10 : k6 < x0.length
 ·have g11 := dlT hl10
  refine CM_condT rfl g11 ?_
  refine CM_skip (QM_then (CM_seq (CM_block (sr (wm (wm ?_))))))
  obtain ⟨a12, rfl, hb13, he14⟩ := q4 (by omega)
  refine wv (vix 1 k6 underlying37 type3) ?_
  refine wv (fun W hm => rv_load underlying3 rfl rfl ((hm.cell0 (show (a12.add (k6 * 1)).block < w.heap.size from by rw [add_block]; exact hb13.1)).trans (rdS_int he14 k6 (by omega)))) ?_
  refine wcv (cl_fn cb42 rfl) (fun W hm => spec_l1In_c W (gt x0 k6) 0 2) ?_
  refine wv vnot ?_
  refine nt' ?_
  rcases Bool.eq_false_or_eq_true (spec_l1In_m (gt x0 k6) 0 2) with g16 | g16
  ·
   have hw := spec_l1In_fact g16
   refine CM_condF rfl (nt g16) ?_
   refine CM_skip (QM_block_normal (QM_then (CM_region (wm ?_))))
   refine wv (vadN k6 1 (by omega)) ?_
   refine wa (WM_nil ?_)
   have hn17 := rng_next (R := Bool) (body := F1) (k := k6) (s := ()) (s' := ()) (show k6 < x0.length from by omega) (cond_t g16 (rfl)) hF8
   exact QM_round (k6 + 1, (), ()) sl2 (fun W hm => hm) ⟨(by omega), hn17⟩ (rl (by omega))
  ·
   refine CM_condT rfl (nf g16) ?_
   refine sr (wa (nt' (CM_ret (QM_block_ret (QM_then_ret (QM_then_ret (QM_block_ret (QM_then_ret ?_))))))))
   exact rtb (h := fin_inl (rng_ret (body := F1) (k := k6) (s := ()) (show k6 < x0.length from by omega) (cond_f g16 (rfl)) hF8) rfl)
 ·have g11 := dlF hl10
  refine CM_condF rfl g11 ?_
  refine CM_exit (QM_then_exit (QM_then_exit ?_))
  have hE18 : R2 (x0.length - 0) 0 () = Sum.inr () := rng_end hl10 hF8
  refine QM_block_hit (QM_then (sr (wm ?_)))
  refine wv (vlen underlying37) ?_
  refine wcv (cl_fn cb42 rfl) (fun W hm => spec_l1In_c W ((x0.length : Nat) : Int) 1 3) ?_
  refine wa (nt' (CM_ret ?_))
  exact rtb (h := fin_inr hE18 (rfl))

def spec_IsQuery_b1 (x0 : DQuery) (k16 : Nat) : Bool ⊕ (Unit) :=
 cond (spec_IsCond_m (gt x0.Conds k16)) (cond (decide (0 < ((k16 : Nat) : Int))) (cond (decide (((gt x0.Conds k16).Field) ≤ ((gt x0.Conds (k16 - 1)).Field))) (Sum.inl false) (Sum.inr ())) (Sum.inr ())) (Sum.inl false)
def spec_IsQuery_m (x0 : DQuery) : Bool :=
 Sum.elim id (fun (s : Unit) => cond (spec_l1In_m x0.Id 0 23) (cond (spec_l1In_m x0.Tenant 0 3) (cond (decide (((x0.Conds.length : Nat) : Int) ≤ 3)) (spec_l4Fields_m x0.Out) false) false) false) (rng (R := Bool) (fun k (_ : Unit) => spec_IsQuery_b1 x0 k) (x0.Conds.length - 0) 0 ())
theorem cb59 : Cb Try.prog 59 := ⟨f59, _, func59, rfl, by decide⟩
theorem spec_IsQuery_c (w : World) (z0 : List Value) (x0 : DQuery) (r_0 : tyQuery.rd w w.heap.size z0 x0) :
  Calls Try.prog 59 #[.agg z0.toArray] w fun e w' => e = .returned (.bool (spec_IsQuery_m x0)) ∧ Below w.heap.size w w' := by
 obtain ⟨v1, v3, rfl, r2, r4⟩ := tyQuery_rd r_0
 obtain ⟨m5, A6, c7, rfl, q8, r9⟩ := rdS_op r2
 obtain ⟨m10, A11, c12, rfl, q13, r14⟩ := rdS_op r4
 refine ce1 (L := [(0, .agg #[.int .i64 x0.Id, .int .i64 x0.Tenant, .slice A6 x0.Conds.length c7, .slice A11 x0.Out.length c12])]) (N := 57) func59 ?_
 refine sr ?_
 refine WM_box rfl (Wd_none rfl) (by decide) (fun p15 => ?_)
 refine wa (nt' (CM_seq (sr (wa (nt' (CM_block ?_))))))
 let F1 := fun k (_ : Unit) => spec_IsQuery_b1 x0 k
 let R2 := rng (R := Bool) F1
 let K3 : List Value := [.int .i64 x0.Id, .int .i64 x0.Tenant, .slice A6 x0.Conds.length c7, .slice A11 x0.Out.length c12]
 refine CM_loop (σ := Nat × (Unit) × (Unit)) (fun s => [(1, .pointer (some (⟨p15, 0, none⟩ : Addr))), (3, .int .i64 ((s.1 : Nat) : Int))]) (fun s => [iBox p15 39 K3]) (fun s => s.1 ≤ x0.Conds.length ∧ R2 (x0.Conds.length - s.1) s.1 s.2.1 = R2 (x0.Conds.length - 0) 0 ()) (fun s => x0.Conds.length - s.1) (0, (), ()) sl2 (fun W hm => hm) ⟨(by omega), rfl⟩ ?_
 rintro ⟨k16, ⟨⟩, ⟨⟩⟩ H19
 obtain ⟨hk17, hF18⟩ : k16 ≤ x0.Conds.length ∧ R2 (x0.Conds.length - k16) k16 () = R2 (x0.Conds.length - 0) 0 () := H19
 show CM Try.prog 57 _ _ _ _ [(1, .pointer (some (⟨p15, 0, none⟩ : Addr))), (3, .int .i64 ((k16 : Nat) : Int))] [iBox p15 39 K3]
 refine CM_seq (sr (wm ?_))
 refine wv (vf underlying39 rfl type36) ?_
 refine wv (vl 0 2 underlying36) ?_
 refine wv (vlen underlying36) ?_
 refine wv vlss ?_
 refine nt' ?_
 by_cases hl20 : k16 < x0.Conds.length
 ·have g21 := dlT hl20
  refine CM_condT rfl g21 ?_
  refine CM_skip (QM_then (CM_seq (CM_block (CM_seq ?_))))
  refine CM_regionD (by kernel_rfl) (by kernel_rfl) ?_
  refine qv (vf underlying39 rfl type36) ?_
  refine qv (vl 0 2 underlying36) ?_
  refine qm ?_
  obtain ⟨a22, rfl, hb23, he24⟩ := q8 (by omega)
  refine qv (vix 3 k16 underlying36 type90) ?_
  obtain ⟨_, e26, hc25⟩ := he24 k16 _ (gt_some (show k16 < x0.Conds.length from by omega))
  obtain rfl := tyCond_rd e26
  refine qv (fun W hm => rv_loadN (cs := [.int .i64 ((gt x0.Conds k16).Field), .int .i64 ((gt x0.Conds k16).Low), .int .i64 ((gt x0.Conds k16).High)]) underlying90 type90 rfl rfl (hm.elCells (show (a22.add (k16 * 3)).block < w.heap.size from by rw [add_block]; exact hb23.1) hc25)) ?_
  refine QR_callV (cl_fn cb82 rfl) (fun W hm => spec_IsCond_c W _ (gt x0.Conds k16) (tyCond_mk (x := (gt x0.Conds k16)))) (Wd_none rfl) (by decide) ?_
  refine qv vnot ?_
  refine qm ?_
  rcases Bool.eq_false_or_eq_true (spec_IsCond_m (gt x0.Conds k16)) with g28 | g28
  ·
   refine qg vmv (nt g28) ?_
   refine qg (fun W hm => rv_gtr rfl rfl) (nt g28) ?_
   refine qg vmv (nt g28) ?_
   by_cases h29 : 0 < ((k16 : Nat) : Int)
   ·have g30 := decide_eq_true h29
    refine qg (vf underlying39 rfl type36) g30 ?_
    refine qg (vl 0 2 underlying36) g30 ?_
    refine qg vmv g30 ?_
    refine qg (vix 3 k16 underlying36 type90) g30 ?_
    refine qg (vf underlying90 rfl type3) g30 ?_
    refine qg (fun W hm => rv_load underlying3 rfl rfl ((hm.cell0 (show ((a22.add (k16 * 3)).add 0).block < w.heap.size from by rw [add_block, add_block]; exact hb23.1)).trans (hc25 0 _ rfl))) g30 ?_
    refine qg (vf underlying39 rfl type36) g30 ?_
    refine qg (vl 0 2 underlying36) g30 ?_
    refine qg vmv g30 ?_
    refine qg (fun W hm => rv_subN (p := k16) (q := 1) rfl rfl (by omega) (by omega)) g30 ?_
    refine qg (fun W hm => rv_index (sz := 3) (k := k16 - 1) underlying36 type90 rfl rfl rfl (by omega)) g30 ?_
    refine qg (vf underlying90 rfl type3) g30 ?_
    obtain ⟨_, e32, hc31⟩ := he24 (k16 - 1) _ (gt_some (show (k16 - 1) < x0.Conds.length from by omega))
    obtain rfl := tyCond_rd e32
    refine qg (fun W hm => rv_load underlying3 rfl rfl ((hm.cell0 (show ((a22.add ((k16 - 1) * 3)).add 0).block < w.heap.size from by rw [add_block, add_block]; exact hb23.1)).trans (hc31 0 _ rfl))) g30 ?_
    refine qg (fun W hm => rv_leq rfl rfl) g30 ?_
    refine qg (vpT g30) (nt g28) ?_
    refine qv (vpF (nt g28)) ?_
    refine nq' ?_
    by_cases h33 : ((gt x0.Conds k16).Field) ≤ ((gt x0.Conds (k16 - 1)).Field)
    ·have g34 := decide_eq_true h33
     refine CM_condT rfl g34 ?_
     refine sr (wa (nt' (CM_ret (QM_block_ret (QM_then_ret (QM_then_ret (QM_block_ret (QM_then_ret ?_))))))))
     exact rtb (h := fin_inl (rng_ret (body := F1) (k := k16) (s := ()) (show k16 < x0.Conds.length from by omega) (cond_t g28 (cond_t g30 (cond_t g34 (rfl)))) hF18) rfl)
    ·have g34 := decide_eq_false h33
     refine CM_condF rfl g34 ?_
     refine CM_skip (QM_block_normal (QM_then (CM_region (wm ?_))))
     refine wv (vadN k16 1 (by omega)) ?_
     refine wa (WM_nil ?_)
     have hn35 := rng_next (R := Bool) (body := F1) (k := k16) (s := ()) (s' := ()) (show k16 < x0.Conds.length from by omega) (cond_t g28 (cond_t g30 (cond_f g34 (rfl)))) hF18
     exact QM_round (k16 + 1, (), ()) sl2 (fun W hm => hm) ⟨(by omega), hn35⟩ (rl (by omega))
   ·have g30 := decide_eq_false h29
    refine qs g30 ?_
    refine qs g30 ?_
    refine qs g30 ?_
    refine qs g30 ?_
    refine qs g30 ?_
    refine qs g30 ?_
    refine qs g30 ?_
    refine qs g30 ?_
    refine qs g30 ?_
    refine qs g30 ?_
    refine qs g30 ?_
    refine qs g30 ?_
    refine qs g30 ?_
    refine qs g30 ?_
    refine qg (vpF g30) (nt g28) ?_
    refine qv (vpF (nt g28)) ?_
    refine nq' ?_
    refine CM_condF rfl rfl ?_
    refine CM_skip (QM_block_normal (QM_then (CM_region (wm ?_))))
    refine wv (vadN k16 1 (by omega)) ?_
    refine wa (WM_nil ?_)
    have hn36 := rng_next (R := Bool) (body := F1) (k := k16) (s := ()) (s' := ()) (show k16 < x0.Conds.length from by omega) (cond_t g28 (cond_f g30 (rfl))) hF18
    exact QM_round (k16 + 1, (), ()) sl2 (fun W hm => hm) ⟨(by omega), hn36⟩ (rl (by omega))
  ·
   refine qs (nf g28) ?_
   refine qs (nf g28) ?_
   refine qs (nf g28) ?_
   refine qu ?_
   refine qu ?_
   refine qu ?_
   refine qu ?_
   refine qu ?_
   refine qu ?_
   refine qu ?_
   refine qu ?_
   refine qu ?_
   refine qu ?_
   refine qu ?_
   refine qu ?_
   refine qu ?_
   refine qu ?_
   refine qs (nf g28) ?_
   refine qv (vpT (nf g28)) ?_
   refine nq' ?_
   refine CM_condT rfl rfl ?_
   refine sr (wa (nt' (CM_ret (QM_block_ret (QM_then_ret (QM_then_ret (QM_block_ret (QM_then_ret ?_))))))))
   exact rtb (h := fin_inl (rng_ret (body := F1) (k := k16) (s := ()) (show k16 < x0.Conds.length from by omega) (cond_f g28 (rfl)) hF18) rfl)
 ·have g21 := dlF hl20
  refine CM_condF rfl g21 ?_
  refine CM_exit (QM_then_exit (QM_then_exit ?_))
  have hE37 : R2 (x0.Conds.length - 0) 0 () = Sum.inr () := rng_end hl20 hF18
  refine QM_block_hit (QM_then (sr ?_))
  refine wv (vf underlying39 rfl type3) ?_
  refine wv (vl 0 0 underlying3) ?_
  refine wcv (cl_fn cb42 rfl) (fun W hm => spec_l1In_c W x0.Id 0 23) ?_
  refine wm ?_
  rcases Bool.eq_false_or_eq_true (spec_l1In_m x0.Id 0 23) with g39 | g39
  ·
   have hw := spec_l1In_fact g39
   refine wg (vf underlying39 rfl type3) g39 ?_
   refine wg (vl 0 1 underlying3) g39 ?_
   refine WM_callV (cl_fn cb42 rfl) (fun W hm => spec_l1In_c W x0.Tenant 0 3) (Wd_some rfl rfl rfl (bw g39 rfl)) (by decide) ?_
   refine wv (vpT g39) ?_
   refine wm ?_
   rcases Bool.eq_false_or_eq_true (spec_l1In_m x0.Tenant 0 3) with g41 | g41
   ·
    have hw := spec_l1In_fact g41
    refine wg (vf underlying39 rfl type36) g41 ?_
    refine wg (vl 0 2 underlying36) g41 ?_
    refine wg (vlen underlying36) g41 ?_
    refine wg (fun W hm => rv_leq rfl rfl) g41 ?_
    refine wv (vpT g41) ?_
    refine wm ?_
    by_cases h42 : ((x0.Conds.length : Nat) : Int) ≤ 3
    ·have g43 := decide_eq_true h42
     refine wg (vf underlying39 rfl type37) g43 ?_
     refine wg (vl 0 3 underlying37) g43 ?_
     refine WM_callV (cl_fn cb83 rfl) (fun W hm => spec_l4Fields_c W _ x0.Out (hm.rdS0 r14)) (Wd_some rfl rfl rfl (bw g43 rfl)) (by decide) ?_
     refine wv (vpT g43) ?_
     refine wa (nt' (CM_ret ?_))
     exact rtb (h := fin_inr hE37 (cond_t g39 (cond_t g41 (cond_t g43 (rfl)))))
    ·have g43 := decide_eq_false h42
     refine ws g43 ?_
     refine ws g43 ?_
     refine ws g43 ?_
     refine wv (vpF g43) ?_
     refine wa (nt' (CM_ret ?_))
     exact rtb (h := fin_inr hE37 (cond_t g39 (cond_t g41 (cond_f g43 (rfl)))))
   ·
    refine ws g41 ?_
    refine ws g41 ?_
    refine ws g41 ?_
    refine ws g41 ?_
    refine wv (vpF g41) ?_
    refine wm ?_
    refine wk ?_
    refine wk ?_
    refine wk ?_
    refine wv (vpF rfl) ?_
    refine wa (nt' (CM_ret ?_))
    exact rtb (h := fin_inr hE37 (cond_t g39 (cond_f g41 (rfl))))
  ·
   refine ws g39 ?_
   refine ws g39 ?_
   refine ws g39 ?_
   refine wv (vpF g39) ?_
   refine wm ?_
   refine wk ?_
   refine wk ?_
   refine wk ?_
   refine wk ?_
   refine wv (vpF rfl) ?_
   refine wm ?_
   refine wk ?_
   refine wk ?_
   refine wk ?_
   refine wv (vpF rfl) ?_
   refine wa (nt' (CM_ret ?_))
   exact rtb (h := fin_inr hE37 (cond_f g39 (rfl)))

def spec_AreQueries_b1 (x0 : (List DQuery)) (k6 : Nat) : Bool ⊕ (Unit) :=
 cond (spec_IsQuery_m (gt x0 k6)) (cond (decide (0 < ((k6 : Nat) : Int))) (cond (decide (((gt x0 k6).Id) ≤ ((gt x0 (k6 - 1)).Id))) (Sum.inl false) (Sum.inr ())) (Sum.inr ())) (Sum.inl false)
def spec_AreQueries_m (x0 : (List DQuery)) : Bool :=
 Sum.elim id (fun (s : Unit) => (decide (((x0.length : Nat) : Int) ≤ 24))) (rng (R := Bool) (fun k (_ : Unit) => spec_AreQueries_b1 x0 k) (x0.length - 0) 0 ())
theorem cb32 : Cb Try.prog 32 := ⟨f32, _, func32, rfl, by decide⟩
theorem spec_AreQueries_c (w : World) (z0 : Value) (x0 : (List DQuery)) (r_0 : rdS tyQuery w w.heap.size z0 x0) :
  Calls Try.prog 32 #[z0] w fun e w' => e = .returned (.bool (spec_AreQueries_m x0)) ∧ Below w.heap.size w w' := by
 obtain ⟨m1, A2, c3, rfl, q4, r5⟩ := rdS_op r_0
 refine ce1 (L := [(0, .slice A2 x0.length c3)]) (N := 37) func32 ?_
 refine sr (wa (nt' (CM_seq (sr (wa (nt' (CM_block ?_)))))))
 let F1 := fun k (_ : Unit) => spec_AreQueries_b1 x0 k
 let R2 := rng (R := Bool) F1
 refine CM_loop (σ := Nat × (Unit) × (Unit)) (fun s => [(0, .slice A2 x0.length c3), (3, .int .i64 ((s.1 : Nat) : Int))]) (fun s => []) (fun s => s.1 ≤ x0.length ∧ R2 (x0.length - s.1) s.1 s.2.1 = R2 (x0.length - 0) 0 ()) (fun s => x0.length - s.1) (0, (), ()) sl2 (fun W hm => hm) ⟨(by omega), rfl⟩ ?_
 rintro ⟨k6, ⟨⟩, ⟨⟩⟩ H9
 obtain ⟨hk7, hF8⟩ : k6 ≤ x0.length ∧ R2 (x0.length - k6) k6 () = R2 (x0.length - 0) 0 () := H9
 show CM Try.prog 37 _ _ _ _ [(0, .slice A2 x0.length c3), (3, .int .i64 ((k6 : Nat) : Int))] []
 refine CM_seq (sr (wm (wm ?_)))
 refine wv (vlen underlying24) ?_
 refine wv vlss ?_
 refine nt' ?_
 by_cases hl10 : k6 < x0.length
 ·have g11 := dlT hl10
  refine CM_condT rfl g11 ?_
  refine CM_skip (QM_then (CM_seq (CM_block (CM_seq ?_))))
  refine CM_regionD (by kernel_rfl) (by kernel_rfl) ?_
  refine qm (qm ?_)
  obtain ⟨a12, rfl, hb13, he14⟩ := q4 (by omega)
  refine qv (vix 4 k6 underlying24 type39) ?_
  obtain ⟨_, e20, hc15⟩ := he14 k6 _ (gt_some (show k6 < x0.length from by omega))
  obtain ⟨v16, v18, rfl, r17, r19⟩ := tyQuery_rd e20
  obtain ⟨m21, A22, c23, rfl, q24, r25⟩ := rdS_op r17
  obtain ⟨m26, A27, c28, rfl, q29, r30⟩ := rdS_op r19
  refine qv (fun W hm => rv_loadN (cs := [.int .i64 ((gt x0 k6).Id), .int .i64 ((gt x0 k6).Tenant), .slice A22 ((gt x0 k6).Conds).length c23, .slice A27 ((gt x0 k6).Out).length c28]) underlying39 type39 rfl rfl (hm.elCells (show (a12.add (k6 * 4)).block < w.heap.size from by rw [add_block]; exact hb13.1) hc15)) ?_
  refine QR_callV (cl_fn cb59 rfl) (fun W hm => spec_IsQuery_c W _ (gt x0 k6) (tyQuery_mk (x := (gt x0 k6)) (hm.rdS0 r25) (hm.rdS0 r30))) (Wd_none rfl) (by decide) ?_
  refine qv vnot ?_
  refine qm ?_
  rcases Bool.eq_false_or_eq_true (spec_IsQuery_m (gt x0 k6)) with g32 | g32
  ·
   refine qg vmv (nt g32) ?_
   refine qg (fun W hm => rv_gtr rfl rfl) (nt g32) ?_
   refine qg vmv (nt g32) ?_
   by_cases h33 : 0 < ((k6 : Nat) : Int)
   ·have g34 := decide_eq_true h33
    refine qg vmv g34 ?_
    refine qg vmv g34 ?_
    refine qg (vix 4 k6 underlying24 type39) g34 ?_
    refine qg (vf underlying39 rfl type3) g34 ?_
    refine qg (fun W hm => rv_load underlying3 rfl rfl ((hm.cell0 (show ((a12.add (k6 * 4)).add 0).block < w.heap.size from by rw [add_block, add_block]; exact hb13.1)).trans (hc15 0 _ rfl))) g34 ?_
    refine qg vmv g34 ?_
    refine qg vmv g34 ?_
    refine qg (fun W hm => rv_subN (p := k6) (q := 1) rfl rfl (by omega) (by omega)) g34 ?_
    refine qg (fun W hm => rv_index (sz := 4) (k := k6 - 1) underlying24 type39 rfl rfl rfl (by omega)) g34 ?_
    refine qg (vf underlying39 rfl type3) g34 ?_
    obtain ⟨_, e40, hc35⟩ := he14 (k6 - 1) _ (gt_some (show (k6 - 1) < x0.length from by omega))
    obtain ⟨v36, v38, rfl, r37, r39⟩ := tyQuery_rd e40
    obtain ⟨m41, A42, c43, rfl, q44, r45⟩ := rdS_op r37
    obtain ⟨m46, A47, c48, rfl, q49, r50⟩ := rdS_op r39
    refine qg (fun W hm => rv_load underlying3 rfl rfl ((hm.cell0 (show ((a12.add ((k6 - 1) * 4)).add 0).block < w.heap.size from by rw [add_block, add_block]; exact hb13.1)).trans (hc35 0 _ rfl))) g34 ?_
    refine qg (fun W hm => rv_leq rfl rfl) g34 ?_
    refine qg (vpT g34) (nt g32) ?_
    refine qv (vpF (nt g32)) ?_
    refine nq' ?_
    by_cases h51 : ((gt x0 k6).Id) ≤ ((gt x0 (k6 - 1)).Id)
    ·have g52 := decide_eq_true h51
     refine CM_condT rfl g52 ?_
     refine sr (wa (nt' (CM_ret (QM_block_ret (QM_then_ret (QM_then_ret (QM_block_ret (QM_then_ret ?_))))))))
     exact rtb (h := fin_inl (rng_ret (body := F1) (k := k6) (s := ()) (show k6 < x0.length from by omega) (cond_t g32 (cond_t g34 (cond_t g52 (rfl)))) hF8) rfl)
    ·have g52 := decide_eq_false h51
     refine CM_condF rfl g52 ?_
     refine CM_skip (QM_block_normal (QM_then (CM_region (wm ?_))))
     refine wv (vadN k6 1 (by omega)) ?_
     refine wa (WM_nil ?_)
     have hn53 := rng_next (R := Bool) (body := F1) (k := k6) (s := ()) (s' := ()) (show k6 < x0.length from by omega) (cond_t g32 (cond_t g34 (cond_f g52 (rfl)))) hF8
     exact QM_round (k6 + 1, (), ()) sl2 (fun W hm => hm) ⟨(by omega), hn53⟩ (rl (by omega))
   ·have g34 := decide_eq_false h33
    refine qs g34 ?_
    refine qs g34 ?_
    refine qs g34 ?_
    refine qs g34 ?_
    refine qs g34 ?_
    refine qs g34 ?_
    refine qs g34 ?_
    refine qs g34 ?_
    refine qs g34 ?_
    refine qs g34 ?_
    refine qs g34 ?_
    refine qs g34 ?_
    refine qg (vpF g34) (nt g32) ?_
    refine qv (vpF (nt g32)) ?_
    refine nq' ?_
    refine CM_condF rfl rfl ?_
    refine CM_skip (QM_block_normal (QM_then (CM_region (wm ?_))))
    refine wv (vadN k6 1 (by omega)) ?_
    refine wa (WM_nil ?_)
    have hn54 := rng_next (R := Bool) (body := F1) (k := k6) (s := ()) (s' := ()) (show k6 < x0.length from by omega) (cond_t g32 (cond_f g34 (rfl))) hF8
    exact QM_round (k6 + 1, (), ()) sl2 (fun W hm => hm) ⟨(by omega), hn54⟩ (rl (by omega))
  ·
   refine qs (nf g32) ?_
   refine qs (nf g32) ?_
   refine qs (nf g32) ?_
   refine qu ?_
   refine qu ?_
   refine qu ?_
   refine qu ?_
   refine qu ?_
   refine qu ?_
   refine qu ?_
   refine qu ?_
   refine qu ?_
   refine qu ?_
   refine qu ?_
   refine qu ?_
   refine qs (nf g32) ?_
   refine qv (vpT (nf g32)) ?_
   refine nq' ?_
   refine CM_condT rfl rfl ?_
   refine sr (wa (nt' (CM_ret (QM_block_ret (QM_then_ret (QM_then_ret (QM_block_ret (QM_then_ret ?_))))))))
   exact rtb (h := fin_inl (rng_ret (body := F1) (k := k6) (s := ()) (show k6 < x0.length from by omega) (cond_f g32 (rfl)) hF8) rfl)
 ·have g11 := dlF hl10
  refine CM_condF rfl g11 ?_
  refine CM_exit (QM_then_exit (QM_then_exit ?_))
  have hE55 : R2 (x0.length - 0) 0 () = Sum.inr () := rng_end hl10 hF8
  refine QM_block_hit (QM_then (sr (wm ?_)))
  refine wv (vlen underlying24) ?_
  refine wv (fun W hm => rv_leq rfl rfl) ?_
  refine wa (nt' (CM_ret ?_))
  exact rtb (h := fin_inr hE55 (rfl))

def spec_l6Query_m (x0 : DQuery) : DQuery :=
 x0
theorem cb85 : Cb Try.prog 85 := ⟨f85, _, func85, rfl, by decide⟩
theorem spec_l6Query_c (w : World) (z0 : List Value) (x0 : DQuery) (r_0 : tyQuery.rd w w.heap.size z0 x0) (s_0 : smQuery 68719476736 x0) :
  Calls Try.prog 85 #[.agg z0.toArray] w fun e w' => ∃ v : List Value, e = .returned (.agg v.toArray) ∧ Mem w.heap.size w [iOwn tyQuery v (spec_l6Query_m x0)] w' := by
 obtain ⟨v1, v3, rfl, r2, r4⟩ := tyQuery_rd r_0
 obtain ⟨m5, A6, c7, rfl, q8, r9⟩ := rdS_op r2
 obtain ⟨m10, A11, c12, rfl, q13, r14⟩ := rdS_op r4
 have l15 : x0.Conds.length ≤ 68719476736 := s_0.1
 have l16 : x0.Out.length ≤ 68719476736 := s_0.2
 refine ce1 (L := [(0, .agg #[.int .i64 x0.Id, .int .i64 x0.Tenant, .slice A6 x0.Conds.length c7, .slice A11 x0.Out.length c12])]) (N := 16) func85 ?_
 refine sr ?_
 refine WM_box rfl (Wd_none rfl) (by decide) (fun p17 => ?_)
 refine WM_alloc type39 rfl (Wd_none rfl) (by decide) (fun p18 => ?_)
 refine nt' (CM_seq ?_)
 let K1 : List Value := [.int .i64 x0.Id, .int .i64 x0.Tenant, .slice A6 x0.Conds.length c7, .slice A11 x0.Out.length c12]
 let K2 : List Value := [.int .i64 0, .int .i64 0, .slice none 0 0, .slice none 0 0]
 refine rd2 14 [13] (s := [iBox p17 39 K1]) (s2 := [iBox p18 39 K2, iBox p17 39 K1]) (pk [1]) (fun W hm => hm) ?_
 refine QD_mid (σ := Option Addr × Nat × Nat) (fun s => [iBox p18 39 K2, iBox p17 39 K1]) 14 2047 3 (fun s => [(2, .pointer (some (⟨p18, 0, none⟩ : Addr))), (4, .int .i64 x0.Id), (6, .int .i64 x0.Tenant), (13, .slice A11 x0.Out.length c12), (10, .slice s.1 x0.Conds.length s.2.1), (11, .slice (some ⟨s.2.2, 0, none⟩) 0 0)]) (fun s => [iOwn (tSl tInt 3) [.slice (some ⟨s.2.2, 0, none⟩) 0 0] [], iOwn (tSl tyCond 90) [.slice s.1 x0.Conds.length s.2.1] x0.Conds, iBox p18 39 K2, iBox p17 39 K1]) ?_ (fun H => ?_)
 ·
  rintro ⟨A22, c23, p26⟩
  let I4 : It := iOwn (tSl tyCond 90) [.slice A22 x0.Conds.length c23] x0.Conds
  show QD _ _ _ _ _ _ _ _ [(2, .pointer (some (⟨p18, 0, none⟩ : Addr))), (4, .int .i64 x0.Id), (6, .int .i64 x0.Tenant), (13, .slice A11 x0.Out.length c12), (10, .slice A22 x0.Conds.length c23), (11, .slice (some ⟨p26, 0, none⟩) 0 0)] _ [iBox p18 39 K2, iBox p17 39 K1] _ [iOwn (tSl tInt 3) [.slice (some ⟨p26, 0, none⟩) 0 0] [], I4, iBox p18 39 K2, iBox p17 39 K1]
  refine QD_len (n := 0) rfl ?_
  intro m28 m29
  refine QD_len (n := 1) rfl ?_
  intro m30 m31
  refine qoD 14 11 4095 rfl ?_
  refine apR tInt tInt 3 (.slice (some ⟨p26, 0, none⟩) 0 0) [] x0.Out [I4, iBox p18 39 K2, iBox p17 39 K1] (fun W hm => hm) (fun W hm => src_flat flat_int (hm.rdS0 r14)) underlying37 type3 (show (0 + x0.Out.length) * 8 ≤ 140737488355328 from by omega) (fun v32 => ?_)
  refine WM_form (n := 0) rfl ?_
  rintro A33 c34 rfl m35
  refine qnD (pk [3]) (pk [2, 3]) ?_
  let K3 : List Value := [.int .i64 x0.Id, .int .i64 x0.Tenant, .slice A22 x0.Conds.length c23, .slice A33 x0.Out.length c34]
  refine qtD 14 12 8191 rfl (fun W hm => rv_build (cs := K3) rfl (by kernel_rfl)) ?_
  refine qoD 14 13 16383 rfl ?_
  let I5 : It := iOwn (tSl tInt 3) [.slice A33 x0.Out.length c34] x0.Out
  refine sb 0 K3 [I5, I4, iBox p17 39 K1] (pk [2, 0, 1, 3]) type39 ?_
  refine qxD (pk [3]) ?_
  refine QB_done (by kernel_rfl) ?_
  refine QM_then (CM_ret ?_)
  have he37 := (show spec_l6Query_m x0 = x0 from rfl)
  refine QM_r1 rfl (RR_cell (n := 0) rfl rfl underlying39 type39 rfl) (fun W hm => ⟨K3, ?_, ?_⟩)
  ·first | rw [he37] | rfl
  ·rw [he37]; exact Mem.join (is := [I4, I5]) (js := []) (fun _ _ hs => tyQuery_join (x := x0) hs) (hm.pick [2, 1] (by decide))
 ·
  refine qtD 14 0 1 rfl (vf underlying39 rfl type3) ?_
  refine qtD 14 1 3 rfl (vl 1 0 underlying3) ?_
  refine qtD 14 2 7 rfl (vf underlying39 rfl type3) ?_
  refine qtD 14 3 15 rfl (vl 1 1 underlying3) ?_
  refine qtD 14 5 47 rfl (vf underlying39 rfl type36) ?_
  refine qtD 14 6 111 rfl (vl 1 2 underlying36) ?_
  refine qtD 14 9 623 rfl (vf underlying39 rfl type37) ?_
  refine qtD 14 10 1647 rfl (vl 1 3 underlying37) ?_
  refine qaD [4, 8] ?_
  refine qcD 14 1663 rfl ?_ ?_
  ·
   refine WM_build0 (E := tyCond) underlying36 type90 (Wd_none rfl) (by decide) (fun p38 => ?_)
   refine qnD (pk [2]) (pk [1, 2]) ?_
   refine qaD [7, 8] ?_
   refine qcD 14 1791 rfl ?_ ?_
   ·
    refine apR tyCond tyCond 90 (.slice (some ⟨p38, 0, none⟩) 0 0) [] x0.Conds [iBox p18 39 K2, iBox p17 39 K1] (fun W hm => hm) (fun W hm => src_flat (flat_map (flat_pair flat_int (flat_pair flat_int flat_int))) (hm.rdS0 r9)) underlying36 type90 (show (0 + x0.Conds.length) * 24 ≤ 140737488355328 from by omega) (fun v40 => ?_)
    refine WM_form (n := 0) rfl ?_
    rintro A41 c42 rfl m43
    refine qnD (pk [2]) (pk [1, 2]) ?_
    refine qoD 14 8 2047 rfl ?_
    refine WM_build0 (E := tInt) underlying37 type3 (Wd_none rfl) (by decide) (fun p45 => ?_)
    refine qnD (pk [3]) (pk [2, 3]) ?_
    exact QD_sub sl6 (fun W hm => hm) (H (A41, c42, p45))
   refine qcD 14 1919 rfl ?_ ?_
   ·
    refine WM_build0 (E := tInt) underlying37 type3 (Wd_none rfl) (by decide) (fun p47 => ?_)
    refine qnD (pk [3]) (pk [2, 3]) ?_
    refine qoD 14 7 2047 rfl ?_
    refine apR tyCond tyCond 90 (.slice (some ⟨p38, 0, none⟩) 0 0) [] x0.Conds [iOwn (tSl tInt 3) [.slice (some ⟨p47, 0, none⟩) 0 0] [], iBox p18 39 K2, iBox p17 39 K1] (pk [1, 0, 2, 3]) (fun W hm => src_flat (flat_map (flat_pair flat_int (flat_pair flat_int flat_int))) (hm.rdS0 r9)) underlying36 type90 (show (0 + x0.Conds.length) * 24 ≤ 140737488355328 from by omega) (fun v49 => ?_)
    refine WM_form (n := 0) rfl ?_
    rintro A50 c51 rfl m52
    refine qnD (pk [3]) (pk [2, 3]) ?_
    exact QD_sub sl6 (pk [1, 0, 2, 3]) (H (A50, c51, p47))
   exact QDs_nil
  refine qcD 14 1903 rfl ?_ ?_
  ·
   refine WM_build0 (E := tInt) underlying37 type3 (Wd_none rfl) (by decide) (fun p54 => ?_)
   refine qnD (pk [2]) (pk [1, 2]) ?_
   refine qoD 14 4 1919 rfl ?_
   refine WM_build0 (E := tyCond) underlying36 type90 (Wd_none rfl) (by decide) (fun p56 => ?_)
   refine qnD (pk [3]) (pk [2, 3]) ?_
   refine qoD 14 7 2047 rfl ?_
   refine apR tyCond tyCond 90 (.slice (some ⟨p56, 0, none⟩) 0 0) [] x0.Conds [iOwn (tSl tInt 3) [.slice (some ⟨p54, 0, none⟩) 0 0] [], iBox p18 39 K2, iBox p17 39 K1] (fun W hm => hm) (fun W hm => src_flat (flat_map (flat_pair flat_int (flat_pair flat_int flat_int))) (hm.rdS0 r9)) underlying36 type90 (show (0 + x0.Conds.length) * 24 ≤ 140737488355328 from by omega) (fun v58 => ?_)
   refine WM_form (n := 0) rfl ?_
   rintro A59 c60 rfl m61
   refine qnD (pk [3]) (pk [2, 3]) ?_
   exact QD_sub sl6 (pk [1, 0, 2, 3]) (H (A59, c60, p54))
  exact QDs_nil
theorem spec_l6Query_eq (x0 : DQuery) : spec_l6Query_m x0 = x0 := by
 rfl
theorem spec_l6Query_c2 (w : World) (z0 : List Value) (x0 : DQuery) (r_0 : tyQuery.rd w w.heap.size z0 x0) (s_0 : smQuery 68719476736 x0) :
  Calls Try.prog 85 #[.agg z0.toArray] w fun e w' => ∃ v : List Value, e = .returned (.agg v.toArray) ∧ Mem w.heap.size w [iOwn tyQuery v x0] w' := by
 have h := spec_l6Query_c w z0 x0 r_0 s_0
 rw [spec_l6Query_eq] at h
 exact h

def spec_l6Queries_b1 (x0 : (List DQuery)) (k9 : Nat) (d10 : (List DQuery)) : (List DQuery) ⊕ ((List DQuery)) :=
 Sum.inr (d10 ++ [(gt x0 k9)])
def spec_l6Queries_m (x0 : (List DQuery)) : (List DQuery) :=
 Sum.elim id (fun (s : (List DQuery)) => s) (rng (R := (List DQuery)) (fun k (s : (List DQuery)) => spec_l6Queries_b1 x0 k s) (x0.length - 0) 0 [])
theorem cb71 : Cb Try.prog 71 := ⟨f71, _, func71, rfl, by decide⟩
theorem spec_l6Queries_c (w : World) (z0 : Value) (x0 : (List DQuery)) (r_0 : rdS tyQuery w w.heap.size z0 x0) (s_0 : (x0.length ≤ 68719476736 ∧ ∀ y ∈ x0, smQuery 68719476736 y)) :
  Calls Try.prog 71 #[z0] w fun e w' => ∃ v : Value, e = .returned (v) ∧ Mem w.heap.size w [iOwn (tSl tyQuery 39) [v] (spec_l6Queries_m x0)] w' := by
 obtain ⟨m1, A2, c3, rfl, q4, r5⟩ := rdS_op r_0
 have l6 : x0.length ≤ 68719476736 := s_0.1
 refine ce1 (L := [(0, .slice A2 x0.length c3)]) (N := 23) func71 ?_
 refine sr (wa (nt' (sr ?_)))
 refine WM_build0 (E := tyQuery) underlying24 type39 (Wd_none rfl) (by decide) (fun p7 => ?_)
 refine wa (nt' (CM_seq (sr (wa (nt' (CM_block ?_))))))
 let F1 := fun k (s : (List DQuery)) => spec_l6Queries_b1 x0 k s
 let R2 := rng (R := (List DQuery)) F1
 refine CM_loop (σ := Nat × ((List DQuery)) × (Option Addr × Nat)) (fun s => [(0, .slice A2 x0.length c3), (3, .slice s.2.2.1 s.2.1.length s.2.2.2), (4, .int .i64 ((s.1 : Nat) : Int))]) (fun s => [iOwn (tSl tyQuery 39) [.slice s.2.2.1 s.2.1.length s.2.2.2] s.2.1]) (fun s => s.1 ≤ x0.length ∧ R2 (x0.length - s.1) s.1 s.2.1 = R2 (x0.length - 0) 0 [] ∧ s.2.1.length ≤ 0 + s.1) (fun s => x0.length - s.1) (0, [], ((some ⟨p7, 0, none⟩), 0)) sl3 (fun W hm => hm) ⟨(by omega), rfl, Nat.le_refl _⟩ ?_
 rintro ⟨k9, d10, ⟨A11, c12⟩⟩ H15
 obtain ⟨hk13, hF14, hi16⟩ : k9 ≤ x0.length ∧ R2 (x0.length - k9) k9 d10 = R2 (x0.length - 0) 0 [] ∧ d10.length ≤ 0 + k9 := H15
 let I4 : It := iOwn (tSl tyQuery 39) [.slice A11 d10.length c12] d10
 show CM Try.prog 23 _ _ _ _ [(0, .slice A2 x0.length c3), (3, .slice A11 d10.length c12), (4, .int .i64 ((k9 : Nat) : Int))] [I4]
 refine CM_seq (sr (wm (wm ?_)))
 refine wv (vlen underlying24) ?_
 refine wv vlss ?_
 refine nt' ?_
 by_cases hl17 : k9 < x0.length
 ·have g18 := dlT hl17
  refine CM_condT rfl g18 ?_
  refine CM_skip (QM_then (CM_seq (CM_block (sr (wm (wm ?_))))))
  obtain ⟨a19, rfl, hb20, he21⟩ := q4 (by omega)
  refine wv (vix 4 k9 underlying24 type39) ?_
  obtain ⟨_, e27, hc22⟩ := he21 k9 _ (gt_some (show k9 < x0.length from by omega))
  obtain ⟨v23, v25, rfl, r24, r26⟩ := tyQuery_rd e27
  have l28 : ((gt x0 k9).Conds).length ≤ 68719476736 := (s_0.2 _ (gt_mem (show k9 < x0.length from by omega))).1
  have l29 : ((gt x0 k9).Out).length ≤ 68719476736 := (s_0.2 _ (gt_mem (show k9 < x0.length from by omega))).2
  obtain ⟨m30, A31, c32, rfl, q33, r34⟩ := rdS_op r24
  obtain ⟨m35, A36, c37, rfl, q38, r39⟩ := rdS_op r26
  refine wv (fun W hm => rv_loadN (cs := [.int .i64 ((gt x0 k9).Id), .int .i64 ((gt x0 k9).Tenant), .slice A31 ((gt x0 k9).Conds).length c32, .slice A36 ((gt x0 k9).Out).length c37]) underlying39 type39 rfl rfl (hm.elCells (show (a19.add (k9 * 4)).block < w.heap.size from by rw [add_block]; exact hb20.1) hc22)) ?_
  refine wcs tyQuery (gt x0 k9) (cl_fn cb85 rfl) (fun W hm => spec_l6Query_c2 W _ (gt x0 k9) (tyQuery_mk (x := (gt x0 k9)) (hm.rdS0 r34) (hm.rdS0 r39)) (s_0.2 _ (gt_mem (show k9 < x0.length from by omega)))) (fun z40 => ?_)
  refine tyQuery_sp ?_
  rintro ⟨v41, v42⟩ rfl
  refine WM_form (n := 0) rfl ?_
  rintro A43 c44 rfl m45
  refine WM_form (n := 1) rfl ?_
  rintro A47 c48 rfl m49
  refine WM_alloc type39 rfl (Wd_none rfl) (by decide) (fun p51 => ?_)
  let K3 : List Value := [.int .i64 ((gt x0 k9).Id), .int .i64 ((gt x0 k9).Tenant), .slice A43 ((gt x0 k9).Conds).length c44, .slice A47 ((gt x0 k9).Out).length c48]
  let I5 : It := iOwn (tSl tyCond 90) [.slice A43 ((gt x0 k9).Conds).length c44] ((gt x0 k9).Conds)
  let I6 : It := iOwn (tSl tInt 3) [.slice A47 ((gt x0 k9).Out).length c48] ((gt x0 k9).Out)
  refine sb 0 K3 [I5, I6, I4] (fun W hm => hm) type39 ?_
  refine nt' (CM_region (wm ?_))
  refine wv (fun W hm => rv_loadN (cs := K3) underlying39 type39 rfl rfl (hm.boxCells (n := 0) rfl)) ?_
  refine WM_build (cs := K3) underlying24 type39 rfl (by decide) (by decide) rfl (by kernel_rfl) (Wd_none rfl) (by decide) (fun p52 => ?_)
  refine ap1 tyQuery 39 (.slice A11 d10.length c12) d10 (gt x0 k9) [I5, I6] [iBox p51 39 K3] K3 (pk [0, 4, 2, 3, 1]) (fun _ _ hs => Els.single (tyQuery_join (x := (gt x0 k9)) hs)) underlying24 type39 (show (d10.length + 1) * 64 ≤ 140737488355328 from by omega) (fun v53 => ?_)
  refine WM_form (n := 0) rfl ?_
  rintro A54 c55 rfl m56
  refine wa (WM_nil (QM_block_normal (QM_then (CM_region (wm ?_)))))
  refine wv (vadN k9 1 (by omega)) ?_
  refine wa (WM_nil ?_)
  have hn58 := rng_next (R := (List DQuery)) (body := F1) (k := k9) (s := d10) (s' := (d10 ++ [(gt x0 k9)])) (show k9 < x0.length from by omega) (rfl) hF14
  exact QM_round (k9 + 1, (d10 ++ [(gt x0 k9)]), (A54, c55)) sl3 (pk [0]) ⟨(by omega), hn58, (show (d10 ++ [(gt x0 k9)]).length ≤ 0 + (k9 + 1) from by first | omega | (simp only [List.length_append, List.length_cons, List.length_nil] at *; omega))⟩ (rl (by omega))
 ·have g18 := dlF hl17
  refine CM_condF rfl g18 ?_
  refine CM_exit (QM_then_exit (QM_then_exit ?_))
  have hE59 : R2 (x0.length - 0) 0 [] = Sum.inr d10 := rng_end hl17 hF14
  refine QM_block_hit (QM_then (sr (wm (wa (nt' (CM_ret ?_))))))
  have he60 := (show spec_l6Queries_m x0 = d10 from fin_inr hE59 (rfl))
  refine QM_r1 rfl (RR_tmp rfl) (fun W hm => ⟨.slice A11 d10.length c12, ?_, ?_⟩)
  ·first | rw [he60] | rfl
  ·rw [he60]; exact hm
theorem spec_l6Queries_eq (x0 : (List DQuery)) : spec_l6Queries_m x0 = x0 := by
 unfold spec_l6Queries_m; rw [rng_app (xs := x0) (b := fun k s => spec_l6Queries_b1 x0 k s) (fun _ _ => rfl)]; rfl
theorem spec_l6Queries_c2 (w : World) (z0 : Value) (x0 : (List DQuery)) (r_0 : rdS tyQuery w w.heap.size z0 x0) (s_0 : (x0.length ≤ 68719476736 ∧ ∀ y ∈ x0, smQuery 68719476736 y)) :
  Calls Try.prog 71 #[z0] w fun e w' => ∃ v : Value, e = .returned (v) ∧ Mem w.heap.size w [iOwn (tSl tyQuery 39) [v] x0] w' := by
 have h := spec_l6Queries_c w z0 x0 r_0 s_0
 rw [spec_l6Queries_eq] at h
 exact h

def spec_l5Admits_b1 (x0 : DQuery) (x1 : Int) (x2 : Int) (k16 : Nat) : Bool ⊕ (Unit) :=
 cond (((gt x0.Conds k16).Field) == x1) (cond (spec_l1In_m x2 ((gt x0.Conds k16).Low) ((gt x0.Conds k16).High)) (Sum.inr ()) (Sum.inl false)) (Sum.inr ())
def spec_l5Admits_m (x0 : DQuery) (x1 : Int) (x2 : Int) : Bool :=
 Sum.elim id (fun (s : Unit) => true) (rng (R := Bool) (fun k (_ : Unit) => spec_l5Admits_b1 x0 x1 x2 k) (x0.Conds.length - 0) 0 ())
theorem cb84 : Cb Try.prog 84 := ⟨f84, _, func84, rfl, by decide⟩
theorem spec_l5Admits_c (w : World) (z0 : List Value) (x0 : DQuery) (x1 : Int) (x2 : Int) (r_0 : tyQuery.rd w w.heap.size z0 x0) :
  Calls Try.prog 84 #[.agg z0.toArray, .int .i64 x1, .int .i64 x2] w fun e w' => e = .returned (.bool (spec_l5Admits_m x0 x1 x2)) ∧ Below w.heap.size w w' := by
 obtain ⟨v1, v3, rfl, r2, r4⟩ := tyQuery_rd r_0
 obtain ⟨m5, A6, c7, rfl, q8, r9⟩ := rdS_op r2
 obtain ⟨m10, A11, c12, rfl, q13, r14⟩ := rdS_op r4
 refine ce3 (L := [(0, .agg #[.int .i64 x0.Id, .int .i64 x0.Tenant, .slice A6 x0.Conds.length c7, .slice A11 x0.Out.length c12]), (1, .int .i64 x1), (2, .int .i64 x2)]) (N := 40) func84 ?_
 refine sr ?_
 refine WM_box rfl (Wd_none rfl) (by decide) (fun p15 => ?_)
 refine wa (nt' (CM_seq (sr (wa (nt' (CM_block ?_))))))
 let F1 := fun k (_ : Unit) => spec_l5Admits_b1 x0 x1 x2 k
 let R2 := rng (R := Bool) F1
 let K3 : List Value := [.int .i64 x0.Id, .int .i64 x0.Tenant, .slice A6 x0.Conds.length c7, .slice A11 x0.Out.length c12]
 refine CM_loop (σ := Nat × (Unit) × (Unit)) (fun s => [(1, .int .i64 x1), (2, .int .i64 x2), (3, .pointer (some (⟨p15, 0, none⟩ : Addr))), (7, .int .i64 ((s.1 : Nat) : Int))]) (fun s => [iBox p15 39 K3]) (fun s => s.1 ≤ x0.Conds.length ∧ R2 (x0.Conds.length - s.1) s.1 s.2.1 = R2 (x0.Conds.length - 0) 0 ()) (fun s => x0.Conds.length - s.1) (0, (), ()) sl4 (fun W hm => hm) ⟨(by omega), rfl⟩ ?_
 rintro ⟨k16, ⟨⟩, ⟨⟩⟩ H19
 obtain ⟨hk17, hF18⟩ : k16 ≤ x0.Conds.length ∧ R2 (x0.Conds.length - k16) k16 () = R2 (x0.Conds.length - 0) 0 () := H19
 show CM Try.prog 40 _ _ _ _ [(1, .int .i64 x1), (2, .int .i64 x2), (3, .pointer (some (⟨p15, 0, none⟩ : Addr))), (7, .int .i64 ((k16 : Nat) : Int))] [iBox p15 39 K3]
 refine CM_seq (sr (wm ?_))
 refine wv (vf underlying39 rfl type36) ?_
 refine wv (vl 0 2 underlying36) ?_
 refine wv (vlen underlying36) ?_
 refine wv vlss ?_
 refine nt' ?_
 by_cases hl20 : k16 < x0.Conds.length
 ·have g21 := dlT hl20
  refine CM_condT rfl g21 ?_
  refine CM_skip (QM_then (CM_seq (CM_block (CM_seq ?_))))
  refine CM_regionD (by kernel_rfl) (by kernel_rfl) ?_
  refine qv (vf underlying39 rfl type36) ?_
  refine qv (vl 0 2 underlying36) ?_
  refine qm ?_
  obtain ⟨a22, rfl, hb23, he24⟩ := q8 (by omega)
  refine qv (vix 3 k16 underlying36 type90) ?_
  refine qv (vf underlying90 rfl type3) ?_
  obtain ⟨_, e26, hc25⟩ := he24 k16 _ (gt_some (show k16 < x0.Conds.length from by omega))
  obtain rfl := tyCond_rd e26
  refine qv (fun W hm => rv_load underlying3 rfl rfl ((hm.cell0 (show ((a22.add (k16 * 3)).add 0).block < w.heap.size from by rw [add_block, add_block]; exact hb23.1)).trans (hc25 0 _ rfl))) ?_
  refine qm ?_
  refine qv (fun W hm => rv_eql rfl rfl) ?_
  refine qm ?_
  by_cases h27 : ((gt x0.Conds k16).Field) = x1
  ·have g28 := beq_iff_eq.2 h27
   refine qg vmv g28 ?_
   refine qg (vf underlying39 rfl type36) g28 ?_
   refine qg (vl 0 2 underlying36) g28 ?_
   refine qg vmv g28 ?_
   refine qg (vix 3 k16 underlying36 type90) g28 ?_
   refine qg (vf underlying90 rfl type3) g28 ?_
   refine qg (fun W hm => rv_load underlying3 rfl rfl ((hm.cell0 (show ((a22.add (k16 * 3)).add 1).block < w.heap.size from by rw [add_block, add_block]; exact hb23.1)).trans (hc25 1 _ rfl))) g28 ?_
   refine qg (vf underlying39 rfl type36) g28 ?_
   refine qg (vl 0 2 underlying36) g28 ?_
   refine qg vmv g28 ?_
   refine qg (vix 3 k16 underlying36 type90) g28 ?_
   refine qg (vf underlying90 rfl type3) g28 ?_
   refine qg (fun W hm => rv_load underlying3 rfl rfl ((hm.cell0 (show ((a22.add (k16 * 3)).add 2).block < w.heap.size from by rw [add_block, add_block]; exact hb23.1)).trans (hc25 2 _ rfl))) g28 ?_
   refine QR_callV (cl_fn cb42 rfl) (fun W hm => spec_l1In_c W x2 ((gt x0.Conds k16).Low) ((gt x0.Conds k16).High)) (Wd_some rfl rfl rfl (bw g28 rfl)) (by decide) ?_
   refine qg vnot g28 ?_
   refine qv (vpT g28) ?_
   refine nq' ?_
   rcases Bool.eq_false_or_eq_true (spec_l1In_m x2 ((gt x0.Conds k16).Low) ((gt x0.Conds k16).High)) with g30 | g30
   ·
    have hw := spec_l1In_fact g30
    refine CM_condF rfl (nt g30) ?_
    refine CM_skip (QM_block_normal (QM_then (CM_region (wm ?_))))
    refine wv (vadN k16 1 (by omega)) ?_
    refine wa (WM_nil ?_)
    have hn31 := rng_next (R := Bool) (body := F1) (k := k16) (s := ()) (s' := ()) (show k16 < x0.Conds.length from by omega) (cond_t g28 (cond_t g30 (rfl))) hF18
    exact QM_round (k16 + 1, (), ()) sl4 (fun W hm => hm) ⟨(by omega), hn31⟩ (rl (by omega))
   ·
    refine CM_condT rfl (nf g30) ?_
    refine sr (wa (nt' (CM_ret (QM_block_ret (QM_then_ret (QM_then_ret (QM_block_ret (QM_then_ret ?_))))))))
    exact rtb (h := fin_inl (rng_ret (body := F1) (k := k16) (s := ()) (show k16 < x0.Conds.length from by omega) (cond_t g28 (cond_f g30 (rfl))) hF18) rfl)
  ·have g28 := beq_eq_false_iff_ne.2 h27
   refine qs g28 ?_
   refine qs g28 ?_
   refine qs g28 ?_
   refine qs g28 ?_
   refine qs g28 ?_
   refine qs g28 ?_
   refine qs g28 ?_
   refine qs g28 ?_
   refine qs g28 ?_
   refine qs g28 ?_
   refine qs g28 ?_
   refine qs g28 ?_
   refine qs g28 ?_
   refine qs g28 ?_
   refine qs g28 ?_
   refine qv (vpF g28) ?_
   refine nq' ?_
   refine CM_condF rfl rfl ?_
   refine CM_skip (QM_block_normal (QM_then (CM_region (wm ?_))))
   refine wv (vadN k16 1 (by omega)) ?_
   refine wa (WM_nil ?_)
   have hn32 := rng_next (R := Bool) (body := F1) (k := k16) (s := ()) (s' := ()) (show k16 < x0.Conds.length from by omega) (cond_f g28 (rfl)) hF18
   exact QM_round (k16 + 1, (), ()) sl4 (fun W hm => hm) ⟨(by omega), hn32⟩ (rl (by omega))
 ·have g21 := dlF hl20
  refine CM_condF rfl g21 ?_
  refine CM_exit (QM_then_exit (QM_then_exit ?_))
  have hE33 : R2 (x0.Conds.length - 0) 0 () = Sum.inr () := rng_end hl20 hF18
  refine QM_block_hit (QM_then (sr (wa (nt' (CM_ret ?_)))))
  exact rtb (h := fin_inr hE33 (rfl))

def spec_StabSet_b1 (x0 : (List DQuery)) (x1 : Int) (x2 : Int) (k9 : Nat) (d10 : (List Int)) : (List Int) ⊕ (((List Int)) ⊕ ((List Int))) :=
 cond (spec_AreQueries_m x0) (cond (spec_l1In_m x1 0 2) (cond (spec_l1In_m x2 0 99) (cond (spec_l5Admits_m (gt x0 k9) x1 x2) (Sum.inr (Sum.inr (d10 ++ [(gt x0 k9).Id]))) (Sum.inr (Sum.inr d10))) (Sum.inr (Sum.inl d10))) (Sum.inr (Sum.inl d10))) (Sum.inr (Sum.inl d10))
def spec_StabSet_m (x0 : (List DQuery)) (x1 : Int) (x2 : Int) : (List Int) :=
 Sum.elim id (fun (s : (List Int)) => s) (rngb (R := (List Int)) (fun k (s : (List Int)) => spec_StabSet_b1 x0 x1 x2 k s) (x0.length - 0) 0 [])
theorem cb60 : Cb Try.prog 60 := ⟨f60, _, func60, rfl, by decide⟩
theorem spec_StabSet_c (w : World) (z0 : Value) (x0 : (List DQuery)) (x1 : Int) (x2 : Int) (r_0 : rdS tyQuery w w.heap.size z0 x0) (s_0 : (x0.length ≤ 68719476736 ∧ ∀ y ∈ x0, smQuery 68719476736 y)) :
  Calls Try.prog 60 #[z0, .int .i64 x1, .int .i64 x2] w fun e w' => ∃ v : Value, e = .returned (v) ∧ Mem w.heap.size w [iOwn (tSl tInt 3) [v] (spec_StabSet_m x0 x1 x2)] w' := by
 obtain ⟨m1, A2, c3, rfl, q4, r5⟩ := rdS_op r_0
 have l6 : x0.length ≤ 68719476736 := s_0.1
 refine ce3 (L := [(0, .slice A2 x0.length c3), (1, .int .i64 x1), (2, .int .i64 x2)]) (N := 44) func60 ?_
 refine sr (wa (nt' (sr ?_)))
 refine WM_build0 (E := tInt) underlying37 type3 (Wd_none rfl) (by decide) (fun p7 => ?_)
 refine wa (nt' (CM_seq (sr (wa (nt' ?_)))))
 let F1 := fun k (s : (List Int)) => spec_StabSet_b1 x0 x1 x2 k s
 let R2 := rngb (R := (List Int)) F1
 refine CM_cut (σ := ((List Int)) × (Option Addr × Nat)) (fun s => [(7, .slice s.2.1 s.1.length s.2.2)]) (fun s => [iOwn (tSl tInt 3) [.slice s.2.1 s.1.length s.2.2] s.1]) (fun s => R2 (x0.length - 0) 0 [] = Sum.inr s.1) ?_ ?_
 ·
  refine CM_block ?_
  refine CM_loop (σ := Nat × ((List Int)) × (Option Addr × Nat)) (fun s => [(0, .slice A2 x0.length c3), (1, .int .i64 x1), (2, .int .i64 x2), (7, .slice s.2.2.1 s.2.1.length s.2.2.2), (8, .int .i64 ((s.1 : Nat) : Int))]) (fun s => [iOwn (tSl tInt 3) [.slice s.2.2.1 s.2.1.length s.2.2.2] s.2.1]) (fun s => s.1 ≤ x0.length ∧ R2 (x0.length - s.1) s.1 s.2.1 = R2 (x0.length - 0) 0 [] ∧ s.2.1.length ≤ 0 + s.1) (fun s => x0.length - s.1) (0, [], ((some ⟨p7, 0, none⟩), 0)) sl5 (fun W hm => hm) ⟨(by omega), rfl, Nat.le_refl _⟩ ?_
  rintro ⟨k9, d10, ⟨A11, c12⟩⟩ H15
  obtain ⟨hk13, hF14, hi16⟩ : k9 ≤ x0.length ∧ R2 (x0.length - k9) k9 d10 = R2 (x0.length - 0) 0 [] ∧ d10.length ≤ 0 + k9 := H15
  show CM Try.prog 44 _ _ _ _ [(0, .slice A2 x0.length c3), (1, .int .i64 x1), (2, .int .i64 x2), (7, .slice A11 d10.length c12), (8, .int .i64 ((k9 : Nat) : Int))] [iOwn (tSl tInt 3) [.slice A11 d10.length c12] d10]
  refine CM_seq (sr (wm (wm ?_)))
  refine wv (vlen underlying24) ?_
  refine wv vlss ?_
  refine wm ?_
  by_cases hl17 : k9 < x0.length
  ·have g18 := dlT hl17
   refine wg vmv g18 ?_
   refine WM_callV (cl_fn cb32 rfl) (fun W hm => spec_AreQueries_c W _ x0 (hm.rdS0 r5)) (Wd_some rfl rfl rfl (bw g18 rfl)) (by decide) ?_
   refine wv (vpT g18) ?_
   refine wm ?_
   rcases Bool.eq_false_or_eq_true (spec_AreQueries_m x0) with g20 | g20
   ·
    refine wg vmv g20 ?_
    refine WM_callV (cl_fn cb42 rfl) (fun W hm => spec_l1In_c W x1 0 2) (Wd_some rfl rfl rfl (bw g20 rfl)) (by decide) ?_
    refine wv (vpT g20) ?_
    refine wm ?_
    rcases Bool.eq_false_or_eq_true (spec_l1In_m x1 0 2) with g22 | g22
    ·
     have hw := spec_l1In_fact g22
     refine wg vmv g22 ?_
     refine WM_callV (cl_fn cb42 rfl) (fun W hm => spec_l1In_c W x2 0 99) (Wd_some rfl rfl rfl (bw g22 rfl)) (by decide) ?_
     refine wv (vpT g22) ?_
     refine nt' ?_
     rcases Bool.eq_false_or_eq_true (spec_l1In_m x2 0 99) with g24 | g24
     ·
      have hw := spec_l1In_fact g24
      refine CM_condT rfl g24 ?_
      refine CM_skip (QM_then (CM_seq (CM_block (sr (wm (wm ?_))))))
      obtain ⟨a25, rfl, hb26, he27⟩ := q4 (by omega)
      refine wv (vix 4 k9 underlying24 type39) ?_
      obtain ⟨_, e33, hc28⟩ := he27 k9 _ (gt_some (show k9 < x0.length from by omega))
      obtain ⟨v29, v31, rfl, r30, r32⟩ := tyQuery_rd e33
      have l34 : ((gt x0 k9).Conds).length ≤ 68719476736 := (s_0.2 _ (gt_mem (show k9 < x0.length from by omega))).1
      have l35 : ((gt x0 k9).Out).length ≤ 68719476736 := (s_0.2 _ (gt_mem (show k9 < x0.length from by omega))).2
      obtain ⟨m36, A37, c38, rfl, q39, r40⟩ := rdS_op r30
      obtain ⟨m41, A42, c43, rfl, q44, r45⟩ := rdS_op r32
      refine wv (fun W hm => rv_loadN (cs := [.int .i64 ((gt x0 k9).Id), .int .i64 ((gt x0 k9).Tenant), .slice A37 ((gt x0 k9).Conds).length c38, .slice A42 ((gt x0 k9).Out).length c43]) underlying39 type39 rfl rfl (hm.elCells (show (a25.add (k9 * 4)).block < w.heap.size from by rw [add_block]; exact hb26.1) hc28)) ?_
      refine wm (wm ?_)
      refine wcv (cl_fn cb84 rfl) (fun W hm => spec_l5Admits_c W _ (gt x0 k9) x1 x2 (tyQuery_mk (x := (gt x0 k9)) (hm.rdS0 r40) (hm.rdS0 r45))) ?_
      refine nt' ?_
      rcases Bool.eq_false_or_eq_true (spec_l5Admits_m (gt x0 k9) x1 x2) with g47 | g47
      ·
       refine CM_condT rfl g47 ?_
       refine CM_region (wm (wm (wm ?_)))
       refine wv (vix 4 k9 underlying24 type39) ?_
       refine wv (vf underlying39 rfl type3) ?_
       refine wv (fun W hm => rv_load underlying3 rfl rfl ((hm.cell0 (show ((a25.add (k9 * 4)).add 0).block < w.heap.size from by rw [add_block, add_block]; exact hb26.1)).trans (hc28 0 _ rfl))) ?_
       refine WM_build (cs := [.int .i64 ((gt x0 k9).Id)]) underlying37 type3 rfl (by decide) (by decide) rfl (by kernel_rfl) (Wd_none rfl) (by decide) (fun p48 => ?_)
       refine ap1 tInt 3 (.slice A11 d10.length c12) d10 ((gt x0 k9).Id) [] [] [.int .i64 ((gt x0 k9).Id)] (fun W hm => hm) (fun _ _ hs => by cases (Sep.nil hs); exact (els_cons tInt_own els_nil)) underlying37 type3 (show (d10.length + 1) * 8 ≤ 140737488355328 from by omega) (fun v49 => ?_)
       refine WM_form (n := 0) rfl ?_
       rintro A50 c51 rfl m52
       refine wa (WM_nil (QM_block_normal (QM_then (CM_region (wm ?_)))))
       refine wv (vadN k9 1 (by omega)) ?_
       refine wa (WM_nil ?_)
       have hn54 := rngb_next (R := (List Int)) (body := F1) (k := k9) (s := d10) (s' := (d10 ++ [(gt x0 k9).Id])) (show k9 < x0.length from by omega) (cond_t g20 (cond_t g22 (cond_t g24 (cond_t g47 (rfl))))) hF14
       exact QM_round (k9 + 1, (d10 ++ [(gt x0 k9).Id]), (A50, c51)) sl5 (fun W hm => hm) ⟨(by omega), hn54, (show (d10 ++ [(gt x0 k9).Id]).length ≤ 0 + (k9 + 1) from by first | omega | (simp only [List.length_append, List.length_cons, List.length_nil] at *; omega))⟩ (rl (by omega))
      ·
       refine CM_condF rfl g47 ?_
       refine CM_skip (QM_block_normal (QM_then (CM_region (wm ?_))))
       refine wv (vadN k9 1 (by omega)) ?_
       refine wa (WM_nil ?_)
       have hn55 := rngb_next (R := (List Int)) (body := F1) (k := k9) (s := d10) (s' := d10) (show k9 < x0.length from by omega) (cond_t g20 (cond_t g22 (cond_t g24 (cond_f g47 (rfl))))) hF14
       exact QM_round (k9 + 1, d10, (A11, c12)) sl5 (fun W hm => hm) ⟨(by omega), hn55, (show d10.length ≤ 0 + (k9 + 1) from by first | omega | (simp only [List.length_append, List.length_cons, List.length_nil] at *; omega))⟩ (rl (by omega))
     ·
      refine CM_condF rfl g24 ?_
      refine CM_exit (QM_then_exit (QM_then_exit (QM_block_hit ?_)))
      have hE56 := rngb_brk (R := (List Int)) (body := F1) (k := k9) (s := d10) (s' := d10) (show k9 < x0.length from by omega) (cond_t g20 (cond_t g22 (cond_f g24 (rfl)))) hF14
      exact QM_cut_normal (d10, (A11, c12)) (subL_cons rfl subL_nil) (fun W hm => hm) hE56
    ·
     refine ws g22 ?_
     refine ws g22 ?_
     refine wv (vpF g22) ?_
     refine nt' ?_
     refine CM_condF rfl rfl ?_
     refine CM_exit (QM_then_exit (QM_then_exit (QM_block_hit ?_)))
     have hE57 := rngb_brk (R := (List Int)) (body := F1) (k := k9) (s := d10) (s' := d10) (show k9 < x0.length from by omega) (cond_t g20 (cond_f g22 (rfl))) hF14
     exact QM_cut_normal (d10, (A11, c12)) (subL_cons rfl subL_nil) (fun W hm => hm) hE57
   ·
    refine ws g20 ?_
    refine ws g20 ?_
    refine wv (vpF g20) ?_
    refine wm ?_
    refine wk ?_
    refine wk ?_
    refine wv (vpF rfl) ?_
    refine nt' ?_
    refine CM_condF rfl rfl ?_
    refine CM_exit (QM_then_exit (QM_then_exit (QM_block_hit ?_)))
    have hE58 := rngb_brk (R := (List Int)) (body := F1) (k := k9) (s := d10) (s' := d10) (show k9 < x0.length from by omega) (cond_f g20 (rfl)) hF14
    exact QM_cut_normal (d10, (A11, c12)) (subL_cons rfl subL_nil) (fun W hm => hm) hE58
  ·have g18 := dlF hl17
   refine ws g18 ?_
   refine ws g18 ?_
   refine wv (vpF g18) ?_
   refine wm ?_
   refine wk ?_
   refine wk ?_
   refine wv (vpF rfl) ?_
   refine wm ?_
   refine wk ?_
   refine wk ?_
   refine wv (vpF rfl) ?_
   refine nt' ?_
   refine CM_condF rfl rfl ?_
   refine CM_exit (QM_then_exit (QM_then_exit (QM_block_hit ?_)))
   have hE59 : R2 (x0.length - 0) 0 [] = Sum.inr d10 := rngb_end hl17 hF14
   exact QM_cut_normal (d10, (A11, c12)) (subL_cons rfl subL_nil) (fun W hm => hm) hE59
 ·
  rintro ⟨d10, ⟨A11, c12⟩⟩ H61
  have hE60 : R2 (x0.length - 0) 0 [] = Sum.inr d10 := H61
  show QM 44 _ _ _ .normal [(7, .slice A11 d10.length c12)] [iOwn (tSl tInt 3) [.slice A11 d10.length c12] d10]
  refine QM_then (sr (wm (wa (nt' (CM_ret ?_)))))
  have he62 := (show spec_StabSet_m x0 x1 x2 = d10 from fin_inr hE60 (rfl))
  refine QM_r1 rfl (RR_tmp rfl) (fun W hm => ⟨.slice A11 d10.length c12, ?_, ?_⟩)
  ·first | rw [he62] | rfl
  ·rw [he62]; exact hm

def spec_l2Ints_b1 (x0 : (List Int)) (x1 : (List Int)) (k13 : Nat) : Bool ⊕ (Unit) :=
 cond ((gt x0 k13) != (gt x1 k13)) (Sum.inl false) (Sum.inr ())
def spec_l2Ints_m (x0 : (List Int)) (x1 : (List Int)) : Bool :=
 cond (((x0.length : Nat) : Int) != ((x1.length : Nat) : Int)) false (Sum.elim id (fun (s : Unit) => true) (rng (R := Bool) (fun k (_ : Unit) => spec_l2Ints_b1 x0 x1 k) (x0.length - 0) 0 ()))
theorem cb29 : Cb Try.prog 29 := ⟨f29, _, func29, rfl, by decide⟩
theorem spec_l2Ints_c (w : World) (z0 : Value) (x0 : (List Int)) (z1 : Value) (x1 : (List Int)) (r_0 : rdS tInt w w.heap.size z0 x0) (r_1 : rdS tInt w w.heap.size z1 x1) :
  Calls Try.prog 29 #[z0, z1] w fun e w' => e = .returned (.bool (spec_l2Ints_m x0 x1)) ∧ Below w.heap.size w w' := by
 obtain ⟨m1, A2, c3, rfl, q4, r5⟩ := rdS_op r_0
 obtain ⟨m6, A7, c8, rfl, q9, r10⟩ := rdS_op r_1
 refine ce2 (L := [(0, .slice A2 x0.length c3), (1, .slice A7 x1.length c8)]) (N := 26) func29 ?_
 refine sr (wa (nt' (CM_seq (sr (wm ?_)))))
 refine wv (vlen underlying37) ?_
 refine wm ?_
 refine wv (vlen underlying37) ?_
 refine wv vneq ?_
 refine nt' ?_
 by_cases h11 : ((x0.length : Nat) : Int) = ((x1.length : Nat) : Int)
 ·have g12 : (((x0.length : Nat) : Int) != ((x1.length : Nat) : Int)) = false := by rw [h11]; exact bne_self_eq_false _
  refine CM_condF rfl g12 ?_
  refine CM_skip (QM_then (CM_seq (sr (wa (nt' (CM_block ?_))))))
  let F1 := fun k (_ : Unit) => spec_l2Ints_b1 x0 x1 k
  let R2 := rng (R := Bool) F1
  refine CM_loop (σ := Nat × (Unit) × (Unit)) (fun s => [(0, .slice A2 x0.length c3), (1, .slice A7 x1.length c8), (5, .int .i64 ((s.1 : Nat) : Int))]) (fun s => []) (fun s => s.1 ≤ x0.length ∧ R2 (x0.length - s.1) s.1 s.2.1 = R2 (x0.length - 0) 0 ()) (fun s => x0.length - s.1) (0, (), ()) sl3 (fun W hm => hm) ⟨(by omega), rfl⟩ ?_
  rintro ⟨k13, ⟨⟩, ⟨⟩⟩ H16
  obtain ⟨hk14, hF15⟩ : k13 ≤ x0.length ∧ R2 (x0.length - k13) k13 () = R2 (x0.length - 0) 0 () := H16
  show CM Try.prog 26 _ _ _ _ [(0, .slice A2 x0.length c3), (1, .slice A7 x1.length c8), (5, .int .i64 ((k13 : Nat) : Int))] []
  refine CM_seq (sr (wm (wm ?_)))
  refine wv (vlen underlying37) ?_
  refine wv vlss ?_
  refine nt' ?_
  by_cases hl17 : k13 < x0.length
  ·have g18 := dlT hl17
   refine CM_condT rfl g18 ?_
   refine CM_skip (QM_then (CM_seq (CM_block (CM_seq ?_))))
   refine CM_regionD (by kernel_rfl) (by kernel_rfl) ?_
   refine qm (qm ?_)
   obtain ⟨a19, rfl, hb20, he21⟩ := q4 (by omega)
   refine qv (vix 1 k13 underlying37 type3) ?_
   refine qv (fun W hm => rv_load underlying3 rfl rfl ((hm.cell0 (show (a19.add (k13 * 1)).block < w.heap.size from by rw [add_block]; exact hb20.1)).trans (rdS_int he21 k13 (by omega)))) ?_
   refine qm (qm ?_)
   obtain ⟨a22, rfl, hb23, he24⟩ := q9 (by omega)
   refine qv (vix 1 k13 underlying37 type3) ?_
   refine qv (fun W hm => rv_load underlying3 rfl rfl ((hm.cell0 (show (a22.add (k13 * 1)).block < w.heap.size from by rw [add_block]; exact hb23.1)).trans (rdS_int he24 k13 (by omega)))) ?_
   refine qv vneq ?_
   refine nq' ?_
   by_cases h25 : (gt x0 k13) = (gt x1 k13)
   ·have g26 : ((gt x0 k13) != (gt x1 k13)) = false := by rw [h25]; exact bne_self_eq_false _
    refine CM_condF rfl g26 ?_
    refine CM_skip (QM_block_normal (QM_then (CM_region (wm ?_))))
    refine wv (vadN k13 1 (by omega)) ?_
    refine wa (WM_nil ?_)
    have hn27 := rng_next (R := Bool) (body := F1) (k := k13) (s := ()) (s' := ()) (show k13 < x0.length from by omega) (cond_f g26 (rfl)) hF15
    exact QM_round (k13 + 1, (), ()) sl3 (fun W hm => hm) ⟨(by omega), hn27⟩ (rl (by omega))
   ·have g26 : ((gt x0 k13) != (gt x1 k13)) = true := bne_iff_ne.2 h25
    refine CM_condT rfl g26 ?_
    refine sr (wa (nt' (CM_ret (QM_block_ret (QM_then_ret (QM_then_ret (QM_block_ret (QM_then_ret ?_))))))))
    exact rtb (h := cond_f g12 (fin_inl (rng_ret (body := F1) (k := k13) (s := ()) (show k13 < x0.length from by omega) (cond_t g26 (rfl)) hF15) rfl))
  ·have g18 := dlF hl17
   refine CM_condF rfl g18 ?_
   refine CM_exit (QM_then_exit (QM_then_exit ?_))
   have hE28 : R2 (x0.length - 0) 0 () = Sum.inr () := rng_end hl17 hF15
   refine QM_block_hit (QM_then (sr (wa (nt' (CM_ret ?_)))))
   exact rtb (h := cond_f g12 (fin_inr hE28 (rfl)))
 ·have g12 : (((x0.length : Nat) : Int) != ((x1.length : Nat) : Int)) = true := bne_iff_ne.2 h11
  refine CM_condT rfl g12 ?_
  refine sr (wa (nt' (CM_ret (QM_then_ret ?_))))
  exact rtb (h := cond_t g12 (rfl))

def spec_StabIndex_b1 (x0 : (List DQuery)) (x1 : Int) (k13 : Nat) (d14 : (List DSpan)) : (List DSpan) ⊕ ((List DSpan)) :=
 cond (decide (0 < ((d14.length : Nat) : Int))) (cond (spec_l2Ints_m ((gt d14 (d14.length - 1)).Set) (spec_StabSet_m x0 x1 ((k13 : Nat) : Int))) (Sum.inr (d14.set (d14.length - 1) (⟨(gt d14 (d14.length - 1)).From, ((k13 : Nat) : Int), (gt d14 (d14.length - 1)).Set⟩ : DSpan))) (Sum.inr (d14 ++ [(⟨((k13 : Nat) : Int), ((k13 : Nat) : Int), (spec_StabSet_m x0 x1 ((k13 : Nat) : Int))⟩ : DSpan)]))) (Sum.inr (d14 ++ [(⟨((k13 : Nat) : Int), ((k13 : Nat) : Int), (spec_StabSet_m x0 x1 ((k13 : Nat) : Int))⟩ : DSpan)]))
def spec_StabIndex_m (x0 : (List DQuery)) (x1 : Int) : (List DSpan) :=
 cond (spec_AreQueries_m x0) (cond (spec_l1In_m x1 0 2) (Sum.elim id (fun (s : (List DSpan)) => s) (rng (R := (List DSpan)) (fun k (s : (List DSpan)) => spec_StabIndex_b1 x0 x1 k s) (100 - 0) 0 [])) []) []
theorem cb34 : Cb Try.prog 34 := ⟨f34, _, func34, rfl, by decide⟩
theorem spec_StabIndex_c (w : World) (z0 : Value) (x0 : (List DQuery)) (x1 : Int) (r_0 : rdS tyQuery w w.heap.size z0 x0) (s_0 : (x0.length ≤ 68719476736 ∧ ∀ y ∈ x0, smQuery 68719476736 y)) :
  Calls Try.prog 34 #[z0, .int .i64 x1] w fun e w' => ∃ v : Value, e = .returned (v) ∧ Mem w.heap.size w [iOwn (tSl tySpan 86) [v] (spec_StabIndex_m x0 x1)] w' := by
 obtain ⟨m1, A2, c3, rfl, q4, r5⟩ := rdS_op r_0
 have l6 : x0.length ≤ 68719476736 := s_0.1
 refine ce2 (L := [(0, .slice A2 x0.length c3), (1, .int .i64 x1)]) (N := 55) func34 ?_
 refine sr (wa (nt' (sr ?_)))
 refine WM_build0 (E := tySpan) underlying64 type86 (Wd_none rfl) (by decide) (fun p7 => ?_)
 refine wa (nt' (CM_seq (sr (wm ?_))))
 refine wcv (cl_fn cb32 rfl) (fun W hm => spec_AreQueries_c W _ x0 (hm.rdS0 r5)) ?_
 refine wv vnot ?_
 refine wm ?_
 rcases Bool.eq_false_or_eq_true (spec_AreQueries_m x0) with g10 | g10
 ·
  refine wg vmv (nt g10) ?_
  refine WM_callV (cl_fn cb42 rfl) (fun W hm => spec_l1In_c W x1 0 2) (Wd_some rfl rfl rfl (bw (nt g10) rfl)) (by decide) ?_
  refine wg vnot (nt g10) ?_
  refine wv (vpF (nt g10)) ?_
  refine nt' ?_
  rcases Bool.eq_false_or_eq_true (spec_l1In_m x1 0 2) with g12 | g12
  ·
   have hw := spec_l1In_fact g12
   refine CM_condF rfl (nt g12) ?_
   refine CM_skip (QM_then (CM_seq (sr (wa (nt' (CM_block ?_))))))
   let F1 := fun k (s : (List DSpan)) => spec_StabIndex_b1 x0 x1 k s
   let R2 := rng (R := (List DSpan)) F1
   refine CM_loop (σ := Nat × ((List DSpan)) × (Option Addr × Nat)) (fun s => [(0, .slice A2 x0.length c3), (1, .int .i64 x1), (5, .slice s.2.2.1 s.2.1.length s.2.2.2), (6, .int .i64 ((s.1 : Nat) : Int))]) (fun s => [iOwn (tSl tySpan 86) [.slice s.2.2.1 s.2.1.length s.2.2.2] s.2.1]) (fun s => s.1 ≤ 100 ∧ R2 (100 - s.1) s.1 s.2.1 = R2 (100 - 0) 0 [] ∧ s.2.1.length ≤ 0 + s.1) (fun s => 100 - s.1) (0, [], ((some ⟨p7, 0, none⟩), 0)) sl4 (fun W hm => hm) ⟨(by omega), rfl, Nat.le_refl _⟩ ?_
   rintro ⟨k13, d14, ⟨A15, c16⟩⟩ H19
   obtain ⟨hk17, hF18, hi20⟩ : k13 ≤ 100 ∧ R2 (100 - k13) k13 d14 = R2 (100 - 0) 0 [] ∧ d14.length ≤ 0 + k13 := H19
   show CM Try.prog 55 _ _ _ _ [(0, .slice A2 x0.length c3), (1, .int .i64 x1), (5, .slice A15 d14.length c16), (6, .int .i64 ((k13 : Nat) : Int))] [iOwn (tSl tySpan 86) [.slice A15 d14.length c16] d14]
   refine CM_seq (sr (wm ?_))
   refine wv (fun W hm => rv_leq rfl rfl) ?_
   refine nt' ?_
   by_cases hl21 : k13 < 100
   ·have g22 : (decide (((k13 : Nat) : Int) ≤ 99)) = true := decide_eq_true (by omega)
    refine CM_condT rfl g22 ?_
    refine CM_skip (QM_then (CM_seq (CM_block (sr (wm (wm (wm ?_)))))))
    refine wcl (tSl tInt 3) (spec_StabSet_m x0 x1 ((k13 : Nat) : Int)) (cl_fn cb60 rfl) (fun W hm => spec_StabSet_c W _ x0 x1 ((k13 : Nat) : Int) (hm.rdS0 r5) s_0) (fun z23 => ?_)
    refine WM_form (n := 0) rfl ?_
    rintro A24 c25 rfl m26
    refine wa (nt' (sr (wm ?_)))
    refine wv (vlen underlying64) ?_
    refine wa (nt' (sr (wm ?_)))
    refine wv (fun W hm => rv_gtr rfl rfl) ?_
    refine wm ?_
    by_cases h28 : 0 < ((d14.length : Nat) : Int)
    ·have g29 := decide_eq_true h28
     refine wg vmv g29 ?_
     refine wg vmv g29 ?_
     refine wg (fun W hm => rv_subN (p := d14.length) (q := 1) rfl rfl (by omega) (by omega)) g29 ?_
     refine WM_formO (n := 1) rfl (by omega) ?_
     rintro g30 rfl
     refine wg (fun W hm => rv_index (sz := 3) (k := d14.length - 1) underlying64 type86 rfl rfl rfl (by omega)) g29 ?_
     refine wg (vf underlying86 rfl type37) g29 ?_
     let K3 : List Value := [.slice A24 (spec_StabSet_m x0 x1 ((k13 : Nat) : Int)).length c25]
     let I7 : It := iOwn (tSl tInt 3) K3 (spec_StabSet_m x0 x1 ((k13 : Nat) : Int))
     refine WM_focus (E := tySpan) (e := 86) (A := (some ⟨g30, 0, none⟩)) (n := d14.length) (c := c16) (xs := d14) (k := (d14.length - 1)) (js := [I7]) (by omega) (pk [1, 0]) (fun ck31 => ?_)
     refine tySpan_sp ?_
     rintro v32 rfl
     refine WM_form (n := 0) rfl ?_
     rintro A33 c34 rfl m35
     refine wg (fun W hm => rv_load underlying37 rfl rfl (hm.focCells (i := 1) rfl rfl 2 _ rfl)) g29 ?_
     refine wg vmv g29 ?_
     refine WM_callV (cl_fn cb29 rfl) (fun W hm => spec_l2Ints_c W _ ((gt d14 (d14.length - 1)).Set) _ (spec_StabSet_m x0 x1 ((k13 : Nat) : Int)) (hm.rdSI (n := 0) rfl) (hm.rdSI (n := 2) rfl)) (Wd_some rfl rfl rfl (bw g29 rfl)) (by decide) ?_
     refine wv (vpT g29) ?_
     refine nt' ?_
     rcases Bool.eq_false_or_eq_true (spec_l2Ints_m ((gt d14 (d14.length - 1)).Set) (spec_StabSet_m x0 x1 ((k13 : Nat) : Int))) with g38 | g38
     ·
      refine CM_condT rfl g38 ?_
      refine CM_region (wm (wm ?_))
      refine wv (fun W hm => rv_subN (p := d14.length) (q := 1) rfl rfl (by omega) (by omega)) ?_
      refine wm ?_
      refine wv (fun W hm => rv_index (sz := 3) (k := d14.length - 1) underlying64 type86 rfl rfl rfl (by omega)) ?_
      refine wv (vf underlying86 rfl type3) ?_
      let K4 : List Value := [.int .i64 ((gt d14 (d14.length - 1)).From), .int .i64 ((k13 : Nat) : Int), .slice A33 ((gt d14 (d14.length - 1)).Set).length c34]
      let I8 : It := iOwn (tSl tInt 3) [.slice A33 ((gt d14 (d14.length - 1)).Set).length c34] ((gt d14 (d14.length - 1)).Set)
      refine sf 1 3 K4 [I8, I7] (pk [1, 0, 2]) type3 ?_
      refine WM_nil (QM_block_normal (QM_then (CM_region (wm ?_))))
      refine wv (vadN k13 1 (by omega)) ?_
      refine wa (WM_nil ?_)
      refine QM_items (fun W hm => Mem.unfocus (Mem.join (is := [I8]) (js := (iFoc tySpan 86 (some ⟨g30, 0, none⟩) d14.length c16 d14 (d14.length - 1) K4 :: [I7])) (fun _ _ hs => tySpan_join (x := (⟨(gt d14 (d14.length - 1)).From, ((k13 : Nat) : Int), (gt d14 (d14.length - 1)).Set⟩ : DSpan)) hs) (hm.pick [1, 0, 2] (by decide)))) ?_
      have hl39 : d14.length = (d14.set (d14.length - 1) (⟨(gt d14 (d14.length - 1)).From, ((k13 : Nat) : Int), (gt d14 (d14.length - 1)).Set⟩ : DSpan)).length := by first | rfl | exact List.length_set.symm
      generalize ix40h : d14.length - 1 = ix40
      rw [show d14.length = (d14.set ix40 (⟨(gt d14 ix40).From, ((k13 : Nat) : Int), (gt d14 ix40).Set⟩ : DSpan)).length from List.length_set.symm]
      subst ix40h
      have hn41 := rng_next (R := (List DSpan)) (body := F1) (k := k13) (s := d14) (s' := (d14.set (d14.length - 1) (⟨(gt d14 (d14.length - 1)).From, ((k13 : Nat) : Int), (gt d14 (d14.length - 1)).Set⟩ : DSpan))) (show k13 < 100 from by omega) (cond_t g29 (cond_t g38 (rfl))) hF18
      exact QM_round (k13 + 1, (d14.set (d14.length - 1) (⟨(gt d14 (d14.length - 1)).From, ((k13 : Nat) : Int), (gt d14 (d14.length - 1)).Set⟩ : DSpan)), ((some ⟨g30, 0, none⟩), c16)) sl4 (pk [0]) ⟨(by omega), hn41, (show (d14.set (d14.length - 1) (⟨(gt d14 (d14.length - 1)).From, ((k13 : Nat) : Int), (gt d14 (d14.length - 1)).Set⟩ : DSpan)).length ≤ 0 + (k13 + 1) from by first | omega | (simp only [List.length_append, List.length_cons, List.length_nil] at *; omega))⟩ (rl (by omega))
     ·
      refine CM_condF rfl g38 ?_
      refine CM_region (wm (wm (wm (wm ?_))))
      let K5 : List Value := [.int .i64 ((k13 : Nat) : Int), .int .i64 ((k13 : Nat) : Int), .slice A24 (spec_StabSet_m x0 x1 ((k13 : Nat) : Int)).length c25]
      refine wv (fun W hm => rv_build (cs := K5) rfl (by kernel_rfl)) ?_
      refine WM_build (cs := K5) underlying64 type86 rfl (by decide) (by decide) rfl (by kernel_rfl) (Wd_none rfl) (by decide) (fun p42 => ?_)
      refine WM_items (fun W hm => Mem.unfocus0 (Mem.join (is := [iOwn (tSl tInt 3) [.slice A33 ((gt d14 (d14.length - 1)).Set).length c34] ((gt d14 (d14.length - 1)).Set)]) (js := (iFoc tySpan 86 (some ⟨g30, 0, none⟩) d14.length c16 d14 (d14.length - 1) [.int .i64 ((gt d14 (d14.length - 1)).From), .int .i64 ((gt d14 (d14.length - 1)).To), .slice A33 ((gt d14 (d14.length - 1)).Set).length c34] :: [iBox p42 86 K5, I7])) (fun _ _ hs => tySpan_join (x := (gt d14 (d14.length - 1))) hs) (hm.pick [1, 2, 0, 3] (by decide)))) ?_
      refine ap1 tySpan 86 (.slice (some ⟨g30, 0, none⟩) d14.length c16) d14 (⟨((k13 : Nat) : Int), ((k13 : Nat) : Int), (spec_StabSet_m x0 x1 ((k13 : Nat) : Int))⟩ : DSpan) [I7] [] K5 (pk [1, 0, 2]) (fun _ _ hs => Els.single (tySpan_join (x := (⟨((k13 : Nat) : Int), ((k13 : Nat) : Int), (spec_StabSet_m x0 x1 ((k13 : Nat) : Int))⟩ : DSpan)) hs)) underlying64 type86 (show (d14.length + 1) * 40 ≤ 140737488355328 from by omega) (fun v43 => ?_)
      refine WM_form (n := 0) rfl ?_
      rintro A44 c45 rfl m46
      refine wa (WM_nil (QM_block_normal (QM_then (CM_region (wm ?_)))))
      refine wv (vadN k13 1 (by omega)) ?_
      refine wa (WM_nil ?_)
      have hn48 := rng_next (R := (List DSpan)) (body := F1) (k := k13) (s := d14) (s' := (d14 ++ [(⟨((k13 : Nat) : Int), ((k13 : Nat) : Int), (spec_StabSet_m x0 x1 ((k13 : Nat) : Int))⟩ : DSpan)])) (show k13 < 100 from by omega) (cond_t g29 (cond_f g38 (rfl))) hF18
      exact QM_round (k13 + 1, (d14 ++ [(⟨((k13 : Nat) : Int), ((k13 : Nat) : Int), (spec_StabSet_m x0 x1 ((k13 : Nat) : Int))⟩ : DSpan)]), (A44, c45)) sl4 (fun W hm => hm) ⟨(by omega), hn48, (show (d14 ++ [(⟨((k13 : Nat) : Int), ((k13 : Nat) : Int), (spec_StabSet_m x0 x1 ((k13 : Nat) : Int))⟩ : DSpan)]).length ≤ 0 + (k13 + 1) from by first | omega | (simp only [List.length_append, List.length_cons, List.length_nil] at *; omega))⟩ (rl (by omega))
    ·have g29 := decide_eq_false h28
     refine ws g29 ?_
     refine ws g29 ?_
     refine ws g29 ?_
     refine ws g29 ?_
     refine ws g29 ?_
     refine ws g29 ?_
     refine ws g29 ?_
     refine ws g29 ?_
     refine wv (vpF g29) ?_
     refine nt' ?_
     refine CM_condF rfl rfl ?_
     refine CM_region (wm (wm (wm (wm ?_))))
     let K6 : List Value := [.int .i64 ((k13 : Nat) : Int), .int .i64 ((k13 : Nat) : Int), .slice A24 (spec_StabSet_m x0 x1 ((k13 : Nat) : Int)).length c25]
     refine wv (fun W hm => rv_build (cs := K6) rfl (by kernel_rfl)) ?_
     refine WM_build (cs := K6) underlying64 type86 rfl (by decide) (by decide) rfl (by kernel_rfl) (Wd_none rfl) (by decide) (fun p49 => ?_)
     refine ap1 tySpan 86 (.slice A15 d14.length c16) d14 (⟨((k13 : Nat) : Int), ((k13 : Nat) : Int), (spec_StabSet_m x0 x1 ((k13 : Nat) : Int))⟩ : DSpan) [iOwn (tSl tInt 3) [.slice A24 (spec_StabSet_m x0 x1 ((k13 : Nat) : Int)).length c25] (spec_StabSet_m x0 x1 ((k13 : Nat) : Int))] [] K6 (pk [0, 2, 1]) (fun _ _ hs => Els.single (tySpan_join (x := (⟨((k13 : Nat) : Int), ((k13 : Nat) : Int), (spec_StabSet_m x0 x1 ((k13 : Nat) : Int))⟩ : DSpan)) hs)) underlying64 type86 (show (d14.length + 1) * 40 ≤ 140737488355328 from by omega) (fun v50 => ?_)
     refine WM_form (n := 0) rfl ?_
     rintro A51 c52 rfl m53
     refine wa (WM_nil (QM_block_normal (QM_then (CM_region (wm ?_)))))
     refine wv (vadN k13 1 (by omega)) ?_
     refine wa (WM_nil ?_)
     have hn55 := rng_next (R := (List DSpan)) (body := F1) (k := k13) (s := d14) (s' := (d14 ++ [(⟨((k13 : Nat) : Int), ((k13 : Nat) : Int), (spec_StabSet_m x0 x1 ((k13 : Nat) : Int))⟩ : DSpan)])) (show k13 < 100 from by omega) (cond_f g29 (rfl)) hF18
     exact QM_round (k13 + 1, (d14 ++ [(⟨((k13 : Nat) : Int), ((k13 : Nat) : Int), (spec_StabSet_m x0 x1 ((k13 : Nat) : Int))⟩ : DSpan)]), (A51, c52)) sl4 (fun W hm => hm) ⟨(by omega), hn55, (show (d14 ++ [(⟨((k13 : Nat) : Int), ((k13 : Nat) : Int), (spec_StabSet_m x0 x1 ((k13 : Nat) : Int))⟩ : DSpan)]).length ≤ 0 + (k13 + 1) from by first | omega | (simp only [List.length_append, List.length_cons, List.length_nil] at *; omega))⟩ (rl (by omega))
   ·have g22 : (decide (((k13 : Nat) : Int) ≤ 99)) = false := decide_eq_false (by omega)
    refine CM_condF rfl g22 ?_
    refine CM_exit (QM_then_exit (QM_then_exit ?_))
    have hE56 : R2 (100 - 0) 0 [] = Sum.inr d14 := rng_end hl21 hF18
    refine QM_block_hit (QM_then (sr (wm (wa (nt' (CM_ret ?_))))))
    have he57 := (show spec_StabIndex_m x0 x1 = d14 from cond_t g10 (cond_t g12 (fin_inr hE56 (rfl))))
    refine QM_r1 rfl (RR_tmp rfl) (fun W hm => ⟨.slice A15 d14.length c16, ?_, ?_⟩)
    ·first | rw [he57] | rfl
    ·rw [he57]; exact hm
  ·
   refine CM_condT rfl (nf g12) ?_
   refine sr (wm (wa (nt' (CM_ret (QM_then_ret ?_)))))
   have he58 := (show spec_StabIndex_m x0 x1 = [] from cond_t g10 (cond_f g12 (rfl)))
   refine QM_r1 rfl (RR_tmp rfl) (fun W hm => ⟨.slice (some ⟨p7, 0, none⟩) 0 0, ?_, ?_⟩)
   ·first | rw [he58] | rfl
   ·rw [he58]; exact hm
 ·
  refine ws (nf g10) ?_
  refine ws (nf g10) ?_
  refine ws (nf g10) ?_
  refine wv (vpT (nf g10)) ?_
  refine nt' ?_
  refine CM_condT rfl rfl ?_
  refine sr (wm (wa (nt' (CM_ret (QM_then_ret ?_)))))
  have he59 := (show spec_StabIndex_m x0 x1 = [] from cond_f g10 (rfl))
  refine QM_r1 rfl (RR_tmp rfl) (fun W hm => ⟨.slice (some ⟨p7, 0, none⟩) 0 0, ?_, ?_⟩)
  ·first | rw [he59] | rfl
  ·rw [he59]; exact hm

def spec_BuildIndex_b1 (x0 : (List DQuery)) (k16 : Nat) (d19 : (List (List DSpan))) : DIndex ⊕ ((List (List DSpan))) :=
 Sum.inr (d19 ++ [(spec_StabIndex_m x0 ((k16 : Nat) : Int))])
def spec_BuildIndex_m (x0 : (List DQuery)) : DIndex :=
 cond (spec_AreQueries_m x0) (Sum.elim id (fun (s : (List (List DSpan))) => (⟨x0, s⟩ : DIndex)) (rng (R := DIndex) (fun k (s : (List (List DSpan))) => spec_BuildIndex_b1 x0 k s) (3 - 0) 0 [])) (⟨[], []⟩ : DIndex)
theorem cb47 : Cb Try.prog 47 := ⟨f47, _, func47, rfl, by decide⟩
theorem spec_BuildIndex_c (w : World) (z0 : Value) (x0 : (List DQuery)) (r_0 : rdS tyQuery w w.heap.size z0 x0) (s_0 : (x0.length ≤ 68719476736 ∧ ∀ y ∈ x0, smQuery 68719476736 y)) :
  Calls Try.prog 47 #[z0] w fun e w' => ∃ v : List Value, e = .returned (.agg v.toArray) ∧ Mem w.heap.size w [iOwn tyIndex v (spec_BuildIndex_m x0)] w' := by
 obtain ⟨m1, A2, c3, rfl, q4, r5⟩ := rdS_op r_0
 have l6 : x0.length ≤ 68719476736 := s_0.1
 refine ce1 (L := [(0, .slice A2 x0.length c3)]) (N := 25) func47 ?_
 refine sr ?_
 refine WM_alloc type27 rfl (Wd_none rfl) (by decide) (fun p7 => ?_)
 refine nt' (CM_seq (sr (wm ?_)))
 refine wcv (cl_fn cb32 rfl) (fun W hm => spec_AreQueries_c W _ x0 (hm.rdS0 r5)) ?_
 refine wv vnot ?_
 refine nt' ?_
 rcases Bool.eq_false_or_eq_true (spec_AreQueries_m x0) with g9 | g9
 ·
  refine CM_condF rfl (nt g9) ?_
  refine CM_skip (QM_then (sr (wm ?_)))
  refine wcl (tSl tyQuery 39) x0 (cl_fn cb71 rfl) (fun W hm => spec_l6Queries_c2 W _ x0 (hm.rdS0 r5) s_0) (fun z10 => ?_)
  refine WM_form (n := 0) rfl ?_
  rintro A11 c12 rfl m13
  refine wv (fun W hm => rv_build (cs := [.slice A11 x0.length c12, .slice none 0 0]) rfl (by kernel_rfl)) ?_
  refine WM_alloc type27 rfl (Wd_none rfl) (by decide) (fun p15 => ?_)
  let I4 : It := iOwn (tSl tyQuery 39) [.slice A11 x0.length c12] x0
  let I5 : It := iBox p7 27 [.slice none 0 0, .slice none 0 0]
  refine sb 0 [.slice A11 x0.length c12, .slice none 0 0] [I4, I5] (fun W hm => hm) type27 ?_
  refine nt' (CM_seq (sr (wa (nt' (CM_block ?_)))))
  refine CM_items (fun W hm => (hm.addNil (E := (tSl tySpan 86)) (e := 64)).last) ?_
  let F1 := fun k (s : (List (List DSpan))) => spec_BuildIndex_b1 x0 k s
  let R2 := rng (R := DIndex) F1
  refine CM_loop (σ := Nat × ((List (List DSpan))) × (Option Addr × Nat)) (fun s => [(0, .slice A2 x0.length c3), (2, .pointer (some (⟨p7, 0, none⟩ : Addr))), (3, .pointer (some (⟨p15, 0, none⟩ : Addr))), (4, .int .i64 ((s.1 : Nat) : Int))]) (fun s => [iBox p15 27 [.slice A11 x0.length c12, .slice s.2.2.1 s.2.1.length s.2.2.2], I4, I5, iOwn (tSl (tSl tySpan 86) 64) [.slice s.2.2.1 s.2.1.length s.2.2.2] s.2.1]) (fun s => s.1 ≤ 3 ∧ R2 (3 - s.1) s.1 s.2.1 = R2 (3 - 0) 0 [] ∧ s.2.1.length ≤ 0 + s.1) (fun s => 3 - s.1) (0, [], (none, 0)) sl4 (fun W hm => hm) ⟨(by omega), rfl, Nat.le_refl _⟩ ?_
  rintro ⟨k16, d19, ⟨A20, c21⟩⟩ H24
  obtain ⟨hk22, hF23, hi25⟩ : k16 ≤ 3 ∧ R2 (3 - k16) k16 d19 = R2 (3 - 0) 0 [] ∧ d19.length ≤ 0 + k16 := H24
  let I6 : It := iBox p15 27 [.slice A11 x0.length c12, .slice A20 d19.length c21]
  let I7 : It := iOwn (tSl (tSl tySpan 86) 64) [.slice A20 d19.length c21] d19
  show CM Try.prog 25 _ _ _ _ [(0, .slice A2 x0.length c3), (2, .pointer (some (⟨p7, 0, none⟩ : Addr))), (3, .pointer (some (⟨p15, 0, none⟩ : Addr))), (4, .int .i64 ((k16 : Nat) : Int))] [I6, I4, I5, I7]
  refine CM_seq (sr (wm ?_))
  refine wv vlss ?_
  refine nt' ?_
  by_cases hl26 : k16 < 3
  ·have g27 : (decide (((k16 : Nat) : Int) < 3)) = true := decide_eq_true (by omega)
   refine CM_condT rfl g27 ?_
   refine CM_skip (QM_then (CM_seq (CM_block ?_)))
   refine rd2 9 [8] (s := [I4, I5]) (s2 := [I6, I4, I5]) (pk [1, 2]) (pk [0, 1, 2]) ?_
   refine qtD 9 0 1 rfl (vf underlying27 rfl type25) ?_
   refine qtD 9 1 3 rfl (vl 0 1 underlying25) ?_
   refine qtD 9 2 7 rfl vmv ?_
   refine qtD 9 3 15 rfl vmv ?_
   refine qoD 9 4 31 rfl ?_
   refine wcl (tSl tySpan 86) (spec_StabIndex_m x0 ((k16 : Nat) : Int)) (cl_fn cb34 rfl) (fun W hm => spec_StabIndex_c W _ x0 ((k16 : Nat) : Int) (hm.rdS0 r5) s_0) (fun z28 => ?_)
   refine WM_form (n := 0) rfl ?_
   rintro A29 c30 rfl m31
   refine qnD (pk [2, 3]) (pk [1, 2, 3]) ?_
   refine qoD 9 5 63 rfl ?_
   let K3 : List Value := [.slice A29 (spec_StabIndex_m x0 ((k16 : Nat) : Int)).length c30]
   refine WM_build (cs := K3) underlying25 type64 rfl (by decide) (by decide) rfl (by kernel_rfl) (Wd_none rfl) (by decide) (fun p33 => ?_)
   refine qnD (pk [3, 4]) (pk [2, 3, 4]) ?_
   refine qoD 9 6 127 rfl ?_
   refine ap1 (tSl tySpan 86) 64 (.slice A20 d19.length c21) d19 (spec_StabIndex_m x0 ((k16 : Nat) : Int)) [iOwn (tSl tySpan 86) K3 (spec_StabIndex_m x0 ((k16 : Nat) : Int))] [I6, I4, I5] K3 (pk [0, 5, 1, 2, 3, 4]) (fun _ _ hs => Els.single (Sep.one hs)) underlying25 type64 (show (d19.length + 1) * 24 ≤ 140737488355328 from by omega) (fun v34 => ?_)
   refine WM_form (n := 0) rfl ?_
   rintro A35 c36 rfl m37
   refine qnD (pk [2, 3]) (pk [1, 2, 3]) ?_
   refine qtD 9 7 255 rfl (vf underlying27 rfl type25) ?_
   refine qoD 9 8 511 rfl ?_
   refine sb 1 [.slice A11 x0.length c12, .slice A35 (d19 ++ [(spec_StabIndex_m x0 ((k16 : Nat) : Int))]).length c36] [iOwn (tSl (tSl tySpan 86) 64) [.slice A35 (d19 ++ [(spec_StabIndex_m x0 ((k16 : Nat) : Int))]).length c36] (d19 ++ [(spec_StabIndex_m x0 ((k16 : Nat) : Int))]), I4, I5] (pk [1, 0, 2, 3]) type25 ?_
   refine qxD (pk [2, 3]) ?_
   refine QB_done (by kernel_rfl) ?_
   refine QM_block_normal (QM_then (CM_region (wm ?_)))
   refine wv (vadN k16 1 (by omega)) ?_
   refine wa (WM_nil ?_)
   have hn39 := rng_next (R := DIndex) (body := F1) (k := k16) (s := d19) (s' := (d19 ++ [(spec_StabIndex_m x0 ((k16 : Nat) : Int))])) (show k16 < 3 from by omega) (rfl) hF23
   exact QM_round (k16 + 1, (d19 ++ [(spec_StabIndex_m x0 ((k16 : Nat) : Int))]), (A35, c36)) sl4 (pk [0, 2, 3, 1]) ⟨(by omega), hn39, (show (d19 ++ [(spec_StabIndex_m x0 ((k16 : Nat) : Int))]).length ≤ 0 + (k16 + 1) from by first | omega | (simp only [List.length_append, List.length_cons, List.length_nil] at *; omega))⟩ (rl (by omega))
  ·have g27 : (decide (((k16 : Nat) : Int) < 3)) = false := decide_eq_false (by omega)
   refine CM_condF rfl g27 ?_
   refine CM_exit (QM_then_exit (QM_then_exit ?_))
   have hE40 : R2 (3 - 0) 0 [] = Sum.inr d19 := rng_end hl26 hF23
   refine QM_block_hit (QM_then (sr ?_))
   refine wv (fun W hm => rv_loadN (cs := [.slice A11 x0.length c12, .slice A20 d19.length c21]) underlying27 type27 rfl rfl (hm.boxCells (n := 0) rfl)) ?_
   refine sb 0 [.slice A11 x0.length c12, .slice A20 d19.length c21] [I6, I4, I7] (pk [2, 0, 1, 3]) type27 ?_
   refine nt' (CM_ret ?_)
   let I8 : It := iOwn (tPa (tSl tySpan 86) 64) [.slice A20 d19.length c21] d19
   refine QM_items (js := (I8 :: [iBox p7 27 [.slice A11 x0.length c12, .slice A20 d19.length c21], I6, I4])) (fun W hm => Mem.toPa (hm.pick [3, 0, 1, 2] (by decide))) ?_
   have he41 := (show spec_BuildIndex_m x0 = (⟨x0, d19⟩ : DIndex) from cond_t g9 (fin_inr hE40 (rfl)))
   refine QM_r1 rfl (RR_cell (n := 1) rfl rfl underlying27 type27 rfl) (fun W hm => ⟨[.slice A11 x0.length c12, .slice A20 d19.length c21], ?_, ?_⟩)
   ·first | rw [he41] | rfl
   ·rw [he41]; exact Mem.join (is := [I4, I8]) (js := []) (fun _ _ hs => tyIndex_join (x := (⟨x0, d19⟩ : DIndex)) hs) (hm.pick [3, 0] (by decide))
 ·
  refine CM_condT rfl (nf g9) ?_
  refine sr ?_
  refine wv (fun W hm => rv_build (cs := [.slice none 0 0, .slice none 0 0]) rfl (by kernel_rfl)) ?_
  refine sb 0 [.slice none 0 0, .slice none 0 0] [] (fun W hm => hm) type27 ?_
  refine nt' (CM_ret (QM_then_ret ?_))
  refine QM_items (fun W hm => hm.addNil (E := tyQuery) (e := 39)) ?_
  refine QM_items (fun W hm => hm.addNil (E := (tSl tySpan 86)) (e := 64)) ?_
  let I9 : It := iOwn (tPa (tSl tySpan 86) 64) [.slice none 0 0] []
  refine QM_items (js := (I9 :: [iOwn (tSl tyQuery 39) [.slice none 0 0] [], iBox p7 27 [.slice none 0 0, .slice none 0 0]])) (fun W hm => Mem.toPa hm) ?_
  have he44 := (show spec_BuildIndex_m x0 = (⟨[], []⟩ : DIndex) from cond_f g9 (rfl))
  refine QM_r1 rfl (RR_cell (n := 2) rfl rfl underlying27 type27 rfl) (fun W hm => ⟨[.slice none 0 0, .slice none 0 0], ?_, ?_⟩)
  ·first | rw [he44] | rfl
  ·rw [he44]; exact Mem.join (is := [iOwn (tSl tyQuery 39) [.slice none 0 0] [], I9]) (js := []) (fun _ _ hs => tyIndex_join (x := (⟨[], []⟩ : DIndex)) hs) (hm.pick [1, 0] (by decide))

theorem rngb_invP {R S : Type} {b : Nat → S → R ⊕ (S ⊕ S)} {P : Nat → S → Prop} {Q : S → Prop} (h : ∀ k s, P k s → (∃ s', b k s = .inr (.inr s') ∧ P (k + 1) s') ∨ ∃ s', b k s = .inr (.inl s') ∧ Q s') : ∀ m k s, P k s → ∃ s', rngb b m k s = .inr s' ∧ (Q s' ∨ P (k + m) s')
  | 0, _, s, hp => ⟨s, rfl, .inr hp⟩
  | m + 1, k, s, hp => by
    rcases h k s hp with ⟨s', h1, h2⟩ | ⟨s', h1, h2⟩
    · obtain ⟨s'', h3, h4⟩ := rngb_invP (P := P) (Q := Q) h m (k + 1) s' h2
      exact ⟨s'', by rw [rngb, h1]; exact h3, by rw [show k + (m + 1) = k + 1 + m by omega]; exact h4⟩
    · exact ⟨s', by rw [rngb, h1]; rfl, .inl h2⟩
theorem cond_ex {R S : Type} {P : S → Prop} {c : Bool} {A B : R ⊕ S} (h1 : ∃ s', A = .inr s' ∧ P s') (h2 : ∃ s', B = .inr s' ∧ P s') : ∃ s', cond c A B = .inr s' ∧ P s' := by cases c <;> assumption
theorem spec_l4Query_outs {id_ : DQuery × Dl1Cur → DQuery × Dl1Cur} (b : List Int) (c : List DCond) (t id : Int) : ∀ (m k : Nat) (s : Int × Nat × Int × (List Int)), (s.1 ≤ 3 ∧ s.2.2.2.length + s.1.toNat ≤ 3) → (Sum.elim id_ (fun (s : Int × Nat × Int × (List Int)) => ((⟨id, t, c, s.2.2.2⟩ : DQuery), (⟨s.2.1, s.2.2.1⟩ : Dl1Cur))) (rngb (R := (DQuery × Dl1Cur)) (fun k (s : Int × Nat × Int × (List Int)) => spec_l4Query_b2 b k s.1 s.2.1 s.2.2.1 s.2.2.2) m k s)).1.Conds = c ∧ (Sum.elim id_ (fun (s : Int × Nat × Int × (List Int)) => ((⟨id, t, c, s.2.2.2⟩ : DQuery), (⟨s.2.1, s.2.2.1⟩ : Dl1Cur))) (rngb (R := (DQuery × Dl1Cur)) (fun k (s : Int × Nat × Int × (List Int)) => spec_l4Query_b2 b k s.1 s.2.1 s.2.2.1 s.2.2.2) m k s)).1.Out.length ≤ 3 := fun m k s hs => by
  obtain ⟨s', e1, e2⟩ := rngb_invP (R := (DQuery × Dl1Cur)) (b := fun k (s : Int × Nat × Int × (List Int)) => spec_l4Query_b2 b k s.1 s.2.1 s.2.2.1 s.2.2.2) (P := fun _ s => s.1 ≤ 3 ∧ s.2.2.2.length + s.1.toNat ≤ 3) (Q := fun s => s.2.2.2.length ≤ 3) (fun k s ⟨p1, p2⟩ => by
    show (∃ s', spec_l4Query_b2 b k s.1 s.2.1 s.2.2.1 s.2.2.2 = _ ∧ _) ∨ ∃ s', spec_l4Query_b2 b k s.1 s.2.1 s.2.2.1 s.2.2.2 = _ ∧ _
    unfold spec_l4Query_b2
    by_cases h : 0 < s.1
    · rw [decide_eq_true h, wrap_id (n := s.1 - 1) (by omega) (by omega)]
      refine .inl ⟨_, rfl, ?_, ?_⟩
      · show s.1 - 1 ≤ 3; omega
      · show (s.2.2.2 ++ [_]).length + (s.1 - 1).toNat ≤ 3; rw [List.length_append]; show s.2.2.2.length + 1 + _ ≤ 3; omega
    · rw [decide_eq_false h]
      exact .inr ⟨_, rfl, by show s.2.2.2.length ≤ 3; omega⟩) m k s hs
  rw [e1]
  refine ⟨rfl, ?_⟩
  show s'.2.2.2.length ≤ 3
  rcases e2 with h | h <;> omega
theorem spec_l4Query_fact (b : List Int) (D : Dl1Cur) (i : Int) : (spec_l4Query_m b D i).1.Conds.length ≤ 3 ∧ (spec_l4Query_m b D i).1.Out.length ≤ 3 := by
  unfold spec_l4Query_m
  obtain ⟨s1, e1, h1⟩ := rng_inv (R := DQuery × Dl1Cur) (body := fun k (s : Nat × Int × List DCond) => spec_l4Query_b1 b D k s.1 s.2.1 s.2.2) (n := 3) (fun k s => s.2.2.length ≤ k) (fun k s _ h => by
    have happ : ∀ y, (s.2.2 ++ [y]).length ≤ k + 1 := fun y => by rw [List.length_append]; show s.2.2.length + 1 ≤ k + 1; omega
    have hkeep : s.2.2.length ≤ k + 1 := by omega
    show ∃ s', spec_l4Query_b1 b D k s.1 s.2.1 s.2.2 = .inr s' ∧ s'.2.2.length ≤ k + 1
    unfold spec_l4Query_b1
    repeat' (first | exact ⟨_, rfl, happ _⟩ | exact ⟨_, rfl, hkeep⟩ | apply cond_ex)) (3 - 0) 0 ((spec_l1PickInt_m b ((spec_l1Below_m b D 4).2) [3, 6, 100]).2.i, (spec_l1PickInt_m b ((spec_l1Below_m b D 4).2) [3, 6, 100]).2.h, []) (by omega) (Nat.zero_le _)
  rw [e1]
  have hb := spec_l1Below_rng b (⟨s1.1, s1.2.1⟩ : Dl1Cur) 3
  have hb' := hb.2.1 (by omega)
  have hw := wrap_id (n := 1 + (spec_l1Below_m b (⟨s1.1, s1.2.1⟩ : Dl1Cur) 3).1) (by omega) (by omega)
  have key := spec_l4Query_outs (id_ := id) b s1.2.2 (spec_l1Below_m b D 4).1 i ((IntKind.i64.wrap (1 + (spec_l1Below_m b (⟨s1.1, s1.2.1⟩ : Dl1Cur) 3).1)).toNat + 1 - 0) 0 ((IntKind.i64.wrap (1 + (spec_l1Below_m b (⟨s1.1, s1.2.1⟩ : Dl1Cur) 3).1)), (spec_l1Below_m b (⟨s1.1, s1.2.1⟩ : Dl1Cur) 3).2.i, (spec_l1Below_m b (⟨s1.1, s1.2.1⟩ : Dl1Cur) 3).2.h, []) ⟨(by show IntKind.i64.wrap _ ≤ 3; omega), (by show 0 + (IntKind.i64.wrap _).toNat ≤ 3; omega)⟩
  exact ⟨Nat.le_trans (Nat.le_of_eq (congrArg List.length key.1)) h1, key.2⟩
def spec_l4Any_m (x0b : List Int) (x0 : Dl1Cur) : (DQuery × Dl1Cur) :=
 cond (((spec_l1Below_m x0b (spec_l4Query_m x0b ((spec_l1Below_m x0b x0 9).2) ((spec_l1Below_m x0b x0 9).1)).2 10).1) == 0) ((⟨(spec_l1PickInt_m x0b ((spec_l1Below_m x0b (spec_l4Query_m x0b ((spec_l1Below_m x0b x0 9).2) ((spec_l1Below_m x0b x0 9).1)).2 10).2) [(-1), 23, 24]).1, (spec_l4Query_m x0b ((spec_l1Below_m x0b x0 9).2) ((spec_l1Below_m x0b x0 9).1)).1.Tenant, (spec_l4Query_m x0b ((spec_l1Below_m x0b x0 9).2) ((spec_l1Below_m x0b x0 9).1)).1.Conds, (spec_l4Query_m x0b ((spec_l1Below_m x0b x0 9).2) ((spec_l1Below_m x0b x0 9).1)).1.Out⟩ : DQuery), (spec_l1PickInt_m x0b ((spec_l1Below_m x0b (spec_l4Query_m x0b ((spec_l1Below_m x0b x0 9).2) ((spec_l1Below_m x0b x0 9).1)).2 10).2) [(-1), 23, 24]).2) (cond (((spec_l1Below_m x0b (spec_l4Query_m x0b ((spec_l1Below_m x0b x0 9).2) ((spec_l1Below_m x0b x0 9).1)).2 10).1) == 1) ((⟨(spec_l4Query_m x0b ((spec_l1Below_m x0b x0 9).2) ((spec_l1Below_m x0b x0 9).1)).1.Id, (spec_l1PickInt_m x0b ((spec_l1Below_m x0b (spec_l4Query_m x0b ((spec_l1Below_m x0b x0 9).2) ((spec_l1Below_m x0b x0 9).1)).2 10).2) [(-1), 3, 4]).1, (spec_l4Query_m x0b ((spec_l1Below_m x0b x0 9).2) ((spec_l1Below_m x0b x0 9).1)).1.Conds, (spec_l4Query_m x0b ((spec_l1Below_m x0b x0 9).2) ((spec_l1Below_m x0b x0 9).1)).1.Out⟩ : DQuery), (spec_l1PickInt_m x0b ((spec_l1Below_m x0b (spec_l4Query_m x0b ((spec_l1Below_m x0b x0 9).2) ((spec_l1Below_m x0b x0 9).1)).2 10).2) [(-1), 3, 4]).2) (cond (((spec_l1Below_m x0b (spec_l4Query_m x0b ((spec_l1Below_m x0b x0 9).2) ((spec_l1Below_m x0b x0 9).1)).2 10).1) == 2) ((⟨(spec_l4Query_m x0b ((spec_l1Below_m x0b x0 9).2) ((spec_l1Below_m x0b x0 9).1)).1.Id, (spec_l4Query_m x0b ((spec_l1Below_m x0b x0 9).2) ((spec_l1Below_m x0b x0 9).1)).1.Tenant, ((spec_l4Query_m x0b ((spec_l1Below_m x0b x0 9).2) ((spec_l1Below_m x0b x0 9).1)).1.Conds ++ [(⟨(spec_l1Below_m x0b ((spec_l1Below_m x0b (spec_l4Query_m x0b ((spec_l1Below_m x0b x0 9).2) ((spec_l1Below_m x0b x0 9).1)).2 10).2) 4).1, 3, (spec_l1PickInt_m x0b (spec_l1Below_m x0b ((spec_l1Below_m x0b (spec_l4Query_m x0b ((spec_l1Below_m x0b x0 9).2) ((spec_l1Below_m x0b x0 9).1)).2 10).2) 4).2 [2, 3, 99, 100]).1⟩ : DCond)]), (spec_l4Query_m x0b ((spec_l1Below_m x0b x0 9).2) ((spec_l1Below_m x0b x0 9).1)).1.Out⟩ : DQuery), (spec_l1PickInt_m x0b (spec_l1Below_m x0b ((spec_l1Below_m x0b (spec_l4Query_m x0b ((spec_l1Below_m x0b x0 9).2) ((spec_l1Below_m x0b x0 9).1)).2 10).2) 4).2 [2, 3, 99, 100]).2) (cond (((spec_l1Below_m x0b (spec_l4Query_m x0b ((spec_l1Below_m x0b x0 9).2) ((spec_l1Below_m x0b x0 9).1)).2 10).1) == 3) ((⟨(spec_l4Query_m x0b ((spec_l1Below_m x0b x0 9).2) ((spec_l1Below_m x0b x0 9).1)).1.Id, (spec_l4Query_m x0b ((spec_l1Below_m x0b x0 9).2) ((spec_l1Below_m x0b x0 9).1)).1.Tenant, (spec_l4Query_m x0b ((spec_l1Below_m x0b x0 9).2) ((spec_l1Below_m x0b x0 9).1)).1.Conds, ((spec_l4Query_m x0b ((spec_l1Below_m x0b x0 9).2) ((spec_l1Below_m x0b x0 9).1)).1.Out ++ [(spec_l1PickInt_m x0b ((spec_l1Below_m x0b (spec_l4Query_m x0b ((spec_l1Below_m x0b x0 9).2) ((spec_l1Below_m x0b x0 9).1)).2 10).2) [(-1), 0, 3]).1])⟩ : DQuery), (spec_l1PickInt_m x0b ((spec_l1Below_m x0b (spec_l4Query_m x0b ((spec_l1Below_m x0b x0 9).2) ((spec_l1Below_m x0b x0 9).1)).2 10).2) [(-1), 0, 3]).2) ((spec_l4Query_m x0b ((spec_l1Below_m x0b x0 9).2) ((spec_l1Below_m x0b x0 9).1)).1, ((spec_l1Below_m x0b (spec_l4Query_m x0b ((spec_l1Below_m x0b x0 9).2) ((spec_l1Below_m x0b x0 9).1)).2 10).2)))))
theorem cb49 : Cb Try.prog 49 := ⟨f49, _, func49, rfl, by decide⟩
theorem spec_l4Any_c (B : Nat) (w0 : World) (is : List It) (w : World) (p : Nat) (z0 : Value) (x0b : List Int) (x0 : Dl1Cur) (r_0 : rdS tU8 w0 B z0 x0b) (s_0 : x0b.length ≤ 68719476736) (hm : Mem B w0 (iBox p 74 [z0, .int .i64 ((x0.i : Nat) : Int), .int .i64 x0.h] :: is) w) :
  Calls Try.prog 49 #[.pointer (some ⟨p, 0, none⟩)] w fun e w' => ∃ x : List Value, e = .returned (.agg x.toArray) ∧ Mem B w0 (iOwn tyQuery x ((spec_l4Any_m x0b x0).1) :: iBox p 74 [z0, .int .i64 ((((spec_l4Any_m x0b x0).2).i : Nat) : Int), .int .i64 ((spec_l4Any_m x0b x0).2).h] :: is) w' := by
 obtain ⟨m1, A2, c3, rfl, q4, r5⟩ := rdS_op r_0
 refine call_enterW (L := [(0, .pointer (some ⟨p, 0, none⟩))]) (N := 46) func49 rfl rfl (Nat.le_of_ble_eq_true rfl) (argsL_cons rfl argsL_nil) hm ?_
 have l6 : x0b.length ≤ 68719476736 := s_0
 refine sr ?_
 refine WM_alloc type39 rfl (Wd_none rfl) (by decide) (fun p7 => ?_)
 refine nt' (sr (wm (wm ?_)))
 let K1 : List Value := [.int .i64 0, .int .i64 0, .slice none 0 0, .slice none 0 0]
 refine WM_callW (χ := Unit) (val := fun x => .int .i64 ((spec_l1Below_m x0b x0 9).1)) (js := fun x => (iBox p 74 [.slice A2 x0b.length c3, .int .i64 ((((spec_l1Below_m x0b x0 9).2).i : Nat) : Int), .int .i64 ((spec_l1Below_m x0b x0 9).2).h] :: (iBox p7 39 K1 :: is))) (cl_fn cb41 rfl) (fun W hm => spec_l1Below_c B w0 (iBox p7 39 K1 :: is) W p _ x0b x0 r5 9 s_0 (hm.front (n := 1) rfl)) (Wd_none rfl) (by decide) (fun z8 => ?_)
 have hb := spec_l1Below_rng x0b x0 9
 refine WM_callW (χ := List Value) (val := fun x => .agg x.toArray) (js := fun x => (iOwn tyQuery x ((spec_l4Query_m x0b ((spec_l1Below_m x0b x0 9).2) ((spec_l1Below_m x0b x0 9).1)).1) :: iBox p 74 [.slice A2 x0b.length c3, .int .i64 ((((spec_l4Query_m x0b ((spec_l1Below_m x0b x0 9).2) ((spec_l1Below_m x0b x0 9).1)).2).i : Nat) : Int), .int .i64 ((spec_l4Query_m x0b ((spec_l1Below_m x0b x0 9).2) ((spec_l1Below_m x0b x0 9).1)).2).h] :: (iBox p7 39 K1 :: is))) (cl_fn cb72 rfl) (fun W hm => spec_l4Query_c B w0 (iBox p7 39 K1 :: is) W p _ x0b ((spec_l1Below_m x0b x0 9).2) r5 ((spec_l1Below_m x0b x0 9).1) s_0 (hm.front (n := 0) rfl)) (Wd_none rfl) (by decide) (fun z9 => ?_)
 have hqf := spec_l4Query_fact x0b ((spec_l1Below_m x0b x0 9).2) ((spec_l1Below_m x0b x0 9).1)
 obtain ⟨G10, hG10⟩ : ∃ G, G = (spec_l4Query_m x0b ((spec_l1Below_m x0b x0 9).2) ((spec_l1Below_m x0b x0 9).1)) := ⟨_, rfl⟩
 rw [← hG10]
 rw [← hG10] at hqf
 refine tyQuery_sp ?_
 rintro ⟨v11, v12⟩ rfl
 refine WM_form (n := 0) rfl ?_
 rintro A13 c14 rfl m15
 refine WM_form (n := 1) rfl ?_
 rintro A17 c18 rfl m19
 refine WM_alloc type39 rfl (Wd_none rfl) (by decide) (fun p21 => ?_)
 let K2 : List Value := [.int .i64 G10.1.Id, .int .i64 G10.1.Tenant, .slice A13 G10.1.Conds.length c14, .slice A17 G10.1.Out.length c18]
 refine WM_storeBox (p := p21) (o := 0) (cs' := K2) (fun w hm => hm.front (n := 0) rfl) type39 rfl (Nat.le_of_ble_eq_true rfl) rfl rfl rfl rfl (Wd_none rfl) ?_
 refine nt' (CM_seq (sr (wm ?_)))
 let I13 : It := iOwn (tSl tyCond 90) [.slice A13 G10.1.Conds.length c14] G10.1.Conds
 let I14 : It := iOwn (tSl tInt 3) [.slice A17 G10.1.Out.length c18] G10.1.Out
 refine WM_callW (χ := Unit) (val := fun x => .int .i64 ((spec_l1Below_m x0b G10.2 10).1)) (js := fun x => (iBox p 74 [.slice A2 x0b.length c3, .int .i64 ((((spec_l1Below_m x0b G10.2 10).2).i : Nat) : Int), .int .i64 ((spec_l1Below_m x0b G10.2 10).2).h] :: (iBox p21 39 K2 :: I13 :: I14 :: iBox p7 39 K1 :: is))) (cl_fn cb41 rfl) (fun W hm => spec_l1Below_c B w0 (iBox p21 39 K2 :: I13 :: I14 :: iBox p7 39 K1 :: is) W p _ x0b G10.2 r5 10 s_0 (hm.front (n := 3) rfl)) (Wd_none rfl) (by decide) (fun z22 => ?_)
 have hb := spec_l1Below_rng x0b G10.2 10
 refine nt' (CM_block (sr ?_))
 refine wv (fun W hm => rv_eql rfl rfl) ?_
 refine wa (nt' ?_)
 by_cases h23 : ((spec_l1Below_m x0b G10.2 10).1) = 0
 ·have g24 := beq_iff_eq.2 h23
  refine CM_condT rfl g24 ?_
  refine CM_region (wm ?_)
  refine WM_build (cs := [.int .i64 (-1), .int .i64 23, .int .i64 24]) underlying37 type3 rfl (by decide) (by decide) rfl (by kernel_rfl) (Wd_none rfl) (by decide) (fun p25 => ?_)
  refine WM_items (fun W hm => Mem.litOwn (E := tInt) (xs := [(-1), 23, 24]) rfl (show 3 ≤ maxLen from by decide) (fun _ => (els_cons (E := tInt) (L1 := []) tInt_own (els_cons (E := tInt) (L1 := []) tInt_own (els_cons (E := tInt) (L1 := []) tInt_own els_nil)))) (hm.front (n := 0) rfl)) ?_
  let I15 : It := iOwn (tSl tInt 3) [.slice (some ⟨p25, 0, none⟩) 3 3] [(-1), 23, 24]
  refine WM_callW (χ := Unit) (val := fun x => .int .i64 ((spec_l1PickInt_m x0b ((spec_l1Below_m x0b G10.2 10).2) [(-1), 23, 24]).1)) (js := fun x => (iBox p 74 [.slice A2 x0b.length c3, .int .i64 ((((spec_l1PickInt_m x0b ((spec_l1Below_m x0b G10.2 10).2) [(-1), 23, 24]).2).i : Nat) : Int), .int .i64 ((spec_l1PickInt_m x0b ((spec_l1Below_m x0b G10.2 10).2) [(-1), 23, 24]).2).h] :: I15 :: (iBox p21 39 K2 :: I13 :: I14 :: iBox p7 39 K1 :: is))) (cl_fn cb66 rfl) (fun W hm => spec_l1PickInt_c B w0 (iBox p21 39 K2 :: I13 :: I14 :: iBox p7 39 K1 :: is) W p _ x0b ((spec_l1Below_m x0b G10.2 10).2) r5 _ [(-1), 23, 24] s_0 (Nat.le_of_ble_eq_true rfl) (by first | decide | exact Nat.succ_pos _) ((hm.front (n := 0) rfl).front (n := 1) rfl)) (Wd_none rfl) (by decide) (fun z27 => ?_)
  obtain ⟨G28, hG28⟩ : ∃ G, G = (spec_l1PickInt_m x0b ((spec_l1Below_m x0b G10.2 10).2) [(-1), 23, 24]) := ⟨_, rfl⟩
  rw [← hG28]
  refine wv (vf underlying39 rfl type3) ?_
  let K3 : List Value := [.int .i64 G28.1, .int .i64 G10.1.Tenant, .slice A13 G10.1.Conds.length c14, .slice A17 G10.1.Out.length c18]
  refine WM_storeBox (p := p21) (o := 0) (cs' := K3) (fun w hm => hm.front (n := 2) rfl) type3 rfl (Nat.le_of_ble_eq_true rfl) rfl rfl rfl rfl (Wd_none rfl) ?_
  refine WM_nil (QM_block_normal (QM_then (sr ?_)))
  refine wv (fun W hm => rv_loadN (cs := K3) underlying39 type39 rfl rfl (hm.boxCells (n := 0) rfl)) ?_
  refine WM_storeBox (p := p7) (o := 0) (cs' := K3) (fun w hm => hm.front (n := 5) rfl) type39 rfl (Nat.le_of_ble_eq_true rfl) rfl rfl rfl rfl (Wd_none rfl) ?_
  refine nt' (CM_ret ?_)
  let K4 : List Value := [.slice A2 x0b.length c3, .int .i64 ((G28.2.i : Nat) : Int), .int .i64 G28.2.h]
  refine QM_items (js := (iOwn tyQuery K3 (⟨G28.1, G10.1.Tenant, G10.1.Conds, G10.1.Out⟩ : DQuery) :: (iBox p7 39 K3 :: iBox p21 39 K3 :: iBox p 74 K4 :: I15 :: is))) (fun W hm => Mem.join (is := [I13, I14]) (js := (iBox p7 39 K3 :: iBox p21 39 K3 :: iBox p 74 K4 :: I15 :: is)) (fun _ _ hs => tyQuery_join (x := (⟨G28.1, G10.1.Tenant, G10.1.Conds, G10.1.Out⟩ : DQuery)) hs) ((hm.front (n := 5) rfl).front (n := 5) rfl)) ?_
  have he29 := (show spec_l4Any_m x0b x0 = ((⟨G28.1, G10.1.Tenant, G10.1.Conds, G10.1.Out⟩ : DQuery), G28.2) from by subst hG10 hG28; exact cond_t g24 (rfl))
  refine QM_r1 rfl (RR_cell (n := 1) rfl rfl underlying39 type39 rfl) (fun W hm => ⟨K3, ?_, ?_⟩)
  ·first | rw [he29] | rfl
  ·rw [he29]; exact (((((hm.front (n := 3) rfl).front (n := 1) rfl).front (n := 2) rfl).tail.front (n := 2) rfl).tail.front (n := 2) rfl).tail
 ·have g24 := beq_eq_false_iff_ne.2 h23
  refine CM_condF rfl g24 ?_
  refine sr ?_
  refine wv (fun W hm => rv_eql rfl rfl) ?_
  refine wa (nt' ?_)
  by_cases h30 : ((spec_l1Below_m x0b G10.2 10).1) = 1
  ·have g31 := beq_iff_eq.2 h30
   refine CM_condT rfl g31 ?_
   refine CM_region (wm ?_)
   refine WM_build (cs := [.int .i64 (-1), .int .i64 3, .int .i64 4]) underlying37 type3 rfl (by decide) (by decide) rfl (by kernel_rfl) (Wd_none rfl) (by decide) (fun p32 => ?_)
   refine WM_items (fun W hm => Mem.litOwn (E := tInt) (xs := [(-1), 3, 4]) rfl (show 3 ≤ maxLen from by decide) (fun _ => (els_cons (E := tInt) (L1 := []) tInt_own (els_cons (E := tInt) (L1 := []) tInt_own (els_cons (E := tInt) (L1 := []) tInt_own els_nil)))) (hm.front (n := 0) rfl)) ?_
   let I16 : It := iOwn (tSl tInt 3) [.slice (some ⟨p32, 0, none⟩) 3 3] [(-1), 3, 4]
   refine WM_callW (χ := Unit) (val := fun x => .int .i64 ((spec_l1PickInt_m x0b ((spec_l1Below_m x0b G10.2 10).2) [(-1), 3, 4]).1)) (js := fun x => (iBox p 74 [.slice A2 x0b.length c3, .int .i64 ((((spec_l1PickInt_m x0b ((spec_l1Below_m x0b G10.2 10).2) [(-1), 3, 4]).2).i : Nat) : Int), .int .i64 ((spec_l1PickInt_m x0b ((spec_l1Below_m x0b G10.2 10).2) [(-1), 3, 4]).2).h] :: I16 :: (iBox p21 39 K2 :: I13 :: I14 :: iBox p7 39 K1 :: is))) (cl_fn cb66 rfl) (fun W hm => spec_l1PickInt_c B w0 (iBox p21 39 K2 :: I13 :: I14 :: iBox p7 39 K1 :: is) W p _ x0b ((spec_l1Below_m x0b G10.2 10).2) r5 _ [(-1), 3, 4] s_0 (Nat.le_of_ble_eq_true rfl) (by first | decide | exact Nat.succ_pos _) ((hm.front (n := 0) rfl).front (n := 1) rfl)) (Wd_none rfl) (by decide) (fun z34 => ?_)
   obtain ⟨G35, hG35⟩ : ∃ G, G = (spec_l1PickInt_m x0b ((spec_l1Below_m x0b G10.2 10).2) [(-1), 3, 4]) := ⟨_, rfl⟩
   rw [← hG35]
   refine wv (vf underlying39 rfl type3) ?_
   let K5 : List Value := [.int .i64 G10.1.Id, .int .i64 G35.1, .slice A13 G10.1.Conds.length c14, .slice A17 G10.1.Out.length c18]
   refine WM_storeBox (p := p21) (o := 1) (cs' := K5) (fun w hm => hm.front (n := 2) rfl) type3 rfl (Nat.le_of_ble_eq_true rfl) rfl rfl rfl rfl (Wd_none rfl) ?_
   refine WM_nil (QM_block_normal (QM_then (sr ?_)))
   refine wv (fun W hm => rv_loadN (cs := K5) underlying39 type39 rfl rfl (hm.boxCells (n := 0) rfl)) ?_
   refine WM_storeBox (p := p7) (o := 0) (cs' := K5) (fun w hm => hm.front (n := 5) rfl) type39 rfl (Nat.le_of_ble_eq_true rfl) rfl rfl rfl rfl (Wd_none rfl) ?_
   refine nt' (CM_ret ?_)
   let K6 : List Value := [.slice A2 x0b.length c3, .int .i64 ((G35.2.i : Nat) : Int), .int .i64 G35.2.h]
   refine QM_items (js := (iOwn tyQuery K5 (⟨G10.1.Id, G35.1, G10.1.Conds, G10.1.Out⟩ : DQuery) :: (iBox p7 39 K5 :: iBox p21 39 K5 :: iBox p 74 K6 :: I16 :: is))) (fun W hm => Mem.join (is := [I13, I14]) (js := (iBox p7 39 K5 :: iBox p21 39 K5 :: iBox p 74 K6 :: I16 :: is)) (fun _ _ hs => tyQuery_join (x := (⟨G10.1.Id, G35.1, G10.1.Conds, G10.1.Out⟩ : DQuery)) hs) ((hm.front (n := 5) rfl).front (n := 5) rfl)) ?_
   have he36 := (show spec_l4Any_m x0b x0 = ((⟨G10.1.Id, G35.1, G10.1.Conds, G10.1.Out⟩ : DQuery), G35.2) from by subst hG10 hG35; exact cond_f g24 (cond_t g31 (rfl)))
   refine QM_r1 rfl (RR_cell (n := 1) rfl rfl underlying39 type39 rfl) (fun W hm => ⟨K5, ?_, ?_⟩)
   ·first | rw [he36] | rfl
   ·rw [he36]; exact (((((hm.front (n := 3) rfl).front (n := 1) rfl).front (n := 2) rfl).tail.front (n := 2) rfl).tail.front (n := 2) rfl).tail
  ·have g31 := beq_eq_false_iff_ne.2 h30
   refine CM_condF rfl g31 ?_
   refine sr ?_
   refine wv (fun W hm => rv_eql rfl rfl) ?_
   refine wa (nt' ?_)
   by_cases h37 : ((spec_l1Below_m x0b G10.2 10).1) = 2
   ·have g38 := beq_iff_eq.2 h37
    refine CM_condT rfl g38 ?_
    obtain ⟨G39, hG39⟩ : ∃ G, G = (spec_l1Below_m x0b ((spec_l1Below_m x0b G10.2 10).2) 4) := ⟨_, rfl⟩
    refine rd2 12 [11] (s := (I14 :: iBox p7 39 K1 :: is)) (s2 := (iBox p21 39 K2 :: I14 :: iBox p7 39 K1 :: is)) (fun W hm => (((((hm.front (n := 4) rfl).front (n := 4) rfl).front (n := 2) rfl).tail.front (n := 2) rfl).tail.front (n := 2) rfl).tail) (fun W hm => (((((hm.front (n := 4) rfl).front (n := 4) rfl).front (n := 3) rfl).front (n := 3) rfl).tail.front (n := 3) rfl).tail) ?_
    let K7 : List Value := [.slice A2 x0b.length c3, .int .i64 ((G39.2.i : Nat) : Int), .int .i64 G39.2.h]
    refine QD_mid (σ := Nat) (fun s => (iBox p21 39 K2 :: I14 :: iBox p7 39 K1 :: is)) 12 63 6 (fun s => [(2, .pointer (some (⟨p7, 0, none⟩ : Addr))), (3, .pointer (some (⟨p21, 0, none⟩ : Addr))), (25, .slice A13 G10.1.Conds.length c14), (28, .pointer (some (⟨p, 0, none⟩ : Addr))), (27, .int .i64 G39.1), (29, .slice (some ⟨s, 0, none⟩) 4 4)]) (fun s => (iBox s 3 [.int .i64 2, .int .i64 3, .int .i64 99, .int .i64 100] :: iBox p 74 K7 :: iBox p21 39 K2 :: I13 :: I14 :: iBox p7 39 K1 :: is)) ?_ (fun H => ?_)
    ·
     rintro p41
     show QD _ _ _ _ _ _ _ _ [(2, .pointer (some (⟨p7, 0, none⟩ : Addr))), (3, .pointer (some (⟨p21, 0, none⟩ : Addr))), (25, .slice A13 G10.1.Conds.length c14), (28, .pointer (some (⟨p, 0, none⟩ : Addr))), (27, .int .i64 G39.1), (29, .slice (some ⟨p41, 0, none⟩) 4 4)] _ (iBox p21 39 K2 :: I14 :: iBox p7 39 K1 :: is) _ (iBox p41 3 [.int .i64 2, .int .i64 3, .int .i64 99, .int .i64 100] :: iBox p 74 K7 :: iBox p21 39 K2 :: I13 :: I14 :: iBox p7 39 K1 :: is)
     refine qoD 12 6 127 rfl ?_
     refine WM_items (fun W hm => Mem.litOwn (E := tInt) (xs := [2, 3, 99, 100]) rfl (show 4 ≤ maxLen from by decide) (fun _ => (els_cons (E := tInt) (L1 := []) tInt_own (els_cons (E := tInt) (L1 := []) tInt_own (els_cons (E := tInt) (L1 := []) tInt_own (els_cons (E := tInt) (L1 := []) tInt_own els_nil))))) (hm.front (n := 0) rfl)) ?_
     let I17 : It := iOwn (tSl tInt 3) [.slice (some ⟨p41, 0, none⟩) 4 4] [2, 3, 99, 100]
     refine WM_callW (χ := Unit) (val := fun x => .int .i64 ((spec_l1PickInt_m x0b G39.2 [2, 3, 99, 100]).1)) (js := fun x => (iBox p 74 [.slice A2 x0b.length c3, .int .i64 ((((spec_l1PickInt_m x0b G39.2 [2, 3, 99, 100]).2).i : Nat) : Int), .int .i64 ((spec_l1PickInt_m x0b G39.2 [2, 3, 99, 100]).2).h] :: I17 :: (iBox p21 39 K2 :: I13 :: I14 :: iBox p7 39 K1 :: is))) (cl_fn cb66 rfl) (fun W hm => spec_l1PickInt_c B w0 (iBox p21 39 K2 :: I13 :: I14 :: iBox p7 39 K1 :: is) W p _ x0b G39.2 r5 _ [2, 3, 99, 100] s_0 (Nat.le_of_ble_eq_true rfl) (by first | decide | exact Nat.succ_pos _) ((hm.front (n := 0) rfl).front (n := 1) rfl)) (Wd_none rfl) (by decide) (fun z43 => ?_)
     obtain ⟨G44, hG44⟩ : ∃ G, G = (spec_l1PickInt_m x0b G39.2 [2, 3, 99, 100]) := ⟨_, rfl⟩
     rw [← hG44]
     refine qnD (fun W hm => ((((((hm.front (n := 5) rfl).front (n := 5) rfl).front (n := 2) rfl).tail.front (n := 2) rfl).tail.front (n := 2) rfl).tail.front (n := 2) rfl).tail) (fun W hm => ((((((hm.front (n := 5) rfl).front (n := 5) rfl).front (n := 4) rfl).front (n := 3) rfl).tail.front (n := 3) rfl).tail.front (n := 3) rfl).tail) ?_
     refine qtD 12 7 255 rfl (fun W hm => rv_build (cs := [.int .i64 G39.1, .int .i64 3, .int .i64 G44.1]) rfl (by kernel_rfl)) ?_
     refine qoD 12 8 511 rfl ?_
     refine WM_build (cs := [.int .i64 G39.1, .int .i64 3, .int .i64 G44.1]) underlying36 type90 rfl (by decide) (by decide) rfl (by kernel_rfl) (Wd_none rfl) (by decide) (fun p45 => ?_)
     refine qnD (fun W hm => (((((((hm.front (n := 6) rfl).front (n := 6) rfl).front (n := 2) rfl).tail.front (n := 2) rfl).tail.front (n := 2) rfl).tail.front (n := 2) rfl).tail.front (n := 2) rfl).tail) (fun W hm => (((((((hm.front (n := 6) rfl).front (n := 6) rfl).front (n := 5) rfl).front (n := 3) rfl).tail.front (n := 3) rfl).tail.front (n := 3) rfl).tail.front (n := 3) rfl).tail) ?_
     refine qoD 12 9 1023 rfl ?_
     let K8 : List Value := [.slice A2 x0b.length c3, .int .i64 ((G44.2.i : Nat) : Int), .int .i64 G44.2.h]
     refine ap1 tyCond 90 (.slice A13 G10.1.Conds.length c14) G10.1.Conds (⟨G39.1, 3, G44.1⟩ : DCond) [] (iBox p 74 K8 :: I17 :: iBox p21 39 K2 :: I14 :: iBox p7 39 K1 :: is) [.int .i64 G39.1, .int .i64 3, .int .i64 G44.1] (fun W hm => ((hm.front (n := 4) rfl).front (n := 1) rfl)) (fun _ _ hs => by cases (Sep.nil hs); exact (els_cons (tyCond_join (x := (⟨G39.1, 3, G44.1⟩ : DCond)) (L := []) rfl) els_nil)) underlying36 type90 (show (G10.1.Conds.length + 1) * 24 ≤ 140737488355328 from by omega) (fun v46 => ?_)
     refine WM_form (n := 0) rfl ?_
     rintro A47 c48 rfl m49
     refine qnD (fun W hm => ((((((hm.front (n := 5) rfl).front (n := 5) rfl).front (n := 2) rfl).tail.front (n := 2) rfl).tail.front (n := 2) rfl).tail.front (n := 2) rfl).tail) (fun W hm => ((((((hm.front (n := 5) rfl).front (n := 5) rfl).front (n := 5) rfl).front (n := 3) rfl).tail.front (n := 3) rfl).tail.front (n := 3) rfl).tail) ?_
     refine qtD 12 10 2047 rfl (vf underlying39 rfl type36) ?_
     refine qoD 12 11 4095 rfl ?_
     let K9 : List Value := [.int .i64 G10.1.Id, .int .i64 G10.1.Tenant, .slice A47 (G10.1.Conds ++ [(⟨G39.1, 3, G44.1⟩ : DCond)]).length c48, .slice A17 G10.1.Out.length c18]
     refine WM_storeBox (p := p21) (o := 2) (cs' := K9) (fun w hm => hm.front (n := 3) rfl) type36 rfl (Nat.le_of_ble_eq_true rfl) rfl rfl rfl rfl (Wd_none rfl) ?_
     refine qxD (fun W hm => ((((((hm.front (n := 5) rfl).front (n := 5) rfl).front (n := 2) rfl).tail.front (n := 2) rfl).tail.front (n := 2) rfl).tail.front (n := 2) rfl).tail) ?_
     refine QB_done (by kernel_rfl) ?_
     refine QM_block_normal (QM_then (sr ?_))
     refine wv (fun W hm => rv_loadN (cs := K9) underlying39 type39 rfl rfl (hm.boxCells (n := 0) rfl)) ?_
     refine WM_storeBox (p := p7) (o := 0) (cs' := K9) (fun w hm => hm.front (n := 5) rfl) type39 rfl (Nat.le_of_ble_eq_true rfl) rfl rfl rfl rfl (Wd_none rfl) ?_
     refine nt' (CM_ret ?_)
     refine QM_items (js := (iOwn tyQuery K9 (⟨G10.1.Id, G10.1.Tenant, (G10.1.Conds ++ [(⟨G39.1, 3, G44.1⟩ : DCond)]), G10.1.Out⟩ : DQuery) :: (iBox p7 39 K9 :: iBox p21 39 K9 :: iBox p 74 K8 :: I17 :: is))) (fun W hm => Mem.join (is := [iOwn (tSl tyCond 90) [.slice A47 (G10.1.Conds ++ [(⟨G39.1, 3, G44.1⟩ : DCond)]).length c48] (G10.1.Conds ++ [(⟨G39.1, 3, G44.1⟩ : DCond)]), I14]) (js := (iBox p7 39 K9 :: iBox p21 39 K9 :: iBox p 74 K8 :: I17 :: is)) (fun _ _ hs => tyQuery_join (x := (⟨G10.1.Id, G10.1.Tenant, (G10.1.Conds ++ [(⟨G39.1, 3, G44.1⟩ : DCond)]), G10.1.Out⟩ : DQuery)) hs) ((hm.front (n := 5) rfl).front (n := 3) rfl)) ?_
     have he51 := (show spec_l4Any_m x0b x0 = ((⟨G10.1.Id, G10.1.Tenant, (G10.1.Conds ++ [(⟨G39.1, 3, G44.1⟩ : DCond)]), G10.1.Out⟩ : DQuery), G44.2) from by subst hG10 hG39 hG44; exact cond_f g24 (cond_f g31 (cond_t g38 (rfl))))
     refine QM_r1 rfl (RR_cell (n := 1) rfl rfl underlying39 type39 rfl) (fun W hm => ⟨K9, ?_, ?_⟩)
     ·first | rw [he51] | rfl
     ·rw [he51]; exact (((((hm.front (n := 3) rfl).front (n := 1) rfl).front (n := 2) rfl).tail.front (n := 2) rfl).tail.front (n := 2) rfl).tail
    ·
     refine qtD 12 0 1 rfl (vf underlying39 rfl type36) ?_
     refine qtD 12 1 3 rfl (vl 0 2 underlying36) ?_
     refine qtD 12 2 7 rfl vmv ?_
     refine qtD 12 4 23 rfl vmv ?_
     refine qaD [3, 5] ?_
     refine qcD 12 31 rfl ?_ ?_
     ·
      refine WM_callW (χ := Unit) (val := fun x => .int .i64 ((spec_l1Below_m x0b ((spec_l1Below_m x0b G10.2 10).2) 4).1)) (js := fun x => (iBox p 74 [.slice A2 x0b.length c3, .int .i64 ((((spec_l1Below_m x0b ((spec_l1Below_m x0b G10.2 10).2) 4).2).i : Nat) : Int), .int .i64 ((spec_l1Below_m x0b ((spec_l1Below_m x0b G10.2 10).2) 4).2).h] :: (iBox p21 39 K2 :: I13 :: I14 :: iBox p7 39 K1 :: is))) (cl_fn cb41 rfl) (fun W hm => spec_l1Below_c B w0 (iBox p21 39 K2 :: I13 :: I14 :: iBox p7 39 K1 :: is) W p _ x0b ((spec_l1Below_m x0b G10.2 10).2) r5 4 s_0 (hm.front (n := 0) rfl)) (Wd_none rfl) (by decide) (fun z52 => ?_)
      have hb := spec_l1Below_rng x0b ((spec_l1Below_m x0b G10.2 10).2) 4
      rw [← hG39]
      rw [← hG39] at hb
      refine qnD (fun W hm => (((((hm.front (n := 4) rfl).front (n := 4) rfl).front (n := 2) rfl).tail.front (n := 2) rfl).tail.front (n := 2) rfl).tail) (fun W hm => (((((hm.front (n := 4) rfl).front (n := 4) rfl).front (n := 3) rfl).front (n := 3) rfl).tail.front (n := 3) rfl).tail) ?_
      refine qoD 12 5 63 rfl ?_
      refine WM_build (cs := [.int .i64 2, .int .i64 3, .int .i64 99, .int .i64 100]) underlying37 type3 rfl (by decide) (by decide) rfl (by kernel_rfl) (Wd_none rfl) (by decide) (fun p53 => ?_)
      refine qnD (fun W hm => ((((((hm.front (n := 5) rfl).front (n := 5) rfl).front (n := 2) rfl).tail.front (n := 2) rfl).tail.front (n := 2) rfl).tail.front (n := 2) rfl).tail) (fun W hm => ((((((hm.front (n := 5) rfl).front (n := 5) rfl).front (n := 4) rfl).front (n := 3) rfl).tail.front (n := 3) rfl).tail.front (n := 3) rfl).tail) ?_
      exact QD_sub sl6 (fun W hm => hm) (H p53)
     refine qcD 12 55 rfl ?_ ?_
     ·
      refine WM_build (cs := [.int .i64 2, .int .i64 3, .int .i64 99, .int .i64 100]) underlying37 type3 rfl (by decide) (by decide) rfl (by kernel_rfl) (Wd_none rfl) (by decide) (fun p54 => ?_)
      refine qnD (fun W hm => ((((((hm.front (n := 5) rfl).front (n := 5) rfl).front (n := 2) rfl).tail.front (n := 2) rfl).tail.front (n := 2) rfl).tail.front (n := 2) rfl).tail) (fun W hm => ((((((hm.front (n := 5) rfl).front (n := 5) rfl).front (n := 4) rfl).front (n := 3) rfl).tail.front (n := 3) rfl).tail.front (n := 3) rfl).tail) ?_
      refine qoD 12 3 63 rfl ?_
      let I18 : It := iBox p54 3 [.int .i64 2, .int .i64 3, .int .i64 99, .int .i64 100]
      refine WM_callW (χ := Unit) (val := fun x => .int .i64 ((spec_l1Below_m x0b ((spec_l1Below_m x0b G10.2 10).2) 4).1)) (js := fun x => (iBox p 74 [.slice A2 x0b.length c3, .int .i64 ((((spec_l1Below_m x0b ((spec_l1Below_m x0b G10.2 10).2) 4).2).i : Nat) : Int), .int .i64 ((spec_l1Below_m x0b ((spec_l1Below_m x0b G10.2 10).2) 4).2).h] :: (I18 :: iBox p21 39 K2 :: I13 :: I14 :: iBox p7 39 K1 :: is))) (cl_fn cb41 rfl) (fun W hm => spec_l1Below_c B w0 (I18 :: iBox p21 39 K2 :: I13 :: I14 :: iBox p7 39 K1 :: is) W p _ x0b ((spec_l1Below_m x0b G10.2 10).2) r5 4 s_0 (hm.front (n := 1) rfl)) (Wd_none rfl) (by decide) (fun z55 => ?_)
      have hb := spec_l1Below_rng x0b ((spec_l1Below_m x0b G10.2 10).2) 4
      rw [← hG39]
      rw [← hG39] at hb
      refine qnD (fun W hm => ((((((hm.front (n := 5) rfl).front (n := 5) rfl).front (n := 2) rfl).tail.front (n := 2) rfl).tail.front (n := 2) rfl).tail.front (n := 2) rfl).tail) (fun W hm => ((((((hm.front (n := 5) rfl).front (n := 5) rfl).front (n := 4) rfl).front (n := 3) rfl).tail.front (n := 3) rfl).tail.front (n := 3) rfl).tail) ?_
      exact QD_sub sl6 (fun W hm => ((((((hm.front (n := 5) rfl).front (n := 5) rfl).front (n := 5) rfl).front (n := 5) rfl).front (n := 4) rfl).front (n := 5) rfl)) (H p54)
     exact QDs_nil
   ·have g38 := beq_eq_false_iff_ne.2 h37
    refine CM_condF rfl g38 ?_
    refine sr ?_
    refine wv (fun W hm => rv_eql rfl rfl) ?_
    refine wa (nt' ?_)
    by_cases h56 : ((spec_l1Below_m x0b G10.2 10).1) = 3
    ·have g57 := beq_iff_eq.2 h56
     refine CM_condT rfl g57 ?_
     refine rd2 9 [8] (s := (I13 :: iBox p7 39 K1 :: is)) (s2 := (iBox p21 39 K2 :: I13 :: iBox p7 39 K1 :: is)) (fun W hm => (((((hm.front (n := 4) rfl).front (n := 3) rfl).front (n := 2) rfl).tail.front (n := 2) rfl).tail.front (n := 2) rfl).tail) (fun W hm => (((((hm.front (n := 4) rfl).front (n := 3) rfl).front (n := 3) rfl).front (n := 3) rfl).tail.front (n := 3) rfl).tail) ?_
     refine qtD 9 0 1 rfl (vf underlying39 rfl type37) ?_
     refine qtD 9 1 3 rfl (vl 0 3 underlying37) ?_
     refine qtD 9 2 7 rfl vmv ?_
     refine qoD 9 3 15 rfl ?_
     refine WM_build (cs := [.int .i64 (-1), .int .i64 0, .int .i64 3]) underlying37 type3 rfl (by decide) (by decide) rfl (by kernel_rfl) (Wd_none rfl) (by decide) (fun p58 => ?_)
     refine qnD (fun W hm => ((((((hm.front (n := 5) rfl).front (n := 4) rfl).front (n := 2) rfl).tail.front (n := 2) rfl).tail.front (n := 2) rfl).tail.front (n := 2) rfl).tail) (fun W hm => ((((((hm.front (n := 5) rfl).front (n := 4) rfl).front (n := 4) rfl).front (n := 3) rfl).tail.front (n := 3) rfl).tail.front (n := 3) rfl).tail) ?_
     refine qoD 9 4 31 rfl ?_
     refine WM_items (fun W hm => Mem.litOwn (E := tInt) (xs := [(-1), 0, 3]) rfl (show 3 ≤ maxLen from by decide) (fun _ => (els_cons (E := tInt) (L1 := []) tInt_own (els_cons (E := tInt) (L1 := []) tInt_own (els_cons (E := tInt) (L1 := []) tInt_own els_nil)))) (hm.front (n := 0) rfl)) ?_
     let I19 : It := iOwn (tSl tInt 3) [.slice (some ⟨p58, 0, none⟩) 3 3] [(-1), 0, 3]
     refine WM_callW (χ := Unit) (val := fun x => .int .i64 ((spec_l1PickInt_m x0b ((spec_l1Below_m x0b G10.2 10).2) [(-1), 0, 3]).1)) (js := fun x => (iBox p 74 [.slice A2 x0b.length c3, .int .i64 ((((spec_l1PickInt_m x0b ((spec_l1Below_m x0b G10.2 10).2) [(-1), 0, 3]).2).i : Nat) : Int), .int .i64 ((spec_l1PickInt_m x0b ((spec_l1Below_m x0b G10.2 10).2) [(-1), 0, 3]).2).h] :: I19 :: (iBox p21 39 K2 :: I13 :: I14 :: iBox p7 39 K1 :: is))) (cl_fn cb66 rfl) (fun W hm => spec_l1PickInt_c B w0 (iBox p21 39 K2 :: I13 :: I14 :: iBox p7 39 K1 :: is) W p _ x0b ((spec_l1Below_m x0b G10.2 10).2) r5 _ [(-1), 0, 3] s_0 (Nat.le_of_ble_eq_true rfl) (by first | decide | exact Nat.succ_pos _) ((hm.front (n := 0) rfl).front (n := 1) rfl)) (Wd_none rfl) (by decide) (fun z60 => ?_)
     obtain ⟨G61, hG61⟩ : ∃ G, G = (spec_l1PickInt_m x0b ((spec_l1Below_m x0b G10.2 10).2) [(-1), 0, 3]) := ⟨_, rfl⟩
     rw [← hG61]
     refine qnD (fun W hm => ((((((hm.front (n := 5) rfl).front (n := 4) rfl).front (n := 2) rfl).tail.front (n := 2) rfl).tail.front (n := 2) rfl).tail.front (n := 2) rfl).tail) (fun W hm => ((((((hm.front (n := 5) rfl).front (n := 4) rfl).front (n := 4) rfl).front (n := 3) rfl).tail.front (n := 3) rfl).tail.front (n := 3) rfl).tail) ?_
     refine qoD 9 5 63 rfl ?_
     refine WM_build (cs := [.int .i64 G61.1]) underlying37 type3 rfl (by decide) (by decide) rfl (by kernel_rfl) (Wd_none rfl) (by decide) (fun p62 => ?_)
     refine qnD (fun W hm => (((((((hm.front (n := 6) rfl).front (n := 5) rfl).front (n := 2) rfl).tail.front (n := 2) rfl).tail.front (n := 2) rfl).tail.front (n := 2) rfl).tail.front (n := 2) rfl).tail) (fun W hm => (((((((hm.front (n := 6) rfl).front (n := 5) rfl).front (n := 5) rfl).front (n := 3) rfl).tail.front (n := 3) rfl).tail.front (n := 3) rfl).tail.front (n := 3) rfl).tail) ?_
     refine qoD 9 6 127 rfl ?_
     let K10 : List Value := [.slice A2 x0b.length c3, .int .i64 ((G61.2.i : Nat) : Int), .int .i64 G61.2.h]
     refine ap1 tInt 3 (.slice A17 G10.1.Out.length c18) G10.1.Out G61.1 [] (iBox p 74 K10 :: I19 :: iBox p21 39 K2 :: I13 :: iBox p7 39 K1 :: is) [.int .i64 G61.1] (fun W hm => ((hm.front (n := 5) rfl).front (n := 1) rfl)) (fun _ _ hs => by cases (Sep.nil hs); exact (els_cons tInt_own els_nil)) underlying37 type3 (show (G10.1.Out.length + 1) * 8 ≤ 140737488355328 from by omega) (fun v63 => ?_)
     refine WM_form (n := 0) rfl ?_
     rintro A64 c65 rfl m66
     refine qnD (fun W hm => ((((((hm.front (n := 5) rfl).front (n := 5) rfl).front (n := 2) rfl).tail.front (n := 2) rfl).tail.front (n := 2) rfl).tail.front (n := 2) rfl).tail) (fun W hm => ((((((hm.front (n := 5) rfl).front (n := 5) rfl).front (n := 5) rfl).front (n := 3) rfl).tail.front (n := 3) rfl).tail.front (n := 3) rfl).tail) ?_
     refine qtD 9 7 255 rfl (vf underlying39 rfl type37) ?_
     refine qoD 9 8 511 rfl ?_
     let K11 : List Value := [.int .i64 G10.1.Id, .int .i64 G10.1.Tenant, .slice A13 G10.1.Conds.length c14, .slice A64 (G10.1.Out ++ [G61.1]).length c65]
     refine WM_storeBox (p := p21) (o := 3) (cs' := K11) (fun w hm => hm.front (n := 3) rfl) type37 rfl (Nat.le_of_ble_eq_true rfl) rfl rfl rfl rfl (Wd_none rfl) ?_
     refine qxD (fun W hm => ((((((hm.front (n := 5) rfl).front (n := 5) rfl).front (n := 2) rfl).tail.front (n := 2) rfl).tail.front (n := 2) rfl).tail.front (n := 2) rfl).tail) ?_
     refine QB_done (by kernel_rfl) ?_
     refine QM_block_normal (QM_then (sr ?_))
     refine wv (fun W hm => rv_loadN (cs := K11) underlying39 type39 rfl rfl (hm.boxCells (n := 0) rfl)) ?_
     refine WM_storeBox (p := p7) (o := 0) (cs' := K11) (fun w hm => hm.front (n := 5) rfl) type39 rfl (Nat.le_of_ble_eq_true rfl) rfl rfl rfl rfl (Wd_none rfl) ?_
     refine nt' (CM_ret ?_)
     refine QM_items (js := (iOwn tyQuery K11 (⟨G10.1.Id, G10.1.Tenant, G10.1.Conds, (G10.1.Out ++ [G61.1])⟩ : DQuery) :: (iBox p7 39 K11 :: iBox p21 39 K11 :: iBox p 74 K10 :: I19 :: is))) (fun W hm => Mem.join (is := [I13, iOwn (tSl tInt 3) [.slice A64 (G10.1.Out ++ [G61.1]).length c65] (G10.1.Out ++ [G61.1])]) (js := (iBox p7 39 K11 :: iBox p21 39 K11 :: iBox p 74 K10 :: I19 :: is)) (fun _ _ hs => tyQuery_join (x := (⟨G10.1.Id, G10.1.Tenant, G10.1.Conds, (G10.1.Out ++ [G61.1])⟩ : DQuery)) hs) ((hm.front (n := 2) rfl).front (n := 5) rfl)) ?_
     have he68 := (show spec_l4Any_m x0b x0 = ((⟨G10.1.Id, G10.1.Tenant, G10.1.Conds, (G10.1.Out ++ [G61.1])⟩ : DQuery), G61.2) from by subst hG10 hG61; exact cond_f g24 (cond_f g31 (cond_f g38 (cond_t g57 (rfl)))))
     refine QM_r1 rfl (RR_cell (n := 1) rfl rfl underlying39 type39 rfl) (fun W hm => ⟨K11, ?_, ?_⟩)
     ·first | rw [he68] | rfl
     ·rw [he68]; exact (((((hm.front (n := 3) rfl).front (n := 1) rfl).front (n := 2) rfl).tail.front (n := 2) rfl).tail.front (n := 2) rfl).tail
    ·have g57 := beq_eq_false_iff_ne.2 h56
     refine CM_condF rfl g57 ?_
     refine CM_skip (QM_block_normal (QM_then (sr ?_)))
     refine wv (fun W hm => rv_loadN (cs := K2) underlying39 type39 rfl rfl (hm.boxCells (n := 1) rfl)) ?_
     refine WM_storeBox (p := p7) (o := 0) (cs' := K2) (fun w hm => hm.front (n := 4) rfl) type39 rfl (Nat.le_of_ble_eq_true rfl) rfl rfl rfl rfl (Wd_none rfl) ?_
     refine nt' (CM_ret ?_)
     let K12 : List Value := [.slice A2 x0b.length c3, .int .i64 ((((spec_l1Below_m x0b G10.2 10).2).i : Nat) : Int), .int .i64 (((spec_l1Below_m x0b G10.2 10).2).h)]
     refine QM_items (js := (iOwn tyQuery K2 G10.1 :: (iBox p7 39 K2 :: iBox p 74 K12 :: iBox p21 39 K2 :: is))) (fun W hm => Mem.join (is := [I13, I14]) (js := (iBox p7 39 K2 :: iBox p 74 K12 :: iBox p21 39 K2 :: is)) (fun _ _ hs => tyQuery_join (x := G10.1) hs) ((hm.front (n := 4) rfl).front (n := 4) rfl)) ?_
     have he69 := (show spec_l4Any_m x0b x0 = (G10.1, ((spec_l1Below_m x0b G10.2 10).2)) from by subst hG10; exact cond_f g24 (cond_f g31 (cond_f g38 (cond_f g57 (rfl)))))
     refine QM_r1 rfl (RR_cell (n := 1) rfl rfl underlying39 type39 rfl) (fun W hm => ⟨K2, ?_, ?_⟩)
     ·first | rw [he69] | rfl
     ·rw [he69]; exact ((((hm.front (n := 2) rfl).front (n := 1) rfl).front (n := 2) rfl).tail.front (n := 2) rfl).tail

theorem rngb_invN {R S : Type} {b : Nat → S → R ⊕ (S ⊕ S)} {n : Nat} {P : Nat → S → Prop} {Q : S → Prop} (h : ∀ k s, k < n → P k s → (∃ s', b k s = .inr (.inr s') ∧ P (k + 1) s') ∨ ∃ s', b k s = .inr (.inl s') ∧ Q s') : ∀ m k s, m + k = n → P k s → ∃ s', rngb b m k s = .inr s' ∧ (Q s' ∨ P n s')
  | 0, k, s, e, hp => ⟨s, rfl, .inr (by rw [show n = k by omega]; exact hp)⟩
  | m + 1, k, s, e, hp => by
    rcases h k s (by omega) hp with ⟨s', h1, h2⟩ | ⟨s', h1, h2⟩
    · obtain ⟨s'', h3, h4⟩ := rngb_invN h m (k + 1) s' (by omega) h2
      exact ⟨s'', by rw [rngb, h1]; exact h3, h4⟩
    · exact ⟨s', by rw [rngb, h1]; rfl, .inl h2⟩
theorem spec_l4Queries_fact (b : List Int) (D : Dl1Cur) (x1 : Int) (h0 : 0 ≤ x1) (h1 : x1 ≤ 100) : (((spec_l4Queries_m b D x1).1.length : Nat) : Int) ≤ x1 ∧ ∀ q ∈ (spec_l4Queries_m b D x1).1, q.Conds.length ≤ 3 ∧ q.Out.length ≤ 3 := by
  have hw := wrap_id (n := x1 + 1) (by omega) (by omega)
  have hb := spec_l1Below_rng b (spec_l1Below_m b D 2).2 (x1 + 1)
  have hb' := hb.2.1 (by omega)
  have key : ∀ (m k : Nat) (s : (List DQuery) × Int × Int × Nat × Int), (s.2.2.1 ≤ 100 ∧ ((s.1.length : Nat) : Int) + ((s.2.2.1.toNat : Nat) : Int) ≤ x1 ∧ ∀ q ∈ s.1, q.Conds.length ≤ 3 ∧ q.Out.length ≤ 3) → ∃ s', rngb (R := ((List DQuery) × Dl1Cur)) (fun k (s : (List DQuery) × Int × Int × Nat × Int) => spec_l4Queries_b1 b k s.1 s.2.1 s.2.2.1 s.2.2.2.1 s.2.2.2.2) m k s = .inr s' ∧ ((s'.1.length : Nat) : Int) ≤ x1 ∧ ∀ q ∈ s'.1, q.Conds.length ≤ 3 ∧ q.Out.length ≤ 3 := fun m k s hs => by
    obtain ⟨s', e1, e2⟩ := rngb_invP (R := ((List DQuery) × Dl1Cur)) (b := fun k (s : (List DQuery) × Int × Int × Nat × Int) => spec_l4Queries_b1 b k s.1 s.2.1 s.2.2.1 s.2.2.2.1 s.2.2.2.2) (P := fun _ s => s.2.2.1 ≤ 100 ∧ ((s.1.length : Nat) : Int) + ((s.2.2.1.toNat : Nat) : Int) ≤ x1 ∧ ∀ q ∈ s.1, q.Conds.length ≤ 3 ∧ q.Out.length ≤ 3) (Q := fun s => ((s.1.length : Nat) : Int) ≤ x1 ∧ ∀ q ∈ s.1, q.Conds.length ≤ 3 ∧ q.Out.length ≤ 3) (fun k s ⟨p1, p2, p3⟩ => by
      show (∃ s', spec_l4Queries_b1 b k s.1 s.2.1 s.2.2.1 s.2.2.2.1 s.2.2.2.2 = _ ∧ _) ∨ ∃ s', spec_l4Queries_b1 b k s.1 s.2.1 s.2.2.1 s.2.2.2.1 s.2.2.2.2 = _ ∧ _
      unfold spec_l4Queries_b1
      by_cases h : 0 < s.2.2.1
      · rw [decide_eq_true h, cond_true, wrap_id (n := s.2.2.1 - 1) (by omega) (by omega)]
        refine .inl ⟨_, rfl, ?_, ?_, fun q hq => ?_⟩
        · show s.2.2.1 - 1 ≤ 100; omega
        · show (((s.1 ++ [_]).length : Nat) : Int) + (((s.2.2.1 - 1).toNat : Nat) : Int) ≤ x1; rw [List.length_append]; show ((s.1.length + 1 : Nat) : Int) + _ ≤ x1; omega
        · rcases List.mem_append.1 hq with hq | hq
          · exact p3 q hq
          · rw [List.mem_singleton.1 hq]; exact spec_l4Query_fact _ _ _
      · rw [decide_eq_false h]
        exact .inr ⟨_, rfl, (by show ((s.1.length : Nat) : Int) ≤ x1; omega), p3⟩) m k s hs
    exact ⟨s', e1, e2.elim id fun h => ⟨by omega, h.2.2⟩⟩
  unfold spec_l4Queries_m
  rw [hw]
  obtain ⟨s', e, h⟩ := key ((spec_l1Below_m b (spec_l1Below_m b D 2).2 (x1 + 1)).1.toNat + 1 - 0) 0 ([], (spec_l1Below_m b D 2).1, (spec_l1Below_m b (spec_l1Below_m b D 2).2 (x1 + 1)).1, (spec_l1Below_m b (spec_l1Below_m b D 2).2 (x1 + 1)).2.i, (spec_l1Below_m b (spec_l1Below_m b D 2).2 (x1 + 1)).2.h) ⟨(by show (spec_l1Below_m b (spec_l1Below_m b D 2).2 (x1 + 1)).1 ≤ 100; omega), (by show ((0 : Nat) : Int) + (((spec_l1Below_m b (spec_l1Below_m b D 2).2 (x1 + 1)).1.toNat : Nat) : Int) ≤ x1; omega), fun q hq => (by cases hq)⟩
  rw [e]
  exact h
theorem Qs_sm {l : List DQuery} {n : Int} (h : ((l.length : Nat) : Int) ≤ n ∧ ∀ q ∈ l, q.Conds.length ≤ 3 ∧ q.Out.length ≤ 3) (hn : n ≤ 100) : l.length ≤ 68719476736 ∧ ∀ z ∈ l, smQuery 68719476736 z := ⟨by omega, fun z hz => ⟨by have := (h.2 z hz).1; omega, by have := (h.2 z hz).2; omega⟩⟩
theorem StabSet_short (l : List DQuery) (f v : Int) : (spec_StabSet_m l f v).length ≤ l.length := by
  unfold spec_StabSet_m
  obtain ⟨s', e, h⟩ := rngb_invN (R := List Int) (b := fun k (s : List Int) => spec_StabSet_b1 l f v k s) (n := l.length) (P := fun k s => s.length ≤ k) (Q := fun s => s.length ≤ l.length) (fun k s hk hs => by
    have happ : ∀ y, (s ++ [y]).length ≤ k + 1 := fun y => by rw [List.length_append]; show s.length + 1 ≤ k + 1; omega
    show (∃ s', spec_StabSet_b1 l f v k s = .inr (.inr s') ∧ _) ∨ ∃ s', spec_StabSet_b1 l f v k s = .inr (.inl s') ∧ _
    unfold spec_StabSet_b1
    cases spec_AreQueries_m l with
    | false => exact .inr ⟨_, rfl, by omega⟩
    | true =>
    cases spec_l1In_m f 0 2 with
    | false => exact .inr ⟨_, rfl, by omega⟩
    | true =>
    cases spec_l1In_m v 0 99 with
    | false => exact .inr ⟨_, rfl, by omega⟩
    | true =>
    cases spec_l5Admits_m (gt l k) f v with
    | true => exact .inl ⟨_, rfl, happ _⟩
    | false => exact .inl ⟨_, rfl, by omega⟩) (l.length - 0) 0 [] (by omega) (Nat.zero_le _)
  rw [e]
  exact h.elim id id
theorem Stab_short (l : List DQuery) (f : Int) : (spec_StabIndex_m l f).length ≤ 100 ∧ ∀ s ∈ spec_StabIndex_m l f, s.Set.length ≤ l.length := by
  unfold spec_StabIndex_m
  cases spec_AreQueries_m l with
  | false => exact ⟨Nat.zero_le _, fun s hs => by cases hs⟩
  | true =>
  cases spec_l1In_m f 0 2 with
  | false => exact ⟨Nat.zero_le _, fun s hs => by cases hs⟩
  | true =>
  obtain ⟨d, e, h⟩ := rng_inv (R := List DSpan) (body := fun k (s : List DSpan) => spec_StabIndex_b1 l f k s) (n := 100) (fun k d => d.length ≤ k ∧ ∀ s ∈ d, s.Set.length ≤ l.length) (fun k d _ ⟨h1, h2⟩ => by
    have happ : ∀ y : DSpan, y.Set.length ≤ l.length → (d ++ [y]).length ≤ k + 1 ∧ ∀ s ∈ d ++ [y], s.Set.length ≤ l.length := fun y hy => ⟨by rw [List.length_append]; show d.length + 1 ≤ k + 1; omega, fun s hs => by
      rcases List.mem_append.1 hs with h | h
      · exact h2 s h
      · rw [List.mem_singleton.1 h]; exact hy⟩
    show ∃ s', spec_StabIndex_b1 l f k d = .inr s' ∧ _
    unfold spec_StabIndex_b1
    by_cases h0 : 0 < d.length
    · rw [decide_eq_true (show (0 : Int) < ((d.length : Nat) : Int) by omega), cond_true]
      cases spec_l2Ints_m ((gt d (d.length - 1)).Set) (spec_StabSet_m l f ((k : Nat) : Int)) with
      | true =>
        refine ⟨_, rfl, by rw [List.length_set]; omega, fun s hs => ?_⟩
        rcases List.mem_or_eq_of_mem_set hs with h | rfl
        · exact h2 s h
        · exact h2 (gt d (d.length - 1)) (gt_mem (by omega))
      | false => exact ⟨_, rfl, happ _ (StabSet_short _ _ _)⟩
    · rw [decide_eq_false (show ¬ (0 : Int) < ((d.length : Nat) : Int) by omega), cond_false]
      exact ⟨_, rfl, happ _ (StabSet_short _ _ _)⟩) (100 - 0) 0 [] (by omega) ⟨Nat.zero_le _, fun s hs => by cases hs⟩
  rw [e]
  exact h
theorem BuildIndex_short (l : List DQuery) : spec_BuildIndex_m l = ⟨[], []⟩ ∨ spec_BuildIndex_m l = ⟨l, [spec_StabIndex_m l 0, spec_StabIndex_m l 1, spec_StabIndex_m l 2]⟩ := by
  unfold spec_BuildIndex_m
  cases spec_AreQueries_m l with
  | false => exact .inl rfl
  | true => exact .inr rfl
theorem BuildIndex_sm {l : List DQuery} {n : Int} (h : ((l.length : Nat) : Int) ≤ n ∧ ∀ q ∈ l, q.Conds.length ≤ 3 ∧ q.Out.length ≤ 3) (hn : n ≤ 100) : smIndex 68719476736 (spec_BuildIndex_m l) := by
  rcases BuildIndex_short l with e | e
  · rw [e]; exact ⟨⟨Nat.zero_le _, fun z hz => by cases hz⟩, Nat.zero_le _, fun z hz => by cases hz⟩
  · rw [e]
    have hs : ∀ f, (spec_StabIndex_m l f).length ≤ 68719476736 ∧ ∀ z ∈ spec_StabIndex_m l f, smSpan 68719476736 z := fun f => by
      obtain ⟨h1, h2⟩ := Stab_short l f
      exact ⟨by omega, fun z hz => by have := h2 z hz; show z.Set.length ≤ _; omega⟩
    refine ⟨Qs_sm h hn, (by show 3 ≤ 68719476736; decide), fun z hz => ?_⟩
    rcases List.mem_cons.1 hz with rfl | hz
    · exact hs 0
    rcases List.mem_cons.1 hz with rfl | hz
    · exact hs 1
    rcases List.mem_cons.1 hz with rfl | hz
    · exact hs 2
    cases hz
def QOk (q : DQuery) : Prop := (0 ≤ q.Id ∧ q.Id ≤ 23) ∧ (0 ≤ q.Tenant ∧ q.Tenant ≤ 3) ∧ (∀ c ∈ q.Conds, (0 ≤ c.Field ∧ c.Field ≤ 2) ∧ (0 ≤ c.Low ∧ c.Low ≤ c.High) ∧ c.High ≤ 99) ∧ q.Conds.Pairwise (fun a b => a.Field < b.Field) ∧ q.Conds.length ≤ 3 ∧ (∀ o ∈ q.Out, 0 ≤ o ∧ o ≤ 2) ∧ 1 ≤ q.Out.length ∧ q.Out.length ≤ 3
theorem IsQuery_of {q : DQuery} (h : QOk q) : spec_IsQuery_m q = true := by
  obtain ⟨h1, h2, h3, h4, h5, h6, h7, h8⟩ := h
  unfold spec_IsQuery_m spec_l4Fields_m
  rw [rng_all (n := q.Out.length) (fun k hk => by
    unfold spec_l4Fields_b1
    rw [spec_l1In_iff, decide_eq_true (h6 _ (gt_mem hk))]
    rfl), rng_all (n := q.Conds.length) (fun k hk => by
    unfold spec_IsQuery_b1 spec_IsCond_m
    obtain ⟨c1, c2, c3⟩ := h3 _ (gt_mem hk)
    rw [spec_l1In_iff, decide_eq_true c1, spec_l1In_iff, decide_eq_true c2, decide_eq_true c3, cond_true, cond_true, cond_true]
    by_cases h0 : 0 < k
    · rw [decide_eq_true (show (0 : Int) < ((k : Nat) : Int) by omega), decide_eq_false (show ¬ (gt q.Conds k).Field ≤ (gt q.Conds (k - 1)).Field by
        have := List.pairwise_iff_getElem.1 h4 (k - 1) k (by omega) hk (by omega)
        rw [gt_at hk, gt_at (by omega)]
        omega)]
      rfl
    · rw [decide_eq_false (show ¬ (0 : Int) < ((k : Nat) : Int) by omega)]
      rfl)]
  show cond (spec_l1In_m q.Id 0 23) (cond (spec_l1In_m q.Tenant 0 3) (cond (decide (((q.Conds.length : Nat) : Int) ≤ 3)) (spec_l1In_m ((q.Out.length : Nat) : Int) 1 3) false) false) false = true
  rw [spec_l1In_iff, decide_eq_true h1, spec_l1In_iff, decide_eq_true h2, spec_l1In_iff, decide_eq_true (show ((q.Conds.length : Nat) : Int) ≤ 3 by omega), decide_eq_true (show (1 : Int) ≤ ((q.Out.length : Nat) : Int) ∧ ((q.Out.length : Nat) : Int) ≤ 3 by omega)]
  rfl
theorem AreQueries_of {l : List DQuery} (h1 : ∀ q ∈ l, QOk q) (h2 : l.Pairwise (fun a b => a.Id < b.Id)) (h3 : l.length ≤ 24) : spec_AreQueries_m l = true := by
  unfold spec_AreQueries_m
  rw [rng_all (fun k hk => by
    unfold spec_AreQueries_b1
    rw [IsQuery_of (h1 _ (gt_mem hk)), cond_true]
    by_cases h0 : 0 < k
    · rw [decide_eq_true (show (0 : Int) < ((k : Nat) : Int) by omega), decide_eq_false (show ¬ (gt l k).Id ≤ (gt l (k - 1)).Id by
        have := List.pairwise_iff_getElem.1 h2 (k - 1) k (by omega) hk (by omega)
        rw [gt_at hk, gt_at (by omega)]
        omega)]
      rfl
    · rw [decide_eq_false (show ¬ (0 : Int) < ((k : Nat) : Int) by omega)]
      rfl)]
  exact decide_eq_true (show ((l.length : Nat) : Int) ≤ 24 by omega)
theorem PickW_rng (b : List Int) (D : Dl1Cur) : 1 ≤ (spec_l1PickInt_m b D [3, 6, 100]).1 ∧ (spec_l1PickInt_m b D [3, 6, 100]).1 ≤ 100 := by
  obtain ⟨h1, h2, -⟩ := spec_l1Below_rng b D 3
  have h3 := h2 (by omega)
  show 1 ≤ gt [3, 6, 100] (spec_l1Below_m b D 3).1.toNat ∧ gt [3, 6, 100] (spec_l1Below_m b D 3).1.toNat ≤ 100
  generalize (spec_l1Below_m b D 3).1 = i at h1 h3
  have h4 : i.toNat = 0 ∨ i.toNat = 1 ∨ i.toNat = 2 := by omega
  rcases h4 with h | h | h <;> rw [h] <;> decide
theorem spec_l4Query_outs2 {id_ : DQuery × Dl1Cur → DQuery × Dl1Cur} (b : List Int) (c : List DCond) (t id : Int) (n0 : Nat) (hn : n0 ≤ 3) : ∀ (m k : Nat) (s : Int × Nat × Int × (List Int)), m + k = n0 + 1 → (0 ≤ s.1 ∧ k + s.1.toNat = n0 ∧ s.2.2.2.length = k ∧ ∀ o ∈ s.2.2.2, 0 ≤ o ∧ o ≤ 2) → ∃ o D', Sum.elim id_ (fun (s : Int × Nat × Int × (List Int)) => ((⟨id, t, c, s.2.2.2⟩ : DQuery), (⟨s.2.1, s.2.2.1⟩ : Dl1Cur))) (rngb (R := (DQuery × Dl1Cur)) (fun k (s : Int × Nat × Int × (List Int)) => spec_l4Query_b2 b k s.1 s.2.1 s.2.2.1 s.2.2.2) m k s) = (⟨id, t, c, o⟩, D') ∧ o.length = n0 ∧ ∀ y ∈ o, 0 ≤ y ∧ y ≤ 2 := fun m k s hm hs => by
  obtain ⟨s', e1, e2⟩ := rngb_invP (R := (DQuery × Dl1Cur)) (b := fun k (s : Int × Nat × Int × (List Int)) => spec_l4Query_b2 b k s.1 s.2.1 s.2.2.1 s.2.2.2) (P := fun k s => 0 ≤ s.1 ∧ k + s.1.toNat = n0 ∧ s.2.2.2.length = k ∧ ∀ o ∈ s.2.2.2, 0 ≤ o ∧ o ≤ 2) (Q := fun s => s.2.2.2.length = n0 ∧ ∀ o ∈ s.2.2.2, 0 ≤ o ∧ o ≤ 2) (fun k s ⟨p0, p1, p2, p3⟩ => by
    show (∃ s', spec_l4Query_b2 b k s.1 s.2.1 s.2.2.1 s.2.2.2 = _ ∧ _) ∨ ∃ s', spec_l4Query_b2 b k s.1 s.2.1 s.2.2.1 s.2.2.2 = _ ∧ _
    unfold spec_l4Query_b2
    by_cases h : 0 < s.1
    · rw [decide_eq_true h, wrap_id (n := s.1 - 1) (by omega) (by omega)]
      refine .inl ⟨_, rfl, ?_, ?_, ?_, fun o ho => ?_⟩
      · show 0 ≤ s.1 - 1; omega
      · show k + 1 + (s.1 - 1).toNat = n0; omega
      · show (s.2.2.2 ++ [_]).length = k + 1; rw [List.length_append, p2]; rfl
      · rcases List.mem_append.1 ho with ho | ho
        · exact p3 o ho
        · rw [List.mem_singleton.1 ho]
          obtain ⟨g1, g2, -⟩ := spec_l1Below_rng b (⟨s.2.1, s.2.2.1⟩ : Dl1Cur) 3
          have := g2 (by omega)
          exact ⟨g1, by omega⟩
    · rw [decide_eq_false h]
      exact .inr ⟨_, rfl, (by show s.2.2.2.length = n0; omega), p3⟩) m k s hs
  rw [e1]
  rcases e2 with ⟨h1, h2⟩ | ⟨h0, h1, h2, h3⟩
  · exact ⟨_, _, rfl, h1, h2⟩
  · omega
theorem spec_l4Query_ok (b : List Int) (D : Dl1Cur) (i : Int) (hi : 0 ≤ i ∧ i ≤ 23) : QOk (spec_l4Query_m b D i).1 ∧ (spec_l4Query_m b D i).1.Id = i := by
  unfold spec_l4Query_m
  have hW := PickW_rng b (spec_l1Below_m b D 4).2
  obtain ⟨s1, e1, h0, h1, h2⟩ := rng_inv (R := DQuery × Dl1Cur) (body := fun k (s : Nat × Int × List DCond) => spec_l4Query_b1 b D k s.1 s.2.1 s.2.2) (n := 3) (fun k s => s.2.2.length ≤ k ∧ (∀ c ∈ s.2.2, (0 ≤ c.Field ∧ c.Field < k) ∧ (0 ≤ c.Low ∧ c.Low ≤ c.High) ∧ c.High ≤ 99) ∧ s.2.2.Pairwise (fun a b => a.Field < b.Field)) (fun k s _ h => by
    obtain ⟨h0, h1, h2⟩ := h
    have happ : ∀ lo hi : Int, (0 ≤ lo ∧ lo ≤ hi) → hi ≤ 99 → (s.2.2 ++ [(⟨((k : Nat) : Int), lo, hi⟩ : DCond)]).length ≤ k + 1 ∧ (∀ c ∈ s.2.2 ++ [(⟨((k : Nat) : Int), lo, hi⟩ : DCond)], (0 ≤ c.Field ∧ c.Field < ((k + 1 : Nat) : Int)) ∧ (0 ≤ c.Low ∧ c.Low ≤ c.High) ∧ c.High ≤ 99) ∧ (s.2.2 ++ [(⟨((k : Nat) : Int), lo, hi⟩ : DCond)]).Pairwise (fun a b => a.Field < b.Field) := fun lo hi g1 g2 => by
      refine ⟨by rw [List.length_append]; show s.2.2.length + 1 ≤ k + 1; omega, fun c hc => ?_, ?_⟩
      · rcases List.mem_append.1 hc with hc | hc
        · obtain ⟨a1, a2, a3⟩ := h1 c hc
          exact ⟨⟨a1.1, by omega⟩, a2, a3⟩
        · rw [List.mem_singleton.1 hc]
          exact ⟨⟨by show (0 : Int) ≤ ((k : Nat) : Int); omega, by show ((k : Nat) : Int) < _; omega⟩, g1, g2⟩
      · rw [List.pairwise_append]
        refine ⟨h2, List.pairwise_singleton _ _, fun a ha c hc => ?_⟩
        rw [List.mem_singleton.1 hc]
        exact (h1 a ha).1.2
    have hkeep : s.2.2.length ≤ k + 1 ∧ (∀ c ∈ s.2.2, (0 ≤ c.Field ∧ c.Field < ((k + 1 : Nat) : Int)) ∧ (0 ≤ c.Low ∧ c.Low ≤ c.High) ∧ c.High ≤ 99) ∧ s.2.2.Pairwise (fun a b => a.Field < b.Field) := ⟨by omega, fun c hc => by
      obtain ⟨a1, a2, a3⟩ := h1 c hc
      exact ⟨⟨a1.1, by omega⟩, a2, a3⟩, h2⟩
    have hlow : ∀ D', 0 ≤ (spec_l1Below_m b D' (spec_l1PickInt_m b (spec_l1Below_m b D 4).2 [3, 6, 100]).1).1 ∧ (spec_l1Below_m b D' (spec_l1PickInt_m b (spec_l1Below_m b D 4).2 [3, 6, 100]).1).1 ≤ 99 := fun D' => by
      obtain ⟨g1, g2, -⟩ := spec_l1Below_rng b D' (spec_l1PickInt_m b (spec_l1Below_m b D 4).2 [3, 6, 100]).1
      have := g2 (by omega)
      exact ⟨g1, by omega⟩
    show ∃ s', spec_l4Query_b1 b D k s.1 s.2.1 s.2.2 = .inr s' ∧ s'.2.2.length ≤ k + 1 ∧ (∀ c ∈ s'.2.2, (0 ≤ c.Field ∧ c.Field < ((k + 1 : Nat) : Int)) ∧ (0 ≤ c.Low ∧ c.Low ≤ c.High) ∧ c.High ≤ 99) ∧ s'.2.2.Pairwise (fun a b => a.Field < b.Field)
    unfold spec_l4Query_b1
    refine cond_ex (P := fun s' : Nat × Int × List DCond => s'.2.2.length ≤ k + 1 ∧ (∀ c ∈ s'.2.2, (0 ≤ c.Field ∧ c.Field < ((k + 1 : Nat) : Int)) ∧ (0 ≤ c.Low ∧ c.Low ≤ c.High) ∧ c.High ≤ 99) ∧ s'.2.2.Pairwise (fun a b => a.Field < b.Field)) (cond_ex (P := fun s' : Nat × Int × List DCond => s'.2.2.length ≤ k + 1 ∧ (∀ c ∈ s'.2.2, (0 ≤ c.Field ∧ c.Field < ((k + 1 : Nat) : Int)) ∧ (0 ≤ c.Low ∧ c.Low ≤ c.High) ∧ c.High ≤ 99) ∧ s'.2.2.Pairwise (fun a b => a.Field < b.Field)) ⟨_, rfl, ?_⟩ ⟨_, rfl, ?_⟩) ⟨_, rfl, ?_⟩
    rotate_left 2
    · exact hkeep
    · exact happ _ _ ⟨(hlow _).1, Int.le_refl _⟩ (hlow _).2
    refine happ _ _ ⟨(hlow _).1, ?_⟩ ?_
    · have a1 := hlow (spec_l1Once_m b (⟨s.1, s.2.1⟩ : Dl1Cur) 2).2
      have a2 := hlow (spec_l1Below_m b (spec_l1Once_m b (⟨s.1, s.2.1⟩ : Dl1Cur) 2).2 (spec_l1PickInt_m b (spec_l1Below_m b D 4).2 [3, 6, 100]).1).2
      rw [wrap_id (by omega) (by omega)]
      split <;> omega
    · have a1 := hlow (spec_l1Once_m b (⟨s.1, s.2.1⟩ : Dl1Cur) 2).2
      have a2 := hlow (spec_l1Below_m b (spec_l1Once_m b (⟨s.1, s.2.1⟩ : Dl1Cur) 2).2 (spec_l1PickInt_m b (spec_l1Below_m b D 4).2 [3, 6, 100]).1).2
      rw [wrap_id (by omega) (by omega)]
      split <;> omega) (3 - 0) 0 ((spec_l1PickInt_m b ((spec_l1Below_m b D 4).2) [3, 6, 100]).2.i, (spec_l1PickInt_m b ((spec_l1Below_m b D 4).2) [3, 6, 100]).2.h, []) (by omega) ⟨Nat.zero_le _, fun c hc => (by cases hc), List.Pairwise.nil⟩
  rw [e1]
  have hb := spec_l1Below_rng b (⟨s1.1, s1.2.1⟩ : Dl1Cur) 3
  have hb' := hb.2.1 (by omega)
  have hw := wrap_id (n := 1 + (spec_l1Below_m b (⟨s1.1, s1.2.1⟩ : Dl1Cur) 3).1) (by omega) (by omega)
  obtain ⟨o, D', e2, o1, o2⟩ := spec_l4Query_outs2 (id_ := id) b s1.2.2 (spec_l1Below_m b D 4).1 i (1 + (spec_l1Below_m b (⟨s1.1, s1.2.1⟩ : Dl1Cur) 3).1).toNat (by omega) ((IntKind.i64.wrap (1 + (spec_l1Below_m b (⟨s1.1, s1.2.1⟩ : Dl1Cur) 3).1)).toNat + 1 - 0) 0 ((IntKind.i64.wrap (1 + (spec_l1Below_m b (⟨s1.1, s1.2.1⟩ : Dl1Cur) 3).1)), (spec_l1Below_m b (⟨s1.1, s1.2.1⟩ : Dl1Cur) 3).2.i, (spec_l1Below_m b (⟨s1.1, s1.2.1⟩ : Dl1Cur) 3).2.h, []) (by rw [hw]; omega) ⟨(by show 0 ≤ IntKind.i64.wrap _; omega), (by show 0 + (IntKind.i64.wrap _).toNat = _; omega), rfl, fun o ho => by cases ho⟩
  have e3 := congrArg Prod.fst e2
  have ht := spec_l1Below_rng b D 4
  have ht' := ht.2.1 (by omega)
  refine ⟨?_, congrArg DQuery.Id e3⟩
  have e4 : QOk (⟨i, (spec_l1Below_m b D 4).1, s1.2.2, o⟩ : DQuery) := ⟨hi, ⟨ht.1, by show (spec_l1Below_m b D 4).1 ≤ 3; omega⟩, fun c hc => by
    obtain ⟨a1, a2, a3⟩ := h1 c hc
    exact ⟨⟨a1.1, by omega⟩, a2, a3⟩, h2, h0, o2, by show 1 ≤ o.length; omega, by show o.length ≤ 3; omega⟩
  exact e3 ▸ e4
theorem spec_l4Queries_ok (b : List Int) (D : Dl1Cur) (x1 : Int) (h0 : 0 ≤ x1) (h1 : x1 ≤ 11) : spec_AreQueries_m (spec_l4Queries_m b D x1).1 = true := by
  have hw := wrap_id (n := x1 + 1) (by omega) (by omega)
  have hb := spec_l1Below_rng b (spec_l1Below_m b D 2).2 (x1 + 1)
  have hb' := hb.2.1 (by omega)
  have h2 := spec_l1Below_rng b D 2
  have h2' := h2.2.1 (by omega)
  have key : ∀ (m k : Nat) (s : (List DQuery) × Int × Int × Nat × Int), (s.2.2.1 ≤ 100 ∧ ((s.1.length : Nat) : Int) + ((s.2.2.1.toNat : Nat) : Int) ≤ x1 ∧ (0 ≤ s.2.1 ∧ s.2.1 ≤ 1 + 2 * ((s.1.length : Nat) : Int)) ∧ (∀ q ∈ s.1, QOk q ∧ q.Id < s.2.1) ∧ s.1.Pairwise (fun a b => a.Id < b.Id)) → ∃ s', rngb (R := ((List DQuery) × Dl1Cur)) (fun k (s : (List DQuery) × Int × Int × Nat × Int) => spec_l4Queries_b1 b k s.1 s.2.1 s.2.2.1 s.2.2.2.1 s.2.2.2.2) m k s = .inr s' ∧ ((s'.1.length : Nat) : Int) ≤ x1 ∧ (∀ q ∈ s'.1, QOk q) ∧ s'.1.Pairwise (fun a b => a.Id < b.Id) := fun m k s hs => by
    obtain ⟨s', e1, e2⟩ := rngb_invP (R := ((List DQuery) × Dl1Cur)) (b := fun k (s : (List DQuery) × Int × Int × Nat × Int) => spec_l4Queries_b1 b k s.1 s.2.1 s.2.2.1 s.2.2.2.1 s.2.2.2.2) (P := fun _ s => s.2.2.1 ≤ 100 ∧ ((s.1.length : Nat) : Int) + ((s.2.2.1.toNat : Nat) : Int) ≤ x1 ∧ (0 ≤ s.2.1 ∧ s.2.1 ≤ 1 + 2 * ((s.1.length : Nat) : Int)) ∧ (∀ q ∈ s.1, QOk q ∧ q.Id < s.2.1) ∧ s.1.Pairwise (fun a b => a.Id < b.Id)) (Q := fun s => ((s.1.length : Nat) : Int) ≤ x1 ∧ (∀ q ∈ s.1, QOk q) ∧ s.1.Pairwise (fun a b => a.Id < b.Id)) (fun k s ⟨p1, p2, p3, p4, p5⟩ => by
      show (∃ s', spec_l4Queries_b1 b k s.1 s.2.1 s.2.2.1 s.2.2.2.1 s.2.2.2.2 = _ ∧ _) ∨ ∃ s', spec_l4Queries_b1 b k s.1 s.2.1 s.2.2.1 s.2.2.2.1 s.2.2.2.2 = _ ∧ _
      unfold spec_l4Queries_b1
      by_cases h : 0 < s.2.2.1
      · have hq := spec_l4Query_ok b (⟨s.2.2.2.1, s.2.2.2.2⟩ : Dl1Cur) s.2.1 (by omega)
        have hc := spec_l1Below_rng b (spec_l4Query_m b (⟨s.2.2.2.1, s.2.2.2.2⟩ : Dl1Cur) s.2.1).2 2
        have hc' := hc.2.1 (by omega)
        rw [decide_eq_true h, cond_true, wrap_id (n := s.2.2.1 - 1) (by omega) (by omega), wrap_id (n := s.2.1 + 1) (by omega) (by omega), wrap_id (by omega) (by omega)]
        have hl : (s.1 ++ [(spec_l4Query_m b (⟨s.2.2.2.1, s.2.2.2.2⟩ : Dl1Cur) s.2.1).1]).length = s.1.length + 1 := by rw [List.length_append]; rfl
        refine .inl ⟨_, rfl, ?_, ?_, ?_, fun q hq' => ?_, ?_⟩
        · show s.2.2.1 - 1 ≤ 100; omega
        · show (((s.1 ++ [_]).length : Nat) : Int) + (((s.2.2.1 - 1).toNat : Nat) : Int) ≤ x1; rw [hl]; omega
        · show 0 ≤ s.2.1 + 1 + (spec_l1Below_m b (spec_l4Query_m b (⟨s.2.2.2.1, s.2.2.2.2⟩ : Dl1Cur) s.2.1).2 2).1 ∧ s.2.1 + 1 + (spec_l1Below_m b (spec_l4Query_m b (⟨s.2.2.2.1, s.2.2.2.2⟩ : Dl1Cur) s.2.1).2 2).1 ≤ 1 + 2 * (((s.1 ++ [(spec_l4Query_m b (⟨s.2.2.2.1, s.2.2.2.2⟩ : Dl1Cur) s.2.1).1]).length : Nat) : Int)
          rw [hl]; omega
        · show QOk q ∧ q.Id < s.2.1 + 1 + (spec_l1Below_m b (spec_l4Query_m b (⟨s.2.2.2.1, s.2.2.2.2⟩ : Dl1Cur) s.2.1).2 2).1
          rcases List.mem_append.1 hq' with hq' | hq'
          · have := p4 q hq'; exact ⟨this.1, by omega⟩
          · rw [List.mem_singleton.1 hq']; exact ⟨hq.1, by rw [hq.2]; omega⟩
        · show (s.1 ++ [_]).Pairwise _
          rw [List.pairwise_append]
          refine ⟨p5, List.pairwise_singleton _ _, fun a ha c hc => ?_⟩
          rw [List.mem_singleton.1 hc, hq.2]
          exact (p4 a ha).2
      · rw [decide_eq_false h]
        exact .inr ⟨_, rfl, (by show ((s.1.length : Nat) : Int) ≤ x1; omega), fun q hq => (p4 q hq).1, p5⟩) m k s hs
    exact ⟨s', e1, e2.elim id fun h => ⟨by omega, fun q hq => (h.2.2.2.1 q hq).1, h.2.2.2.2⟩⟩
  unfold spec_l4Queries_m
  rw [hw]
  obtain ⟨s', e, g1, g2, g3⟩ := key ((spec_l1Below_m b (spec_l1Below_m b D 2).2 (x1 + 1)).1.toNat + 1 - 0) 0 ([], (spec_l1Below_m b D 2).1, (spec_l1Below_m b (spec_l1Below_m b D 2).2 (x1 + 1)).1, (spec_l1Below_m b (spec_l1Below_m b D 2).2 (x1 + 1)).2.i, (spec_l1Below_m b (spec_l1Below_m b D 2).2 (x1 + 1)).2.h) ⟨(by show (spec_l1Below_m b (spec_l1Below_m b D 2).2 (x1 + 1)).1 ≤ 100; omega), (by show ((0 : Nat) : Int) + (((spec_l1Below_m b (spec_l1Below_m b D 2).2 (x1 + 1)).1.toNat : Nat) : Int) ≤ x1; omega), (by show 0 ≤ (spec_l1Below_m b D 2).1 ∧ (spec_l1Below_m b D 2).1 ≤ 1 + 2 * ((0 : Nat) : Int); omega), (fun q hq => by cases hq), List.Pairwise.nil⟩
  rw [e]
  exact AreQueries_of g2 g3 (show s'.1.length ≤ 24 by omega)
theorem Build_parts (b : List Int) (D : Dl1Cur) (x1 : Int) (h0 : 0 ≤ x1) (h1 : x1 ≤ 11) : (spec_BuildIndex_m (spec_l4Queries_m b D x1).1).Queries = (spec_l4Queries_m b D x1).1 ∧ (spec_BuildIndex_m (spec_l4Queries_m b D x1).1).Fields.length = 3 := by
  unfold spec_BuildIndex_m
  rw [spec_l4Queries_ok b D x1 h0 h1]
  exact ⟨rfl, rfl⟩
def spec_l6Index_m (x0b : List Int) (x0 : Dl1Cur) : (DIndex × Dl1Cur) :=
 cond ((spec_l1Below_m x0b ((spec_l4Queries_m x0b x0 6).2) 16).1 == 0) ((⟨((spec_BuildIndex_m ((spec_l4Queries_m x0b x0 6).1)).Queries ++ [(spec_l4Any_m x0b (spec_l1Below_m x0b ((spec_l4Queries_m x0b x0 6).2) 16).2).1]), (spec_BuildIndex_m ((spec_l4Queries_m x0b x0 6).1)).Fields⟩ : DIndex), ((spec_l4Any_m x0b (spec_l1Below_m x0b ((spec_l4Queries_m x0b x0 6).2) 16).2).2)) (cond ((spec_l1Below_m x0b ((spec_l4Queries_m x0b x0 6).2) 16).1 == 1) ((⟨(spec_BuildIndex_m ((spec_l4Queries_m x0b x0 6).1)).Queries, (List.drop 1 ((spec_BuildIndex_m ((spec_l4Queries_m x0b x0 6).1)).Fields))⟩ : DIndex), (spec_l1Below_m x0b ((spec_l4Queries_m x0b x0 6).2) 16).2) ((spec_BuildIndex_m ((spec_l4Queries_m x0b x0 6).1)), (spec_l1Below_m x0b ((spec_l4Queries_m x0b x0 6).2) 16).2))
theorem cb23 : Cb Try.prog 23 := ⟨f23, _, func23, rfl, by decide⟩
theorem spec_l6Index_c (B : Nat) (w0 : World) (is : List It) (w : World) (p : Nat) (z0 : Value) (x0b : List Int) (x0 : Dl1Cur) (r_0 : rdS tU8 w0 B z0 x0b) (s_0 : x0b.length ≤ 68719476736) (hm : Mem B w0 (iBox p 74 [z0, .int .i64 ((x0.i : Nat) : Int), .int .i64 x0.h] :: is) w) :
  Calls Try.prog 23 #[.pointer (some ⟨p, 0, none⟩)] w fun e w' => ∃ x : List Value, e = .returned (.agg x.toArray) ∧ Mem B w0 (iOwn tyIndex x ((spec_l6Index_m x0b x0).1) :: iBox p 74 [z0, .int .i64 ((((spec_l6Index_m x0b x0).2).i : Nat) : Int), .int .i64 ((spec_l6Index_m x0b x0).2).h] :: is) w' := by
 obtain ⟨m1, A2, c3, rfl, q4, r5⟩ := rdS_op r_0
 refine call_enterW (L := [(0, .pointer (some ⟨p, 0, none⟩))]) (N := 25) func23 rfl rfl (Nat.le_of_ble_eq_true rfl) (argsL_cons rfl argsL_nil) hm ?_
 have l6 : x0b.length ≤ 68719476736 := s_0
 refine sr ?_
 refine WM_alloc type27 rfl (Wd_none rfl) (by decide) (fun p7 => ?_)
 refine nt' (sr (wm ?_))
 let I11 : It := iBox p7 27 [.slice none 0 0, .slice none 0 0]
 refine WM_callW (χ := Value) (val := fun x => x) (js := fun x => (iOwn (tSl tyQuery 39) [x] ((spec_l4Queries_m x0b x0 6).1) :: iBox p 74 [.slice A2 x0b.length c3, .int .i64 ((((spec_l4Queries_m x0b x0 6).2).i : Nat) : Int), .int .i64 ((spec_l4Queries_m x0b x0 6).2).h] :: (I11 :: is))) (cl_fn cb48 rfl) (fun W hm => spec_l4Queries_c B w0 (I11 :: is) W p _ x0b x0 r5 6 s_0 (⟨by omega, by omega⟩) (hm.front (n := 1) rfl)) (Wd_none rfl) (by decide) (fun z8 => ?_)
 have hqs := spec_l4Queries_fact x0b x0 6 (by omega) (by omega)
 refine WM_form (n := 0) rfl ?_
 rintro A9 c10 rfl m11
 refine wcs tyIndex (spec_BuildIndex_m ((spec_l4Queries_m x0b x0 6).1)) (cl_fn cb47 rfl) (fun W hm => spec_BuildIndex_c W _ ((spec_l4Queries_m x0b x0 6).1) (hm.rdSI (n := 0) rfl) (Qs_sm hqs (by omega))) (fun z13 => ?_)
 have hbp := Build_parts x0b x0 6 (by omega) (by omega)
 have hbq := congrArg List.length hbp.1
 have hbs := BuildIndex_sm hqs (by omega)
 refine tyIndex_sp ?_
 rintro ⟨v14, v15⟩ rfl
 refine WM_form (n := 0) rfl ?_
 rintro A16 c17 rfl m18
 refine WM_formP (n := 1) rfl ?_
 rintro A20 c21 rfl m22
 refine WM_alloc type27 rfl (Wd_none rfl) (by decide) (fun p24 => ?_)
 let K1 : List Value := [.slice A16 ((spec_BuildIndex_m ((spec_l4Queries_m x0b x0 6).1)).Queries).length c17, .slice A20 ((spec_BuildIndex_m ((spec_l4Queries_m x0b x0 6).1)).Fields).length c21]
 refine WM_storeBox (p := p24) (o := 0) (cs' := K1) (fun w hm => hm.front (n := 0) rfl) type27 rfl (Nat.le_of_ble_eq_true rfl) rfl rfl rfl rfl (Wd_none rfl) ?_
 refine nt' (CM_seq (sr (wm ?_)))
 let K2 : List Value := [.slice A16 ((spec_BuildIndex_m ((spec_l4Queries_m x0b x0 6).1)).Queries).length c17]
 let K3 : List Value := [.slice A20 ((spec_BuildIndex_m ((spec_l4Queries_m x0b x0 6).1)).Fields).length c21]
 let I12 : It := iOwn (tSl tyQuery 39) K2 ((spec_BuildIndex_m ((spec_l4Queries_m x0b x0 6).1)).Queries)
 let I13 : It := iOwn (tPa (tSl tySpan 86) 64) K3 ((spec_BuildIndex_m ((spec_l4Queries_m x0b x0 6).1)).Fields)
 let I14 : It := iOwn (tSl tyQuery 39) [.slice A9 ((spec_l4Queries_m x0b x0 6).1).length c10] ((spec_l4Queries_m x0b x0 6).1)
 refine WM_callW (χ := Unit) (val := fun x => .int .i64 ((spec_l1Below_m x0b ((spec_l4Queries_m x0b x0 6).2) 16).1)) (js := fun x => (iBox p 74 [.slice A2 x0b.length c3, .int .i64 ((((spec_l1Below_m x0b ((spec_l4Queries_m x0b x0 6).2) 16).2).i : Nat) : Int), .int .i64 ((spec_l1Below_m x0b ((spec_l4Queries_m x0b x0 6).2) 16).2).h] :: (iBox p24 27 K1 :: I12 :: I13 :: I14 :: I11 :: is))) (cl_fn cb41 rfl) (fun W hm => spec_l1Below_c B w0 (iBox p24 27 K1 :: I12 :: I13 :: I14 :: I11 :: is) W p _ x0b ((spec_l4Queries_m x0b x0 6).2) r5 16 s_0 (hm.front (n := 4) rfl)) (Wd_none rfl) (by decide) (fun z25 => ?_)
 have hb := spec_l1Below_rng x0b ((spec_l4Queries_m x0b x0 6).2) 16
 obtain ⟨G26, hG26⟩ : ∃ G, G = (spec_l1Below_m x0b ((spec_l4Queries_m x0b x0 6).2) 16) := ⟨_, rfl⟩
 rw [← hG26]
 rw [← hG26] at hb
 refine nt' (CM_block (sr ?_))
 refine wv (fun W hm => rv_eql rfl rfl) ?_
 refine wa (nt' ?_)
 by_cases h27 : G26.1 = 0
 ·have g28 := beq_iff_eq.2 h27
  refine CM_condT rfl g28 ?_
  refine rd2 8 [7] (s := (I13 :: I14 :: I11 :: is)) (s2 := (iBox p24 27 K1 :: I13 :: I14 :: I11 :: is)) (fun W hm => ((((((hm.front (n := 5) rfl).front (n := 5) rfl).front (n := 5) rfl).front (n := 3) rfl).tail.front (n := 3) rfl).tail.front (n := 3) rfl).tail) (fun W hm => ((((((hm.front (n := 5) rfl).front (n := 5) rfl).front (n := 5) rfl).front (n := 4) rfl).front (n := 4) rfl).tail.front (n := 4) rfl).tail) ?_
  refine qtD 8 0 1 rfl (vf underlying27 rfl type24) ?_
  refine qtD 8 1 3 rfl (vl 0 0 underlying24) ?_
  refine qtD 8 2 7 rfl vmv ?_
  refine qoD 8 3 15 rfl ?_
  refine WM_callW (χ := List Value) (val := fun x => .agg x.toArray) (js := fun x => (iOwn tyQuery x ((spec_l4Any_m x0b G26.2).1) :: iBox p 74 [.slice A2 x0b.length c3, .int .i64 ((((spec_l4Any_m x0b G26.2).2).i : Nat) : Int), .int .i64 ((spec_l4Any_m x0b G26.2).2).h] :: (iBox p24 27 K1 :: I12 :: I13 :: I14 :: I11 :: is))) (cl_fn cb49 rfl) (fun W hm => spec_l4Any_c B w0 (iBox p24 27 K1 :: I12 :: I13 :: I14 :: I11 :: is) W p _ x0b G26.2 r5 s_0 (hm.front (n := 0) rfl)) (Wd_none rfl) (by decide) (fun z29 => ?_)
  refine tyQuery_sp ?_
  rintro ⟨v30, v31⟩ rfl
  refine WM_form (n := 0) rfl ?_
  rintro A32 c33 rfl m34
  refine WM_form (n := 1) rfl ?_
  rintro A36 c37 rfl m38
  refine qnD (fun W hm => ((((((((hm.front (n := 7) rfl).front (n := 7) rfl).front (n := 7) rfl).front (n := 3) rfl).tail.front (n := 3) rfl).tail.front (n := 3) rfl).tail.front (n := 3) rfl).tail.front (n := 3) rfl).tail) (fun W hm => ((((((((hm.front (n := 7) rfl).front (n := 7) rfl).front (n := 7) rfl).front (n := 6) rfl).front (n := 4) rfl).tail.front (n := 4) rfl).tail.front (n := 4) rfl).tail.front (n := 4) rfl).tail) ?_
  refine qoD 8 4 31 rfl ?_
  let K4 : List Value := [.int .i64 (((spec_l4Any_m x0b G26.2).1).Id), .int .i64 (((spec_l4Any_m x0b G26.2).1).Tenant), .slice A32 (((spec_l4Any_m x0b G26.2).1).Conds).length c33, .slice A36 (((spec_l4Any_m x0b G26.2).1).Out).length c37]
  refine WM_build (cs := K4) underlying24 type39 rfl (by decide) (by decide) rfl (by kernel_rfl) (Wd_none rfl) (by decide) (fun p40 => ?_)
  refine qnD (fun W hm => (((((((((hm.front (n := 8) rfl).front (n := 8) rfl).front (n := 8) rfl).front (n := 3) rfl).tail.front (n := 3) rfl).tail.front (n := 3) rfl).tail.front (n := 3) rfl).tail.front (n := 3) rfl).tail.front (n := 3) rfl).tail) (fun W hm => (((((((((hm.front (n := 8) rfl).front (n := 8) rfl).front (n := 8) rfl).front (n := 7) rfl).front (n := 4) rfl).tail.front (n := 4) rfl).tail.front (n := 4) rfl).tail.front (n := 4) rfl).tail.front (n := 4) rfl).tail) ?_
  refine qoD 8 5 63 rfl ?_
  let K5 : List Value := [.slice A2 x0b.length c3, .int .i64 ((((spec_l4Any_m x0b G26.2).2).i : Nat) : Int), .int .i64 (((spec_l4Any_m x0b G26.2).2).h)]
  refine ap1 tyQuery 39 (.slice A16 ((spec_BuildIndex_m ((spec_l4Queries_m x0b x0 6).1)).Queries).length c17) ((spec_BuildIndex_m ((spec_l4Queries_m x0b x0 6).1)).Queries) ((spec_l4Any_m x0b G26.2).1) [iOwn (tSl tyCond 90) [.slice A32 (((spec_l4Any_m x0b G26.2).1).Conds).length c33] (((spec_l4Any_m x0b G26.2).1).Conds), iOwn (tSl tInt 3) [.slice A36 (((spec_l4Any_m x0b G26.2).1).Out).length c37] (((spec_l4Any_m x0b G26.2).1).Out)] (iBox p 74 K5 :: iBox p24 27 K1 :: I13 :: I14 :: I11 :: is) K4 (fun W hm => ((((hm.front (n := 2) rfl).front (n := 2) rfl).front (n := 5) rfl).front (n := 3) rfl)) (fun _ _ hs => Els.single (tyQuery_join (x := ((spec_l4Any_m x0b G26.2).1)) hs)) underlying24 type39 (show (((spec_BuildIndex_m ((spec_l4Queries_m x0b x0 6).1)).Queries).length + 1) * 64 ≤ 140737488355328 from by omega) (fun v41 => ?_)
  refine WM_form (n := 0) rfl ?_
  rintro A42 c43 rfl m44
  refine qnD (fun W hm => ((((((hm.front (n := 5) rfl).front (n := 5) rfl).front (n := 5) rfl).front (n := 3) rfl).tail.front (n := 3) rfl).tail.front (n := 3) rfl).tail) (fun W hm => ((((((hm.front (n := 5) rfl).front (n := 5) rfl).front (n := 5) rfl).front (n := 5) rfl).front (n := 4) rfl).tail.front (n := 4) rfl).tail) ?_
  refine qtD 8 6 127 rfl (vf underlying27 rfl type24) ?_
  refine qoD 8 7 255 rfl ?_
  let K6 : List Value := [.slice A42 ((spec_BuildIndex_m ((spec_l4Queries_m x0b x0 6).1)).Queries ++ [(spec_l4Any_m x0b G26.2).1]).length c43, .slice A20 ((spec_BuildIndex_m ((spec_l4Queries_m x0b x0 6).1)).Fields).length c21]
  refine WM_storeBox (p := p24) (o := 0) (cs' := K6) (fun w hm => hm.front (n := 2) rfl) type24 rfl (Nat.le_of_ble_eq_true rfl) rfl rfl rfl rfl (Wd_none rfl) ?_
  refine qxD (fun W hm => ((((((hm.front (n := 5) rfl).front (n := 5) rfl).front (n := 5) rfl).front (n := 3) rfl).tail.front (n := 3) rfl).tail.front (n := 3) rfl).tail) ?_
  refine QB_done (by kernel_rfl) ?_
  refine QM_block_normal (QM_then (sr ?_))
  refine wv (fun W hm => rv_loadN (cs := K6) underlying27 type27 rfl rfl (hm.boxCells (n := 0) rfl)) ?_
  refine WM_storeBox (p := p7) (o := 0) (cs' := K6) (fun w hm => hm.front (n := 5) rfl) type27 rfl (Nat.le_of_ble_eq_true rfl) rfl rfl rfl rfl (Wd_none rfl) ?_
  refine nt' (CM_ret ?_)
  refine QM_items (js := (iOwn tyIndex K6 (⟨((spec_BuildIndex_m ((spec_l4Queries_m x0b x0 6).1)).Queries ++ [(spec_l4Any_m x0b G26.2).1]), (spec_BuildIndex_m ((spec_l4Queries_m x0b x0 6).1)).Fields⟩ : DIndex) :: (iBox p7 27 K6 :: iBox p24 27 K6 :: iBox p 74 K5 :: I14 :: is))) (fun W hm => Mem.join (is := [iOwn (tSl tyQuery 39) [.slice A42 ((spec_BuildIndex_m ((spec_l4Queries_m x0b x0 6).1)).Queries ++ [(spec_l4Any_m x0b G26.2).1]).length c43] ((spec_BuildIndex_m ((spec_l4Queries_m x0b x0 6).1)).Queries ++ [(spec_l4Any_m x0b G26.2).1]), I13]) (js := (iBox p7 27 K6 :: iBox p24 27 K6 :: iBox p 74 K5 :: I14 :: is)) (fun _ _ hs => tyIndex_join (x := (⟨((spec_BuildIndex_m ((spec_l4Queries_m x0b x0 6).1)).Queries ++ [(spec_l4Any_m x0b G26.2).1]), (spec_BuildIndex_m ((spec_l4Queries_m x0b x0 6).1)).Fields⟩ : DIndex)) hs) ((hm.front (n := 4) rfl).front (n := 3) rfl)) ?_
  have he46 := (show spec_l6Index_m x0b x0 = ((⟨((spec_BuildIndex_m ((spec_l4Queries_m x0b x0 6).1)).Queries ++ [(spec_l4Any_m x0b G26.2).1]), (spec_BuildIndex_m ((spec_l4Queries_m x0b x0 6).1)).Fields⟩ : DIndex), ((spec_l4Any_m x0b G26.2).2)) from by subst hG26; exact cond_t g28 (rfl))
  refine QM_r1 rfl (RR_cell (n := 1) rfl rfl underlying27 type27 rfl) (fun W hm => ⟨K6, ?_, ?_⟩)
  ·first | rw [he46] | rfl
  ·rw [he46]; exact (((((hm.front (n := 3) rfl).front (n := 1) rfl).front (n := 2) rfl).tail.front (n := 2) rfl).tail.front (n := 2) rfl).tail
 ·have g28 := beq_eq_false_iff_ne.2 h27
  refine CM_condF rfl g28 ?_
  refine sr ?_
  refine wv (fun W hm => rv_eql rfl rfl) ?_
  refine wa (nt' ?_)
  by_cases h47 : G26.1 = 1
  ·have g48 := beq_iff_eq.2 h47
   refine CM_condT rfl g48 ?_
   refine CM_region ?_
   refine wv (vf underlying27 rfl type25) ?_
   refine wv (vl 1 1 underlying25) ?_
   refine wv (fun W hm => rv_sliceLo (k := 1) (s := 1) underlying25 type64 rfl rfl rfl (by omega)) ?_
   refine wv (vf underlying27 rfl type25) ?_
   let K7 : List Value := [.slice A16 ((spec_BuildIndex_m ((spec_l4Queries_m x0b x0 6).1)).Queries).length c17, .slice (offA A20 c21 1 1) (((spec_BuildIndex_m ((spec_l4Queries_m x0b x0 6).1)).Fields).length - 1) (c21 - 1)]
   refine WM_storeBox (p := p24) (o := 1) (cs' := K7) (fun w hm => hm.front (n := 1) rfl) type25 rfl (Nat.le_of_ble_eq_true rfl) rfl rfl rfl rfl (Wd_none rfl) ?_
   refine WM_nil (QM_block_normal (QM_then (sr ?_)))
   refine wv (fun W hm => rv_loadN (cs := K7) underlying27 type27 rfl rfl (hm.boxCells (n := 0) rfl)) ?_
   refine WM_storeBox (p := p7) (o := 0) (cs' := K7) (fun w hm => hm.front (n := 5) rfl) type27 rfl (Nat.le_of_ble_eq_true rfl) rfl rfl rfl rfl (Wd_none rfl) ?_
   refine nt' (CM_ret ?_)
   let K8 : List Value := [.slice (offA A20 c21 1 1) (((spec_BuildIndex_m ((spec_l4Queries_m x0b x0 6).1)).Fields).length - 1) (c21 - 1)]
   let K9 : List Value := [.slice A2 x0b.length c3, .int .i64 ((G26.2.i : Nat) : Int), .int .i64 G26.2.h]
   let I15 : It := iOwn (tPa (tSl tySpan 86) 64) K8 (List.drop 1 ((spec_BuildIndex_m ((spec_l4Queries_m x0b x0 6).1)).Fields))
   refine QM_items (js := (I15 :: (iBox p7 27 K7 :: iBox p24 27 K7 :: iBox p 74 K9 :: I12 :: I14 :: is))) (fun W hm => Mem.toPaD (k := 1) (s := 1) (by omega) rfl (hm.front (n := 4) rfl)) ?_
   refine QM_items (js := (iOwn tyIndex K7 (⟨(spec_BuildIndex_m ((spec_l4Queries_m x0b x0 6).1)).Queries, (List.drop 1 ((spec_BuildIndex_m ((spec_l4Queries_m x0b x0 6).1)).Fields))⟩ : DIndex) :: (iBox p7 27 K7 :: iBox p24 27 K7 :: iBox p 74 K9 :: I14 :: is))) (fun W hm => Mem.join (is := [I12, I15]) (js := (iBox p7 27 K7 :: iBox p24 27 K7 :: iBox p 74 K9 :: I14 :: is)) (fun _ _ hs => tyIndex_join (x := (⟨(spec_BuildIndex_m ((spec_l4Queries_m x0b x0 6).1)).Queries, (List.drop 1 ((spec_BuildIndex_m ((spec_l4Queries_m x0b x0 6).1)).Fields))⟩ : DIndex)) hs) ((hm.front (n := 0) rfl).front (n := 4) rfl)) ?_
   have he49 := (show spec_l6Index_m x0b x0 = ((⟨(spec_BuildIndex_m ((spec_l4Queries_m x0b x0 6).1)).Queries, (List.drop 1 ((spec_BuildIndex_m ((spec_l4Queries_m x0b x0 6).1)).Fields))⟩ : DIndex), G26.2) from by subst hG26; exact cond_f g28 (cond_t g48 (rfl)))
   refine QM_r1 rfl (RR_cell (n := 1) rfl rfl underlying27 type27 rfl) (fun W hm => ⟨K7, ?_, ?_⟩)
   ·first | rw [he49] | rfl
   ·rw [he49]; exact (((((hm.front (n := 3) rfl).front (n := 1) rfl).front (n := 2) rfl).tail.front (n := 2) rfl).tail.front (n := 2) rfl).tail
  ·have g48 := beq_eq_false_iff_ne.2 h47
   refine CM_condF rfl g48 ?_
   refine CM_skip (QM_block_normal (QM_then (sr ?_)))
   refine wv (fun W hm => rv_loadN (cs := K1) underlying27 type27 rfl rfl (hm.boxCells (n := 1) rfl)) ?_
   refine WM_storeBox (p := p7) (o := 0) (cs' := K1) (fun w hm => hm.front (n := 5) rfl) type27 rfl (Nat.le_of_ble_eq_true rfl) rfl rfl rfl rfl (Wd_none rfl) ?_
   refine nt' (CM_ret ?_)
   let K10 : List Value := [.slice A2 x0b.length c3, .int .i64 ((G26.2.i : Nat) : Int), .int .i64 G26.2.h]
   refine QM_items (js := (iOwn tyIndex K1 (spec_BuildIndex_m ((spec_l4Queries_m x0b x0 6).1)) :: (iBox p7 27 K1 :: iBox p 74 K10 :: iBox p24 27 K1 :: I14 :: is))) (fun W hm => Mem.join (is := [I12, I13]) (js := (iBox p7 27 K1 :: iBox p 74 K10 :: iBox p24 27 K1 :: I14 :: is)) (fun _ _ hs => tyIndex_join (x := (spec_BuildIndex_m ((spec_l4Queries_m x0b x0 6).1))) hs) ((hm.front (n := 4) rfl).front (n := 4) rfl)) ?_
   have he50 := (show spec_l6Index_m x0b x0 = ((spec_BuildIndex_m ((spec_l4Queries_m x0b x0 6).1)), G26.2) from by subst hG26; exact cond_f g28 (cond_f g48 (rfl)))
   refine QM_r1 rfl (RR_cell (n := 1) rfl rfl underlying27 type27 rfl) (fun W hm => ⟨K1, ?_, ?_⟩)
   ·first | rw [he50] | rfl
   ·rw [he50]; exact (((((hm.front (n := 2) rfl).front (n := 1) rfl).front (n := 2) rfl).tail.front (n := 2) rfl).tail.front (n := 2) rfl).tail

def spec_l3Row_b1 (x0b : List Int) (x0 : Dl1Cur) (k13 : Nat) (s15 : Nat) (s16 : Int) (d18 : (List Int)) : (DRow × Dl1Cur) ⊕ (Nat × Int × (List Int)) :=
 Sum.inr ((spec_l1Below_m x0b (⟨s15, s16⟩ : Dl1Cur) (spec_l1PickInt_m x0b x0 [3, 6, 100]).1).2.i, (spec_l1Below_m x0b (⟨s15, s16⟩ : Dl1Cur) (spec_l1PickInt_m x0b x0 [3, 6, 100]).1).2.h, (d18 ++ [(spec_l1Below_m x0b (⟨s15, s16⟩ : Dl1Cur) (spec_l1PickInt_m x0b x0 [3, 6, 100]).1).1]))
def spec_l3Row_m (x0b : List Int) (x0 : Dl1Cur) (x1 : Int) : (DRow × Dl1Cur) :=
 Sum.elim id (fun (s : Nat × Int × (List Int)) => ((⟨x1, s.2.2⟩ : DRow), (⟨s.1, s.2.1⟩ : Dl1Cur))) (rng (R := (DRow × Dl1Cur)) (fun k (s : Nat × Int × (List Int)) => spec_l3Row_b1 x0b x0 k s.1 s.2.1 s.2.2) (3 - 0) 0 ((spec_l1PickInt_m x0b x0 [3, 6, 100]).2.i, (spec_l1PickInt_m x0b x0 [3, 6, 100]).2.h, []))
theorem cb73 : Cb Try.prog 73 := ⟨f73, _, func73, rfl, by decide⟩
theorem spec_l3Row_c (B : Nat) (w0 : World) (is : List It) (w : World) (p : Nat) (z0 : Value) (x0b : List Int) (x0 : Dl1Cur) (r_0 : rdS tU8 w0 B z0 x0b) (x1 : Int) (s_0 : x0b.length ≤ 68719476736) (hm : Mem B w0 (iBox p 74 [z0, .int .i64 ((x0.i : Nat) : Int), .int .i64 x0.h] :: is) w) :
  Calls Try.prog 73 #[.pointer (some ⟨p, 0, none⟩), .int .i64 x1] w fun e w' => ∃ x : List Value, e = .returned (.agg x.toArray) ∧ Mem B w0 (iOwn tyRow x ((spec_l3Row_m x0b x0 x1).1) :: iBox p 74 [z0, .int .i64 ((((spec_l3Row_m x0b x0 x1).2).i : Nat) : Int), .int .i64 ((spec_l3Row_m x0b x0 x1).2).h] :: is) w' := by
 obtain ⟨m1, A2, c3, rfl, q4, r5⟩ := rdS_op r_0
 refine call_enterW (L := [(0, .pointer (some ⟨p, 0, none⟩)), (1, .int .i64 x1)]) (N := 28) func73 rfl rfl (Nat.le_of_ble_eq_true rfl) (argsL_cons rfl (argsL_cons rfl argsL_nil)) hm ?_
 have l6 : x0b.length ≤ 68719476736 := s_0
 refine sr ?_
 refine WM_alloc type50 rfl (Wd_none rfl) (by decide) (fun p7 => ?_)
 refine nt' (sr (wm ?_))
 refine wv (fun W hm => rv_build (cs := [.int .i64 x1, .slice none 0 0]) rfl (by kernel_rfl)) ?_
 refine WM_alloc type50 rfl (Wd_none rfl) (by decide) (fun p8 => ?_)
 refine WM_storeBox (p := p8) (o := 0) (cs' := [.int .i64 x1, .slice none 0 0]) (fun w hm => hm.front (n := 0) rfl) type50 rfl (Nat.le_of_ble_eq_true rfl) rfl rfl rfl rfl (Wd_none rfl) ?_
 refine nt' (sr (wm ?_))
 refine WM_build (cs := [.int .i64 3, .int .i64 6, .int .i64 100]) underlying37 type3 rfl (by decide) (by decide) rfl (by kernel_rfl) (Wd_none rfl) (by decide) (fun p9 => ?_)
 refine WM_items (fun W hm => Mem.litOwn (E := tInt) (xs := [3, 6, 100]) rfl (show 3 ≤ maxLen from by decide) (fun _ => (els_cons (E := tInt) (L1 := []) tInt_own (els_cons (E := tInt) (L1 := []) tInt_own (els_cons (E := tInt) (L1 := []) tInt_own els_nil)))) (hm.front (n := 0) rfl)) ?_
 let I5 : It := iOwn (tSl tInt 3) [.slice (some ⟨p9, 0, none⟩) 3 3] [3, 6, 100]
 refine WM_callW (χ := Unit) (val := fun x => .int .i64 ((spec_l1PickInt_m x0b x0 [3, 6, 100]).1)) (js := fun x => (iBox p 74 [.slice A2 x0b.length c3, .int .i64 ((((spec_l1PickInt_m x0b x0 [3, 6, 100]).2).i : Nat) : Int), .int .i64 ((spec_l1PickInt_m x0b x0 [3, 6, 100]).2).h] :: I5 :: (iBox p8 50 [.int .i64 x1, .slice none 0 0] :: iBox p7 50 [.int .i64 0, .slice none 0 0] :: is))) (cl_fn cb66 rfl) (fun W hm => spec_l1PickInt_c B w0 (iBox p8 50 [.int .i64 x1, .slice none 0 0] :: iBox p7 50 [.int .i64 0, .slice none 0 0] :: is) W p _ x0b x0 r5 _ [3, 6, 100] s_0 (Nat.le_of_ble_eq_true rfl) (by first | decide | exact Nat.succ_pos _) ((hm.front (n := 0) rfl).front (n := 3) rfl)) (Wd_none rfl) (by decide) (fun z11 => ?_)
 obtain ⟨G12, hG12⟩ : ∃ G, G = (spec_l1PickInt_m x0b x0 [3, 6, 100]) := ⟨_, rfl⟩
 rw [← hG12]
 refine wa (nt' (CM_seq (sr (wa (nt' (CM_block ?_))))))
 let K3 : List Value := [.slice A2 x0b.length c3, .int .i64 ((G12.2.i : Nat) : Int), .int .i64 G12.2.h]
 refine CM_items (js := (iOwn (tSl tInt 3) [.slice none 0 0] [] :: iBox p 74 K3 :: I5 :: iBox p8 50 [.int .i64 x1, .slice none 0 0] :: iBox p7 50 [.int .i64 0, .slice none 0 0] :: is)) (fun W hm => hm.addNil (E := tInt) (e := 3)) ?_
 refine CM_items (js := (iBox p 74 K3 :: I5 :: iBox p8 50 [.int .i64 x1, .slice none 0 0] :: iBox p7 50 [.int .i64 0, .slice none 0 0] :: iOwn (tSl tInt 3) [.slice none 0 0] [] :: is)) (fun W hm => ((((hm.front (n := 4) rfl).front (n := 4) rfl).front (n := 4) rfl).front (n := 4) rfl)) ?_
 let F1 := fun k (s : Nat × Int × (List Int)) => spec_l3Row_b1 x0b x0 k s.1 s.2.1 s.2.2
 let R2 := rng (R := (DRow × Dl1Cur)) F1
 refine CM_loop (σ := Nat × (Nat × Int × (List Int)) × (Option Addr × Nat)) (fun s => [(0, .pointer (some (⟨p, 0, none⟩ : Addr))), (4, .pointer (some (⟨p7, 0, none⟩ : Addr))), (5, .pointer (some (⟨p8, 0, none⟩ : Addr))), (6, .int .i64 G12.1), (7, .int .i64 ((s.1 : Nat) : Int))]) (fun s => (iBox p 74 [.slice A2 x0b.length c3, .int .i64 ((s.2.1.1 : Nat) : Int), .int .i64 s.2.1.2.1] :: I5 :: iBox p8 50 [.int .i64 x1, .slice s.2.2.1 s.2.1.2.2.length s.2.2.2] :: iBox p7 50 [.int .i64 0, .slice none 0 0] :: iOwn (tSl tInt 3) [.slice s.2.2.1 s.2.1.2.2.length s.2.2.2] s.2.1.2.2 :: is)) (fun s => s.1 ≤ 3 ∧ R2 (3 - s.1) s.1 s.2.1 = R2 (3 - 0) 0 (G12.2.i, G12.2.h, []) ∧ s.2.1.2.2.length ≤ 0 + s.1) (fun s => 3 - s.1) (0, (G12.2.i, G12.2.h, []), (none, 0)) sl5 (fun W hm => hm) ⟨(by omega), rfl, Nat.le_refl _⟩ ?_
 rintro ⟨k13, ⟨s15, s16, d18⟩, ⟨A19, c20⟩⟩ H23
 obtain ⟨hk21, hF22, hi24⟩ : k13 ≤ 3 ∧ R2 (3 - k13) k13 (s15, s16, d18) = R2 (3 - 0) 0 (G12.2.i, G12.2.h, []) ∧ d18.length ≤ 0 + k13 := H23
 let K4 : List Value := [.slice A2 x0b.length c3, .int .i64 ((s15 : Nat) : Int), .int .i64 s16]
 let I6 : It := iBox p8 50 [.int .i64 x1, .slice A19 d18.length c20]
 let I7 : It := iOwn (tSl tInt 3) [.slice A19 d18.length c20] d18
 show CM Try.prog 28 _ _ _ _ [(0, .pointer (some (⟨p, 0, none⟩ : Addr))), (4, .pointer (some (⟨p7, 0, none⟩ : Addr))), (5, .pointer (some (⟨p8, 0, none⟩ : Addr))), (6, .int .i64 G12.1), (7, .int .i64 ((k13 : Nat) : Int))] (iBox p 74 K4 :: I5 :: I6 :: iBox p7 50 [.int .i64 0, .slice none 0 0] :: I7 :: is)
 refine CM_seq (sr (wm ?_))
 refine wv vlss ?_
 refine nt' ?_
 by_cases hl25 : k13 < 3
 ·have g26 : (decide (((k13 : Nat) : Int) < 3)) = true := decide_eq_true (by omega)
  refine CM_condT rfl g26 ?_
  refine CM_skip (QM_then (CM_seq (CM_block (sr (wm (wm ?_))))))
  refine WM_callW (χ := Unit) (val := fun x => .int .i64 ((spec_l1Below_m x0b (⟨s15, s16⟩ : Dl1Cur) G12.1).1)) (js := fun x => (iBox p 74 [.slice A2 x0b.length c3, .int .i64 ((((spec_l1Below_m x0b (⟨s15, s16⟩ : Dl1Cur) G12.1).2).i : Nat) : Int), .int .i64 ((spec_l1Below_m x0b (⟨s15, s16⟩ : Dl1Cur) G12.1).2).h] :: (I5 :: I6 :: iBox p7 50 [.int .i64 0, .slice none 0 0] :: I7 :: is))) (cl_fn cb41 rfl) (fun W hm => spec_l1Below_c B w0 (I5 :: I6 :: iBox p7 50 [.int .i64 0, .slice none 0 0] :: I7 :: is) W p _ x0b (⟨s15, s16⟩ : Dl1Cur) r5 G12.1 s_0 (hm.front (n := 0) rfl)) (Wd_none rfl) (by decide) (fun z27 => ?_)
  have hb := spec_l1Below_rng x0b (⟨s15, s16⟩ : Dl1Cur) G12.1
  obtain ⟨G28, hG28⟩ : ∃ G, G = (spec_l1Below_m x0b (⟨s15, s16⟩ : Dl1Cur) G12.1) := ⟨_, rfl⟩
  rw [← hG28]
  rw [← hG28] at hb
  refine wa (nt' (CM_region ?_))
  refine wv (vf underlying50 rfl type37) ?_
  refine wv (vl 2 1 underlying37) ?_
  refine wm ?_
  refine WM_build (cs := [.int .i64 G28.1]) underlying37 type3 rfl (by decide) (by decide) rfl (by kernel_rfl) (Wd_none rfl) (by decide) (fun p29 => ?_)
  refine ap1 tInt 3 (.slice A19 d18.length c20) d18 G28.1 [] (iBox p 74 [.slice A2 x0b.length c3, .int .i64 ((G28.2.i : Nat) : Int), .int .i64 G28.2.h] :: I5 :: I6 :: iBox p7 50 [.int .i64 0, .slice none 0 0] :: is) [.int .i64 G28.1] (fun W hm => ((hm.front (n := 5) rfl).front (n := 1) rfl)) (fun _ _ hs => by cases (Sep.nil hs); exact (els_cons tInt_own els_nil)) underlying37 type3 (show (d18.length + 1) * 8 ≤ 140737488355328 from by omega) (fun v30 => ?_)
  refine WM_form (n := 0) rfl ?_
  rintro A31 c32 rfl m33
  refine wv (vf underlying50 rfl type37) ?_
  refine WM_storeBox (p := p8) (o := 1) (cs' := [.int .i64 x1, .slice A31 (d18 ++ [G28.1]).length c32]) (fun w hm => hm.front (n := 3) rfl) type37 rfl (Nat.le_of_ble_eq_true rfl) rfl rfl rfl rfl (Wd_none rfl) ?_
  refine WM_nil (QM_block_normal (QM_then (CM_region (wm ?_))))
  refine wv (vadN k13 1 (by omega)) ?_
  refine wa (WM_nil ?_)
  have hn35 := rng_next (R := (DRow × Dl1Cur)) (body := F1) (k := k13) (s := (s15, s16, d18)) (s' := (G28.2.i, G28.2.h, (d18 ++ [G28.1]))) (show k13 < 3 from by omega) (by subst hG12 hG28; exact rfl) hF22
  exact QM_round (k13 + 1, (G28.2.i, G28.2.h, (d18 ++ [G28.1])), (A31, c32)) sl5 (fun W hm => (((((hm.front (n := 1) rfl).front (n := 4) rfl).front (n := 2) rfl).front (n := 4) rfl).front (n := 4) rfl)) ⟨(by omega), hn35, (show (d18 ++ [G28.1]).length ≤ 0 + (k13 + 1) from by first | omega | (simp only [List.length_append, List.length_cons, List.length_nil] at *; omega))⟩ (rl (by omega))
 ·have g26 : (decide (((k13 : Nat) : Int) < 3)) = false := decide_eq_false (by omega)
  refine CM_condF rfl g26 ?_
  refine CM_exit (QM_then_exit (QM_then_exit ?_))
  have hE36 : R2 (3 - 0) 0 (G12.2.i, G12.2.h, []) = Sum.inr (s15, s16, d18) := rng_end hl25 hF22
  refine QM_block_hit (QM_then (sr ?_))
  refine wv (fun W hm => rv_loadN (cs := [.int .i64 x1, .slice A19 d18.length c20]) underlying50 type50 rfl rfl (hm.boxCells (n := 2) rfl)) ?_
  refine WM_storeBox (p := p7) (o := 0) (cs' := [.int .i64 x1, .slice A19 d18.length c20]) (fun w hm => hm.front (n := 3) rfl) type50 rfl (Nat.le_of_ble_eq_true rfl) rfl rfl rfl rfl (Wd_none rfl) ?_
  refine nt' (CM_ret ?_)
  let I8 : It := iBox p7 50 [.int .i64 x1, .slice A19 d18.length c20]
  refine QM_items (js := (iOwn tyRow [.int .i64 x1, .slice A19 d18.length c20] (⟨x1, d18⟩ : DRow) :: (I8 :: iBox p 74 K4 :: I5 :: I6 :: is))) (fun W hm => Mem.join (is := [I7]) (js := (I8 :: iBox p 74 K4 :: I5 :: I6 :: is)) (fun _ _ hs => tyRow_join (x := (⟨x1, d18⟩ : DRow)) hs) (hm.front (n := 4) rfl)) ?_
  have he37 := (show spec_l3Row_m x0b x0 x1 = ((⟨x1, d18⟩ : DRow), (⟨s15, s16⟩ : Dl1Cur)) from by subst hG12; exact fin_inr hE36 (rfl))
  refine QM_r1 rfl (RR_cell (n := 1) rfl rfl underlying50 type50 rfl) (fun W hm => ⟨[.int .i64 x1, .slice A19 d18.length c20], ?_, ?_⟩)
  ·first | rw [he37] | rfl
  ·rw [he37]; exact (((((hm.front (n := 2) rfl).front (n := 1) rfl).front (n := 2) rfl).tail.front (n := 2) rfl).tail.front (n := 2) rfl).tail

end Go.Proofs.Ytpijbmiahfnliaa
