/-
  Contracts of functions, printed by a program of ours.
-/
import Derived.Test.YtcjelfdpekbbkaaDoorDat
namespace Go.Proofs.YtcjelfdpekbbkaaDoor
open Go.RowKit
set_option maxRecDepth 100000
set_option maxHeartbeats 4000000
open _root_.Go.Proofs.Tryd
def laws_toGroup_m (x0 : DGroup) : DGroup :=
 x0
theorem cb9 : Cb Tryd.prog 9 := ⟨f9, _, func9, rfl, by decide⟩
theorem laws_toGroup_c (w : World) (z0 : List Value) (x0 : DGroup) (r_0 : tyLGroup.rd w w.heap.size z0 x0) :
  Calls Tryd.prog 9 #[.agg z0.toArray] w fun e w' => ∃ v : List Value, e = .returned (.agg v.toArray) ∧ Mem w.heap.size w [iOwn tyGroup v (laws_toGroup_m x0)] w' := by
 obtain rfl := tyLGroup_rd r_0
 refine ce1 (L := [(0, .agg #[.int .i64 x0.Query, .int .i64 x0.Value, .int .i64 x0.Count, .int .i64 x0.Sum])]) (N := 17) func9 ?_
 refine sr ?_
 refine WM_box rfl (Wd_none rfl) (by decide) (fun p1 => ?_)
 refine WM_alloc type25 rfl (Wd_none rfl) (by decide) (fun p2 => ?_)
 refine nt' (sr ?_)
 refine WM_alloc type25 rfl (Wd_none rfl) (by decide) (fun p3 => ?_)
 refine nt' (sr ?_)
 refine wv (vf underlying23 rfl type3) ?_
 refine wv (vl 2 0 underlying3) ?_
 refine wv (vf underlying25 rfl type3) ?_
 let K1 : List Value := [.int .i64 x0.Query, .int .i64 x0.Value, .int .i64 x0.Count, .int .i64 x0.Sum]
 let I2 : It := iBox p2 25 [.int .i64 0, .int .i64 0, .int .i64 0, .int .i64 0]
 refine sb 0 [.int .i64 x0.Query, .int .i64 0, .int .i64 0, .int .i64 0] [I2, iBox p1 23 K1] (fun W hm => hm) type3 ?_
 refine nt' (sr ?_)
 refine wv (vf underlying23 rfl type3) ?_
 refine wv (vl 2 1 underlying3) ?_
 refine wv (vf underlying25 rfl type3) ?_
 refine sb 1 [.int .i64 x0.Query, .int .i64 x0.Value, .int .i64 0, .int .i64 0] [I2, iBox p1 23 K1] (fun W hm => hm) type3 ?_
 refine nt' (sr ?_)
 refine wv (vf underlying23 rfl type3) ?_
 refine wv (vl 2 2 underlying3) ?_
 refine wv (vf underlying25 rfl type3) ?_
 refine sb 2 [.int .i64 x0.Query, .int .i64 x0.Value, .int .i64 x0.Count, .int .i64 0] [I2, iBox p1 23 K1] (fun W hm => hm) type3 ?_
 refine nt' (sr ?_)
 refine wv (vf underlying23 rfl type3) ?_
 refine wv (vl 2 3 underlying3) ?_
 refine wv (vf underlying25 rfl type3) ?_
 refine sb 3 K1 [I2, iBox p1 23 K1] (fun W hm => hm) type3 ?_
 refine nt' (sr ?_)
 refine wv (fun W hm => rv_loadN (cs := K1) underlying25 type25 rfl rfl (hm.boxCells (n := 0) rfl)) ?_
 refine sb 0 K1 [iBox p3 25 K1, iBox p1 23 K1] (pk [1, 0, 2]) type25 ?_
 refine nt' (CM_ret ?_)
 have he4 := (show laws_toGroup_m x0 = x0 from rfl)
 refine QM_r1 rfl (RR_cell (n := 0) rfl rfl underlying25 type25 rfl) (fun W hm => ⟨K1, ?_, ?_⟩)
 ·first | rw [he4] | rfl
 ·rw [he4]; exact Mem.join (is := []) (js := []) (fun _ _ hs => tyGroup_join (x := x0) hs) (hm.pick [] (by decide))

def spec_l1In_m (x0 : Int) (x1 : Int) (x2 : Int) : Bool :=
 cond (decide (x1 ≤ x0)) (decide (x0 ≤ x2)) false
theorem cb48 : Cb Tryd.prog 48 := ⟨f48, _, func48, rfl, by decide⟩
theorem spec_l1In_c (w : World) (x0 : Int) (x1 : Int) (x2 : Int) :
  Calls Tryd.prog 48 #[.int .i64 x0, .int .i64 x1, .int .i64 x2] w fun e w' => e = .returned (.bool (spec_l1In_m x0 x1 x2)) ∧ Below w.heap.size w w' := by
 refine ce3 (L := [(0, .int .i64 x0), (1, .int .i64 x1), (2, .int .i64 x2)]) (N := 15) func48 ?_
 refine sr (wa (nt' (sr (wm (wm ?_)))))
 refine wv (fun W hm => rv_geq rfl rfl) ?_
 refine wm ?_
 by_cases h1 : x1 ≤ x0
 ·have g2 := decide_eq_true h1
  refine wg vmv g2 ?_
  refine wg vmv g2 ?_
  refine wg (fun W hm => rv_leq rfl rfl) g2 ?_
  refine wv (vpT g2) ?_
  refine wa (nt' (CM_ret ?_))
  exact rtb (h := cond_t g2 (rfl))
 ·have g2 := decide_eq_false h1
  refine ws g2 ?_
  refine ws g2 ?_
  refine ws g2 ?_
  refine wv (vpF g2) ?_
  refine wa (nt' (CM_ret ?_))
  exact rtb (h := cond_f g2 (rfl))

theorem spec_l1In_fact {x a b : Int} (h : spec_l1In_m x a b = true) : a ≤ x ∧ x ≤ b := by
  unfold spec_l1In_m at h
  by_cases h1 : a ≤ x
  · rw [decide_eq_true h1] at h
    exact ⟨h1, of_decide_eq_true h⟩
  · rw [decide_eq_false h1] at h
    cases h
theorem spec_l1In_iff (x a b : Int) : spec_l1In_m x a b = decide (a ≤ x ∧ x ≤ b) := by
  unfold spec_l1In_m
  by_cases h1 : a ≤ x
  · by_cases h2 : x ≤ b
    · simp [h1, h2]
    · simp [h1, h2]
  · simp [h1]

def spec_FormatInt_b1 (k3 : Nat) (s4 : Int) (s5 : ByteArray) : ByteArray ⊕ ((Int × ByteArray) ⊕ (Int × ByteArray)) :=
 cond (s4 != 0) (cond (decide ((Int.tmod s4 10) < 0)) (Sum.inr (Sum.inr ((IntKind.i64.wrap (Int.tdiv s4 10)), ((sB [u8c (IntKind.u8.wrap (IntKind.i64.wrap (48 + (IntKind.i64.wrap (-(Int.tmod s4 10))))))]) ++ s5)))) (Sum.inr (Sum.inr ((IntKind.i64.wrap (Int.tdiv s4 10)), ((sB [u8c (IntKind.u8.wrap (IntKind.i64.wrap (48 + (Int.tmod s4 10))))]) ++ s5))))) (Sum.inr (Sum.inl (s4, s5)))
def spec_FormatInt_m (x0 : Int) : ByteArray :=
 cond (x0 == 0) (sB [48]) (Sum.elim id (fun (s : Int × ByteArray) => cond (decide (x0 < 0)) ((sB [45]) ++ s.2) s.2) (rngb (R := ByteArray) (fun k (s : Int × ByteArray) => spec_FormatInt_b1 k s.1 s.2) ((x0).natAbs + 1 - 0) 0 (x0, (sB []))))
def digN (n : Nat) : List UInt8 :=
 if h : n = 0 then [] else digN (n / 10) ++ [UInt8.ofNat (48 + n % 10)]
termination_by n
decreasing_by omega
theorem digN_pos {n : Nat} (h : 0 < n) : digN n = Lib.decDigits n := by
 induction n using Nat.strongRecOn with
 | _ n ih =>
  rw [digN, dif_neg (by omega), Lib.decDigits]
  by_cases h10 : n < 10
  ·rw [dif_pos h10, show n / 10 = 0 by omega, digN, dif_pos rfl, Nat.mod_eq_of_lt h10]
   rfl
  ·rw [dif_neg h10, ih (n / 10) (by omega) (by omega)]
theorem u8c_dig {d : Int} {m : Nat} (hm : m < 10) (h : d = ((m : Nat) : Int)) : u8c (IntKind.u8.wrap (IntKind.i64.wrap (48 + d))) = UInt8.ofNat (48 + m) := by
 subst h
 have h1 : IntKind.i64.wrap (48 + ((m : Nat) : Int)) = 48 + ((m : Nat) : Int) := wrap_id (by omega) (by omega)
 have h2 : IntKind.u8.wrap (48 + ((m : Nat) : Int)) = 48 + ((m : Nat) : Int) := by simp only [IntKind.wrap_u8]; omega
 rw [h1, h2]
 unfold u8c
 rw [show (48 + ((m : Nat) : Int)).toNat = 48 + m by omega]
theorem spec_FormatInt_step (n : Int) (out : List UInt8) (k : Nat) (h0 : n ≠ 0) (hr : -9223372036854775808 ≤ n ∧ n ≤ 9223372036854775807) : spec_FormatInt_b1 k n (sB out) = .inr (.inr (Int.tdiv n 10, sB (UInt8.ofNat (48 + n.natAbs % 10) :: out))) := by
 unfold spec_FormatInt_b1
 rw [bne_iff_ne.2 h0, cond_true, (tdv10 hr).1]
 have hm : (Int.tmod n 10).natAbs = n.natAbs % 10 := by rw [Int.natAbs_tmod]; rfl
 by_cases hn : Int.tmod n 10 < 0
 ·rw [decide_eq_true hn, cond_true, sB_app, wrap_id (n := -(Int.tmod n 10)) (by omega) (by omega), u8c_dig (m := n.natAbs % 10) (by omega) (by omega)]
  rfl
 ·rw [decide_eq_false hn, cond_false, sB_app, u8c_dig (m := n.natAbs % 10) (by omega) (by omega)]
  rfl
theorem spec_FormatInt_loop : ∀ (m k : Nat) (n : Int) (out : List UInt8), n.natAbs < m → (-9223372036854775808 ≤ n ∧ n ≤ 9223372036854775807) → rngb (R := ByteArray) (fun k (s : Int × ByteArray) => spec_FormatInt_b1 k s.1 s.2) m k (n, sB out) = .inr (0, sB (digN n.natAbs ++ out))
 | 0, _, n, _, h, _ => by omega
 | m + 1, k, n, out, h, hr => by
  rw [rngb]
  by_cases h0 : n = 0
  ·subst h0
   rw [show (0 : Int).natAbs = 0 from rfl, digN, dif_pos rfl]
   rfl
  ·show Sum.elim _ _ (spec_FormatInt_b1 k n (sB out)) = _
   rw [spec_FormatInt_step n out k h0 hr]
   have h2 := (tdv10 hr).2
   have ih := spec_FormatInt_loop m (k + 1) (Int.tdiv n 10) (UInt8.ofNat (48 + n.natAbs % 10) :: out) (by omega) (by omega)
   show rngb _ m (k + 1) (Int.tdiv n 10, sB (UInt8.ofNat (48 + n.natAbs % 10) :: out)) = _
   rw [ih, h2]
   have e : digN n.natAbs = digN (n.natAbs / 10) ++ [UInt8.ofNat (48 + n.natAbs % 10)] := by rw [digN, dif_neg (by omega)]
   rw [e, List.append_assoc]
   rfl
theorem spec_FormatInt_out {x : Int} (h : -9223372036854775808 ≤ x ∧ x ≤ 9223372036854775807) {a : Int} {b : ByteArray} (hE : rngb (R := ByteArray) (fun k (s : Int × ByteArray) => spec_FormatInt_b1 k s.1 s.2) (x.natAbs + 1 - 0) 0 (x, sB []) = .inr (a, b)) : b.size ≤ 20 := by
 rw [spec_FormatInt_loop (x.natAbs + 1 - 0) 0 x [] (by omega) h, List.append_nil] at hE
 cases hE
 show (sB (digN x.natAbs)).size ≤ 20
 rw [sB_size]
 by_cases h0 : 0 < x.natAbs
 ·rw [digN_pos h0, Lib.decDigits_length]
  exact Lib.nDigits_le20 _ (by omega)
 ·rw [show x.natAbs = 0 by omega, digN, dif_pos rfl]
  exact Nat.zero_le _
theorem cb49 : Cb Tryd.prog 49 := ⟨f49, _, func49, rfl, by decide⟩
theorem spec_FormatInt_c (w : World) (x0 : Int) (hr : -9223372036854775808 ≤ x0 ∧ x0 ≤ 9223372036854775807) :
  Calls Tryd.prog 49 #[.int .i64 x0] w fun e w' => e = .returned (.string (spec_FormatInt_m x0)) ∧ Below w.heap.size w w' := by
 refine ce1 (L := [(0, .int .i64 x0)]) (N := 31) func49 ?_
 refine sr (wa (nt' (CM_seq (sr (wm ?_)))))
 refine wv (fun W hm => rv_eql rfl rfl) ?_
 refine nt' ?_
 by_cases h1 : x0 = 0
 ·have g2 := beq_iff_eq.2 h1
  refine CM_condT rfl g2 ?_
  refine sr (wa (nt' (CM_ret (QM_then_ret ?_))))
  exact QM_ret1 rfl rfl (fun W hm => ⟨ret_s (show spec_FormatInt_m x0 = (sB [48]) from cond_t g2 (rfl)), hm.below⟩)
 ·have g2 := beq_eq_false_iff_ne.2 h1
  refine CM_condF rfl g2 ?_
  refine CM_skip (QM_then (sr (wa (nt' (sr (wm ?_))))))
  refine wv vlss ?_
  refine wa (nt' (CM_seq ?_))
  let F1 := fun k (s : Int × ByteArray) => spec_FormatInt_b1 k s.1 s.2
  let R2 := rngb (R := ByteArray) F1
  refine CM_cut (σ := (Int × ByteArray) × (Unit)) (fun s => [(3, .string s.1.2), (4, .bool (decide (x0 < 0)))]) (fun s => []) (fun s => R2 ((x0).natAbs + 1 - 0) 0 (x0, (sB [])) = Sum.inr s.1) ?_ ?_
  ·
   refine CM_block ?_
   refine CM_loop (σ := Nat × (Int × ByteArray) × (Unit)) (fun s => [(0, .int .i64 s.2.1.1), (3, .string s.2.1.2), (4, .bool (decide (x0 < 0)))]) (fun s => []) (fun s => s.1 + ((s.2.1.1).natAbs) + 1 ≤ (x0).natAbs + 1 ∧ R2 ((x0).natAbs + 1 - s.1) s.1 s.2.1 = R2 ((x0).natAbs + 1 - 0) 0 (x0, (sB [])) ∧ -9223372036854775808 ≤ s.2.1.1 ∧ s.2.1.1 ≤ 9223372036854775807 ∧ (s.2.1.2.size = 0 ∨ s.2.1.2.size + (s.2.1.1).natAbs ≤ 922337203685477582)) (fun s => (x0).natAbs + 1 - s.1) (0, (x0, (sB [])), ()) sl3 (fun W hm => hm) ⟨(show 0 + ((x0).natAbs) + 1 ≤ (x0).natAbs + 1 from by omega), rfl, (show -9223372036854775808 ≤ x0 from by omega), (show x0 ≤ 9223372036854775807 from by omega), (show ((sB []).size = 0 ∨ (sB []).size + (x0).natAbs ≤ 922337203685477582) from by (left; rfl))⟩ ?_
   rintro ⟨k3, ⟨s4, s5⟩, ⟨⟩⟩ H8
   obtain ⟨hk6, hF7, hi9, hi10, hi11⟩ : k3 + ((s4).natAbs) + 1 ≤ (x0).natAbs + 1 ∧ R2 ((x0).natAbs + 1 - k3) k3 (s4, s5) = R2 ((x0).natAbs + 1 - 0) 0 (x0, (sB [])) ∧ -9223372036854775808 ≤ s4 ∧ s4 ≤ 9223372036854775807 ∧ (s5.size = 0 ∨ s5.size + (s4).natAbs ≤ 922337203685477582) := H8
   show CM Tryd.prog 31 _ _ _ _ [(0, .int .i64 s4), (3, .string s5), (4, .bool (decide (x0 < 0)))] []
   refine CM_seq (sr (wm ?_))
   refine wv vneq ?_
   refine nt' ?_
   by_cases h12 : s4 = 0
   ·have g13 : (s4 != 0) = false := by rw [h12]; exact bne_self_eq_false _
    refine CM_condF rfl g13 ?_
    refine CM_exit (QM_then_exit (QM_then_exit (QM_block_hit ?_)))
    have hE14 := rngb_brk (R := ByteArray) (body := F1) (k := k3) (s := (s4, s5)) (s' := (s4, s5)) (show k3 < (x0).natAbs + 1 from by omega) (cond_f g13 (rfl)) hF7
    exact QM_cut_normal ((s4, s5), ()) sl2 (fun W hm => hm) hE14
   ·have g13 : (s4 != 0) = true := bne_iff_ne.2 h12
    refine CM_condT rfl g13 ?_
    refine CM_skip (QM_then (CM_block (sr (wm ?_))))
    refine wv (fun W hm => rv_rem rfl rfl (by omega)) ?_
    refine wa (nt' (CM_seq (sr (wm ?_))))
    refine wv vlss ?_
    refine nt' ?_
    by_cases h15 : (Int.tmod s4 10) < 0
    ·have g16 := decide_eq_true h15
     refine CM_condT rfl g16 ?_
     refine CM_region (wm ?_)
     refine wv (fun W hm => rv_neg rfl) ?_
     refine wa (nt' (sr (wm ?_)))
     refine wv vadd ?_
     refine wv (fun W hm => rv_convU8 underlying3 underlying5 rfl) ?_
     refine WM_build (cs := [.int .u8 (IntKind.u8.wrap (IntKind.i64.wrap (48 + (IntKind.i64.wrap (-(Int.tmod s4 10))))))]) underlying49 type5 rfl (by decide) (by decide) rfl (by kernel_rfl) (Wd_none rfl) (by decide) (fun p17 => ?_)
     refine wv (fun W hm => rv_byteS hm (i := 0) rfl underlying49 underlying5 underlying9 rfl) ?_
     refine wm ?_
     have hz18 : ByteArray.size (sB [u8c (IntKind.u8.wrap (IntKind.i64.wrap (48 + (IntKind.i64.wrap (-(Int.tmod s4 10))))))]) = 1 := rfl
     refine wv (fun W hm => rv_addS (p := (sB [u8c (IntKind.u8.wrap (IntKind.i64.wrap (48 + (IntKind.i64.wrap (-(Int.tmod s4 10))))))])) (q := s5) rfl rfl (by omega)) ?_
     have hz19 := sz_app (sB [u8c (IntKind.u8.wrap (IntKind.i64.wrap (48 + (IntKind.i64.wrap (-(Int.tmod s4 10))))))]) s5
     refine wa (nt' (CM_region (wm ?_)))
     have ht20 := tdv10 (n := s4) (by omega)
     refine wv (fun W hm => rv_quo rfl rfl (by omega)) ?_
     refine wa (WM_nil (QM_block_normal ?_))
     have hn21 := rngb_next (R := ByteArray) (body := F1) (k := k3) (s := (s4, s5)) (s' := ((IntKind.i64.wrap (Int.tdiv s4 10)), ((sB [u8c (IntKind.u8.wrap (IntKind.i64.wrap (48 + (IntKind.i64.wrap (-(Int.tmod s4 10))))))]) ++ s5))) (show k3 < (x0).natAbs + 1 from by omega) (cond_t g13 (cond_t g16 (rfl))) hF7
     exact QM_round (k3 + 1, ((IntKind.i64.wrap (Int.tdiv s4 10)), ((sB [u8c (IntKind.u8.wrap (IntKind.i64.wrap (48 + (IntKind.i64.wrap (-(Int.tmod s4 10))))))]) ++ s5)), ()) sl3 (pk []) ⟨(show (k3 + 1) + (((IntKind.i64.wrap (Int.tdiv s4 10))).natAbs) + 1 ≤ (x0).natAbs + 1 from by omega), hn21, (show -9223372036854775808 ≤ (IntKind.i64.wrap (Int.tdiv s4 10)) from by first | omega | (simp only [List.length_append, List.length_cons, List.length_nil] at *; omega)), (show (IntKind.i64.wrap (Int.tdiv s4 10)) ≤ 9223372036854775807 from by first | omega | (simp only [List.length_append, List.length_cons, List.length_nil] at *; omega)), (show (((sB [u8c (IntKind.u8.wrap (IntKind.i64.wrap (48 + (IntKind.i64.wrap (-(Int.tmod s4 10))))))]) ++ s5).size = 0 ∨ ((sB [u8c (IntKind.u8.wrap (IntKind.i64.wrap (48 + (IntKind.i64.wrap (-(Int.tmod s4 10))))))]) ++ s5).size + ((IntKind.i64.wrap (Int.tdiv s4 10))).natAbs ≤ 922337203685477582) from by first | omega | (simp only [List.length_append, List.length_cons, List.length_nil] at *; omega))⟩ (show (x0).natAbs + 1 - (k3 + 1) < (x0).natAbs + 1 - k3 from by omega)
    ·have g16 := decide_eq_false h15
     refine CM_condF rfl g16 ?_
     refine CM_skip (QM_then (sr (wm ?_)))
     refine wv vadd ?_
     refine wv (fun W hm => rv_convU8 underlying3 underlying5 rfl) ?_
     refine WM_build (cs := [.int .u8 (IntKind.u8.wrap (IntKind.i64.wrap (48 + (Int.tmod s4 10))))]) underlying49 type5 rfl (by decide) (by decide) rfl (by kernel_rfl) (Wd_none rfl) (by decide) (fun p22 => ?_)
     refine wv (fun W hm => rv_byteS hm (i := 0) rfl underlying49 underlying5 underlying9 rfl) ?_
     refine wm ?_
     have hz23 : ByteArray.size (sB [u8c (IntKind.u8.wrap (IntKind.i64.wrap (48 + (Int.tmod s4 10))))]) = 1 := rfl
     refine wv (fun W hm => rv_addS (p := (sB [u8c (IntKind.u8.wrap (IntKind.i64.wrap (48 + (Int.tmod s4 10))))])) (q := s5) rfl rfl (by omega)) ?_
     have hz24 := sz_app (sB [u8c (IntKind.u8.wrap (IntKind.i64.wrap (48 + (Int.tmod s4 10))))]) s5
     refine wa (nt' (CM_region (wm ?_)))
     have ht25 := tdv10 (n := s4) (by omega)
     refine wv (fun W hm => rv_quo rfl rfl (by omega)) ?_
     refine wa (WM_nil (QM_block_normal ?_))
     have hn26 := rngb_next (R := ByteArray) (body := F1) (k := k3) (s := (s4, s5)) (s' := ((IntKind.i64.wrap (Int.tdiv s4 10)), ((sB [u8c (IntKind.u8.wrap (IntKind.i64.wrap (48 + (Int.tmod s4 10))))]) ++ s5))) (show k3 < (x0).natAbs + 1 from by omega) (cond_t g13 (cond_f g16 (rfl))) hF7
     exact QM_round (k3 + 1, ((IntKind.i64.wrap (Int.tdiv s4 10)), ((sB [u8c (IntKind.u8.wrap (IntKind.i64.wrap (48 + (Int.tmod s4 10))))]) ++ s5)), ()) sl3 (pk []) ⟨(show (k3 + 1) + (((IntKind.i64.wrap (Int.tdiv s4 10))).natAbs) + 1 ≤ (x0).natAbs + 1 from by omega), hn26, (show -9223372036854775808 ≤ (IntKind.i64.wrap (Int.tdiv s4 10)) from by first | omega | (simp only [List.length_append, List.length_cons, List.length_nil] at *; omega)), (show (IntKind.i64.wrap (Int.tdiv s4 10)) ≤ 9223372036854775807 from by first | omega | (simp only [List.length_append, List.length_cons, List.length_nil] at *; omega)), (show (((sB [u8c (IntKind.u8.wrap (IntKind.i64.wrap (48 + (Int.tmod s4 10))))]) ++ s5).size = 0 ∨ ((sB [u8c (IntKind.u8.wrap (IntKind.i64.wrap (48 + (Int.tmod s4 10))))]) ++ s5).size + ((IntKind.i64.wrap (Int.tdiv s4 10))).natAbs ≤ 922337203685477582) from by first | omega | (simp only [List.length_append, List.length_cons, List.length_nil] at *; omega))⟩ (show (x0).natAbs + 1 - (k3 + 1) < (x0).natAbs + 1 - k3 from by omega)
  ·
   rintro ⟨⟨s4, s5⟩, ⟨⟩⟩ H28
   have hE27 : R2 ((x0).natAbs + 1 - 0) 0 (x0, (sB [])) = Sum.inr (s4, s5) := H28
   have hzo := spec_FormatInt_out hr hE27
   show QM 31 _ _ _ .normal [(3, .string s5), (4, .bool (decide (x0 < 0)))] []
   refine QM_then (CM_seq (sr (wm (nt' ?_))))
   by_cases h29 : x0 < 0
   ·have g30 := decide_eq_true h29
    refine CM_condT rfl g30 ?_
    refine sr (wm ?_)
    have hz31 : ByteArray.size (sB [45]) = 1 := rfl
    refine wv (fun W hm => rv_addS (p := (sB [45])) (q := s5) rfl rfl (by omega)) ?_
    have hz32 := sz_app (sB [45]) s5
    refine wa (nt' (CM_ret (QM_then_ret ?_)))
    exact QM_ret1 rfl rfl (fun W hm => ⟨ret_s (show spec_FormatInt_m x0 = ((sB [45]) ++ s5) from cond_f g2 (fin_inr hE27 (cond_t g30 (rfl)))), hm.below⟩)
   ·have g30 := decide_eq_false h29
    refine CM_condF rfl g30 ?_
    refine CM_skip (QM_then (sr (wm (wa (nt' (CM_ret ?_))))))
    exact QM_ret1 rfl rfl (fun W hm => ⟨ret_s (show spec_FormatInt_m x0 = s5 from cond_f g2 (fin_inr hE27 (cond_f g30 (rfl)))), hm.below⟩)
theorem spec_FormatInt_is (x : Int) (h : -9223372036854775808 ≤ x ∧ x ≤ 9223372036854775807) : spec_FormatInt_m x = itoaB x := by
  unfold spec_FormatInt_m itoaB
  by_cases h0 : x = 0
  · subst h0
    rw [show Lib.itoa 0 = [48] by rw [show (0 : Int) = ((0 : Nat) : Int) from rfl, Lib.itoa_nonneg, Lib.decDigits_one (by omega)]; rfl]
    rfl
  · rw [beq_eq_false_iff_ne.2 h0, cond_false, spec_FormatInt_loop (x.natAbs + 1 - 0) 0 x [] (by omega) h, List.append_nil, digN_pos (by omega)]
    show cond (decide (x < 0)) (sB [45] ++ sB (Lib.decDigits x.natAbs)) (sB (Lib.decDigits x.natAbs)) = _
    by_cases hn : x < 0
    · rw [decide_eq_true hn, cond_true, sB_app, Lib.itoa, if_pos hn]
      rfl
    · rw [decide_eq_false hn, cond_false, Lib.itoa, if_neg hn, show x.natAbs = x.toNat by omega]
theorem spec_FormatInt_sz (x : Int) (h : -9223372036854775808 ≤ x ∧ x ≤ 9223372036854775807) : (spec_FormatInt_m x).size ≤ 21 := by
  rw [spec_FormatInt_is x h]; exact itoaB_sz x h

def spec_FormatGroup_m (x0 : DGroup) : ByteArray :=
 cond (spec_l1In_m x0.Query 0 23) (cond (spec_l1In_m x0.Value 0 99) (cond (decide (x0.Count < 1)) (sB []) (cond (decide (x0.Sum < 0)) (sB []) ((((((((sB [113]) ++ (spec_FormatInt_m x0.Query)) ++ (sB [32])) ++ (spec_FormatInt_m x0.Value)) ++ (sB [32, 99, 111, 117, 110, 116, 32])) ++ (spec_FormatInt_m x0.Count)) ++ (sB [32, 115, 117, 109, 32])) ++ (spec_FormatInt_m x0.Sum)))) (sB [])) (sB [])
theorem cb8 : Cb Tryd.prog 8 := ⟨f8, _, func8, rfl, by decide⟩
theorem spec_FormatGroup_c (w : World) (z0 : List Value) (x0 : DGroup) (r_0 : tyGroup.rd w w.heap.size z0 x0) (hc : (-9223372036854775808 ≤ x0.Count ∧ x0.Count ≤ 9223372036854775807) ∧ (-9223372036854775808 ≤ x0.Sum ∧ x0.Sum ≤ 9223372036854775807)) :
  Calls Tryd.prog 8 #[.agg z0.toArray] w fun e w' => e = .returned (.string (spec_FormatGroup_m x0)) ∧ Below w.heap.size w w' := by
 obtain rfl := tyGroup_rd r_0
 refine ce1 (L := [(0, .agg #[.int .i64 x0.Query, .int .i64 x0.Value, .int .i64 x0.Count, .int .i64 x0.Sum])]) (N := 42) func8 ?_
 refine sr ?_
 refine WM_box rfl (Wd_none rfl) (by decide) (fun p1 => ?_)
 refine wa (nt' (CM_seq (sr ?_)))
 refine wv (vf underlying25 rfl type3) ?_
 refine wv (vl 0 0 underlying3) ?_
 refine wcv (cl_fn cb48 rfl) (fun W hm => spec_l1In_c W x0.Query 0 23) ?_
 refine wv vnot ?_
 refine wm ?_
 rcases Bool.eq_false_or_eq_true (spec_l1In_m x0.Query 0 23) with g3 | g3
 ·
  have hw := spec_l1In_fact g3
  refine wg (vf underlying25 rfl type3) (nt g3) ?_
  refine wg (vl 0 1 underlying3) (nt g3) ?_
  refine WM_callV (cl_fn cb48 rfl) (fun W hm => spec_l1In_c W x0.Value 0 99) (Wd_some rfl rfl rfl (bw (nt g3) rfl)) (by decide) ?_
  refine wg vnot (nt g3) ?_
  refine wv (vpF (nt g3)) ?_
  refine wm ?_
  rcases Bool.eq_false_or_eq_true (spec_l1In_m x0.Value 0 99) with g5 | g5
  ·
   have hw := spec_l1In_fact g5
   refine wg (vf underlying25 rfl type3) (nt g5) ?_
   refine wg (vl 0 2 underlying3) (nt g5) ?_
   refine wg vlss (nt g5) ?_
   refine wv (vpF (nt g5)) ?_
   refine wm ?_
   by_cases h6 : x0.Count < 1
   ·have g7 := decide_eq_true h6
    refine ws g7 ?_
    refine ws g7 ?_
    refine ws g7 ?_
    refine wv (vpT g7) ?_
    refine nt' ?_
    refine CM_condT rfl rfl ?_
    refine sr (wa (nt' (CM_ret (QM_then_ret ?_))))
    exact QM_ret1 rfl rfl (fun W hm => ⟨ret_s (show spec_FormatGroup_m x0 = (sB []) from cond_t g3 (cond_t g5 (cond_t g7 (rfl)))), hm.below⟩)
   ·have g7 := decide_eq_false h6
    refine wg (vf underlying25 rfl type3) g7 ?_
    refine wg (vl 0 3 underlying3) g7 ?_
    refine wg vlss g7 ?_
    refine wv (vpF g7) ?_
    refine nt' ?_
    by_cases h8 : x0.Sum < 0
    ·have g9 := decide_eq_true h8
     refine CM_condT rfl g9 ?_
     refine sr (wa (nt' (CM_ret (QM_then_ret ?_))))
     exact QM_ret1 rfl rfl (fun W hm => ⟨ret_s (show spec_FormatGroup_m x0 = (sB []) from cond_t g3 (cond_t g5 (cond_f g7 (cond_t g9 (rfl))))), hm.below⟩)
    ·have g9 := decide_eq_false h8
     refine CM_condF rfl g9 ?_
     refine CM_skip (QM_then (CM_seq ?_))
     refine CM_regionD (by kernel_rfl) (by kernel_rfl) ?_
     refine qv (vf underlying25 rfl type3) ?_
     refine qv (vl 0 0 underlying3) ?_
     refine QR_callV (cl_fn cb49 rfl) (fun W hm => spec_FormatInt_c W x0.Query (⟨by omega, by omega⟩)) (Wd_none rfl) (by decide) ?_
     have hz10 := spec_FormatInt_sz x0.Query (by omega)
     have hz11 : ByteArray.size (sB [113]) = 1 := rfl
     refine qv (fun W hm => rv_addS (p := (sB [113])) (q := (spec_FormatInt_m x0.Query)) rfl rfl (by omega)) ?_
     have hz12 := sz_app (sB [113]) (spec_FormatInt_m x0.Query)
     have hz13 : ByteArray.size (sB [32]) = 1 := rfl
     refine qv (fun W hm => rv_addS (p := ((sB [113]) ++ (spec_FormatInt_m x0.Query))) (q := (sB [32])) rfl rfl (by omega)) ?_
     have hz14 := sz_app ((sB [113]) ++ (spec_FormatInt_m x0.Query)) (sB [32])
     refine qv (vf underlying25 rfl type3) ?_
     refine qv (vl 0 1 underlying3) ?_
     refine QR_callV (cl_fn cb49 rfl) (fun W hm => spec_FormatInt_c W x0.Value (⟨by omega, by omega⟩)) (Wd_none rfl) (by decide) ?_
     have hz15 := spec_FormatInt_sz x0.Value (by omega)
     refine qv (fun W hm => rv_addS (p := (((sB [113]) ++ (spec_FormatInt_m x0.Query)) ++ (sB [32]))) (q := (spec_FormatInt_m x0.Value)) rfl rfl (by omega)) ?_
     have hz16 := sz_app (((sB [113]) ++ (spec_FormatInt_m x0.Query)) ++ (sB [32])) (spec_FormatInt_m x0.Value)
     have hz17 : ByteArray.size (sB [32, 99, 111, 117, 110, 116, 32]) = 7 := rfl
     refine qv (fun W hm => rv_addS (p := ((((sB [113]) ++ (spec_FormatInt_m x0.Query)) ++ (sB [32])) ++ (spec_FormatInt_m x0.Value))) (q := (sB [32, 99, 111, 117, 110, 116, 32])) rfl rfl (by omega)) ?_
     have hz18 := sz_app ((((sB [113]) ++ (spec_FormatInt_m x0.Query)) ++ (sB [32])) ++ (spec_FormatInt_m x0.Value)) (sB [32, 99, 111, 117, 110, 116, 32])
     refine qv (vf underlying25 rfl type3) ?_
     refine qv (vl 0 2 underlying3) ?_
     refine QR_callV (cl_fn cb49 rfl) (fun W hm => spec_FormatInt_c W x0.Count (⟨by omega, by omega⟩)) (Wd_none rfl) (by decide) ?_
     have hz19 := spec_FormatInt_sz x0.Count (by omega)
     refine qv (fun W hm => rv_addS (p := (((((sB [113]) ++ (spec_FormatInt_m x0.Query)) ++ (sB [32])) ++ (spec_FormatInt_m x0.Value)) ++ (sB [32, 99, 111, 117, 110, 116, 32]))) (q := (spec_FormatInt_m x0.Count)) rfl rfl (by omega)) ?_
     have hz20 := sz_app (((((sB [113]) ++ (spec_FormatInt_m x0.Query)) ++ (sB [32])) ++ (spec_FormatInt_m x0.Value)) ++ (sB [32, 99, 111, 117, 110, 116, 32])) (spec_FormatInt_m x0.Count)
     have hz21 : ByteArray.size (sB [32, 115, 117, 109, 32]) = 5 := rfl
     refine qv (fun W hm => rv_addS (p := ((((((sB [113]) ++ (spec_FormatInt_m x0.Query)) ++ (sB [32])) ++ (spec_FormatInt_m x0.Value)) ++ (sB [32, 99, 111, 117, 110, 116, 32])) ++ (spec_FormatInt_m x0.Count))) (q := (sB [32, 115, 117, 109, 32])) rfl rfl (by omega)) ?_
     have hz22 := sz_app ((((((sB [113]) ++ (spec_FormatInt_m x0.Query)) ++ (sB [32])) ++ (spec_FormatInt_m x0.Value)) ++ (sB [32, 99, 111, 117, 110, 116, 32])) ++ (spec_FormatInt_m x0.Count)) (sB [32, 115, 117, 109, 32])
     refine qv (vf underlying25 rfl type3) ?_
     refine qv (vl 0 3 underlying3) ?_
     refine QR_callV (cl_fn cb49 rfl) (fun W hm => spec_FormatInt_c W x0.Sum (⟨by omega, by omega⟩)) (Wd_none rfl) (by decide) ?_
     have hz23 := spec_FormatInt_sz x0.Sum (by omega)
     refine qv (fun W hm => rv_addS (p := (((((((sB [113]) ++ (spec_FormatInt_m x0.Query)) ++ (sB [32])) ++ (spec_FormatInt_m x0.Value)) ++ (sB [32, 99, 111, 117, 110, 116, 32])) ++ (spec_FormatInt_m x0.Count)) ++ (sB [32, 115, 117, 109, 32]))) (q := (spec_FormatInt_m x0.Sum)) rfl rfl (by omega)) ?_
     have hz24 := sz_app (((((((sB [113]) ++ (spec_FormatInt_m x0.Query)) ++ (sB [32])) ++ (spec_FormatInt_m x0.Value)) ++ (sB [32, 99, 111, 117, 110, 116, 32])) ++ (spec_FormatInt_m x0.Count)) ++ (sB [32, 115, 117, 109, 32])) (spec_FormatInt_m x0.Sum)
     refine qv (fun W hm => rv_assign rfl) ?_
     refine nq' (CM_ret ?_)
     exact QM_ret1 rfl rfl (fun W hm => ⟨ret_s (show spec_FormatGroup_m x0 = ((((((((sB [113]) ++ (spec_FormatInt_m x0.Query)) ++ (sB [32])) ++ (spec_FormatInt_m x0.Value)) ++ (sB [32, 99, 111, 117, 110, 116, 32])) ++ (spec_FormatInt_m x0.Count)) ++ (sB [32, 115, 117, 109, 32])) ++ (spec_FormatInt_m x0.Sum)) from cond_t g3 (cond_t g5 (cond_f g7 (cond_f g9 (rfl))))), hm.below⟩)
  ·
   refine ws (nf g5) ?_
   refine ws (nf g5) ?_
   refine ws (nf g5) ?_
   refine wv (vpT (nf g5)) ?_
   refine wm ?_
   refine wk ?_
   refine wk ?_
   refine wk ?_
   refine wv (vpT rfl) ?_
   refine nt' ?_
   refine CM_condT rfl rfl ?_
   refine sr (wa (nt' (CM_ret (QM_then_ret ?_))))
   exact QM_ret1 rfl rfl (fun W hm => ⟨ret_s (show spec_FormatGroup_m x0 = (sB []) from cond_t g3 (cond_f g5 (rfl))), hm.below⟩)
 ·
  refine ws (nf g3) ?_
  refine ws (nf g3) ?_
  refine ws (nf g3) ?_
  refine ws (nf g3) ?_
  refine wv (vpT (nf g3)) ?_
  refine wm ?_
  refine wk ?_
  refine wk ?_
  refine wk ?_
  refine wv (vpT rfl) ?_
  refine wm ?_
  refine wk ?_
  refine wk ?_
  refine wk ?_
  refine wv (vpT rfl) ?_
  refine nt' ?_
  refine CM_condT rfl rfl ?_
  refine sr (wa (nt' (CM_ret (QM_then_ret ?_))))
  exact QM_ret1 rfl rfl (fun W hm => ⟨ret_s (show spec_FormatGroup_m x0 = (sB []) from cond_f g3 (rfl)), hm.below⟩)

def impl_within_m (x0 : Int) (x1 : Int) (x2 : Int) : Bool :=
 cond (decide (x1 ≤ x0)) (decide (x0 ≤ x2)) false
theorem cb50 : Cb Tryd.prog 50 := ⟨f50, _, func50, rfl, by decide⟩
theorem impl_within_c (w : World) (x0 : Int) (x1 : Int) (x2 : Int) :
  Calls Tryd.prog 50 #[.int .i64 x0, .int .i64 x1, .int .i64 x2] w fun e w' => e = .returned (.bool (impl_within_m x0 x1 x2)) ∧ Below w.heap.size w w' := by
 refine ce3 (L := [(0, .int .i64 x0), (1, .int .i64 x1), (2, .int .i64 x2)]) (N := 15) func50 ?_
 refine sr (wa (nt' (sr (wm (wm ?_)))))
 refine wv (fun W hm => rv_geq rfl rfl) ?_
 refine wm ?_
 by_cases h1 : x1 ≤ x0
 ·have g2 := decide_eq_true h1
  refine wg vmv g2 ?_
  refine wg vmv g2 ?_
  refine wg (fun W hm => rv_leq rfl rfl) g2 ?_
  refine wv (vpT g2) ?_
  refine wa (nt' (CM_ret ?_))
  exact rtb (h := cond_t g2 (rfl))
 ·have g2 := decide_eq_false h1
  refine ws g2 ?_
  refine ws g2 ?_
  refine ws g2 ?_
  refine wv (vpF g2) ?_
  refine wa (nt' (CM_ret ?_))
  exact rtb (h := cond_f g2 (rfl))

theorem impl_within_fact {x a b : Int} (h : impl_within_m x a b = true) : a ≤ x ∧ x ≤ b := by
  unfold impl_within_m at h
  by_cases h1 : a ≤ x
  · rw [decide_eq_true h1] at h
    exact ⟨h1, of_decide_eq_true h⟩
  · rw [decide_eq_false h1] at h
    cases h
theorem impl_within_iff (x a b : Int) : impl_within_m x a b = decide (a ≤ x ∧ x ≤ b) := by
  unfold impl_within_m
  by_cases h1 : a ≤ x
  · by_cases h2 : x ≤ b
    · simp [h1, h2]
    · simp [h1, h2]
  · simp [h1]

def impl_FormatInt_m (x0 : Int) : ByteArray :=
 (itoaB x0)
theorem cb52 : Cb Tryd.prog 52 := ⟨f52, _, func52, rfl, by decide⟩
theorem impl_FormatInt_c (w : World) (x0 : Int) (hr : -9223372036854775808 ≤ x0 ∧ x0 ≤ 9223372036854775807) (hT : TabOK w.heap.size w) :
  Calls Tryd.prog 52 #[.int .i64 x0] w fun e w' => e = .returned (.string (impl_FormatInt_m x0)) ∧ Below w.heap.size w w' := by
 refine ce1 (L := [(0, .int .i64 x0)]) (N := 5) func52 ?_
 refine sr (wa (nt' (sr (wm ?_))))
 refine wcv (cl_fn ⟨f83, _, func83, rfl, by decide⟩ rfl) (fun W hm => itoa_c W x0 (by omega) (hT.mem hm)) ?_
 have hz1 := itoaB_sz x0 (by omega)
 refine wa (nt' (CM_ret ?_))
 exact QM_ret1 rfl rfl (fun W hm => ⟨ret_s (show impl_FormatInt_m x0 = (itoaB x0) from rfl), hm.below⟩)
theorem impl_FormatInt_sz (x : Int) (h : -9223372036854775808 ≤ x ∧ x ≤ 9223372036854775807) : (impl_FormatInt_m x).size ≤ 21 := itoaB_sz x h

def impl_FormatGroup_m (x0 : DGroup) : ByteArray :=
 cond (impl_within_m x0.Query 0 23) (cond (impl_within_m x0.Value 0 99) (cond (decide (x0.Count < 1)) (sB []) (cond (decide (x0.Sum < 0)) (sB []) (joinB [((sB [113]) ++ (impl_FormatInt_m x0.Query)), (impl_FormatInt_m x0.Value), (sB [99, 111, 117, 110, 116]), (impl_FormatInt_m x0.Count), (sB [115, 117, 109]), (impl_FormatInt_m x0.Sum)] (sB [32])))) (sB [])) (sB [])
theorem cb10 : Cb Tryd.prog 10 := ⟨f10, _, func10, rfl, by decide⟩
theorem impl_FormatGroup_c (w : World) (z0 : List Value) (x0 : DGroup) (r_0 : tyGroup.rd w w.heap.size z0 x0) (hc : (-9223372036854775808 ≤ x0.Count ∧ x0.Count ≤ 9223372036854775807) ∧ (-9223372036854775808 ≤ x0.Sum ∧ x0.Sum ≤ 9223372036854775807)) (hT : TabOK w.heap.size w) :
  Calls Tryd.prog 10 #[.agg z0.toArray] w fun e w' => e = .returned (.string (impl_FormatGroup_m x0)) ∧ Below w.heap.size w w' := by
 obtain rfl := tyGroup_rd r_0
 refine ce1 (L := [(0, .agg #[.int .i64 x0.Query, .int .i64 x0.Value, .int .i64 x0.Count, .int .i64 x0.Sum])]) (N := 38) func10 ?_
 refine sr ?_
 refine WM_box rfl (Wd_none rfl) (by decide) (fun p1 => ?_)
 refine wa (nt' (CM_seq (sr ?_)))
 refine wv (vf underlying25 rfl type3) ?_
 refine wv (vl 0 0 underlying3) ?_
 refine wcv (cl_fn cb50 rfl) (fun W hm => impl_within_c W x0.Query 0 23) ?_
 refine wv vnot ?_
 refine wm ?_
 rcases Bool.eq_false_or_eq_true (impl_within_m x0.Query 0 23) with g3 | g3
 ·
  have hw := impl_within_fact g3
  refine wg (vf underlying25 rfl type3) (nt g3) ?_
  refine wg (vl 0 1 underlying3) (nt g3) ?_
  refine WM_callV (cl_fn cb50 rfl) (fun W hm => impl_within_c W x0.Value 0 99) (Wd_some rfl rfl rfl (bw (nt g3) rfl)) (by decide) ?_
  refine wg vnot (nt g3) ?_
  refine wv (vpF (nt g3)) ?_
  refine wm ?_
  rcases Bool.eq_false_or_eq_true (impl_within_m x0.Value 0 99) with g5 | g5
  ·
   have hw := impl_within_fact g5
   refine wg (vf underlying25 rfl type3) (nt g5) ?_
   refine wg (vl 0 2 underlying3) (nt g5) ?_
   refine wg vlss (nt g5) ?_
   refine wv (vpF (nt g5)) ?_
   refine wm ?_
   by_cases h6 : x0.Count < 1
   ·have g7 := decide_eq_true h6
    refine ws g7 ?_
    refine ws g7 ?_
    refine ws g7 ?_
    refine wv (vpT g7) ?_
    refine nt' ?_
    refine CM_condT rfl rfl ?_
    refine sr (wa (nt' (CM_ret (QM_then_ret ?_))))
    exact QM_ret1 rfl rfl (fun W hm => ⟨ret_s (show impl_FormatGroup_m x0 = (sB []) from cond_t g3 (cond_t g5 (cond_t g7 (rfl)))), hm.below⟩)
   ·have g7 := decide_eq_false h6
    refine wg (vf underlying25 rfl type3) g7 ?_
    refine wg (vl 0 3 underlying3) g7 ?_
    refine wg vlss g7 ?_
    refine wv (vpF g7) ?_
    refine nt' ?_
    by_cases h8 : x0.Sum < 0
    ·have g9 := decide_eq_true h8
     refine CM_condT rfl g9 ?_
     refine sr (wa (nt' (CM_ret (QM_then_ret ?_))))
     exact QM_ret1 rfl rfl (fun W hm => ⟨ret_s (show impl_FormatGroup_m x0 = (sB []) from cond_t g3 (cond_t g5 (cond_f g7 (cond_t g9 (rfl))))), hm.below⟩)
    ·have g9 := decide_eq_false h8
     refine CM_condF rfl g9 ?_
     refine CM_skip (QM_then (CM_seq ?_))
     refine rb 16 (s := [iBox p1 25 [.int .i64 x0.Query, .int .i64 x0.Value, .int .i64 x0.Count, .int .i64 x0.Sum]]) (fun W hm => hm) ?_
     refine qt 16 0 1 rfl (vf underlying25 rfl type3) ?_
     refine qt 16 1 3 rfl (vl 0 0 underlying3) ?_
     refine qt 16 4 19 rfl (vf underlying25 rfl type3) ?_
     refine qt 16 5 51 rfl (vl 0 1 underlying3) ?_
     refine qt 16 7 179 rfl (vf underlying25 rfl type3) ?_
     refine qt 16 8 435 rfl (vl 0 2 underlying3) ?_
     refine qt 16 10 1459 rfl (vf underlying25 rfl type3) ?_
     refine qt 16 11 3507 rfl (vl 0 3 underlying3) ?_
     refine qo 16 2 3511 rfl ?_
     refine wcv (cl_fn cb52 rfl) (fun W hm => impl_FormatInt_c W x0.Query (⟨by omega, by omega⟩) (hT.mem hm)) ?_
     have hz10 := impl_FormatInt_sz x0.Query (by omega)
     refine qn (fun W hm => hm) ?_
     have hz11 : ByteArray.size (sB [113]) = 1 := rfl
     refine qt 16 3 3519 rfl (fun W hm => rv_addS (p := (sB [113])) (q := (impl_FormatInt_m x0.Query)) rfl rfl (by omega)) ?_
     have hz12 := sz_app (sB [113]) (impl_FormatInt_m x0.Query)
     refine qo 16 6 3583 rfl ?_
     refine wcv (cl_fn cb52 rfl) (fun W hm => impl_FormatInt_c W x0.Value (⟨by omega, by omega⟩) (hT.mem hm)) ?_
     have hz13 := impl_FormatInt_sz x0.Value (by omega)
     refine qn (fun W hm => hm) ?_
     refine qo 16 9 4095 rfl ?_
     refine wcv (cl_fn cb52 rfl) (fun W hm => impl_FormatInt_c W x0.Count (⟨by omega, by omega⟩) (hT.mem hm)) ?_
     have hz14 := impl_FormatInt_sz x0.Count (by omega)
     refine qn (fun W hm => hm) ?_
     refine qo 16 12 8191 rfl ?_
     refine wcv (cl_fn cb52 rfl) (fun W hm => impl_FormatInt_c W x0.Sum (⟨by omega, by omega⟩) (hT.mem hm)) ?_
     have hz15 := impl_FormatInt_sz x0.Sum (by omega)
     refine qn (fun W hm => hm) ?_
     refine qo 16 13 16383 rfl ?_
     refine WM_build (cs := [.string ((sB [113]) ++ (impl_FormatInt_m x0.Query)), .string (impl_FormatInt_m x0.Value), .string (sB [99, 111, 117, 110, 116]), .string (impl_FormatInt_m x0.Count), .string (sB [115, 117, 109]), .string (impl_FormatInt_m x0.Sum)]) underlying80 type9 rfl (by decide) (by decide) rfl (by kernel_rfl) (Wd_none rfl) (by decide) (fun p16 => ?_)
     refine qn (pk [1]) ?_
     refine qo 16 14 32767 rfl ?_
     have hz17 : ByteArray.size (sB [99, 111, 117, 110, 116]) = 5 := rfl
     have hz18 : ByteArray.size (sB [115, 117, 109]) = 3 := rfl
     refine WM_items (fun W hm => Mem.litOwn (E := tStr) (xs := [((sB [113]) ++ (impl_FormatInt_m x0.Query)), (impl_FormatInt_m x0.Value), (sB [99, 111, 117, 110, 116]), (impl_FormatInt_m x0.Count), (sB [115, 117, 109]), (impl_FormatInt_m x0.Sum)]) rfl (show 6 ≤ maxLen from by decide) (fun _ => (els_cons (E := tStr) (L1 := []) (tStr_own (by omega)) (els_cons (E := tStr) (L1 := []) (tStr_own (by omega)) (els_cons (E := tStr) (L1 := []) (tStr_own (by omega)) (els_cons (E := tStr) (L1 := []) (tStr_own (by omega)) (els_cons (E := tStr) (L1 := []) (tStr_own (by omega)) (els_cons (E := tStr) (L1 := []) (tStr_own (by omega)) els_nil))))))) hm) ?_
     have hz20 : ByteArray.size (sB [32]) = 1 := rfl
     refine wcv (cl_fn ⟨f51, _, func51, rfl, by decide⟩ rfl) (fun W hm => join_c W p16 _ [((sB [113]) ++ (impl_FormatInt_m x0.Query)), (impl_FormatInt_m x0.Value), (sB [99, 111, 117, 110, 116]), (impl_FormatInt_m x0.Count), (sB [115, 117, 109]), (impl_FormatInt_m x0.Sum)] (sB [32]) (hm.rdSI (n := 0) rfl) (show 1 ≤ List.length [((sB [113]) ++ (impl_FormatInt_m x0.Query)), (impl_FormatInt_m x0.Value), (sB [99, 111, 117, 110, 116]), (impl_FormatInt_m x0.Count), (sB [115, 117, 109]), (impl_FormatInt_m x0.Sum)] ∧ List.length [((sB [113]) ++ (impl_FormatInt_m x0.Query)), (impl_FormatInt_m x0.Value), (sB [99, 111, 117, 110, 116]), (impl_FormatInt_m x0.Count), (sB [115, 117, 109]), (impl_FormatInt_m x0.Sum)] ≤ 1000 from ⟨Nat.le_of_ble_eq_true rfl, Nat.le_of_ble_eq_true rfl⟩) (by intro z hz; simp only [List.mem_cons, List.not_mem_nil, or_false] at hz; rcases hz with rfl | rfl | rfl | rfl | rfl | rfl <;> omega) (by omega)) ?_
     have hz21 := joinB_sz (show 1 ≤ List.length [((sB [113]) ++ (impl_FormatInt_m x0.Query)), (impl_FormatInt_m x0.Value), (sB [99, 111, 117, 110, 116]), (impl_FormatInt_m x0.Count), (sB [115, 117, 109]), (impl_FormatInt_m x0.Sum)] ∧ List.length [((sB [113]) ++ (impl_FormatInt_m x0.Query)), (impl_FormatInt_m x0.Value), (sB [99, 111, 117, 110, 116]), (impl_FormatInt_m x0.Count), (sB [115, 117, 109]), (impl_FormatInt_m x0.Sum)] ≤ 1000 from ⟨Nat.le_of_ble_eq_true rfl, Nat.le_of_ble_eq_true rfl⟩).2 (by intro z hz; simp only [List.mem_cons, List.not_mem_nil, or_false] at hz; rcases hz with rfl | rfl | rfl | rfl | rfl | rfl <;> omega) (show ByteArray.size (sB [32]) ≤ 1000 by omega)
     refine qn (pk [1]) ?_
     refine qt 16 15 65535 rfl (fun W hm => rv_assign rfl) ?_
     refine QB_done (by kernel_rfl) ?_
     refine QM_then (CM_ret ?_)
     exact QM_ret1 rfl rfl (fun W hm => ⟨ret_s (show impl_FormatGroup_m x0 = (joinB [((sB [113]) ++ (impl_FormatInt_m x0.Query)), (impl_FormatInt_m x0.Value), (sB [99, 111, 117, 110, 116]), (impl_FormatInt_m x0.Count), (sB [115, 117, 109]), (impl_FormatInt_m x0.Sum)] (sB [32])) from cond_t g3 (cond_t g5 (cond_f g7 (cond_f g9 (rfl))))), hm.below⟩)
  ·
   refine ws (nf g5) ?_
   refine ws (nf g5) ?_
   refine ws (nf g5) ?_
   refine wv (vpT (nf g5)) ?_
   refine wm ?_
   refine wk ?_
   refine wk ?_
   refine wk ?_
   refine wv (vpT rfl) ?_
   refine nt' ?_
   refine CM_condT rfl rfl ?_
   refine sr (wa (nt' (CM_ret (QM_then_ret ?_))))
   exact QM_ret1 rfl rfl (fun W hm => ⟨ret_s (show impl_FormatGroup_m x0 = (sB []) from cond_t g3 (cond_f g5 (rfl))), hm.below⟩)
 ·
  refine ws (nf g3) ?_
  refine ws (nf g3) ?_
  refine ws (nf g3) ?_
  refine ws (nf g3) ?_
  refine wv (vpT (nf g3)) ?_
  refine wm ?_
  refine wk ?_
  refine wk ?_
  refine wk ?_
  refine wv (vpT rfl) ?_
  refine wm ?_
  refine wk ?_
  refine wk ?_
  refine wk ?_
  refine wv (vpT rfl) ?_
  refine nt' ?_
  refine CM_condT rfl rfl ?_
  refine sr (wa (nt' (CM_ret (QM_then_ret ?_))))
  exact QM_ret1 rfl rfl (fun W hm => ⟨ret_s (show impl_FormatGroup_m x0 = (sB []) from cond_f g3 (rfl)), hm.below⟩)

end Go.Proofs.YtcjelfdpekbbkaaDoor
