/-
  Contracts of functions, printed by a program of ours.
-/
import Derived.Test.YtjcdginailhfmaaL7F1
namespace Go.Proofs.Ytjcdginailhfmaa
open Go.RowKit
set_option maxRecDepth 100000 in
theorem cb133 : Cb Try.prog 133 := ⟨Try.f133, _, Try.func133, rfl, by decide⟩
set_option maxRecDepth 10000 in
set_option maxHeartbeats 4000000 in
theorem srt88_symm_c {α : Type} [Inhabited α] (K : Ck α) (hK : K.s = 4) (cf : α → α → Int) (fc : FuncId) (B : Nat) (w0 : World) (is : List It) (H : CmpOk Try.prog fc K B w0 is cf) (A : Option Addr) (n c : Nat) (hn : n ≤ 68719476736) :
    ∀ (f : Nat) (a : Nat) (m : Nat) (b : Nat) (xs : List (List Value × α)) (h1 : b - a ≤ f) (h2 : a < m) (h3 : m < b) (h4 : b ≤ n) (w : World) (hm : Mem B w0 (iOwn (tSl (tCk K) 117) [.slice A n c] xs :: is) w),
    Calls Try.prog 133 #[.slice A n c, .int .i64 ((a : Nat) : Int), .int .i64 ((m : Nat) : Int), .int .i64 ((b : Nat) : Int), .func (.func fc) #[] #[]] w fun e w' => e = .returned (.tuple #[]) ∧ Mem B w0 (iOwn (tSl (tCk K) 117) [.slice A n c] (symm (ltc cf) f a m b xs) :: is) w' := by
  intro f
  revert A
  induction f with
  | zero => intro A a m b xs h1 h2 h3 h4 w hm; exact absurd h1 (by omega)
  | succ f ih =>
  intro A a m b xs h1 h2 h3 h4 w hm
  replace ih := ih A
  refine call_enterW (L := [(0, .slice A n c), (1, .int .i64 ((a : Nat) : Int)), (2, .int .i64 ((m : Nat) : Int)), (3, .int .i64 ((b : Nat) : Int)), (4, .func (.func fc) #[] #[])]) (N := 220) Try.func133 rfl rfl (Nat.le_of_ble_eq_true rfl) (argsL_cons rfl (argsL_cons rfl (argsL_cons rfl (argsL_cons rfl (argsL_cons rfl argsL_nil))))) hm ?_
  refine CM_seq ?_
  refine sr ?_
  refine wm ?_
  refine wm ?_
  refine wv (fun W hm => rv_subN (p := m) (q := a) rfl rfl (by omega) (by omega)) ?_
  refine wv (fun W hm => rv_eql rfl rfl) ?_
  refine nt' ?_
  by_cases h1 : ((m - a : Nat) : Int) = 1
  · have g2 : (((m - a : Nat) : Int) == 1) = true := beq_iff_eq.2 h1
    refine CM_condT rfl g2 ?_
    refine sr ?_
    refine wm ?_
    refine wa ?_
    refine nt' ?_
    refine sr ?_
    refine wm ?_
    refine wa ?_
    refine nt' ?_
    refine CM_seq ?_
    refine CM_block ?_
    refine CM_loop (σ := Nat × Nat × Nat) (fun s => [(0, .slice A n c), (1, .int .i64 ((a : Nat) : Int)), (4, .func (.func fc) #[] #[]), (10, .int .i64 ((s.1 : Nat) : Int)), (11, .int .i64 ((s.2.1 : Nat) : Int))]) (fun s => (iOwn (tSl (tCk K) 117) [.slice A n c] xs :: is)) (fun s => bsr (fun h => ltc cf (gt xs h) (gt xs a)) s.2.2 s.1 s.2.1 = bsr (fun h => ltc cf (gt xs h) (gt xs a)) (b - m) m b ∧ s.2.1 ≤ s.2.2 + s.1 ∧ m ≤ s.1 ∧ s.1 ≤ s.2.1 ∧ s.2.1 ≤ b) (fun s => s.2.1 - s.1) (m, b, b - m) (subL_cons rfl (subL_cons rfl (subL_cons rfl (subL_cons rfl (subL_cons rfl subL_nil))))) (fun W hm => hm) ⟨(show bsr (fun h => ltc cf (gt xs h) (gt xs a)) (b - m) m b = bsr (fun h => ltc cf (gt xs h) (gt xs a)) (b - m) m b from rfl), (show b ≤ (b - m) + m from by omega), (show m ≤ m from by omega), (show m ≤ b from by omega), (show b ≤ b from by omega)⟩ ?_
    rintro ⟨i, j, f0⟩ H3
    obtain ⟨hB, hf5, hf6, hf7, hf8⟩ : bsr (fun h => ltc cf (gt xs h) (gt xs a)) f0 i j = bsr (fun h => ltc cf (gt xs h) (gt xs a)) (b - m) m b ∧ j ≤ f0 + i ∧ m ≤ i ∧ i ≤ j ∧ j ≤ b := H3
    show CM Try.prog 220 _ _ _ _ [(0, .slice A n c), (1, .int .i64 ((a : Nat) : Int)), (4, .func (.func fc) #[] #[]), (10, .int .i64 ((i : Nat) : Int)), (11, .int .i64 ((j : Nat) : Int))] (iOwn (tSl (tCk K) 117) [.slice A n c] xs :: is)
    refine CM_seq ?_
    refine sr ?_
    refine wm ?_
    refine wm ?_
    refine wv (fun W hm => rv_lss rfl rfl) ?_
    refine nt' ?_
    by_cases h4 : ((i : Nat) : Int) < ((j : Nat) : Int)
    · have g5 : (decide (((i : Nat) : Int) < ((j : Nat) : Int))) = true := decide_eq_true h4
      refine CM_condT rfl g5 ?_
      refine CM_skip ?_
      refine QM_then ?_
      refine CM_block ?_
      refine sr ?_
      refine wm ?_
      refine wm ?_
      refine wv (fun W hm => rv_addN (p := i) (q := j) rfl rfl (by omega)) ?_
      refine wv (fun W hm => rv_convIU (p := i + j) Try.underlying3 Try.underlying152 rfl (by omega)) ?_
      refine wv (fun W hm => rv_half rfl) ?_
      refine wv (fun W hm => rv_convUI (p := (i + j) / 2) Try.underlying152 Try.underlying3 rfl (by omega)) ?_
      refine wa ?_
      refine nt' ?_
      refine CM_seq ?_
      refine CM_formO (n := 0) rfl (by omega) ?_
      rintro g6 rfl
      refine CM_regionD (by kernel_rfl) (by kernel_rfl) ?_
      refine qm ?_
      refine qm ?_
      refine qm ?_
      refine qv (fun W hm => rv_index (sz := K.s) (k := (i + j) / 2) Try.underlying54 Try.type117 hK.symm rfl rfl (by omega)) ?_
      refine qv (fun W hm => rv_loadCk Try.underlying117 Try.type117 hK.symm rfl hm (by omega)) ?_
      refine qm ?_
      refine qm ?_
      refine qv (fun W hm => rv_index (sz := K.s) (k := a) Try.underlying54 Try.type117 hK.symm rfl rfl (by omega)) ?_
      refine qv (fun W hm => rv_loadCk Try.underlying117 Try.type117 hK.symm rfl hm (by omega)) ?_
      refine QR_callV (cl_val (first := []) (caps := []) (vs := [.agg (gt xs ((i + j) / 2)).1.toArray, .agg (gt xs a).1.toArray]) (args := [.agg (gt xs ((i + j) / 2)).1.toArray, .agg (gt xs a).1.toArray]) H.cb rfl rfl rfl) (fun W hm => H.go W (gt xs ((i + j) / 2)) (gt xs a) hm.tail (hm.ck (by omega)).1 (hm.ck (by omega)).1) (Wd_none rfl) (by decide) ?_
      refine qv (fun W hm => rv_lss rfl rfl) ?_
      refine nq' ?_
      by_cases h7 : (cf (gt xs ((i + j) / 2)).2 (gt xs a).2) < 0
      · have g8 : (decide ((cf (gt xs ((i + j) / 2)).2 (gt xs a).2) < 0)) = true := decide_eq_true h7
        refine CM_condT rfl g8 ?_
        refine CM_region ?_
        refine wm ?_
        refine wv (fun W hm => rv_addN (p := (i + j) / 2) (q := 1) rfl rfl (by omega)) ?_
        refine wa ?_
        refine WM_nil ?_
        refine QM_block_normal ?_
        exact QM_round ((i + j) / 2 + 1, j, f0 - 1) (subL_cons rfl (subL_cons rfl (subL_cons rfl (subL_cons rfl (subL_cons rfl subL_nil))))) (fun W hm => hm) ⟨(show bsr (fun h => ltc cf (gt xs h) (gt xs a)) (f0 - 1) ((i + j) / 2 + 1) j = bsr (fun h => ltc cf (gt xs h) (gt xs a)) (b - m) m b from (bsr_t (by omega) hf5 (show decide (cf (gt xs ((i + j) / 2)).2 (gt xs a).2 < 0) = true from decide_eq_true (by omega))).symm.trans hB), (show j ≤ (f0 - 1) + ((i + j) / 2 + 1) from by omega), (show m ≤ ((i + j) / 2 + 1) from by omega), (show ((i + j) / 2 + 1) ≤ j from by omega), (show j ≤ b from by omega)⟩ (show j - ((i + j) / 2 + 1) < j - i from by omega)
      · have g8 : (decide ((cf (gt xs ((i + j) / 2)).2 (gt xs a).2) < 0)) = false := decide_eq_false h7
        refine CM_condF rfl g8 ?_
        refine CM_region ?_
        refine wm ?_
        refine wa ?_
        refine WM_nil ?_
        refine QM_block_normal ?_
        exact QM_round (i, (i + j) / 2, f0 - 1) (subL_cons rfl (subL_cons rfl (subL_cons rfl (subL_cons rfl (subL_cons rfl subL_nil))))) (fun W hm => hm) ⟨(show bsr (fun h => ltc cf (gt xs h) (gt xs a)) (f0 - 1) i ((i + j) / 2) = bsr (fun h => ltc cf (gt xs h) (gt xs a)) (b - m) m b from (bsr_f (by omega) hf5 (show decide (cf (gt xs ((i + j) / 2)).2 (gt xs a).2 < 0) = false from decide_eq_false (by omega))).symm.trans hB), (show ((i + j) / 2) ≤ (f0 - 1) + i from by omega), (show m ≤ i from by omega), (show i ≤ ((i + j) / 2) from by omega), (show ((i + j) / 2) ≤ b from by omega)⟩ (show ((i + j) / 2) - i < j - i from by omega)
    · have g5 : (decide (((i : Nat) : Int) < ((j : Nat) : Int))) = false := decide_eq_false h4
      refine CM_condF rfl g5 ?_
      refine CM_exit ?_
      refine QM_then_exit ?_
      refine QM_then_exit ?_
      have hA : bsr (fun h => ltc cf (gt xs h) (gt xs a)) (b - m) m b = i := hB.symm.trans (bsr_e (by omega))
      refine QM_block_hit ?_
      refine QM_then ?_
      refine CM_seq ?_
      refine sr ?_
      refine wm ?_
      refine wa ?_
      refine nt' ?_
      refine CM_block ?_
      refine CM_loop (σ := Nat × List (List Value × α)) (fun s => [(0, .slice A n c), (10, .int .i64 ((i : Nat) : Int)), (13, .int .i64 ((s.1 : Nat) : Int))]) (fun s => (iOwn (tSl (tCk K) 117) [.slice A n c] s.2 :: is)) (fun s => mvU (i - 1 - s.1) s.1 s.2 = mvU (i - 1 - a) a xs ∧ a ≤ s.1) (fun s => i - 1 - s.1) (a, xs) (subL_cons rfl (subL_cons rfl (subL_cons rfl subL_nil))) (fun W hm => hm) ⟨(show mvU (i - 1 - a) a xs = mvU (i - 1 - a) a xs from rfl), (show a ≤ a from by omega)⟩ ?_
      rintro ⟨k, d⟩ H9
      obtain ⟨hU, hf9⟩ : mvU (i - 1 - k) k d = mvU (i - 1 - a) a xs ∧ a ≤ k := H9
      show CM Try.prog 220 _ _ _ _ [(0, .slice A n c), (10, .int .i64 ((i : Nat) : Int)), (13, .int .i64 ((k : Nat) : Int))] (iOwn (tSl (tCk K) 117) [.slice A n c] d :: is)
      refine CM_seq ?_
      refine sr ?_
      refine wm ?_
      refine wm ?_
      refine wv (fun W hm => rv_subN (p := i) (q := 1) rfl rfl (by omega) (by omega)) ?_
      refine wv (fun W hm => rv_lss rfl rfl) ?_
      refine nt' ?_
      by_cases h10 : ((k : Nat) : Int) < ((i - 1 : Nat) : Int)
      · have g11 : (decide (((k : Nat) : Int) < ((i - 1 : Nat) : Int))) = true := decide_eq_true h10
        refine CM_condT rfl g11 ?_
        refine CM_skip ?_
        refine QM_then ?_
        refine CM_seq ?_
        refine CM_block ?_
        refine CM_formO (n := 0) rfl (by omega) ?_
        rintro g13 rfl
        refine CM_ck ?_
        intro hR12
        refine CM_cut (σ := Unit) (fun _ => [(0, .slice (some ⟨g13, 0, none⟩) n c), (10, .int .i64 ((i : Nat) : Int)), (13, .int .i64 ((k : Nat) : Int))]) (fun _ => (iOwn (tSl (tCk K) 117) [.slice (some ⟨g13, 0, none⟩) n c] ((d.set k (gt d (k + 1))).set (k + 1) (gt d k)) :: is)) (fun _ => True) ?_ ?_
        ·
          refine CM_regionB (n := 18) (listed := #[false, false, false, false, false, false, false, false, false, false, false, false, false, false, false, false, false, false]) (s := (is)) (by kernel_rfl) rfl (by kernel_rfl) (fun W hm => (hm).tail) ?_
          refine QB_take 0 (listed' := #[true, false, false, false, false, false, false, false, false, false, false, false, false, false, false, false, false, false]) (by kernel_rfl) rfl (by kernel_rfl) (by kernel_rfl) (by kernel_rfl) (fun _ _ _ h => h) (fun W hm => rv_move rfl) (Wd_none rfl) rfl (by decide) ?_
          refine QB_take 1 (listed' := #[true, true, false, false, false, false, false, false, false, false, false, false, false, false, false, false, false, false]) (by kernel_rfl) rfl (by kernel_rfl) (by kernel_rfl) (by kernel_rfl) (fun _ _ _ h => h) (fun W hm => rv_move rfl) (Wd_none rfl) rfl (by decide) ?_
          refine QB_take 2 (listed' := #[true, true, true, false, false, false, false, false, false, false, false, false, false, false, false, false, false, false]) (by kernel_rfl) rfl (by kernel_rfl) (by kernel_rfl) (by kernel_rfl) (fun _ _ _ h => h) (fun W hm => rv_move rfl) (Wd_none rfl) rfl (by decide) ?_
          refine QB_take 3 (listed' := #[true, true, true, true, false, false, false, false, false, false, false, false, false, false, false, false, false, false]) (by kernel_rfl) rfl (by kernel_rfl) (by kernel_rfl) (by kernel_rfl) (fun _ _ _ h => h) (fun W hm => rv_move rfl) (Wd_none rfl) rfl (by decide) ?_
          refine QB_take 4 (listed' := #[true, true, true, true, true, false, false, false, false, false, false, false, false, false, false, false, false, false]) (by kernel_rfl) rfl (by kernel_rfl) (by kernel_rfl) (by kernel_rfl) (fun _ _ _ h => h) (fun W hm => rv_addN (p := k) (q := 1) rfl rfl (by omega)) (Wd_none rfl) rfl (by decide) ?_
          refine QB_take 5 (listed' := #[true, true, true, true, true, true, false, false, false, false, false, false, false, false, false, false, false, false]) (by kernel_rfl) rfl (by kernel_rfl) (by kernel_rfl) (by kernel_rfl) (fun _ _ _ h => h) (fun W hm => rv_move rfl) (Wd_none rfl) rfl (by decide) ?_
          refine QB_take 6 (listed' := #[true, true, true, true, true, true, true, false, false, false, false, false, false, false, false, false, false, false]) (by kernel_rfl) rfl (by kernel_rfl) (by kernel_rfl) (by kernel_rfl) (fun _ _ _ h => h) (fun W hm => rv_move rfl) (Wd_none rfl) rfl (by decide) ?_
          refine QB_take 7 (listed' := #[true, true, true, true, true, true, true, true, false, false, false, false, false, false, false, false, false, false]) (by kernel_rfl) rfl (by kernel_rfl) (by kernel_rfl) (by kernel_rfl) (fun _ _ _ h => h) (fun W hm => rv_addN (p := k) (q := 1) rfl rfl (by omega)) (Wd_none rfl) rfl (by decide) ?_
          refine QB_take 8 (listed' := #[true, true, true, true, true, true, true, true, true, false, false, false, false, false, false, false, false, false]) (by kernel_rfl) rfl (by kernel_rfl) (by kernel_rfl) (by kernel_rfl) (fun _ _ _ h => h) (fun W hm => rv_index (sz := K.s) (k := k + 1) Try.underlying54 Try.type117 hK.symm rfl rfl (by omega)) (Wd_none rfl) rfl (by decide) ?_
          refine QB_take 10 (listed' := #[true, true, true, true, true, true, true, true, true, false, true, false, false, false, false, false, false, false]) (by kernel_rfl) rfl (by kernel_rfl) (by kernel_rfl) (by kernel_rfl) (fun _ _ _ h => h) (fun W hm => rv_move rfl) (Wd_none rfl) rfl (by decide) ?_
          refine QB_take 11 (listed' := #[true, true, true, true, true, true, true, true, true, false, true, true, false, false, false, false, false, false]) (by kernel_rfl) rfl (by kernel_rfl) (by kernel_rfl) (by kernel_rfl) (fun _ _ _ h => h) (fun W hm => rv_move rfl) (Wd_none rfl) rfl (by decide) ?_
          refine QB_take 12 (listed' := #[true, true, true, true, true, true, true, true, true, false, true, true, true, false, false, false, false, false]) (by kernel_rfl) rfl (by kernel_rfl) (by kernel_rfl) (by kernel_rfl) (fun _ _ _ h => h) (fun W hm => rv_index (sz := K.s) (k := k) Try.underlying54 Try.type117 hK.symm rfl rfl (by omega)) (Wd_none rfl) rfl (by decide) ?_
          refine QB_all [9, 13] (by kernel_rfl) (by decide) ?_
          refine QBs_cons (listed' := #[true, true, true, true, true, true, true, true, true, true, true, true, true, false, false, false, false, false]) (by kernel_rfl) rfl ?_ ?_
          ·
            refine wv (fun W hm => rv_loadCk Try.underlying117 Try.type117 hK.symm rfl hm (by omega)) ?_
            refine WM_nil ?_
            refine QB_next (fun W hm => (hm).tail) ?_
            refine QB_one 13 (listed' := #[true, true, true, true, true, true, true, true, true, true, true, true, true, true, false, false, false, false]) (by kernel_rfl) rfl (by kernel_rfl) ?_
            refine wv (fun W hm => rv_loadCk Try.underlying117 Try.type117 hK.symm rfl hm (by omega)) ?_
            refine WM_nil ?_
            refine QB_next (fun W hm => (hm).tail) ?_
            refine QB_take 14 (listed' := #[true, true, true, true, true, true, true, true, true, true, true, true, true, true, true, false, false, false]) (by kernel_rfl) rfl (by kernel_rfl) (by kernel_rfl) (by kernel_rfl) (fun _ _ _ h => h) (fun W hm => rv_index (sz := K.s) (k := k) Try.underlying54 Try.type117 hK.symm rfl rfl (by omega)) (Wd_none rfl) rfl (by decide) ?_
            refine QB_one 15 (listed' := #[true, true, true, true, true, true, true, true, true, true, true, true, true, true, true, true, false, false]) (by kernel_rfl) rfl (by kernel_rfl) ?_
            refine WM_setEl (E := tCk K) (e := 117) (u := .agg (gt d (k + 1)).1.toArray) (k := k) (p := g13) (n := n) (xs := d) (eis := []) (js := is) (yv := (gt d (k + 1))) (fun W hm => hm) (fun _ _ hs => ⟨hs, rfl, (hR12 (k + 1) (by omega))⟩) rfl Try.type117 hK.symm (by omega) rfl rfl (Wd_none rfl) ?_
            refine WM_nil ?_
            refine QB_next (fun W hm => (hm).tail) ?_
            refine QB_take 16 (listed' := #[true, true, true, true, true, true, true, true, true, true, true, true, true, true, true, true, true, false]) (by kernel_rfl) rfl (by kernel_rfl) (by kernel_rfl) (by kernel_rfl) (fun _ _ _ h => h) (fun W hm => rv_index (sz := K.s) (k := k + 1) Try.underlying54 Try.type117 hK.symm rfl rfl (by omega)) (Wd_none rfl) rfl (by decide) ?_
            refine QB_one 17 (listed' := #[true, true, true, true, true, true, true, true, true, true, true, true, true, true, true, true, true, true]) (by kernel_rfl) rfl (by kernel_rfl) ?_
            refine WM_setEl (E := tCk K) (e := 117) (u := .agg (gt d k).1.toArray) (k := (k + 1)) (p := g13) (n := n) (xs := (d.set k (gt d (k + 1)))) (eis := []) (js := is) (yv := (gt d k)) (fun W hm => hm) (fun _ _ hs => ⟨hs, rfl, (hR12 k (by omega))⟩) rfl Try.type117 hK.symm (by omega) rfl rfl (Wd_none rfl) ?_
            refine WM_nil ?_
            refine QB_next (fun W hm => (hm).tail) ?_
            refine QB_done (by kernel_rfl) ?_
            exact QM_cut_normal () (subL_cons rfl (subL_cons rfl (subL_cons rfl subL_nil))) (fun W hm => hm) trivial
          refine QBs_cons (listed' := #[true, true, true, true, true, true, true, true, true, false, true, true, true, true, false, false, false, false]) (by kernel_rfl) rfl ?_ ?_
          ·
            refine wv (fun W hm => rv_loadCk Try.underlying117 Try.type117 hK.symm rfl hm (by omega)) ?_
            refine WM_nil ?_
            refine QB_next (fun W hm => (hm).tail) ?_
            refine QB_one 9 (listed' := #[true, true, true, true, true, true, true, true, true, true, true, true, true, true, false, false, false, false]) (by kernel_rfl) rfl (by kernel_rfl) ?_
            refine wv (fun W hm => rv_loadCk Try.underlying117 Try.type117 hK.symm rfl hm (by omega)) ?_
            refine WM_nil ?_
            refine QB_next (fun W hm => (hm).tail) ?_
            refine QB_take 14 (listed' := #[true, true, true, true, true, true, true, true, true, true, true, true, true, true, true, false, false, false]) (by kernel_rfl) rfl (by kernel_rfl) (by kernel_rfl) (by kernel_rfl) (fun _ _ _ h => h) (fun W hm => rv_index (sz := K.s) (k := k) Try.underlying54 Try.type117 hK.symm rfl rfl (by omega)) (Wd_none rfl) rfl (by decide) ?_
            refine QB_one 15 (listed' := #[true, true, true, true, true, true, true, true, true, true, true, true, true, true, true, true, false, false]) (by kernel_rfl) rfl (by kernel_rfl) ?_
            refine WM_setEl (E := tCk K) (e := 117) (u := .agg (gt d (k + 1)).1.toArray) (k := k) (p := g13) (n := n) (xs := d) (eis := []) (js := is) (yv := (gt d (k + 1))) (fun W hm => hm) (fun _ _ hs => ⟨hs, rfl, (hR12 (k + 1) (by omega))⟩) rfl Try.type117 hK.symm (by omega) rfl rfl (Wd_none rfl) ?_
            refine WM_nil ?_
            refine QB_next (fun W hm => (hm).tail) ?_
            refine QB_take 16 (listed' := #[true, true, true, true, true, true, true, true, true, true, true, true, true, true, true, true, true, false]) (by kernel_rfl) rfl (by kernel_rfl) (by kernel_rfl) (by kernel_rfl) (fun _ _ _ h => h) (fun W hm => rv_index (sz := K.s) (k := k + 1) Try.underlying54 Try.type117 hK.symm rfl rfl (by omega)) (Wd_none rfl) rfl (by decide) ?_
            refine QB_one 17 (listed' := #[true, true, true, true, true, true, true, true, true, true, true, true, true, true, true, true, true, true]) (by kernel_rfl) rfl (by kernel_rfl) ?_
            refine WM_setEl (E := tCk K) (e := 117) (u := .agg (gt d k).1.toArray) (k := (k + 1)) (p := g13) (n := n) (xs := (d.set k (gt d (k + 1)))) (eis := []) (js := is) (yv := (gt d k)) (fun W hm => hm) (fun _ _ hs => ⟨hs, rfl, (hR12 k (by omega))⟩) rfl Try.type117 hK.symm (by omega) rfl rfl (Wd_none rfl) ?_
            refine WM_nil ?_
            refine QB_next (fun W hm => (hm).tail) ?_
            refine QB_done (by kernel_rfl) ?_
            exact QM_cut_normal () (subL_cons rfl (subL_cons rfl (subL_cons rfl subL_nil))) (fun W hm => hm) trivial
          exact QBs_nil
        ·
          rintro ⟨⟩ -
          show QM 220 _ _ _ .normal [(0, .slice (some ⟨g13, 0, none⟩) n c), (10, .int .i64 ((i : Nat) : Int)), (13, .int .i64 ((k : Nat) : Int))] (iOwn (tSl (tCk K) 117) [.slice (some ⟨g13, 0, none⟩) n c] ((d.set k (gt d (k + 1))).set (k + 1) (gt d k)) :: is)
          refine QM_block_normal ?_
          refine QM_then ?_
          refine CM_region ?_
          refine wm ?_
          refine wv (fun W hm => rv_addN (p := k) (q := 1) rfl rfl (by omega)) ?_
          refine wa ?_
          refine WM_nil ?_
          exact QM_round (k + 1, ((d.set k (gt d (k + 1))).set (k + 1) (gt d k))) (subL_cons rfl (subL_cons rfl (subL_cons rfl subL_nil))) (fun W hm => hm) ⟨(show mvU (i - 1 - (k + 1)) (k + 1) ((d.set k (gt d (k + 1))).set (k + 1) (gt d k)) = mvU (i - 1 - a) a xs from (mvU_step (by omega)).symm.trans hU), (show a ≤ (k + 1) from by omega)⟩ (show i - 1 - (k + 1) < i - 1 - k from by omega)
      · have g11 : (decide (((k : Nat) : Int) < ((i - 1 : Nat) : Int))) = false := decide_eq_false h10
        refine CM_condF rfl g11 ?_
        refine CM_exit ?_
        refine QM_then_exit ?_
        refine QM_then_exit ?_
        refine QM_block_hit ?_
        refine QM_then ?_
        refine CM_ret ?_
        refine QM_then_ret ?_
        have hE : symm (ltc cf) (f + 1) a m b xs = d := (symm_a (by omega)).trans (by rw [hA]; exact ((mvU_end (by omega)).symm.trans hU).symm)
        exact QM_ret0r rfl (fun W hm => ⟨rfl, by rw [hE]; exact hm⟩)
  · have g2 : (((m - a : Nat) : Int) == 1) = false := beq_eq_false_iff_ne.2 h1
    refine CM_condF rfl g2 ?_
    refine CM_skip ?_
    refine QM_then ?_
    refine CM_seq ?_
    refine sr ?_
    refine wm ?_
    refine wm ?_
    refine wv (fun W hm => rv_subN (p := b) (q := m) rfl rfl (by omega) (by omega)) ?_
    refine wv (fun W hm => rv_eql rfl rfl) ?_
    refine nt' ?_
    by_cases h14 : ((b - m : Nat) : Int) = 1
    · have g15 : (((b - m : Nat) : Int) == 1) = true := beq_iff_eq.2 h14
      refine CM_condT rfl g15 ?_
      refine sr ?_
      refine wm ?_
      refine wa ?_
      refine nt' ?_
      refine sr ?_
      refine wm ?_
      refine wa ?_
      refine nt' ?_
      refine CM_seq ?_
      refine CM_block ?_
      refine CM_loop (σ := Nat × Nat × Nat) (fun s => [(0, .slice A n c), (2, .int .i64 ((m : Nat) : Int)), (4, .func (.func fc) #[] #[]), (14, .int .i64 ((s.1 : Nat) : Int)), (15, .int .i64 ((s.2.1 : Nat) : Int))]) (fun s => (iOwn (tSl (tCk K) 117) [.slice A n c] xs :: is)) (fun s => bsr (fun h => !ltc cf (gt xs m) (gt xs h)) s.2.2 s.1 s.2.1 = bsr (fun h => !ltc cf (gt xs m) (gt xs h)) (m - a) a m ∧ s.2.1 ≤ s.2.2 + s.1 ∧ a ≤ s.1 ∧ s.1 ≤ s.2.1 ∧ s.2.1 ≤ m) (fun s => s.2.1 - s.1) (a, m, m - a) (subL_cons rfl (subL_cons rfl (subL_cons rfl (subL_cons rfl (subL_cons rfl subL_nil))))) (fun W hm => hm) ⟨(show bsr (fun h => !ltc cf (gt xs m) (gt xs h)) (m - a) a m = bsr (fun h => !ltc cf (gt xs m) (gt xs h)) (m - a) a m from rfl), (show m ≤ (m - a) + a from by omega), (show a ≤ a from by omega), (show a ≤ m from by omega), (show m ≤ m from by omega)⟩ ?_
      rintro ⟨i, j, f0⟩ H16
      obtain ⟨hB, hf5, hf6, hf7, hf8⟩ : bsr (fun h => !ltc cf (gt xs m) (gt xs h)) f0 i j = bsr (fun h => !ltc cf (gt xs m) (gt xs h)) (m - a) a m ∧ j ≤ f0 + i ∧ a ≤ i ∧ i ≤ j ∧ j ≤ m := H16
      show CM Try.prog 220 _ _ _ _ [(0, .slice A n c), (2, .int .i64 ((m : Nat) : Int)), (4, .func (.func fc) #[] #[]), (14, .int .i64 ((i : Nat) : Int)), (15, .int .i64 ((j : Nat) : Int))] (iOwn (tSl (tCk K) 117) [.slice A n c] xs :: is)
      refine CM_seq ?_
      refine sr ?_
      refine wm ?_
      refine wm ?_
      refine wv (fun W hm => rv_lss rfl rfl) ?_
      refine nt' ?_
      by_cases h17 : ((i : Nat) : Int) < ((j : Nat) : Int)
      · have g18 : (decide (((i : Nat) : Int) < ((j : Nat) : Int))) = true := decide_eq_true h17
        refine CM_condT rfl g18 ?_
        refine CM_skip ?_
        refine QM_then ?_
        refine CM_block ?_
        refine sr ?_
        refine wm ?_
        refine wm ?_
        refine wv (fun W hm => rv_addN (p := i) (q := j) rfl rfl (by omega)) ?_
        refine wv (fun W hm => rv_convIU (p := i + j) Try.underlying3 Try.underlying152 rfl (by omega)) ?_
        refine wv (fun W hm => rv_half rfl) ?_
        refine wv (fun W hm => rv_convUI (p := (i + j) / 2) Try.underlying152 Try.underlying3 rfl (by omega)) ?_
        refine wa ?_
        refine nt' ?_
        refine CM_seq ?_
        refine CM_formO (n := 0) rfl (by omega) ?_
        rintro g19 rfl
        refine CM_regionD (by kernel_rfl) (by kernel_rfl) ?_
        refine qm ?_
        refine qm ?_
        refine qm ?_
        refine qv (fun W hm => rv_index (sz := K.s) (k := m) Try.underlying54 Try.type117 hK.symm rfl rfl (by omega)) ?_
        refine qv (fun W hm => rv_loadCk Try.underlying117 Try.type117 hK.symm rfl hm (by omega)) ?_
        refine qm ?_
        refine qm ?_
        refine qv (fun W hm => rv_index (sz := K.s) (k := (i + j) / 2) Try.underlying54 Try.type117 hK.symm rfl rfl (by omega)) ?_
        refine qv (fun W hm => rv_loadCk Try.underlying117 Try.type117 hK.symm rfl hm (by omega)) ?_
        refine QR_callV (cl_val (first := []) (caps := []) (vs := [.agg (gt xs m).1.toArray, .agg (gt xs ((i + j) / 2)).1.toArray]) (args := [.agg (gt xs m).1.toArray, .agg (gt xs ((i + j) / 2)).1.toArray]) H.cb rfl rfl rfl) (fun W hm => H.go W (gt xs m) (gt xs ((i + j) / 2)) hm.tail (hm.ck (by omega)).1 (hm.ck (by omega)).1) (Wd_none rfl) (by decide) ?_
        refine qv (fun W hm => rv_lss rfl rfl) ?_
        refine qv (fun W hm => rv_not rfl) ?_
        refine nq' ?_
        by_cases h20 : (cf (gt xs m).2 (gt xs ((i + j) / 2)).2) < 0
        · have g21 : (decide ((cf (gt xs m).2 (gt xs ((i + j) / 2)).2) < 0)) = true := decide_eq_true h20
          refine CM_condF rfl (nt g21) ?_
          refine CM_region ?_
          refine wm ?_
          refine wa ?_
          refine WM_nil ?_
          refine QM_block_normal ?_
          exact QM_round (i, (i + j) / 2, f0 - 1) (subL_cons rfl (subL_cons rfl (subL_cons rfl (subL_cons rfl (subL_cons rfl subL_nil))))) (fun W hm => hm) ⟨(show bsr (fun h => !ltc cf (gt xs m) (gt xs h)) (f0 - 1) i ((i + j) / 2) = bsr (fun h => !ltc cf (gt xs m) (gt xs h)) (m - a) a m from (bsr_f (by omega) hf5 (show (!decide (cf (gt xs m).2 (gt xs ((i + j) / 2)).2 < 0)) = false from by rw [decide_eq_true (show cf (gt xs m).2 (gt xs ((i + j) / 2)).2 < 0 by omega)]; rfl)).symm.trans hB), (show ((i + j) / 2) ≤ (f0 - 1) + i from by omega), (show a ≤ i from by omega), (show i ≤ ((i + j) / 2) from by omega), (show ((i + j) / 2) ≤ m from by omega)⟩ (show ((i + j) / 2) - i < j - i from by omega)
        · have g21 : (decide ((cf (gt xs m).2 (gt xs ((i + j) / 2)).2) < 0)) = false := decide_eq_false h20
          refine CM_condT rfl (nf g21) ?_
          refine CM_region ?_
          refine wm ?_
          refine wv (fun W hm => rv_addN (p := (i + j) / 2) (q := 1) rfl rfl (by omega)) ?_
          refine wa ?_
          refine WM_nil ?_
          refine QM_block_normal ?_
          exact QM_round ((i + j) / 2 + 1, j, f0 - 1) (subL_cons rfl (subL_cons rfl (subL_cons rfl (subL_cons rfl (subL_cons rfl subL_nil))))) (fun W hm => hm) ⟨(show bsr (fun h => !ltc cf (gt xs m) (gt xs h)) (f0 - 1) ((i + j) / 2 + 1) j = bsr (fun h => !ltc cf (gt xs m) (gt xs h)) (m - a) a m from (bsr_t (by omega) hf5 (show (!decide (cf (gt xs m).2 (gt xs ((i + j) / 2)).2 < 0)) = true from by rw [decide_eq_false (show ¬ cf (gt xs m).2 (gt xs ((i + j) / 2)).2 < 0 by omega)]; rfl)).symm.trans hB), (show j ≤ (f0 - 1) + ((i + j) / 2 + 1) from by omega), (show a ≤ ((i + j) / 2 + 1) from by omega), (show ((i + j) / 2 + 1) ≤ j from by omega), (show j ≤ m from by omega)⟩ (show j - ((i + j) / 2 + 1) < j - i from by omega)
      · have g18 : (decide (((i : Nat) : Int) < ((j : Nat) : Int))) = false := decide_eq_false h17
        refine CM_condF rfl g18 ?_
        refine CM_exit ?_
        refine QM_then_exit ?_
        refine QM_then_exit ?_
        have hA : bsr (fun h => !ltc cf (gt xs m) (gt xs h)) (m - a) a m = i := hB.symm.trans (bsr_e (by omega))
        refine QM_block_hit ?_
        refine QM_then ?_
        refine CM_seq ?_
        refine sr ?_
        refine wm ?_
        refine wa ?_
        refine nt' ?_
        refine CM_block ?_
        refine CM_loop (σ := Nat × List (List Value × α)) (fun s => [(0, .slice A n c), (14, .int .i64 ((i : Nat) : Int)), (17, .int .i64 ((s.1 : Nat) : Int))]) (fun s => (iOwn (tSl (tCk K) 117) [.slice A n c] s.2 :: is)) (fun s => mvD (s.1 - i) s.1 s.2 = mvD (m - i) m xs ∧ s.1 ≤ m) (fun s => s.1) (m, xs) (subL_cons rfl (subL_cons rfl (subL_cons rfl subL_nil))) (fun W hm => hm) ⟨(show mvD (m - i) m xs = mvD (m - i) m xs from rfl), (show m ≤ m from by omega)⟩ ?_
        rintro ⟨k, d⟩ H22
        obtain ⟨hU, hf9⟩ : mvD (k - i) k d = mvD (m - i) m xs ∧ k ≤ m := H22
        show CM Try.prog 220 _ _ _ _ [(0, .slice A n c), (14, .int .i64 ((i : Nat) : Int)), (17, .int .i64 ((k : Nat) : Int))] (iOwn (tSl (tCk K) 117) [.slice A n c] d :: is)
        refine CM_seq ?_
        refine sr ?_
        refine wm ?_
        refine wm ?_
        refine wv (fun W hm => rv_gtr rfl rfl) ?_
        refine nt' ?_
        by_cases h23 : ((i : Nat) : Int) < ((k : Nat) : Int)
        · have g24 : (decide (((i : Nat) : Int) < ((k : Nat) : Int))) = true := decide_eq_true h23
          refine CM_condT rfl g24 ?_
          refine CM_skip ?_
          refine QM_then ?_
          refine CM_seq ?_
          refine CM_block ?_
          refine CM_formO (n := 0) rfl (by omega) ?_
          rintro g26 rfl
          refine CM_ck ?_
          intro hR25
          refine CM_cut (σ := Unit) (fun _ => [(0, .slice (some ⟨g26, 0, none⟩) n c), (14, .int .i64 ((i : Nat) : Int)), (17, .int .i64 ((k : Nat) : Int))]) (fun _ => (iOwn (tSl (tCk K) 117) [.slice (some ⟨g26, 0, none⟩) n c] ((d.set k (gt d (k - 1))).set (k - 1) (gt d k)) :: is)) (fun _ => True) ?_ ?_
          ·
            refine CM_regionB (n := 18) (listed := #[false, false, false, false, false, false, false, false, false, false, false, false, false, false, false, false, false, false]) (s := (is)) (by kernel_rfl) rfl (by kernel_rfl) (fun W hm => (hm).tail) ?_
            refine QB_take 0 (listed' := #[true, false, false, false, false, false, false, false, false, false, false, false, false, false, false, false, false, false]) (by kernel_rfl) rfl (by kernel_rfl) (by kernel_rfl) (by kernel_rfl) (fun _ _ _ h => h) (fun W hm => rv_move rfl) (Wd_none rfl) rfl (by decide) ?_
            refine QB_take 1 (listed' := #[true, true, false, false, false, false, false, false, false, false, false, false, false, false, false, false, false, false]) (by kernel_rfl) rfl (by kernel_rfl) (by kernel_rfl) (by kernel_rfl) (fun _ _ _ h => h) (fun W hm => rv_move rfl) (Wd_none rfl) rfl (by decide) ?_
            refine QB_take 2 (listed' := #[true, true, true, false, false, false, false, false, false, false, false, false, false, false, false, false, false, false]) (by kernel_rfl) rfl (by kernel_rfl) (by kernel_rfl) (by kernel_rfl) (fun _ _ _ h => h) (fun W hm => rv_move rfl) (Wd_none rfl) rfl (by decide) ?_
            refine QB_take 3 (listed' := #[true, true, true, true, false, false, false, false, false, false, false, false, false, false, false, false, false, false]) (by kernel_rfl) rfl (by kernel_rfl) (by kernel_rfl) (by kernel_rfl) (fun _ _ _ h => h) (fun W hm => rv_move rfl) (Wd_none rfl) rfl (by decide) ?_
            refine QB_take 4 (listed' := #[true, true, true, true, true, false, false, false, false, false, false, false, false, false, false, false, false, false]) (by kernel_rfl) rfl (by kernel_rfl) (by kernel_rfl) (by kernel_rfl) (fun _ _ _ h => h) (fun W hm => rv_subN (p := k) (q := 1) rfl rfl (by omega) (by omega)) (Wd_none rfl) rfl (by decide) ?_
            refine QB_take 5 (listed' := #[true, true, true, true, true, true, false, false, false, false, false, false, false, false, false, false, false, false]) (by kernel_rfl) rfl (by kernel_rfl) (by kernel_rfl) (by kernel_rfl) (fun _ _ _ h => h) (fun W hm => rv_move rfl) (Wd_none rfl) rfl (by decide) ?_
            refine QB_take 6 (listed' := #[true, true, true, true, true, true, true, false, false, false, false, false, false, false, false, false, false, false]) (by kernel_rfl) rfl (by kernel_rfl) (by kernel_rfl) (by kernel_rfl) (fun _ _ _ h => h) (fun W hm => rv_move rfl) (Wd_none rfl) rfl (by decide) ?_
            refine QB_take 7 (listed' := #[true, true, true, true, true, true, true, true, false, false, false, false, false, false, false, false, false, false]) (by kernel_rfl) rfl (by kernel_rfl) (by kernel_rfl) (by kernel_rfl) (fun _ _ _ h => h) (fun W hm => rv_subN (p := k) (q := 1) rfl rfl (by omega) (by omega)) (Wd_none rfl) rfl (by decide) ?_
            refine QB_take 8 (listed' := #[true, true, true, true, true, true, true, true, true, false, false, false, false, false, false, false, false, false]) (by kernel_rfl) rfl (by kernel_rfl) (by kernel_rfl) (by kernel_rfl) (fun _ _ _ h => h) (fun W hm => rv_index (sz := K.s) (k := k - 1) Try.underlying54 Try.type117 hK.symm rfl rfl (by omega)) (Wd_none rfl) rfl (by decide) ?_
            refine QB_take 10 (listed' := #[true, true, true, true, true, true, true, true, true, false, true, false, false, false, false, false, false, false]) (by kernel_rfl) rfl (by kernel_rfl) (by kernel_rfl) (by kernel_rfl) (fun _ _ _ h => h) (fun W hm => rv_move rfl) (Wd_none rfl) rfl (by decide) ?_
            refine QB_take 11 (listed' := #[true, true, true, true, true, true, true, true, true, false, true, true, false, false, false, false, false, false]) (by kernel_rfl) rfl (by kernel_rfl) (by kernel_rfl) (by kernel_rfl) (fun _ _ _ h => h) (fun W hm => rv_move rfl) (Wd_none rfl) rfl (by decide) ?_
            refine QB_take 12 (listed' := #[true, true, true, true, true, true, true, true, true, false, true, true, true, false, false, false, false, false]) (by kernel_rfl) rfl (by kernel_rfl) (by kernel_rfl) (by kernel_rfl) (fun _ _ _ h => h) (fun W hm => rv_index (sz := K.s) (k := k) Try.underlying54 Try.type117 hK.symm rfl rfl (by omega)) (Wd_none rfl) rfl (by decide) ?_
            refine QB_all [9, 13] (by kernel_rfl) (by decide) ?_
            refine QBs_cons (listed' := #[true, true, true, true, true, true, true, true, true, true, true, true, true, false, false, false, false, false]) (by kernel_rfl) rfl ?_ ?_
            ·
              refine wv (fun W hm => rv_loadCk Try.underlying117 Try.type117 hK.symm rfl hm (by omega)) ?_
              refine WM_nil ?_
              refine QB_next (fun W hm => (hm).tail) ?_
              refine QB_one 13 (listed' := #[true, true, true, true, true, true, true, true, true, true, true, true, true, true, false, false, false, false]) (by kernel_rfl) rfl (by kernel_rfl) ?_
              refine wv (fun W hm => rv_loadCk Try.underlying117 Try.type117 hK.symm rfl hm (by omega)) ?_
              refine WM_nil ?_
              refine QB_next (fun W hm => (hm).tail) ?_
              refine QB_take 14 (listed' := #[true, true, true, true, true, true, true, true, true, true, true, true, true, true, true, false, false, false]) (by kernel_rfl) rfl (by kernel_rfl) (by kernel_rfl) (by kernel_rfl) (fun _ _ _ h => h) (fun W hm => rv_index (sz := K.s) (k := k) Try.underlying54 Try.type117 hK.symm rfl rfl (by omega)) (Wd_none rfl) rfl (by decide) ?_
              refine QB_one 15 (listed' := #[true, true, true, true, true, true, true, true, true, true, true, true, true, true, true, true, false, false]) (by kernel_rfl) rfl (by kernel_rfl) ?_
              refine WM_setEl (E := tCk K) (e := 117) (u := .agg (gt d (k - 1)).1.toArray) (k := k) (p := g26) (n := n) (xs := d) (eis := []) (js := is) (yv := (gt d (k - 1))) (fun W hm => hm) (fun _ _ hs => ⟨hs, rfl, (hR25 (k - 1) (by omega))⟩) rfl Try.type117 hK.symm (by omega) rfl rfl (Wd_none rfl) ?_
              refine WM_nil ?_
              refine QB_next (fun W hm => (hm).tail) ?_
              refine QB_take 16 (listed' := #[true, true, true, true, true, true, true, true, true, true, true, true, true, true, true, true, true, false]) (by kernel_rfl) rfl (by kernel_rfl) (by kernel_rfl) (by kernel_rfl) (fun _ _ _ h => h) (fun W hm => rv_index (sz := K.s) (k := k - 1) Try.underlying54 Try.type117 hK.symm rfl rfl (by omega)) (Wd_none rfl) rfl (by decide) ?_
              refine QB_one 17 (listed' := #[true, true, true, true, true, true, true, true, true, true, true, true, true, true, true, true, true, true]) (by kernel_rfl) rfl (by kernel_rfl) ?_
              refine WM_setEl (E := tCk K) (e := 117) (u := .agg (gt d k).1.toArray) (k := (k - 1)) (p := g26) (n := n) (xs := (d.set k (gt d (k - 1)))) (eis := []) (js := is) (yv := (gt d k)) (fun W hm => hm) (fun _ _ hs => ⟨hs, rfl, (hR25 k (by omega))⟩) rfl Try.type117 hK.symm (by omega) rfl rfl (Wd_none rfl) ?_
              refine WM_nil ?_
              refine QB_next (fun W hm => (hm).tail) ?_
              refine QB_done (by kernel_rfl) ?_
              exact QM_cut_normal () (subL_cons rfl (subL_cons rfl (subL_cons rfl subL_nil))) (fun W hm => hm) trivial
            refine QBs_cons (listed' := #[true, true, true, true, true, true, true, true, true, false, true, true, true, true, false, false, false, false]) (by kernel_rfl) rfl ?_ ?_
            ·
              refine wv (fun W hm => rv_loadCk Try.underlying117 Try.type117 hK.symm rfl hm (by omega)) ?_
              refine WM_nil ?_
              refine QB_next (fun W hm => (hm).tail) ?_
              refine QB_one 9 (listed' := #[true, true, true, true, true, true, true, true, true, true, true, true, true, true, false, false, false, false]) (by kernel_rfl) rfl (by kernel_rfl) ?_
              refine wv (fun W hm => rv_loadCk Try.underlying117 Try.type117 hK.symm rfl hm (by omega)) ?_
              refine WM_nil ?_
              refine QB_next (fun W hm => (hm).tail) ?_
              refine QB_take 14 (listed' := #[true, true, true, true, true, true, true, true, true, true, true, true, true, true, true, false, false, false]) (by kernel_rfl) rfl (by kernel_rfl) (by kernel_rfl) (by kernel_rfl) (fun _ _ _ h => h) (fun W hm => rv_index (sz := K.s) (k := k) Try.underlying54 Try.type117 hK.symm rfl rfl (by omega)) (Wd_none rfl) rfl (by decide) ?_
              refine QB_one 15 (listed' := #[true, true, true, true, true, true, true, true, true, true, true, true, true, true, true, true, false, false]) (by kernel_rfl) rfl (by kernel_rfl) ?_
              refine WM_setEl (E := tCk K) (e := 117) (u := .agg (gt d (k - 1)).1.toArray) (k := k) (p := g26) (n := n) (xs := d) (eis := []) (js := is) (yv := (gt d (k - 1))) (fun W hm => hm) (fun _ _ hs => ⟨hs, rfl, (hR25 (k - 1) (by omega))⟩) rfl Try.type117 hK.symm (by omega) rfl rfl (Wd_none rfl) ?_
              refine WM_nil ?_
              refine QB_next (fun W hm => (hm).tail) ?_
              refine QB_take 16 (listed' := #[true, true, true, true, true, true, true, true, true, true, true, true, true, true, true, true, true, false]) (by kernel_rfl) rfl (by kernel_rfl) (by kernel_rfl) (by kernel_rfl) (fun _ _ _ h => h) (fun W hm => rv_index (sz := K.s) (k := k - 1) Try.underlying54 Try.type117 hK.symm rfl rfl (by omega)) (Wd_none rfl) rfl (by decide) ?_
              refine QB_one 17 (listed' := #[true, true, true, true, true, true, true, true, true, true, true, true, true, true, true, true, true, true]) (by kernel_rfl) rfl (by kernel_rfl) ?_
              refine WM_setEl (E := tCk K) (e := 117) (u := .agg (gt d k).1.toArray) (k := (k - 1)) (p := g26) (n := n) (xs := (d.set k (gt d (k - 1)))) (eis := []) (js := is) (yv := (gt d k)) (fun W hm => hm) (fun _ _ hs => ⟨hs, rfl, (hR25 k (by omega))⟩) rfl Try.type117 hK.symm (by omega) rfl rfl (Wd_none rfl) ?_
              refine WM_nil ?_
              refine QB_next (fun W hm => (hm).tail) ?_
              refine QB_done (by kernel_rfl) ?_
              exact QM_cut_normal () (subL_cons rfl (subL_cons rfl (subL_cons rfl subL_nil))) (fun W hm => hm) trivial
            exact QBs_nil
          ·
            rintro ⟨⟩ -
            show QM 220 _ _ _ .normal [(0, .slice (some ⟨g26, 0, none⟩) n c), (14, .int .i64 ((i : Nat) : Int)), (17, .int .i64 ((k : Nat) : Int))] (iOwn (tSl (tCk K) 117) [.slice (some ⟨g26, 0, none⟩) n c] ((d.set k (gt d (k - 1))).set (k - 1) (gt d k)) :: is)
            refine QM_block_normal ?_
            refine QM_then ?_
            refine CM_region ?_
            refine wm ?_
            refine wv (fun W hm => rv_subN (p := k) (q := 1) rfl rfl (by omega) (by omega)) ?_
            refine wa ?_
            refine WM_nil ?_
            exact QM_round (k - 1, ((d.set k (gt d (k - 1))).set (k - 1) (gt d k))) (subL_cons rfl (subL_cons rfl (subL_cons rfl subL_nil))) (fun W hm => hm) ⟨(show mvD ((k - 1) - i) (k - 1) ((d.set k (gt d (k - 1))).set (k - 1) (gt d k)) = mvD (m - i) m xs from (mvD_step (by omega)).symm.trans hU), (show (k - 1) ≤ m from by omega)⟩ (show (k - 1) < k from by omega)
        · have g24 : (decide (((i : Nat) : Int) < ((k : Nat) : Int))) = false := decide_eq_false h23
          refine CM_condF rfl g24 ?_
          refine CM_exit ?_
          refine QM_then_exit ?_
          refine QM_then_exit ?_
          refine QM_block_hit ?_
          refine QM_then ?_
          refine CM_ret ?_
          refine QM_then_ret ?_
          have hE : symm (ltc cf) (f + 1) a m b xs = d := (symm_b (by omega) (by omega)).trans (by rw [hA]; exact ((mvD_end (by omega)).symm.trans hU).symm)
          exact QM_ret0r rfl (fun W hm => ⟨rfl, by rw [hE]; exact hm⟩)
    · have g15 : (((b - m : Nat) : Int) == 1) = false := beq_eq_false_iff_ne.2 h14
      refine CM_condF rfl g15 ?_
      refine CM_skip ?_
      refine QM_then ?_
      refine sr ?_
      refine wm ?_
      refine wm ?_
      refine wv (fun W hm => rv_addN (p := a) (q := b) rfl rfl (by omega)) ?_
      refine wv (fun W hm => rv_convIU (p := a + b) Try.underlying3 Try.underlying152 rfl (by omega)) ?_
      refine wv (fun W hm => rv_half rfl) ?_
      refine wv (fun W hm => rv_convUI (p := (a + b) / 2) Try.underlying152 Try.underlying3 rfl (by omega)) ?_
      refine wa ?_
      refine nt' ?_
      refine sr ?_
      refine wm ?_
      refine wm ?_
      refine wv (fun W hm => rv_addN (p := (a + b) / 2) (q := m) rfl rfl (by omega)) ?_
      refine wa ?_
      refine nt' ?_
      refine sr ?_
      refine wa ?_
      refine wa ?_
      refine nt' ?_
      refine CM_seq ?_
      refine sr ?_
      refine wm ?_
      refine wm ?_
      refine wv (fun W hm => rv_gtr rfl rfl) ?_
      refine nt' ?_
      refine CM_cut (σ := Nat × Nat) (fun s => [(0, .slice A n c), (1, .int .i64 ((a : Nat) : Int)), (2, .int .i64 ((m : Nat) : Int)), (3, .int .i64 ((b : Nat) : Int)), (4, .func (.func fc) #[] #[]), (18, .int .i64 (((a + b) / 2 : Nat) : Int)), (19, .int .i64 (((a + b) / 2 + m : Nat) : Int)), (20, .int .i64 ((s.1 : Nat) : Int)), (21, .int .i64 ((s.2 : Nat) : Int))]) (fun _ => (iOwn (tSl (tCk K) 117) [.slice A n c] xs :: is)) (fun s => s.1 = cond (decide ((a + b) / 2 < m)) ((a + b) / 2 + m - b) a ∧ s.2 = cond (decide ((a + b) / 2 < m)) ((a + b) / 2) m ∧ (((a + b) / 2 < m ∧ s.1 = (a + b) / 2 + m - b ∧ s.2 = (a + b) / 2) ∨ (m ≤ (a + b) / 2 ∧ s.1 = a ∧ s.2 = m))) ?_ ?_
      ·
        by_cases h27 : (((a + b) / 2 : Nat) : Int) < ((m : Nat) : Int)
        · have g28 : (decide ((((a + b) / 2 : Nat) : Int) < ((m : Nat) : Int))) = true := decide_eq_true h27
          refine CM_condT rfl g28 ?_
          refine sr ?_
          refine wm ?_
          refine wm ?_
          refine wv (fun W hm => rv_subN (p := (a + b) / 2 + m) (q := b) rfl rfl (by omega) (by omega)) ?_
          refine wa ?_
          refine nt' ?_
          refine CM_region ?_
          refine wm ?_
          refine wa ?_
          refine WM_nil ?_
          exact QM_cut_normal ((a + b) / 2 + m - b, (a + b) / 2) (subL_cons rfl (subL_cons rfl (subL_cons rfl (subL_cons rfl (subL_cons rfl (subL_cons rfl (subL_cons rfl (subL_cons rfl (subL_cons rfl subL_nil))))))))) (fun W hm => hm) ⟨by rw [decide_eq_true (show (a + b) / 2 < m by omega)]; rfl, by rw [decide_eq_true (show (a + b) / 2 < m by omega)]; rfl, .inl ⟨by omega, rfl, rfl⟩⟩
        · have g28 : (decide ((((a + b) / 2 : Nat) : Int) < ((m : Nat) : Int))) = false := decide_eq_false h27
          refine CM_condF rfl g28 ?_
          refine sr ?_
          refine wm ?_
          refine wa ?_
          refine nt' ?_
          refine CM_region ?_
          refine wm ?_
          refine wa ?_
          refine WM_nil ?_
          exact QM_cut_normal (a, m) (subL_cons rfl (subL_cons rfl (subL_cons rfl (subL_cons rfl (subL_cons rfl (subL_cons rfl (subL_cons rfl (subL_cons rfl (subL_cons rfl subL_nil))))))))) (fun W hm => hm) ⟨by rw [decide_eq_false (show ¬ (a + b) / 2 < m by omega)]; rfl, by rw [decide_eq_false (show ¬ (a + b) / 2 < m by omega)]; rfl, .inr ⟨by omega, rfl, rfl⟩⟩
      ·
        rintro ⟨s0, r0⟩ ⟨hs0, hr0, hs⟩
        show QM 220 _ _ _ .normal [(0, .slice A n c), (1, .int .i64 ((a : Nat) : Int)), (2, .int .i64 ((m : Nat) : Int)), (3, .int .i64 ((b : Nat) : Int)), (4, .func (.func fc) #[] #[]), (18, .int .i64 (((a + b) / 2 : Nat) : Int)), (19, .int .i64 (((a + b) / 2 + m : Nat) : Int)), (20, .int .i64 ((s0 : Nat) : Int)), (21, .int .i64 ((r0 : Nat) : Int))] (iOwn (tSl (tCk K) 117) [.slice A n c] xs :: is)
        refine QM_then ?_
        refine sr ?_
        refine wm ?_
        refine wv (fun W hm => rv_subN (p := (a + b) / 2 + m) (q := 1) rfl rfl (by omega) (by omega)) ?_
        refine wa ?_
        refine nt' ?_
        refine CM_seq ?_
        refine CM_block ?_
        refine CM_loop (σ := Nat × Nat × Nat) (fun s => [(0, .slice A n c), (1, .int .i64 ((a : Nat) : Int)), (2, .int .i64 ((m : Nat) : Int)), (3, .int .i64 ((b : Nat) : Int)), (4, .func (.func fc) #[] #[]), (18, .int .i64 (((a + b) / 2 : Nat) : Int)), (19, .int .i64 (((a + b) / 2 + m : Nat) : Int)), (20, .int .i64 ((s.1 : Nat) : Int)), (21, .int .i64 ((s.2.1 : Nat) : Int)), (22, .int .i64 (((a + b) / 2 + m - 1 : Nat) : Int))]) (fun s => (iOwn (tSl (tCk K) 117) [.slice A n c] xs :: is)) (fun s => bsr (fun c => !ltc cf (gt xs ((a + b) / 2 + m - 1 - c)) (gt xs c)) s.2.2 s.1 s.2.1 = bsr (fun c => !ltc cf (gt xs ((a + b) / 2 + m - 1 - c)) (gt xs c)) (r0 - s0) s0 r0 ∧ s.2.1 ≤ s.2.2 + s.1 ∧ s0 ≤ s.1 ∧ s.1 ≤ s.2.1 ∧ s.2.1 ≤ r0) (fun s => s.2.1 - s.1) (s0, r0, r0 - s0) (subL_cons rfl (subL_cons rfl (subL_cons rfl (subL_cons rfl (subL_cons rfl (subL_cons rfl (subL_cons rfl (subL_cons rfl (subL_cons rfl (subL_cons rfl subL_nil)))))))))) (fun W hm => hm) ⟨(show bsr (fun c => !ltc cf (gt xs ((a + b) / 2 + m - 1 - c)) (gt xs c)) (r0 - s0) s0 r0 = bsr (fun c => !ltc cf (gt xs ((a + b) / 2 + m - 1 - c)) (gt xs c)) (r0 - s0) s0 r0 from rfl), (show r0 ≤ (r0 - s0) + s0 from by omega), (show s0 ≤ s0 from by omega), (show s0 ≤ r0 from by omega), (show r0 ≤ r0 from by omega)⟩ ?_
        rintro ⟨i, j, f0⟩ H29
        obtain ⟨hB, hf5, hf6, hf7, hf8⟩ : bsr (fun c => !ltc cf (gt xs ((a + b) / 2 + m - 1 - c)) (gt xs c)) f0 i j = bsr (fun c => !ltc cf (gt xs ((a + b) / 2 + m - 1 - c)) (gt xs c)) (r0 - s0) s0 r0 ∧ j ≤ f0 + i ∧ s0 ≤ i ∧ i ≤ j ∧ j ≤ r0 := H29
        show CM Try.prog 220 _ _ _ _ [(0, .slice A n c), (1, .int .i64 ((a : Nat) : Int)), (2, .int .i64 ((m : Nat) : Int)), (3, .int .i64 ((b : Nat) : Int)), (4, .func (.func fc) #[] #[]), (18, .int .i64 (((a + b) / 2 : Nat) : Int)), (19, .int .i64 (((a + b) / 2 + m : Nat) : Int)), (20, .int .i64 ((i : Nat) : Int)), (21, .int .i64 ((j : Nat) : Int)), (22, .int .i64 (((a + b) / 2 + m - 1 : Nat) : Int))] (iOwn (tSl (tCk K) 117) [.slice A n c] xs :: is)
        refine CM_seq ?_
        refine sr ?_
        refine wm ?_
        refine wm ?_
        refine wv (fun W hm => rv_lss rfl rfl) ?_
        refine nt' ?_
        by_cases h30 : ((i : Nat) : Int) < ((j : Nat) : Int)
        · have g31 : (decide (((i : Nat) : Int) < ((j : Nat) : Int))) = true := decide_eq_true h30
          refine CM_condT rfl g31 ?_
          refine CM_skip ?_
          refine QM_then ?_
          refine CM_block ?_
          refine sr ?_
          refine wm ?_
          refine wm ?_
          refine wv (fun W hm => rv_addN (p := i) (q := j) rfl rfl (by omega)) ?_
          refine wv (fun W hm => rv_convIU (p := i + j) Try.underlying3 Try.underlying152 rfl (by omega)) ?_
          refine wv (fun W hm => rv_half rfl) ?_
          refine wv (fun W hm => rv_convUI (p := (i + j) / 2) Try.underlying152 Try.underlying3 rfl (by omega)) ?_
          refine wa ?_
          refine nt' ?_
          refine CM_seq ?_
          refine CM_formO (n := 0) rfl (by omega) ?_
          rintro g32 rfl
          refine CM_regionD (by kernel_rfl) (by kernel_rfl) ?_
          refine qm ?_
          refine qm ?_
          refine qm ?_
          refine qm ?_
          refine qv (fun W hm => rv_subN (p := (a + b) / 2 + m - 1) (q := (i + j) / 2) rfl rfl (by omega) (by omega)) ?_
          refine qv (fun W hm => rv_index (sz := K.s) (k := (a + b) / 2 + m - 1 - ((i + j) / 2)) Try.underlying54 Try.type117 hK.symm rfl rfl (by omega)) ?_
          refine qv (fun W hm => rv_loadCk Try.underlying117 Try.type117 hK.symm rfl hm (by omega)) ?_
          refine qm ?_
          refine qm ?_
          refine qv (fun W hm => rv_index (sz := K.s) (k := (i + j) / 2) Try.underlying54 Try.type117 hK.symm rfl rfl (by omega)) ?_
          refine qv (fun W hm => rv_loadCk Try.underlying117 Try.type117 hK.symm rfl hm (by omega)) ?_
          refine QR_callV (cl_val (first := []) (caps := []) (vs := [.agg (gt xs ((a + b) / 2 + m - 1 - ((i + j) / 2))).1.toArray, .agg (gt xs ((i + j) / 2)).1.toArray]) (args := [.agg (gt xs ((a + b) / 2 + m - 1 - ((i + j) / 2))).1.toArray, .agg (gt xs ((i + j) / 2)).1.toArray]) H.cb rfl rfl rfl) (fun W hm => H.go W (gt xs ((a + b) / 2 + m - 1 - ((i + j) / 2))) (gt xs ((i + j) / 2)) hm.tail (hm.ck (by omega)).1 (hm.ck (by omega)).1) (Wd_none rfl) (by decide) ?_
          refine qv (fun W hm => rv_lss rfl rfl) ?_
          refine qv (fun W hm => rv_not rfl) ?_
          refine nq' ?_
          by_cases h33 : (cf (gt xs ((a + b) / 2 + m - 1 - ((i + j) / 2))).2 (gt xs ((i + j) / 2)).2) < 0
          · have g34 : (decide ((cf (gt xs ((a + b) / 2 + m - 1 - ((i + j) / 2))).2 (gt xs ((i + j) / 2)).2) < 0)) = true := decide_eq_true h33
            refine CM_condF rfl (nt g34) ?_
            refine CM_region ?_
            refine wm ?_
            refine wa ?_
            refine WM_nil ?_
            refine QM_block_normal ?_
            exact QM_round (i, (i + j) / 2, f0 - 1) (subL_cons rfl (subL_cons rfl (subL_cons rfl (subL_cons rfl (subL_cons rfl (subL_cons rfl (subL_cons rfl (subL_cons rfl (subL_cons rfl (subL_cons rfl subL_nil)))))))))) (fun W hm => hm) ⟨(show bsr (fun c => !ltc cf (gt xs ((a + b) / 2 + m - 1 - c)) (gt xs c)) (f0 - 1) i ((i + j) / 2) = bsr (fun c => !ltc cf (gt xs ((a + b) / 2 + m - 1 - c)) (gt xs c)) (r0 - s0) s0 r0 from (bsr_f (by omega) hf5 (show (!decide (cf (gt xs ((a + b) / 2 + m - 1 - ((i + j) / 2))).2 (gt xs ((i + j) / 2)).2 < 0)) = false from by rw [decide_eq_true (show cf (gt xs ((a + b) / 2 + m - 1 - ((i + j) / 2))).2 (gt xs ((i + j) / 2)).2 < 0 by omega)]; rfl)).symm.trans hB), (show ((i + j) / 2) ≤ (f0 - 1) + i from by omega), (show s0 ≤ i from by omega), (show i ≤ ((i + j) / 2) from by omega), (show ((i + j) / 2) ≤ r0 from by omega)⟩ (show ((i + j) / 2) - i < j - i from by omega)
          · have g34 : (decide ((cf (gt xs ((a + b) / 2 + m - 1 - ((i + j) / 2))).2 (gt xs ((i + j) / 2)).2) < 0)) = false := decide_eq_false h33
            refine CM_condT rfl (nf g34) ?_
            refine CM_region ?_
            refine wm ?_
            refine wv (fun W hm => rv_addN (p := (i + j) / 2) (q := 1) rfl rfl (by omega)) ?_
            refine wa ?_
            refine WM_nil ?_
            refine QM_block_normal ?_
            exact QM_round ((i + j) / 2 + 1, j, f0 - 1) (subL_cons rfl (subL_cons rfl (subL_cons rfl (subL_cons rfl (subL_cons rfl (subL_cons rfl (subL_cons rfl (subL_cons rfl (subL_cons rfl (subL_cons rfl subL_nil)))))))))) (fun W hm => hm) ⟨(show bsr (fun c => !ltc cf (gt xs ((a + b) / 2 + m - 1 - c)) (gt xs c)) (f0 - 1) ((i + j) / 2 + 1) j = bsr (fun c => !ltc cf (gt xs ((a + b) / 2 + m - 1 - c)) (gt xs c)) (r0 - s0) s0 r0 from (bsr_t (by omega) hf5 (show (!decide (cf (gt xs ((a + b) / 2 + m - 1 - ((i + j) / 2))).2 (gt xs ((i + j) / 2)).2 < 0)) = true from by rw [decide_eq_false (show ¬ cf (gt xs ((a + b) / 2 + m - 1 - ((i + j) / 2))).2 (gt xs ((i + j) / 2)).2 < 0 by omega)]; rfl)).symm.trans hB), (show j ≤ (f0 - 1) + ((i + j) / 2 + 1) from by omega), (show s0 ≤ ((i + j) / 2 + 1) from by omega), (show ((i + j) / 2 + 1) ≤ j from by omega), (show j ≤ r0 from by omega)⟩ (show j - ((i + j) / 2 + 1) < j - i from by omega)
        · have g31 : (decide (((i : Nat) : Int) < ((j : Nat) : Int))) = false := decide_eq_false h30
          refine CM_condF rfl g31 ?_
          refine CM_exit ?_
          refine QM_then_exit ?_
          refine QM_then_exit ?_
          have hA : bsr (fun c => !ltc cf (gt xs ((a + b) / 2 + m - 1 - c)) (gt xs c)) (r0 - s0) s0 r0 = i := hB.symm.trans (bsr_e (by omega))
          refine QM_block_hit ?_
          refine QM_then ?_
          refine sr ?_
          refine wm ?_
          refine wm ?_
          refine wv (fun W hm => rv_subN (p := (a + b) / 2 + m) (q := i) rfl rfl (by omega) (by omega)) ?_
          refine wa ?_
          refine nt' ?_
          refine CM_seq ?_
          refine sr ?_
          refine wm ?_
          refine wm ?_
          refine wv (fun W hm => rv_lss rfl rfl) ?_
          refine wm ?_
          by_cases h35 : ((i : Nat) : Int) < ((m : Nat) : Int)
          · have g36 : (decide (((i : Nat) : Int) < ((m : Nat) : Int))) = true := decide_eq_true h35
            refine wg (fun W hm => rv_move rfl) g36 ?_
            refine wg (fun W hm => rv_move rfl) g36 ?_
            refine wg (fun W hm => rv_lss rfl rfl) g36 ?_
            refine wv (fun W hm => rv_pickT rfl g36 rfl) ?_
            refine nt' ?_
            by_cases h37 : ((m : Nat) : Int) < (((a + b) / 2 + m - i : Nat) : Int)
            · have g38 : (decide (((m : Nat) : Int) < (((a + b) / 2 + m - i : Nat) : Int))) = true := decide_eq_true h37
              refine CM_condT rfl g38 ?_
              refine CM_region ?_
              refine wm ?_
              refine wm ?_
              refine wm ?_
              refine wm ?_
              refine wm ?_
              refine WM_callW (χ := Unit) (val := fun _ => .tuple #[]) (js := fun _ => (iOwn (tSl (tCk K) 117) [.slice A n c] (rot ((a + b) / 2 + m - i - i) m (m - i) ((a + b) / 2 + m - i - m) xs) :: is)) (cl_fn cb137 rfl) (fun W hm => (srt88_rot_c K hK cf fc B w0 is H A n c hn i m ((a + b) / 2 + m - i) xs (by omega) (by omega) (by omega) W hm).mono (fun _ _ h => ⟨(), h.1, h.2⟩)) (Wd_none rfl) (by decide) (fun _ => ?_)
              refine nt' ?_
              refine CM_seq ?_
              refine sr ?_
              refine wm ?_
              refine wm ?_
              refine wv (fun W hm => rv_lss rfl rfl) ?_
              refine wm ?_
              by_cases h39 : ((a : Nat) : Int) < ((i : Nat) : Int)
              · have g40 : (decide (((a : Nat) : Int) < ((i : Nat) : Int))) = true := decide_eq_true h39
                refine wg (fun W hm => rv_move rfl) g40 ?_
                refine wg (fun W hm => rv_move rfl) g40 ?_
                refine wg (fun W hm => rv_lss rfl rfl) g40 ?_
                refine wv (fun W hm => rv_pickT rfl g40 rfl) ?_
                refine nt' ?_
                have g41 : (decide (((i : Nat) : Int) < (((a + b) / 2 : Nat) : Int))) = true := decide_eq_true (by omega)
                refine CM_condT rfl g41 ?_
                refine CM_region ?_
                refine wm ?_
                refine wm ?_
                refine wm ?_
                refine wm ?_
                refine wm ?_
                refine WM_callW (χ := Unit) (val := fun _ => .tuple #[]) (js := fun _ => (iOwn (tSl (tCk K) 117) [.slice A n c] (symm (ltc cf) f a i ((a + b) / 2) (rot ((a + b) / 2 + m - i - i) m (m - i) ((a + b) / 2 + m - i - m) xs)) :: is)) (cl_fn cb133 rfl) (fun W hm => (ih a i ((a + b) / 2) (rot ((a + b) / 2 + m - i - i) m (m - i) ((a + b) / 2 + m - i - m) xs) (by omega) (by omega) (by omega) (by omega) W hm).mono (fun _ _ h => ⟨(), h.1, h.2⟩)) (Wd_none rfl) (by decide) (fun _ => ?_)
                refine nt' ?_
                refine sr ?_
                refine wm ?_
                refine wm ?_
                refine wv (fun W hm => rv_lss rfl rfl) ?_
                refine wm ?_
                have g42 : (decide ((((a + b) / 2 : Nat) : Int) < (((a + b) / 2 + m - i : Nat) : Int))) = true := decide_eq_true (by omega)
                refine wg (fun W hm => rv_move rfl) g42 ?_
                refine wg (fun W hm => rv_move rfl) g42 ?_
                refine wg (fun W hm => rv_lss rfl rfl) g42 ?_
                refine wv (fun W hm => rv_pickT rfl g42 rfl) ?_
                refine nt' ?_
                by_cases h43 : (((a + b) / 2 + m - i : Nat) : Int) < ((b : Nat) : Int)
                · have g44 : (decide ((((a + b) / 2 + m - i : Nat) : Int) < ((b : Nat) : Int))) = true := decide_eq_true h43
                  refine CM_condT rfl g44 ?_
                  refine CM_region ?_
                  refine wm ?_
                  refine wm ?_
                  refine wm ?_
                  refine wm ?_
                  refine wm ?_
                  refine WM_callW (χ := Unit) (val := fun _ => .tuple #[]) (js := fun _ => (iOwn (tSl (tCk K) 117) [.slice A n c] (symm (ltc cf) f ((a + b) / 2) ((a + b) / 2 + m - i) b (symm (ltc cf) f a i ((a + b) / 2) (rot ((a + b) / 2 + m - i - i) m (m - i) ((a + b) / 2 + m - i - m) xs))) :: is)) (cl_fn cb133 rfl) (fun W hm => (ih ((a + b) / 2) ((a + b) / 2 + m - i) b (symm (ltc cf) f a i ((a + b) / 2) (rot ((a + b) / 2 + m - i - i) m (m - i) ((a + b) / 2 + m - i - m) xs)) (by omega) (by omega) (by omega) (by omega) W hm).mono (fun _ _ h => ⟨(), h.1, h.2⟩)) (Wd_none rfl) (by decide) (fun _ => ?_)
                  refine WM_nil ?_
                  have hE : symm (ltc cf) (f + 1) a m b xs = (symm (ltc cf) f ((a + b) / 2) ((a + b) / 2 + m - i) b (symm (ltc cf) f a i ((a + b) / 2) (rot ((a + b) / 2 + m - i - i) m (m - i) ((a + b) / 2 + m - i - m) xs))) := symm_c (x1 := (rot ((a + b) / 2 + m - i - i) m (m - i) ((a + b) / 2 + m - i - m) xs)) (x2 := (symm (ltc cf) f a i ((a + b) / 2) (rot ((a + b) / 2 + m - i - i) m (m - i) ((a + b) / 2 + m - i - m) xs))) (x3 := (symm (ltc cf) f ((a + b) / 2) ((a + b) / 2 + m - i) b (symm (ltc cf) f a i ((a + b) / 2) (rot ((a + b) / 2 + m - i - i) m (m - i) ((a + b) / 2 + m - i - m) xs)))) (mid := (a + b) / 2) (n := (a + b) / 2 + m) (s0 := s0) (r0 := r0) (st := i) (en := (a + b) / 2 + m - i) (by omega) (by omega) rfl rfl hs0 hr0 hA.symm rfl ((cond_and_t (by omega) (by omega)).symm) ((cond_and_t (by omega) (by omega)).symm) ((cond_and_t (by omega) (by omega)).symm)
                  exact QM_ret0 rfl (fun W hm => ⟨rfl, by rw [hE]; exact hm⟩)
                · have g44 : (decide ((((a + b) / 2 + m - i : Nat) : Int) < ((b : Nat) : Int))) = false := decide_eq_false h43
                  refine CM_condF rfl g44 ?_
                  refine CM_skip ?_
                  have hE : symm (ltc cf) (f + 1) a m b xs = (symm (ltc cf) f a i ((a + b) / 2) (rot ((a + b) / 2 + m - i - i) m (m - i) ((a + b) / 2 + m - i - m) xs)) := symm_c (x1 := (rot ((a + b) / 2 + m - i - i) m (m - i) ((a + b) / 2 + m - i - m) xs)) (x2 := (symm (ltc cf) f a i ((a + b) / 2) (rot ((a + b) / 2 + m - i - i) m (m - i) ((a + b) / 2 + m - i - m) xs))) (x3 := (symm (ltc cf) f a i ((a + b) / 2) (rot ((a + b) / 2 + m - i - i) m (m - i) ((a + b) / 2 + m - i - m) xs))) (mid := (a + b) / 2) (n := (a + b) / 2 + m) (s0 := s0) (r0 := r0) (st := i) (en := (a + b) / 2 + m - i) (by omega) (by omega) rfl rfl hs0 hr0 hA.symm rfl ((cond_and_t (by omega) (by omega)).symm) ((cond_and_t (by omega) (by omega)).symm) ((cond_and_f (by omega)).symm)
                  exact QM_ret0 rfl (fun W hm => ⟨rfl, by rw [hE]; exact hm⟩)
              · have g40 : (decide (((a : Nat) : Int) < ((i : Nat) : Int))) = false := decide_eq_false h39
                refine ws g40 ?_
                refine ws g40 ?_
                refine ws g40 ?_
                refine wv (fun W hm => rv_pickF rfl g40 rfl) ?_
                refine nt' ?_
                refine CM_condF rfl rfl ?_
                refine CM_skip ?_
                refine QM_then ?_
                refine sr ?_
                refine wm ?_
                refine wm ?_
                refine wv (fun W hm => rv_lss rfl rfl) ?_
                refine wm ?_
                have g45 : (decide ((((a + b) / 2 : Nat) : Int) < (((a + b) / 2 + m - i : Nat) : Int))) = true := decide_eq_true (by omega)
                refine wg (fun W hm => rv_move rfl) g45 ?_
                refine wg (fun W hm => rv_move rfl) g45 ?_
                refine wg (fun W hm => rv_lss rfl rfl) g45 ?_
                refine wv (fun W hm => rv_pickT rfl g45 rfl) ?_
                refine nt' ?_
                by_cases h46 : (((a + b) / 2 + m - i : Nat) : Int) < ((b : Nat) : Int)
                · have g47 : (decide ((((a + b) / 2 + m - i : Nat) : Int) < ((b : Nat) : Int))) = true := decide_eq_true h46
                  refine CM_condT rfl g47 ?_
                  refine CM_region ?_
                  refine wm ?_
                  refine wm ?_
                  refine wm ?_
                  refine wm ?_
                  refine wm ?_
                  refine WM_callW (χ := Unit) (val := fun _ => .tuple #[]) (js := fun _ => (iOwn (tSl (tCk K) 117) [.slice A n c] (symm (ltc cf) f ((a + b) / 2) ((a + b) / 2 + m - i) b (rot ((a + b) / 2 + m - i - i) m (m - i) ((a + b) / 2 + m - i - m) xs)) :: is)) (cl_fn cb133 rfl) (fun W hm => (ih ((a + b) / 2) ((a + b) / 2 + m - i) b (rot ((a + b) / 2 + m - i - i) m (m - i) ((a + b) / 2 + m - i - m) xs) (by omega) (by omega) (by omega) (by omega) W hm).mono (fun _ _ h => ⟨(), h.1, h.2⟩)) (Wd_none rfl) (by decide) (fun _ => ?_)
                  refine WM_nil ?_
                  have hE : symm (ltc cf) (f + 1) a m b xs = (symm (ltc cf) f ((a + b) / 2) ((a + b) / 2 + m - i) b (rot ((a + b) / 2 + m - i - i) m (m - i) ((a + b) / 2 + m - i - m) xs)) := symm_c (x1 := (rot ((a + b) / 2 + m - i - i) m (m - i) ((a + b) / 2 + m - i - m) xs)) (x2 := (rot ((a + b) / 2 + m - i - i) m (m - i) ((a + b) / 2 + m - i - m) xs)) (x3 := (symm (ltc cf) f ((a + b) / 2) ((a + b) / 2 + m - i) b (rot ((a + b) / 2 + m - i - i) m (m - i) ((a + b) / 2 + m - i - m) xs))) (mid := (a + b) / 2) (n := (a + b) / 2 + m) (s0 := s0) (r0 := r0) (st := i) (en := (a + b) / 2 + m - i) (by omega) (by omega) rfl rfl hs0 hr0 hA.symm rfl ((cond_and_t (by omega) (by omega)).symm) ((cond_and_f (by omega)).symm) ((cond_and_t (by omega) (by omega)).symm)
                  exact QM_ret0 rfl (fun W hm => ⟨rfl, by rw [hE]; exact hm⟩)
                · have g47 : (decide ((((a + b) / 2 + m - i : Nat) : Int) < ((b : Nat) : Int))) = false := decide_eq_false h46
                  refine CM_condF rfl g47 ?_
                  refine CM_skip ?_
                  have hE : symm (ltc cf) (f + 1) a m b xs = (rot ((a + b) / 2 + m - i - i) m (m - i) ((a + b) / 2 + m - i - m) xs) := symm_c (x1 := (rot ((a + b) / 2 + m - i - i) m (m - i) ((a + b) / 2 + m - i - m) xs)) (x2 := (rot ((a + b) / 2 + m - i - i) m (m - i) ((a + b) / 2 + m - i - m) xs)) (x3 := (rot ((a + b) / 2 + m - i - i) m (m - i) ((a + b) / 2 + m - i - m) xs)) (mid := (a + b) / 2) (n := (a + b) / 2 + m) (s0 := s0) (r0 := r0) (st := i) (en := (a + b) / 2 + m - i) (by omega) (by omega) rfl rfl hs0 hr0 hA.symm rfl ((cond_and_t (by omega) (by omega)).symm) ((cond_and_f (by omega)).symm) ((cond_and_f (by omega)).symm)
                  exact QM_ret0 rfl (fun W hm => ⟨rfl, by rw [hE]; exact hm⟩)
            · have g38 : (decide (((m : Nat) : Int) < (((a + b) / 2 + m - i : Nat) : Int))) = false := decide_eq_false h37
              refine CM_condF rfl g38 ?_
              refine CM_skip ?_
              refine QM_then ?_
              refine CM_seq ?_
              refine sr ?_
              refine wm ?_
              refine wm ?_
              refine wv (fun W hm => rv_lss rfl rfl) ?_
              refine wm ?_
              by_cases h48 : ((a : Nat) : Int) < ((i : Nat) : Int)
              · have g49 : (decide (((a : Nat) : Int) < ((i : Nat) : Int))) = true := decide_eq_true h48
                refine wg (fun W hm => rv_move rfl) g49 ?_
                refine wg (fun W hm => rv_move rfl) g49 ?_
                refine wg (fun W hm => rv_lss rfl rfl) g49 ?_
                refine wv (fun W hm => rv_pickT rfl g49 rfl) ?_
                refine nt' ?_
                have g50 : (decide (((i : Nat) : Int) < (((a + b) / 2 : Nat) : Int))) = false := decide_eq_false (by omega)
                refine CM_condF rfl g50 ?_
                refine CM_skip ?_
                refine QM_then ?_
                refine sr ?_
                refine wm ?_
                refine wm ?_
                refine wv (fun W hm => rv_lss rfl rfl) ?_
                refine wm ?_
                have g51 : (decide ((((a + b) / 2 : Nat) : Int) < (((a + b) / 2 + m - i : Nat) : Int))) = true := decide_eq_true (by omega)
                refine wg (fun W hm => rv_move rfl) g51 ?_
                refine wg (fun W hm => rv_move rfl) g51 ?_
                refine wg (fun W hm => rv_lss rfl rfl) g51 ?_
                refine wv (fun W hm => rv_pickT rfl g51 rfl) ?_
                refine nt' ?_
                by_cases h52 : (((a + b) / 2 + m - i : Nat) : Int) < ((b : Nat) : Int)
                · have g53 : (decide ((((a + b) / 2 + m - i : Nat) : Int) < ((b : Nat) : Int))) = true := decide_eq_true h52
                  refine CM_condT rfl g53 ?_
                  refine CM_region ?_
                  refine wm ?_
                  refine wm ?_
                  refine wm ?_
                  refine wm ?_
                  refine wm ?_
                  refine WM_callW (χ := Unit) (val := fun _ => .tuple #[]) (js := fun _ => (iOwn (tSl (tCk K) 117) [.slice A n c] (symm (ltc cf) f ((a + b) / 2) ((a + b) / 2 + m - i) b xs) :: is)) (cl_fn cb133 rfl) (fun W hm => (ih ((a + b) / 2) ((a + b) / 2 + m - i) b xs (by omega) (by omega) (by omega) (by omega) W hm).mono (fun _ _ h => ⟨(), h.1, h.2⟩)) (Wd_none rfl) (by decide) (fun _ => ?_)
                  refine WM_nil ?_
                  have hE : symm (ltc cf) (f + 1) a m b xs = (symm (ltc cf) f ((a + b) / 2) ((a + b) / 2 + m - i) b xs) := symm_c (x1 := xs) (x2 := xs) (x3 := (symm (ltc cf) f ((a + b) / 2) ((a + b) / 2 + m - i) b xs)) (mid := (a + b) / 2) (n := (a + b) / 2 + m) (s0 := s0) (r0 := r0) (st := i) (en := (a + b) / 2 + m - i) (by omega) (by omega) rfl rfl hs0 hr0 hA.symm rfl ((cond_and_f (by omega)).symm) ((cond_and_f (by omega)).symm) ((cond_and_t (by omega) (by omega)).symm)
                  exact QM_ret0 rfl (fun W hm => ⟨rfl, by rw [hE]; exact hm⟩)
                · have g53 : (decide ((((a + b) / 2 + m - i : Nat) : Int) < ((b : Nat) : Int))) = false := decide_eq_false h52
                  refine CM_condF rfl g53 ?_
                  refine CM_skip ?_
                  have hE : symm (ltc cf) (f + 1) a m b xs = xs := symm_c (x1 := xs) (x2 := xs) (x3 := xs) (mid := (a + b) / 2) (n := (a + b) / 2 + m) (s0 := s0) (r0 := r0) (st := i) (en := (a + b) / 2 + m - i) (by omega) (by omega) rfl rfl hs0 hr0 hA.symm rfl ((cond_and_f (by omega)).symm) ((cond_and_f (by omega)).symm) ((cond_and_f (by omega)).symm)
                  exact QM_ret0 rfl (fun W hm => ⟨rfl, by rw [hE]; exact hm⟩)
              · have g49 : (decide (((a : Nat) : Int) < ((i : Nat) : Int))) = false := decide_eq_false h48
                refine ws g49 ?_
                refine ws g49 ?_
                refine ws g49 ?_
                refine wv (fun W hm => rv_pickF rfl g49 rfl) ?_
                refine nt' ?_
                refine CM_condF rfl rfl ?_
                refine CM_skip ?_
                refine QM_then ?_
                refine sr ?_
                refine wm ?_
                refine wm ?_
                refine wv (fun W hm => rv_lss rfl rfl) ?_
                refine wm ?_
                have g54 : (decide ((((a + b) / 2 : Nat) : Int) < (((a + b) / 2 + m - i : Nat) : Int))) = true := decide_eq_true (by omega)
                refine wg (fun W hm => rv_move rfl) g54 ?_
                refine wg (fun W hm => rv_move rfl) g54 ?_
                refine wg (fun W hm => rv_lss rfl rfl) g54 ?_
                refine wv (fun W hm => rv_pickT rfl g54 rfl) ?_
                refine nt' ?_
                by_cases h55 : (((a + b) / 2 + m - i : Nat) : Int) < ((b : Nat) : Int)
                · have g56 : (decide ((((a + b) / 2 + m - i : Nat) : Int) < ((b : Nat) : Int))) = true := decide_eq_true h55
                  refine CM_condT rfl g56 ?_
                  refine CM_region ?_
                  refine wm ?_
                  refine wm ?_
                  refine wm ?_
                  refine wm ?_
                  refine wm ?_
                  refine WM_callW (χ := Unit) (val := fun _ => .tuple #[]) (js := fun _ => (iOwn (tSl (tCk K) 117) [.slice A n c] (symm (ltc cf) f ((a + b) / 2) ((a + b) / 2 + m - i) b xs) :: is)) (cl_fn cb133 rfl) (fun W hm => (ih ((a + b) / 2) ((a + b) / 2 + m - i) b xs (by omega) (by omega) (by omega) (by omega) W hm).mono (fun _ _ h => ⟨(), h.1, h.2⟩)) (Wd_none rfl) (by decide) (fun _ => ?_)
                  refine WM_nil ?_
                  have hE : symm (ltc cf) (f + 1) a m b xs = (symm (ltc cf) f ((a + b) / 2) ((a + b) / 2 + m - i) b xs) := symm_c (x1 := xs) (x2 := xs) (x3 := (symm (ltc cf) f ((a + b) / 2) ((a + b) / 2 + m - i) b xs)) (mid := (a + b) / 2) (n := (a + b) / 2 + m) (s0 := s0) (r0 := r0) (st := i) (en := (a + b) / 2 + m - i) (by omega) (by omega) rfl rfl hs0 hr0 hA.symm rfl ((cond_and_f (by omega)).symm) ((cond_and_f (by omega)).symm) ((cond_and_t (by omega) (by omega)).symm)
                  exact QM_ret0 rfl (fun W hm => ⟨rfl, by rw [hE]; exact hm⟩)
                · have g56 : (decide ((((a + b) / 2 + m - i : Nat) : Int) < ((b : Nat) : Int))) = false := decide_eq_false h55
                  refine CM_condF rfl g56 ?_
                  refine CM_skip ?_
                  have hE : symm (ltc cf) (f + 1) a m b xs = xs := symm_c (x1 := xs) (x2 := xs) (x3 := xs) (mid := (a + b) / 2) (n := (a + b) / 2 + m) (s0 := s0) (r0 := r0) (st := i) (en := (a + b) / 2 + m - i) (by omega) (by omega) rfl rfl hs0 hr0 hA.symm rfl ((cond_and_f (by omega)).symm) ((cond_and_f (by omega)).symm) ((cond_and_f (by omega)).symm)
                  exact QM_ret0 rfl (fun W hm => ⟨rfl, by rw [hE]; exact hm⟩)
          · have g36 : (decide (((i : Nat) : Int) < ((m : Nat) : Int))) = false := decide_eq_false h35
            refine ws g36 ?_
            refine ws g36 ?_
            refine ws g36 ?_
            refine wv (fun W hm => rv_pickF rfl g36 rfl) ?_
            refine nt' ?_
            refine CM_condF rfl rfl ?_
            refine CM_skip ?_
            refine QM_then ?_
            refine CM_seq ?_
            refine sr ?_
            refine wm ?_
            refine wm ?_
            refine wv (fun W hm => rv_lss rfl rfl) ?_
            refine wm ?_
            by_cases h57 : ((a : Nat) : Int) < ((i : Nat) : Int)
            · have g58 : (decide (((a : Nat) : Int) < ((i : Nat) : Int))) = true := decide_eq_true h57
              refine wg (fun W hm => rv_move rfl) g58 ?_
              refine wg (fun W hm => rv_move rfl) g58 ?_
              refine wg (fun W hm => rv_lss rfl rfl) g58 ?_
              refine wv (fun W hm => rv_pickT rfl g58 rfl) ?_
              refine nt' ?_
              by_cases h59 : ((i : Nat) : Int) < (((a + b) / 2 : Nat) : Int)
              · have g60 : (decide (((i : Nat) : Int) < (((a + b) / 2 : Nat) : Int))) = true := decide_eq_true h59
                refine CM_condT rfl g60 ?_
                refine CM_region ?_
                refine wm ?_
                refine wm ?_
                refine wm ?_
                refine wm ?_
                refine wm ?_
                refine WM_callW (χ := Unit) (val := fun _ => .tuple #[]) (js := fun _ => (iOwn (tSl (tCk K) 117) [.slice A n c] (symm (ltc cf) f a i ((a + b) / 2) xs) :: is)) (cl_fn cb133 rfl) (fun W hm => (ih a i ((a + b) / 2) xs (by omega) (by omega) (by omega) (by omega) W hm).mono (fun _ _ h => ⟨(), h.1, h.2⟩)) (Wd_none rfl) (by decide) (fun _ => ?_)
                refine nt' ?_
                refine sr ?_
                refine wm ?_
                refine wm ?_
                refine wv (fun W hm => rv_lss rfl rfl) ?_
                refine wm ?_
                have g61 : (decide ((((a + b) / 2 : Nat) : Int) < (((a + b) / 2 + m - i : Nat) : Int))) = false := decide_eq_false (by omega)
                refine ws g61 ?_
                refine ws g61 ?_
                refine ws g61 ?_
                refine wv (fun W hm => rv_pickF rfl g61 rfl) ?_
                refine nt' ?_
                refine CM_condF rfl rfl ?_
                refine CM_skip ?_
                have hE : symm (ltc cf) (f + 1) a m b xs = (symm (ltc cf) f a i ((a + b) / 2) xs) := symm_c (x1 := xs) (x2 := (symm (ltc cf) f a i ((a + b) / 2) xs)) (x3 := (symm (ltc cf) f a i ((a + b) / 2) xs)) (mid := (a + b) / 2) (n := (a + b) / 2 + m) (s0 := s0) (r0 := r0) (st := i) (en := (a + b) / 2 + m - i) (by omega) (by omega) rfl rfl hs0 hr0 hA.symm rfl ((cond_and_f (by omega)).symm) ((cond_and_t (by omega) (by omega)).symm) ((cond_and_f (by omega)).symm)
                exact QM_ret0 rfl (fun W hm => ⟨rfl, by rw [hE]; exact hm⟩)
              · have g60 : (decide (((i : Nat) : Int) < (((a + b) / 2 : Nat) : Int))) = false := decide_eq_false h59
                refine CM_condF rfl g60 ?_
                refine CM_skip ?_
                refine QM_then ?_
                refine sr ?_
                refine wm ?_
                refine wm ?_
                refine wv (fun W hm => rv_lss rfl rfl) ?_
                refine wm ?_
                have g62 : (decide ((((a + b) / 2 : Nat) : Int) < (((a + b) / 2 + m - i : Nat) : Int))) = false := decide_eq_false (by omega)
                refine ws g62 ?_
                refine ws g62 ?_
                refine ws g62 ?_
                refine wv (fun W hm => rv_pickF rfl g62 rfl) ?_
                refine nt' ?_
                refine CM_condF rfl rfl ?_
                refine CM_skip ?_
                have hE : symm (ltc cf) (f + 1) a m b xs = xs := symm_c (x1 := xs) (x2 := xs) (x3 := xs) (mid := (a + b) / 2) (n := (a + b) / 2 + m) (s0 := s0) (r0 := r0) (st := i) (en := (a + b) / 2 + m - i) (by omega) (by omega) rfl rfl hs0 hr0 hA.symm rfl ((cond_and_f (by omega)).symm) ((cond_and_f (by omega)).symm) ((cond_and_f (by omega)).symm)
                exact QM_ret0 rfl (fun W hm => ⟨rfl, by rw [hE]; exact hm⟩)
            · have g58 : (decide (((a : Nat) : Int) < ((i : Nat) : Int))) = false := decide_eq_false h57
              refine ws g58 ?_
              refine ws g58 ?_
              refine ws g58 ?_
              refine wv (fun W hm => rv_pickF rfl g58 rfl) ?_
              refine nt' ?_
              refine CM_condF rfl rfl ?_
              refine CM_skip ?_
              refine QM_then ?_
              refine sr ?_
              refine wm ?_
              refine wm ?_
              refine wv (fun W hm => rv_lss rfl rfl) ?_
              refine wm ?_
              have g63 : (decide ((((a + b) / 2 : Nat) : Int) < (((a + b) / 2 + m - i : Nat) : Int))) = false := decide_eq_false (by omega)
              refine ws g63 ?_
              refine ws g63 ?_
              refine ws g63 ?_
              refine wv (fun W hm => rv_pickF rfl g63 rfl) ?_
              refine nt' ?_
              refine CM_condF rfl rfl ?_
              refine CM_skip ?_
              have hE : symm (ltc cf) (f + 1) a m b xs = xs := symm_c (x1 := xs) (x2 := xs) (x3 := xs) (mid := (a + b) / 2) (n := (a + b) / 2 + m) (s0 := s0) (r0 := r0) (st := i) (en := (a + b) / 2 + m - i) (by omega) (by omega) rfl rfl hs0 hr0 hA.symm rfl ((cond_and_f (by omega)).symm) ((cond_and_f (by omega)).symm) ((cond_and_f (by omega)).symm)
              exact QM_ret0 rfl (fun W hm => ⟨rfl, by rw [hE]; exact hm⟩)

set_option maxRecDepth 100000 in
theorem cb121 : Cb Try.prog 121 := ⟨Try.f121, _, Try.func121, rfl, by decide⟩
set_option maxRecDepth 10000 in
set_option maxHeartbeats 4000000 in
theorem srt88_stable_c {α : Type} [Inhabited α] (K : Ck α) (hK : K.s = 4) (cf : α → α → Int) (fc : FuncId) (B : Nat) (w0 : World) (is : List It) (H : CmpOk Try.prog fc K B w0 is cf) (A : Option Addr) (n c : Nat) (hn : n ≤ 68719476736) (xs : List (List Value × α)) (w : World) (hm : Mem B w0 (iOwn (tSl (tCk K) 117) [.slice A n c] xs :: is) w) :
    Calls Try.prog 121 #[.slice A n c, .int .i64 ((n : Nat) : Int), .func (.func fc) #[] #[]] w fun e w' => e = .returned (.tuple #[]) ∧ Mem B w0 (iOwn (tSl (tCk K) 117) [.slice A n c] (mlev (ltc cf) n (n + 1) 20 (blk (ltc cf) n (n + 1) 0 xs)) :: is) w' := by
  refine call_enterW (L := [(0, .slice A n c), (1, .int .i64 ((n : Nat) : Int)), (2, .func (.func fc) #[] #[])]) (N := 63) Try.func121 rfl rfl (Nat.le_of_ble_eq_true rfl) (argsL_cons rfl (argsL_cons rfl (argsL_cons rfl argsL_nil))) hm ?_
  refine sr ?_
  refine wa ?_
  refine nt' ?_
  refine sr ?_
  refine wm ?_
  refine wa ?_
  refine wa ?_
  refine nt' ?_
  refine CM_seq ?_
  refine CM_block ?_
  refine CM_loop (σ := Nat × Nat × Nat × List (List Value × α)) (fun s => [(0, .slice A n c), (1, .int .i64 ((n : Nat) : Int)), (2, .func (.func fc) #[] #[]), (6, .int .i64 20), (7, .int .i64 ((s.1 : Nat) : Int)), (8, .int .i64 ((s.2.1 : Nat) : Int))]) (fun s => (iOwn (tSl (tCk K) 117) [.slice A n c] s.2.2.2 :: is)) (fun s => s.2.1 = s.1 + 20 ∧ n ≤ s.2.2.1 + s.1 ∧ s.1 ≤ n ∧ blk (ltc cf) n s.2.2.1 s.1 s.2.2.2 = blk (ltc cf) n (n + 1) 0 xs) (fun s => n - s.1) (0, 20, n + 1, xs) (subL_cons rfl (subL_cons rfl (subL_cons rfl (subL_cons rfl (subL_cons rfl (subL_cons rfl subL_nil)))))) (fun W hm => hm) ⟨(show 20 = 0 + 20 from by omega), (show n ≤ (n + 1) + 0 from by omega), (show 0 ≤ n from by omega), (show blk (ltc cf) n (n + 1) 0 xs = blk (ltc cf) n (n + 1) 0 xs from rfl)⟩ ?_
  rintro ⟨p, q, f, d⟩ H1
  obtain ⟨hq, hf5, hf6, hF⟩ : q = p + 20 ∧ n ≤ f + p ∧ p ≤ n ∧ blk (ltc cf) n f p d = blk (ltc cf) n (n + 1) 0 xs := H1
  show CM Try.prog 63 _ _ _ _ [(0, .slice A n c), (1, .int .i64 ((n : Nat) : Int)), (2, .func (.func fc) #[] #[]), (6, .int .i64 20), (7, .int .i64 ((p : Nat) : Int)), (8, .int .i64 ((q : Nat) : Int))] (iOwn (tSl (tCk K) 117) [.slice A n c] d :: is)
  subst hq
  refine CM_seq ?_
  refine sr ?_
  refine wm ?_
  refine wm ?_
  refine wv (fun W hm => rv_leq rfl rfl) ?_
  refine nt' ?_
  by_cases h2 : ((p + 20 : Nat) : Int) ≤ ((n : Nat) : Int)
  · have g3 : (decide (((p + 20 : Nat) : Int) ≤ ((n : Nat) : Int))) = true := decide_eq_true h2
    refine CM_condT rfl g3 ?_
    refine CM_skip ?_
    refine QM_then ?_
    refine CM_block ?_
    refine sr ?_
    refine wm ?_
    refine wm ?_
    refine wm ?_
    refine wm ?_
    refine WM_callW (χ := Unit) (val := fun _ => .tuple #[]) (js := fun _ => (iOwn (tSl (tCk K) 117) [.slice A n c] (insL (ltc cf) p (p + 20 - p - 1) (p + 1) d) :: is)) (cl_fn cb132 rfl) (fun W hm => (srt88_ins_c K hK cf fc B w0 is H A n c hn p (p + 20) d (by omega) (by omega) W hm).mono (fun _ _ h => ⟨(), h.1, h.2⟩)) (Wd_none rfl) (by decide) (fun _ => ?_)
    refine nt' ?_
    refine sr ?_
    refine wm ?_
    refine wa ?_
    refine nt' ?_
    refine CM_region ?_
    refine wm ?_
    refine wm ?_
    refine wv (fun W hm => rv_addN (p := p + 20) (q := 20) rfl rfl (by omega)) ?_
    refine wa ?_
    refine WM_nil ?_
    refine QM_block_normal ?_
    exact QM_round (p + 20, p + 20 + 20, f - 1, (insL (ltc cf) p (p + 20 - p - 1) (p + 1) d)) (subL_cons rfl (subL_cons rfl (subL_cons rfl (subL_cons rfl (subL_cons rfl (subL_cons rfl subL_nil)))))) (fun W hm => hm) ⟨(show (p + 20 + 20) = (p + 20) + 20 from by omega), (show n ≤ (f - 1) + (p + 20) from by omega), (show (p + 20) ≤ n from by omega), (show blk (ltc cf) n (f - 1) (p + 20) (insL (ltc cf) p (p + 20 - p - 1) (p + 1) d) = blk (ltc cf) n (n + 1) 0 xs from (blk_step (by omega) (by omega)).symm.trans hF)⟩ (show n - (p + 20) < n - p from by omega)
  · have g3 : (decide (((p + 20 : Nat) : Int) ≤ ((n : Nat) : Int))) = false := decide_eq_false h2
    refine CM_condF rfl g3 ?_
    refine CM_exit ?_
    refine QM_then_exit ?_
    refine QM_then_exit ?_
    have hY := (blk_end (lt := ltc cf) (f := f) (xs := d) (show ¬ p + 20 ≤ n by omega)).symm.trans hF
    refine QM_block_hit ?_
    refine QM_then ?_
    refine sr ?_
    refine wm ?_
    refine wm ?_
    refine wm ?_
    refine wm ?_
    refine WM_callW (χ := Unit) (val := fun _ => .tuple #[]) (js := fun _ => (iOwn (tSl (tCk K) 117) [.slice A n c] (insL (ltc cf) p (n - p - 1) (p + 1) d) :: is)) (cl_fn cb132 rfl) (fun W hm => (srt88_ins_c K hK cf fc B w0 is H A n c hn p n d (by omega) (by omega) W hm).mono (fun _ _ h => ⟨(), h.1, h.2⟩)) (Wd_none rfl) (by decide) (fun _ => ?_)
    refine nt' ?_
    refine CM_block ?_
    refine CM_loop (σ := Nat × Nat × List (List Value × α)) (fun s => [(0, .slice A n c), (1, .int .i64 ((n : Nat) : Int)), (2, .func (.func fc) #[] #[]), (6, .int .i64 ((s.1 : Nat) : Int))]) (fun s => (iOwn (tSl (tCk K) 117) [.slice A n c] s.2.2 :: is)) (fun s => 0 < s.1 ∧ n < s.2.1 + s.1 ∧ mlev (ltc cf) n s.2.1 s.1 s.2.2 = mlev (ltc cf) n (n + 1) 20 (blk (ltc cf) n (n + 1) 0 xs)) (fun s => n - s.1) (20, n + 1, (insL (ltc cf) p (n - p - 1) (p + 1) d)) (subL_cons rfl (subL_cons rfl (subL_cons rfl (subL_cons rfl subL_nil)))) (fun W hm => hm) ⟨(show 0 < 20 from by omega), (show n < (n + 1) + 20 from by omega), (show mlev (ltc cf) n (n + 1) 20 (insL (ltc cf) p (n - p - 1) (p + 1) d) = mlev (ltc cf) n (n + 1) 20 (blk (ltc cf) n (n + 1) 0 xs) from by rw [hY])⟩ ?_
    rintro ⟨w, f2, d2⟩ H4
    obtain ⟨hw, hf7, hF2⟩ : 0 < w ∧ n < f2 + w ∧ mlev (ltc cf) n f2 w d2 = mlev (ltc cf) n (n + 1) 20 (blk (ltc cf) n (n + 1) 0 xs) := H4
    show CM Try.prog 63 _ _ _ _ [(0, .slice A n c), (1, .int .i64 ((n : Nat) : Int)), (2, .func (.func fc) #[] #[]), (6, .int .i64 ((w : Nat) : Int))] (iOwn (tSl (tCk K) 117) [.slice A n c] d2 :: is)
    refine CM_seq ?_
    refine sr ?_
    refine wm ?_
    refine wm ?_
    refine wv (fun W hm => rv_lss rfl rfl) ?_
    refine nt' ?_
    by_cases h5 : ((w : Nat) : Int) < ((n : Nat) : Int)
    · have g6 : (decide (((w : Nat) : Int) < ((n : Nat) : Int))) = true := decide_eq_true h5
      refine CM_condT rfl g6 ?_
      refine CM_skip ?_
      refine QM_then ?_
      refine CM_block ?_
      refine sr ?_
      refine wm ?_
      refine wv (fun W hm => rv_mulN (p := 2) (q := w) rfl rfl (by omega)) ?_
      refine wa ?_
      refine wa ?_
      refine nt' ?_
      refine CM_seq ?_
      refine CM_block ?_
      refine CM_loop (σ := Nat × Nat × Nat × List (List Value × α)) (fun s => [(0, .slice A n c), (1, .int .i64 ((n : Nat) : Int)), (2, .func (.func fc) #[] #[]), (6, .int .i64 ((w : Nat) : Int)), (7, .int .i64 ((s.1 : Nat) : Int)), (8, .int .i64 ((s.2.1 : Nat) : Int))]) (fun s => (iOwn (tSl (tCk K) 117) [.slice A n c] s.2.2.2 :: is)) (fun s => s.2.1 = s.1 + 2 * w ∧ n < s.2.2.1 + s.1 ∧ s.1 ≤ n ∧ mrg (ltc cf) n w s.2.2.1 s.1 s.2.2.2 = mrg (ltc cf) n w (n + 1) 0 d2) (fun s => n - s.1) (0, 2 * w, n + 1, d2) (subL_cons rfl (subL_cons rfl (subL_cons rfl (subL_cons rfl (subL_cons rfl (subL_cons rfl subL_nil)))))) (fun W hm => hm) ⟨(show (2 * w) = 0 + 2 * w from by omega), (show n < (n + 1) + 0 from by omega), (show 0 ≤ n from by omega), (show mrg (ltc cf) n w (n + 1) 0 d2 = mrg (ltc cf) n w (n + 1) 0 d2 from rfl)⟩ ?_
      rintro ⟨p2, q2, f3, d3⟩ H7
      obtain ⟨hq2, hf8, hf9, hF3⟩ : q2 = p2 + 2 * w ∧ n < f3 + p2 ∧ p2 ≤ n ∧ mrg (ltc cf) n w f3 p2 d3 = mrg (ltc cf) n w (n + 1) 0 d2 := H7
      show CM Try.prog 63 _ _ _ _ [(0, .slice A n c), (1, .int .i64 ((n : Nat) : Int)), (2, .func (.func fc) #[] #[]), (6, .int .i64 ((w : Nat) : Int)), (7, .int .i64 ((p2 : Nat) : Int)), (8, .int .i64 ((q2 : Nat) : Int))] (iOwn (tSl (tCk K) 117) [.slice A n c] d3 :: is)
      subst hq2
      refine CM_seq ?_
      refine sr ?_
      refine wm ?_
      refine wm ?_
      refine wv (fun W hm => rv_leq rfl rfl) ?_
      refine nt' ?_
      by_cases h8 : ((p2 + 2 * w : Nat) : Int) ≤ ((n : Nat) : Int)
      · have g9 : (decide (((p2 + 2 * w : Nat) : Int) ≤ ((n : Nat) : Int))) = true := decide_eq_true h8
        refine CM_condT rfl g9 ?_
        refine CM_skip ?_
        refine QM_then ?_
        refine CM_block ?_
        refine sr ?_
        refine wm ?_
        refine wm ?_
        refine wm ?_
        refine wm ?_
        refine wv (fun W hm => rv_addN (p := p2) (q := w) rfl rfl (by omega)) ?_
        refine wm ?_
        refine wm ?_
        refine WM_callW (χ := Unit) (val := fun _ => .tuple #[]) (js := fun _ => (iOwn (tSl (tCk K) 117) [.slice A n c] (symm (ltc cf) (2 * w) p2 (p2 + w) (p2 + 2 * w) d3) :: is)) (cl_fn cb133 rfl) (fun W hm => (srt88_symm_c K hK cf fc B w0 is H A n c hn (2 * w) p2 (p2 + w) (p2 + 2 * w) d3 (by omega) (by omega) (by omega) (by omega) W hm).mono (fun _ _ h => ⟨(), h.1, h.2⟩)) (Wd_none rfl) (by decide) (fun _ => ?_)
        refine nt' ?_
        refine sr ?_
        refine wm ?_
        refine wa ?_
        refine nt' ?_
        refine CM_region ?_
        refine wm ?_
        refine wm ?_
        refine wv (fun W hm => rv_mulN (p := 2) (q := w) rfl rfl (by omega)) ?_
        refine wv (fun W hm => rv_addN (p := p2 + 2 * w) (q := 2 * w) rfl rfl (by omega)) ?_
        refine wa ?_
        refine WM_nil ?_
        refine QM_block_normal ?_
        exact QM_round (p2 + 2 * w, p2 + 2 * w + 2 * w, f3 - 1, (symm (ltc cf) (2 * w) p2 (p2 + w) (p2 + 2 * w) d3)) (subL_cons rfl (subL_cons rfl (subL_cons rfl (subL_cons rfl (subL_cons rfl (subL_cons rfl subL_nil)))))) (fun W hm => hm) ⟨(show (p2 + 2 * w + 2 * w) = (p2 + 2 * w) + 2 * w from by omega), (show n < (f3 - 1) + (p2 + 2 * w) from by omega), (show (p2 + 2 * w) ≤ n from by omega), (show mrg (ltc cf) n w (f3 - 1) (p2 + 2 * w) (symm (ltc cf) (2 * w) p2 (p2 + w) (p2 + 2 * w) d3) = mrg (ltc cf) n w (n + 1) 0 d2 from (mrg_step (by omega) (by omega)).symm.trans hF3)⟩ (show n - (p2 + 2 * w) < n - p2 from by omega)
      · have g9 : (decide (((p2 + 2 * w : Nat) : Int) ≤ ((n : Nat) : Int))) = false := decide_eq_false h8
        refine CM_condF rfl g9 ?_
        refine CM_exit ?_
        refine QM_then_exit ?_
        refine QM_then_exit ?_
        have hM := (mrg_end (lt := ltc cf) (xs := d3) (show ¬ p2 + 2 * w ≤ n by omega) hf8 hf9).symm.trans hF3
        refine QM_block_hit ?_
        refine QM_then ?_
        refine CM_seq ?_
        refine sr ?_
        refine wm ?_
        refine wm ?_
        refine wv (fun W hm => rv_addN (p := p2) (q := w) rfl rfl (by omega)) ?_
        refine wa ?_
        refine nt' ?_
        refine sr ?_
        refine wm ?_
        refine wm ?_
        refine wv (fun W hm => rv_lss rfl rfl) ?_
        refine nt' ?_
        by_cases h10 : ((p2 + w : Nat) : Int) < ((n : Nat) : Int)
        · have g11 : (decide (((p2 + w : Nat) : Int) < ((n : Nat) : Int))) = true := decide_eq_true h10
          refine CM_condT rfl g11 ?_
          refine CM_region ?_
          refine wm ?_
          refine wm ?_
          refine wm ?_
          refine wm ?_
          refine wm ?_
          refine WM_callW (χ := Unit) (val := fun _ => .tuple #[]) (js := fun _ => (iOwn (tSl (tCk K) 117) [.slice A n c] (symm (ltc cf) (n - p2) p2 (p2 + w) n d3) :: is)) (cl_fn cb133 rfl) (fun W hm => (srt88_symm_c K hK cf fc B w0 is H A n c hn (n - p2) p2 (p2 + w) n d3 (by omega) (by omega) (by omega) (by omega) W hm).mono (fun _ _ h => ⟨(), h.1, h.2⟩)) (Wd_none rfl) (by decide) (fun _ => ?_)
          refine nt' ?_
          refine CM_region ?_
          refine wm ?_
          refine wv (fun W hm => rv_mulN (p := w) (q := 2) rfl rfl (by omega)) ?_
          refine wa ?_
          refine WM_nil ?_
          refine QM_block_normal ?_
          exact QM_round (w * 2, f2 - 1, (symm (ltc cf) (n - p2) p2 (p2 + w) n d3)) (subL_cons rfl (subL_cons rfl (subL_cons rfl (subL_cons rfl subL_nil)))) (fun W hm => hm) ⟨(show 0 < (w * 2) from by omega), (show n < (f2 - 1) + (w * 2) from by omega), (show mlev (ltc cf) n (f2 - 1) (w * 2) (symm (ltc cf) (n - p2) p2 (p2 + w) n d3) = mlev (ltc cf) n (n + 1) 20 (blk (ltc cf) n (n + 1) 0 xs) from (congrArg (mlev (ltc cf) n (f2 - 1) (w * 2)) (by rw [decide_eq_true (show p2 + w < n by omega)] at hM; exact hM)).trans ((mlev_step (by omega) (by omega)).symm.trans hF2))⟩ (show n - (w * 2) < n - w from by omega)
        · have g11 : (decide (((p2 + w : Nat) : Int) < ((n : Nat) : Int))) = false := decide_eq_false h10
          refine CM_condF rfl g11 ?_
          refine CM_skip ?_
          refine QM_then ?_
          refine CM_region ?_
          refine wm ?_
          refine wv (fun W hm => rv_mulN (p := w) (q := 2) rfl rfl (by omega)) ?_
          refine wa ?_
          refine WM_nil ?_
          refine QM_block_normal ?_
          exact QM_round (w * 2, f2 - 1, d3) (subL_cons rfl (subL_cons rfl (subL_cons rfl (subL_cons rfl subL_nil)))) (fun W hm => hm) ⟨(show 0 < (w * 2) from by omega), (show n < (f2 - 1) + (w * 2) from by omega), (show mlev (ltc cf) n (f2 - 1) (w * 2) d3 = mlev (ltc cf) n (n + 1) 20 (blk (ltc cf) n (n + 1) 0 xs) from (congrArg (mlev (ltc cf) n (f2 - 1) (w * 2)) (by rw [decide_eq_false (show ¬ p2 + w < n by omega)] at hM; exact hM)).trans ((mlev_step (by omega) (by omega)).symm.trans hF2))⟩ (show n - (w * 2) < n - w from by omega)
    · have g6 : (decide (((w : Nat) : Int) < ((n : Nat) : Int))) = false := decide_eq_false h5
      refine CM_condF rfl g6 ?_
      refine CM_exit ?_
      refine QM_then_exit ?_
      refine QM_then_exit ?_
      refine QM_block_hit ?_
      have hE : mlev (ltc cf) n (n + 1) 20 (blk (ltc cf) n (n + 1) 0 xs) = d2 := ((mlev_end (by omega)).symm.trans hF2).symm
      exact QM_ret0 rfl (fun W hm => ⟨rfl, by rw [hE]; exact hm⟩)

set_option maxRecDepth 100000 in
theorem cb88 : Cb Try.prog 88 := ⟨Try.f88, _, Try.func88, rfl, by decide⟩
set_option maxRecDepth 10000 in
set_option maxHeartbeats 4000000 in
theorem srt88_sort_c {α : Type} [Inhabited α] (K : Ck α) (hK : K.s = 4) (cf : α → α → Int) (fc : FuncId) (B : Nat) (w0 : World) (is : List It) (H : CmpOk Try.prog fc K B w0 is cf) (A : Option Addr) (n c : Nat) (hn : n ≤ 68719476736) (xs : List (List Value × α)) (w : World) (hm : Mem B w0 (iOwn (tSl (tCk K) 117) [.slice A n c] xs :: is) w) :
    Calls Try.prog 88 #[.slice A n c, .func (.func fc) #[] #[]] w fun e w' => e = .returned (.tuple #[]) ∧ Mem B w0 (iOwn (tSl (tCk K) 117) [.slice A n c] (mlev (ltc cf) n (n + 1) 20 (blk (ltc cf) n (n + 1) 0 xs)) :: is) w' := by
  refine call_enterW (L := [(0, .slice A n c), (1, .func (.func fc) #[] #[])]) (N := 9) Try.func88 rfl rfl (Nat.le_of_ble_eq_true rfl) (argsL_cons rfl (argsL_cons rfl argsL_nil)) hm ?_
  refine CM_region ?_
  refine wm ?_
  refine wm ?_
  refine wv (fun W hm => rv_len Try.underlying54 rfl) ?_
  refine wm ?_
  refine WM_callW (χ := Unit) (val := fun _ => .tuple #[]) (js := fun _ => (iOwn (tSl (tCk K) 117) [.slice A n c] (mlev (ltc cf) n (n + 1) 20 (blk (ltc cf) n (n + 1) 0 xs)) :: is)) (cl_fn cb121 rfl) (fun W hm => (srt88_stable_c K hK cf fc B w0 is H A n c hn xs W hm).mono (fun _ _ h => ⟨(), h.1, h.2⟩)) (Wd_none rfl) (by decide) (fun _ => ?_)
  refine WM_nil ?_
  have hE : mlev (ltc cf) n (n + 1) 20 (blk (ltc cf) n (n + 1) 0 xs) = (mlev (ltc cf) n (n + 1) 20 (blk (ltc cf) n (n + 1) 0 xs)) := rfl
  exact QM_ret0 rfl (fun W hm => ⟨rfl, by rw [hE]; exact hm⟩)

theorem IsRow_same (x : DRow) : impl_IsRow_m x = spec_IsRow_m x := rfl
theorem cmp_int (a b : Int) : cmp_Compare_int_m a b = if a < b then -1 else if b < a then 1 else 0 := by
  unfold cmp_Compare_int_m cmp_isNaN_int_m
  rw [bne_self_eq_false, bne_self_eq_false]
  by_cases h1 : a < b
  · rw [decide_eq_true h1, if_pos h1]; rfl
  · rw [decide_eq_false h1, if_neg h1]
    by_cases h2 : b < a
    · rw [decide_eq_true h2, if_pos h2]; rfl
    · rw [decide_eq_false h2, if_neg h2]; rfl
def keyR (x y : DGroup) : Prop := x.Query < y.Query ∨ (x.Query = y.Query ∧ x.Value < y.Value)
theorem groups_lt (x y : DGroup) : lt0 impl_compareGroups_m x y = true ↔ keyR x y := by
  show decide (impl_compareGroups_m x y < 0) = true ↔ _
  unfold impl_compareGroups_m keyR
  rw [decide_eq_true_eq, cmp_int, cmp_int]
  by_cases h : x.Query = y.Query
  · rw [show (x.Query != y.Query) = false from by rw [h]; exact bne_self_eq_false _]
    show (if x.Value < y.Value then (-1 : Int) else if y.Value < x.Value then 1 else 0) < 0 ↔ _
    by_cases h1 : x.Value < y.Value
    · rw [if_pos h1]; omega
    · rw [if_neg h1]; by_cases h2 : y.Value < x.Value
      · rw [if_pos h2]; omega
      · rw [if_neg h2]; omega
  · rw [bne_iff_ne.2 h]
    show (if x.Query < y.Query then (-1 : Int) else if y.Query < x.Query then 1 else 0) < 0 ↔ _
    by_cases h1 : x.Query < y.Query
    · rw [if_pos h1]; omega
    · rw [if_neg h1, if_pos (by omega)]; omega
theorem impl_compareGroups_ord : Ord (lt0 impl_compareGroups_m) := ord_of groups_lt (fun x y => by unfold keyR; omega) (fun x y z => by unfold keyR; omega)
theorem impl_IsRow_len {r : DRow} (h : impl_IsRow_m r = true) : r.Values.length = 3 := spec_IsRow_len (by rw [← IsRow_same]; exact h)
theorem impl_isField_fact {x : Int} (h : impl_isField_m x = true) : 0 ≤ x ∧ x ≤ 2 := impl_within_fact h
def impl_GroupShared_b2 (x0 : (List DAnnotated)) (x1 : Int) (x2 : Int) (k13 : Nat) (k47 : Nat) (d48 : (List DGroup)) : (List DGroup) ⊕ ((List DGroup)) :=
  Sum.inr (d48 ++ [(⟨(gt ((gt x0 k13).Set) k47), (gt ((gt x0 k13).Row.Values) (x1.toNat)), 1, (gt ((gt x0 k13).Row.Values) (x2.toNat))⟩ : DGroup)])
abbrev impl_GroupShared_v1 (k90 : Nat) (d91 : (List DGroup)) (d94 : (List DGroup)) : (List DGroup) :=
  (d91.set (d91.length - 1) (⟨(gt d91 (d91.length - 1)).Query, (gt d91 (d91.length - 1)).Value, (IntKind.i64.wrap (((gt d91 (d91.length - 1)).Count) + 1)), (IntKind.i64.wrap (((gt d91 (d91.length - 1)).Sum) + ((gt d94 k90).Sum)))⟩ : DGroup))
def impl_GroupShared_b3 (k90 : Nat) (d91 : (List DGroup)) (d94 : (List DGroup)) : (List DGroup) ⊕ ((List DGroup) × (List DGroup)) :=
  cond (decide (0 < ((d91.length : Nat) : Int))) (cond ((impl_compareGroups_m (gt d91 (d91.length - 1)) (gt d94 k90)) == 0) (Sum.inr ((impl_GroupShared_v1 k90 d91 d94), d94)) (Sum.inr ((d91 ++ [(gt d94 k90)]), d94))) (Sum.inr ((d91 ++ [(gt d94 k90)]), d94))
def impl_GroupShared_b1 (x0 : (List DAnnotated)) (x1 : Int) (x2 : Int) (k13 : Nat) (d14 : (List DGroup)) : (List DGroup) ⊕ ((List DGroup)) :=
  cond (impl_IsRow_m ((gt x0 k13).Row)) (Sum.elim Sum.inl (fun (s : (List DGroup)) => Sum.inr s) (rng (R := (List DGroup)) (fun k (s : (List DGroup)) => impl_GroupShared_b2 x0 x1 x2 k13 k s) (((gt x0 k13).Set).length - 0) 0 d14)) (Sum.inr d14)
def impl_GroupShared_m (x0 : (List DAnnotated)) (x1 : Int) (x2 : Int) : (List DGroup) :=
  cond (impl_isField_m x1) (cond (impl_isField_m x2) (Sum.elim id (fun (s1_ : (List DGroup)) => Sum.elim id (fun (s : (List DGroup) × (List DGroup)) => s.1) (rng (R := (List DGroup)) (fun k (s : (List DGroup) × (List DGroup)) => impl_GroupShared_b3 k s.1 s.2) (s1_.length - 0) 0 ([], (stb (lt0 impl_compareGroups_m) s1_)))) (rng (R := (List DGroup)) (fun k (s : (List DGroup)) => impl_GroupShared_b1 x0 x1 x2 k s) (x0.length - 0) 0 [])) []) []
set_option maxRecDepth 100000 in
theorem cb41 : Cb Try.prog 41 := ⟨Try.f41, _, Try.func41, rfl, by decide⟩
set_option maxRecDepth 10000 in
set_option maxHeartbeats 4000000 in
theorem impl_GroupShared_c (w : World) (z0 : Value) (x0 : (List DAnnotated)) (x1 : Int) (x2 : Int) (r_0 : rdS tyAnnotated w w.heap.size z0 x0) (s_0 : (x0.length ≤ 68719476736 ∧ ∀ y ∈ x0, smAnnotated 68719476736 y)) (hq : (x0.map fun (a : DAnnotated) => a.Set.length).sum ≤ 68719476736) :
    Calls Try.prog 41 #[z0, .int .i64 x1, .int .i64 x2] w fun e w' => ∃ v : Value, e = .returned (v) ∧ Mem w.heap.size w [iOwn (tSl tyGroup 117) [v] (impl_GroupShared_m x0 x1 x2)] w' := by
  have r5 := r_0
  obtain ⟨m1, A2, c3, rfl, q4⟩ := r_0
  have l6 : x0.length ≤ 68719476736 := s_0.1
  refine call_enterM (L := [(0, .slice A2 x0.length c3), (1, .int .i64 x1), (2, .int .i64 x2)]) (N := 110) Try.func41 rfl rfl (Nat.le_of_ble_eq_true rfl) (argsL_cons rfl (argsL_cons rfl (argsL_cons rfl argsL_nil))) ?_
  refine sr ?_
  refine wa ?_
  refine nt' ?_
  refine CM_seq ?_
  refine sr ?_
  refine wm ?_
  refine WM_callV (cl_fn cb86 rfl) (fun W hm => impl_isField_c W x1) (Wd_none rfl) (by decide) ?_
  refine wv (fun W hm => rv_not rfl) ?_
  refine wm ?_
  rcases Bool.eq_false_or_eq_true (impl_isField_m x1) with g8 | g8
  ·
    have hf1 := impl_isField_fact g8
    refine wg (fun W hm => rv_move rfl) (nt g8) ?_
    refine WM_callV (cl_fn cb86 rfl) (fun W hm => impl_isField_c W x2) (Wd_some rfl rfl rfl (bw (nt g8) rfl)) (by decide) ?_
    refine wg (fun W hm => rv_not rfl) (nt g8) ?_
    refine wv (fun W hm => rv_pickF rfl (nt g8) rfl) ?_
    refine nt' ?_
    rcases Bool.eq_false_or_eq_true (impl_isField_m x2) with g10 | g10
    ·
      have hf2 := impl_isField_fact g10
      refine CM_condF rfl (nt g10) ?_
      refine CM_skip ?_
      refine QM_then ?_
      refine sr ?_
      refine WM_build0 (E := tyGroup) Try.underlying54 Try.type117 (Wd_none rfl) (by decide) (fun p11 => ?_)
      refine wa ?_
      refine nt' ?_
      refine CM_seq ?_
      refine sr ?_
      refine wm ?_
      refine wv (fun W hm => rv_len Try.underlying26 rfl) ?_
      refine wm ?_
      refine nt' ?_
      refine CM_block ?_
      refine CM_loop (σ := Nat × ((List DGroup)) × (Option Addr × Nat)) (fun s => [(1, .int .i64 x1), (2, .int .i64 x2), (7, .slice s.2.2.1 s.2.1.length s.2.2.2), (25, .slice A2 x0.length c3), (26, .int .i64 ((x0.length : Nat) : Int)), (27, .int .i64 ((s.1 : Nat) : Int))]) (fun s => [iOwn (tSl tyGroup 117) [.slice s.2.2.1 s.2.1.length s.2.2.2] s.2.1]) (fun s => s.1 ≤ x0.length ∧ rng (R := (List DGroup)) (fun k (s : (List DGroup)) => impl_GroupShared_b1 x0 x1 x2 k s) (x0.length - s.1) s.1 s.2.1 = rng (R := (List DGroup)) (fun k (s : (List DGroup)) => impl_GroupShared_b1 x0 x1 x2 k s) (x0.length - 0) 0 [] ∧ s.2.1.length ≤ ((x0.take s.1).map fun (a : DAnnotated) => a.Set.length).sum) (fun s => x0.length - s.1) (0, [], ((some ⟨p11, 0, none⟩), 0)) (subL_cons rfl (subL_cons rfl (subL_cons rfl (subL_cons rfl (subL_cons rfl (subL_cons rfl subL_nil)))))) (fun W hm => hm) ⟨(by omega), rfl, Nat.zero_le _⟩ ?_
      rintro ⟨k13, d14, ⟨A15, c16⟩⟩ H19
      obtain ⟨hk17, hF18, hi20⟩ : k13 ≤ x0.length ∧ rng (R := (List DGroup)) (fun k (s : (List DGroup)) => impl_GroupShared_b1 x0 x1 x2 k s) (x0.length - k13) k13 d14 = rng (R := (List DGroup)) (fun k (s : (List DGroup)) => impl_GroupShared_b1 x0 x1 x2 k s) (x0.length - 0) 0 [] ∧ d14.length ≤ ((x0.take k13).map fun (a : DAnnotated) => a.Set.length).sum := H19
      show CM Try.prog 110 _ _ _ _ [(1, .int .i64 x1), (2, .int .i64 x2), (7, .slice A15 d14.length c16), (25, .slice A2 x0.length c3), (26, .int .i64 ((x0.length : Nat) : Int)), (27, .int .i64 ((k13 : Nat) : Int))] [iOwn (tSl tyGroup 117) [.slice A15 d14.length c16] d14]
      refine sr ?_
      refine wv (fun W hm => rv_lss rfl rfl) ?_
      refine nt' ?_
      refine CM_seq ?_
      by_cases hl21 : k13 < x0.length
      · have g22 : (decide (((k13 : Nat) : Int) < ((x0.length : Nat) : Int))) = true := decide_eq_true (by omega)
        have hq1 := sum_take_succ (w := fun (a : DAnnotated) => a.Set.length) (xs := x0) (j := k13) (by omega)
        have hq2 := sum_take_le (w := fun (a : DAnnotated) => a.Set.length) (xs := x0) (k13 + 1)
        refine CM_condT rfl g22 ?_
        refine CM_skip ?_
        refine QM_then ?_
        refine CM_seq ?_
        refine CM_block ?_
        refine sr ?_
        obtain ⟨a23, rfl, hb24, he25⟩ := q4 (by omega)
        refine wv (fun W hm => rv_index (sz := 3) (k := k13) Try.underlying26 Try.type91 rfl rfl rfl (by omega)) ?_
        obtain ⟨_, e31, hc26⟩ := he25 k13 _ (gt_some (show k13 < x0.length from by omega))
        obtain ⟨v27, v29, rfl, r28, r30⟩ := tyAnnotated_rd e31
        have l32 : ((gt x0 k13).Row.Values).length ≤ 68719476736 := (s_0.2 _ (gt_mem (show k13 < x0.length from by omega))).1
        have l33 : ((gt x0 k13).Set).length ≤ 68719476736 := (s_0.2 _ (gt_mem (show k13 < x0.length from by omega))).2
        have r38 := r28
        obtain ⟨m34, A35, c36, rfl, q37⟩ := r28
        have r43 := r30
        obtain ⟨m39, A40, c41, rfl, q42⟩ := r30
        refine wv (fun W hm => rv_loadN (cs := [.int .i64 ((gt x0 k13).Row.Id), .slice A35 ((gt x0 k13).Row.Values).length c36, .slice A40 ((gt x0 k13).Set).length c41]) Try.underlying91 Try.type91 rfl rfl (hm.elCells (show (a23.add (k13 * 3)).block < w.heap.size from by rw [add_block]; exact hb24.1) hc26)) ?_
        refine WM_alloc Try.type91 rfl (Wd_none rfl) (by decide) (fun p44 => ?_)
        refine WM_storeBox (p := p44) (o := 0) (cs := [.int .i64 0, .slice none 0 0, .slice none 0 0]) (cs' := [.int .i64 ((gt x0 k13).Row.Id), .slice A35 ((gt x0 k13).Row.Values).length c36, .slice A40 ((gt x0 k13).Set).length c41]) (js := [iOwn (tSl tyGroup 117) [.slice A15 d14.length c16] d14]) (fun W hm => hm) Try.type91 rfl (Nat.le_of_ble_eq_true rfl) rfl rfl rfl rfl (Wd_none rfl) ?_
        refine nt' ?_
        refine CM_seq ?_
        refine sr ?_
        refine wv (fun W hm => rv_field Try.underlying91 rfl Try.type69 (by decide) rfl rfl) ?_
        refine wv (fun W hm => rv_loadN (cs := [.int .i64 ((gt x0 k13).Row.Id), .slice A35 ((gt x0 k13).Row.Values).length c36]) Try.underlying69 Try.type69 rfl rfl (hm.boxPart (n := 0) rfl rfl)) ?_
        refine WM_callV (cl_fn cb87 rfl) (fun W hm => impl_IsRow_c W _ ((gt x0 k13).Row) (tyRow_mk (x := ((gt x0 k13).Row)) (hm.rdS0 r38))) (Wd_none rfl) (by decide) ?_
        refine wv (fun W hm => rv_not rfl) ?_
        refine nt' ?_
        rcases Bool.eq_false_or_eq_true (impl_IsRow_m ((gt x0 k13).Row)) with g46 | g46
        ·
          have hlr := impl_IsRow_len g46
          refine CM_condF rfl (nt g46) ?_
          refine CM_skip ?_
          refine QM_then ?_
          refine sr ?_
          refine wv (fun W hm => rv_field Try.underlying91 rfl Try.type33 (by decide) rfl rfl) ?_
          refine wv (fun W hm => rv_load Try.underlying33 rfl rfl (hm.boxCell (n := 0) (o := 2) rfl rfl)) ?_
          refine wv (fun W hm => rv_len Try.underlying33 rfl) ?_
          refine wm ?_
          refine nt' ?_
          refine CM_block ?_
          refine CM_loop (σ := Nat × ((List DGroup)) × (Option Addr × Nat)) (fun s => [(1, .int .i64 x1), (2, .int .i64 x2), (7, .slice s.2.2.1 s.2.1.length s.2.2.2), (9, .pointer (some (⟨p44, 0, none⟩ : Addr))), (25, .slice (some a23) x0.length c3), (26, .int .i64 ((x0.length : Nat) : Int)), (27, .int .i64 ((k13 : Nat) : Int)), (36, .slice A40 ((gt x0 k13).Set).length c41), (37, .int .i64 ((((gt x0 k13).Set).length : Nat) : Int)), (38, .int .i64 ((s.1 : Nat) : Int))]) (fun s => [iBox p44 91 [.int .i64 ((gt x0 k13).Row.Id), .slice A35 ((gt x0 k13).Row.Values).length c36, .slice A40 ((gt x0 k13).Set).length c41], iOwn (tSl tyGroup 117) [.slice s.2.2.1 s.2.1.length s.2.2.2] s.2.1]) (fun s => s.1 ≤ ((gt x0 k13).Set).length ∧ rng (R := (List DGroup)) (fun k (s : (List DGroup)) => impl_GroupShared_b2 x0 x1 x2 k13 k s) (((gt x0 k13).Set).length - s.1) s.1 s.2.1 = rng (R := (List DGroup)) (fun k (s : (List DGroup)) => impl_GroupShared_b2 x0 x1 x2 k13 k s) (((gt x0 k13).Set).length - 0) 0 d14 ∧ s.2.1.length ≤ d14.length + s.1) (fun s => ((gt x0 k13).Set).length - s.1) (0, d14, (A15, c16)) (subL_cons rfl (subL_cons rfl (subL_cons rfl (subL_cons rfl (subL_cons rfl (subL_cons rfl (subL_cons rfl (subL_cons rfl (subL_cons rfl (subL_cons rfl subL_nil)))))))))) (fun W hm => hm) ⟨(by omega), rfl, Nat.le_refl _⟩ ?_
          rintro ⟨k47, d48, ⟨A49, c50⟩⟩ H53
          obtain ⟨hk51, hF52, hi54⟩ : k47 ≤ ((gt x0 k13).Set).length ∧ rng (R := (List DGroup)) (fun k (s : (List DGroup)) => impl_GroupShared_b2 x0 x1 x2 k13 k s) (((gt x0 k13).Set).length - k47) k47 d48 = rng (R := (List DGroup)) (fun k (s : (List DGroup)) => impl_GroupShared_b2 x0 x1 x2 k13 k s) (((gt x0 k13).Set).length - 0) 0 d14 ∧ d48.length ≤ d14.length + k47 := H53
          show CM Try.prog 110 _ _ _ _ [(1, .int .i64 x1), (2, .int .i64 x2), (7, .slice A49 d48.length c50), (9, .pointer (some (⟨p44, 0, none⟩ : Addr))), (25, .slice (some a23) x0.length c3), (26, .int .i64 ((x0.length : Nat) : Int)), (27, .int .i64 ((k13 : Nat) : Int)), (36, .slice A40 ((gt x0 k13).Set).length c41), (37, .int .i64 ((((gt x0 k13).Set).length : Nat) : Int)), (38, .int .i64 ((k47 : Nat) : Int))] [iBox p44 91 [.int .i64 ((gt x0 k13).Row.Id), .slice A35 ((gt x0 k13).Row.Values).length c36, .slice A40 ((gt x0 k13).Set).length c41], iOwn (tSl tyGroup 117) [.slice A49 d48.length c50] d48]
          refine sr ?_
          refine wv (fun W hm => rv_lss rfl rfl) ?_
          refine nt' ?_
          refine CM_seq ?_
          by_cases hl55 : k47 < ((gt x0 k13).Set).length
          · have g56 : (decide (((k47 : Nat) : Int) < ((((gt x0 k13).Set).length : Nat) : Int))) = true := decide_eq_true (by omega)
            refine CM_condT rfl g56 ?_
            refine CM_skip ?_
            refine QM_then ?_
            refine CM_seq ?_
            refine CM_block ?_
            refine sr ?_
            obtain ⟨a57, rfl, hb58, he59⟩ := q42 (by omega)
            refine wv (fun W hm => rv_index (sz := 1) (k := k47) Try.underlying33 Try.type3 rfl rfl rfl (by omega)) ?_
            refine wv (fun W hm => rv_load Try.underlying3 rfl rfl ((hm.cell0 (show (a57.add (k47 * 1)).block < w.heap.size from by rw [add_block]; exact hb58.1)).trans (rdS_int he59 k47 (by omega)))) ?_
            refine wa ?_
            refine nt' ?_
            obtain ⟨a60, rfl, hb61, he62⟩ := q37 (by omega)
            refine CM_cut (σ := Option Addr × Nat) (fun s => [(1, .int .i64 x1), (2, .int .i64 x2), (7, .slice s.1 (d48 ++ [(⟨(gt ((gt x0 k13).Set) k47), (gt ((gt x0 k13).Row.Values) (x1.toNat)), 1, (gt ((gt x0 k13).Row.Values) (x2.toNat))⟩ : DGroup)]).length s.2), (9, .pointer (some (⟨p44, 0, none⟩ : Addr))), (25, .slice (some a23) x0.length c3), (26, .int .i64 ((x0.length : Nat) : Int)), (27, .int .i64 ((k13 : Nat) : Int)), (36, .slice (some a57) ((gt x0 k13).Set).length c41), (37, .int .i64 ((((gt x0 k13).Set).length : Nat) : Int)), (38, .int .i64 ((k47 : Nat) : Int))]) (fun s => [iOwn (tSl tyGroup 117) [.slice s.1 (d48 ++ [(⟨(gt ((gt x0 k13).Set) k47), (gt ((gt x0 k13).Row.Values) (x1.toNat)), 1, (gt ((gt x0 k13).Row.Values) (x2.toNat))⟩ : DGroup)]).length s.2] (d48 ++ [(⟨(gt ((gt x0 k13).Set) k47), (gt ((gt x0 k13).Row.Values) (x1.toNat)), 1, (gt ((gt x0 k13).Row.Values) (x2.toNat))⟩ : DGroup)]), iBox p44 91 [.int .i64 ((gt x0 k13).Row.Id), .slice (some a60) ((gt x0 k13).Row.Values).length c36, .slice (some a57) ((gt x0 k13).Set).length c41]]) (fun _ => True) ?_ ?_
            ·
              refine CM_regionB (n := 18) (listed := #[false, false, false, false, false, false, false, false, false, false, false, false, false, false, false, false, false, false]) (s := []) (by kernel_rfl) rfl (by kernel_rfl) (fun W hm => (hm.pick [] (by decide))) ?_
              refine QB_take 0 (listed' := #[true, false, false, false, false, false, false, false, false, false, false, false, false, false, false, false, false, false]) (by kernel_rfl) rfl (by kernel_rfl) (by kernel_rfl) (by kernel_rfl) (fun _ _ _ h => h) (fun W hm => rv_move rfl) (Wd_none rfl) rfl (by decide) ?_
              refine QB_take 1 (listed' := #[true, true, false, false, false, false, false, false, false, false, false, false, false, false, false, false, false, false]) (by kernel_rfl) rfl (by kernel_rfl) (by kernel_rfl) (by kernel_rfl) (fun _ _ _ h => h) (fun W hm => rv_move rfl) (Wd_none rfl) rfl (by decide) ?_
              refine QB_take 2 (listed' := #[true, true, true, false, false, false, false, false, false, false, false, false, false, false, false, false, false, false]) (by kernel_rfl) rfl (by kernel_rfl) (by kernel_rfl) (by kernel_rfl) (fun _ _ _ h => h) (fun W hm => rv_field Try.underlying91 rfl Try.type69 (by decide) rfl rfl) (Wd_none rfl) rfl (by decide) ?_
              refine QB_take 3 (listed' := #[true, true, true, true, false, false, false, false, false, false, false, false, false, false, false, false, false, false]) (by kernel_rfl) rfl (by kernel_rfl) (by kernel_rfl) (by kernel_rfl) (fun _ _ _ h => h) (fun W hm => rv_fieldA (o := 1) Try.underlying69 rfl Try.type33 (by decide) rfl rfl) (Wd_none rfl) rfl (by decide) ?_
              refine QB_take 5 (listed' := #[true, true, true, true, false, true, false, false, false, false, false, false, false, false, false, false, false, false]) (by kernel_rfl) rfl (by kernel_rfl) (by kernel_rfl) (by kernel_rfl) (fun _ _ _ h => h) (fun W hm => rv_move rfl) (Wd_none rfl) rfl (by decide) ?_
              refine QB_take 8 (listed' := #[true, true, true, true, false, true, false, false, true, false, false, false, false, false, false, false, false, false]) (by kernel_rfl) rfl (by kernel_rfl) (by kernel_rfl) (by kernel_rfl) (fun _ _ _ h => h) (fun W hm => rv_field Try.underlying91 rfl Try.type69 (by decide) rfl rfl) (Wd_none rfl) rfl (by decide) ?_
              refine QB_take 9 (listed' := #[true, true, true, true, false, true, false, false, true, true, false, false, false, false, false, false, false, false]) (by kernel_rfl) rfl (by kernel_rfl) (by kernel_rfl) (by kernel_rfl) (fun _ _ _ h => h) (fun W hm => rv_fieldA (o := 1) Try.underlying69 rfl Try.type33 (by decide) rfl rfl) (Wd_none rfl) rfl (by decide) ?_
              refine QB_take 11 (listed' := #[true, true, true, true, false, true, false, false, true, true, false, true, false, false, false, false, false, false]) (by kernel_rfl) rfl (by kernel_rfl) (by kernel_rfl) (by kernel_rfl) (fun _ _ _ h => h) (fun W hm => rv_move rfl) (Wd_none rfl) rfl (by decide) ?_
              refine QB_all [4, 10] (by kernel_rfl) (by decide) ?_
              refine QBs_cons (listed' := #[true, true, true, true, true, true, false, false, true, true, false, true, false, false, false, false, false, false]) (by kernel_rfl) rfl ?_ ?_
              ·
                refine wv (fun W hm => rv_load Try.underlying33 rfl rfl (hm.boxCell (n := 0) (o := 1) rfl rfl)) ?_
                refine WM_nil ?_
                refine QB_next (fun W hm => (hm.pick [] (by decide))) ?_
                refine QB_take 6 (listed' := #[true, true, true, true, true, true, true, false, true, true, false, true, false, false, false, false, false, false]) (by kernel_rfl) rfl (by kernel_rfl) (by kernel_rfl) (by kernel_rfl) (fun _ _ _ h => h) (fun W hm => rv_indexI (sz := 1) (k := x1) Try.underlying33 Try.type3 rfl rfl rfl (by omega) (by omega)) (Wd_none rfl) rfl (by decide) ?_
                refine QB_take 7 (listed' := #[true, true, true, true, true, true, true, true, true, true, false, true, false, false, false, false, false, false]) (by kernel_rfl) rfl (by kernel_rfl) (by kernel_rfl) (by kernel_rfl) (fun _ _ _ h => h) (fun W hm => rv_load Try.underlying3 rfl rfl ((hm.cell0 (show (a60.add ((x1.toNat) * 1)).block < w.heap.size from by rw [add_block]; exact hb61.1)).trans (rdS_int he62 (x1.toNat) (by omega)))) (Wd_none rfl) rfl (by decide) ?_
                refine QB_one 10 (listed' := #[true, true, true, true, true, true, true, true, true, true, true, true, false, false, false, false, false, false]) (by kernel_rfl) rfl (by kernel_rfl) ?_
                refine wv (fun W hm => rv_load Try.underlying33 rfl rfl (hm.boxCell (n := 0) (o := 1) rfl rfl)) ?_
                refine WM_nil ?_
                refine QB_next (fun W hm => (hm.pick [] (by decide))) ?_
                refine QB_take 12 (listed' := #[true, true, true, true, true, true, true, true, true, true, true, true, true, false, false, false, false, false]) (by kernel_rfl) rfl (by kernel_rfl) (by kernel_rfl) (by kernel_rfl) (fun _ _ _ h => h) (fun W hm => rv_indexI (sz := 1) (k := x2) Try.underlying33 Try.type3 rfl rfl rfl (by omega) (by omega)) (Wd_none rfl) rfl (by decide) ?_
                refine QB_take 13 (listed' := #[true, true, true, true, true, true, true, true, true, true, true, true, true, true, false, false, false, false]) (by kernel_rfl) rfl (by kernel_rfl) (by kernel_rfl) (by kernel_rfl) (fun _ _ _ h => h) (fun W hm => rv_load Try.underlying3 rfl rfl ((hm.cell0 (show (a60.add ((x2.toNat) * 1)).block < w.heap.size from by rw [add_block]; exact hb61.1)).trans (rdS_int he62 (x2.toNat) (by omega)))) (Wd_none rfl) rfl (by decide) ?_
                refine QB_take 14 (listed' := #[true, true, true, true, true, true, true, true, true, true, true, true, true, true, true, false, false, false]) (by kernel_rfl) rfl (by kernel_rfl) (by kernel_rfl) (by kernel_rfl) (fun _ _ _ h => h) (fun W hm => rv_build (cs := [.int .i64 (gt ((gt x0 k13).Set) k47), .int .i64 (gt ((gt x0 k13).Row.Values) (x1.toNat)), .int .i64 1, .int .i64 (gt ((gt x0 k13).Row.Values) (x2.toNat))]) rfl (by kernel_rfl)) (Wd_none rfl) rfl (by decide) ?_
                refine QB_one 15 (listed' := #[true, true, true, true, true, true, true, true, true, true, true, true, true, true, true, true, false, false]) (by kernel_rfl) rfl (by kernel_rfl) ?_
                refine WM_build (cs := [.int .i64 (gt ((gt x0 k13).Set) k47), .int .i64 (gt ((gt x0 k13).Row.Values) (x1.toNat)), .int .i64 1, .int .i64 (gt ((gt x0 k13).Row.Values) (x2.toNat))]) Try.underlying54 Try.type117 rfl (by decide) (by decide) rfl (by kernel_rfl) (Wd_none rfl) (by decide) (fun p69 => ?_)
                refine WM_nil ?_
                refine QB_next (fun W hm => (hm.pick [] (by decide))) ?_
                refine QB_one 16 (listed' := #[true, true, true, true, true, true, true, true, true, true, true, true, true, true, true, true, true, false]) (by kernel_rfl) rfl (by kernel_rfl) ?_
                refine WM_append (E := tyGroup) (e := 117) (v := .slice A49 d48.length c50) (p := p69) (q := 1) (xs := d48) (ys := [(⟨(gt ((gt x0 k13).Set) k47), (gt ((gt x0 k13).Row.Values) (x1.toNat)), 1, (gt ((gt x0 k13).Row.Values) (x2.toNat))⟩ : DGroup)]) (eis := []) (js := [iBox p44 91 [.int .i64 ((gt x0 k13).Row.Id), .slice (some a60) ((gt x0 k13).Row.Values).length c36, .slice (some a57) ((gt x0 k13).Set).length c41]]) (news := [.int .i64 (gt ((gt x0 k13).Set) k47), .int .i64 (gt ((gt x0 k13).Row.Values) (x1.toNat)), .int .i64 1, .int .i64 (gt ((gt x0 k13).Row.Values) (x2.toNat))]) (fun W hm => (hm.pick [0, 2, 1] (by decide))) (fun _ _ hs => by cases (Sep.nil hs); exact (els_cons (tyGroup_join (x := (⟨(gt ((gt x0 k13).Set) k47), (gt ((gt x0 k13).Row.Values) (x1.toNat)), 1, (gt ((gt x0 k13).Row.Values) (x2.toNat))⟩ : DGroup)) (L := []) rfl) els_nil)) Try.underlying54 Try.type117 rfl rfl rfl (Nat.le_of_ble_eq_true rfl) rfl rfl rfl (show (d48.length + 1) * 32 ≤ 140737488355328 from by omega) (show d48.length + 1 ≤ 9223372036854775807 from by omega) (Wd_none rfl) (by decide) (fun v70 => ?_)
                refine WM_form (n := 0) rfl ?_
                rintro A71 c72 rfl m73
                refine WM_nil ?_
                refine QB_next (fun W hm => (hm.pick [] (by decide))) ?_
                refine QB_take 17 (listed' := #[true, true, true, true, true, true, true, true, true, true, true, true, true, true, true, true, true, true]) (by kernel_rfl) rfl (by kernel_rfl) (by kernel_rfl) (by kernel_rfl) (fun _ _ _ h => h) (fun W hm => rv_assign rfl) (Wd_none rfl) rfl (by decide) ?_
                refine QB_done (by kernel_rfl) ?_
                exact QM_cut_normal (A71, c72) (subL_cons rfl (subL_cons rfl (subL_cons rfl (subL_cons rfl (subL_cons rfl (subL_cons rfl (subL_cons rfl (subL_cons rfl (subL_cons rfl (subL_cons rfl subL_nil)))))))))) (fun W hm => hm) trivial
              refine QBs_cons (listed' := #[true, true, true, true, false, true, false, false, true, true, true, true, false, false, false, false, false, false]) (by kernel_rfl) rfl ?_ ?_
              ·
                refine wv (fun W hm => rv_load Try.underlying33 rfl rfl (hm.boxCell (n := 0) (o := 1) rfl rfl)) ?_
                refine WM_nil ?_
                refine QB_next (fun W hm => (hm.pick [] (by decide))) ?_
                refine QB_take 12 (listed' := #[true, true, true, true, false, true, false, false, true, true, true, true, true, false, false, false, false, false]) (by kernel_rfl) rfl (by kernel_rfl) (by kernel_rfl) (by kernel_rfl) (fun _ _ _ h => h) (fun W hm => rv_indexI (sz := 1) (k := x2) Try.underlying33 Try.type3 rfl rfl rfl (by omega) (by omega)) (Wd_none rfl) rfl (by decide) ?_
                refine QB_take 13 (listed' := #[true, true, true, true, false, true, false, false, true, true, true, true, true, true, false, false, false, false]) (by kernel_rfl) rfl (by kernel_rfl) (by kernel_rfl) (by kernel_rfl) (fun _ _ _ h => h) (fun W hm => rv_load Try.underlying3 rfl rfl ((hm.cell0 (show (a60.add ((x2.toNat) * 1)).block < w.heap.size from by rw [add_block]; exact hb61.1)).trans (rdS_int he62 (x2.toNat) (by omega)))) (Wd_none rfl) rfl (by decide) ?_
                refine QB_one 4 (listed' := #[true, true, true, true, true, true, false, false, true, true, true, true, true, true, false, false, false, false]) (by kernel_rfl) rfl (by kernel_rfl) ?_
                refine wv (fun W hm => rv_load Try.underlying33 rfl rfl (hm.boxCell (n := 0) (o := 1) rfl rfl)) ?_
                refine WM_nil ?_
                refine QB_next (fun W hm => (hm.pick [] (by decide))) ?_
                refine QB_take 6 (listed' := #[true, true, true, true, true, true, true, false, true, true, true, true, true, true, false, false, false, false]) (by kernel_rfl) rfl (by kernel_rfl) (by kernel_rfl) (by kernel_rfl) (fun _ _ _ h => h) (fun W hm => rv_indexI (sz := 1) (k := x1) Try.underlying33 Try.type3 rfl rfl rfl (by omega) (by omega)) (Wd_none rfl) rfl (by decide) ?_
                refine QB_take 7 (listed' := #[true, true, true, true, true, true, true, true, true, true, true, true, true, true, false, false, false, false]) (by kernel_rfl) rfl (by kernel_rfl) (by kernel_rfl) (by kernel_rfl) (fun _ _ _ h => h) (fun W hm => rv_load Try.underlying3 rfl rfl ((hm.cell0 (show (a60.add ((x1.toNat) * 1)).block < w.heap.size from by rw [add_block]; exact hb61.1)).trans (rdS_int he62 (x1.toNat) (by omega)))) (Wd_none rfl) rfl (by decide) ?_
                refine QB_take 14 (listed' := #[true, true, true, true, true, true, true, true, true, true, true, true, true, true, true, false, false, false]) (by kernel_rfl) rfl (by kernel_rfl) (by kernel_rfl) (by kernel_rfl) (fun _ _ _ h => h) (fun W hm => rv_build (cs := [.int .i64 (gt ((gt x0 k13).Set) k47), .int .i64 (gt ((gt x0 k13).Row.Values) (x1.toNat)), .int .i64 1, .int .i64 (gt ((gt x0 k13).Row.Values) (x2.toNat))]) rfl (by kernel_rfl)) (Wd_none rfl) rfl (by decide) ?_
                refine QB_one 15 (listed' := #[true, true, true, true, true, true, true, true, true, true, true, true, true, true, true, true, false, false]) (by kernel_rfl) rfl (by kernel_rfl) ?_
                refine WM_build (cs := [.int .i64 (gt ((gt x0 k13).Set) k47), .int .i64 (gt ((gt x0 k13).Row.Values) (x1.toNat)), .int .i64 1, .int .i64 (gt ((gt x0 k13).Row.Values) (x2.toNat))]) Try.underlying54 Try.type117 rfl (by decide) (by decide) rfl (by kernel_rfl) (Wd_none rfl) (by decide) (fun p75 => ?_)
                refine WM_nil ?_
                refine QB_next (fun W hm => (hm.pick [] (by decide))) ?_
                refine QB_one 16 (listed' := #[true, true, true, true, true, true, true, true, true, true, true, true, true, true, true, true, true, false]) (by kernel_rfl) rfl (by kernel_rfl) ?_
                refine WM_append (E := tyGroup) (e := 117) (v := .slice A49 d48.length c50) (p := p75) (q := 1) (xs := d48) (ys := [(⟨(gt ((gt x0 k13).Set) k47), (gt ((gt x0 k13).Row.Values) (x1.toNat)), 1, (gt ((gt x0 k13).Row.Values) (x2.toNat))⟩ : DGroup)]) (eis := []) (js := [iBox p44 91 [.int .i64 ((gt x0 k13).Row.Id), .slice (some a60) ((gt x0 k13).Row.Values).length c36, .slice (some a57) ((gt x0 k13).Set).length c41]]) (news := [.int .i64 (gt ((gt x0 k13).Set) k47), .int .i64 (gt ((gt x0 k13).Row.Values) (x1.toNat)), .int .i64 1, .int .i64 (gt ((gt x0 k13).Row.Values) (x2.toNat))]) (fun W hm => (hm.pick [0, 2, 1] (by decide))) (fun _ _ hs => by cases (Sep.nil hs); exact (els_cons (tyGroup_join (x := (⟨(gt ((gt x0 k13).Set) k47), (gt ((gt x0 k13).Row.Values) (x1.toNat)), 1, (gt ((gt x0 k13).Row.Values) (x2.toNat))⟩ : DGroup)) (L := []) rfl) els_nil)) Try.underlying54 Try.type117 rfl rfl rfl (Nat.le_of_ble_eq_true rfl) rfl rfl rfl (show (d48.length + 1) * 32 ≤ 140737488355328 from by omega) (show d48.length + 1 ≤ 9223372036854775807 from by omega) (Wd_none rfl) (by decide) (fun v76 => ?_)
                refine WM_form (n := 0) rfl ?_
                rintro A77 c78 rfl m79
                refine WM_nil ?_
                refine QB_next (fun W hm => (hm.pick [] (by decide))) ?_
                refine QB_take 17 (listed' := #[true, true, true, true, true, true, true, true, true, true, true, true, true, true, true, true, true, true]) (by kernel_rfl) rfl (by kernel_rfl) (by kernel_rfl) (by kernel_rfl) (fun _ _ _ h => h) (fun W hm => rv_assign rfl) (Wd_none rfl) rfl (by decide) ?_
                refine QB_done (by kernel_rfl) ?_
                exact QM_cut_normal (A77, c78) (subL_cons rfl (subL_cons rfl (subL_cons rfl (subL_cons rfl (subL_cons rfl (subL_cons rfl (subL_cons rfl (subL_cons rfl (subL_cons rfl (subL_cons rfl subL_nil)))))))))) (fun W hm => hm) trivial
              exact QBs_nil
            ·
              rintro ⟨A65, c66⟩ -
              show QM 110 _ _ _ .normal [(1, .int .i64 x1), (2, .int .i64 x2), (7, .slice A65 (d48 ++ [(⟨(gt ((gt x0 k13).Set) k47), (gt ((gt x0 k13).Row.Values) (x1.toNat)), 1, (gt ((gt x0 k13).Row.Values) (x2.toNat))⟩ : DGroup)]).length c66), (9, .pointer (some (⟨p44, 0, none⟩ : Addr))), (25, .slice (some a23) x0.length c3), (26, .int .i64 ((x0.length : Nat) : Int)), (27, .int .i64 ((k13 : Nat) : Int)), (36, .slice (some a57) ((gt x0 k13).Set).length c41), (37, .int .i64 ((((gt x0 k13).Set).length : Nat) : Int)), (38, .int .i64 ((k47 : Nat) : Int))] [iOwn (tSl tyGroup 117) [.slice A65 (d48 ++ [(⟨(gt ((gt x0 k13).Set) k47), (gt ((gt x0 k13).Row.Values) (x1.toNat)), 1, (gt ((gt x0 k13).Row.Values) (x2.toNat))⟩ : DGroup)]).length c66] (d48 ++ [(⟨(gt ((gt x0 k13).Set) k47), (gt ((gt x0 k13).Row.Values) (x1.toNat)), 1, (gt ((gt x0 k13).Row.Values) (x2.toNat))⟩ : DGroup)]), iBox p44 91 [.int .i64 ((gt x0 k13).Row.Id), .slice (some a60) ((gt x0 k13).Row.Values).length c36, .slice (some a57) ((gt x0 k13).Set).length c41]]
              refine QM_len (n := 0) rfl ?_
              intro m81 m82
              refine QM_block_normal ?_
              refine QM_then ?_
              refine CM_region ?_
              refine wv (fun W hm => rv_addN (p := k47) (q := 1) rfl rfl (by omega)) ?_
              refine wm ?_
              refine WM_nil ?_
              have hn83 := rng_next (R := (List DGroup)) (body := (fun k (s : (List DGroup)) => impl_GroupShared_b2 x0 x1 x2 k13 k s)) (k := k47) (s := d48) (s' := (d48 ++ [(⟨(gt ((gt x0 k13).Set) k47), (gt ((gt x0 k13).Row.Values) (x1.toNat)), 1, (gt ((gt x0 k13).Row.Values) (x2.toNat))⟩ : DGroup)])) (show k47 < ((gt x0 k13).Set).length from by omega) (show impl_GroupShared_b2 x0 x1 x2 k13 k47 d48 = Sum.inr (d48 ++ [(⟨(gt ((gt x0 k13).Set) k47), (gt ((gt x0 k13).Row.Values) (x1.toNat)), 1, (gt ((gt x0 k13).Row.Values) (x2.toNat))⟩ : DGroup)]) from by unfold impl_GroupShared_b2; exact rfl) hF52
              exact QM_round (k47 + 1, (d48 ++ [(⟨(gt ((gt x0 k13).Set) k47), (gt ((gt x0 k13).Row.Values) (x1.toNat)), 1, (gt ((gt x0 k13).Row.Values) (x2.toNat))⟩ : DGroup)]), (A65, c66)) (subL_cons rfl (subL_cons rfl (subL_cons rfl (subL_cons rfl (subL_cons rfl (subL_cons rfl (subL_cons rfl (subL_cons rfl (subL_cons rfl (subL_cons rfl subL_nil)))))))))) (fun W hm => (hm.pick [1, 0] (by decide))) ⟨(by omega), hn83, (show (d48 ++ [(⟨(gt ((gt x0 k13).Set) k47), (gt ((gt x0 k13).Row.Values) (x1.toNat)), 1, (gt ((gt x0 k13).Row.Values) (x2.toNat))⟩ : DGroup)]).length ≤ d14.length + (k47 + 1) from by first | omega | (simp only [List.length_append, List.length_cons, List.length_nil] at *; omega))⟩ (show ((gt x0 k13).Set).length - (k47 + 1) < ((gt x0 k13).Set).length - k47 from by omega)
          · have g56 : (decide (((k47 : Nat) : Int) < ((((gt x0 k13).Set).length : Nat) : Int))) = false := decide_eq_false (by omega)
            refine CM_condF rfl g56 ?_
            refine CM_exit ?_
            refine QM_then_exit ?_
            refine QM_then_exit ?_
            have hE84 : rng (R := (List DGroup)) (fun k (s : (List DGroup)) => impl_GroupShared_b2 x0 x1 x2 k13 k s) (((gt x0 k13).Set).length - 0) 0 d14 = Sum.inr d48 := rng_end hl55 hF52
            refine QM_block_hit ?_
            refine QM_block_normal ?_
            refine QM_then ?_
            refine CM_region ?_
            refine wv (fun W hm => rv_addN (p := k13) (q := 1) rfl rfl (by omega)) ?_
            refine wm ?_
            refine WM_nil ?_
            have hn85 := rng_next (R := (List DGroup)) (body := (fun k (s : (List DGroup)) => impl_GroupShared_b1 x0 x1 x2 k s)) (k := k13) (s := d14) (s' := d48) (show k13 < x0.length from by omega) (show impl_GroupShared_b1 x0 x1 x2 k13 d14 = Sum.inr d48 from by unfold impl_GroupShared_b1; exact cond_t g46 (fin_inr hE84 (rfl))) hF18
            exact QM_round (k13 + 1, d48, (A49, c50)) (subL_cons rfl (subL_cons rfl (subL_cons rfl (subL_cons rfl (subL_cons rfl (subL_cons rfl subL_nil)))))) (fun W hm => (hm.pick [1] (by decide))) ⟨(by omega), hn85, (show d48.length ≤ ((x0.take (k13 + 1)).map fun (a : DAnnotated) => a.Set.length).sum from by omega)⟩ (show x0.length - (k13 + 1) < x0.length - k13 from by omega)
        ·
          refine CM_condT rfl (nf g46) ?_
          refine CM_exit ?_
          refine QM_then_exit ?_
          refine QM_block_hit ?_
          refine QM_then ?_
          refine CM_region ?_
          refine wv (fun W hm => rv_addN (p := k13) (q := 1) rfl rfl (by omega)) ?_
          refine wm ?_
          refine WM_nil ?_
          have hn86 := rng_next (R := (List DGroup)) (body := (fun k (s : (List DGroup)) => impl_GroupShared_b1 x0 x1 x2 k s)) (k := k13) (s := d14) (s' := d14) (show k13 < x0.length from by omega) (show impl_GroupShared_b1 x0 x1 x2 k13 d14 = Sum.inr d14 from by unfold impl_GroupShared_b1; exact cond_f g46 (rfl)) hF18
          exact QM_round (k13 + 1, d14, (A15, c16)) (subL_cons rfl (subL_cons rfl (subL_cons rfl (subL_cons rfl (subL_cons rfl (subL_cons rfl subL_nil)))))) (fun W hm => (hm.pick [1] (by decide))) ⟨(by omega), hn86, (show d14.length ≤ ((x0.take (k13 + 1)).map fun (a : DAnnotated) => a.Set.length).sum from by omega)⟩ (show x0.length - (k13 + 1) < x0.length - k13 from by omega)
      · have g22 : (decide (((k13 : Nat) : Int) < ((x0.length : Nat) : Int))) = false := decide_eq_false (by omega)
        refine CM_condF rfl g22 ?_
        refine CM_exit ?_
        refine QM_then_exit ?_
        refine QM_then_exit ?_
        have hE87 : rng (R := (List DGroup)) (fun k (s : (List DGroup)) => impl_GroupShared_b1 x0 x1 x2 k s) (x0.length - 0) 0 [] = Sum.inr d14 := rng_end hl21 hF18
        have hq3 := sum_take_le (w := fun (a : DAnnotated) => a.Set.length) (xs := x0) k13
        refine QM_block_hit ?_
        refine QM_then ?_
        refine sr ?_
        refine wm ?_
        refine WM_sort (E := tyGroup) (e := 117) (xs := d14) (cf := impl_compareGroups_m) (js := []) impl_compareGroups_ord (fun W hm => hm) rfl cb89 (cl_fn cb88 rfl) (fun W cs ds x y hx hy => impl_compareGroups_c W cs x ds y hx hy) (fun K hK is H ps W hm => srt88_sort_c K hK _ _ _ _ is H _ _ _ (by omega) ps W hm) (Wd_none rfl) (by decide) ?_
        refine nt' ?_
        refine sr ?_
        refine WM_build0 (E := tyGroup) Try.underlying54 Try.type117 (Wd_none rfl) (by decide) (fun p88 => ?_)
        refine wa ?_
        refine nt' ?_
        refine CM_seq ?_
        refine sr ?_
        refine wm ?_
        refine wv (fun W hm => rv_len Try.underlying54 rfl) ?_
        refine wm ?_
        refine nt' ?_
        refine CM_block ?_
        refine CM_loop (σ := Nat × ((List DGroup) × (List DGroup)) × (Option Addr × Nat)) (fun s => [(12, .slice s.2.2.1 s.2.1.1.length s.2.2.2), (64, .slice A15 d14.length c16), (65, .int .i64 ((d14.length : Nat) : Int)), (66, .int .i64 ((s.1 : Nat) : Int))]) (fun s => [iOwn (tSl tyGroup 117) [.slice s.2.2.1 s.2.1.1.length s.2.2.2] s.2.1.1, iOwn (tSl tyGroup 117) [.slice A15 d14.length c16] s.2.1.2]) (fun s => s.1 ≤ d14.length ∧ rng (R := (List DGroup)) (fun k (s : (List DGroup) × (List DGroup)) => impl_GroupShared_b3 k s.1 s.2) (d14.length - s.1) s.1 s.2.1 = rng (R := (List DGroup)) (fun k (s : (List DGroup) × (List DGroup)) => impl_GroupShared_b3 k s.1 s.2) (d14.length - 0) 0 ([], (stb (lt0 impl_compareGroups_m) d14)) ∧ s.2.1.1.length ≤ 0 + s.1) (fun s => d14.length - s.1) (0, ([], (stb (lt0 impl_compareGroups_m) d14)), ((some ⟨p88, 0, none⟩), 0)) (subL_cons rfl (subL_cons rfl (subL_cons rfl (subL_cons rfl subL_nil)))) (fun W hm => hm) ⟨(by omega), rfl, Nat.le_refl _⟩ ?_
        rintro ⟨k90, ⟨d91, d94⟩, ⟨A92, c93⟩⟩ H97
        obtain ⟨hk95, hF96, hi98⟩ : k90 ≤ d14.length ∧ rng (R := (List DGroup)) (fun k (s : (List DGroup) × (List DGroup)) => impl_GroupShared_b3 k s.1 s.2) (d14.length - k90) k90 (d91, d94) = rng (R := (List DGroup)) (fun k (s : (List DGroup) × (List DGroup)) => impl_GroupShared_b3 k s.1 s.2) (d14.length - 0) 0 ([], (stb (lt0 impl_compareGroups_m) d14)) ∧ d91.length ≤ 0 + k90 := H97
        show CM Try.prog 110 _ _ _ _ [(12, .slice A92 d91.length c93), (64, .slice A15 d14.length c16), (65, .int .i64 ((d14.length : Nat) : Int)), (66, .int .i64 ((k90 : Nat) : Int))] [iOwn (tSl tyGroup 117) [.slice A92 d91.length c93] d91, iOwn (tSl tyGroup 117) [.slice A15 d14.length c16] d94]
        refine sr ?_
        refine wv (fun W hm => rv_lss rfl rfl) ?_
        refine nt' ?_
        refine CM_seq ?_
        by_cases hl99 : k90 < d14.length
        · have g100 : (decide (((k90 : Nat) : Int) < ((d14.length : Nat) : Int))) = true := decide_eq_true (by omega)
          refine CM_condT rfl g100 ?_
          refine CM_skip ?_
          refine QM_then ?_
          refine CM_seq ?_
          refine CM_block ?_
          refine sr ?_
          refine WM_formO (n := 1) rfl (by omega) ?_
          rintro g101 rfl
          refine wv (fun W hm => rv_index (sz := 4) (k := k90) Try.underlying54 Try.type117 rfl rfl rfl (by omega)) ?_
          refine WM_focus (E := tyGroup) (e := 117) (A := (some ⟨g101, 0, none⟩)) (n := d14.length) (c := c16) (xs := d94) (k := k90) (js := [iOwn (tSl tyGroup 117) [.slice A92 d91.length c93] d91]) (by omega) (fun W hm => (hm.pick [1, 0] (by decide))) (fun ck102 => ?_)
          refine WM_split (γ := Unit) (js := fun _ => []) (C := fun _ => ck102 = [.int .i64 ((gt d94 k90).Query), .int .i64 ((gt d94 k90).Value), .int .i64 ((gt d94 k90).Count), .int .i64 ((gt d94 k90).Sum)]) (fun _ _ h => tyGroup_split h) ?_
          rintro ⟨⟩ rfl
          refine wv (fun W hm => rv_loadN (cs := [.int .i64 ((gt d94 k90).Query), .int .i64 ((gt d94 k90).Value), .int .i64 ((gt d94 k90).Count), .int .i64 ((gt d94 k90).Sum)]) Try.underlying117 Try.type117 rfl rfl (hm.focCells (i := 0) rfl rfl)) ?_
          refine WM_alloc Try.type117 rfl (Wd_none rfl) (by decide) (fun p103 => ?_)
          refine WM_storeBox (p := p103) (o := 0) (cs := [.int .i64 0, .int .i64 0, .int .i64 0, .int .i64 0]) (cs' := [.int .i64 ((gt d94 k90).Query), .int .i64 ((gt d94 k90).Value), .int .i64 ((gt d94 k90).Count), .int .i64 ((gt d94 k90).Sum)]) (js := [iFoc tyGroup 117 (some ⟨g101, 0, none⟩) d14.length c16 d94 k90 [.int .i64 ((gt d94 k90).Query), .int .i64 ((gt d94 k90).Value), .int .i64 ((gt d94 k90).Count), .int .i64 ((gt d94 k90).Sum)], iOwn (tSl tyGroup 117) [.slice A92 d91.length c93] d91]) (fun W hm => hm) Try.type117 rfl (Nat.le_of_ble_eq_true rfl) rfl rfl rfl rfl (Wd_none rfl) ?_
          refine nt' ?_
          refine sr ?_
          refine wm ?_
          refine wv (fun W hm => rv_len Try.underlying54 rfl) ?_
          refine wa ?_
          refine nt' ?_
          refine CM_seq ?_
          by_cases h104 : 0 < ((d91.length : Nat) : Int)
          · have g105 : (decide (0 < ((d91.length : Nat) : Int))) = true := decide_eq_true h104
            refine CM_formO (n := 2) rfl (by omega) ?_
            rintro g106 rfl
            refine CM_focus (E := tyGroup) (e := 117) (A := (some ⟨g106, 0, none⟩)) (n := d91.length) (c := c93) (xs := d91) (k := (d91.length - 1)) (js := [iBox p103 117 [.int .i64 ((gt d94 k90).Query), .int .i64 ((gt d94 k90).Value), .int .i64 ((gt d94 k90).Count), .int .i64 ((gt d94 k90).Sum)], iFoc tyGroup 117 (some ⟨g101, 0, none⟩) d14.length c16 d94 k90 [.int .i64 ((gt d94 k90).Query), .int .i64 ((gt d94 k90).Value), .int .i64 ((gt d94 k90).Count), .int .i64 ((gt d94 k90).Sum)]]) (by omega) (fun W hm => (hm.pick [2, 0, 1] (by decide))) (fun ck107 => ?_)
            refine CM_split (γ := Unit) (js := fun _ => []) (C := fun _ => ck107 = [.int .i64 ((gt d91 (d91.length - 1)).Query), .int .i64 ((gt d91 (d91.length - 1)).Value), .int .i64 ((gt d91 (d91.length - 1)).Count), .int .i64 ((gt d91 (d91.length - 1)).Sum)]) (fun _ _ h => tyGroup_split h) ?_
            rintro ⟨⟩ rfl
            refine CM_regionD (by kernel_rfl) (by kernel_rfl) ?_
            refine qm ?_
            refine qv (fun W hm => rv_gtr rfl rfl) ?_
            refine qm ?_
            refine qg (fun W hm => rv_move rfl) g105 ?_
            refine qg (fun W hm => rv_move rfl) g105 ?_
            refine qg (fun W hm => rv_subN (p := d91.length) (q := 1) rfl rfl (by omega) (by omega)) g105 ?_
            refine qg (fun W hm => rv_index (sz := 4) (k := d91.length - 1) Try.underlying54 Try.type117 rfl rfl rfl (by omega)) g105 ?_
            refine qg (fun W hm => rv_loadN (cs := [.int .i64 ((gt d91 (d91.length - 1)).Query), .int .i64 ((gt d91 (d91.length - 1)).Value), .int .i64 ((gt d91 (d91.length - 1)).Count), .int .i64 ((gt d91 (d91.length - 1)).Sum)]) Try.underlying117 Try.type117 rfl rfl (hm.focCells (i := 0) rfl rfl)) g105 ?_
            refine qg (fun W hm => rv_loadN (cs := [.int .i64 ((gt d94 k90).Query), .int .i64 ((gt d94 k90).Value), .int .i64 ((gt d94 k90).Count), .int .i64 ((gt d94 k90).Sum)]) Try.underlying117 Try.type117 rfl rfl (hm.boxCells (n := 1) rfl)) g105 ?_
            refine QR_callV (cl_fn cb89 rfl) (fun W hm => impl_compareGroups_c W _ (gt d91 (d91.length - 1)) _ (gt d94 k90) (tyGroup_mk (x := (gt d91 (d91.length - 1)))) (tyGroup_mk (x := (gt d94 k90)))) (Wd_some rfl rfl rfl (bw g105 rfl)) (by decide) ?_
            refine qg (fun W hm => rv_eql rfl rfl) g105 ?_
            refine qv (fun W hm => rv_pickT rfl g105 rfl) ?_
            refine nq' ?_
            by_cases h108 : (impl_compareGroups_m (gt d91 (d91.length - 1)) (gt d94 k90)) = 0
            · have g109 : ((impl_compareGroups_m (gt d91 (d91.length - 1)) (gt d94 k90)) == 0) = true := beq_iff_eq.2 h108
              refine CM_condT rfl g109 ?_
              refine sr ?_
              refine wm ?_
              refine wm ?_
              refine wv (fun W hm => rv_subN (p := d91.length) (q := 1) rfl rfl (by omega) (by omega)) ?_
              refine wv (fun W hm => rv_index (sz := 4) (k := d91.length - 1) Try.underlying54 Try.type117 rfl rfl rfl (by omega)) ?_
              refine wv (fun W hm => rv_field Try.underlying117 rfl Try.type3 (by decide) rfl rfl) ?_
              refine wv (fun W hm => rv_load Try.underlying3 rfl rfl (hm.focCells (i := 0) rfl rfl 2 _ rfl)) ?_
              refine wv (fun W hm => rv_add rfl rfl) ?_
              refine wv (fun W hm => rv_index (sz := 4) (k := d91.length - 1) Try.underlying54 Try.type117 rfl rfl rfl (by omega)) ?_
              refine wv (fun W hm => rv_field Try.underlying117 rfl Try.type3 (by decide) rfl rfl) ?_
              refine WM_storeFoc (E := tyGroup) (e := 117) (g := g106) (n := d91.length) (c := c93) (k := (d91.length - 1)) (s := 4) (o := 2) (xs := d91) (ck := [.int .i64 ((gt d91 (d91.length - 1)).Query), .int .i64 ((gt d91 (d91.length - 1)).Value), .int .i64 ((gt d91 (d91.length - 1)).Count), .int .i64 ((gt d91 (d91.length - 1)).Sum)]) (ck' := [.int .i64 ((gt d91 (d91.length - 1)).Query), .int .i64 ((gt d91 (d91.length - 1)).Value), .int .i64 (IntKind.i64.wrap (((gt d91 (d91.length - 1)).Count) + 1)), .int .i64 ((gt d91 (d91.length - 1)).Sum)]) (js := [iBox p103 117 [.int .i64 ((gt d94 k90).Query), .int .i64 ((gt d94 k90).Value), .int .i64 ((gt d94 k90).Count), .int .i64 ((gt d94 k90).Sum)], iFoc tyGroup 117 (some ⟨g101, 0, none⟩) d14.length c16 d94 k90 [.int .i64 ((gt d94 k90).Query), .int .i64 ((gt d94 k90).Value), .int .i64 ((gt d94 k90).Count), .int .i64 ((gt d94 k90).Sum)]]) (fun W hm => hm) rfl rfl Try.type3 rfl (Nat.le_of_ble_eq_true rfl) rfl rfl rfl rfl (Wd_none rfl) ?_
              refine nt' ?_
              refine CM_regionB (n := 12) (listed := #[false, false, false, false, false, false, false, false, false, false, false, false]) (s := [iBox p103 117 [.int .i64 ((gt d94 k90).Query), .int .i64 ((gt d94 k90).Value), .int .i64 ((gt d94 k90).Count), .int .i64 ((gt d94 k90).Sum)], iFoc tyGroup 117 (some ⟨g101, 0, none⟩) d14.length c16 d94 k90 [.int .i64 ((gt d94 k90).Query), .int .i64 ((gt d94 k90).Value), .int .i64 ((gt d94 k90).Count), .int .i64 ((gt d94 k90).Sum)]]) (by kernel_rfl) rfl (by kernel_rfl) (fun W hm => (hm.pick [1, 2] (by decide))) ?_
              refine QB_take 0 (listed' := #[true, false, false, false, false, false, false, false, false, false, false, false]) (by kernel_rfl) rfl (by kernel_rfl) (by kernel_rfl) (by kernel_rfl) (fun _ _ _ h => h) (fun W hm => rv_move rfl) (Wd_none rfl) rfl (by decide) ?_
              refine QB_take 1 (listed' := #[true, true, false, false, false, false, false, false, false, false, false, false]) (by kernel_rfl) rfl (by kernel_rfl) (by kernel_rfl) (by kernel_rfl) (fun _ _ _ h => h) (fun W hm => rv_move rfl) (Wd_none rfl) rfl (by decide) ?_
              refine QB_take 2 (listed' := #[true, true, true, false, false, false, false, false, false, false, false, false]) (by kernel_rfl) rfl (by kernel_rfl) (by kernel_rfl) (by kernel_rfl) (fun _ _ _ h => h) (fun W hm => rv_subN (p := d91.length) (q := 1) rfl rfl (by omega) (by omega)) (Wd_none rfl) rfl (by decide) ?_
              refine QB_take 3 (listed' := #[true, true, true, true, false, false, false, false, false, false, false, false]) (by kernel_rfl) rfl (by kernel_rfl) (by kernel_rfl) (by kernel_rfl) (fun _ _ _ h => h) (fun W hm => rv_index (sz := 4) (k := d91.length - 1) Try.underlying54 Try.type117 rfl rfl rfl (by omega)) (Wd_none rfl) rfl (by decide) ?_
              refine QB_take 4 (listed' := #[true, true, true, true, true, false, false, false, false, false, false, false]) (by kernel_rfl) rfl (by kernel_rfl) (by kernel_rfl) (by kernel_rfl) (fun _ _ _ h => h) (fun W hm => rv_field Try.underlying117 rfl Try.type3 (by decide) rfl rfl) (Wd_none rfl) rfl (by decide) ?_
              refine QB_take 6 (listed' := #[true, true, true, true, true, false, true, false, false, false, false, false]) (by kernel_rfl) rfl (by kernel_rfl) (by kernel_rfl) (by kernel_rfl) (fun _ _ _ h => h) (fun W hm => rv_field Try.underlying117 rfl Try.type3 (by decide) rfl rfl) (Wd_none rfl) rfl (by decide) ?_
              refine QB_take 7 (listed' := #[true, true, true, true, true, false, true, true, false, false, false, false]) (by kernel_rfl) rfl (by kernel_rfl) (by kernel_rfl) (by kernel_rfl) (fun _ _ _ h => h) (fun W hm => rv_load Try.underlying3 rfl rfl (hm.boxCell (n := 0) (o := 3) rfl rfl)) (Wd_none rfl) rfl (by decide) ?_
              refine QB_one 5 (listed' := #[true, true, true, true, true, true, true, true, false, false, false, false]) (by kernel_rfl) rfl (by kernel_rfl) ?_
              refine wv (fun W hm => rv_load Try.underlying3 rfl rfl (hm.focCells (i := 0) rfl rfl 3 _ rfl)) ?_
              refine WM_nil ?_
              refine QB_next (fun W hm => (hm.pick [1, 2] (by decide))) ?_
              refine QB_take 8 (listed' := #[true, true, true, true, true, true, true, true, true, false, false, false]) (by kernel_rfl) rfl (by kernel_rfl) (by kernel_rfl) (by kernel_rfl) (fun _ _ _ h => h) (fun W hm => rv_add rfl rfl) (Wd_none rfl) rfl (by decide) ?_
              refine QB_take 9 (listed' := #[true, true, true, true, true, true, true, true, true, true, false, false]) (by kernel_rfl) rfl (by kernel_rfl) (by kernel_rfl) (by kernel_rfl) (fun _ _ _ h => h) (fun W hm => rv_index (sz := 4) (k := d91.length - 1) Try.underlying54 Try.type117 rfl rfl rfl (by omega)) (Wd_none rfl) rfl (by decide) ?_
              refine QB_take 10 (listed' := #[true, true, true, true, true, true, true, true, true, true, true, false]) (by kernel_rfl) rfl (by kernel_rfl) (by kernel_rfl) (by kernel_rfl) (fun _ _ _ h => h) (fun W hm => rv_field Try.underlying117 rfl Try.type3 (by decide) rfl rfl) (Wd_none rfl) rfl (by decide) ?_
              refine QB_one 11 (listed' := #[true, true, true, true, true, true, true, true, true, true, true, true]) (by kernel_rfl) rfl (by kernel_rfl) ?_
              refine WM_storeFoc (E := tyGroup) (e := 117) (g := g106) (n := d91.length) (c := c93) (k := (d91.length - 1)) (s := 4) (o := 3) (xs := d91) (ck := [.int .i64 ((gt d91 (d91.length - 1)).Query), .int .i64 ((gt d91 (d91.length - 1)).Value), .int .i64 (IntKind.i64.wrap (((gt d91 (d91.length - 1)).Count) + 1)), .int .i64 ((gt d91 (d91.length - 1)).Sum)]) (ck' := [.int .i64 ((gt d91 (d91.length - 1)).Query), .int .i64 ((gt d91 (d91.length - 1)).Value), .int .i64 (IntKind.i64.wrap (((gt d91 (d91.length - 1)).Count) + 1)), .int .i64 (IntKind.i64.wrap (((gt d91 (d91.length - 1)).Sum) + ((gt d94 k90).Sum)))]) (js := [iBox p103 117 [.int .i64 ((gt d94 k90).Query), .int .i64 ((gt d94 k90).Value), .int .i64 ((gt d94 k90).Count), .int .i64 ((gt d94 k90).Sum)], iFoc tyGroup 117 (some ⟨g101, 0, none⟩) d14.length c16 d94 k90 [.int .i64 ((gt d94 k90).Query), .int .i64 ((gt d94 k90).Value), .int .i64 ((gt d94 k90).Count), .int .i64 ((gt d94 k90).Sum)]]) (fun W hm => hm) rfl rfl Try.type3 rfl (Nat.le_of_ble_eq_true rfl) rfl rfl rfl rfl (Wd_none rfl) ?_
              refine WM_nil ?_
              refine QB_next (fun W hm => (hm.pick [1, 2] (by decide))) ?_
              refine QB_done (by kernel_rfl) ?_
              refine QM_block_normal ?_
              refine QM_then ?_
              refine CM_region ?_
              refine wv (fun W hm => rv_addN (p := k90) (q := 1) rfl rfl (by omega)) ?_
              refine wm ?_
              refine WM_nil ?_
              refine QM_items (fun W hm => Mem.unfocus (Mem.join (is := []) (js := (iFoc tyGroup 117 (some ⟨g106, 0, none⟩) d91.length c93 d91 (d91.length - 1) [.int .i64 ((gt d91 (d91.length - 1)).Query), .int .i64 ((gt d91 (d91.length - 1)).Value), .int .i64 (IntKind.i64.wrap (((gt d91 (d91.length - 1)).Count) + 1)), .int .i64 (IntKind.i64.wrap (((gt d91 (d91.length - 1)).Sum) + ((gt d94 k90).Sum)))] :: [iBox p103 117 [.int .i64 ((gt d94 k90).Query), .int .i64 ((gt d94 k90).Value), .int .i64 ((gt d94 k90).Count), .int .i64 ((gt d94 k90).Sum)], iFoc tyGroup 117 (some ⟨g101, 0, none⟩) d14.length c16 d94 k90 [.int .i64 ((gt d94 k90).Query), .int .i64 ((gt d94 k90).Value), .int .i64 ((gt d94 k90).Count), .int .i64 ((gt d94 k90).Sum)]])) (fun _ _ hs => tyGroup_join (x := (⟨(gt d91 (d91.length - 1)).Query, (gt d91 (d91.length - 1)).Value, (IntKind.i64.wrap (((gt d91 (d91.length - 1)).Count) + 1)), (IntKind.i64.wrap (((gt d91 (d91.length - 1)).Sum) + ((gt d94 k90).Sum)))⟩ : DGroup)) hs) hm)) ?_
              refine QM_items (fun W hm => Mem.unfocus0 (Mem.join (is := []) (js := (iFoc tyGroup 117 (some ⟨g101, 0, none⟩) d14.length c16 d94 k90 [.int .i64 ((gt d94 k90).Query), .int .i64 ((gt d94 k90).Value), .int .i64 ((gt d94 k90).Count), .int .i64 ((gt d94 k90).Sum)] :: [iOwn (tSl tyGroup 117) [.slice (some ⟨g106, 0, none⟩) d91.length c93] (impl_GroupShared_v1 k90 d91 d94), iBox p103 117 [.int .i64 ((gt d94 k90).Query), .int .i64 ((gt d94 k90).Value), .int .i64 ((gt d94 k90).Count), .int .i64 ((gt d94 k90).Sum)]])) (fun _ _ hs => tyGroup_join (x := (gt d94 k90)) hs) (hm.pick [2, 0, 1] (by decide)))) ?_
              have hl110 : d91.length = (impl_GroupShared_v1 k90 d91 d94).length := by first | rfl | exact List.length_set.symm
              rw [hl110]
              have hn111 := rng_next (R := (List DGroup)) (body := (fun k (s : (List DGroup) × (List DGroup)) => impl_GroupShared_b3 k s.1 s.2)) (k := k90) (s := (d91, d94)) (s' := ((impl_GroupShared_v1 k90 d91 d94), d94)) (show k90 < d14.length from by omega) (show impl_GroupShared_b3 k90 d91 d94 = Sum.inr ((impl_GroupShared_v1 k90 d91 d94), d94) from by unfold impl_GroupShared_b3; exact cond_t g105 (cond_t g109 (rfl))) hF96
              exact QM_round (k90 + 1, ((impl_GroupShared_v1 k90 d91 d94), d94), ((some ⟨g106, 0, none⟩), c93)) (subL_cons rfl (subL_cons rfl (subL_cons rfl (subL_cons rfl subL_nil)))) (fun W hm => (hm.pick [1, 0] (by decide))) ⟨(by omega), hn111, (show (impl_GroupShared_v1 k90 d91 d94).length ≤ 0 + (k90 + 1) from by first | omega | (simp only [List.length_append, List.length_cons, List.length_nil] at *; omega))⟩ (show d14.length - (k90 + 1) < d14.length - k90 from by omega)
            · have g109 : ((impl_compareGroups_m (gt d91 (d91.length - 1)) (gt d94 k90)) == 0) = false := beq_eq_false_iff_ne.2 h108
              refine CM_condF rfl g109 ?_
              refine CM_region ?_
              refine wm ?_
              refine wv (fun W hm => rv_loadN (cs := [.int .i64 ((gt d94 k90).Query), .int .i64 ((gt d94 k90).Value), .int .i64 ((gt d94 k90).Count), .int .i64 ((gt d94 k90).Sum)]) Try.underlying117 Try.type117 rfl rfl (hm.boxCells (n := 1) rfl)) ?_
              refine WM_build (cs := [.int .i64 ((gt d94 k90).Query), .int .i64 ((gt d94 k90).Value), .int .i64 ((gt d94 k90).Count), .int .i64 ((gt d94 k90).Sum)]) Try.underlying54 Try.type117 rfl (by decide) (by decide) rfl (by kernel_rfl) (Wd_none rfl) (by decide) (fun p112 => ?_)
              refine WM_items (fun W hm => Mem.unfocus0 (Mem.join (is := []) (js := (iFoc tyGroup 117 (some ⟨g106, 0, none⟩) d91.length c93 d91 (d91.length - 1) [.int .i64 ((gt d91 (d91.length - 1)).Query), .int .i64 ((gt d91 (d91.length - 1)).Value), .int .i64 ((gt d91 (d91.length - 1)).Count), .int .i64 ((gt d91 (d91.length - 1)).Sum)] :: [iBox p112 117 [.int .i64 ((gt d94 k90).Query), .int .i64 ((gt d94 k90).Value), .int .i64 ((gt d94 k90).Count), .int .i64 ((gt d94 k90).Sum)], iBox p103 117 [.int .i64 ((gt d94 k90).Query), .int .i64 ((gt d94 k90).Value), .int .i64 ((gt d94 k90).Count), .int .i64 ((gt d94 k90).Sum)], iFoc tyGroup 117 (some ⟨g101, 0, none⟩) d14.length c16 d94 k90 [.int .i64 ((gt d94 k90).Query), .int .i64 ((gt d94 k90).Value), .int .i64 ((gt d94 k90).Count), .int .i64 ((gt d94 k90).Sum)]])) (fun _ _ hs => tyGroup_join (x := (gt d91 (d91.length - 1))) hs) (hm.pick [1, 0, 2, 3] (by decide)))) ?_
              refine WM_append (E := tyGroup) (e := 117) (v := .slice (some ⟨g106, 0, none⟩) d91.length c93) (p := p112) (q := 1) (xs := d91) (ys := [(gt d94 k90)]) (eis := []) (js := [iBox p103 117 [.int .i64 ((gt d94 k90).Query), .int .i64 ((gt d94 k90).Value), .int .i64 ((gt d94 k90).Count), .int .i64 ((gt d94 k90).Sum)], iFoc tyGroup 117 (some ⟨g101, 0, none⟩) d14.length c16 d94 k90 [.int .i64 ((gt d94 k90).Query), .int .i64 ((gt d94 k90).Value), .int .i64 ((gt d94 k90).Count), .int .i64 ((gt d94 k90).Sum)]]) (news := [.int .i64 ((gt d94 k90).Query), .int .i64 ((gt d94 k90).Value), .int .i64 ((gt d94 k90).Count), .int .i64 ((gt d94 k90).Sum)]) (fun W hm => (hm.pick [1, 0, 2, 3] (by decide))) (fun _ _ hs => by cases (Sep.nil hs); exact (els_cons (tyGroup_join (x := (gt d94 k90)) (L := []) rfl) els_nil)) Try.underlying54 Try.type117 rfl rfl rfl (Nat.le_of_ble_eq_true rfl) rfl rfl rfl (show (d91.length + 1) * 32 ≤ 140737488355328 from by omega) (show d91.length + 1 ≤ 9223372036854775807 from by omega) (Wd_none rfl) (by decide) (fun v113 => ?_)
              refine WM_form (n := 0) rfl ?_
              rintro A114 c115 rfl m116
              refine wa ?_
              refine WM_nil ?_
              refine QM_block_normal ?_
              refine QM_then ?_
              refine CM_region ?_
              refine wv (fun W hm => rv_addN (p := k90) (q := 1) rfl rfl (by omega)) ?_
              refine wm ?_
              refine WM_nil ?_
              refine QM_items (fun W hm => Mem.unfocus0 (Mem.join (is := []) (js := (iFoc tyGroup 117 (some ⟨g101, 0, none⟩) d14.length c16 d94 k90 [.int .i64 ((gt d94 k90).Query), .int .i64 ((gt d94 k90).Value), .int .i64 ((gt d94 k90).Count), .int .i64 ((gt d94 k90).Sum)] :: [iOwn (tSl tyGroup 117) [.slice A114 (d91 ++ [(gt d94 k90)]).length c115] (d91 ++ [(gt d94 k90)]), iBox p103 117 [.int .i64 ((gt d94 k90).Query), .int .i64 ((gt d94 k90).Value), .int .i64 ((gt d94 k90).Count), .int .i64 ((gt d94 k90).Sum)]])) (fun _ _ hs => tyGroup_join (x := (gt d94 k90)) hs) (hm.pick [2, 0, 1] (by decide)))) ?_
              have hn118 := rng_next (R := (List DGroup)) (body := (fun k (s : (List DGroup) × (List DGroup)) => impl_GroupShared_b3 k s.1 s.2)) (k := k90) (s := (d91, d94)) (s' := ((d91 ++ [(gt d94 k90)]), d94)) (show k90 < d14.length from by omega) (show impl_GroupShared_b3 k90 d91 d94 = Sum.inr ((d91 ++ [(gt d94 k90)]), d94) from by unfold impl_GroupShared_b3; exact cond_t g105 (cond_f g109 (rfl))) hF96
              exact QM_round (k90 + 1, ((d91 ++ [(gt d94 k90)]), d94), (A114, c115)) (subL_cons rfl (subL_cons rfl (subL_cons rfl (subL_cons rfl subL_nil)))) (fun W hm => (hm.pick [1, 0] (by decide))) ⟨(by omega), hn118, (show (d91 ++ [(gt d94 k90)]).length ≤ 0 + (k90 + 1) from by first | omega | (simp only [List.length_append, List.length_cons, List.length_nil] at *; omega))⟩ (show d14.length - (k90 + 1) < d14.length - k90 from by omega)
          · have g105 : (decide (0 < ((d91.length : Nat) : Int))) = false := decide_eq_false h104
            refine CM_regionD (by kernel_rfl) (by kernel_rfl) ?_
            refine qm ?_
            refine qv (fun W hm => rv_gtr rfl rfl) ?_
            refine qm ?_
            refine qs g105 ?_
            refine qs g105 ?_
            refine qs g105 ?_
            refine qs g105 ?_
            refine qs g105 ?_
            refine qs g105 ?_
            refine qs g105 ?_
            refine qs g105 ?_
            refine qv (fun W hm => rv_pickF rfl g105 rfl) ?_
            refine nq' ?_
            refine CM_condF rfl rfl ?_
            refine CM_region ?_
            refine wm ?_
            refine wv (fun W hm => rv_loadN (cs := [.int .i64 ((gt d94 k90).Query), .int .i64 ((gt d94 k90).Value), .int .i64 ((gt d94 k90).Count), .int .i64 ((gt d94 k90).Sum)]) Try.underlying117 Try.type117 rfl rfl (hm.boxCells (n := 0) rfl)) ?_
            refine WM_build (cs := [.int .i64 ((gt d94 k90).Query), .int .i64 ((gt d94 k90).Value), .int .i64 ((gt d94 k90).Count), .int .i64 ((gt d94 k90).Sum)]) Try.underlying54 Try.type117 rfl (by decide) (by decide) rfl (by kernel_rfl) (Wd_none rfl) (by decide) (fun p119 => ?_)
            refine WM_append (E := tyGroup) (e := 117) (v := .slice A92 d91.length c93) (p := p119) (q := 1) (xs := d91) (ys := [(gt d94 k90)]) (eis := []) (js := [iBox p103 117 [.int .i64 ((gt d94 k90).Query), .int .i64 ((gt d94 k90).Value), .int .i64 ((gt d94 k90).Count), .int .i64 ((gt d94 k90).Sum)], iFoc tyGroup 117 (some ⟨g101, 0, none⟩) d14.length c16 d94 k90 [.int .i64 ((gt d94 k90).Query), .int .i64 ((gt d94 k90).Value), .int .i64 ((gt d94 k90).Count), .int .i64 ((gt d94 k90).Sum)]]) (news := [.int .i64 ((gt d94 k90).Query), .int .i64 ((gt d94 k90).Value), .int .i64 ((gt d94 k90).Count), .int .i64 ((gt d94 k90).Sum)]) (fun W hm => (hm.pick [0, 3, 1, 2] (by decide))) (fun _ _ hs => by cases (Sep.nil hs); exact (els_cons (tyGroup_join (x := (gt d94 k90)) (L := []) rfl) els_nil)) Try.underlying54 Try.type117 rfl rfl rfl (Nat.le_of_ble_eq_true rfl) rfl rfl rfl (show (d91.length + 1) * 32 ≤ 140737488355328 from by omega) (show d91.length + 1 ≤ 9223372036854775807 from by omega) (Wd_none rfl) (by decide) (fun v120 => ?_)
            refine WM_form (n := 0) rfl ?_
            rintro A121 c122 rfl m123
            refine wa ?_
            refine WM_nil ?_
            refine QM_block_normal ?_
            refine QM_then ?_
            refine CM_region ?_
            refine wv (fun W hm => rv_addN (p := k90) (q := 1) rfl rfl (by omega)) ?_
            refine wm ?_
            refine WM_nil ?_
            refine QM_items (fun W hm => Mem.unfocus0 (Mem.join (is := []) (js := (iFoc tyGroup 117 (some ⟨g101, 0, none⟩) d14.length c16 d94 k90 [.int .i64 ((gt d94 k90).Query), .int .i64 ((gt d94 k90).Value), .int .i64 ((gt d94 k90).Count), .int .i64 ((gt d94 k90).Sum)] :: [iOwn (tSl tyGroup 117) [.slice A121 (d91 ++ [(gt d94 k90)]).length c122] (d91 ++ [(gt d94 k90)]), iBox p103 117 [.int .i64 ((gt d94 k90).Query), .int .i64 ((gt d94 k90).Value), .int .i64 ((gt d94 k90).Count), .int .i64 ((gt d94 k90).Sum)]])) (fun _ _ hs => tyGroup_join (x := (gt d94 k90)) hs) (hm.pick [2, 0, 1] (by decide)))) ?_
            have hn125 := rng_next (R := (List DGroup)) (body := (fun k (s : (List DGroup) × (List DGroup)) => impl_GroupShared_b3 k s.1 s.2)) (k := k90) (s := (d91, d94)) (s' := ((d91 ++ [(gt d94 k90)]), d94)) (show k90 < d14.length from by omega) (show impl_GroupShared_b3 k90 d91 d94 = Sum.inr ((d91 ++ [(gt d94 k90)]), d94) from by unfold impl_GroupShared_b3; exact cond_f g105 (rfl)) hF96
            exact QM_round (k90 + 1, ((d91 ++ [(gt d94 k90)]), d94), (A121, c122)) (subL_cons rfl (subL_cons rfl (subL_cons rfl (subL_cons rfl subL_nil)))) (fun W hm => (hm.pick [1, 0] (by decide))) ⟨(by omega), hn125, (show (d91 ++ [(gt d94 k90)]).length ≤ 0 + (k90 + 1) from by first | omega | (simp only [List.length_append, List.length_cons, List.length_nil] at *; omega))⟩ (show d14.length - (k90 + 1) < d14.length - k90 from by omega)
        · have g100 : (decide (((k90 : Nat) : Int) < ((d14.length : Nat) : Int))) = false := decide_eq_false (by omega)
          refine CM_condF rfl g100 ?_
          refine CM_exit ?_
          refine QM_then_exit ?_
          refine QM_then_exit ?_
          have hE126 : rng (R := (List DGroup)) (fun k (s : (List DGroup) × (List DGroup)) => impl_GroupShared_b3 k s.1 s.2) (d14.length - 0) 0 ([], (stb (lt0 impl_compareGroups_m) d14)) = Sum.inr (d91, d94) := rng_end hl99 hF96
          refine QM_block_hit ?_
          refine QM_then ?_
          refine sr ?_
          refine wm ?_
          refine wa ?_
          refine nt' ?_
          refine CM_ret ?_
          refine QM_r1 rfl (RR_tmp rfl) (fun W hm => ⟨.slice A92 d91.length c93, ?_, ?_⟩)
          · first | rw [(show impl_GroupShared_m x0 x1 x2 = d91 from by unfold impl_GroupShared_m; exact cond_t g8 (cond_t g10 (fin_inr hE87 (fin_inr hE126 (rfl)))))] | rfl
          · rw [(show impl_GroupShared_m x0 x1 x2 = d91 from by unfold impl_GroupShared_m; exact cond_t g8 (cond_t g10 (fin_inr hE87 (fin_inr hE126 (rfl)))))]; exact (hm.pick [0] (by decide))
    ·
      refine CM_condT rfl (nf g10) ?_
      refine sr ?_
      refine wa ?_
      refine nt' ?_
      refine CM_ret ?_
      refine QM_then_ret ?_
      refine QM_items (fun W hm => hm.addNil (E := tyGroup) (e := 117)) ?_
      refine QM_r1 rfl (RR_tmp rfl) (fun W hm => ⟨.slice none 0 0, ?_, ?_⟩)
      · first | rw [(show impl_GroupShared_m x0 x1 x2 = [] from by unfold impl_GroupShared_m; exact cond_t g8 (cond_f g10 (rfl)))] | rfl
      · rw [(show impl_GroupShared_m x0 x1 x2 = [] from by unfold impl_GroupShared_m; exact cond_t g8 (cond_f g10 (rfl)))]; exact hm
  ·
    refine ws (nf g8) ?_
    refine ws (nf g8) ?_
    refine ws (nf g8) ?_
    refine wv (fun W hm => rv_pickT rfl (nf g8) rfl) ?_
    refine nt' ?_
    refine CM_condT rfl rfl ?_
    refine sr ?_
    refine wa ?_
    refine nt' ?_
    refine CM_ret ?_
    refine QM_then_ret ?_
    refine QM_items (fun W hm => hm.addNil (E := tyGroup) (e := 117)) ?_
    refine QM_r1 rfl (RR_tmp rfl) (fun W hm => ⟨.slice none 0 0, ?_, ?_⟩)
    · first | rw [(show impl_GroupShared_m x0 x1 x2 = [] from by unfold impl_GroupShared_m; exact cond_f g8 (rfl))] | rfl
    · rw [(show impl_GroupShared_m x0 x1 x2 = [] from by unfold impl_GroupShared_m; exact cond_f g8 (rfl))]; exact hm

def laws_eqGroup_m (x0 : DGroup) (x1 : DGroup) : Bool :=
  cond (x0.Query != x1.Query) false (cond (x0.Value != x1.Value) false (cond (x0.Count != x1.Count) false (cond (x0.Sum != x1.Sum) false true)))
set_option maxRecDepth 100000 in
theorem cb85 : Cb Try.prog 85 := ⟨Try.f85, _, Try.func85, rfl, by decide⟩
set_option maxRecDepth 10000 in
set_option maxHeartbeats 4000000 in
theorem laws_eqGroup_c (w : World) (z0 : List Value) (x0 : DGroup) (z1 : List Value) (x1 : DGroup) (r_0 : tyGroup.rd w w.heap.size z0 x0) (r_1 : tyGroup.rd w w.heap.size z1 x1) :
    Calls Try.prog 85 #[.agg z0.toArray, .agg z1.toArray] w fun e w' => e = .returned (.bool (laws_eqGroup_m x0 x1)) ∧ Below w.heap.size w w' := by
  obtain rfl := tyGroup_rd r_0
  obtain rfl := tyGroup_rd r_1
  refine call_enterM (L := [(0, .agg #[.int .i64 x0.Query, .int .i64 x0.Value, .int .i64 x0.Count, .int .i64 x0.Sum]), (1, .agg #[.int .i64 x1.Query, .int .i64 x1.Value, .int .i64 x1.Count, .int .i64 x1.Sum])]) (N := 25) Try.func85 rfl rfl (Nat.le_of_ble_eq_true rfl) (argsL_cons rfl (argsL_cons rfl argsL_nil)) ?_
  refine sr ?_
  refine WM_box rfl (Wd_none rfl) (by decide) (fun p1 => ?_)
  refine WM_box rfl (Wd_none rfl) (by decide) (fun p2 => ?_)
  refine wa ?_
  refine nt' ?_
  refine CM_seq ?_
  refine sr ?_
  refine wv (fun W hm => rv_field Try.underlying117 rfl Try.type3 (by decide) rfl rfl) ?_
  refine wv (fun W hm => rv_load Try.underlying3 rfl rfl (hm.boxCell (n := 1) (o := 0) rfl rfl)) ?_
  refine wv (fun W hm => rv_field Try.underlying117 rfl Try.type3 (by decide) rfl rfl) ?_
  refine wv (fun W hm => rv_load Try.underlying3 rfl rfl (hm.boxCell (n := 0) (o := 0) rfl rfl)) ?_
  refine wv (fun W hm => rv_neq rfl rfl) ?_
  refine nt' ?_
  by_cases h3 : x0.Query = x1.Query
  · have g4 : (x0.Query != x1.Query) = false := by rw [h3]; exact bne_self_eq_false _
    refine CM_condF rfl g4 ?_
    refine CM_skip ?_
    refine QM_then ?_
    refine CM_seq ?_
    refine sr ?_
    refine wv (fun W hm => rv_field Try.underlying117 rfl Try.type3 (by decide) rfl rfl) ?_
    refine wv (fun W hm => rv_load Try.underlying3 rfl rfl (hm.boxCell (n := 1) (o := 1) rfl rfl)) ?_
    refine wv (fun W hm => rv_field Try.underlying117 rfl Try.type3 (by decide) rfl rfl) ?_
    refine wv (fun W hm => rv_load Try.underlying3 rfl rfl (hm.boxCell (n := 0) (o := 1) rfl rfl)) ?_
    refine wv (fun W hm => rv_neq rfl rfl) ?_
    refine nt' ?_
    by_cases h5 : x0.Value = x1.Value
    · have g6 : (x0.Value != x1.Value) = false := by rw [h5]; exact bne_self_eq_false _
      refine CM_condF rfl g6 ?_
      refine CM_skip ?_
      refine QM_then ?_
      refine CM_seq ?_
      refine sr ?_
      refine wv (fun W hm => rv_field Try.underlying117 rfl Try.type3 (by decide) rfl rfl) ?_
      refine wv (fun W hm => rv_load Try.underlying3 rfl rfl (hm.boxCell (n := 1) (o := 2) rfl rfl)) ?_
      refine wv (fun W hm => rv_field Try.underlying117 rfl Try.type3 (by decide) rfl rfl) ?_
      refine wv (fun W hm => rv_load Try.underlying3 rfl rfl (hm.boxCell (n := 0) (o := 2) rfl rfl)) ?_
      refine wv (fun W hm => rv_neq rfl rfl) ?_
      refine nt' ?_
      by_cases h7 : x0.Count = x1.Count
      · have g8 : (x0.Count != x1.Count) = false := by rw [h7]; exact bne_self_eq_false _
        refine CM_condF rfl g8 ?_
        refine CM_skip ?_
        refine QM_then ?_
        refine CM_seq ?_
        refine sr ?_
        refine wv (fun W hm => rv_field Try.underlying117 rfl Try.type3 (by decide) rfl rfl) ?_
        refine wv (fun W hm => rv_load Try.underlying3 rfl rfl (hm.boxCell (n := 1) (o := 3) rfl rfl)) ?_
        refine wv (fun W hm => rv_field Try.underlying117 rfl Try.type3 (by decide) rfl rfl) ?_
        refine wv (fun W hm => rv_load Try.underlying3 rfl rfl (hm.boxCell (n := 0) (o := 3) rfl rfl)) ?_
        refine wv (fun W hm => rv_neq rfl rfl) ?_
        refine nt' ?_
        by_cases h9 : x0.Sum = x1.Sum
        · have g10 : (x0.Sum != x1.Sum) = false := by rw [h9]; exact bne_self_eq_false _
          refine CM_condF rfl g10 ?_
          refine CM_skip ?_
          refine QM_then ?_
          refine sr ?_
          refine wa ?_
          refine nt' ?_
          refine CM_ret ?_
          exact QM_ret1 rfl rfl (fun W hm => ⟨ret_b (show laws_eqGroup_m x0 x1 = true from by unfold laws_eqGroup_m; exact cond_f g4 (cond_f g6 (cond_f g8 (cond_f g10 (rfl))))), hm.below⟩)
        · have g10 : (x0.Sum != x1.Sum) = true := bne_iff_ne.2 h9
          refine CM_condT rfl g10 ?_
          refine sr ?_
          refine wa ?_
          refine nt' ?_
          refine CM_ret ?_
          refine QM_then_ret ?_
          exact QM_ret1 rfl rfl (fun W hm => ⟨ret_b (show laws_eqGroup_m x0 x1 = false from by unfold laws_eqGroup_m; exact cond_f g4 (cond_f g6 (cond_f g8 (cond_t g10 (rfl))))), hm.below⟩)
      · have g8 : (x0.Count != x1.Count) = true := bne_iff_ne.2 h7
        refine CM_condT rfl g8 ?_
        refine sr ?_
        refine wa ?_
        refine nt' ?_
        refine CM_ret ?_
        refine QM_then_ret ?_
        exact QM_ret1 rfl rfl (fun W hm => ⟨ret_b (show laws_eqGroup_m x0 x1 = false from by unfold laws_eqGroup_m; exact cond_f g4 (cond_f g6 (cond_t g8 (rfl)))), hm.below⟩)
    · have g6 : (x0.Value != x1.Value) = true := bne_iff_ne.2 h5
      refine CM_condT rfl g6 ?_
      refine sr ?_
      refine wa ?_
      refine nt' ?_
      refine CM_ret ?_
      refine QM_then_ret ?_
      exact QM_ret1 rfl rfl (fun W hm => ⟨ret_b (show laws_eqGroup_m x0 x1 = false from by unfold laws_eqGroup_m; exact cond_f g4 (cond_t g6 (rfl))), hm.below⟩)
  · have g4 : (x0.Query != x1.Query) = true := bne_iff_ne.2 h3
    refine CM_condT rfl g4 ?_
    refine sr ?_
    refine wa ?_
    refine nt' ?_
    refine CM_ret ?_
    refine QM_then_ret ?_
    exact QM_ret1 rfl rfl (fun W hm => ⟨ret_b (show laws_eqGroup_m x0 x1 = false from by unfold laws_eqGroup_m; exact cond_t g4 (rfl)), hm.below⟩)

def laws_eqGroupS_b1 (x0 : (List DGroup)) (x1 : (List DGroup)) (k13 : Nat) : Bool ⊕ (Unit) :=
  cond (laws_eqGroup_m (gt x0 k13) (gt x1 k13)) (Sum.inr ()) (Sum.inl false)
def laws_eqGroupS_m (x0 : (List DGroup)) (x1 : (List DGroup)) : Bool :=
  cond (((x0.length : Nat) : Int) != ((x1.length : Nat) : Int)) false (Sum.elim id (fun (s : Unit) => true) (rng (R := Bool) (fun k (_ : Unit) => laws_eqGroupS_b1 x0 x1 k) (x0.length - 0) 0 ()))
set_option maxRecDepth 100000 in
theorem cb37 : Cb Try.prog 37 := ⟨Try.f37, _, Try.func37, rfl, by decide⟩
set_option maxRecDepth 10000 in
set_option maxHeartbeats 4000000 in
theorem laws_eqGroupS_c (w : World) (z0 : Value) (x0 : (List DGroup)) (z1 : Value) (x1 : (List DGroup)) (r_0 : rdS tyGroup w w.heap.size z0 x0) (r_1 : rdS tyGroup w w.heap.size z1 x1) :
    Calls Try.prog 37 #[z0, z1] w fun e w' => e = .returned (.bool (laws_eqGroupS_m x0 x1)) ∧ Below w.heap.size w w' := by
  have r5 := r_0
  obtain ⟨m1, A2, c3, rfl, q4⟩ := r_0
  have r10 := r_1
  obtain ⟨m6, A7, c8, rfl, q9⟩ := r_1
  refine call_enterM (L := [(0, .slice A2 x0.length c3), (1, .slice A7 x1.length c8)]) (N := 27) Try.func37 rfl rfl (Nat.le_of_ble_eq_true rfl) (argsL_cons rfl (argsL_cons rfl argsL_nil)) ?_
  refine sr ?_
  refine wa ?_
  refine nt' ?_
  refine CM_seq ?_
  refine sr ?_
  refine wm ?_
  refine wv (fun W hm => rv_len Try.underlying54 rfl) ?_
  refine wm ?_
  refine wv (fun W hm => rv_len Try.underlying54 rfl) ?_
  refine wv (fun W hm => rv_neq rfl rfl) ?_
  refine nt' ?_
  by_cases h11 : ((x0.length : Nat) : Int) = ((x1.length : Nat) : Int)
  · have g12 : (((x0.length : Nat) : Int) != ((x1.length : Nat) : Int)) = false := by rw [h11]; exact bne_self_eq_false _
    refine CM_condF rfl g12 ?_
    refine CM_skip ?_
    refine QM_then ?_
    refine CM_seq ?_
    refine sr ?_
    refine wa ?_
    refine nt' ?_
    refine CM_block ?_
    refine CM_loop (σ := Nat × (Unit) × (Unit)) (fun s => [(0, .slice A2 x0.length c3), (1, .slice A7 x1.length c8), (5, .int .i64 ((s.1 : Nat) : Int))]) (fun s => []) (fun s => s.1 ≤ x0.length ∧ rng (R := Bool) (fun k (_ : Unit) => laws_eqGroupS_b1 x0 x1 k) (x0.length - s.1) s.1 s.2.1 = rng (R := Bool) (fun k (_ : Unit) => laws_eqGroupS_b1 x0 x1 k) (x0.length - 0) 0 ()) (fun s => x0.length - s.1) (0, (), ()) (subL_cons rfl (subL_cons rfl (subL_cons rfl subL_nil))) (fun W hm => hm) ⟨(by omega), rfl⟩ ?_
    rintro ⟨k13, ⟨⟩, ⟨⟩⟩ H16
    obtain ⟨hk14, hF15⟩ : k13 ≤ x0.length ∧ rng (R := Bool) (fun k (_ : Unit) => laws_eqGroupS_b1 x0 x1 k) (x0.length - k13) k13 () = rng (R := Bool) (fun k (_ : Unit) => laws_eqGroupS_b1 x0 x1 k) (x0.length - 0) 0 () := H16
    show CM Try.prog 27 _ _ _ _ [(0, .slice A2 x0.length c3), (1, .slice A7 x1.length c8), (5, .int .i64 ((k13 : Nat) : Int))] []
    refine CM_seq ?_
    refine sr ?_
    refine wm ?_
    refine wm ?_
    refine wv (fun W hm => rv_len Try.underlying54 rfl) ?_
    refine wv (fun W hm => rv_lss rfl rfl) ?_
    refine nt' ?_
    by_cases hl17 : k13 < x0.length
    · have g18 : (decide (((k13 : Nat) : Int) < ((x0.length : Nat) : Int))) = true := decide_eq_true (by omega)
      refine CM_condT rfl g18 ?_
      refine CM_skip ?_
      refine QM_then ?_
      refine CM_seq ?_
      refine CM_block ?_
      refine CM_seq ?_
      refine CM_regionD (by kernel_rfl) (by kernel_rfl) ?_
      refine qm ?_
      refine qm ?_
      obtain ⟨a19, rfl, hb20, he21⟩ := q4 (by omega)
      refine qv (fun W hm => rv_index (sz := 4) (k := k13) Try.underlying54 Try.type117 rfl rfl rfl (by omega)) ?_
      obtain ⟨_, e23, hc22⟩ := he21 k13 _ (gt_some (show k13 < x0.length from by omega))
      obtain rfl := tyGroup_rd e23
      refine qv (fun W hm => rv_loadN (cs := [.int .i64 ((gt x0 k13).Query), .int .i64 ((gt x0 k13).Value), .int .i64 ((gt x0 k13).Count), .int .i64 ((gt x0 k13).Sum)]) Try.underlying117 Try.type117 rfl rfl (hm.elCells (show (a19.add (k13 * 4)).block < w.heap.size from by rw [add_block]; exact hb20.1) hc22)) ?_
      refine qm ?_
      refine qm ?_
      obtain ⟨a24, rfl, hb25, he26⟩ := q9 (by omega)
      refine qv (fun W hm => rv_index (sz := 4) (k := k13) Try.underlying54 Try.type117 rfl rfl rfl (by omega)) ?_
      obtain ⟨_, e28, hc27⟩ := he26 k13 _ (gt_some (show k13 < x1.length from by omega))
      obtain rfl := tyGroup_rd e28
      refine qv (fun W hm => rv_loadN (cs := [.int .i64 ((gt x1 k13).Query), .int .i64 ((gt x1 k13).Value), .int .i64 ((gt x1 k13).Count), .int .i64 ((gt x1 k13).Sum)]) Try.underlying117 Try.type117 rfl rfl (hm.elCells (show (a24.add (k13 * 4)).block < w.heap.size from by rw [add_block]; exact hb25.1) hc27)) ?_
      refine QR_callV (cl_fn cb85 rfl) (fun W hm => laws_eqGroup_c W _ (gt x0 k13) _ (gt x1 k13) (tyGroup_mk (x := (gt x0 k13))) (tyGroup_mk (x := (gt x1 k13)))) (Wd_none rfl) (by decide) ?_
      refine qv (fun W hm => rv_not rfl) ?_
      refine nq' ?_
      rcases Bool.eq_false_or_eq_true (laws_eqGroup_m (gt x0 k13) (gt x1 k13)) with g30 | g30
      ·
        refine CM_condF rfl (nt g30) ?_
        refine CM_skip ?_
        refine QM_block_normal ?_
        refine QM_then ?_
        refine CM_region ?_
        refine wm ?_
        refine wv (fun W hm => rv_addN (p := k13) (q := 1) rfl rfl (by omega)) ?_
        refine wa ?_
        refine WM_nil ?_
        have hn31 := rng_next (R := Bool) (body := (fun k (_ : Unit) => laws_eqGroupS_b1 x0 x1 k)) (k := k13) (s := ()) (s' := ()) (show k13 < x0.length from by omega) (show laws_eqGroupS_b1 x0 x1 k13 = Sum.inr () from by unfold laws_eqGroupS_b1; exact cond_t g30 (rfl)) hF15
        exact QM_round (k13 + 1, (), ()) (subL_cons rfl (subL_cons rfl (subL_cons rfl subL_nil))) (fun W hm => hm) ⟨(by omega), hn31⟩ (show x0.length - (k13 + 1) < x0.length - k13 from by omega)
      ·
        refine CM_condT rfl (nf g30) ?_
        refine sr ?_
        refine wa ?_
        refine nt' ?_
        refine CM_ret ?_
        refine QM_block_ret ?_
        refine QM_then_ret ?_
        refine QM_then_ret ?_
        refine QM_block_ret ?_
        refine QM_then_ret ?_
        exact QM_ret1 rfl rfl (fun W hm => ⟨ret_b (show laws_eqGroupS_m x0 x1 = false from by unfold laws_eqGroupS_m; exact cond_f g12 (fin_inl (rng_ret (body := (fun k (_ : Unit) => laws_eqGroupS_b1 x0 x1 k)) (k := k13) (s := ()) (show k13 < x0.length from by omega) (show laws_eqGroupS_b1 x0 x1 k13 = Sum.inl false from by unfold laws_eqGroupS_b1; exact cond_f g30 (rfl)) hF15) rfl)), hm.below⟩)
    · have g18 : (decide (((k13 : Nat) : Int) < ((x0.length : Nat) : Int))) = false := decide_eq_false (by omega)
      refine CM_condF rfl g18 ?_
      refine CM_exit ?_
      refine QM_then_exit ?_
      refine QM_then_exit ?_
      have hE32 : rng (R := Bool) (fun k (_ : Unit) => laws_eqGroupS_b1 x0 x1 k) (x0.length - 0) 0 () = Sum.inr () := rng_end hl17 hF15
      refine QM_block_hit ?_
      refine QM_then ?_
      refine sr ?_
      refine wa ?_
      refine nt' ?_
      refine CM_ret ?_
      exact QM_ret1 rfl rfl (fun W hm => ⟨ret_b (show laws_eqGroupS_m x0 x1 = true from by unfold laws_eqGroupS_m; exact cond_f g12 (fin_inr hE32 (rfl))), hm.below⟩)
  · have g12 : (((x0.length : Nat) : Int) != ((x1.length : Nat) : Int)) = true := bne_iff_ne.2 h11
    refine CM_condT rfl g12 ?_
    refine sr ?_
    refine wa ?_
    refine nt' ?_
    refine CM_ret ?_
    refine QM_then_ret ?_
    exact QM_ret1 rfl rfl (fun W hm => ⟨ret_b (show laws_eqGroupS_m x0 x1 = false from by unfold laws_eqGroupS_m; exact cond_t g12 (rfl)), hm.below⟩)

def laws_eqIntS_b1 (x0 : (List Int)) (x1 : (List Int)) (k13 : Nat) : Bool ⊕ (Unit) :=
  cond ((gt x0 k13) != (gt x1 k13)) (Sum.inl false) (Sum.inr ())
def laws_eqIntS_m (x0 : (List Int)) (x1 : (List Int)) : Bool :=
  cond (((x0.length : Nat) : Int) != ((x1.length : Nat) : Int)) false (Sum.elim id (fun (s : Unit) => true) (rng (R := Bool) (fun k (_ : Unit) => laws_eqIntS_b1 x0 x1 k) (x0.length - 0) 0 ()))
set_option maxRecDepth 100000 in
theorem cb23 : Cb Try.prog 23 := ⟨Try.f23, _, Try.func23, rfl, by decide⟩
set_option maxRecDepth 10000 in
set_option maxHeartbeats 4000000 in
theorem laws_eqIntS_c (w : World) (z0 : Value) (x0 : (List Int)) (z1 : Value) (x1 : (List Int)) (r_0 : rdS tInt w w.heap.size z0 x0) (r_1 : rdS tInt w w.heap.size z1 x1) :
    Calls Try.prog 23 #[z0, z1] w fun e w' => e = .returned (.bool (laws_eqIntS_m x0 x1)) ∧ Below w.heap.size w w' := by
  have r5 := r_0
  obtain ⟨m1, A2, c3, rfl, q4⟩ := r_0
  have r10 := r_1
  obtain ⟨m6, A7, c8, rfl, q9⟩ := r_1
  refine call_enterM (L := [(0, .slice A2 x0.length c3), (1, .slice A7 x1.length c8)]) (N := 26) Try.func23 rfl rfl (Nat.le_of_ble_eq_true rfl) (argsL_cons rfl (argsL_cons rfl argsL_nil)) ?_
  refine sr ?_
  refine wa ?_
  refine nt' ?_
  refine CM_seq ?_
  refine sr ?_
  refine wm ?_
  refine wv (fun W hm => rv_len Try.underlying33 rfl) ?_
  refine wm ?_
  refine wv (fun W hm => rv_len Try.underlying33 rfl) ?_
  refine wv (fun W hm => rv_neq rfl rfl) ?_
  refine nt' ?_
  by_cases h11 : ((x0.length : Nat) : Int) = ((x1.length : Nat) : Int)
  · have g12 : (((x0.length : Nat) : Int) != ((x1.length : Nat) : Int)) = false := by rw [h11]; exact bne_self_eq_false _
    refine CM_condF rfl g12 ?_
    refine CM_skip ?_
    refine QM_then ?_
    refine CM_seq ?_
    refine sr ?_
    refine wa ?_
    refine nt' ?_
    refine CM_block ?_
    refine CM_loop (σ := Nat × (Unit) × (Unit)) (fun s => [(0, .slice A2 x0.length c3), (1, .slice A7 x1.length c8), (5, .int .i64 ((s.1 : Nat) : Int))]) (fun s => []) (fun s => s.1 ≤ x0.length ∧ rng (R := Bool) (fun k (_ : Unit) => laws_eqIntS_b1 x0 x1 k) (x0.length - s.1) s.1 s.2.1 = rng (R := Bool) (fun k (_ : Unit) => laws_eqIntS_b1 x0 x1 k) (x0.length - 0) 0 ()) (fun s => x0.length - s.1) (0, (), ()) (subL_cons rfl (subL_cons rfl (subL_cons rfl subL_nil))) (fun W hm => hm) ⟨(by omega), rfl⟩ ?_
    rintro ⟨k13, ⟨⟩, ⟨⟩⟩ H16
    obtain ⟨hk14, hF15⟩ : k13 ≤ x0.length ∧ rng (R := Bool) (fun k (_ : Unit) => laws_eqIntS_b1 x0 x1 k) (x0.length - k13) k13 () = rng (R := Bool) (fun k (_ : Unit) => laws_eqIntS_b1 x0 x1 k) (x0.length - 0) 0 () := H16
    show CM Try.prog 26 _ _ _ _ [(0, .slice A2 x0.length c3), (1, .slice A7 x1.length c8), (5, .int .i64 ((k13 : Nat) : Int))] []
    refine CM_seq ?_
    refine sr ?_
    refine wm ?_
    refine wm ?_
    refine wv (fun W hm => rv_len Try.underlying33 rfl) ?_
    refine wv (fun W hm => rv_lss rfl rfl) ?_
    refine nt' ?_
    by_cases hl17 : k13 < x0.length
    · have g18 : (decide (((k13 : Nat) : Int) < ((x0.length : Nat) : Int))) = true := decide_eq_true (by omega)
      refine CM_condT rfl g18 ?_
      refine CM_skip ?_
      refine QM_then ?_
      refine CM_seq ?_
      refine CM_block ?_
      refine CM_seq ?_
      refine CM_regionD (by kernel_rfl) (by kernel_rfl) ?_
      refine qm ?_
      refine qm ?_
      obtain ⟨a19, rfl, hb20, he21⟩ := q4 (by omega)
      refine qv (fun W hm => rv_index (sz := 1) (k := k13) Try.underlying33 Try.type3 rfl rfl rfl (by omega)) ?_
      refine qv (fun W hm => rv_load Try.underlying3 rfl rfl ((hm.cell0 (show (a19.add (k13 * 1)).block < w.heap.size from by rw [add_block]; exact hb20.1)).trans (rdS_int he21 k13 (by omega)))) ?_
      refine qm ?_
      refine qm ?_
      obtain ⟨a22, rfl, hb23, he24⟩ := q9 (by omega)
      refine qv (fun W hm => rv_index (sz := 1) (k := k13) Try.underlying33 Try.type3 rfl rfl rfl (by omega)) ?_
      refine qv (fun W hm => rv_load Try.underlying3 rfl rfl ((hm.cell0 (show (a22.add (k13 * 1)).block < w.heap.size from by rw [add_block]; exact hb23.1)).trans (rdS_int he24 k13 (by omega)))) ?_
      refine qv (fun W hm => rv_neq rfl rfl) ?_
      refine nq' ?_
      by_cases h25 : (gt x0 k13) = (gt x1 k13)
      · have g26 : ((gt x0 k13) != (gt x1 k13)) = false := by rw [h25]; exact bne_self_eq_false _
        refine CM_condF rfl g26 ?_
        refine CM_skip ?_
        refine QM_block_normal ?_
        refine QM_then ?_
        refine CM_region ?_
        refine wm ?_
        refine wv (fun W hm => rv_addN (p := k13) (q := 1) rfl rfl (by omega)) ?_
        refine wa ?_
        refine WM_nil ?_
        have hn27 := rng_next (R := Bool) (body := (fun k (_ : Unit) => laws_eqIntS_b1 x0 x1 k)) (k := k13) (s := ()) (s' := ()) (show k13 < x0.length from by omega) (show laws_eqIntS_b1 x0 x1 k13 = Sum.inr () from by unfold laws_eqIntS_b1; exact cond_f g26 (rfl)) hF15
        exact QM_round (k13 + 1, (), ()) (subL_cons rfl (subL_cons rfl (subL_cons rfl subL_nil))) (fun W hm => hm) ⟨(by omega), hn27⟩ (show x0.length - (k13 + 1) < x0.length - k13 from by omega)
      · have g26 : ((gt x0 k13) != (gt x1 k13)) = true := bne_iff_ne.2 h25
        refine CM_condT rfl g26 ?_
        refine sr ?_
        refine wa ?_
        refine nt' ?_
        refine CM_ret ?_
        refine QM_block_ret ?_
        refine QM_then_ret ?_
        refine QM_then_ret ?_
        refine QM_block_ret ?_
        refine QM_then_ret ?_
        exact QM_ret1 rfl rfl (fun W hm => ⟨ret_b (show laws_eqIntS_m x0 x1 = false from by unfold laws_eqIntS_m; exact cond_f g12 (fin_inl (rng_ret (body := (fun k (_ : Unit) => laws_eqIntS_b1 x0 x1 k)) (k := k13) (s := ()) (show k13 < x0.length from by omega) (show laws_eqIntS_b1 x0 x1 k13 = Sum.inl false from by unfold laws_eqIntS_b1; exact cond_t g26 (rfl)) hF15) rfl)), hm.below⟩)
    · have g18 : (decide (((k13 : Nat) : Int) < ((x0.length : Nat) : Int))) = false := decide_eq_false (by omega)
      refine CM_condF rfl g18 ?_
      refine CM_exit ?_
      refine QM_then_exit ?_
      refine QM_then_exit ?_
      have hE28 : rng (R := Bool) (fun k (_ : Unit) => laws_eqIntS_b1 x0 x1 k) (x0.length - 0) 0 () = Sum.inr () := rng_end hl17 hF15
      refine QM_block_hit ?_
      refine QM_then ?_
      refine sr ?_
      refine wa ?_
      refine nt' ?_
      refine CM_ret ?_
      exact QM_ret1 rfl rfl (fun W hm => ⟨ret_b (show laws_eqIntS_m x0 x1 = true from by unfold laws_eqIntS_m; exact cond_f g12 (fin_inr hE28 (rfl))), hm.below⟩)
  · have g12 : (((x0.length : Nat) : Int) != ((x1.length : Nat) : Int)) = true := bne_iff_ne.2 h11
    refine CM_condT rfl g12 ?_
    refine sr ?_
    refine wa ?_
    refine nt' ?_
    refine CM_ret ?_
    refine QM_then_ret ?_
    exact QM_ret1 rfl rfl (fun W hm => ⟨ret_b (show laws_eqIntS_m x0 x1 = false from by unfold laws_eqIntS_m; exact cond_t g12 (rfl)), hm.below⟩)

def laws_eqRow_m (x0 : DRow) (x1 : DRow) : Bool :=
  cond (x0.Id != x1.Id) false (cond (laws_eqIntS_m x0.Values x1.Values) true false)
set_option maxRecDepth 100000 in
theorem cb62 : Cb Try.prog 62 := ⟨Try.f62, _, Try.func62, rfl, by decide⟩
set_option maxRecDepth 10000 in
set_option maxHeartbeats 4000000 in
theorem laws_eqRow_c (w : World) (z0 : List Value) (x0 : DRow) (z1 : List Value) (x1 : DRow) (r_0 : tyRow.rd w w.heap.size z0 x0) (r_1 : tyRow.rd w w.heap.size z1 x1) :
    Calls Try.prog 62 #[.agg z0.toArray, .agg z1.toArray] w fun e w' => e = .returned (.bool (laws_eqRow_m x0 x1)) ∧ Below w.heap.size w w' := by
  obtain ⟨v1, rfl, r2⟩ := tyRow_rd r_0
  have r7 := r2
  obtain ⟨m3, A4, c5, rfl, q6⟩ := r2
  obtain ⟨v8, rfl, r9⟩ := tyRow_rd r_1
  have r14 := r9
  obtain ⟨m10, A11, c12, rfl, q13⟩ := r9
  refine call_enterM (L := [(0, .agg #[.int .i64 x0.Id, .slice A4 x0.Values.length c5]), (1, .agg #[.int .i64 x1.Id, .slice A11 x1.Values.length c12])]) (N := 16) Try.func62 rfl rfl (Nat.le_of_ble_eq_true rfl) (argsL_cons rfl (argsL_cons rfl argsL_nil)) ?_
  refine sr ?_
  refine WM_box rfl (Wd_none rfl) (by decide) (fun p15 => ?_)
  refine WM_box rfl (Wd_none rfl) (by decide) (fun p16 => ?_)
  refine wa ?_
  refine nt' ?_
  refine CM_seq ?_
  refine sr ?_
  refine wv (fun W hm => rv_field Try.underlying69 rfl Try.type3 (by decide) rfl rfl) ?_
  refine wv (fun W hm => rv_load Try.underlying3 rfl rfl (hm.boxCell (n := 1) (o := 0) rfl rfl)) ?_
  refine wv (fun W hm => rv_field Try.underlying69 rfl Try.type3 (by decide) rfl rfl) ?_
  refine wv (fun W hm => rv_load Try.underlying3 rfl rfl (hm.boxCell (n := 0) (o := 0) rfl rfl)) ?_
  refine wv (fun W hm => rv_neq rfl rfl) ?_
  refine nt' ?_
  by_cases h17 : x0.Id = x1.Id
  · have g18 : (x0.Id != x1.Id) = false := by rw [h17]; exact bne_self_eq_false _
    refine CM_condF rfl g18 ?_
    refine CM_skip ?_
    refine QM_then ?_
    refine CM_seq ?_
    refine sr ?_
    refine wv (fun W hm => rv_field Try.underlying69 rfl Try.type33 (by decide) rfl rfl) ?_
    refine wv (fun W hm => rv_load Try.underlying33 rfl rfl (hm.boxCell (n := 1) (o := 1) rfl rfl)) ?_
    refine wv (fun W hm => rv_field Try.underlying69 rfl Try.type33 (by decide) rfl rfl) ?_
    refine wv (fun W hm => rv_load Try.underlying33 rfl rfl (hm.boxCell (n := 0) (o := 1) rfl rfl)) ?_
    refine WM_callV (cl_fn cb23 rfl) (fun W hm => laws_eqIntS_c W _ x0.Values _ x1.Values (hm.rdS0 r7) (hm.rdS0 r14)) (Wd_none rfl) (by decide) ?_
    refine wv (fun W hm => rv_not rfl) ?_
    refine nt' ?_
    rcases Bool.eq_false_or_eq_true (laws_eqIntS_m x0.Values x1.Values) with g20 | g20
    ·
      refine CM_condF rfl (nt g20) ?_
      refine CM_skip ?_
      refine QM_then ?_
      refine sr ?_
      refine wa ?_
      refine nt' ?_
      refine CM_ret ?_
      exact QM_ret1 rfl rfl (fun W hm => ⟨ret_b (show laws_eqRow_m x0 x1 = true from by unfold laws_eqRow_m; exact cond_f g18 (cond_t g20 (rfl))), hm.below⟩)
    ·
      refine CM_condT rfl (nf g20) ?_
      refine sr ?_
      refine wa ?_
      refine nt' ?_
      refine CM_ret ?_
      refine QM_then_ret ?_
      exact QM_ret1 rfl rfl (fun W hm => ⟨ret_b (show laws_eqRow_m x0 x1 = false from by unfold laws_eqRow_m; exact cond_f g18 (cond_f g20 (rfl))), hm.below⟩)
  · have g18 : (x0.Id != x1.Id) = true := bne_iff_ne.2 h17
    refine CM_condT rfl g18 ?_
    refine sr ?_
    refine wa ?_
    refine nt' ?_
    refine CM_ret ?_
    refine QM_then_ret ?_
    exact QM_ret1 rfl rfl (fun W hm => ⟨ret_b (show laws_eqRow_m x0 x1 = false from by unfold laws_eqRow_m; exact cond_t g18 (rfl)), hm.below⟩)

def laws_eqAnnotated_m (x0 : DAnnotated) (x1 : DAnnotated) : Bool :=
  cond (laws_eqRow_m x0.Row x1.Row) (cond (laws_eqIntS_m x0.Set x1.Set) true false) false
set_option maxRecDepth 100000 in
theorem cb63 : Cb Try.prog 63 := ⟨Try.f63, _, Try.func63, rfl, by decide⟩
set_option maxRecDepth 10000 in
set_option maxHeartbeats 4000000 in
theorem laws_eqAnnotated_c (w : World) (z0 : List Value) (x0 : DAnnotated) (z1 : List Value) (x1 : DAnnotated) (r_0 : tyAnnotated.rd w w.heap.size z0 x0) (r_1 : tyAnnotated.rd w w.heap.size z1 x1) :
    Calls Try.prog 63 #[.agg z0.toArray, .agg z1.toArray] w fun e w' => e = .returned (.bool (laws_eqAnnotated_m x0 x1)) ∧ Below w.heap.size w w' := by
  obtain ⟨v1, v3, rfl, r2, r4⟩ := tyAnnotated_rd r_0
  have r9 := r2
  obtain ⟨m5, A6, c7, rfl, q8⟩ := r2
  have r14 := r4
  obtain ⟨m10, A11, c12, rfl, q13⟩ := r4
  obtain ⟨v15, v17, rfl, r16, r18⟩ := tyAnnotated_rd r_1
  have r23 := r16
  obtain ⟨m19, A20, c21, rfl, q22⟩ := r16
  have r28 := r18
  obtain ⟨m24, A25, c26, rfl, q27⟩ := r18
  refine call_enterM (L := [(0, .agg #[.int .i64 x0.Row.Id, .slice A6 x0.Row.Values.length c7, .slice A11 x0.Set.length c12]), (1, .agg #[.int .i64 x1.Row.Id, .slice A20 x1.Row.Values.length c21, .slice A25 x1.Set.length c26])]) (N := 17) Try.func63 rfl rfl (Nat.le_of_ble_eq_true rfl) (argsL_cons rfl (argsL_cons rfl argsL_nil)) ?_
  refine sr ?_
  refine WM_box rfl (Wd_none rfl) (by decide) (fun p29 => ?_)
  refine WM_box rfl (Wd_none rfl) (by decide) (fun p30 => ?_)
  refine wa ?_
  refine nt' ?_
  refine CM_seq ?_
  refine sr ?_
  refine wv (fun W hm => rv_field Try.underlying91 rfl Try.type69 (by decide) rfl rfl) ?_
  refine wv (fun W hm => rv_loadN (cs := [.int .i64 x0.Row.Id, .slice A6 x0.Row.Values.length c7]) Try.underlying69 Try.type69 rfl rfl (hm.boxPart (n := 1) rfl rfl)) ?_
  refine wv (fun W hm => rv_field Try.underlying91 rfl Try.type69 (by decide) rfl rfl) ?_
  refine wv (fun W hm => rv_loadN (cs := [.int .i64 x1.Row.Id, .slice A20 x1.Row.Values.length c21]) Try.underlying69 Try.type69 rfl rfl (hm.boxPart (n := 0) rfl rfl)) ?_
  refine WM_callV (cl_fn cb62 rfl) (fun W hm => laws_eqRow_c W _ x0.Row _ x1.Row (tyRow_mk (x := x0.Row) (hm.rdS0 r9)) (tyRow_mk (x := x1.Row) (hm.rdS0 r23))) (Wd_none rfl) (by decide) ?_
  refine wv (fun W hm => rv_not rfl) ?_
  refine nt' ?_
  rcases Bool.eq_false_or_eq_true (laws_eqRow_m x0.Row x1.Row) with g32 | g32
  ·
    refine CM_condF rfl (nt g32) ?_
    refine CM_skip ?_
    refine QM_then ?_
    refine CM_seq ?_
    refine sr ?_
    refine wv (fun W hm => rv_field Try.underlying91 rfl Try.type33 (by decide) rfl rfl) ?_
    refine wv (fun W hm => rv_load Try.underlying33 rfl rfl (hm.boxCell (n := 1) (o := 2) rfl rfl)) ?_
    refine wv (fun W hm => rv_field Try.underlying91 rfl Try.type33 (by decide) rfl rfl) ?_
    refine wv (fun W hm => rv_load Try.underlying33 rfl rfl (hm.boxCell (n := 0) (o := 2) rfl rfl)) ?_
    refine WM_callV (cl_fn cb23 rfl) (fun W hm => laws_eqIntS_c W _ x0.Set _ x1.Set (hm.rdS0 r14) (hm.rdS0 r28)) (Wd_none rfl) (by decide) ?_
    refine wv (fun W hm => rv_not rfl) ?_
    refine nt' ?_
    rcases Bool.eq_false_or_eq_true (laws_eqIntS_m x0.Set x1.Set) with g34 | g34
    ·
      refine CM_condF rfl (nt g34) ?_
      refine CM_skip ?_
      refine QM_then ?_
      refine sr ?_
      refine wa ?_
      refine nt' ?_
      refine CM_ret ?_
      exact QM_ret1 rfl rfl (fun W hm => ⟨ret_b (show laws_eqAnnotated_m x0 x1 = true from by unfold laws_eqAnnotated_m; exact cond_t g32 (cond_t g34 (rfl))), hm.below⟩)
    ·
      refine CM_condT rfl (nf g34) ?_
      refine sr ?_
      refine wa ?_
      refine nt' ?_
      refine CM_ret ?_
      refine QM_then_ret ?_
      exact QM_ret1 rfl rfl (fun W hm => ⟨ret_b (show laws_eqAnnotated_m x0 x1 = false from by unfold laws_eqAnnotated_m; exact cond_t g32 (cond_f g34 (rfl))), hm.below⟩)
  ·
    refine CM_condT rfl (nf g32) ?_
    refine sr ?_
    refine wa ?_
    refine nt' ?_
    refine CM_ret ?_
    refine QM_then_ret ?_
    exact QM_ret1 rfl rfl (fun W hm => ⟨ret_b (show laws_eqAnnotated_m x0 x1 = false from by unfold laws_eqAnnotated_m; exact cond_f g32 (rfl)), hm.below⟩)

def laws_eqAnnotatedS_b1 (x0 : (List DAnnotated)) (x1 : (List DAnnotated)) (k13 : Nat) : Bool ⊕ (Unit) :=
  cond (laws_eqAnnotated_m (gt x0 k13) (gt x1 k13)) (Sum.inr ()) (Sum.inl false)
def laws_eqAnnotatedS_m (x0 : (List DAnnotated)) (x1 : (List DAnnotated)) : Bool :=
  cond (((x0.length : Nat) : Int) != ((x1.length : Nat) : Int)) false (Sum.elim id (fun (s : Unit) => true) (rng (R := Bool) (fun k (_ : Unit) => laws_eqAnnotatedS_b1 x0 x1 k) (x0.length - 0) 0 ()))
set_option maxRecDepth 100000 in
theorem cb16 : Cb Try.prog 16 := ⟨Try.f16, _, Try.func16, rfl, by decide⟩
set_option maxRecDepth 10000 in
set_option maxHeartbeats 4000000 in
theorem laws_eqAnnotatedS_c (w : World) (z0 : Value) (x0 : (List DAnnotated)) (z1 : Value) (x1 : (List DAnnotated)) (r_0 : rdS tyAnnotated w w.heap.size z0 x0) (r_1 : rdS tyAnnotated w w.heap.size z1 x1) :
    Calls Try.prog 16 #[z0, z1] w fun e w' => e = .returned (.bool (laws_eqAnnotatedS_m x0 x1)) ∧ Below w.heap.size w w' := by
  have r5 := r_0
  obtain ⟨m1, A2, c3, rfl, q4⟩ := r_0
  have r10 := r_1
  obtain ⟨m6, A7, c8, rfl, q9⟩ := r_1
  refine call_enterM (L := [(0, .slice A2 x0.length c3), (1, .slice A7 x1.length c8)]) (N := 27) Try.func16 rfl rfl (Nat.le_of_ble_eq_true rfl) (argsL_cons rfl (argsL_cons rfl argsL_nil)) ?_
  refine sr ?_
  refine wa ?_
  refine nt' ?_
  refine CM_seq ?_
  refine sr ?_
  refine wm ?_
  refine wv (fun W hm => rv_len Try.underlying26 rfl) ?_
  refine wm ?_
  refine wv (fun W hm => rv_len Try.underlying26 rfl) ?_
  refine wv (fun W hm => rv_neq rfl rfl) ?_
  refine nt' ?_
  by_cases h11 : ((x0.length : Nat) : Int) = ((x1.length : Nat) : Int)
  · have g12 : (((x0.length : Nat) : Int) != ((x1.length : Nat) : Int)) = false := by rw [h11]; exact bne_self_eq_false _
    refine CM_condF rfl g12 ?_
    refine CM_skip ?_
    refine QM_then ?_
    refine CM_seq ?_
    refine sr ?_
    refine wa ?_
    refine nt' ?_
    refine CM_block ?_
    refine CM_loop (σ := Nat × (Unit) × (Unit)) (fun s => [(0, .slice A2 x0.length c3), (1, .slice A7 x1.length c8), (5, .int .i64 ((s.1 : Nat) : Int))]) (fun s => []) (fun s => s.1 ≤ x0.length ∧ rng (R := Bool) (fun k (_ : Unit) => laws_eqAnnotatedS_b1 x0 x1 k) (x0.length - s.1) s.1 s.2.1 = rng (R := Bool) (fun k (_ : Unit) => laws_eqAnnotatedS_b1 x0 x1 k) (x0.length - 0) 0 ()) (fun s => x0.length - s.1) (0, (), ()) (subL_cons rfl (subL_cons rfl (subL_cons rfl subL_nil))) (fun W hm => hm) ⟨(by omega), rfl⟩ ?_
    rintro ⟨k13, ⟨⟩, ⟨⟩⟩ H16
    obtain ⟨hk14, hF15⟩ : k13 ≤ x0.length ∧ rng (R := Bool) (fun k (_ : Unit) => laws_eqAnnotatedS_b1 x0 x1 k) (x0.length - k13) k13 () = rng (R := Bool) (fun k (_ : Unit) => laws_eqAnnotatedS_b1 x0 x1 k) (x0.length - 0) 0 () := H16
    show CM Try.prog 27 _ _ _ _ [(0, .slice A2 x0.length c3), (1, .slice A7 x1.length c8), (5, .int .i64 ((k13 : Nat) : Int))] []
    refine CM_seq ?_
    refine sr ?_
    refine wm ?_
    refine wm ?_
    refine wv (fun W hm => rv_len Try.underlying26 rfl) ?_
    refine wv (fun W hm => rv_lss rfl rfl) ?_
    refine nt' ?_
    by_cases hl17 : k13 < x0.length
    · have g18 : (decide (((k13 : Nat) : Int) < ((x0.length : Nat) : Int))) = true := decide_eq_true (by omega)
      refine CM_condT rfl g18 ?_
      refine CM_skip ?_
      refine QM_then ?_
      refine CM_seq ?_
      refine CM_block ?_
      refine CM_seq ?_
      refine CM_regionD (by kernel_rfl) (by kernel_rfl) ?_
      refine qm ?_
      refine qm ?_
      obtain ⟨a19, rfl, hb20, he21⟩ := q4 (by omega)
      refine qv (fun W hm => rv_index (sz := 3) (k := k13) Try.underlying26 Try.type91 rfl rfl rfl (by omega)) ?_
      obtain ⟨_, e27, hc22⟩ := he21 k13 _ (gt_some (show k13 < x0.length from by omega))
      obtain ⟨v23, v25, rfl, r24, r26⟩ := tyAnnotated_rd e27
      have r32 := r24
      obtain ⟨m28, A29, c30, rfl, q31⟩ := r24
      have r37 := r26
      obtain ⟨m33, A34, c35, rfl, q36⟩ := r26
      refine qv (fun W hm => rv_loadN (cs := [.int .i64 ((gt x0 k13).Row.Id), .slice A29 ((gt x0 k13).Row.Values).length c30, .slice A34 ((gt x0 k13).Set).length c35]) Try.underlying91 Try.type91 rfl rfl (hm.elCells (show (a19.add (k13 * 3)).block < w.heap.size from by rw [add_block]; exact hb20.1) hc22)) ?_
      refine qm ?_
      refine qm ?_
      obtain ⟨a38, rfl, hb39, he40⟩ := q9 (by omega)
      refine qv (fun W hm => rv_index (sz := 3) (k := k13) Try.underlying26 Try.type91 rfl rfl rfl (by omega)) ?_
      obtain ⟨_, e46, hc41⟩ := he40 k13 _ (gt_some (show k13 < x1.length from by omega))
      obtain ⟨v42, v44, rfl, r43, r45⟩ := tyAnnotated_rd e46
      have r51 := r43
      obtain ⟨m47, A48, c49, rfl, q50⟩ := r43
      have r56 := r45
      obtain ⟨m52, A53, c54, rfl, q55⟩ := r45
      refine qv (fun W hm => rv_loadN (cs := [.int .i64 ((gt x1 k13).Row.Id), .slice A48 ((gt x1 k13).Row.Values).length c49, .slice A53 ((gt x1 k13).Set).length c54]) Try.underlying91 Try.type91 rfl rfl (hm.elCells (show (a38.add (k13 * 3)).block < w.heap.size from by rw [add_block]; exact hb39.1) hc41)) ?_
      refine QR_callV (cl_fn cb63 rfl) (fun W hm => laws_eqAnnotated_c W _ (gt x0 k13) _ (gt x1 k13) (tyAnnotated_mk (x := (gt x0 k13)) (hm.rdS0 r32) (hm.rdS0 r37)) (tyAnnotated_mk (x := (gt x1 k13)) (hm.rdS0 r51) (hm.rdS0 r56))) (Wd_none rfl) (by decide) ?_
      refine qv (fun W hm => rv_not rfl) ?_
      refine nq' ?_
      rcases Bool.eq_false_or_eq_true (laws_eqAnnotated_m (gt x0 k13) (gt x1 k13)) with g58 | g58
      ·
        refine CM_condF rfl (nt g58) ?_
        refine CM_skip ?_
        refine QM_block_normal ?_
        refine QM_then ?_
        refine CM_region ?_
        refine wm ?_
        refine wv (fun W hm => rv_addN (p := k13) (q := 1) rfl rfl (by omega)) ?_
        refine wa ?_
        refine WM_nil ?_
        have hn59 := rng_next (R := Bool) (body := (fun k (_ : Unit) => laws_eqAnnotatedS_b1 x0 x1 k)) (k := k13) (s := ()) (s' := ()) (show k13 < x0.length from by omega) (show laws_eqAnnotatedS_b1 x0 x1 k13 = Sum.inr () from by unfold laws_eqAnnotatedS_b1; exact cond_t g58 (rfl)) hF15
        exact QM_round (k13 + 1, (), ()) (subL_cons rfl (subL_cons rfl (subL_cons rfl subL_nil))) (fun W hm => hm) ⟨(by omega), hn59⟩ (show x0.length - (k13 + 1) < x0.length - k13 from by omega)
      ·
        refine CM_condT rfl (nf g58) ?_
        refine sr ?_
        refine wa ?_
        refine nt' ?_
        refine CM_ret ?_
        refine QM_block_ret ?_
        refine QM_then_ret ?_
        refine QM_then_ret ?_
        refine QM_block_ret ?_
        refine QM_then_ret ?_
        exact QM_ret1 rfl rfl (fun W hm => ⟨ret_b (show laws_eqAnnotatedS_m x0 x1 = false from by unfold laws_eqAnnotatedS_m; exact cond_f g12 (fin_inl (rng_ret (body := (fun k (_ : Unit) => laws_eqAnnotatedS_b1 x0 x1 k)) (k := k13) (s := ()) (show k13 < x0.length from by omega) (show laws_eqAnnotatedS_b1 x0 x1 k13 = Sum.inl false from by unfold laws_eqAnnotatedS_b1; exact cond_f g58 (rfl)) hF15) rfl)), hm.below⟩)
    · have g18 : (decide (((k13 : Nat) : Int) < ((x0.length : Nat) : Int))) = false := decide_eq_false (by omega)
      refine CM_condF rfl g18 ?_
      refine CM_exit ?_
      refine QM_then_exit ?_
      refine QM_then_exit ?_
      have hE60 : rng (R := Bool) (fun k (_ : Unit) => laws_eqAnnotatedS_b1 x0 x1 k) (x0.length - 0) 0 () = Sum.inr () := rng_end hl17 hF15
      refine QM_block_hit ?_
      refine QM_then ?_
      refine sr ?_
      refine wa ?_
      refine nt' ?_
      refine CM_ret ?_
      exact QM_ret1 rfl rfl (fun W hm => ⟨ret_b (show laws_eqAnnotatedS_m x0 x1 = true from by unfold laws_eqAnnotatedS_m; exact cond_f g12 (fin_inr hE60 (rfl))), hm.below⟩)
  · have g12 : (((x0.length : Nat) : Int) != ((x1.length : Nat) : Int)) = true := bne_iff_ne.2 h11
    refine CM_condT rfl g12 ?_
    refine sr ?_
    refine wa ?_
    refine nt' ?_
    refine CM_ret ?_
    refine QM_then_ret ?_
    exact QM_ret1 rfl rfl (fun W hm => ⟨ret_b (show laws_eqAnnotatedS_m x0 x1 = false from by unfold laws_eqAnnotatedS_m; exact cond_t g12 (rfl)), hm.below⟩)

def laws_markIntS_b1 (k5 : Nat) (s6 : Int) (d7 : (List Int)) : (Int × (List Int)) ⊕ (Int × (List Int)) :=
  Sum.inr ((IntKind.i64.wrap (s6 + 1)), (d7.set k5 s6))
def laws_markIntS_m (x0 : (List Int)) (x1 : Int) : (Int × (List Int)) :=
  Sum.elim id (fun (s : Int × (List Int)) => (s.1, s.2)) (rng (R := (Int × (List Int))) (fun k (s : Int × (List Int)) => laws_markIntS_b1 k s.1 s.2) (x0.length - 0) 0 (x1, x0))
set_option maxRecDepth 100000 in
theorem cb24 : Cb Try.prog 24 := ⟨Try.f24, _, Try.func24, rfl, by decide⟩
set_option maxRecDepth 10000 in
set_option maxHeartbeats 4000000 in
theorem laws_markIntS_c (B : Nat) (w0 : World) (is : List It) (w : World) (z0 : Value) (x0 : (List Int)) (x1 : Int) (hm : Mem B w0 (iOwn (tSl tInt 3) [z0] x0 :: is) w) :
    Calls Try.prog 24 #[z0, .int .i64 x1] w fun e w' => e = .returned (.int .i64 (laws_markIntS_m x0 x1).1) ∧ Mem B w0 (iOwn (tSl tInt 3) [z0] (laws_markIntS_m x0 x1).2 :: is) w' := by
  refine call_enterW (L := [(0, z0), (1, .int .i64 x1)]) (N := 19) Try.func24 rfl rfl (Nat.le_of_ble_eq_true rfl) (argsL_cons rfl (argsL_cons rfl argsL_nil)) hm ?_
  refine CM_form (n := 0) rfl ?_
  rintro A1 c2 rfl m3
  refine sr ?_
  refine wa ?_
  refine nt' ?_
  refine CM_seq ?_
  refine sr ?_
  refine wa ?_
  refine nt' ?_
  refine CM_block ?_
  refine CM_loop (σ := Nat × (Int × (List Int)) × (Unit)) (fun s => [(0, .slice A1 x0.length c2), (1, .int .i64 s.2.1.1), (5, .int .i64 ((s.1 : Nat) : Int))]) (fun s => (iOwn (tSl tInt 3) [.slice A1 x0.length c2] s.2.1.2 :: is)) (fun s => s.1 ≤ x0.length ∧ rng (R := (Int × (List Int))) (fun k (s : Int × (List Int)) => laws_markIntS_b1 k s.1 s.2) (x0.length - s.1) s.1 s.2.1 = rng (R := (Int × (List Int))) (fun k (s : Int × (List Int)) => laws_markIntS_b1 k s.1 s.2) (x0.length - 0) 0 (x1, x0)) (fun s => x0.length - s.1) (0, (x1, x0), ()) (subL_cons rfl (subL_cons rfl (subL_cons rfl subL_nil))) (fun W hm => hm) ⟨(by omega), rfl⟩ ?_
  rintro ⟨k5, ⟨s6, d7⟩, ⟨⟩⟩ H10
  obtain ⟨hk8, hF9⟩ : k5 ≤ x0.length ∧ rng (R := (Int × (List Int))) (fun k (s : Int × (List Int)) => laws_markIntS_b1 k s.1 s.2) (x0.length - k5) k5 (s6, d7) = rng (R := (Int × (List Int))) (fun k (s : Int × (List Int)) => laws_markIntS_b1 k s.1 s.2) (x0.length - 0) 0 (x1, x0) := H10
  show CM Try.prog 19 _ _ _ _ [(0, .slice A1 x0.length c2), (1, .int .i64 s6), (5, .int .i64 ((k5 : Nat) : Int))] (iOwn (tSl tInt 3) [.slice A1 x0.length c2] d7 :: is)
  refine CM_seq ?_
  refine sr ?_
  refine wm ?_
  refine wm ?_
  refine wv (fun W hm => rv_len Try.underlying33 rfl) ?_
  refine wv (fun W hm => rv_lss rfl rfl) ?_
  refine nt' ?_
  by_cases hl11 : k5 < x0.length
  · have g12 : (decide (((k5 : Nat) : Int) < ((x0.length : Nat) : Int))) = true := decide_eq_true (by omega)
    refine CM_condT rfl g12 ?_
    refine CM_skip ?_
    refine QM_then ?_
    refine CM_seq ?_
    refine CM_block ?_
    refine sr ?_
    refine wm ?_
    refine wm ?_
    refine wm ?_
    refine WM_formO (n := 0) rfl (by omega) ?_
    rintro g13 rfl
    refine wv (fun W hm => rv_index (sz := 1) (k := k5) Try.underlying33 Try.type3 rfl rfl rfl (by omega)) ?_
    refine WM_setEl (E := tInt) (e := 3) (u := .int .i64 s6) (k := k5) (p := g13) (n := x0.length) (xs := d7) (eis := []) (js := (is)) (yv := s6) (fun W hm => (hm.front (n := 0) rfl)) (fun _ _ hs => (Sep.nil hs ▸ tInt_own)) rfl Try.type3 rfl (by omega) rfl rfl (Wd_none rfl) ?_
    refine nt' ?_
    refine CM_region ?_
    refine wm ?_
    refine wv (fun W hm => rv_add rfl rfl) ?_
    refine wa ?_
    refine WM_nil ?_
    refine QM_block_normal ?_
    refine QM_then ?_
    refine CM_region ?_
    refine wm ?_
    refine wv (fun W hm => rv_addN (p := k5) (q := 1) rfl rfl (by omega)) ?_
    refine wa ?_
    refine WM_nil ?_
    have hn14 := rng_next (R := (Int × (List Int))) (body := (fun k (s : Int × (List Int)) => laws_markIntS_b1 k s.1 s.2)) (k := k5) (s := (s6, d7)) (s' := ((IntKind.i64.wrap (s6 + 1)), (d7.set k5 s6))) (show k5 < x0.length from by omega) (show laws_markIntS_b1 k5 s6 d7 = Sum.inr ((IntKind.i64.wrap (s6 + 1)), (d7.set k5 s6)) from by unfold laws_markIntS_b1; exact rfl) hF9
    exact QM_round (k5 + 1, ((IntKind.i64.wrap (s6 + 1)), (d7.set k5 s6)), ()) (subL_cons rfl (subL_cons rfl (subL_cons rfl subL_nil))) (fun W hm => hm) ⟨(by omega), hn14⟩ (show x0.length - (k5 + 1) < x0.length - k5 from by omega)
  · have g12 : (decide (((k5 : Nat) : Int) < ((x0.length : Nat) : Int))) = false := decide_eq_false (by omega)
    refine CM_condF rfl g12 ?_
    refine CM_exit ?_
    refine QM_then_exit ?_
    refine QM_then_exit ?_
    have hE15 : rng (R := (Int × (List Int))) (fun k (s : Int × (List Int)) => laws_markIntS_b1 k s.1 s.2) (x0.length - 0) 0 (x1, x0) = Sum.inr (s6, d7) := rng_end hl11 hF9
    refine QM_block_hit ?_
    refine QM_then ?_
    refine sr ?_
    refine wm ?_
    refine wa ?_
    refine nt' ?_
    refine CM_ret ?_
    refine QM_rW rfl rfl (fun W hm => ⟨?_, ?_⟩)
    · rw [(show laws_markIntS_m x0 x1 = (s6, d7) from by unfold laws_markIntS_m; exact fin_inr hE15 (rfl))]
    · rw [(show laws_markIntS_m x0 x1 = (s6, d7) from by unfold laws_markIntS_m; exact fin_inr hE15 (rfl))]; exact hm

def laws_markAnnotatedS_b1 (k5 : Nat) (s6 : Int) (d7 : (List DAnnotated)) : (Int × (List DAnnotated)) ⊕ (Int × (List DAnnotated)) :=
  Sum.inr ((laws_markIntS_m ((gt d7 k5).Set) ((laws_markIntS_m ((gt d7 k5).Row.Values) (IntKind.i64.wrap (s6 + 1))).1)).1, (d7.set k5 (⟨(⟨s6, (laws_markIntS_m ((gt d7 k5).Row.Values) (IntKind.i64.wrap (s6 + 1))).2⟩ : DRow), (laws_markIntS_m ((gt d7 k5).Set) ((laws_markIntS_m ((gt d7 k5).Row.Values) (IntKind.i64.wrap (s6 + 1))).1)).2⟩ : DAnnotated)))
def laws_markAnnotatedS_m (x0 : (List DAnnotated)) (x1 : Int) : (Int × (List DAnnotated)) :=
  Sum.elim id (fun (s : Int × (List DAnnotated)) => (s.1, s.2)) (rng (R := (Int × (List DAnnotated))) (fun k (s : Int × (List DAnnotated)) => laws_markAnnotatedS_b1 k s.1 s.2) (x0.length - 0) 0 (x1, x0))
set_option maxRecDepth 100000 in
theorem cb17 : Cb Try.prog 17 := ⟨Try.f17, _, Try.func17, rfl, by decide⟩
set_option maxRecDepth 10000 in
set_option maxHeartbeats 4000000 in
theorem laws_markAnnotatedS_c (B : Nat) (w0 : World) (is : List It) (w : World) (z0 : Value) (x0 : (List DAnnotated)) (x1 : Int) (hm : Mem B w0 (iOwn (tSl tyAnnotated 91) [z0] x0 :: is) w) :
    Calls Try.prog 17 #[z0, .int .i64 x1] w fun e w' => e = .returned (.int .i64 (laws_markAnnotatedS_m x0 x1).1) ∧ Mem B w0 (iOwn (tSl tyAnnotated 91) [z0] (laws_markAnnotatedS_m x0 x1).2 :: is) w' := by
  refine call_enterW (L := [(0, z0), (1, .int .i64 x1)]) (N := 36) Try.func17 rfl rfl (Nat.le_of_ble_eq_true rfl) (argsL_cons rfl (argsL_cons rfl argsL_nil)) hm ?_
  refine CM_form (n := 0) rfl ?_
  rintro A1 c2 rfl m3
  refine sr ?_
  refine wa ?_
  refine nt' ?_
  refine CM_seq ?_
  refine sr ?_
  refine wa ?_
  refine nt' ?_
  refine CM_block ?_
  refine CM_loop (σ := Nat × (Int × (List DAnnotated)) × (Unit)) (fun s => [(0, .slice A1 x0.length c2), (1, .int .i64 s.2.1.1), (5, .int .i64 ((s.1 : Nat) : Int))]) (fun s => (iOwn (tSl tyAnnotated 91) [.slice A1 x0.length c2] s.2.1.2 :: is)) (fun s => s.1 ≤ x0.length ∧ rng (R := (Int × (List DAnnotated))) (fun k (s : Int × (List DAnnotated)) => laws_markAnnotatedS_b1 k s.1 s.2) (x0.length - s.1) s.1 s.2.1 = rng (R := (Int × (List DAnnotated))) (fun k (s : Int × (List DAnnotated)) => laws_markAnnotatedS_b1 k s.1 s.2) (x0.length - 0) 0 (x1, x0)) (fun s => x0.length - s.1) (0, (x1, x0), ()) (subL_cons rfl (subL_cons rfl (subL_cons rfl subL_nil))) (fun W hm => hm) ⟨(by omega), rfl⟩ ?_
  rintro ⟨k5, ⟨s6, d7⟩, ⟨⟩⟩ H10
  obtain ⟨hk8, hF9⟩ : k5 ≤ x0.length ∧ rng (R := (Int × (List DAnnotated))) (fun k (s : Int × (List DAnnotated)) => laws_markAnnotatedS_b1 k s.1 s.2) (x0.length - k5) k5 (s6, d7) = rng (R := (Int × (List DAnnotated))) (fun k (s : Int × (List DAnnotated)) => laws_markAnnotatedS_b1 k s.1 s.2) (x0.length - 0) 0 (x1, x0) := H10
  show CM Try.prog 36 _ _ _ _ [(0, .slice A1 x0.length c2), (1, .int .i64 s6), (5, .int .i64 ((k5 : Nat) : Int))] (iOwn (tSl tyAnnotated 91) [.slice A1 x0.length c2] d7 :: is)
  refine CM_seq ?_
  refine sr ?_
  refine wm ?_
  refine wm ?_
  refine wv (fun W hm => rv_len Try.underlying26 rfl) ?_
  refine wv (fun W hm => rv_lss rfl rfl) ?_
  refine nt' ?_
  by_cases hl11 : k5 < x0.length
  · have g12 : (decide (((k5 : Nat) : Int) < ((x0.length : Nat) : Int))) = true := decide_eq_true (by omega)
    refine CM_condT rfl g12 ?_
    refine CM_skip ?_
    refine QM_then ?_
    refine CM_seq ?_
    refine CM_block ?_
    refine sr ?_
    refine wm ?_
    refine wm ?_
    refine wm ?_
    refine WM_formO (n := 0) rfl (by omega) ?_
    rintro g13 rfl
    refine wv (fun W hm => rv_index (sz := 3) (k := k5) Try.underlying26 Try.type91 rfl rfl rfl (by omega)) ?_
    refine wv (fun W hm => rv_field Try.underlying91 rfl Try.type69 (by decide) rfl rfl) ?_
    refine wv (fun W hm => rv_fieldA (o := 0) Try.underlying69 rfl Try.type3 (by decide) rfl rfl) ?_
    refine WM_focus (E := tyAnnotated) (e := 91) (A := (some ⟨g13, 0, none⟩)) (n := x0.length) (c := c2) (xs := d7) (k := k5) (js := (is)) (by omega) (fun W hm => (hm.front (n := 0) rfl)) (fun ck14 => ?_)
    refine WM_split (γ := Value × Value) (js := fun g => [iOwn (tSl tInt 3) [g.1] ((gt d7 k5).Row.Values), iOwn (tSl tInt 3) [g.2] ((gt d7 k5).Set)]) (C := fun g => ck14 = [.int .i64 ((gt d7 k5).Row.Id), g.1, g.2]) (fun _ _ h => tyAnnotated_split h) ?_
    rintro ⟨v15, v16⟩ rfl
    refine WM_form (n := 0) rfl ?_
    rintro A17 c18 rfl m19
    refine WM_form (n := 1) rfl ?_
    rintro A21 c22 rfl m23
    refine WM_storeFoc (E := tyAnnotated) (e := 91) (g := g13) (n := x0.length) (c := c2) (k := k5) (s := 3) (o := 0) (xs := d7) (ck := [.int .i64 ((gt d7 k5).Row.Id), .slice A17 ((gt d7 k5).Row.Values).length c18, .slice A21 ((gt d7 k5).Set).length c22]) (ck' := [.int .i64 s6, .slice A17 ((gt d7 k5).Row.Values).length c18, .slice A21 ((gt d7 k5).Set).length c22]) (js := (iOwn (tSl tInt 3) [.slice A17 ((gt d7 k5).Row.Values).length c18] ((gt d7 k5).Row.Values) :: iOwn (tSl tInt 3) [.slice A21 ((gt d7 k5).Set).length c22] ((gt d7 k5).Set) :: is)) (fun W hm => (hm.front (n := 2) rfl)) rfl rfl Try.type3 rfl (Nat.le_of_ble_eq_true rfl) rfl rfl rfl rfl (Wd_none rfl) ?_
    refine nt' ?_
    refine sr ?_
    refine wm ?_
    refine wv (fun W hm => rv_add rfl rfl) ?_
    refine wa ?_
    refine nt' ?_
    refine sr ?_
    refine wm ?_
    refine wm ?_
    refine wv (fun W hm => rv_index (sz := 3) (k := k5) Try.underlying26 Try.type91 rfl rfl rfl (by omega)) ?_
    refine wv (fun W hm => rv_field Try.underlying91 rfl Try.type69 (by decide) rfl rfl) ?_
    refine wv (fun W hm => rv_fieldA (o := 1) Try.underlying69 rfl Try.type33 (by decide) rfl rfl) ?_
    refine wv (fun W hm => rv_load Try.underlying33 rfl rfl (hm.focCells (i := 0) rfl rfl 1 _ rfl)) ?_
    refine wm ?_
    refine WM_callW (χ := Unit) (val := fun _ => .int .i64 (laws_markIntS_m ((gt d7 k5).Row.Values) (IntKind.i64.wrap (s6 + 1))).1) (js := fun _ => (iOwn (tSl tInt 3) [.slice A17 ((gt d7 k5).Row.Values).length c18] (laws_markIntS_m ((gt d7 k5).Row.Values) (IntKind.i64.wrap (s6 + 1))).2 :: (iFoc tyAnnotated 91 (some ⟨g13, 0, none⟩) x0.length c2 d7 k5 [.int .i64 s6, .slice A17 ((gt d7 k5).Row.Values).length c18, .slice A21 ((gt d7 k5).Set).length c22] :: iOwn (tSl tInt 3) [.slice A21 ((gt d7 k5).Set).length c22] ((gt d7 k5).Set) :: is))) (cl_fn cb24 rfl) (fun W hm => (laws_markIntS_c B w0 (iFoc tyAnnotated 91 (some ⟨g13, 0, none⟩) x0.length c2 d7 k5 [.int .i64 s6, .slice A17 ((gt d7 k5).Row.Values).length c18, .slice A21 ((gt d7 k5).Set).length c22] :: iOwn (tSl tInt 3) [.slice A21 ((gt d7 k5).Set).length c22] ((gt d7 k5).Set) :: is) W (.slice A17 ((gt d7 k5).Row.Values).length c18) ((gt d7 k5).Row.Values) (IntKind.i64.wrap (s6 + 1)) (hm.front (n := 1) rfl)).mono (fun _ _ h => ⟨(), h.1, h.2⟩)) (Wd_none rfl) (by decide) (fun _ => ?_)
    refine wa ?_
    refine nt' ?_
    refine CM_region ?_
    refine wm ?_
    refine wm ?_
    refine wv (fun W hm => rv_index (sz := 3) (k := k5) Try.underlying26 Try.type91 rfl rfl rfl (by omega)) ?_
    refine wv (fun W hm => rv_field Try.underlying91 rfl Try.type33 (by decide) rfl rfl) ?_
    refine wv (fun W hm => rv_load Try.underlying33 rfl rfl (hm.focCells (i := 1) rfl rfl 2 _ rfl)) ?_
    refine wm ?_
    refine WM_callW (χ := Unit) (val := fun _ => .int .i64 (laws_markIntS_m ((gt d7 k5).Set) ((laws_markIntS_m ((gt d7 k5).Row.Values) (IntKind.i64.wrap (s6 + 1))).1)).1) (js := fun _ => (iOwn (tSl tInt 3) [.slice A21 ((gt d7 k5).Set).length c22] (laws_markIntS_m ((gt d7 k5).Set) ((laws_markIntS_m ((gt d7 k5).Row.Values) (IntKind.i64.wrap (s6 + 1))).1)).2 :: (iOwn (tSl tInt 3) [.slice A17 ((gt d7 k5).Row.Values).length c18] ((laws_markIntS_m ((gt d7 k5).Row.Values) (IntKind.i64.wrap (s6 + 1))).2) :: iFoc tyAnnotated 91 (some ⟨g13, 0, none⟩) x0.length c2 d7 k5 [.int .i64 s6, .slice A17 ((gt d7 k5).Row.Values).length c18, .slice A21 ((gt d7 k5).Set).length c22] :: is))) (cl_fn cb24 rfl) (fun W hm => (laws_markIntS_c B w0 (iOwn (tSl tInt 3) [.slice A17 ((gt d7 k5).Row.Values).length c18] ((laws_markIntS_m ((gt d7 k5).Row.Values) (IntKind.i64.wrap (s6 + 1))).2) :: iFoc tyAnnotated 91 (some ⟨g13, 0, none⟩) x0.length c2 d7 k5 [.int .i64 s6, .slice A17 ((gt d7 k5).Row.Values).length c18, .slice A21 ((gt d7 k5).Set).length c22] :: is) W (.slice A21 ((gt d7 k5).Set).length c22) ((gt d7 k5).Set) ((laws_markIntS_m ((gt d7 k5).Row.Values) (IntKind.i64.wrap (s6 + 1))).1) (hm.front (n := 2) rfl)).mono (fun _ _ h => ⟨(), h.1, h.2⟩)) (Wd_none rfl) (by decide) (fun _ => ?_)
    refine wa ?_
    refine WM_nil ?_
    refine QM_block_normal ?_
    refine QM_then ?_
    refine CM_region ?_
    refine wm ?_
    refine wv (fun W hm => rv_addN (p := k5) (q := 1) rfl rfl (by omega)) ?_
    refine wa ?_
    refine WM_nil ?_
    refine QM_items (fun W hm => Mem.unfocus (Mem.join (is := [iOwn (tSl tInt 3) [.slice A17 ((gt d7 k5).Row.Values).length c18] ((laws_markIntS_m ((gt d7 k5).Row.Values) (IntKind.i64.wrap (s6 + 1))).2), iOwn (tSl tInt 3) [.slice A21 ((gt d7 k5).Set).length c22] ((laws_markIntS_m ((gt d7 k5).Set) ((laws_markIntS_m ((gt d7 k5).Row.Values) (IntKind.i64.wrap (s6 + 1))).1)).2)]) (js := (iFoc tyAnnotated 91 (some ⟨g13, 0, none⟩) x0.length c2 d7 k5 [.int .i64 s6, .slice A17 ((gt d7 k5).Row.Values).length c18, .slice A21 ((gt d7 k5).Set).length c22] :: (is))) (fun _ _ hs => tyAnnotated_join (x := (⟨(⟨s6, (laws_markIntS_m ((gt d7 k5).Row.Values) (IntKind.i64.wrap (s6 + 1))).2⟩ : DRow), (laws_markIntS_m ((gt d7 k5).Set) ((laws_markIntS_m ((gt d7 k5).Row.Values) (IntKind.i64.wrap (s6 + 1))).1)).2⟩ : DAnnotated)) hs) (((hm.front (n := 2) rfl).front (n := 1) rfl).front (n := 2) rfl))) ?_
    have hn25 := rng_next (R := (Int × (List DAnnotated))) (body := (fun k (s : Int × (List DAnnotated)) => laws_markAnnotatedS_b1 k s.1 s.2)) (k := k5) (s := (s6, d7)) (s' := ((laws_markIntS_m ((gt d7 k5).Set) ((laws_markIntS_m ((gt d7 k5).Row.Values) (IntKind.i64.wrap (s6 + 1))).1)).1, (d7.set k5 (⟨(⟨s6, (laws_markIntS_m ((gt d7 k5).Row.Values) (IntKind.i64.wrap (s6 + 1))).2⟩ : DRow), (laws_markIntS_m ((gt d7 k5).Set) ((laws_markIntS_m ((gt d7 k5).Row.Values) (IntKind.i64.wrap (s6 + 1))).1)).2⟩ : DAnnotated)))) (show k5 < x0.length from by omega) (show laws_markAnnotatedS_b1 k5 s6 d7 = Sum.inr ((laws_markIntS_m ((gt d7 k5).Set) ((laws_markIntS_m ((gt d7 k5).Row.Values) (IntKind.i64.wrap (s6 + 1))).1)).1, (d7.set k5 (⟨(⟨s6, (laws_markIntS_m ((gt d7 k5).Row.Values) (IntKind.i64.wrap (s6 + 1))).2⟩ : DRow), (laws_markIntS_m ((gt d7 k5).Set) ((laws_markIntS_m ((gt d7 k5).Row.Values) (IntKind.i64.wrap (s6 + 1))).1)).2⟩ : DAnnotated))) from by unfold laws_markAnnotatedS_b1; exact rfl) hF9
    exact QM_round (k5 + 1, ((laws_markIntS_m ((gt d7 k5).Set) ((laws_markIntS_m ((gt d7 k5).Row.Values) (IntKind.i64.wrap (s6 + 1))).1)).1, (d7.set k5 (⟨(⟨s6, (laws_markIntS_m ((gt d7 k5).Row.Values) (IntKind.i64.wrap (s6 + 1))).2⟩ : DRow), (laws_markIntS_m ((gt d7 k5).Set) ((laws_markIntS_m ((gt d7 k5).Row.Values) (IntKind.i64.wrap (s6 + 1))).1)).2⟩ : DAnnotated))), ()) (subL_cons rfl (subL_cons rfl (subL_cons rfl subL_nil))) (fun W hm => hm) ⟨(by omega), hn25⟩ (show x0.length - (k5 + 1) < x0.length - k5 from by omega)
  · have g12 : (decide (((k5 : Nat) : Int) < ((x0.length : Nat) : Int))) = false := decide_eq_false (by omega)
    refine CM_condF rfl g12 ?_
    refine CM_exit ?_
    refine QM_then_exit ?_
    refine QM_then_exit ?_
    have hE26 : rng (R := (Int × (List DAnnotated))) (fun k (s : Int × (List DAnnotated)) => laws_markAnnotatedS_b1 k s.1 s.2) (x0.length - 0) 0 (x1, x0) = Sum.inr (s6, d7) := rng_end hl11 hF9
    refine QM_block_hit ?_
    refine QM_then ?_
    refine sr ?_
    refine wm ?_
    refine wa ?_
    refine nt' ?_
    refine CM_ret ?_
    refine QM_rW rfl rfl (fun W hm => ⟨?_, ?_⟩)
    · rw [(show laws_markAnnotatedS_m x0 x1 = (s6, d7) from by unfold laws_markAnnotatedS_m; exact fin_inr hE26 (rfl))]
    · rw [(show laws_markAnnotatedS_m x0 x1 = (s6, d7) from by unfold laws_markAnnotatedS_m; exact fin_inr hE26 (rfl))]; exact hm

def laws_markGroupS_b1 (k5 : Nat) (s6 : Int) (d7 : (List DGroup)) : (Int × (List DGroup)) ⊕ (Int × (List DGroup)) :=
  Sum.inr ((IntKind.i64.wrap ((IntKind.i64.wrap ((IntKind.i64.wrap ((IntKind.i64.wrap (s6 + 1)) + 1)) + 1)) + 1)), (d7.set k5 (⟨s6, (IntKind.i64.wrap (s6 + 1)), (IntKind.i64.wrap ((IntKind.i64.wrap (s6 + 1)) + 1)), (IntKind.i64.wrap ((IntKind.i64.wrap ((IntKind.i64.wrap (s6 + 1)) + 1)) + 1))⟩ : DGroup)))
def laws_markGroupS_m (x0 : (List DGroup)) (x1 : Int) : (Int × (List DGroup)) :=
  Sum.elim id (fun (s : Int × (List DGroup)) => (s.1, s.2)) (rng (R := (Int × (List DGroup))) (fun k (s : Int × (List DGroup)) => laws_markGroupS_b1 k s.1 s.2) (x0.length - 0) 0 (x1, x0))
set_option maxRecDepth 100000 in
theorem cb38 : Cb Try.prog 38 := ⟨Try.f38, _, Try.func38, rfl, by decide⟩
set_option maxRecDepth 10000 in
set_option maxHeartbeats 4000000 in
theorem laws_markGroupS_c (B : Nat) (w0 : World) (is : List It) (w : World) (z0 : Value) (x0 : (List DGroup)) (x1 : Int) (hm : Mem B w0 (iOwn (tSl tyGroup 117) [z0] x0 :: is) w) :
    Calls Try.prog 38 #[z0, .int .i64 x1] w fun e w' => e = .returned (.int .i64 (laws_markGroupS_m x0 x1).1) ∧ Mem B w0 (iOwn (tSl tyGroup 117) [z0] (laws_markGroupS_m x0 x1).2 :: is) w' := by
  refine call_enterW (L := [(0, z0), (1, .int .i64 x1)]) (N := 41) Try.func38 rfl rfl (Nat.le_of_ble_eq_true rfl) (argsL_cons rfl (argsL_cons rfl argsL_nil)) hm ?_
  refine CM_form (n := 0) rfl ?_
  rintro A1 c2 rfl m3
  refine sr ?_
  refine wa ?_
  refine nt' ?_
  refine CM_seq ?_
  refine sr ?_
  refine wa ?_
  refine nt' ?_
  refine CM_block ?_
  refine CM_loop (σ := Nat × (Int × (List DGroup)) × (Unit)) (fun s => [(0, .slice A1 x0.length c2), (1, .int .i64 s.2.1.1), (5, .int .i64 ((s.1 : Nat) : Int))]) (fun s => (iOwn (tSl tyGroup 117) [.slice A1 x0.length c2] s.2.1.2 :: is)) (fun s => s.1 ≤ x0.length ∧ rng (R := (Int × (List DGroup))) (fun k (s : Int × (List DGroup)) => laws_markGroupS_b1 k s.1 s.2) (x0.length - s.1) s.1 s.2.1 = rng (R := (Int × (List DGroup))) (fun k (s : Int × (List DGroup)) => laws_markGroupS_b1 k s.1 s.2) (x0.length - 0) 0 (x1, x0)) (fun s => x0.length - s.1) (0, (x1, x0), ()) (subL_cons rfl (subL_cons rfl (subL_cons rfl subL_nil))) (fun W hm => hm) ⟨(by omega), rfl⟩ ?_
  rintro ⟨k5, ⟨s6, d7⟩, ⟨⟩⟩ H10
  obtain ⟨hk8, hF9⟩ : k5 ≤ x0.length ∧ rng (R := (Int × (List DGroup))) (fun k (s : Int × (List DGroup)) => laws_markGroupS_b1 k s.1 s.2) (x0.length - k5) k5 (s6, d7) = rng (R := (Int × (List DGroup))) (fun k (s : Int × (List DGroup)) => laws_markGroupS_b1 k s.1 s.2) (x0.length - 0) 0 (x1, x0) := H10
  show CM Try.prog 41 _ _ _ _ [(0, .slice A1 x0.length c2), (1, .int .i64 s6), (5, .int .i64 ((k5 : Nat) : Int))] (iOwn (tSl tyGroup 117) [.slice A1 x0.length c2] d7 :: is)
  refine CM_seq ?_
  refine sr ?_
  refine wm ?_
  refine wm ?_
  refine wv (fun W hm => rv_len Try.underlying54 rfl) ?_
  refine wv (fun W hm => rv_lss rfl rfl) ?_
  refine nt' ?_
  by_cases hl11 : k5 < x0.length
  · have g12 : (decide (((k5 : Nat) : Int) < ((x0.length : Nat) : Int))) = true := decide_eq_true (by omega)
    refine CM_condT rfl g12 ?_
    refine CM_skip ?_
    refine QM_then ?_
    refine CM_seq ?_
    refine CM_block ?_
    refine sr ?_
    refine wm ?_
    refine wm ?_
    refine wm ?_
    refine WM_formO (n := 0) rfl (by omega) ?_
    rintro g13 rfl
    refine wv (fun W hm => rv_index (sz := 4) (k := k5) Try.underlying54 Try.type117 rfl rfl rfl (by omega)) ?_
    refine wv (fun W hm => rv_field Try.underlying117 rfl Try.type3 (by decide) rfl rfl) ?_
    refine WM_focus (E := tyGroup) (e := 117) (A := (some ⟨g13, 0, none⟩)) (n := x0.length) (c := c2) (xs := d7) (k := k5) (js := (is)) (by omega) (fun W hm => (hm.front (n := 0) rfl)) (fun ck14 => ?_)
    refine WM_split (γ := Unit) (js := fun _ => []) (C := fun _ => ck14 = [.int .i64 ((gt d7 k5).Query), .int .i64 ((gt d7 k5).Value), .int .i64 ((gt d7 k5).Count), .int .i64 ((gt d7 k5).Sum)]) (fun _ _ h => tyGroup_split h) ?_
    rintro ⟨⟩ rfl
    refine WM_storeFoc (E := tyGroup) (e := 117) (g := g13) (n := x0.length) (c := c2) (k := k5) (s := 4) (o := 0) (xs := d7) (ck := [.int .i64 ((gt d7 k5).Query), .int .i64 ((gt d7 k5).Value), .int .i64 ((gt d7 k5).Count), .int .i64 ((gt d7 k5).Sum)]) (ck' := [.int .i64 s6, .int .i64 ((gt d7 k5).Value), .int .i64 ((gt d7 k5).Count), .int .i64 ((gt d7 k5).Sum)]) (js := (is)) (fun W hm => (hm.front (n := 0) rfl)) rfl rfl Try.type3 rfl (Nat.le_of_ble_eq_true rfl) rfl rfl rfl rfl (Wd_none rfl) ?_
    refine nt' ?_
    refine sr ?_
    refine wm ?_
    refine wv (fun W hm => rv_add rfl rfl) ?_
    refine wa ?_
    refine nt' ?_
    refine sr ?_
    refine wm ?_
    refine wm ?_
    refine wm ?_
    refine wv (fun W hm => rv_index (sz := 4) (k := k5) Try.underlying54 Try.type117 rfl rfl rfl (by omega)) ?_
    refine wv (fun W hm => rv_field Try.underlying117 rfl Try.type3 (by decide) rfl rfl) ?_
    refine WM_storeFoc (E := tyGroup) (e := 117) (g := g13) (n := x0.length) (c := c2) (k := k5) (s := 4) (o := 1) (xs := d7) (ck := [.int .i64 s6, .int .i64 ((gt d7 k5).Value), .int .i64 ((gt d7 k5).Count), .int .i64 ((gt d7 k5).Sum)]) (ck' := [.int .i64 s6, .int .i64 (IntKind.i64.wrap (s6 + 1)), .int .i64 ((gt d7 k5).Count), .int .i64 ((gt d7 k5).Sum)]) (js := (is)) (fun W hm => (hm.front (n := 0) rfl)) rfl rfl Try.type3 rfl (Nat.le_of_ble_eq_true rfl) rfl rfl rfl rfl (Wd_none rfl) ?_
    refine nt' ?_
    refine sr ?_
    refine wm ?_
    refine wv (fun W hm => rv_add rfl rfl) ?_
    refine wa ?_
    refine nt' ?_
    refine sr ?_
    refine wm ?_
    refine wm ?_
    refine wm ?_
    refine wv (fun W hm => rv_index (sz := 4) (k := k5) Try.underlying54 Try.type117 rfl rfl rfl (by omega)) ?_
    refine wv (fun W hm => rv_field Try.underlying117 rfl Try.type3 (by decide) rfl rfl) ?_
    refine WM_storeFoc (E := tyGroup) (e := 117) (g := g13) (n := x0.length) (c := c2) (k := k5) (s := 4) (o := 2) (xs := d7) (ck := [.int .i64 s6, .int .i64 (IntKind.i64.wrap (s6 + 1)), .int .i64 ((gt d7 k5).Count), .int .i64 ((gt d7 k5).Sum)]) (ck' := [.int .i64 s6, .int .i64 (IntKind.i64.wrap (s6 + 1)), .int .i64 (IntKind.i64.wrap ((IntKind.i64.wrap (s6 + 1)) + 1)), .int .i64 ((gt d7 k5).Sum)]) (js := (is)) (fun W hm => (hm.front (n := 0) rfl)) rfl rfl Try.type3 rfl (Nat.le_of_ble_eq_true rfl) rfl rfl rfl rfl (Wd_none rfl) ?_
    refine nt' ?_
    refine sr ?_
    refine wm ?_
    refine wv (fun W hm => rv_add rfl rfl) ?_
    refine wa ?_
    refine nt' ?_
    refine sr ?_
    refine wm ?_
    refine wm ?_
    refine wm ?_
    refine wv (fun W hm => rv_index (sz := 4) (k := k5) Try.underlying54 Try.type117 rfl rfl rfl (by omega)) ?_
    refine wv (fun W hm => rv_field Try.underlying117 rfl Try.type3 (by decide) rfl rfl) ?_
    refine WM_storeFoc (E := tyGroup) (e := 117) (g := g13) (n := x0.length) (c := c2) (k := k5) (s := 4) (o := 3) (xs := d7) (ck := [.int .i64 s6, .int .i64 (IntKind.i64.wrap (s6 + 1)), .int .i64 (IntKind.i64.wrap ((IntKind.i64.wrap (s6 + 1)) + 1)), .int .i64 ((gt d7 k5).Sum)]) (ck' := [.int .i64 s6, .int .i64 (IntKind.i64.wrap (s6 + 1)), .int .i64 (IntKind.i64.wrap ((IntKind.i64.wrap (s6 + 1)) + 1)), .int .i64 (IntKind.i64.wrap ((IntKind.i64.wrap ((IntKind.i64.wrap (s6 + 1)) + 1)) + 1))]) (js := (is)) (fun W hm => (hm.front (n := 0) rfl)) rfl rfl Try.type3 rfl (Nat.le_of_ble_eq_true rfl) rfl rfl rfl rfl (Wd_none rfl) ?_
    refine nt' ?_
    refine CM_region ?_
    refine wm ?_
    refine wv (fun W hm => rv_add rfl rfl) ?_
    refine wa ?_
    refine WM_nil ?_
    refine QM_block_normal ?_
    refine QM_then ?_
    refine CM_region ?_
    refine wm ?_
    refine wv (fun W hm => rv_addN (p := k5) (q := 1) rfl rfl (by omega)) ?_
    refine wa ?_
    refine WM_nil ?_
    refine QM_items (fun W hm => Mem.unfocus (Mem.join (is := []) (js := (iFoc tyGroup 117 (some ⟨g13, 0, none⟩) x0.length c2 d7 k5 [.int .i64 s6, .int .i64 (IntKind.i64.wrap (s6 + 1)), .int .i64 (IntKind.i64.wrap ((IntKind.i64.wrap (s6 + 1)) + 1)), .int .i64 (IntKind.i64.wrap ((IntKind.i64.wrap ((IntKind.i64.wrap (s6 + 1)) + 1)) + 1))] :: (is))) (fun _ _ hs => tyGroup_join (x := (⟨s6, (IntKind.i64.wrap (s6 + 1)), (IntKind.i64.wrap ((IntKind.i64.wrap (s6 + 1)) + 1)), (IntKind.i64.wrap ((IntKind.i64.wrap ((IntKind.i64.wrap (s6 + 1)) + 1)) + 1))⟩ : DGroup)) hs) (hm.front (n := 0) rfl))) ?_
    have hn15 := rng_next (R := (Int × (List DGroup))) (body := (fun k (s : Int × (List DGroup)) => laws_markGroupS_b1 k s.1 s.2)) (k := k5) (s := (s6, d7)) (s' := ((IntKind.i64.wrap ((IntKind.i64.wrap ((IntKind.i64.wrap ((IntKind.i64.wrap (s6 + 1)) + 1)) + 1)) + 1)), (d7.set k5 (⟨s6, (IntKind.i64.wrap (s6 + 1)), (IntKind.i64.wrap ((IntKind.i64.wrap (s6 + 1)) + 1)), (IntKind.i64.wrap ((IntKind.i64.wrap ((IntKind.i64.wrap (s6 + 1)) + 1)) + 1))⟩ : DGroup)))) (show k5 < x0.length from by omega) (show laws_markGroupS_b1 k5 s6 d7 = Sum.inr ((IntKind.i64.wrap ((IntKind.i64.wrap ((IntKind.i64.wrap ((IntKind.i64.wrap (s6 + 1)) + 1)) + 1)) + 1)), (d7.set k5 (⟨s6, (IntKind.i64.wrap (s6 + 1)), (IntKind.i64.wrap ((IntKind.i64.wrap (s6 + 1)) + 1)), (IntKind.i64.wrap ((IntKind.i64.wrap ((IntKind.i64.wrap (s6 + 1)) + 1)) + 1))⟩ : DGroup))) from by unfold laws_markGroupS_b1; exact rfl) hF9
    exact QM_round (k5 + 1, ((IntKind.i64.wrap ((IntKind.i64.wrap ((IntKind.i64.wrap ((IntKind.i64.wrap (s6 + 1)) + 1)) + 1)) + 1)), (d7.set k5 (⟨s6, (IntKind.i64.wrap (s6 + 1)), (IntKind.i64.wrap ((IntKind.i64.wrap (s6 + 1)) + 1)), (IntKind.i64.wrap ((IntKind.i64.wrap ((IntKind.i64.wrap (s6 + 1)) + 1)) + 1))⟩ : DGroup))), ()) (subL_cons rfl (subL_cons rfl (subL_cons rfl subL_nil))) (fun W hm => hm) ⟨(by omega), hn15⟩ (show x0.length - (k5 + 1) < x0.length - k5 from by omega)
  · have g12 : (decide (((k5 : Nat) : Int) < ((x0.length : Nat) : Int))) = false := decide_eq_false (by omega)
    refine CM_condF rfl g12 ?_
    refine CM_exit ?_
    refine QM_then_exit ?_
    refine QM_then_exit ?_
    have hE16 : rng (R := (Int × (List DGroup))) (fun k (s : Int × (List DGroup)) => laws_markGroupS_b1 k s.1 s.2) (x0.length - 0) 0 (x1, x0) = Sum.inr (s6, d7) := rng_end hl11 hF9
    refine QM_block_hit ?_
    refine QM_then ?_
    refine sr ?_
    refine wm ?_
    refine wa ?_
    refine nt' ?_
    refine CM_ret ?_
    refine QM_rW rfl rfl (fun W hm => ⟨?_, ?_⟩)
    · rw [(show laws_markGroupS_m x0 x1 = (s6, d7) from by unfold laws_markGroupS_m; exact fin_inr hE16 (rfl))]
    · rw [(show laws_markGroupS_m x0 x1 = (s6, d7) from by unfold laws_markGroupS_m; exact fin_inr hE16 (rfl))]; exact hm

def laws_heldGroupS_b1 (x0 : (List DGroup)) (k6 : Nat) (s7 : Int) : Int ⊕ (Int) :=
  cond (((gt x0 k6).Query) != s7) (Sum.inl (-1)) (cond (((gt x0 k6).Value) != (IntKind.i64.wrap (s7 + 1))) (Sum.inl (-1)) (cond (((gt x0 k6).Count) != (IntKind.i64.wrap ((IntKind.i64.wrap (s7 + 1)) + 1))) (Sum.inl (-1)) (cond (((gt x0 k6).Sum) != (IntKind.i64.wrap ((IntKind.i64.wrap ((IntKind.i64.wrap (s7 + 1)) + 1)) + 1))) (Sum.inl (-1)) (Sum.inr (IntKind.i64.wrap ((IntKind.i64.wrap ((IntKind.i64.wrap ((IntKind.i64.wrap (s7 + 1)) + 1)) + 1)) + 1))))))
def laws_heldGroupS_m (x0 : (List DGroup)) (x1 : Int) : Int :=
  Sum.elim id (fun (s : Int) => s) (rng (R := Int) (fun k (s : Int) => laws_heldGroupS_b1 x0 k s) (x0.length - 0) 0 x1)
set_option maxRecDepth 100000 in
theorem cb39 : Cb Try.prog 39 := ⟨Try.f39, _, Try.func39, rfl, by decide⟩
set_option maxRecDepth 10000 in
set_option maxHeartbeats 4000000 in
theorem laws_heldGroupS_c (w : World) (z0 : Value) (x0 : (List DGroup)) (x1 : Int) (r_0 : rdS tyGroup w w.heap.size z0 x0) :
    Calls Try.prog 39 #[z0, .int .i64 x1] w fun e w' => e = .returned (.int .i64 (laws_heldGroupS_m x0 x1)) ∧ Below w.heap.size w w' := by
  have r5 := r_0
  obtain ⟨m1, A2, c3, rfl, q4⟩ := r_0
  refine call_enterM (L := [(0, .slice A2 x0.length c3), (1, .int .i64 x1)]) (N := 49) Try.func39 rfl rfl (Nat.le_of_ble_eq_true rfl) (argsL_cons rfl (argsL_cons rfl argsL_nil)) ?_
  refine sr ?_
  refine wa ?_
  refine nt' ?_
  refine CM_seq ?_
  refine sr ?_
  refine wa ?_
  refine nt' ?_
  refine CM_block ?_
  refine CM_loop (σ := Nat × (Int) × (Unit)) (fun s => [(0, .slice A2 x0.length c3), (1, .int .i64 s.2.1), (5, .int .i64 ((s.1 : Nat) : Int))]) (fun s => []) (fun s => s.1 ≤ x0.length ∧ rng (R := Int) (fun k (s : Int) => laws_heldGroupS_b1 x0 k s) (x0.length - s.1) s.1 s.2.1 = rng (R := Int) (fun k (s : Int) => laws_heldGroupS_b1 x0 k s) (x0.length - 0) 0 x1) (fun s => x0.length - s.1) (0, x1, ()) (subL_cons rfl (subL_cons rfl (subL_cons rfl subL_nil))) (fun W hm => hm) ⟨(by omega), rfl⟩ ?_
  rintro ⟨k6, s7, ⟨⟩⟩ H10
  obtain ⟨hk8, hF9⟩ : k6 ≤ x0.length ∧ rng (R := Int) (fun k (s : Int) => laws_heldGroupS_b1 x0 k s) (x0.length - k6) k6 s7 = rng (R := Int) (fun k (s : Int) => laws_heldGroupS_b1 x0 k s) (x0.length - 0) 0 x1 := H10
  show CM Try.prog 49 _ _ _ _ [(0, .slice A2 x0.length c3), (1, .int .i64 s7), (5, .int .i64 ((k6 : Nat) : Int))] []
  refine CM_seq ?_
  refine sr ?_
  refine wm ?_
  refine wm ?_
  refine wv (fun W hm => rv_len Try.underlying54 rfl) ?_
  refine wv (fun W hm => rv_lss rfl rfl) ?_
  refine nt' ?_
  by_cases hl11 : k6 < x0.length
  · have g12 : (decide (((k6 : Nat) : Int) < ((x0.length : Nat) : Int))) = true := decide_eq_true (by omega)
    refine CM_condT rfl g12 ?_
    refine CM_skip ?_
    refine QM_then ?_
    refine CM_seq ?_
    refine CM_block ?_
    refine CM_seq ?_
    refine sr ?_
    refine wm ?_
    refine wm ?_
    obtain ⟨a13, rfl, hb14, he15⟩ := q4 (by omega)
    refine wv (fun W hm => rv_index (sz := 4) (k := k6) Try.underlying54 Try.type117 rfl rfl rfl (by omega)) ?_
    refine wv (fun W hm => rv_field Try.underlying117 rfl Try.type3 (by decide) rfl rfl) ?_
    obtain ⟨_, e17, hc16⟩ := he15 k6 _ (gt_some (show k6 < x0.length from by omega))
    obtain rfl := tyGroup_rd e17
    refine wv (fun W hm => rv_load Try.underlying3 rfl rfl ((hm.cell0 (show ((a13.add (k6 * 4)).add 0).block < w.heap.size from by rw [add_block, add_block]; exact hb14.1)).trans (hc16 0 _ rfl))) ?_
    refine wm ?_
    refine wv (fun W hm => rv_neq rfl rfl) ?_
    refine nt' ?_
    by_cases h18 : ((gt x0 k6).Query) = s7
    · have g19 : (((gt x0 k6).Query) != s7) = false := by rw [h18]; exact bne_self_eq_false _
      refine CM_condF rfl g19 ?_
      refine CM_skip ?_
      refine QM_then ?_
      refine sr ?_
      refine wm ?_
      refine wv (fun W hm => rv_add rfl rfl) ?_
      refine wa ?_
      refine nt' ?_
      refine CM_seq ?_
      refine sr ?_
      refine wm ?_
      refine wm ?_
      refine wv (fun W hm => rv_index (sz := 4) (k := k6) Try.underlying54 Try.type117 rfl rfl rfl (by omega)) ?_
      refine wv (fun W hm => rv_field Try.underlying117 rfl Try.type3 (by decide) rfl rfl) ?_
      refine wv (fun W hm => rv_load Try.underlying3 rfl rfl ((hm.cell0 (show ((a13.add (k6 * 4)).add 1).block < w.heap.size from by rw [add_block, add_block]; exact hb14.1)).trans (hc16 1 _ rfl))) ?_
      refine wm ?_
      refine wv (fun W hm => rv_neq rfl rfl) ?_
      refine nt' ?_
      by_cases h20 : ((gt x0 k6).Value) = (IntKind.i64.wrap (s7 + 1))
      · have g21 : (((gt x0 k6).Value) != (IntKind.i64.wrap (s7 + 1))) = false := by rw [h20]; exact bne_self_eq_false _
        refine CM_condF rfl g21 ?_
        refine CM_skip ?_
        refine QM_then ?_
        refine sr ?_
        refine wm ?_
        refine wv (fun W hm => rv_add rfl rfl) ?_
        refine wa ?_
        refine nt' ?_
        refine CM_seq ?_
        refine sr ?_
        refine wm ?_
        refine wm ?_
        refine wv (fun W hm => rv_index (sz := 4) (k := k6) Try.underlying54 Try.type117 rfl rfl rfl (by omega)) ?_
        refine wv (fun W hm => rv_field Try.underlying117 rfl Try.type3 (by decide) rfl rfl) ?_
        refine wv (fun W hm => rv_load Try.underlying3 rfl rfl ((hm.cell0 (show ((a13.add (k6 * 4)).add 2).block < w.heap.size from by rw [add_block, add_block]; exact hb14.1)).trans (hc16 2 _ rfl))) ?_
        refine wm ?_
        refine wv (fun W hm => rv_neq rfl rfl) ?_
        refine nt' ?_
        by_cases h22 : ((gt x0 k6).Count) = (IntKind.i64.wrap ((IntKind.i64.wrap (s7 + 1)) + 1))
        · have g23 : (((gt x0 k6).Count) != (IntKind.i64.wrap ((IntKind.i64.wrap (s7 + 1)) + 1))) = false := by rw [h22]; exact bne_self_eq_false _
          refine CM_condF rfl g23 ?_
          refine CM_skip ?_
          refine QM_then ?_
          refine sr ?_
          refine wm ?_
          refine wv (fun W hm => rv_add rfl rfl) ?_
          refine wa ?_
          refine nt' ?_
          refine CM_seq ?_
          refine sr ?_
          refine wm ?_
          refine wm ?_
          refine wv (fun W hm => rv_index (sz := 4) (k := k6) Try.underlying54 Try.type117 rfl rfl rfl (by omega)) ?_
          refine wv (fun W hm => rv_field Try.underlying117 rfl Try.type3 (by decide) rfl rfl) ?_
          refine wv (fun W hm => rv_load Try.underlying3 rfl rfl ((hm.cell0 (show ((a13.add (k6 * 4)).add 3).block < w.heap.size from by rw [add_block, add_block]; exact hb14.1)).trans (hc16 3 _ rfl))) ?_
          refine wm ?_
          refine wv (fun W hm => rv_neq rfl rfl) ?_
          refine nt' ?_
          by_cases h24 : ((gt x0 k6).Sum) = (IntKind.i64.wrap ((IntKind.i64.wrap ((IntKind.i64.wrap (s7 + 1)) + 1)) + 1))
          · have g25 : (((gt x0 k6).Sum) != (IntKind.i64.wrap ((IntKind.i64.wrap ((IntKind.i64.wrap (s7 + 1)) + 1)) + 1))) = false := by rw [h24]; exact bne_self_eq_false _
            refine CM_condF rfl g25 ?_
            refine CM_skip ?_
            refine QM_then ?_
            refine CM_region ?_
            refine wm ?_
            refine wv (fun W hm => rv_add rfl rfl) ?_
            refine wa ?_
            refine WM_nil ?_
            refine QM_block_normal ?_
            refine QM_then ?_
            refine CM_region ?_
            refine wm ?_
            refine wv (fun W hm => rv_addN (p := k6) (q := 1) rfl rfl (by omega)) ?_
            refine wa ?_
            refine WM_nil ?_
            have hn26 := rng_next (R := Int) (body := (fun k (s : Int) => laws_heldGroupS_b1 x0 k s)) (k := k6) (s := s7) (s' := (IntKind.i64.wrap ((IntKind.i64.wrap ((IntKind.i64.wrap ((IntKind.i64.wrap (s7 + 1)) + 1)) + 1)) + 1))) (show k6 < x0.length from by omega) (show laws_heldGroupS_b1 x0 k6 s7 = Sum.inr (IntKind.i64.wrap ((IntKind.i64.wrap ((IntKind.i64.wrap ((IntKind.i64.wrap (s7 + 1)) + 1)) + 1)) + 1)) from by unfold laws_heldGroupS_b1; exact cond_f g19 (cond_f g21 (cond_f g23 (cond_f g25 (rfl))))) hF9
            exact QM_round (k6 + 1, (IntKind.i64.wrap ((IntKind.i64.wrap ((IntKind.i64.wrap ((IntKind.i64.wrap (s7 + 1)) + 1)) + 1)) + 1)), ()) (subL_cons rfl (subL_cons rfl (subL_cons rfl subL_nil))) (fun W hm => hm) ⟨(by omega), hn26⟩ (show x0.length - (k6 + 1) < x0.length - k6 from by omega)
          · have g25 : (((gt x0 k6).Sum) != (IntKind.i64.wrap ((IntKind.i64.wrap ((IntKind.i64.wrap (s7 + 1)) + 1)) + 1))) = true := bne_iff_ne.2 h24
            refine CM_condT rfl g25 ?_
            refine sr ?_
            refine wa ?_
            refine nt' ?_
            refine CM_ret ?_
            refine QM_then_ret ?_
            refine QM_block_ret ?_
            refine QM_then_ret ?_
            refine QM_then_ret ?_
            refine QM_block_ret ?_
            refine QM_then_ret ?_
            exact QM_ret1 rfl rfl (fun W hm => ⟨ret_i (show laws_heldGroupS_m x0 x1 = (-1) from by unfold laws_heldGroupS_m; exact fin_inl (rng_ret (body := (fun k (s : Int) => laws_heldGroupS_b1 x0 k s)) (k := k6) (s := s7) (show k6 < x0.length from by omega) (show laws_heldGroupS_b1 x0 k6 s7 = Sum.inl (-1) from by unfold laws_heldGroupS_b1; exact cond_f g19 (cond_f g21 (cond_f g23 (cond_t g25 (rfl))))) hF9) rfl), hm.below⟩)
        · have g23 : (((gt x0 k6).Count) != (IntKind.i64.wrap ((IntKind.i64.wrap (s7 + 1)) + 1))) = true := bne_iff_ne.2 h22
          refine CM_condT rfl g23 ?_
          refine sr ?_
          refine wa ?_
          refine nt' ?_
          refine CM_ret ?_
          refine QM_then_ret ?_
          refine QM_block_ret ?_
          refine QM_then_ret ?_
          refine QM_then_ret ?_
          refine QM_block_ret ?_
          refine QM_then_ret ?_
          exact QM_ret1 rfl rfl (fun W hm => ⟨ret_i (show laws_heldGroupS_m x0 x1 = (-1) from by unfold laws_heldGroupS_m; exact fin_inl (rng_ret (body := (fun k (s : Int) => laws_heldGroupS_b1 x0 k s)) (k := k6) (s := s7) (show k6 < x0.length from by omega) (show laws_heldGroupS_b1 x0 k6 s7 = Sum.inl (-1) from by unfold laws_heldGroupS_b1; exact cond_f g19 (cond_f g21 (cond_t g23 (rfl)))) hF9) rfl), hm.below⟩)
      · have g21 : (((gt x0 k6).Value) != (IntKind.i64.wrap (s7 + 1))) = true := bne_iff_ne.2 h20
        refine CM_condT rfl g21 ?_
        refine sr ?_
        refine wa ?_
        refine nt' ?_
        refine CM_ret ?_
        refine QM_then_ret ?_
        refine QM_block_ret ?_
        refine QM_then_ret ?_
        refine QM_then_ret ?_
        refine QM_block_ret ?_
        refine QM_then_ret ?_
        exact QM_ret1 rfl rfl (fun W hm => ⟨ret_i (show laws_heldGroupS_m x0 x1 = (-1) from by unfold laws_heldGroupS_m; exact fin_inl (rng_ret (body := (fun k (s : Int) => laws_heldGroupS_b1 x0 k s)) (k := k6) (s := s7) (show k6 < x0.length from by omega) (show laws_heldGroupS_b1 x0 k6 s7 = Sum.inl (-1) from by unfold laws_heldGroupS_b1; exact cond_f g19 (cond_t g21 (rfl))) hF9) rfl), hm.below⟩)
    · have g19 : (((gt x0 k6).Query) != s7) = true := bne_iff_ne.2 h18
      refine CM_condT rfl g19 ?_
      refine sr ?_
      refine wa ?_
      refine nt' ?_
      refine CM_ret ?_
      refine QM_then_ret ?_
      refine QM_block_ret ?_
      refine QM_then_ret ?_
      refine QM_then_ret ?_
      refine QM_block_ret ?_
      refine QM_then_ret ?_
      exact QM_ret1 rfl rfl (fun W hm => ⟨ret_i (show laws_heldGroupS_m x0 x1 = (-1) from by unfold laws_heldGroupS_m; exact fin_inl (rng_ret (body := (fun k (s : Int) => laws_heldGroupS_b1 x0 k s)) (k := k6) (s := s7) (show k6 < x0.length from by omega) (show laws_heldGroupS_b1 x0 k6 s7 = Sum.inl (-1) from by unfold laws_heldGroupS_b1; exact cond_t g19 (rfl)) hF9) rfl), hm.below⟩)
  · have g12 : (decide (((k6 : Nat) : Int) < ((x0.length : Nat) : Int))) = false := decide_eq_false (by omega)
    refine CM_condF rfl g12 ?_
    refine CM_exit ?_
    refine QM_then_exit ?_
    refine QM_then_exit ?_
    have hE27 : rng (R := Int) (fun k (s : Int) => laws_heldGroupS_b1 x0 k s) (x0.length - 0) 0 x1 = Sum.inr s7 := rng_end hl11 hF9
    refine QM_block_hit ?_
    refine QM_then ?_
    refine sr ?_
    refine wm ?_
    refine wa ?_
    refine nt' ?_
    refine CM_ret ?_
    exact QM_ret1 rfl rfl (fun W hm => ⟨ret_i (show laws_heldGroupS_m x0 x1 = s7 from by unfold laws_heldGroupS_m; exact fin_inr hE27 (rfl)), hm.below⟩)

end Go.Proofs.Ytjcdginailhfmaa
