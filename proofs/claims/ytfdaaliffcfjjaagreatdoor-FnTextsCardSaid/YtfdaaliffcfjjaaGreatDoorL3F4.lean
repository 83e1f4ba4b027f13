/-
  Contracts of functions, printed by a program of ours.
-/
import Derived.Test.YtfdaaliffcfjjaaGreatDoorL3F3
namespace Go.Proofs.YtfdaaliffcfjjaaGreatDoor
open Go.RowKit
set_option maxRecDepth 100000
set_option maxHeartbeats 4000000
open _root_.Go.Proofs.Tryz
theorem cb67 : Cb Tryz.prog 67 := ⟨f67, _, func67, rfl, by decide⟩
theorem srt46_stable_c {α : Type} [Inhabited α] (K : Ck α) (hK : K.s = 2) (cf : α → α → Int) (fc : FuncId) (B : Nat) (w0 : World) (is : List It) (H : CmpOk Tryz.prog fc K B w0 is cf) (A : Option Addr) (n c : Nat) (hn : n ≤ 68719476736) (xs : List (List Value × α)) (w : World) (hm : Mem B w0 (iOwn (tSl (tCk K) 26) [.slice A n c] xs :: is) w) :
  Calls Tryz.prog 67 #[.slice A n c, .int .i64 ((n : Nat) : Int), .func (.func fc) #[] #[]] w fun e w' => e = .returned (.tuple #[]) ∧ Mem B w0 (iOwn (tSl (tCk K) 26) [.slice A n c] (mlev (ltc cf) n (n + 1) 20 (blk (ltc cf) n (n + 1) 0 xs)) :: is) w' := by
 refine call_enterW (L := [(0, .slice A n c), (1, .int .i64 ((n : Nat) : Int)), (2, .func (.func fc) #[] #[])]) (N := 63) func67 rfl rfl (Nat.le_of_ble_eq_true rfl) (argsL_cons rfl (argsL_cons rfl (argsL_cons rfl argsL_nil))) hm ?_
 refine sr (wa (nt' (sr (wm (wa (wa (nt' (CM_seq (CM_block ?_)))))))))
 refine CM_loop (σ := Nat × Nat × Nat × List (List Value × α)) (fun s => [(0, .slice A n c), (1, .int .i64 ((n : Nat) : Int)), (2, .func (.func fc) #[] #[]), (6, .int .i64 20), (7, .int .i64 ((s.1 : Nat) : Int)), (8, .int .i64 ((s.2.1 : Nat) : Int))]) (fun s => (iOwn (tSl (tCk K) 26) [.slice A n c] s.2.2.2 :: is)) (fun s => s.2.1 = s.1 + 20 ∧ n ≤ s.2.2.1 + s.1 ∧ s.1 ≤ n ∧ blk (ltc cf) n s.2.2.1 s.1 s.2.2.2 = blk (ltc cf) n (n + 1) 0 xs) (fun s => n - s.1) (0, 20, n + 1, xs) sl6 (fun W hm => hm) ⟨(show 20 = 0 + 20 from by omega), (show n ≤ (n + 1) + 0 from by omega), (show 0 ≤ n from by omega), (show blk (ltc cf) n (n + 1) 0 xs = blk (ltc cf) n (n + 1) 0 xs from rfl)⟩ ?_
 rintro ⟨p, q, f, d⟩ H1
 obtain ⟨hq, hf5, hf6, hF⟩ : q = p + 20 ∧ n ≤ f + p ∧ p ≤ n ∧ blk (ltc cf) n f p d = blk (ltc cf) n (n + 1) 0 xs := H1
 show CM Tryz.prog 63 _ _ _ _ [(0, .slice A n c), (1, .int .i64 ((n : Nat) : Int)), (2, .func (.func fc) #[] #[]), (6, .int .i64 20), (7, .int .i64 ((p : Nat) : Int)), (8, .int .i64 ((q : Nat) : Int))] (iOwn (tSl (tCk K) 26) [.slice A n c] d :: is)
 subst hq
 refine CM_seq (sr (wm (wm ?_)))
 refine wv (fun W hm => rv_leq rfl rfl) ?_
 refine nt' ?_
 by_cases h2 : ((p + 20 : Nat) : Int) ≤ ((n : Nat) : Int)
 ·have g3 := decide_eq_true h2
  refine CM_condT rfl g3 ?_
  refine CM_skip (QM_then (CM_block (sr (wm (wm (wm (wm ?_)))))))
  refine WM_callW (χ := Unit) (val := fun _ => .tuple #[]) (js := fun _ => (iOwn (tSl (tCk K) 26) [.slice A n c] (insL (ltc cf) p (p + 20 - p - 1) (p + 1) d) :: is)) (cl_fn cb86 rfl) (fun W hm => (srt46_ins_c K hK cf fc B w0 is H A n c hn p (p + 20) d (by omega) (by omega) W hm).mono (fun _ _ h => ⟨(), h.1, h.2⟩)) (Wd_none rfl) (by decide) (fun _ => ?_)
  refine nt' (sr (wm (wa (nt' (CM_region (wm (wm ?_)))))))
  refine wv (fun W hm => rv_addN (p := p + 20) (q := 20) rfl rfl (by omega)) ?_
  refine wa (WM_nil (QM_block_normal ?_))
  exact QM_round (p + 20, p + 20 + 20, f - 1, (insL (ltc cf) p (p + 20 - p - 1) (p + 1) d)) sl6 (fun W hm => hm) ⟨(show (p + 20 + 20) = (p + 20) + 20 from by omega), (show n ≤ (f - 1) + (p + 20) from by omega), (show (p + 20) ≤ n from by omega), (show blk (ltc cf) n (f - 1) (p + 20) (insL (ltc cf) p (p + 20 - p - 1) (p + 1) d) = blk (ltc cf) n (n + 1) 0 xs from (blk_step (by omega) (by omega)).symm.trans hF)⟩ (show n - (p + 20) < n - p from by omega)
 ·have g3 := decide_eq_false h2
  refine CM_condF rfl g3 ?_
  refine CM_exit (QM_then_exit (QM_then_exit ?_))
  have hY := (blk_end (lt := ltc cf) (f := f) (xs := d) (show ¬ p + 20 ≤ n by omega)).symm.trans hF
  refine QM_block_hit (QM_then (sr (wm (wm (wm (wm ?_))))))
  refine WM_callW (χ := Unit) (val := fun _ => .tuple #[]) (js := fun _ => (iOwn (tSl (tCk K) 26) [.slice A n c] (insL (ltc cf) p (n - p - 1) (p + 1) d) :: is)) (cl_fn cb86 rfl) (fun W hm => (srt46_ins_c K hK cf fc B w0 is H A n c hn p n d (by omega) (by omega) W hm).mono (fun _ _ h => ⟨(), h.1, h.2⟩)) (Wd_none rfl) (by decide) (fun _ => ?_)
  refine nt' (CM_block ?_)
  refine CM_loop (σ := Nat × Nat × List (List Value × α)) (fun s => [(0, .slice A n c), (1, .int .i64 ((n : Nat) : Int)), (2, .func (.func fc) #[] #[]), (6, .int .i64 ((s.1 : Nat) : Int))]) (fun s => (iOwn (tSl (tCk K) 26) [.slice A n c] s.2.2 :: is)) (fun s => 0 < s.1 ∧ n < s.2.1 + s.1 ∧ mlev (ltc cf) n s.2.1 s.1 s.2.2 = mlev (ltc cf) n (n + 1) 20 (blk (ltc cf) n (n + 1) 0 xs)) (fun s => n - s.1) (20, n + 1, (insL (ltc cf) p (n - p - 1) (p + 1) d)) sl4 (fun W hm => hm) ⟨(show 0 < 20 from by omega), (show n < (n + 1) + 20 from by omega), (show mlev (ltc cf) n (n + 1) 20 (insL (ltc cf) p (n - p - 1) (p + 1) d) = mlev (ltc cf) n (n + 1) 20 (blk (ltc cf) n (n + 1) 0 xs) from by rw [hY])⟩ ?_
  rintro ⟨w, f2, d2⟩ H4
  obtain ⟨hw, hf7, hF2⟩ : 0 < w ∧ n < f2 + w ∧ mlev (ltc cf) n f2 w d2 = mlev (ltc cf) n (n + 1) 20 (blk (ltc cf) n (n + 1) 0 xs) := H4
  show CM Tryz.prog 63 _ _ _ _ [(0, .slice A n c), (1, .int .i64 ((n : Nat) : Int)), (2, .func (.func fc) #[] #[]), (6, .int .i64 ((w : Nat) : Int))] (iOwn (tSl (tCk K) 26) [.slice A n c] d2 :: is)
  refine CM_seq (sr (wm (wm ?_)))
  refine wv vlss ?_
  refine nt' ?_
  by_cases h5 : ((w : Nat) : Int) < ((n : Nat) : Int)
  ·have g6 := decide_eq_true h5
   refine CM_condT rfl g6 ?_
   refine CM_skip (QM_then (CM_block (sr (wm ?_))))
   refine wv (fun W hm => rv_mulN (p := 2) (q := w) rfl rfl (by omega)) ?_
   refine wa (wa (nt' (CM_seq (CM_block ?_))))
   refine CM_loop (σ := Nat × Nat × Nat × List (List Value × α)) (fun s => [(0, .slice A n c), (1, .int .i64 ((n : Nat) : Int)), (2, .func (.func fc) #[] #[]), (6, .int .i64 ((w : Nat) : Int)), (7, .int .i64 ((s.1 : Nat) : Int)), (8, .int .i64 ((s.2.1 : Nat) : Int))]) (fun s => (iOwn (tSl (tCk K) 26) [.slice A n c] s.2.2.2 :: is)) (fun s => s.2.1 = s.1 + 2 * w ∧ n < s.2.2.1 + s.1 ∧ s.1 ≤ n ∧ mrg (ltc cf) n w s.2.2.1 s.1 s.2.2.2 = mrg (ltc cf) n w (n + 1) 0 d2) (fun s => n - s.1) (0, 2 * w, n + 1, d2) sl6 (fun W hm => hm) ⟨(show (2 * w) = 0 + 2 * w from by omega), (show n < (n + 1) + 0 from by omega), (show 0 ≤ n from by omega), (show mrg (ltc cf) n w (n + 1) 0 d2 = mrg (ltc cf) n w (n + 1) 0 d2 from rfl)⟩ ?_
   rintro ⟨p2, q2, f3, d3⟩ H7
   obtain ⟨hq2, hf8, hf9, hF3⟩ : q2 = p2 + 2 * w ∧ n < f3 + p2 ∧ p2 ≤ n ∧ mrg (ltc cf) n w f3 p2 d3 = mrg (ltc cf) n w (n + 1) 0 d2 := H7
   show CM Tryz.prog 63 _ _ _ _ [(0, .slice A n c), (1, .int .i64 ((n : Nat) : Int)), (2, .func (.func fc) #[] #[]), (6, .int .i64 ((w : Nat) : Int)), (7, .int .i64 ((p2 : Nat) : Int)), (8, .int .i64 ((q2 : Nat) : Int))] (iOwn (tSl (tCk K) 26) [.slice A n c] d3 :: is)
   subst hq2
   refine CM_seq (sr (wm (wm ?_)))
   refine wv (fun W hm => rv_leq rfl rfl) ?_
   refine nt' ?_
   by_cases h8 : ((p2 + 2 * w : Nat) : Int) ≤ ((n : Nat) : Int)
   ·have g9 := decide_eq_true h8
    refine CM_condT rfl g9 ?_
    refine CM_skip (QM_then (CM_block (sr (wm (wm (wm (wm ?_)))))))
    refine wv (vadN p2 w (by omega)) ?_
    refine wm (wm ?_)
    refine WM_callW (χ := Unit) (val := fun _ => .tuple #[]) (js := fun _ => (iOwn (tSl (tCk K) 26) [.slice A n c] (symm (ltc cf) (2 * w) p2 (p2 + w) (p2 + 2 * w) d3) :: is)) (cl_fn cb87 rfl) (fun W hm => (srt46_symm_c K hK cf fc B w0 is H A n c hn (2 * w) p2 (p2 + w) (p2 + 2 * w) d3 (by omega) (by omega) (by omega) (by omega) W hm).mono (fun _ _ h => ⟨(), h.1, h.2⟩)) (Wd_none rfl) (by decide) (fun _ => ?_)
    refine nt' (sr (wm (wa (nt' (CM_region (wm (wm ?_)))))))
    refine wv (fun W hm => rv_mulN (p := 2) (q := w) rfl rfl (by omega)) ?_
    refine wv (fun W hm => rv_addN (p := p2 + 2 * w) (q := 2 * w) rfl rfl (by omega)) ?_
    refine wa (WM_nil (QM_block_normal ?_))
    exact QM_round (p2 + 2 * w, p2 + 2 * w + 2 * w, f3 - 1, (symm (ltc cf) (2 * w) p2 (p2 + w) (p2 + 2 * w) d3)) sl6 (fun W hm => hm) ⟨(show (p2 + 2 * w + 2 * w) = (p2 + 2 * w) + 2 * w from by omega), (show n < (f3 - 1) + (p2 + 2 * w) from by omega), (show (p2 + 2 * w) ≤ n from by omega), (show mrg (ltc cf) n w (f3 - 1) (p2 + 2 * w) (symm (ltc cf) (2 * w) p2 (p2 + w) (p2 + 2 * w) d3) = mrg (ltc cf) n w (n + 1) 0 d2 from (mrg_step (by omega) (by omega)).symm.trans hF3)⟩ (show n - (p2 + 2 * w) < n - p2 from by omega)
   ·have g9 := decide_eq_false h8
    refine CM_condF rfl g9 ?_
    refine CM_exit (QM_then_exit (QM_then_exit ?_))
    have hM := (mrg_end (lt := ltc cf) (xs := d3) (show ¬ p2 + 2 * w ≤ n by omega) hf8 hf9).symm.trans hF3
    refine QM_block_hit (QM_then (CM_seq (sr (wm (wm ?_)))))
    refine wv (vadN p2 w (by omega)) ?_
    refine wa (nt' (sr (wm (wm ?_))))
    refine wv vlss ?_
    refine nt' ?_
    by_cases h10 : ((p2 + w : Nat) : Int) < ((n : Nat) : Int)
    ·have g11 := decide_eq_true h10
     refine CM_condT rfl g11 ?_
     refine CM_region (wm (wm (wm (wm (wm ?_)))))
     refine WM_callW (χ := Unit) (val := fun _ => .tuple #[]) (js := fun _ => (iOwn (tSl (tCk K) 26) [.slice A n c] (symm (ltc cf) (n - p2) p2 (p2 + w) n d3) :: is)) (cl_fn cb87 rfl) (fun W hm => (srt46_symm_c K hK cf fc B w0 is H A n c hn (n - p2) p2 (p2 + w) n d3 (by omega) (by omega) (by omega) (by omega) W hm).mono (fun _ _ h => ⟨(), h.1, h.2⟩)) (Wd_none rfl) (by decide) (fun _ => ?_)
     refine nt' (CM_region (wm ?_))
     refine wv (fun W hm => rv_mulN (p := w) (q := 2) rfl rfl (by omega)) ?_
     refine wa (WM_nil (QM_block_normal ?_))
     exact QM_round (w * 2, f2 - 1, (symm (ltc cf) (n - p2) p2 (p2 + w) n d3)) sl4 (fun W hm => hm) ⟨(show 0 < (w * 2) from by omega), (show n < (f2 - 1) + (w * 2) from by omega), (show mlev (ltc cf) n (f2 - 1) (w * 2) (symm (ltc cf) (n - p2) p2 (p2 + w) n d3) = mlev (ltc cf) n (n + 1) 20 (blk (ltc cf) n (n + 1) 0 xs) from (congrArg (mlev (ltc cf) n (f2 - 1) (w * 2)) (by rw [decide_eq_true (show p2 + w < n by omega)] at hM; exact hM)).trans ((mlev_step (by omega) (by omega)).symm.trans hF2))⟩ (show n - (w * 2) < n - w from by omega)
    ·have g11 := decide_eq_false h10
     refine CM_condF rfl g11 ?_
     refine CM_skip (QM_then (CM_region (wm ?_)))
     refine wv (fun W hm => rv_mulN (p := w) (q := 2) rfl rfl (by omega)) ?_
     refine wa (WM_nil (QM_block_normal ?_))
     exact QM_round (w * 2, f2 - 1, d3) sl4 (fun W hm => hm) ⟨(show 0 < (w * 2) from by omega), (show n < (f2 - 1) + (w * 2) from by omega), (show mlev (ltc cf) n (f2 - 1) (w * 2) d3 = mlev (ltc cf) n (n + 1) 20 (blk (ltc cf) n (n + 1) 0 xs) from (congrArg (mlev (ltc cf) n (f2 - 1) (w * 2)) (by rw [decide_eq_false (show ¬ p2 + w < n by omega)] at hM; exact hM)).trans ((mlev_step (by omega) (by omega)).symm.trans hF2))⟩ (show n - (w * 2) < n - w from by omega)
  ·have g6 := decide_eq_false h5
   refine CM_condF rfl g6 ?_
   refine CM_exit (QM_then_exit (QM_then_exit (QM_block_hit ?_)))
   have hE : mlev (ltc cf) n (n + 1) 20 (blk (ltc cf) n (n + 1) 0 xs) = d2 := ((mlev_end (by omega)).symm.trans hF2).symm
   exact QM_ret0 rfl (fun W hm => ⟨rfl, by rw [hE]; exact hm⟩)

theorem cb46 : Cb Tryz.prog 46 := ⟨f46, _, func46, rfl, by decide⟩
theorem srt46_sort_c {α : Type} [Inhabited α] (K : Ck α) (hK : K.s = 2) (cf : α → α → Int) (fc : FuncId) (B : Nat) (w0 : World) (is : List It) (H : CmpOk Tryz.prog fc K B w0 is cf) (A : Option Addr) (n c : Nat) (hn : n ≤ 68719476736) (xs : List (List Value × α)) (w : World) (hm : Mem B w0 (iOwn (tSl (tCk K) 26) [.slice A n c] xs :: is) w) :
  Calls Tryz.prog 46 #[.slice A n c, .func (.func fc) #[] #[]] w fun e w' => e = .returned (.tuple #[]) ∧ Mem B w0 (iOwn (tSl (tCk K) 26) [.slice A n c] (mlev (ltc cf) n (n + 1) 20 (blk (ltc cf) n (n + 1) 0 xs)) :: is) w' := by
 refine call_enterW (L := [(0, .slice A n c), (1, .func (.func fc) #[] #[])]) (N := 9) func46 rfl rfl (Nat.le_of_ble_eq_true rfl) (argsL_cons rfl (argsL_cons rfl argsL_nil)) hm ?_
 refine CM_region (wm (wm ?_))
 refine wv (vlen underlying37) ?_
 refine wm ?_
 refine WM_callW (χ := Unit) (val := fun _ => .tuple #[]) (js := fun _ => (iOwn (tSl (tCk K) 26) [.slice A n c] (mlev (ltc cf) n (n + 1) 20 (blk (ltc cf) n (n + 1) 0 xs)) :: is)) (cl_fn cb67 rfl) (fun W hm => (srt46_stable_c K hK cf fc B w0 is H A n c hn xs W hm).mono (fun _ _ h => ⟨(), h.1, h.2⟩)) (Wd_none rfl) (by decide) (fun _ => ?_)
 refine WM_nil ?_
 have hE : mlev (ltc cf) n (n + 1) 20 (blk (ltc cf) n (n + 1) 0 xs) = (mlev (ltc cf) n (n + 1) 20 (blk (ltc cf) n (n + 1) 0 xs)) := rfl
 exact QM_ret0 rfl (fun W hm => ⟨rfl, by rw [hE]; exact hm⟩)

theorem cmp_int (a b : Int) : cmp_Compare_int_m a b = if a < b then -1 else if b < a then 1 else 0 := by
  unfold cmp_Compare_int_m cmp_isNaN_int_m
  rw [bne_self_eq_false, bne_self_eq_false]
  by_cases h1 : a < b
  · rw [decide_eq_true h1, if_pos h1]; rfl
  · rw [decide_eq_false h1, if_neg h1]
    by_cases h2 : b < a
    · rw [decide_eq_true h2, if_pos h2]; rfl
    · rw [decide_eq_false h2, if_neg h2]; rfl
theorem Compare_lex (x y : List Int) : slices_Compare_int_m x y = lexI x y := by
  unfold slices_Compare_int_m
  have h : ∀ m k, m + k = x.length → Sum.elim id (fun (_ : Unit) => cond (decide (((x.length : Nat) : Int) < ((y.length : Nat) : Int))) (-1) (0 : Int)) (rng (R := Int) (fun k (_ : Unit) => slices_Compare_int_b1 x y k) m k ()) = (if k ≤ y.length then lexI (x.drop k) (y.drop k) else cond (decide (m = 0)) 0 1) := by
    intro m
    induction m with
    | zero =>
      intro k hk
      rw [rng]
      show cond (decide (((x.length : Nat) : Int) < ((y.length : Nat) : Int))) (-1) (0 : Int) = _
      rw [List.drop_of_length_le (l := x) (by omega)]
      by_cases h1 : k ≤ y.length
      · rw [if_pos h1]
        by_cases h2 : x.length < y.length
        · rw [decide_eq_true (by omega), List.drop_eq_getElem_cons (show k < y.length by omega)]; rfl
        · rw [decide_eq_false (by omega), List.drop_of_length_le (l := y) (by omega)]; rfl
      · rw [if_neg h1, decide_eq_false (by omega)]; rfl
    | succ m ih =>
      intro k hk
      rw [rng]
      show Sum.elim id _ (Sum.elim Sum.inl (fun _ => rng _ m (k + 1) ()) (slices_Compare_int_b1 x y k)) = _
      unfold slices_Compare_int_b1
      by_cases h1 : y.length ≤ k
      · rw [decide_eq_true (show ((y.length : Nat) : Int) ≤ ((k : Nat) : Int) by omega)]
        show (1 : Int) = _
        by_cases h2 : k ≤ y.length
        · rw [if_pos h2, List.drop_of_length_le (l := y) (by omega), List.drop_eq_getElem_cons (show k < x.length by omega)]; rfl
        · rw [if_neg h2, decide_eq_false (show ¬ m + 1 = 0 by omega)]; rfl
      · rw [decide_eq_false (show ¬ ((y.length : Nat) : Int) ≤ ((k : Nat) : Int) by omega), if_pos (by omega), List.drop_eq_getElem_cons (show k < x.length by omega), List.drop_eq_getElem_cons (show k < y.length by omega), lexI, ← gt_at, ← gt_at, cmp_int]
        by_cases h2 : gt x k < gt y k
        · simp only [if_pos h2]; rfl
        · simp only [if_neg h2]
          by_cases h3 : gt y k < gt x k
          · simp only [if_pos h3]; rfl
          · simp only [if_neg h3]
            have := ih (k + 1) (by omega)
            rw [if_pos (by omega)] at this
            exact this
  have h0 := h (x.length - 0) 0 (by omega)
  rw [if_pos (Nat.zero_le _)] at h0
  exact h0
theorem rows_lt (x y : DRow) : lt0 impl_SortRows_1_m x y = true ↔ (x.Id < y.Id ∨ (x.Id = y.Id ∧ lexI x.Values y.Values < 0)) := by
  show decide (impl_SortRows_1_m x y < 0) = true ↔ _
  unfold impl_SortRows_1_m
  rw [decide_eq_true_eq, Compare_lex]
  by_cases h1 : x.Id < y.Id
  · rw [decide_eq_true h1]; exact ⟨fun _ => .inl h1, fun _ => show (-1 : Int) < 0 by decide⟩
  · rw [decide_eq_false h1]
    by_cases h2 : y.Id < x.Id
    · rw [decide_eq_true h2]
      refine ⟨fun h => absurd h (show ¬ (1 : Int) < 0 by decide), fun h => ?_⟩
      rcases h with h | h <;> omega
    · rw [decide_eq_false h2]
      exact ⟨fun h => .inr ⟨by omega, h⟩, fun h => by rcases h with h | h; exact absurd h h1; exact h.2⟩
theorem impl_SortRows_1_ord : Ord (lt0 impl_SortRows_1_m) := ord_of rows_lt
  (fun x y h1 h2 => by
    rcases h1 with h1 | ⟨h1, h3⟩
    · rcases h2 with h2 | ⟨h2, _⟩ <;> omega
    · rcases h2 with h2 | ⟨_, h4⟩
      · omega
      · have := lexI_neg _ _ h3; omega)
  (fun x y z h1 h2 h3 => by
    rcases h3 with h3 | ⟨h3, h4⟩
    · rcases Int.lt_trichotomy z.Id y.Id with a | a | a
      · exact h2 (.inl a)
      · exact h1 (.inl (by omega))
      · exact h1 (.inl (by omega))
    · rcases Int.lt_trichotomy z.Id y.Id with a | a | a
      · exact h2 (.inl a)
      · have a1 : 0 ≤ lexI z.Values y.Values := by
          apply Int.not_lt.1; exact fun q => h2 (.inr ⟨a, q⟩)
        have a2 : 0 ≤ lexI y.Values x.Values := by
          apply Int.not_lt.1; exact fun q => h1 (.inr ⟨by omega, q⟩)
        have := lexI_tr _ _ _ a2 a1
        omega
      · exact h1 (.inl (by omega)))
def impl_SortRows_m (x0 : (List DRow)) : (List DRow) :=
 (stb (lt0 impl_SortRows_1_m) x0)
theorem cb21 : Cb Tryz.prog 21 := ⟨f21, _, func21, rfl, by decide⟩
theorem impl_SortRows_c (w : World) (z0 : Value) (x0 : (List DRow)) (r_0 : rdS tyRow w w.heap.size z0 x0) (s_0 : (x0.length ≤ 68719476736 ∧ ∀ y ∈ x0, smRow 68719476736 y)) :
  Calls Tryz.prog 21 #[z0] w fun e w' => ∃ v : Value, e = .returned (v) ∧ Mem w.heap.size w [iOwn (tSl tyRow 26) [v] (impl_SortRows_m x0)] w' := by
 obtain ⟨m1, A2, c3, rfl, q4, r5⟩ := rdS_op r_0
 have l6 : x0.length ≤ 68719476736 := s_0.1
 refine ce1 (L := [(0, .slice A2 x0.length c3)]) (N := 9) func21 ?_
 refine sr (wa (nt' (sr (wm ?_))))
 refine wcl (tSl tyRow 26) x0 (cl_fn cb45 rfl) (fun W hm => impl_copyRows_c2 W _ x0 (hm.rdS0 r5) s_0) (fun z7 => ?_)
 refine WM_form (n := 0) rfl ?_
 rintro A8 c9 rfl m10
 refine wa (nt' (sr (wm ?_)))
 refine WM_sort (E := tyRow) (e := 26) (xs := x0) (cf := impl_SortRows_1_m) (js := []) impl_SortRows_1_ord (fun W hm => hm) rfl cb47 (cl_fn cb46 rfl) (fun W cs ds x y hx hy => impl_SortRows_1_c W cs x ds y hx hy) (fun K hK is H ps W hm => srt46_sort_c K hK _ _ _ _ is H _ _ _ (by omega) ps W hm) (Wd_none rfl) (by decide) ?_
 refine nt' (sr (wm (wa (nt' (CM_ret ?_)))))
 have he12 := (show impl_SortRows_m x0 = (stb (lt0 impl_SortRows_1_m) x0) from rfl)
 refine QM_r1 rfl (RR_tmp rfl) (fun W hm => ⟨.slice A8 x0.length c9, ?_, ?_⟩)
 ·first | rw [he12] | rfl
 ·rw [he12]; exact hm

def spec_l3LessInts_b1 (x0 : (List Int)) (x1 : (List Int)) (k11 : Nat) : Bool ⊕ ((Unit) ⊕ (Unit)) :=
 cond (decide (((k11 : Nat) : Int) < ((x1.length : Nat) : Int))) (cond ((gt x0 k11) != (gt x1 k11)) (Sum.inl (decide ((gt x0 k11) < (gt x1 k11)))) (Sum.inr (Sum.inr ()))) (Sum.inr (Sum.inl ()))
def spec_l3LessInts_m (x0 : (List Int)) (x1 : (List Int)) : Bool :=
 Sum.elim id (fun (s : Unit) => (decide (((x0.length : Nat) : Int) < ((x1.length : Nat) : Int)))) (rngb (R := Bool) (fun k (_ : Unit) => spec_l3LessInts_b1 x0 x1 k) (x0.length - 0) 0 ())
theorem cb69 : Cb Tryz.prog 69 := ⟨f69, _, func69, rfl, by decide⟩
theorem spec_l3LessInts_c (w : World) (z0 : Value) (x0 : (List Int)) (z1 : Value) (x1 : (List Int)) (r_0 : rdS tInt w w.heap.size z0 x0) (r_1 : rdS tInt w w.heap.size z1 x1) :
  Calls Tryz.prog 69 #[z0, z1] w fun e w' => e = .returned (.bool (spec_l3LessInts_m x0 x1)) ∧ Below w.heap.size w w' := by
 obtain ⟨m1, A2, c3, rfl, q4, r5⟩ := rdS_op r_0
 obtain ⟨m6, A7, c8, rfl, q9, r10⟩ := rdS_op r_1
 refine ce2 (L := [(0, .slice A2 x0.length c3), (1, .slice A7 x1.length c8)]) (N := 41) func69 ?_
 refine sr (wa (nt' (CM_seq (sr (wa (nt' ?_))))))
 let F1 := fun k (_ : Unit) => spec_l3LessInts_b1 x0 x1 k
 let R2 := rngb (R := Bool) F1
 refine CM_cut (σ := (Unit) × (Unit)) (fun s => [(0, .slice A2 x0.length c3), (1, .slice A7 x1.length c8)]) (fun s => []) (fun s => R2 (x0.length - 0) 0 () = Sum.inr s.1) ?_ ?_
 ·
  refine CM_block ?_
  refine CM_loop (σ := Nat × (Unit) × (Unit)) (fun s => [(0, .slice A2 x0.length c3), (1, .slice A7 x1.length c8), (5, .int .i64 ((s.1 : Nat) : Int))]) (fun s => []) (fun s => s.1 ≤ x0.length ∧ R2 (x0.length - s.1) s.1 s.2.1 = R2 (x0.length - 0) 0 ()) (fun s => x0.length - s.1) (0, (), ()) sl3 (fun W hm => hm) ⟨(by omega), rfl⟩ ?_
  rintro ⟨k11, ⟨⟩, ⟨⟩⟩ H14
  obtain ⟨hk12, hF13⟩ : k11 ≤ x0.length ∧ R2 (x0.length - k11) k11 () = R2 (x0.length - 0) 0 () := H14
  show CM Tryz.prog 41 _ _ _ _ [(0, .slice A2 x0.length c3), (1, .slice A7 x1.length c8), (5, .int .i64 ((k11 : Nat) : Int))] []
  refine CM_seq (sr (wm (wm ?_)))
  refine wv (vlen underlying24) ?_
  refine wv vlss ?_
  refine wm ?_
  by_cases hl15 : k11 < x0.length
  ·have g16 := dlT hl15
   refine wg vmv g16 ?_
   refine wg vmv g16 ?_
   refine wg (vlen underlying24) g16 ?_
   refine wg vlss g16 ?_
   refine wv (vpT g16) ?_
   refine nt' ?_
   by_cases h17 : ((k11 : Nat) : Int) < ((x1.length : Nat) : Int)
   ·have g18 := decide_eq_true h17
    refine CM_condT rfl g18 ?_
    refine CM_skip (QM_then (CM_seq (CM_block (CM_seq ?_))))
    refine CM_regionD (by kernel_rfl) (by kernel_rfl) ?_
    refine qm (qm ?_)
    obtain ⟨a19, rfl, hb20, he21⟩ := q4 (by omega)
    refine qv (vix 1 k11 underlying24 type3) ?_
    refine qv (fun W hm => rv_load underlying3 rfl rfl ((hm.cell0 (show (a19.add (k11 * 1)).block < w.heap.size from by rw [add_block]; exact hb20.1)).trans (rdS_int he21 k11 (by omega)))) ?_
    refine qm (qm ?_)
    obtain ⟨a22, rfl, hb23, he24⟩ := q9 (by omega)
    refine qv (vix 1 k11 underlying24 type3) ?_
    refine qv (fun W hm => rv_load underlying3 rfl rfl ((hm.cell0 (show (a22.add (k11 * 1)).block < w.heap.size from by rw [add_block]; exact hb23.1)).trans (rdS_int he24 k11 (by omega)))) ?_
    refine qv vneq ?_
    refine nq' ?_
    by_cases h25 : (gt x0 k11) = (gt x1 k11)
    ·have g26 : ((gt x0 k11) != (gt x1 k11)) = false := by rw [h25]; exact bne_self_eq_false _
     refine CM_condF rfl g26 ?_
     refine CM_skip (QM_block_normal (QM_then (CM_region (wm ?_))))
     refine wv (vadN k11 1 (by omega)) ?_
     refine wa (WM_nil ?_)
     have hn27 := rngb_next (R := Bool) (body := F1) (k := k11) (s := ()) (s' := ()) (show k11 < x0.length from by omega) (cond_t g18 (cond_f g26 (rfl))) hF13
     exact QM_round (k11 + 1, (), ()) sl3 (fun W hm => hm) ⟨(by omega), hn27⟩ (rl (by omega))
    ·have g26 : ((gt x0 k11) != (gt x1 k11)) = true := bne_iff_ne.2 h25
     refine CM_condT rfl g26 ?_
     refine CM_seq ?_
     refine CM_regionD (by kernel_rfl) (by kernel_rfl) ?_
     refine qm (qm ?_)
     refine qv (vix 1 k11 underlying24 type3) ?_
     refine qv (fun W hm => rv_load underlying3 rfl rfl ((hm.cell0 (show (a19.add (k11 * 1)).block < w.heap.size from by rw [add_block]; exact hb20.1)).trans (rdS_int he21 k11 (by omega)))) ?_
     refine qm (qm ?_)
     refine qv (vix 1 k11 underlying24 type3) ?_
     refine qv (fun W hm => rv_load underlying3 rfl rfl ((hm.cell0 (show (a22.add (k11 * 1)).block < w.heap.size from by rw [add_block]; exact hb23.1)).trans (rdS_int he24 k11 (by omega)))) ?_
     refine qv vlss ?_
     refine qv (fun W hm => rv_assign rfl) ?_
     refine nq' (CM_ret (QM_block_ret (QM_then_ret (QM_then_ret (QM_block_ret (QM_cut_ret (QM_then_ret ?_)))))))
     exact rtb (h := fin_inl (rngb_ret (body := F1) (k := k11) (s := ()) (show k11 < x0.length from by omega) (cond_t g18 (cond_t g26 (rfl))) hF13) rfl)
   ·have g18 := decide_eq_false h17
    refine CM_condF rfl g18 ?_
    refine CM_exit (QM_then_exit (QM_then_exit (QM_block_hit ?_)))
    have hE28 := rngb_brk (R := Bool) (body := F1) (k := k11) (s := ()) (s' := ()) (show k11 < x0.length from by omega) (cond_f g18 (rfl)) hF13
    exact QM_cut_normal ((), ()) sl2 (fun W hm => hm) hE28
  ·have g16 := dlF hl15
   refine ws g16 ?_
   refine ws g16 ?_
   refine ws g16 ?_
   refine ws g16 ?_
   refine wv (vpF g16) ?_
   refine nt' ?_
   refine CM_condF rfl rfl ?_
   refine CM_exit (QM_then_exit (QM_then_exit (QM_block_hit ?_)))
   have hE29 : R2 (x0.length - 0) 0 () = Sum.inr () := rngb_end hl15 hF13
   exact QM_cut_normal ((), ()) sl2 (fun W hm => hm) hE29
 ·
  rintro ⟨⟨⟩, ⟨⟩⟩ H31
  have hE30 : R2 (x0.length - 0) 0 () = Sum.inr () := H31
  show QM 41 _ _ _ .normal [(0, .slice A2 x0.length c3), (1, .slice A7 x1.length c8)] []
  refine QM_then (sr (wm ?_))
  refine wv (vlen underlying24) ?_
  refine wm ?_
  refine wv (vlen underlying24) ?_
  refine wv vlss ?_
  refine wa (nt' (CM_ret ?_))
  exact rtb (h := fin_inr hE30 (rfl))

def spec_l3Less_m (x0 : DRow) (x1 : DRow) : Bool :=
 cond (x0.Id != x1.Id) (decide (x0.Id < x1.Id)) (spec_l3LessInts_m x0.Values x1.Values)
theorem cb49 : Cb Tryz.prog 49 := ⟨f49, _, func49, rfl, by decide⟩
theorem spec_l3Less_c (w : World) (z0 : List Value) (x0 : DRow) (z1 : List Value) (x1 : DRow) (r_0 : tyRow.rd w w.heap.size z0 x0) (r_1 : tyRow.rd w w.heap.size z1 x1) :
  Calls Tryz.prog 49 #[.agg z0.toArray, .agg z1.toArray] w fun e w' => e = .returned (.bool (spec_l3Less_m x0 x1)) ∧ Below w.heap.size w w' := by
 obtain ⟨v1, rfl, r2⟩ := tyRow_rd r_0
 obtain ⟨m3, A4, c5, rfl, q6, r7⟩ := rdS_op r2
 obtain ⟨v8, rfl, r9⟩ := tyRow_rd r_1
 obtain ⟨m10, A11, c12, rfl, q13, r14⟩ := rdS_op r9
 refine ce2 (L := [(0, .agg #[.int .i64 x0.Id, .slice A4 x0.Values.length c5]), (1, .agg #[.int .i64 x1.Id, .slice A11 x1.Values.length c12])]) (N := 20) func49 ?_
 refine sr ?_
 refine WM_box rfl (Wd_none rfl) (by decide) (fun p15 => ?_)
 refine WM_box rfl (Wd_none rfl) (by decide) (fun p16 => ?_)
 refine wa (nt' (CM_seq (sr ?_)))
 refine wv (vf underlying26 rfl type3) ?_
 refine wv (vl 1 0 underlying3) ?_
 refine wv (vf underlying26 rfl type3) ?_
 refine wv (vl 0 0 underlying3) ?_
 refine wv vneq ?_
 refine nt' ?_
 by_cases h17 : x0.Id = x1.Id
 ·have g18 : (x0.Id != x1.Id) = false := by rw [h17]; exact bne_self_eq_false _
  refine CM_condF rfl g18 ?_
  refine CM_skip (QM_then (sr ?_))
  refine wv (vf underlying26 rfl type24) ?_
  refine wv (vl 1 1 underlying24) ?_
  refine wv (vf underlying26 rfl type24) ?_
  refine wv (vl 0 1 underlying24) ?_
  refine wcv (cl_fn cb69 rfl) (fun W hm => spec_l3LessInts_c W _ x0.Values _ x1.Values (hm.rdS0 r7) (hm.rdS0 r14)) ?_
  refine wa (nt' (CM_ret ?_))
  exact rtb (h := cond_f g18 (rfl))
 ·have g18 : (x0.Id != x1.Id) = true := bne_iff_ne.2 h17
  refine CM_condT rfl g18 ?_
  refine sr ?_
  refine wv (vf underlying26 rfl type3) ?_
  refine wv (vl 1 0 underlying3) ?_
  refine wv (vf underlying26 rfl type3) ?_
  refine wv (vl 0 0 underlying3) ?_
  refine wv vlss ?_
  refine wa (nt' (CM_ret (QM_then_ret ?_)))
  exact rtb (h := cond_t g18 (rfl))

def spec_SortRows_b2 (x0 : (List DRow)) (k9 : Nat) (d10 : (List DRow)) (k19 : Nat) (s20 : Nat) : (List DRow) ⊕ ((Nat) ⊕ (Nat)) :=
 cond (decide (0 < ((s20 : Nat) : Int))) (cond (spec_l3Less_m (gt x0 k9) (gt d10 (s20 - 1))) (Sum.inr (Sum.inr (s20 - 1))) (Sum.inr (Sum.inl s20))) (Sum.inr (Sum.inl s20))
def spec_SortRows_b1 (x0 : (List DRow)) (k9 : Nat) (d10 : (List DRow)) : (List DRow) ⊕ ((List DRow)) :=
 Sum.elim Sum.inl (fun (s : Nat) => Sum.inr ((List.take s d10 ++ [(gt x0 k9)]) ++ List.drop s d10)) (rngb (R := (List DRow)) (fun k (s : Nat) => spec_SortRows_b2 x0 k9 d10 k s) (d10.length + 1 - 0) 0 d10.length)
def spec_SortRows_m (x0 : (List DRow)) : (List DRow) :=
 Sum.elim id (fun (s : (List DRow)) => s) (rng (R := (List DRow)) (fun k (s : (List DRow)) => spec_SortRows_b1 x0 k s) (x0.length - 0) 0 [])
theorem cb22 : Cb Tryz.prog 22 := ⟨f22, _, func22, rfl, by decide⟩
theorem spec_SortRows_c (w : World) (z0 : Value) (x0 : (List DRow)) (r_0 : rdS tyRow w w.heap.size z0 x0) (s_0 : (x0.length ≤ 68719476736 ∧ ∀ y ∈ x0, smRow 68719476736 y)) :
  Calls Tryz.prog 22 #[z0] w fun e w' => ∃ v : Value, e = .returned (v) ∧ Mem w.heap.size w [iOwn (tSl tyRow 26) [v] (spec_SortRows_m x0)] w' := by
 obtain ⟨m1, A2, c3, rfl, q4, r5⟩ := rdS_op r_0
 have l6 : x0.length ≤ 68719476736 := s_0.1
 refine ce1 (L := [(0, .slice A2 x0.length c3)]) (N := 51) func22 ?_
 refine sr (wa (nt' (sr ?_)))
 refine WM_build0 (E := tyRow) underlying37 type26 (Wd_none rfl) (by decide) (fun p7 => ?_)
 refine wa (nt' (CM_seq (sr (wa (nt' (CM_block ?_))))))
 let F1 := fun k (s : (List DRow)) => spec_SortRows_b1 x0 k s
 let R3 := rng (R := (List DRow)) F1
 refine CM_loop (σ := Nat × ((List DRow)) × (Option Addr × Nat)) (fun s => [(0, .slice A2 x0.length c3), (3, .slice s.2.2.1 s.2.1.length s.2.2.2), (4, .int .i64 ((s.1 : Nat) : Int))]) (fun s => [iOwn (tSl tyRow 26) [.slice s.2.2.1 s.2.1.length s.2.2.2] s.2.1]) (fun s => s.1 ≤ x0.length ∧ R3 (x0.length - s.1) s.1 s.2.1 = R3 (x0.length - 0) 0 [] ∧ s.2.1.length ≤ 0 + s.1) (fun s => x0.length - s.1) (0, [], ((some ⟨p7, 0, none⟩), 0)) sl3 (fun W hm => hm) ⟨(by omega), rfl, Nat.le_refl _⟩ ?_
 rintro ⟨k9, d10, ⟨A11, c12⟩⟩ H15
 obtain ⟨hk13, hF14, hi16⟩ : k9 ≤ x0.length ∧ R3 (x0.length - k9) k9 d10 = R3 (x0.length - 0) 0 [] ∧ d10.length ≤ 0 + k9 := H15
 let I7 : It := iOwn (tSl tyRow 26) [.slice A11 d10.length c12] d10
 show CM Tryz.prog 51 _ _ _ _ [(0, .slice A2 x0.length c3), (3, .slice A11 d10.length c12), (4, .int .i64 ((k9 : Nat) : Int))] [I7]
 refine CM_seq (sr (wm (wm ?_)))
 refine wv (vlen underlying37) ?_
 refine wv vlss ?_
 refine nt' ?_
 by_cases hl17 : k9 < x0.length
 ·have g18 := dlT hl17
  refine CM_condT rfl g18 ?_
  refine CM_skip (QM_then (CM_seq (CM_block (sr (wm ?_)))))
  refine wv (vlen underlying37) ?_
  refine wa (nt' (CM_seq ?_))
  let F2 := fun k (s : Nat) => spec_SortRows_b2 x0 k9 d10 k s
  let R4 := rngb (R := (List DRow)) F2
  refine CM_cut (σ := (Nat) × (Unit)) (fun s => [(0, .slice A2 x0.length c3), (3, .slice A11 d10.length c12), (4, .int .i64 ((k9 : Nat) : Int)), (5, .int .i64 ((s.1 : Nat) : Int))]) (fun s => [I7]) (fun s => R4 (d10.length + 1 - 0) 0 d10.length = Sum.inr s.1 ∧ s.1 ≤ d10.length) ?_ ?_
  ·
   refine CM_block ?_
   refine CM_loop (σ := Nat × (Nat) × (Unit)) (fun s => [(0, .slice A2 x0.length c3), (3, .slice A11 d10.length c12), (4, .int .i64 ((k9 : Nat) : Int)), (5, .int .i64 ((s.2.1 : Nat) : Int))]) (fun s => [I7]) (fun s => s.1 + (s.2.1) + 1 ≤ d10.length + 1 ∧ R4 (d10.length + 1 - s.1) s.1 s.2.1 = R4 (d10.length + 1 - 0) 0 d10.length ∧ s.2.1 ≤ d10.length) (fun s => d10.length + 1 - s.1) (0, d10.length, ()) sl4 (fun W hm => hm) ⟨(show 0 + (d10.length) + 1 ≤ d10.length + 1 from by omega), rfl, (show d10.length ≤ d10.length from by omega)⟩ ?_
   rintro ⟨k19, s20, ⟨⟩⟩ H23
   obtain ⟨hk21, hF22, hi24⟩ : k19 + (s20) + 1 ≤ d10.length + 1 ∧ R4 (d10.length + 1 - k19) k19 s20 = R4 (d10.length + 1 - 0) 0 d10.length ∧ s20 ≤ d10.length := H23
   show CM Tryz.prog 51 _ _ _ _ [(0, .slice A2 x0.length c3), (3, .slice A11 d10.length c12), (4, .int .i64 ((k9 : Nat) : Int)), (5, .int .i64 ((s20 : Nat) : Int))] [I7]
   refine CM_seq (CM_seq ?_)
   by_cases h25 : 0 < ((s20 : Nat) : Int)
   ·have g26 := decide_eq_true h25
    refine CM_formO (n := 0) rfl (by omega) ?_
    rintro g27 rfl
    refine CM_focus (E := tyRow) (e := 26) (A := (some ⟨g27, 0, none⟩)) (n := d10.length) (c := c12) (xs := d10) (k := (s20 - 1)) (js := []) (by omega) (fun W hm => hm) (fun ck28 => ?_)
    refine CM_split (γ := Value) (js := fun g => [iOwn (tSl tInt 3) [g] ((gt d10 (s20 - 1)).Values)]) (C := fun g => ck28 = [.int .i64 ((gt d10 (s20 - 1)).Id), g]) (fun _ _ h => tyRow_split h) ?_
    rintro v29 rfl
    refine CM_form (n := 0) rfl ?_
    rintro A30 c31 rfl m32
    refine CM_regionD (by kernel_rfl) (by kernel_rfl) ?_
    refine qm ?_
    refine qv (fun W hm => rv_gtr rfl rfl) ?_
    refine qm ?_
    refine qg vmv g26 ?_
    refine qg vmv g26 ?_
    obtain ⟨a34, rfl, hb35, he36⟩ := q4 (by omega)
    refine qg (vix 2 k9 underlying37 type26) g26 ?_
    obtain ⟨_, e40, hc37⟩ := he36 k9 _ (gt_some (show k9 < x0.length from by omega))
    obtain ⟨v38, rfl, r39⟩ := tyRow_rd e40
    have l41 : ((gt x0 k9).Values).length ≤ 68719476736 := (s_0.2 _ (gt_mem (show k9 < x0.length from by omega)))
    obtain ⟨m42, A43, c44, rfl, q45, r46⟩ := rdS_op r39
    refine qg (fun W hm => rv_loadN (cs := [.int .i64 ((gt x0 k9).Id), .slice A43 ((gt x0 k9).Values).length c44]) underlying26 type26 rfl rfl (hm.elCells (show (a34.add (k9 * 2)).block < w.heap.size from by rw [add_block]; exact hb35.1) hc37)) g26 ?_
    refine qg vmv g26 ?_
    refine qg vmv g26 ?_
    refine qg (fun W hm => rv_subN (p := s20) (q := 1) rfl rfl (by omega) (by omega)) g26 ?_
    refine qg (fun W hm => rv_index (sz := 2) (k := s20 - 1) underlying37 type26 rfl rfl rfl (by omega)) g26 ?_
    let K5 : List Value := [.int .i64 ((gt d10 (s20 - 1)).Id), .slice A30 ((gt d10 (s20 - 1)).Values).length c31]
    refine qg (fun W hm => rv_loadN (cs := K5) underlying26 type26 rfl rfl (hm.focCells (i := 1) rfl rfl)) g26 ?_
    refine QR_callV (cl_fn cb49 rfl) (fun W hm => spec_l3Less_c W _ (gt x0 k9) _ (gt d10 (s20 - 1)) (tyRow_mk (x := (gt x0 k9)) (hm.rdS0 r46)) (tyRow_mk (x := (gt d10 (s20 - 1))) (hm.rdSI (n := 0) rfl))) (Wd_some rfl rfl rfl (bw g26 rfl)) (by decide) ?_
    refine qv (vpT g26) ?_
    refine nq' ?_
    rcases Bool.eq_false_or_eq_true (spec_l3Less_m (gt x0 k9) (gt d10 (s20 - 1))) with g48 | g48
    ·
     refine CM_condT rfl g48 ?_
     refine CM_skip (QM_then (CM_block (CM_region (wm ?_))))
     refine wv (fun W hm => rv_subN (p := s20) (q := 1) rfl rfl (by omega) (by omega)) ?_
     refine wa (WM_nil (QM_block_normal ?_))
     refine QM_items (fun W hm => Mem.unfocus0 (Mem.join (is := [iOwn (tSl tInt 3) [.slice A30 ((gt d10 (s20 - 1)).Values).length c31] ((gt d10 (s20 - 1)).Values)]) (js := (iFoc tyRow 26 (some ⟨g27, 0, none⟩) d10.length c12 d10 (s20 - 1) K5 :: [])) (fun _ _ hs => tyRow_join (x := (gt d10 (s20 - 1))) hs) hm)) ?_
     have hn49 := rngb_next (R := (List DRow)) (body := F2) (k := k19) (s := s20) (s' := s20 - 1) (show k19 < d10.length + 1 from by omega) (cond_t g26 (cond_t g48 (rfl))) hF22
     exact QM_round (k19 + 1, s20 - 1, ()) sl4 (fun W hm => hm) ⟨(show (k19 + 1) + ((s20 - 1)) + 1 ≤ d10.length + 1 from by omega), hn49, (show (s20 - 1) ≤ d10.length from by first | omega | (simp only [List.length_append, List.length_cons, List.length_nil] at *; omega))⟩ (show d10.length + 1 - (k19 + 1) < d10.length + 1 - k19 from by omega)
    ·
     refine CM_condF rfl g48 ?_
     refine CM_exit (QM_then_exit (QM_then_exit (QM_block_hit ?_)))
     refine QM_items (fun W hm => Mem.unfocus0 (Mem.join (is := [iOwn (tSl tInt 3) [.slice A30 ((gt d10 (s20 - 1)).Values).length c31] ((gt d10 (s20 - 1)).Values)]) (js := (iFoc tyRow 26 (some ⟨g27, 0, none⟩) d10.length c12 d10 (s20 - 1) K5 :: [])) (fun _ _ hs => tyRow_join (x := (gt d10 (s20 - 1))) hs) hm)) ?_
     have hE50 := rngb_brk (R := (List DRow)) (body := F2) (k := k19) (s := s20) (s' := s20) (show k19 < d10.length + 1 from by omega) (cond_t g26 (cond_f g48 (rfl))) hF22
     exact QM_cut_normal (s20, ()) sl4 (fun W hm => hm) ⟨hE50, (show s20 ≤ d10.length from by first | omega | (simp only [List.length_append, List.length_cons, List.length_nil] at *; omega))⟩
   ·have g26 := decide_eq_false h25
    refine CM_regionD (by kernel_rfl) (by kernel_rfl) ?_
    refine qm ?_
    refine qv (fun W hm => rv_gtr rfl rfl) ?_
    refine qm ?_
    refine qs g26 ?_
    refine qs g26 ?_
    refine qs g26 ?_
    refine qs g26 ?_
    refine qs g26 ?_
    refine qs g26 ?_
    refine qs g26 ?_
    refine qs g26 ?_
    refine qs g26 ?_
    refine qs g26 ?_
    refine qv (vpF g26) ?_
    refine nq' ?_
    refine CM_condF rfl rfl ?_
    refine CM_exit (QM_then_exit (QM_then_exit (QM_block_hit ?_)))
    have hE51 := rngb_brk (R := (List DRow)) (body := F2) (k := k19) (s := s20) (s' := s20) (show k19 < d10.length + 1 from by omega) (cond_f g26 (rfl)) hF22
    exact QM_cut_normal (s20, ()) sl4 (fun W hm => hm) ⟨hE51, (show s20 ≤ d10.length from by first | omega | (simp only [List.length_append, List.length_cons, List.length_nil] at *; omega))⟩
  ·
   rintro ⟨s20, ⟨⟩⟩ H53
   obtain ⟨hE52, hx54⟩ : R4 (d10.length + 1 - 0) 0 d10.length = Sum.inr s20 ∧ s20 ≤ d10.length := H53
   show QM 51 _ _ _ .normal [(0, .slice A2 x0.length c3), (3, .slice A11 d10.length c12), (4, .int .i64 ((k9 : Nat) : Int)), (5, .int .i64 ((s20 : Nat) : Int))] [I7]
   refine QM_then (sr ?_)
   refine WM_build0 (E := tyRow) underlying37 type26 (Wd_none rfl) (by decide) (fun p55 => ?_)
   refine wm (wm ?_)
   refine WM_toCk (E := tyRow) (e := 26) (v := .slice A11 d10.length c12) (xs := d10) (js := [iOwn (tSl tyRow 26) [.slice (some ⟨p55, 0, none⟩) 0 0] []]) (pk [1, 0]) (fun ps57 hps58 => ?_)
   have hl59 : ps57.length = d10.length := by rw [← hps58, List.length_map]
   refine wv (fun W hm => rv_sliceHi (k := s20) underlying37 type26 rfl rfl (by have := rdS_cap (hm.rdSI (n := 0) rfl); omega)) ?_
   refine WM_items (fun W hm => Mem.emptyAs (E := tyRow) (F := (tCk (ckA tyRow))) rfl (hm.pick [2, 0, 1] (by decide))) ?_
   refine apR (tCk (ckA tyRow)) (tCk (ckA tyRow)) 26 (.slice (some ⟨p55, 0, none⟩) 0 0) [] (List.take s20 ps57) [iOwn (tSl (tCk (ckA tyRow)) 26) [.slice A11 d10.length c12] ps57, iCk tyRow ps57] (fun W hm => hm) (fun W hm => src_flat flat_ck (rdS_take (k := s20) (by omega) (hm.rdSI (n := 1) rfl))) underlying37 type26 (show ([].length + (List.take s20 ps57).length) * 32 ≤ 140737488355328 from by first | omega | (simp only [List.length_append, List.length_cons, List.length_nil, List.length_take, List.length_drop] at *; omega)) (fun v60 => ?_)
   refine WM_form (n := 0) rfl ?_
   rintro A61 c62 rfl m63
   refine wa (nt' (sr (wm (wm (wm ?_)))))
   obtain ⟨a65, rfl, hb66, he67⟩ := q4 (by omega)
   refine wv (vix 2 k9 underlying37 type26) ?_
   obtain ⟨_, e71, hc68⟩ := he67 k9 _ (gt_some (show k9 < x0.length from by omega))
   obtain ⟨v69, rfl, r70⟩ := tyRow_rd e71
   have l72 : ((gt x0 k9).Values).length ≤ 68719476736 := (s_0.2 _ (gt_mem (show k9 < x0.length from by omega)))
   obtain ⟨m73, A74, c75, rfl, q76, r77⟩ := rdS_op r70
   refine wv (fun W hm => rv_loadN (cs := [.int .i64 ((gt x0 k9).Id), .slice A74 ((gt x0 k9).Values).length c75]) underlying26 type26 rfl rfl (hm.elCells (show (a65.add (k9 * 2)).block < w.heap.size from by rw [add_block]; exact hb66.1) hc68)) ?_
   refine wcs tyRow (gt x0 k9) (cl_fn cb37 rfl) (fun W hm => spec_l3Copy_c2 W _ (gt x0 k9) (tyRow_mk (x := (gt x0 k9)) (hm.rdS0 r77)) (s_0.2 _ (gt_mem (show k9 < x0.length from by omega)))) (fun z78 => ?_)
   refine tyRow_sp ?_
   rintro v79 rfl
   refine WM_form (n := 0) rfl ?_
   rintro A80 c81 rfl m82
   let K6 : List Value := [.int .i64 ((gt x0 k9).Id), .slice A80 ((gt x0 k9).Values).length c81]
   refine WM_build (cs := K6) underlying37 type26 rfl (by decide) (by decide) rfl (by kernel_rfl) (Wd_none rfl) (by decide) (fun p84 => ?_)
   let I8 : It := iOwn (tSl tInt 3) [.slice A80 ((gt x0 k9).Values).length c81] ((gt x0 k9).Values)
   refine ap1 (tCk (ckA tyRow)) 26 (.slice A61 (List.take s20 ps57).length c62) (List.take s20 ps57) ((K6, (gt x0 k9)) : List Value × DRow) [] [I8, iOwn (tSl (tCk (ckA tyRow)) 26) [.slice A11 d10.length c12] ps57, iCk tyRow ps57] K6 (pk [0, 2, 1, 3, 4]) (fun _ _ hs => by cases (Sep.nil hs); exact (els_ck1 rfl rfl)) underlying37 type26 (show ((List.take s20 ps57).length + 1) * 32 ≤ 140737488355328 from by first | omega | (simp only [List.length_append, List.length_cons, List.length_nil, List.length_take, List.length_drop] at *; omega)) (fun v85 => ?_)
   refine WM_form (n := 0) rfl ?_
   rintro A86 c87 rfl m88
   refine wa (nt' (CM_region (wm (wm (wm ?_)))))
   refine wv (fun W hm => rv_sliceLo (k := s20) (s := 2) underlying37 type26 rfl rfl rfl (by omega)) ?_
   refine apR (tCk (ckA tyRow)) (tCk (ckA tyRow)) 26 (.slice A86 ((List.take s20 ps57) ++ [((K6, (gt x0 k9)) : List Value × DRow)]).length c87) ((List.take s20 ps57) ++ [((K6, (gt x0 k9)) : List Value × DRow)]) (List.drop s20 ps57) [I8, iOwn (tSl (tCk (ckA tyRow)) 26) [.slice A11 d10.length c12] ps57, iCk tyRow ps57] (fun W hm => hm) (fun W hm => src_flat flat_ck (rdS_drop (k := s20) (by omega) (hm.rdSI (n := 2) rfl))) underlying37 type26 (show (((List.take s20 ps57) ++ [((K6, (gt x0 k9)) : List Value × DRow)]).length + (List.drop s20 ps57).length) * 32 ≤ 140737488355328 from by first | omega | (simp only [List.length_append, List.length_cons, List.length_nil, List.length_take, List.length_drop] at *; omega)) (fun v90 => ?_)
   refine WM_form (n := 0) rfl ?_
   rintro A91 c92 rfl m93
   refine wa (WM_nil (QM_block_normal (QM_then (CM_region (wm ?_)))))
   refine wv (vadN k9 1 (by omega)) ?_
   refine wa (WM_nil ?_)
   refine QM_items (fun W hm => Mem.ckInsert hps58 (Mem.join (is := [I8]) (js := (iOwn (tSl (tCk (ckA tyRow)) 26) [.slice A91 (((List.take s20 ps57) ++ [((K6, (gt x0 k9)) : List Value × DRow)]) ++ (List.drop s20 ps57)).length c92] (((List.take s20 ps57) ++ [((K6, (gt x0 k9)) : List Value × DRow)]) ++ (List.drop s20 ps57)) :: iCk tyRow ps57 :: [iOwn (tSl (tCk (ckA tyRow)) 26) [.slice A11 d10.length c12] ps57])) (fun _ _ hs => tyRow_join (x := (gt x0 k9)) hs) (hm.pick [1, 0, 3, 2] (by decide)))) ?_
   have hl95 : (((List.take s20 ps57) ++ [((K6, (gt x0 k9)) : List Value × DRow)]) ++ (List.drop s20 ps57)).length = ((List.take s20 d10 ++ [(gt x0 k9)]) ++ List.drop s20 d10).length := by rw [← hps58]; simp only [List.length_append, List.length_take, List.length_drop, List.length_map, List.length_cons, List.length_nil]
   rw [hl95]
   have hn96 := rng_next (R := (List DRow)) (body := F1) (k := k9) (s := d10) (s' := ((List.take s20 d10 ++ [(gt x0 k9)]) ++ List.drop s20 d10)) (show k9 < x0.length from by omega) (fin_inr hE52 (rfl)) hF14
   exact QM_round (k9 + 1, ((List.take s20 d10 ++ [(gt x0 k9)]) ++ List.drop s20 d10), (A91, c92)) sl3 (pk [0]) ⟨(by omega), hn96, (show ((List.take s20 d10 ++ [(gt x0 k9)]) ++ List.drop s20 d10).length ≤ 0 + (k9 + 1) from by first | omega | (simp only [List.length_append, List.length_cons, List.length_nil, List.length_take, List.length_drop] at *; omega))⟩ (rl (by omega))
 ·have g18 := dlF hl17
  refine CM_condF rfl g18 ?_
  refine CM_exit (QM_then_exit (QM_then_exit ?_))
  have hE97 : R3 (x0.length - 0) 0 [] = Sum.inr d10 := rng_end hl17 hF14
  refine QM_block_hit (QM_then (sr (wm (wa (nt' (CM_ret ?_))))))
  have he98 := (show spec_SortRows_m x0 = d10 from fin_inr hE97 (rfl))
  refine QM_r1 rfl (RR_tmp rfl) (fun W hm => ⟨.slice A11 d10.length c12, ?_, ?_⟩)
  ·first | rw [he98] | rfl
  ·rw [he98]; exact hm

end Go.Proofs.YtfdaaliffcfjjaaGreatDoor
