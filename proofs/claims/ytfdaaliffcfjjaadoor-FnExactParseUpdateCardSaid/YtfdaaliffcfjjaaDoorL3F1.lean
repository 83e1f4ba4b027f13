/-
  Contracts of functions, printed by a program of ours.
-/
import Derived.Test.YtfdaaliffcfjjaaDoorDat
namespace Go.Proofs.YtfdaaliffcfjjaaDoor
open Go.RowKit
set_option maxRecDepth 100000
set_option maxHeartbeats 4000000
open _root_.Go.Proofs.Tryd
def spec_l2Cut_b1 (x0 : ByteArray) (x1 : Int) (k3 : Nat) (d4 : (List ByteArray)) (s7 : ByteArray) : (List ByteArray) ⊕ ((List ByteArray) × ByteArray) :=
 cond ((chr x0 k3) == x1) (Sum.inr ((d4 ++ [s7]), (sB []))) (Sum.inr (d4, (s7 ++ (ByteArray.extract x0 k3 (k3 + 1)))))
def spec_l2Cut_m (x0 : ByteArray) (x1 : Int) : (List ByteArray) :=
 Sum.elim id (fun (s : (List ByteArray) × ByteArray) => (s.1 ++ [s.2])) (rng (R := (List ByteArray)) (fun k (s : (List ByteArray) × ByteArray) => spec_l2Cut_b1 x0 x1 k s.1 s.2) (x0.size - 0) 0 ([], (sB [])))
theorem cb9 : Cb Tryd.prog 9 := ⟨f9, _, func9, rfl, by decide⟩
theorem spec_l2Cut_c (w : World) (x0 : ByteArray) (x1 : Int) (hs_0 : x0.size ≤ 1048576) :
  Calls Tryd.prog 9 #[.string x0, .int .u8 x1] w fun e w' => ∃ v : Value, e = .returned (v) ∧ Mem w.heap.size w [iOwn (tSl tStr 9) [v] (spec_l2Cut_m x0 x1)] w' := by
 refine ce2 (L := [(0, .string x0), (1, .int .u8 x1)]) (N := 35) func9 ?_
 refine sr (wa (nt' (sr ?_)))
 refine WM_build0 (E := tStr) underlying32 type9 (Wd_none rfl) (by decide) (fun p1 => ?_)
 refine wa (nt' (sr (wa (nt' (CM_seq (sr (wa (nt' (CM_block ?_)))))))))
 let F1 := fun k (s : (List ByteArray) × ByteArray) => spec_l2Cut_b1 x0 x1 k s.1 s.2
 let R2 := rng (R := (List ByteArray)) F1
 refine CM_loop (σ := Nat × ((List ByteArray) × ByteArray) × (Option Addr × Nat)) (fun s => [(0, .string x0), (1, .int .u8 x1), (5, .slice s.2.2.1 s.2.1.1.length s.2.2.2), (6, .string s.2.1.2), (7, .int .i64 ((s.1 : Nat) : Int))]) (fun s => [iOwn (tSl tStr 9) [.slice s.2.2.1 s.2.1.1.length s.2.2.2] s.2.1.1]) (fun s => s.1 ≤ x0.size ∧ R2 (x0.size - s.1) s.1 s.2.1 = R2 (x0.size - 0) 0 ([], (sB [])) ∧ s.2.1.1.length ≤ 0 + s.1 ∧ s.2.1.2.size ≤ s.1) (fun s => x0.size - s.1) (0, ([], (sB [])), ((some ⟨p1, 0, none⟩), 0)) sl5 (fun W hm => hm) ⟨(by omega), rfl, Nat.le_refl _, (by exact Nat.le_refl _)⟩ ?_
 rintro ⟨k3, ⟨d4, s7⟩, ⟨A5, c6⟩⟩ H10
 obtain ⟨hk8, hF9, hi11, hi12⟩ : k3 ≤ x0.size ∧ R2 (x0.size - k3) k3 (d4, s7) = R2 (x0.size - 0) 0 ([], (sB [])) ∧ d4.length ≤ 0 + k3 ∧ s7.size ≤ k3 := H10
 show CM Tryd.prog 35 _ _ _ _ [(0, .string x0), (1, .int .u8 x1), (5, .slice A5 d4.length c6), (6, .string s7), (7, .int .i64 ((k3 : Nat) : Int))] [iOwn (tSl tStr 9) [.slice A5 d4.length c6] d4]
 refine CM_seq (sr (wm (wm ?_)))
 refine wv (fun W hm => rv_lenS underlying9 rfl) ?_
 refine wv vlss ?_
 refine nt' ?_
 by_cases hl13 : k3 < x0.size
 ·have g14 := dlT hl13
  refine CM_condT rfl g14 ?_
  refine CM_skip (QM_then (CM_seq (CM_block (sr (wm (wm ?_))))))
  refine wv (fun W hm => rv_indexS (s := x0) (k := k3) underlying9 rfl rfl (by omega)) ?_
  have hc15 := chr_bd x0 k3
  refine wm ?_
  refine wv (fun W hm => rv_eql8 rfl rfl) ?_
  refine nt' ?_
  by_cases h16 : (chr x0 k3) = x1
  ·have g17 := beq_iff_eq.2 h16
   refine CM_condT rfl g17 ?_
   refine sr (wm (wm ?_))
   refine WM_build (cs := [.string s7]) underlying32 type9 rfl (by decide) (by decide) rfl (by kernel_rfl) (Wd_none rfl) (by decide) (fun p18 => ?_)
   refine ap1 tStr 9 (.slice A5 d4.length c6) d4 s7 [] [] [.string s7] (fun W hm => hm) (fun _ _ hs => by cases (Sep.nil hs); exact (els_cons (tStr_own (by omega)) els_nil)) underlying32 type9 (show (d4.length + 1) * 16 ≤ 140737488355328 from by omega) (fun v19 => ?_)
   refine WM_form (n := 0) rfl ?_
   rintro A20 c21 rfl m22
   refine wa (nt' (CM_region (wa (WM_nil (QM_block_normal (QM_then (CM_region (wm ?_))))))))
   refine wv (vadN k3 1 (by omega)) ?_
   refine wa (WM_nil ?_)
   have hn24 := rng_next (R := (List ByteArray)) (body := F1) (k := k3) (s := (d4, s7)) (s' := ((d4 ++ [s7]), (sB []))) (show k3 < x0.size from by omega) (cond_t g17 (rfl)) hF9
   exact QM_round (k3 + 1, ((d4 ++ [s7]), (sB [])), (A20, c21)) sl5 (fun W hm => hm) ⟨(by omega), hn24, (show (d4 ++ [s7]).length ≤ 0 + (k3 + 1) from by first | omega | (simp only [List.length_append, List.length_cons, List.length_nil] at *; omega)), (show (sB []).size ≤ (k3 + 1) from by first | exact Nat.zero_le _ | omega)⟩ (rl (by omega))
  ·have g17 := beq_eq_false_iff_ne.2 h16
   refine CM_condF rfl g17 ?_
   refine CM_region (wm (wm (wm (wm ?_))))
   refine wv (vadN k3 1 (by omega)) ?_
   refine wv (fun W hm => rv_sliceS (s := x0) (k := k3) (m := k3 + 1) underlying9 rfl rfl rfl (by omega) (by omega)) ?_
   have hz25 := ext_sz x0 k3 (k3 + 1)
   refine wv (fun W hm => rv_addS (p := s7) (q := (ByteArray.extract x0 k3 (k3 + 1))) rfl rfl (by omega)) ?_
   have hz26 := sz_app s7 (ByteArray.extract x0 k3 (k3 + 1))
   refine wa (WM_nil (QM_block_normal (QM_then (CM_region (wm ?_)))))
   refine wv (vadN k3 1 (by omega)) ?_
   refine wa (WM_nil ?_)
   have hn27 := rng_next (R := (List ByteArray)) (body := F1) (k := k3) (s := (d4, s7)) (s' := (d4, (s7 ++ (ByteArray.extract x0 k3 (k3 + 1))))) (show k3 < x0.size from by omega) (cond_f g17 (rfl)) hF9
   exact QM_round (k3 + 1, (d4, (s7 ++ (ByteArray.extract x0 k3 (k3 + 1)))), (A5, c6)) sl5 (fun W hm => hm) ⟨(by omega), hn27, (show d4.length ≤ 0 + (k3 + 1) from by first | omega | (simp only [List.length_append, List.length_cons, List.length_nil] at *; omega)), (show (s7 ++ (ByteArray.extract x0 k3 (k3 + 1))).size ≤ (k3 + 1) from by first | exact Nat.zero_le _ | omega)⟩ (rl (by omega))
 ·have g14 := dlF hl13
  refine CM_condF rfl g14 ?_
  refine CM_exit (QM_then_exit (QM_then_exit ?_))
  have hE28 : R2 (x0.size - 0) 0 ([], (sB [])) = Sum.inr (d4, s7) := rng_end hl13 hF9
  refine QM_block_hit (QM_then (sr (wm (wm ?_))))
  refine WM_build (cs := [.string s7]) underlying32 type9 rfl (by decide) (by decide) rfl (by kernel_rfl) (Wd_none rfl) (by decide) (fun p29 => ?_)
  refine ap1 tStr 9 (.slice A5 d4.length c6) d4 s7 [] [] [.string s7] (fun W hm => hm) (fun _ _ hs => by cases (Sep.nil hs); exact (els_cons (tStr_own (by omega)) els_nil)) underlying32 type9 (show (d4.length + 1) * 16 ≤ 140737488355328 from by omega) (fun v30 => ?_)
  refine WM_form (n := 0) rfl ?_
  rintro A31 c32 rfl m33
  refine wa (nt' (CM_ret ?_))
  have he35 := (show spec_l2Cut_m x0 x1 = (d4 ++ [s7]) from fin_inr hE28 (rfl))
  refine QM_r1 rfl (RR_tmp rfl) (fun W hm => ⟨.slice A31 (d4 ++ [s7]).length c32, ?_, ?_⟩)
  ·first | rw [he35] | rfl
  ·rw [he35]; exact hm
def spl (c : UInt8) : List UInt8 → List (List UInt8)
  | [] => [[]]
  | b :: l => if b = c then [] :: spl c l else
    match spl c l with
    | [] => [[b]]
    | x :: r => (b :: x) :: r
def splB (s : ByteArray) (c : UInt8) : List ByteArray := (spl c s.data.toList).map sB
theorem spl_len (c : UInt8) : ∀ (l : List UInt8), (spl c l).length ≤ l.length + 1 ∧ 1 ≤ (spl c l).length
  | [] => ⟨Nat.le_refl _, Nat.le_refl _⟩
  | b :: l => by
    have ih := spl_len c l
    unfold spl
    by_cases hb : b = c
    · rw [if_pos hb]; simp only [List.length_cons]; omega
    · rw [if_neg hb]
      cases h : spl c l with
      | nil => rw [h] at ih; simp at ih
      | cons x r => rw [h] at ih; simp only [List.length_cons] at ih ⊢; omega
theorem spl_mem (c : UInt8) : ∀ (l : List UInt8), ∀ x ∈ spl c l, x.length ≤ l.length
  | [] => by intro x hx; rw [spl, List.mem_singleton] at hx; subst hx; exact Nat.le_refl _
  | b :: l => by
    have ih := spl_mem c l
    intro x hx
    unfold spl at hx
    by_cases hb : b = c
    · rw [if_pos hb] at hx
      rcases List.mem_cons.1 hx with rfl | hx
      · exact Nat.zero_le _
      · have := ih x hx; simp only [List.length_cons]; omega
    · rw [if_neg hb] at hx
      cases h : spl c l with
      | nil => rw [h] at hx; simp only [List.mem_singleton] at hx; subst hx; simp
      | cons y r =>
        rw [h] at hx ih
        rcases List.mem_cons.1 hx with rfl | hx
        · have := ih y (List.mem_cons_self ..); simp only [List.length_cons]; omega
        · have := ih x (List.mem_cons_of_mem _ hx); simp only [List.length_cons]; omega
theorem splB_len (s : ByteArray) (c : UInt8) : (splB s c).length ≤ s.size + 1 ∧ 1 ≤ (splB s c).length := by
  unfold splB
  rw [List.length_map, Lib.size_eq]
  exact spl_len c _
theorem splB_mem (s : ByteArray) (c : UInt8) : ∀ x ∈ splB s c, x.size ≤ s.size := by
  intro x hx
  obtain ⟨y, hy, rfl⟩ := List.mem_map.1 hx
  rw [sB_size, Lib.size_eq]
  exact spl_mem c _ y hy
/-! numbers -/
theorem u8n {k : Nat} (h : k < 256) : (UInt8.ofNat k).toNat = k := by
  rw [UInt8.toNat_ofNat']
  exact Nat.mod_eq_of_lt h
theorem chr_get {s : ByteArray} {k : Nat} {b : UInt8} {r : List UInt8} (h : s.data.toList.drop k = b :: r) : k < s.size ∧ chr s k = (b.toNat : Int) ∧ s.data.toList.drop (k + 1) = r ∧ s.extract k (k + 1) = sB [b] := by
  have hk : k < s.data.toList.length := by
    rcases Nat.lt_or_ge k s.data.toList.length with h' | h'
    · exact h'
    · rw [List.drop_of_length_le h'] at h; cases h
  have hd := List.drop_eq_getElem_cons hk
  rw [h] at hd
  injection hd with h1 h2
  refine ⟨by rw [Lib.size_eq]; exact hk, ?_, h2.symm, ?_⟩
  · unfold chr
    rw [List.getD_eq_getElem?_getD, List.getElem?_eq_getElem hk, ← h1]
    rfl
  · rw [Lib.extract_eq, h, Nat.add_sub_cancel_left]
    rfl
theorem drop_nil_of {s : ByteArray} {k : Nat} (h : s.size ≤ k) : s.data.toList.drop k = [] := List.drop_of_length_le (by rw [← Lib.size_eq]; exact h)
def splP (c : UInt8) (p l : List UInt8) : List (List UInt8) := match spl c l with
  | [] => [p]
  | x :: r => (p ++ x) :: r
theorem splP_nil (c : UInt8) (l : List UInt8) : splP c [] l = spl c l := by
  unfold splP
  have := (spl_len c l).2
  cases h : spl c l with
  | nil => rw [h] at this; simp at this
  | cons x r => rfl
theorem splP_hit (c : UInt8) (p l : List UInt8) : splP c p (c :: l) = p :: splP c [] l := by
  rw [splP_nil]
  unfold splP
  rw [show spl c (c :: l) = [] :: spl c l by rw [spl, if_pos rfl]]
  simp
theorem splP_miss {c b : UInt8} (h : b ≠ c) (p l : List UInt8) : splP c p (b :: l) = splP c (p ++ [b]) l := by
  unfold splP
  rw [spl, if_neg h]
  cases spl c l with
  | nil => simp
  | cons x r => simp
theorem spec_l2Cut_loop (s : ByteArray) (c : UInt8) : ∀ (m k : Nat) (d : List ByteArray) (p : List UInt8), k + m = s.size →
    ∃ d' p', rng (R := List ByteArray) (fun k (t : (List ByteArray) × ByteArray) => spec_l2Cut_b1 s (c.toNat : Int) k t.1 t.2) m k (d, sB p) = .inr (d', p') ∧ d' ++ [p'] = d ++ (splP c p (s.data.toList.drop k)).map sB
  | 0, k, d, p, h => by
    refine ⟨d, sB p, rfl, ?_⟩
    rw [drop_nil_of (by omega)]
    simp [splP, spl]
  | m + 1, k, d, p, h => by
    obtain ⟨b, r, hb⟩ : ∃ b r, s.data.toList.drop k = b :: r := by
      cases hd : s.data.toList.drop k with
      | nil =>
        have := congrArg List.length hd
        rw [List.length_drop, ← Lib.size_eq] at this
        simp at this
        omega
      | cons b r => exact ⟨b, r, rfl⟩
    obtain ⟨_, h2, h3, h4⟩ := chr_get hb
    by_cases hc : b = c
    · subst hc
      obtain ⟨d', p', h5, h6⟩ := spec_l2Cut_loop s b m (k + 1) (d ++ [sB p]) [] (by omega)
      refine ⟨d', p', ?_, ?_⟩
      · rw [rng]
        show Sum.elim _ _ (spec_l2Cut_b1 s (b.toNat : Int) k d (sB p)) = _
        unfold spec_l2Cut_b1
        rw [h2, beq_self_eq_true]
        exact h5
      · rw [h6, hb, splP_hit, h3]
        simp
    · obtain ⟨d', p', h5, h6⟩ := spec_l2Cut_loop s c m (k + 1) d (p ++ [b]) (by omega)
      refine ⟨d', p', ?_, ?_⟩
      · rw [rng]
        show Sum.elim _ _ (spec_l2Cut_b1 s (c.toNat : Int) k d (sB p)) = _
        unfold spec_l2Cut_b1
        rw [h2, beq_eq_false_iff_ne.2 (fun e => hc (UInt8.toNat_inj.1 (by omega))), h4, sB_app]
        exact h5
      · rw [h6, hb, splP_miss hc, h3]
theorem spec_l2Cut_is (s : ByteArray) (c : UInt8) : spec_l2Cut_m s (c.toNat : Int) = splB s c := by
  obtain ⟨d, p, h1, h2⟩ := spec_l2Cut_loop s c (s.size - 0) 0 [] [] (by omega)
  unfold spec_l2Cut_m
  rw [h1]
  show d ++ [p] = _
  rw [h2, splP_nil]
  rfl
theorem splB_gt (s : ByteArray) (c : UInt8) (j : Nat) : (gt (splB s c) j).size ≤ s.size := by
  by_cases h : j < (splB s c).length
  · exact splB_mem s c _ (gt_mem h)
  · rw [show gt (splB s c) j = default by
      unfold gt
      rw [List.getD_eq_getElem?_getD, List.getElem?_eq_none (by omega)]
      rfl]
    exact Nat.zero_le _
theorem spec_l2Cut_f (s : ByteArray) (n : Nat) (z : Int) (hz : (n : Int) = z) (h : n < 256) : 1 ≤ (spec_l2Cut_m s z).length ∧ (spec_l2Cut_m s z).length ≤ s.size + 1 ∧ ∀ j, (gt (spec_l2Cut_m s z) j).size ≤ s.size := by
  subst hz
  have h1 := spec_l2Cut_is s (UInt8.ofNat n)
  rw [u8n h] at h1
  rw [h1]
  have := splB_len s (UInt8.ofNat n)
  exact ⟨this.2, this.1, splB_gt s _⟩

def spec_FormatInt_b1 (k3 : Nat) (s4 : Int) (s5 : ByteArray) : ByteArray ⊕ ((Int × ByteArray) ⊕ (Int × ByteArray)) :=
 cond (s4 != 0) (cond (decide ((Int.tmod s4 10) < 0)) (Sum.inr (Sum.inr ((IntKind.i64.wrap (Int.tdiv s4 10)), ((sB [u8c (IntKind.u8.wrap (IntKind.i64.wrap (48 + (IntKind.i64.wrap (-(Int.tmod s4 10))))))]) ++ s5)))) (Sum.inr (Sum.inr ((IntKind.i64.wrap (Int.tdiv s4 10)), ((sB [u8c (IntKind.u8.wrap (IntKind.i64.wrap (48 + (Int.tmod s4 10))))]) ++ s5))))) (Sum.inr (Sum.inl (s4, s5)))
def spec_FormatInt_m (x0 : Int) : ByteArray :=
 cond (x0 == 0) (sB [48]) (Sum.elim id (fun (s : Int × ByteArray) => cond (decide (x0 < 0)) ((sB [45]) ++ s.2) s.2) (rngb (R := ByteArray) (fun k (s : Int × ByteArray) => spec_FormatInt_b1 k s.1 s.2) ((x0).natAbs + 1 - 0) 0 (x0, (sB []))))
def digN (n : Nat) : List UInt8 :=
 if h : n = 0 then [] else digN (n / 10) ++ [UInt8.ofNat (48 + n % 10)]
termination_by n
decreasing_by omega
theorem digN_pos {n : Nat} (h : 0 < n) : digN n = Lib.decDigits n := by
 induction n using Nat.strongRecOn with
 | _ n ih =>
  rw [digN, dif_neg (by omega), Lib.decDigits]
  by_cases h10 : n < 10
  ·rw [dif_pos h10, show n / 10 = 0 by omega, digN, dif_pos rfl, Nat.mod_eq_of_lt h10]
   rfl
  ·rw [dif_neg h10, ih (n / 10) (by omega) (by omega)]
theorem u8c_dig {d : Int} {m : Nat} (hm : m < 10) (h : d = ((m : Nat) : Int)) : u8c (IntKind.u8.wrap (IntKind.i64.wrap (48 + d))) = UInt8.ofNat (48 + m) := by
 subst h
 have h1 : IntKind.i64.wrap (48 + ((m : Nat) : Int)) = 48 + ((m : Nat) : Int) := wrap_id (by omega) (by omega)
 have h2 : IntKind.u8.wrap (48 + ((m : Nat) : Int)) = 48 + ((m : Nat) : Int) := by simp only [IntKind.wrap_u8]; omega
 rw [h1, h2]
 unfold u8c
 rw [show (48 + ((m : Nat) : Int)).toNat = 48 + m by omega]
theorem spec_FormatInt_step (n : Int) (out : List UInt8) (k : Nat) (h0 : n ≠ 0) (hr : -9223372036854775808 ≤ n ∧ n ≤ 9223372036854775807) : spec_FormatInt_b1 k n (sB out) = .inr (.inr (Int.tdiv n 10, sB (UInt8.ofNat (48 + n.natAbs % 10) :: out))) := by
 unfold spec_FormatInt_b1
 rw [bne_iff_ne.2 h0, cond_true, (tdv10 hr).1]
 have hm : (Int.tmod n 10).natAbs = n.natAbs % 10 := by rw [Int.natAbs_tmod]; rfl
 by_cases hn : Int.tmod n 10 < 0
 ·rw [decide_eq_true hn, cond_true, sB_app, wrap_id (n := -(Int.tmod n 10)) (by omega) (by omega), u8c_dig (m := n.natAbs % 10) (by omega) (by omega)]
  rfl
 ·rw [decide_eq_false hn, cond_false, sB_app, u8c_dig (m := n.natAbs % 10) (by omega) (by omega)]
  rfl
theorem spec_FormatInt_loop : ∀ (m k : Nat) (n : Int) (out : List UInt8), n.natAbs < m → (-9223372036854775808 ≤ n ∧ n ≤ 9223372036854775807) → rngb (R := ByteArray) (fun k (s : Int × ByteArray) => spec_FormatInt_b1 k s.1 s.2) m k (n, sB out) = .inr (0, sB (digN n.natAbs ++ out))
 | 0, _, n, _, h, _ => by omega
 | m + 1, k, n, out, h, hr => by
  rw [rngb]
  by_cases h0 : n = 0
  ·subst h0
   rw [show (0 : Int).natAbs = 0 from rfl, digN, dif_pos rfl]
   rfl
  ·show Sum.elim _ _ (spec_FormatInt_b1 k n (sB out)) = _
   rw [spec_FormatInt_step n out k h0 hr]
   have h2 := (tdv10 hr).2
   have ih := spec_FormatInt_loop m (k + 1) (Int.tdiv n 10) (UInt8.ofNat (48 + n.natAbs % 10) :: out) (by omega) (by omega)
   show rngb _ m (k + 1) (Int.tdiv n 10, sB (UInt8.ofNat (48 + n.natAbs % 10) :: out)) = _
   rw [ih, h2]
   have e : digN n.natAbs = digN (n.natAbs / 10) ++ [UInt8.ofNat (48 + n.natAbs % 10)] := by rw [digN, dif_neg (by omega)]
   rw [e, List.append_assoc]
   rfl
theorem spec_FormatInt_out {x : Int} (h : -9223372036854775808 ≤ x ∧ x ≤ 9223372036854775807) {a : Int} {b : ByteArray} (hE : rngb (R := ByteArray) (fun k (s : Int × ByteArray) => spec_FormatInt_b1 k s.1 s.2) (x.natAbs + 1 - 0) 0 (x, sB []) = .inr (a, b)) : b.size ≤ 20 := by
 rw [spec_FormatInt_loop (x.natAbs + 1 - 0) 0 x [] (by omega) h, List.append_nil] at hE
 cases hE
 show (sB (digN x.natAbs)).size ≤ 20
 rw [sB_size]
 by_cases h0 : 0 < x.natAbs
 ·rw [digN_pos h0, Lib.decDigits_length]
  exact Lib.nDigits_le20 _ (by omega)
 ·rw [show x.natAbs = 0 by omega, digN, dif_pos rfl]
  exact Nat.zero_le _
theorem cb24 : Cb Tryd.prog 24 := ⟨f24, _, func24, rfl, by decide⟩
theorem spec_FormatInt_c (w : World) (x0 : Int) (hr : -9223372036854775808 ≤ x0 ∧ x0 ≤ 9223372036854775807) :
  Calls Tryd.prog 24 #[.int .i64 x0] w fun e w' => e = .returned (.string (spec_FormatInt_m x0)) ∧ Below w.heap.size w w' := by
 refine ce1 (L := [(0, .int .i64 x0)]) (N := 31) func24 ?_
 refine sr (wa (nt' (CM_seq (sr (wm ?_)))))
 refine wv (fun W hm => rv_eql rfl rfl) ?_
 refine nt' ?_
 by_cases h1 : x0 = 0
 ·have g2 := beq_iff_eq.2 h1
  refine CM_condT rfl g2 ?_
  refine sr (wa (nt' (CM_ret (QM_then_ret ?_))))
  exact QM_ret1 rfl rfl (fun W hm => ⟨ret_s (show spec_FormatInt_m x0 = (sB [48]) from cond_t g2 (rfl)), hm.below⟩)
 ·have g2 := beq_eq_false_iff_ne.2 h1
  refine CM_condF rfl g2 ?_
  refine CM_skip (QM_then (sr (wa (nt' (sr (wm ?_))))))
  refine wv vlss ?_
  refine wa (nt' (CM_seq ?_))
  let F1 := fun k (s : Int × ByteArray) => spec_FormatInt_b1 k s.1 s.2
  let R2 := rngb (R := ByteArray) F1
  refine CM_cut (σ := (Int × ByteArray) × (Unit)) (fun s => [(3, .string s.1.2), (4, .bool (decide (x0 < 0)))]) (fun s => []) (fun s => R2 ((x0).natAbs + 1 - 0) 0 (x0, (sB [])) = Sum.inr s.1) ?_ ?_
  ·
   refine CM_block ?_
   refine CM_loop (σ := Nat × (Int × ByteArray) × (Unit)) (fun s => [(0, .int .i64 s.2.1.1), (3, .string s.2.1.2), (4, .bool (decide (x0 < 0)))]) (fun s => []) (fun s => s.1 + ((s.2.1.1).natAbs) + 1 ≤ (x0).natAbs + 1 ∧ R2 ((x0).natAbs + 1 - s.1) s.1 s.2.1 = R2 ((x0).natAbs + 1 - 0) 0 (x0, (sB [])) ∧ -9223372036854775808 ≤ s.2.1.1 ∧ s.2.1.1 ≤ 9223372036854775807 ∧ (s.2.1.2.size = 0 ∨ s.2.1.2.size + (s.2.1.1).natAbs ≤ 922337203685477582)) (fun s => (x0).natAbs + 1 - s.1) (0, (x0, (sB [])), ()) sl3 (fun W hm => hm) ⟨(show 0 + ((x0).natAbs) + 1 ≤ (x0).natAbs + 1 from by omega), rfl, (show -9223372036854775808 ≤ x0 from by omega), (show x0 ≤ 9223372036854775807 from by omega), (show ((sB []).size = 0 ∨ (sB []).size + (x0).natAbs ≤ 922337203685477582) from by (left; rfl))⟩ ?_
   rintro ⟨k3, ⟨s4, s5⟩, ⟨⟩⟩ H8
   obtain ⟨hk6, hF7, hi9, hi10, hi11⟩ : k3 + ((s4).natAbs) + 1 ≤ (x0).natAbs + 1 ∧ R2 ((x0).natAbs + 1 - k3) k3 (s4, s5) = R2 ((x0).natAbs + 1 - 0) 0 (x0, (sB [])) ∧ -9223372036854775808 ≤ s4 ∧ s4 ≤ 9223372036854775807 ∧ (s5.size = 0 ∨ s5.size + (s4).natAbs ≤ 922337203685477582) := H8
   show CM Tryd.prog 31 _ _ _ _ [(0, .int .i64 s4), (3, .string s5), (4, .bool (decide (x0 < 0)))] []
   refine CM_seq (sr (wm ?_))
   refine wv vneq ?_
   refine nt' ?_
   by_cases h12 : s4 = 0
   ·have g13 : (s4 != 0) = false := by rw [h12]; exact bne_self_eq_false _
    refine CM_condF rfl g13 ?_
    refine CM_exit (QM_then_exit (QM_then_exit (QM_block_hit ?_)))
    have hE14 := rngb_brk (R := ByteArray) (body := F1) (k := k3) (s := (s4, s5)) (s' := (s4, s5)) (show k3 < (x0).natAbs + 1 from by omega) (cond_f g13 (rfl)) hF7
    exact QM_cut_normal ((s4, s5), ()) sl2 (fun W hm => hm) hE14
   ·have g13 : (s4 != 0) = true := bne_iff_ne.2 h12
    refine CM_condT rfl g13 ?_
    refine CM_skip (QM_then (CM_block (sr (wm ?_))))
    refine wv (fun W hm => rv_rem rfl rfl (by omega)) ?_
    refine wa (nt' (CM_seq (sr (wm ?_))))
    refine wv vlss ?_
    refine nt' ?_
    by_cases h15 : (Int.tmod s4 10) < 0
    ·have g16 := decide_eq_true h15
     refine CM_condT rfl g16 ?_
     refine CM_region (wm ?_)
     refine wv (fun W hm => rv_neg rfl) ?_
     refine wa (nt' (sr (wm ?_)))
     refine wv vadd ?_
     refine wv (fun W hm => rv_convU8 underlying3 underlying5 rfl) ?_
     refine WM_build (cs := [.int .u8 (IntKind.u8.wrap (IntKind.i64.wrap (48 + (IntKind.i64.wrap (-(Int.tmod s4 10))))))]) underlying56 type5 rfl (by decide) (by decide) rfl (by kernel_rfl) (Wd_none rfl) (by decide) (fun p17 => ?_)
     refine wv (fun W hm => rv_byteS hm (i := 0) rfl underlying56 underlying5 underlying9 rfl) ?_
     refine wm ?_
     have hz18 : ByteArray.size (sB [u8c (IntKind.u8.wrap (IntKind.i64.wrap (48 + (IntKind.i64.wrap (-(Int.tmod s4 10))))))]) = 1 := rfl
     refine wv (fun W hm => rv_addS (p := (sB [u8c (IntKind.u8.wrap (IntKind.i64.wrap (48 + (IntKind.i64.wrap (-(Int.tmod s4 10))))))])) (q := s5) rfl rfl (by omega)) ?_
     have hz19 := sz_app (sB [u8c (IntKind.u8.wrap (IntKind.i64.wrap (48 + (IntKind.i64.wrap (-(Int.tmod s4 10))))))]) s5
     refine wa (nt' (CM_region (wm ?_)))
     have ht20 := tdv10 (n := s4) (by omega)
     refine wv (fun W hm => rv_quo rfl rfl (by omega)) ?_
     refine wa (WM_nil (QM_block_normal ?_))
     have hn21 := rngb_next (R := ByteArray) (body := F1) (k := k3) (s := (s4, s5)) (s' := ((IntKind.i64.wrap (Int.tdiv s4 10)), ((sB [u8c (IntKind.u8.wrap (IntKind.i64.wrap (48 + (IntKind.i64.wrap (-(Int.tmod s4 10))))))]) ++ s5))) (show k3 < (x0).natAbs + 1 from by omega) (cond_t g13 (cond_t g16 (rfl))) hF7
     exact QM_round (k3 + 1, ((IntKind.i64.wrap (Int.tdiv s4 10)), ((sB [u8c (IntKind.u8.wrap (IntKind.i64.wrap (48 + (IntKind.i64.wrap (-(Int.tmod s4 10))))))]) ++ s5)), ()) sl3 (pk []) ⟨(show (k3 + 1) + (((IntKind.i64.wrap (Int.tdiv s4 10))).natAbs) + 1 ≤ (x0).natAbs + 1 from by omega), hn21, (show -9223372036854775808 ≤ (IntKind.i64.wrap (Int.tdiv s4 10)) from by first | omega | (simp only [List.length_append, List.length_cons, List.length_nil] at *; omega)), (show (IntKind.i64.wrap (Int.tdiv s4 10)) ≤ 9223372036854775807 from by first | omega | (simp only [List.length_append, List.length_cons, List.length_nil] at *; omega)), (show (((sB [u8c (IntKind.u8.wrap (IntKind.i64.wrap (48 + (IntKind.i64.wrap (-(Int.tmod s4 10))))))]) ++ s5).size = 0 ∨ ((sB [u8c (IntKind.u8.wrap (IntKind.i64.wrap (48 + (IntKind.i64.wrap (-(Int.tmod s4 10))))))]) ++ s5).size + ((IntKind.i64.wrap (Int.tdiv s4 10))).natAbs ≤ 922337203685477582) from by first | omega | (simp only [List.length_append, List.length_cons, List.length_nil] at *; omega))⟩ (show (x0).natAbs + 1 - (k3 + 1) < (x0).natAbs + 1 - k3 from by omega)
    ·have g16 := decide_eq_false h15
     refine CM_condF rfl g16 ?_
     refine CM_skip (QM_then (sr (wm ?_)))
     refine wv vadd ?_
     refine wv (fun W hm => rv_convU8 underlying3 underlying5 rfl) ?_
     refine WM_build (cs := [.int .u8 (IntKind.u8.wrap (IntKind.i64.wrap (48 + (Int.tmod s4 10))))]) underlying56 type5 rfl (by decide) (by decide) rfl (by kernel_rfl) (Wd_none rfl) (by decide) (fun p22 => ?_)
     refine wv (fun W hm => rv_byteS hm (i := 0) rfl underlying56 underlying5 underlying9 rfl) ?_
     refine wm ?_
     have hz23 : ByteArray.size (sB [u8c (IntKind.u8.wrap (IntKind.i64.wrap (48 + (Int.tmod s4 10))))]) = 1 := rfl
     refine wv (fun W hm => rv_addS (p := (sB [u8c (IntKind.u8.wrap (IntKind.i64.wrap (48 + (Int.tmod s4 10))))])) (q := s5) rfl rfl (by omega)) ?_
     have hz24 := sz_app (sB [u8c (IntKind.u8.wrap (IntKind.i64.wrap (48 + (Int.tmod s4 10))))]) s5
     refine wa (nt' (CM_region (wm ?_)))
     have ht25 := tdv10 (n := s4) (by omega)
     refine wv (fun W hm => rv_quo rfl rfl (by omega)) ?_
     refine wa (WM_nil (QM_block_normal ?_))
     have hn26 := rngb_next (R := ByteArray) (body := F1) (k := k3) (s := (s4, s5)) (s' := ((IntKind.i64.wrap (Int.tdiv s4 10)), ((sB [u8c (IntKind.u8.wrap (IntKind.i64.wrap (48 + (Int.tmod s4 10))))]) ++ s5))) (show k3 < (x0).natAbs + 1 from by omega) (cond_t g13 (cond_f g16 (rfl))) hF7
     exact QM_round (k3 + 1, ((IntKind.i64.wrap (Int.tdiv s4 10)), ((sB [u8c (IntKind.u8.wrap (IntKind.i64.wrap (48 + (Int.tmod s4 10))))]) ++ s5)), ()) sl3 (pk []) ⟨(show (k3 + 1) + (((IntKind.i64.wrap (Int.tdiv s4 10))).natAbs) + 1 ≤ (x0).natAbs + 1 from by omega), hn26, (show -9223372036854775808 ≤ (IntKind.i64.wrap (Int.tdiv s4 10)) from by first | omega | (simp only [List.length_append, List.length_cons, List.length_nil] at *; omega)), (show (IntKind.i64.wrap (Int.tdiv s4 10)) ≤ 9223372036854775807 from by first | omega | (simp only [List.length_append, List.length_cons, List.length_nil] at *; omega)), (show (((sB [u8c (IntKind.u8.wrap (IntKind.i64.wrap (48 + (Int.tmod s4 10))))]) ++ s5).size = 0 ∨ ((sB [u8c (IntKind.u8.wrap (IntKind.i64.wrap (48 + (Int.tmod s4 10))))]) ++ s5).size + ((IntKind.i64.wrap (Int.tdiv s4 10))).natAbs ≤ 922337203685477582) from by first | omega | (simp only [List.length_append, List.length_cons, List.length_nil] at *; omega))⟩ (show (x0).natAbs + 1 - (k3 + 1) < (x0).natAbs + 1 - k3 from by omega)
  ·
   rintro ⟨⟨s4, s5⟩, ⟨⟩⟩ H28
   have hE27 : R2 ((x0).natAbs + 1 - 0) 0 (x0, (sB [])) = Sum.inr (s4, s5) := H28
   have hzo := spec_FormatInt_out hr hE27
   show QM 31 _ _ _ .normal [(3, .string s5), (4, .bool (decide (x0 < 0)))] []
   refine QM_then (CM_seq (sr (wm (nt' ?_))))
   by_cases h29 : x0 < 0
   ·have g30 := decide_eq_true h29
    refine CM_condT rfl g30 ?_
    refine sr (wm ?_)
    have hz31 : ByteArray.size (sB [45]) = 1 := rfl
    refine wv (fun W hm => rv_addS (p := (sB [45])) (q := s5) rfl rfl (by omega)) ?_
    have hz32 := sz_app (sB [45]) s5
    refine wa (nt' (CM_ret (QM_then_ret ?_)))
    exact QM_ret1 rfl rfl (fun W hm => ⟨ret_s (show spec_FormatInt_m x0 = ((sB [45]) ++ s5) from cond_f g2 (fin_inr hE27 (cond_t g30 (rfl)))), hm.below⟩)
   ·have g30 := decide_eq_false h29
    refine CM_condF rfl g30 ?_
    refine CM_skip (QM_then (sr (wm (wa (nt' (CM_ret ?_))))))
    exact QM_ret1 rfl rfl (fun W hm => ⟨ret_s (show spec_FormatInt_m x0 = s5 from cond_f g2 (fin_inr hE27 (cond_f g30 (rfl)))), hm.below⟩)
theorem spec_FormatInt_is (x : Int) (h : -9223372036854775808 ≤ x ∧ x ≤ 9223372036854775807) : spec_FormatInt_m x = itoaB x := by
  unfold spec_FormatInt_m itoaB
  by_cases h0 : x = 0
  · subst h0
    rw [show Lib.itoa 0 = [48] by rw [show (0 : Int) = ((0 : Nat) : Int) from rfl, Lib.itoa_nonneg, Lib.decDigits_one (by omega)]; rfl]
    rfl
  · rw [beq_eq_false_iff_ne.2 h0, cond_false, spec_FormatInt_loop (x.natAbs + 1 - 0) 0 x [] (by omega) h, List.append_nil, digN_pos (by omega)]
    show cond (decide (x < 0)) (sB [45] ++ sB (Lib.decDigits x.natAbs)) (sB (Lib.decDigits x.natAbs)) = _
    by_cases hn : x < 0
    · rw [decide_eq_true hn, cond_true, sB_app, Lib.itoa, if_pos hn]
      rfl
    · rw [decide_eq_false hn, cond_false, Lib.itoa, if_neg hn, show x.natAbs = x.toNat by omega]
theorem spec_FormatInt_sz (x : Int) (h : -9223372036854775808 ≤ x ∧ x ≤ 9223372036854775807) : (spec_FormatInt_m x).size ≤ 21 := by
  rw [spec_FormatInt_is x h]; exact itoaB_sz x h

def spec_ParseInt_b1 (x0 : ByteArray) (k1 : Nat) (s2 : Int) (s3 : Int) : (Int × Bool) ⊕ ((Int × Int) ⊕ (Int × Int)) :=
 cond (decide (((k1 : Nat) : Int) < 11)) (cond (decide (48 ≤ (chr x0 k1))) (cond (decide ((chr x0 k1) ≤ 57)) (Sum.inr (Sum.inr ((IntKind.i64.wrap ((IntKind.i64.wrap (s2 * 10)) + (IntKind.i64.wrap (IntKind.u8.wrap ((chr x0 k1) - 48))))), (IntKind.i64.wrap (s3 + 1))))) (Sum.inr (Sum.inr (s2, s3)))) (Sum.inr (Sum.inr (s2, s3)))) (Sum.inr (Sum.inl (s2, s3)))
def spec_ParseInt_m (x0 : ByteArray) : (Int × Bool) :=
 Sum.elim id (fun (s : Int × Int) => cond (decide (0 < ((x0.size : Nat) : Int))) (cond ((chr x0 0) == 45) (cond (decide (9 < s.2)) (0, false) (cond (decide (10 < ((x0.size : Nat) : Int))) (0, false) (cond (eqS (spec_FormatInt_m (IntKind.i64.wrap (-s.1))) x0) ((IntKind.i64.wrap (-s.1)), true) (0, false)))) (cond (decide (9 < s.2)) (0, false) (cond (decide (10 < ((x0.size : Nat) : Int))) (0, false) (cond (eqS (spec_FormatInt_m s.1) x0) (s.1, true) (0, false))))) (cond (decide (9 < s.2)) (0, false) (cond (decide (10 < ((x0.size : Nat) : Int))) (0, false) (cond (eqS (spec_FormatInt_m s.1) x0) (s.1, true) (0, false))))) (rngb (R := (Int × Bool)) (fun k (s : Int × Int) => spec_ParseInt_b1 x0 k s.1 s.2) (x0.size - 0) 0 (0, 0))
theorem cb22 : Cb Tryd.prog 22 := ⟨f22, _, func22, rfl, by decide⟩
theorem spec_ParseInt_c (w : World) (x0 : ByteArray) (hs_0 : x0.size ≤ 1048576) :
  Calls Tryd.prog 22 #[.string x0] w fun e w' => e = .returned (.tuple #[.int .i64 ((spec_ParseInt_m x0).1), .bool ((spec_ParseInt_m x0).2)]) ∧ Below w.heap.size w w' := by
 refine ce1 (L := [(0, .string x0)]) (N := 61) func22 ?_
 refine sr (wa (wa (nt' (sr (wa (nt' (sr (wa (nt' (CM_seq (sr (wa (nt' ?_)))))))))))))
 let F1 := fun k (s : Int × Int) => spec_ParseInt_b1 x0 k s.1 s.2
 let R2 := rngb (R := (Int × Bool)) F1
 refine CM_cut (σ := (Int × Int) × (Unit)) (fun s => [(0, .string x0), (4, .int .i64 s.1.1), (5, .int .i64 s.1.2)]) (fun s => []) (fun s => R2 (x0.size - 0) 0 (0, 0) = Sum.inr s.1 ∧ -9223372036854775808 ≤ s.1.1 ∧ s.1.1 ≤ 9223372036854775807) ?_ ?_
 ·
  refine CM_block ?_
  refine CM_loop (σ := Nat × (Int × Int) × (Unit)) (fun s => [(0, .string x0), (4, .int .i64 s.2.1.1), (5, .int .i64 s.2.1.2), (6, .int .i64 ((s.1 : Nat) : Int))]) (fun s => []) (fun s => s.1 ≤ x0.size ∧ R2 (x0.size - s.1) s.1 s.2.1 = R2 (x0.size - 0) 0 (0, 0) ∧ -9223372036854775808 ≤ s.2.1.1 ∧ s.2.1.1 ≤ 9223372036854775807) (fun s => x0.size - s.1) (0, (0, 0), ()) sl4 (fun W hm => hm) ⟨(by omega), rfl, (by dsimp only; omega)⟩ ?_
  rintro ⟨k1, ⟨s2, s3⟩, ⟨⟩⟩ H6
  obtain ⟨hk4, hF5, hi7⟩ : k1 ≤ x0.size ∧ R2 (x0.size - k1) k1 (s2, s3) = R2 (x0.size - 0) 0 (0, 0) ∧ -9223372036854775808 ≤ s2 ∧ s2 ≤ 9223372036854775807 := H6
  show CM Tryd.prog 61 _ _ _ _ [(0, .string x0), (4, .int .i64 s2), (5, .int .i64 s3), (6, .int .i64 ((k1 : Nat) : Int))] []
  refine CM_seq (sr (wm (wm ?_)))
  refine wv (fun W hm => rv_lenS underlying9 rfl) ?_
  refine wv vlss ?_
  refine wm ?_
  by_cases hl8 : k1 < x0.size
  ·have g9 := dlT hl8
   refine wg vmv g9 ?_
   refine wg vlss g9 ?_
   refine wv (vpT g9) ?_
   refine nt' ?_
   by_cases h10 : ((k1 : Nat) : Int) < 11
   ·have g11 := decide_eq_true h10
    refine CM_condT rfl g11 ?_
    refine CM_skip (QM_then (CM_seq (CM_block (sr (wm (wm ?_))))))
    refine wv (fun W hm => rv_indexS (s := x0) (k := k1) underlying9 rfl rfl (by omega)) ?_
    have hc12 := chr_bd x0 k1
    refine wv (fun W hm => rv_geq8 rfl rfl) ?_
    refine wm ?_
    by_cases h13 : 48 ≤ (chr x0 k1)
    ·have g14 := decide_eq_true h13
     refine wg vmv g14 ?_
     refine wg vmv g14 ?_
     refine wg (fun W hm => rv_indexS (s := x0) (k := k1) underlying9 rfl rfl (by omega)) g14 ?_
     have hc15 := chr_bd x0 k1
     refine wg (fun W hm => rv_leq8 rfl rfl) g14 ?_
     refine wv (vpT g14) ?_
     refine nt' ?_
     by_cases h16 : (chr x0 k1) ≤ 57
     ·have g17 := decide_eq_true h16
      refine CM_condT rfl g17 ?_
      refine sr (wm ?_)
      refine wv (fun W hm => rv_mul rfl rfl) ?_
      refine wm (wm ?_)
      refine wv (fun W hm => rv_indexS (s := x0) (k := k1) underlying9 rfl rfl (by omega)) ?_
      have hc18 := chr_bd x0 k1
      refine wv (fun W hm => rv_sub8 rfl rfl) ?_
      refine wv (fun W hm => rv_conv8 underlying5 underlying3 rfl) ?_
      refine wv vadd ?_
      refine wa (nt' (CM_region (wm ?_)))
      refine wv vadd ?_
      refine wa (WM_nil (QM_block_normal (QM_then (CM_region (wm ?_)))))
      refine wv (vadN k1 1 (by omega)) ?_
      refine wa (WM_nil ?_)
      have hn19 := rngb_next (R := (Int × Bool)) (body := F1) (k := k1) (s := (s2, s3)) (s' := ((IntKind.i64.wrap ((IntKind.i64.wrap (s2 * 10)) + (IntKind.i64.wrap (IntKind.u8.wrap ((chr x0 k1) - 48))))), (IntKind.i64.wrap (s3 + 1)))) (show k1 < x0.size from by omega) (cond_t g11 (cond_t g14 (cond_t g17 (rfl)))) hF5
      exact QM_round (k1 + 1, ((IntKind.i64.wrap ((IntKind.i64.wrap (s2 * 10)) + (IntKind.i64.wrap (IntKind.u8.wrap ((chr x0 k1) - 48))))), (IntKind.i64.wrap (s3 + 1))), ()) sl4 (fun W hm => hm) ⟨(by omega), hn19, (show -9223372036854775808 ≤ (IntKind.i64.wrap ((IntKind.i64.wrap (s2 * 10)) + (IntKind.i64.wrap (IntKind.u8.wrap ((chr x0 k1) - 48))))) ∧ (IntKind.i64.wrap ((IntKind.i64.wrap (s2 * 10)) + (IntKind.i64.wrap (IntKind.u8.wrap ((chr x0 k1) - 48))))) ≤ 9223372036854775807 from by first | exact wrap_bd _ | omega)⟩ (rl (by omega))
     ·have g17 := decide_eq_false h16
      refine CM_condF rfl g17 ?_
      refine CM_skip (QM_block_normal (QM_then (CM_region (wm ?_))))
      refine wv (vadN k1 1 (by omega)) ?_
      refine wa (WM_nil ?_)
      have hn20 := rngb_next (R := (Int × Bool)) (body := F1) (k := k1) (s := (s2, s3)) (s' := (s2, s3)) (show k1 < x0.size from by omega) (cond_t g11 (cond_t g14 (cond_f g17 (rfl)))) hF5
      exact QM_round (k1 + 1, (s2, s3), ()) sl4 (fun W hm => hm) ⟨(by omega), hn20, (show -9223372036854775808 ≤ s2 ∧ s2 ≤ 9223372036854775807 from by first | exact wrap_bd _ | omega)⟩ (rl (by omega))
    ·have g14 := decide_eq_false h13
     refine ws g14 ?_
     refine ws g14 ?_
     refine ws g14 ?_
     refine ws g14 ?_
     refine wv (vpF g14) ?_
     refine nt' ?_
     refine CM_condF rfl rfl ?_
     refine CM_skip (QM_block_normal (QM_then (CM_region (wm ?_))))
     refine wv (vadN k1 1 (by omega)) ?_
     refine wa (WM_nil ?_)
     have hn21 := rngb_next (R := (Int × Bool)) (body := F1) (k := k1) (s := (s2, s3)) (s' := (s2, s3)) (show k1 < x0.size from by omega) (cond_t g11 (cond_f g14 (rfl))) hF5
     exact QM_round (k1 + 1, (s2, s3), ()) sl4 (fun W hm => hm) ⟨(by omega), hn21, (show -9223372036854775808 ≤ s2 ∧ s2 ≤ 9223372036854775807 from by first | exact wrap_bd _ | omega)⟩ (rl (by omega))
   ·have g11 := decide_eq_false h10
    refine CM_condF rfl g11 ?_
    refine CM_exit (QM_then_exit (QM_then_exit (QM_block_hit ?_)))
    have hE22 := rngb_brk (R := (Int × Bool)) (body := F1) (k := k1) (s := (s2, s3)) (s' := (s2, s3)) (show k1 < x0.size from by omega) (cond_f g11 (rfl)) hF5
    exact QM_cut_normal ((s2, s3), ()) sl3 (fun W hm => hm) ⟨hE22, (show -9223372036854775808 ≤ s2 ∧ s2 ≤ 9223372036854775807 from by first | omega | (simp only [List.length_append, List.length_cons, List.length_nil] at *; omega))⟩
  ·have g9 := dlF hl8
   refine ws g9 ?_
   refine ws g9 ?_
   refine wv (vpF g9) ?_
   refine nt' ?_
   refine CM_condF rfl rfl ?_
   refine CM_exit (QM_then_exit (QM_then_exit (QM_block_hit ?_)))
   have hE23 : R2 (x0.size - 0) 0 (0, 0) = Sum.inr (s2, s3) := rngb_end hl8 hF5
   exact QM_cut_normal ((s2, s3), ()) sl3 (fun W hm => hm) ⟨hE23, (show -9223372036854775808 ≤ s2 ∧ s2 ≤ 9223372036854775807 from by first | omega | (simp only [List.length_append, List.length_cons, List.length_nil] at *; omega))⟩
 ·
  rintro ⟨⟨s2, s3⟩, ⟨⟩⟩ H25
  obtain ⟨hE24, hx26⟩ : R2 (x0.size - 0) 0 (0, 0) = Sum.inr (s2, s3) ∧ -9223372036854775808 ≤ s2 ∧ s2 ≤ 9223372036854775807 := H25
  show QM 61 _ _ _ .normal [(0, .string x0), (4, .int .i64 s2), (5, .int .i64 s3)] []
  refine QM_then (CM_seq (sr (wm ?_)))
  refine wv (fun W hm => rv_lenS underlying9 rfl) ?_
  refine wv (fun W hm => rv_gtr rfl rfl) ?_
  refine wm ?_
  by_cases h27 : 0 < ((x0.size : Nat) : Int)
  ·have g28 := decide_eq_true h27
   refine wg vmv g28 ?_
   refine wg (fun W hm => rv_indexS (s := x0) (k := 0) underlying9 rfl rfl (by omega)) g28 ?_
   have hc29 := chr_bd x0 0
   refine wg (fun W hm => rv_eql8 rfl rfl) g28 ?_
   refine wv (vpT g28) ?_
   refine nt' ?_
   by_cases h30 : (chr x0 0) = 45
   ·have g31 := beq_iff_eq.2 h30
    refine CM_condT rfl g31 ?_
    refine CM_region (wm ?_)
    have hw32 := wrap_bd (-s2)
    refine wv (fun W hm => rv_neg rfl) ?_
    refine wa (nt' (CM_seq (sr (wm ?_))))
    refine wv (fun W hm => rv_gtr rfl rfl) ?_
    refine wm ?_
    by_cases h33 : 9 < s3
    ·have g34 := decide_eq_true h33
     refine ws g34 ?_
     refine ws g34 ?_
     refine ws g34 ?_
     refine wv (vpT g34) ?_
     refine wm ?_
     refine wk ?_
     refine wk ?_
     refine wk ?_
     refine wk ?_
     refine wv (vpT rfl) ?_
     refine nt' ?_
     refine CM_condT rfl rfl ?_
     refine sr (wa (wa (nt' (CM_ret (QM_then_ret ?_)))))
     have he35 := (show spec_ParseInt_m x0 = (0, false) from fin_inr hE24 (cond_t g28 (cond_t g31 (cond_t g34 (rfl)))))
     exact QM_r2 rfl (RR_tmp rfl) (RR_tmp rfl) (fun W hm => ⟨by rw [he35]; first | done | rfl, hm.below⟩)
    ·have g34 := decide_eq_false h33
     refine wg vmv g34 ?_
     refine wg (fun W hm => rv_lenS underlying9 rfl) g34 ?_
     refine wg (fun W hm => rv_gtr rfl rfl) g34 ?_
     refine wv (vpF g34) ?_
     refine wm ?_
     by_cases h36 : 10 < ((x0.size : Nat) : Int)
     ·have g37 := decide_eq_true h36
      refine ws g37 ?_
      refine ws g37 ?_
      refine ws g37 ?_
      refine ws g37 ?_
      refine wv (vpT g37) ?_
      refine nt' ?_
      refine CM_condT rfl rfl ?_
      refine sr (wa (wa (nt' (CM_ret (QM_then_ret ?_)))))
      have he38 := (show spec_ParseInt_m x0 = (0, false) from fin_inr hE24 (cond_t g28 (cond_t g31 (cond_f g34 (cond_t g37 (rfl))))))
      exact QM_r2 rfl (RR_tmp rfl) (RR_tmp rfl) (fun W hm => ⟨by rw [he38]; first | done | rfl, hm.below⟩)
     ·have g37 := decide_eq_false h36
      refine wg vmv g37 ?_
      refine WM_callV (cl_fn cb24 rfl) (fun W hm => spec_FormatInt_c W (IntKind.i64.wrap (-s2)) (⟨by omega, by omega⟩)) (Wd_some rfl rfl rfl (bw g37 rfl)) (by decide) ?_
      have hz39 := spec_FormatInt_sz (IntKind.i64.wrap (-s2)) (by omega)
      refine wg vmv g37 ?_
      refine wg (fun W hm => rv_neqS (p := (spec_FormatInt_m (IntKind.i64.wrap (-s2)))) (q := x0) underlying9 rfl rfl) g37 ?_
      refine wv (vpF g37) ?_
      refine nt' ?_
      rcases Bool.eq_false_or_eq_true (eqS (spec_FormatInt_m (IntKind.i64.wrap (-s2))) x0) with g41 | g41
      ·
       refine CM_condF rfl (nt g41) ?_
       refine CM_skip (QM_then (sr (wm (wa (wa (nt' (CM_ret ?_)))))))
       have he42 := (show spec_ParseInt_m x0 = ((IntKind.i64.wrap (-s2)), true) from fin_inr hE24 (cond_t g28 (cond_t g31 (cond_f g34 (cond_f g37 (cond_t g41 (rfl)))))))
       exact QM_r2 rfl (RR_tmp rfl) (RR_tmp rfl) (fun W hm => ⟨by rw [he42]; first | done | rfl, hm.below⟩)
      ·
       refine CM_condT rfl (nf g41) ?_
       refine sr (wa (wa (nt' (CM_ret (QM_then_ret ?_)))))
       have he43 := (show spec_ParseInt_m x0 = (0, false) from fin_inr hE24 (cond_t g28 (cond_t g31 (cond_f g34 (cond_f g37 (cond_f g41 (rfl)))))))
       exact QM_r2 rfl (RR_tmp rfl) (RR_tmp rfl) (fun W hm => ⟨by rw [he43]; first | done | rfl, hm.below⟩)
   ·have g31 := beq_eq_false_iff_ne.2 h30
    refine CM_condF rfl g31 ?_
    refine CM_skip (QM_then (CM_seq (sr (wm ?_))))
    refine wv (fun W hm => rv_gtr rfl rfl) ?_
    refine wm ?_
    by_cases h44 : 9 < s3
    ·have g45 := decide_eq_true h44
     refine ws g45 ?_
     refine ws g45 ?_
     refine ws g45 ?_
     refine wv (vpT g45) ?_
     refine wm ?_
     refine wk ?_
     refine wk ?_
     refine wk ?_
     refine wk ?_
     refine wv (vpT rfl) ?_
     refine nt' ?_
     refine CM_condT rfl rfl ?_
     refine sr (wa (wa (nt' (CM_ret (QM_then_ret ?_)))))
     have he46 := (show spec_ParseInt_m x0 = (0, false) from fin_inr hE24 (cond_t g28 (cond_f g31 (cond_t g45 (rfl)))))
     exact QM_r2 rfl (RR_tmp rfl) (RR_tmp rfl) (fun W hm => ⟨by rw [he46]; first | done | rfl, hm.below⟩)
    ·have g45 := decide_eq_false h44
     refine wg vmv g45 ?_
     refine wg (fun W hm => rv_lenS underlying9 rfl) g45 ?_
     refine wg (fun W hm => rv_gtr rfl rfl) g45 ?_
     refine wv (vpF g45) ?_
     refine wm ?_
     by_cases h47 : 10 < ((x0.size : Nat) : Int)
     ·have g48 := decide_eq_true h47
      refine ws g48 ?_
      refine ws g48 ?_
      refine ws g48 ?_
      refine ws g48 ?_
      refine wv (vpT g48) ?_
      refine nt' ?_
      refine CM_condT rfl rfl ?_
      refine sr (wa (wa (nt' (CM_ret (QM_then_ret ?_)))))
      have he49 := (show spec_ParseInt_m x0 = (0, false) from fin_inr hE24 (cond_t g28 (cond_f g31 (cond_f g45 (cond_t g48 (rfl))))))
      exact QM_r2 rfl (RR_tmp rfl) (RR_tmp rfl) (fun W hm => ⟨by rw [he49]; first | done | rfl, hm.below⟩)
     ·have g48 := decide_eq_false h47
      refine wg vmv g48 ?_
      refine WM_callV (cl_fn cb24 rfl) (fun W hm => spec_FormatInt_c W s2 (⟨by omega, by omega⟩)) (Wd_some rfl rfl rfl (bw g48 rfl)) (by decide) ?_
      have hz50 := spec_FormatInt_sz s2 (by omega)
      refine wg vmv g48 ?_
      refine wg (fun W hm => rv_neqS (p := (spec_FormatInt_m s2)) (q := x0) underlying9 rfl rfl) g48 ?_
      refine wv (vpF g48) ?_
      refine nt' ?_
      rcases Bool.eq_false_or_eq_true (eqS (spec_FormatInt_m s2) x0) with g52 | g52
      ·
       refine CM_condF rfl (nt g52) ?_
       refine CM_skip (QM_then (sr (wm (wa (wa (nt' (CM_ret ?_)))))))
       have he53 := (show spec_ParseInt_m x0 = (s2, true) from fin_inr hE24 (cond_t g28 (cond_f g31 (cond_f g45 (cond_f g48 (cond_t g52 (rfl)))))))
       exact QM_r2 rfl (RR_tmp rfl) (RR_tmp rfl) (fun W hm => ⟨by rw [he53]; first | done | rfl, hm.below⟩)
      ·
       refine CM_condT rfl (nf g52) ?_
       refine sr (wa (wa (nt' (CM_ret (QM_then_ret ?_)))))
       have he54 := (show spec_ParseInt_m x0 = (0, false) from fin_inr hE24 (cond_t g28 (cond_f g31 (cond_f g45 (cond_f g48 (cond_f g52 (rfl)))))))
       exact QM_r2 rfl (RR_tmp rfl) (RR_tmp rfl) (fun W hm => ⟨by rw [he54]; first | done | rfl, hm.below⟩)
  ·have g28 := decide_eq_false h27
   refine ws g28 ?_
   refine ws g28 ?_
   refine ws g28 ?_
   refine wv (vpF g28) ?_
   refine nt' ?_
   refine CM_condF rfl rfl ?_
   refine CM_skip (QM_then (CM_seq (sr (wm ?_))))
   refine wv (fun W hm => rv_gtr rfl rfl) ?_
   refine wm ?_
   by_cases h55 : 9 < s3
   ·have g56 := decide_eq_true h55
    refine ws g56 ?_
    refine ws g56 ?_
    refine ws g56 ?_
    refine wv (vpT g56) ?_
    refine wm ?_
    refine wk ?_
    refine wk ?_
    refine wk ?_
    refine wk ?_
    refine wv (vpT rfl) ?_
    refine nt' ?_
    refine CM_condT rfl rfl ?_
    refine sr (wa (wa (nt' (CM_ret (QM_then_ret ?_)))))
    have he57 := (show spec_ParseInt_m x0 = (0, false) from fin_inr hE24 (cond_f g28 (cond_t g56 (rfl))))
    exact QM_r2 rfl (RR_tmp rfl) (RR_tmp rfl) (fun W hm => ⟨by rw [he57]; first | done | rfl, hm.below⟩)
   ·have g56 := decide_eq_false h55
    refine wg vmv g56 ?_
    refine wg (fun W hm => rv_lenS underlying9 rfl) g56 ?_
    refine wg (fun W hm => rv_gtr rfl rfl) g56 ?_
    refine wv (vpF g56) ?_
    refine wm ?_
    by_cases h58 : 10 < ((x0.size : Nat) : Int)
    ·have g59 := decide_eq_true h58
     refine ws g59 ?_
     refine ws g59 ?_
     refine ws g59 ?_
     refine ws g59 ?_
     refine wv (vpT g59) ?_
     refine nt' ?_
     refine CM_condT rfl rfl ?_
     refine sr (wa (wa (nt' (CM_ret (QM_then_ret ?_)))))
     have he60 := (show spec_ParseInt_m x0 = (0, false) from fin_inr hE24 (cond_f g28 (cond_f g56 (cond_t g59 (rfl)))))
     exact QM_r2 rfl (RR_tmp rfl) (RR_tmp rfl) (fun W hm => ⟨by rw [he60]; first | done | rfl, hm.below⟩)
    ·have g59 := decide_eq_false h58
     refine wg vmv g59 ?_
     refine WM_callV (cl_fn cb24 rfl) (fun W hm => spec_FormatInt_c W s2 (⟨by omega, by omega⟩)) (Wd_some rfl rfl rfl (bw g59 rfl)) (by decide) ?_
     have hz61 := spec_FormatInt_sz s2 (by omega)
     refine wg vmv g59 ?_
     refine wg (fun W hm => rv_neqS (p := (spec_FormatInt_m s2)) (q := x0) underlying9 rfl rfl) g59 ?_
     refine wv (vpF g59) ?_
     refine nt' ?_
     rcases Bool.eq_false_or_eq_true (eqS (spec_FormatInt_m s2) x0) with g63 | g63
     ·
      refine CM_condF rfl (nt g63) ?_
      refine CM_skip (QM_then (sr (wm (wa (wa (nt' (CM_ret ?_)))))))
      have he64 := (show spec_ParseInt_m x0 = (s2, true) from fin_inr hE24 (cond_f g28 (cond_f g56 (cond_f g59 (cond_t g63 (rfl))))))
      exact QM_r2 rfl (RR_tmp rfl) (RR_tmp rfl) (fun W hm => ⟨by rw [he64]; first | done | rfl, hm.below⟩)
     ·
      refine CM_condT rfl (nf g63) ?_
      refine sr (wa (wa (nt' (CM_ret (QM_then_ret ?_)))))
      have he65 := (show spec_ParseInt_m x0 = (0, false) from fin_inr hE24 (cond_f g28 (cond_f g56 (cond_f g59 (cond_f g63 (rfl))))))
      exact QM_r2 rfl (RR_tmp rfl) (RR_tmp rfl) (fun W hm => ⟨by rw [he65]; first | done | rfl, hm.below⟩)

def spec_l2Num_m (x0 : ByteArray) : Int :=
 cond ((spec_ParseInt_m x0).2) ((spec_ParseInt_m x0).1) (-100000)
theorem cb11 : Cb Tryd.prog 11 := ⟨f11, _, func11, rfl, by decide⟩
theorem spec_l2Num_c (w : World) (x0 : ByteArray) (hs_0 : x0.size ≤ 1048576) :
  Calls Tryd.prog 11 #[.string x0] w fun e w' => e = .returned (.int .i64 (spec_l2Num_m x0)) ∧ Below w.heap.size w w' := by
 refine ce1 (L := [(0, .string x0)]) (N := 13) func11 ?_
 refine sr (wa (nt' (sr (wm ?_))))
 refine wcv (cl_fn cb22 rfl) (fun W hm => spec_ParseInt_c W x0 (by omega)) ?_
 refine wm ?_
 refine wv (fun W hm => rv_extract rfl rfl) ?_
 refine wv (fun W hm => rv_extract rfl rfl) ?_
 refine wa (wa (nt' (CM_seq (sr (wm ?_)))))
 refine wv vnot ?_
 refine nt' ?_
 rcases Bool.eq_false_or_eq_true ((spec_ParseInt_m x0).2) with g2 | g2
 ·
  refine CM_condF rfl (nt g2) ?_
  refine CM_skip (QM_then (sr (wm (wa (nt' (CM_ret ?_))))))
  exact rti (h := cond_t g2 (rfl))
 ·
  refine CM_condT rfl (nf g2) ?_
  refine sr (wa (nt' (CM_ret (QM_then_ret ?_))))
  exact rti (h := cond_f g2 (rfl))

def spec_l1In_m (x0 : Int) (x1 : Int) (x2 : Int) : Bool :=
 cond (decide (x1 ≤ x0)) (decide (x0 ≤ x2)) false
theorem cb39 : Cb Tryd.prog 39 := ⟨f39, _, func39, rfl, by decide⟩
theorem spec_l1In_c (w : World) (x0 : Int) (x1 : Int) (x2 : Int) :
  Calls Tryd.prog 39 #[.int .i64 x0, .int .i64 x1, .int .i64 x2] w fun e w' => e = .returned (.bool (spec_l1In_m x0 x1 x2)) ∧ Below w.heap.size w w' := by
 refine ce3 (L := [(0, .int .i64 x0), (1, .int .i64 x1), (2, .int .i64 x2)]) (N := 15) func39 ?_
 refine sr (wa (nt' (sr (wm (wm ?_)))))
 refine wv (fun W hm => rv_geq rfl rfl) ?_
 refine wm ?_
 by_cases h1 : x1 ≤ x0
 ·have g2 := decide_eq_true h1
  refine wg vmv g2 ?_
  refine wg vmv g2 ?_
  refine wg (fun W hm => rv_leq rfl rfl) g2 ?_
  refine wv (vpT g2) ?_
  refine wa (nt' (CM_ret ?_))
  exact rtb (h := cond_t g2 (rfl))
 ·have g2 := decide_eq_false h1
  refine ws g2 ?_
  refine ws g2 ?_
  refine ws g2 ?_
  refine wv (vpF g2) ?_
  refine wa (nt' (CM_ret ?_))
  exact rtb (h := cond_f g2 (rfl))

theorem spec_l1In_fact {x a b : Int} (h : spec_l1In_m x a b = true) : a ≤ x ∧ x ≤ b := by
  unfold spec_l1In_m at h
  by_cases h1 : a ≤ x
  · rw [decide_eq_true h1] at h
    exact ⟨h1, of_decide_eq_true h⟩
  · rw [decide_eq_false h1] at h
    cases h
theorem spec_l1In_iff (x a b : Int) : spec_l1In_m x a b = decide (a ≤ x ∧ x ≤ b) := by
  unfold spec_l1In_m
  by_cases h1 : a ≤ x
  · by_cases h2 : x ≤ b
    · simp [h1, h2]
    · simp [h1, h2]
  · simp [h1]

def spec_IsRow_b1 (x0 : DRow) (k9 : Nat) : Bool ⊕ (Unit) :=
 cond (spec_l1In_m (gt x0.Values k9) 0 99) (Sum.inr ()) (Sum.inl false)
def spec_IsRow_m (x0 : DRow) : Bool :=
 Sum.elim id (fun (s : Unit) => cond (spec_l1In_m x0.Id 0 999) (((x0.Values.length : Nat) : Int) == 3) false) (rng (R := Bool) (fun k (_ : Unit) => spec_IsRow_b1 x0 k) (x0.Values.length - 0) 0 ())
theorem cb37 : Cb Tryd.prog 37 := ⟨f37, _, func37, rfl, by decide⟩
theorem spec_IsRow_c (w : World) (z0 : List Value) (x0 : DRow) (r_0 : tyRow.rd w w.heap.size z0 x0) :
  Calls Tryd.prog 37 #[.agg z0.toArray] w fun e w' => e = .returned (.bool (spec_IsRow_m x0)) ∧ Below w.heap.size w w' := by
 obtain ⟨v1, rfl, r2⟩ := tyRow_rd r_0
 obtain ⟨m3, A4, c5, rfl, q6, r7⟩ := rdS_op r2
 refine ce1 (L := [(0, .agg #[.int .i64 x0.Id, .slice A4 x0.Values.length c5])]) (N := 27) func37 ?_
 refine sr ?_
 refine WM_box rfl (Wd_none rfl) (by decide) (fun p8 => ?_)
 refine wa (nt' (CM_seq (sr (wa (nt' (CM_block ?_))))))
 let F1 := fun k (_ : Unit) => spec_IsRow_b1 x0 k
 let R2 := rng (R := Bool) F1
 let I3 : It := iBox p8 24 [.int .i64 x0.Id, .slice A4 x0.Values.length c5]
 refine CM_loop (σ := Nat × (Unit) × (Unit)) (fun s => [(1, .pointer (some (⟨p8, 0, none⟩ : Addr))), (3, .int .i64 ((s.1 : Nat) : Int))]) (fun s => [I3]) (fun s => s.1 ≤ x0.Values.length ∧ R2 (x0.Values.length - s.1) s.1 s.2.1 = R2 (x0.Values.length - 0) 0 ()) (fun s => x0.Values.length - s.1) (0, (), ()) sl2 (fun W hm => hm) ⟨(by omega), rfl⟩ ?_
 rintro ⟨k9, ⟨⟩, ⟨⟩⟩ H12
 obtain ⟨hk10, hF11⟩ : k9 ≤ x0.Values.length ∧ R2 (x0.Values.length - k9) k9 () = R2 (x0.Values.length - 0) 0 () := H12
 show CM Tryd.prog 27 _ _ _ _ [(1, .pointer (some (⟨p8, 0, none⟩ : Addr))), (3, .int .i64 ((k9 : Nat) : Int))] [I3]
 refine CM_seq (sr (wm ?_))
 refine wv (vf underlying24 rfl type22) ?_
 refine wv (vl 0 1 underlying22) ?_
 refine wv (vlen underlying22) ?_
 refine wv vlss ?_
 refine nt' ?_
 by_cases hl13 : k9 < x0.Values.length
 ·have g14 := dlT hl13
  refine CM_condT rfl g14 ?_
  refine CM_skip (QM_then (CM_seq (CM_block (sr ?_))))
  refine wv (vf underlying24 rfl type22) ?_
  refine wv (vl 0 1 underlying22) ?_
  refine wm ?_
  obtain ⟨a15, rfl, hb16, he17⟩ := q6 (by omega)
  refine wv (vix 1 k9 underlying22 type3) ?_
  refine wv (fun W hm => rv_load underlying3 rfl rfl ((hm.cell0 (show (a15.add (k9 * 1)).block < w.heap.size from by rw [add_block]; exact hb16.1)).trans (rdS_int he17 k9 (by omega)))) ?_
  refine wcv (cl_fn cb39 rfl) (fun W hm => spec_l1In_c W (gt x0.Values k9) 0 99) ?_
  refine wv vnot ?_
  refine nt' ?_
  rcases Bool.eq_false_or_eq_true (spec_l1In_m (gt x0.Values k9) 0 99) with g19 | g19
  ·
   have hw := spec_l1In_fact g19
   refine CM_condF rfl (nt g19) ?_
   refine CM_skip (QM_block_normal (QM_then (CM_region (wm ?_))))
   refine wv (vadN k9 1 (by omega)) ?_
   refine wa (WM_nil ?_)
   have hn20 := rng_next (R := Bool) (body := F1) (k := k9) (s := ()) (s' := ()) (show k9 < x0.Values.length from by omega) (cond_t g19 (rfl)) hF11
   exact QM_round (k9 + 1, (), ()) sl2 (fun W hm => hm) ⟨(by omega), hn20⟩ (rl (by omega))
  ·
   refine CM_condT rfl (nf g19) ?_
   refine sr (wa (nt' (CM_ret (QM_block_ret (QM_then_ret (QM_then_ret (QM_block_ret (QM_then_ret ?_))))))))
   exact rtb (h := fin_inl (rng_ret (body := F1) (k := k9) (s := ()) (show k9 < x0.Values.length from by omega) (cond_f g19 (rfl)) hF11) rfl)
 ·have g14 := dlF hl13
  refine CM_condF rfl g14 ?_
  refine CM_exit (QM_then_exit (QM_then_exit ?_))
  have hE21 : R2 (x0.Values.length - 0) 0 () = Sum.inr () := rng_end hl13 hF11
  refine QM_block_hit (QM_then (sr ?_))
  refine wv (vf underlying24 rfl type3) ?_
  refine wv (vl 0 0 underlying3) ?_
  refine wcv (cl_fn cb39 rfl) (fun W hm => spec_l1In_c W x0.Id 0 999) ?_
  refine wm ?_
  rcases Bool.eq_false_or_eq_true (spec_l1In_m x0.Id 0 999) with g23 | g23
  ·
   have hw := spec_l1In_fact g23
   refine wg (vf underlying24 rfl type22) g23 ?_
   refine wg (vl 0 1 underlying22) g23 ?_
   refine wg (vlen underlying22) g23 ?_
   refine wg (fun W hm => rv_eql rfl rfl) g23 ?_
   refine wv (vpT g23) ?_
   refine wa (nt' (CM_ret ?_))
   exact rtb (h := fin_inr hE21 (cond_t g23 (rfl)))
  ·
   refine ws g23 ?_
   refine ws g23 ?_
   refine ws g23 ?_
   refine ws g23 ?_
   refine wv (vpF g23) ?_
   refine wa (nt' (CM_ret ?_))
   exact rtb (h := fin_inr hE21 (cond_f g23 (rfl)))

def spec_l3List_b1 (x0 : (List Int)) (k6 : Nat) (s7 : ByteArray) : ByteArray ⊕ (ByteArray) :=
 cond (decide (0 < ((k6 : Nat) : Int))) (Sum.inr ((s7 ++ (sB [44])) ++ (spec_FormatInt_m (gt x0 k6)))) (Sum.inr (s7 ++ (spec_FormatInt_m (gt x0 k6))))
def spec_l3List_m (x0 : (List Int)) : ByteArray :=
 Sum.elim id (fun (s : ByteArray) => s) (rng (R := ByteArray) (fun k (s : ByteArray) => spec_l3List_b1 x0 k s) (x0.length - 0) 0 (sB []))
theorem cb38 : Cb Tryd.prog 38 := ⟨f38, _, func38, rfl, by decide⟩
theorem spec_l3List_c (w : World) (z0 : Value) (x0 : (List Int)) (r_0 : rdS tInt w w.heap.size z0 x0) (hv : x0.length = 3 ∧ ∀ k, k < 3 → 0 ≤ gt x0 k ∧ gt x0 k ≤ 99) :
  Calls Tryd.prog 38 #[z0] w fun e w' => e = .returned (.string (spec_l3List_m x0)) ∧ Below w.heap.size w w' := by
 obtain ⟨m1, A2, c3, rfl, q4, r5⟩ := rdS_op r_0
 refine ce1 (L := [(0, .slice A2 x0.length c3)]) (N := 23) func38 ?_
 refine sr (wa (nt' (sr (wa (nt' (CM_seq (sr (wa (nt' (CM_block ?_))))))))))
 let F1 := fun k (s : ByteArray) => spec_l3List_b1 x0 k s
 let R2 := rng (R := ByteArray) F1
 refine CM_loop (σ := Nat × (ByteArray) × (Unit)) (fun s => [(0, .slice A2 x0.length c3), (3, .string s.2.1), (4, .int .i64 ((s.1 : Nat) : Int))]) (fun s => []) (fun s => s.1 ≤ x0.length ∧ R2 (x0.length - s.1) s.1 s.2.1 = R2 (x0.length - 0) 0 (sB []) ∧ s.2.1.size ≤ 60 * s.1) (fun s => x0.length - s.1) (0, (sB []), ()) sl3 (fun W hm => hm) ⟨(by omega), rfl, (by exact Nat.zero_le _)⟩ ?_
 rintro ⟨k6, s7, ⟨⟩⟩ H10
 obtain ⟨hk8, hF9, hi11⟩ : k6 ≤ x0.length ∧ R2 (x0.length - k6) k6 s7 = R2 (x0.length - 0) 0 (sB []) ∧ s7.size ≤ 60 * k6 := H10
 show CM Tryd.prog 23 _ _ _ _ [(0, .slice A2 x0.length c3), (3, .string s7), (4, .int .i64 ((k6 : Nat) : Int))] []
 refine CM_seq (sr (wm (wm ?_)))
 refine wv (vlen underlying22) ?_
 refine wv vlss ?_
 refine nt' ?_
 by_cases hl12 : k6 < x0.length
 ·have g13 := dlT hl12
  have hvk := hv.2 k6 (by omega)
  refine CM_condT rfl g13 ?_
  refine CM_skip (QM_then (CM_seq (CM_block (CM_seq (sr (wm ?_))))))
  refine wv (fun W hm => rv_gtr rfl rfl) ?_
  refine nt' ?_
  by_cases h14 : 0 < ((k6 : Nat) : Int)
  ·have g15 := decide_eq_true h14
   refine CM_condT rfl g15 ?_
   refine CM_region (wm ?_)
   have hz16 : ByteArray.size (sB [44]) = 1 := rfl
   refine wv (fun W hm => rv_addS (p := s7) (q := (sB [44])) rfl rfl (by omega)) ?_
   have hz17 := sz_app s7 (sB [44])
   refine wa (nt' (CM_region (wm (wm (wm ?_)))))
   obtain ⟨a18, rfl, hb19, he20⟩ := q4 (by omega)
   refine wv (vix 1 k6 underlying22 type3) ?_
   refine wv (fun W hm => rv_load underlying3 rfl rfl ((hm.cell0 (show (a18.add (k6 * 1)).block < w.heap.size from by rw [add_block]; exact hb19.1)).trans (rdS_int he20 k6 (by omega)))) ?_
   refine wcv (cl_fn cb24 rfl) (fun W hm => spec_FormatInt_c W (gt x0 k6) (⟨by omega, by omega⟩)) ?_
   have hz21 := spec_FormatInt_sz (gt x0 k6) (by omega)
   refine wv (fun W hm => rv_addS (p := (s7 ++ (sB [44]))) (q := (spec_FormatInt_m (gt x0 k6))) rfl rfl (by omega)) ?_
   have hz22 := sz_app (s7 ++ (sB [44])) (spec_FormatInt_m (gt x0 k6))
   refine wa (WM_nil (QM_block_normal (QM_then (CM_region (wm ?_)))))
   refine wv (vadN k6 1 (by omega)) ?_
   refine wa (WM_nil ?_)
   have hn23 := rng_next (R := ByteArray) (body := F1) (k := k6) (s := s7) (s' := ((s7 ++ (sB [44])) ++ (spec_FormatInt_m (gt x0 k6)))) (show k6 < x0.length from by omega) (cond_t g15 (rfl)) hF9
   exact QM_round (k6 + 1, ((s7 ++ (sB [44])) ++ (spec_FormatInt_m (gt x0 k6))), ()) sl3 (fun W hm => hm) ⟨(by omega), hn23, (show ((s7 ++ (sB [44])) ++ (spec_FormatInt_m (gt x0 k6))).size ≤ 60 * (k6 + 1) from by omega)⟩ (rl (by omega))
  ·have g15 := decide_eq_false h14
   refine CM_condF rfl g15 ?_
   refine CM_skip (QM_then (CM_region (wm (wm (wm ?_)))))
   obtain ⟨a24, rfl, hb25, he26⟩ := q4 (by omega)
   refine wv (vix 1 k6 underlying22 type3) ?_
   refine wv (fun W hm => rv_load underlying3 rfl rfl ((hm.cell0 (show (a24.add (k6 * 1)).block < w.heap.size from by rw [add_block]; exact hb25.1)).trans (rdS_int he26 k6 (by omega)))) ?_
   refine wcv (cl_fn cb24 rfl) (fun W hm => spec_FormatInt_c W (gt x0 k6) (⟨by omega, by omega⟩)) ?_
   have hz27 := spec_FormatInt_sz (gt x0 k6) (by omega)
   refine wv (fun W hm => rv_addS (p := s7) (q := (spec_FormatInt_m (gt x0 k6))) rfl rfl (by omega)) ?_
   have hz28 := sz_app s7 (spec_FormatInt_m (gt x0 k6))
   refine wa (WM_nil (QM_block_normal (QM_then (CM_region (wm ?_)))))
   refine wv (vadN k6 1 (by omega)) ?_
   refine wa (WM_nil ?_)
   have hn29 := rng_next (R := ByteArray) (body := F1) (k := k6) (s := s7) (s' := (s7 ++ (spec_FormatInt_m (gt x0 k6)))) (show k6 < x0.length from by omega) (cond_f g15 (rfl)) hF9
   exact QM_round (k6 + 1, (s7 ++ (spec_FormatInt_m (gt x0 k6))), ()) sl3 (fun W hm => hm) ⟨(by omega), hn29, (show (s7 ++ (spec_FormatInt_m (gt x0 k6))).size ≤ 60 * (k6 + 1) from by omega)⟩ (rl (by omega))
 ·have g13 := dlF hl12
  refine CM_condF rfl g13 ?_
  refine CM_exit (QM_then_exit (QM_then_exit ?_))
  have hE30 : R2 (x0.length - 0) 0 (sB []) = Sum.inr s7 := rng_end hl12 hF9
  refine QM_block_hit (QM_then (sr (wm (wa (nt' (CM_ret ?_))))))
  exact QM_ret1 rfl rfl (fun W hm => ⟨ret_s (show spec_l3List_m x0 = s7 from fin_inr hE30 (rfl)), hm.below⟩)

theorem IsRow_iff (r : DRow) : spec_IsRow_m r = true ↔ (∀ z ∈ r.Values, 0 ≤ z ∧ z ≤ 99) ∧ (0 ≤ r.Id ∧ r.Id ≤ 999) ∧ r.Values.length = 3 := by
  unfold spec_IsRow_m
  rw [rng_allB (xs := r.Values) (p := fun z => decide (0 ≤ z ∧ z ≤ 99)) (r := false) (fun k _ => by
    unfold spec_IsRow_b1
    rw [spec_l1In_iff]), spec_l1In_iff]
  have e : (r.Values.all fun z => decide (0 ≤ z ∧ z ≤ 99)) = true ↔ ∀ z ∈ r.Values, 0 ≤ z ∧ z ≤ 99 := by simp only [List.all_eq_true, decide_eq_true_eq]
  rw [← e]
  cases (r.Values.all fun z => decide (0 ≤ z ∧ z ≤ 99)) with
  | false => exact ⟨fun h => (by cases h), fun h => (by cases h.1)⟩
  | true =>
    show cond (decide (0 ≤ r.Id ∧ r.Id ≤ 999)) (((r.Values.length : Nat) : Int) == 3) false = true ↔ _
    by_cases h1 : 0 ≤ r.Id ∧ r.Id ≤ 999
    · rw [decide_eq_true h1, cond_true, beq_iff_eq]
      exact ⟨fun h => ⟨rfl, h1, by omega⟩, fun h => by omega⟩
    · rw [decide_eq_false h1]
      exact ⟨fun h => (by cases h), fun h => absurd h.2.1 h1⟩
theorem spec_Row_rng {x : DRow} (h : spec_IsRow_m x = true) : (0 ≤ x.Id ∧ x.Id ≤ 999) ∧ x.Values.length = 3 ∧ ∀ k, k < 3 → 0 ≤ gt x.Values k ∧ gt x.Values k ≤ 99 := by
  obtain ⟨h1, h2, h3⟩ := (IsRow_iff x).1 h
  exact ⟨h2, h3, fun k hk => h1 _ (gt_mem (by omega))⟩
theorem spec_l3List_sz (x : List Int) (hv : x.length = 3 ∧ ∀ k, k < 3 → 0 ≤ gt x k ∧ gt x k ≤ 99) : (spec_l3List_m x).size ≤ 2000000 := by
  unfold spec_l3List_m
  obtain ⟨s, e, h⟩ := rng_inv (R := ByteArray) (body := fun k (s : ByteArray) => spec_l3List_b1 x k s) (n := x.length) (fun k s => s.size ≤ 60 * k) (fun k s hk h => by
    have hv1 := hv.2 k (by omega)
    have h1 := spec_FormatInt_sz (gt x k) (by omega)
    have h44 : ByteArray.size (sB [44]) = 1 := rfl
    unfold spec_l3List_b1
    cases decide (0 < ((k : Nat) : Int)) with
    | true => exact ⟨_, rfl, by rw [sz_app, sz_app]; omega⟩
    | false => exact ⟨_, rfl, by rw [sz_app]; omega⟩) (x.length - 0) 0 (sB []) (by omega) (Nat.zero_le _)
  rw [e]
  show s.size ≤ _
  omega
def spec_FormatRow_m (x0 : DRow) : ByteArray :=
 cond (spec_IsRow_m x0) (((spec_FormatInt_m x0.Id) ++ (sB [58])) ++ (spec_l3List_m x0.Values)) (sB [])
theorem cb21 : Cb Tryd.prog 21 := ⟨f21, _, func21, rfl, by decide⟩
theorem spec_FormatRow_c (w : World) (z0 : List Value) (x0 : DRow) (r_0 : tyRow.rd w w.heap.size z0 x0) :
  Calls Tryd.prog 21 #[.agg z0.toArray] w fun e w' => e = .returned (.string (spec_FormatRow_m x0)) ∧ Below w.heap.size w w' := by
 obtain ⟨v1, rfl, r2⟩ := tyRow_rd r_0
 obtain ⟨m3, A4, c5, rfl, q6, r7⟩ := rdS_op r2
 refine ce1 (L := [(0, .agg #[.int .i64 x0.Id, .slice A4 x0.Values.length c5])]) (N := 14) func21 ?_
 refine sr ?_
 refine WM_box rfl (Wd_none rfl) (by decide) (fun p8 => ?_)
 refine wa (nt' (CM_seq (sr ?_)))
 refine wv (fun W hm => rv_loadN (cs := [.int .i64 x0.Id, .slice A4 x0.Values.length c5]) underlying24 type24 rfl rfl (hm.boxCells (n := 0) rfl)) ?_
 refine wcv (cl_fn cb37 rfl) (fun W hm => spec_IsRow_c W _ x0 (tyRow_mk (x := x0) (hm.rdS0 r7))) ?_
 refine wv vnot ?_
 refine nt' ?_
 rcases Bool.eq_false_or_eq_true (spec_IsRow_m x0) with g10 | g10
 ·
  have hrw := spec_Row_rng g10
  refine CM_condF rfl (nt g10) ?_
  refine CM_skip (QM_then (CM_seq ?_))
  refine CM_regionD (by kernel_rfl) (by kernel_rfl) ?_
  refine qv (vf underlying24 rfl type3) ?_
  refine qv (vl 0 0 underlying3) ?_
  refine QR_callV (cl_fn cb24 rfl) (fun W hm => spec_FormatInt_c W x0.Id (⟨by omega, by omega⟩)) (Wd_none rfl) (by decide) ?_
  have hz11 := spec_FormatInt_sz x0.Id (by omega)
  have hz12 : ByteArray.size (sB [58]) = 1 := rfl
  refine qv (fun W hm => rv_addS (p := (spec_FormatInt_m x0.Id)) (q := (sB [58])) rfl rfl (by omega)) ?_
  have hz13 := sz_app (spec_FormatInt_m x0.Id) (sB [58])
  refine qv (vf underlying24 rfl type22) ?_
  refine qv (vl 0 1 underlying22) ?_
  refine QR_callV (cl_fn cb38 rfl) (fun W hm => spec_l3List_c W _ x0.Values (hm.rdS0 r7) (hrw.2)) (Wd_none rfl) (by decide) ?_
  have hzn := spec_l3List_sz x0.Values hrw.2
  refine qv (fun W hm => rv_addS (p := ((spec_FormatInt_m x0.Id) ++ (sB [58]))) (q := (spec_l3List_m x0.Values)) rfl rfl (by omega)) ?_
  have hz14 := sz_app ((spec_FormatInt_m x0.Id) ++ (sB [58])) (spec_l3List_m x0.Values)
  refine qv (fun W hm => rv_assign rfl) ?_
  refine nq' (CM_ret ?_)
  exact QM_ret1 rfl rfl (fun W hm => ⟨ret_s (show spec_FormatRow_m x0 = (((spec_FormatInt_m x0.Id) ++ (sB [58])) ++ (spec_l3List_m x0.Values)) from cond_t g10 (rfl)), hm.below⟩)
 ·
  refine CM_condT rfl (nf g10) ?_
  refine sr (wa (nt' (CM_ret (QM_then_ret ?_))))
  exact QM_ret1 rfl rfl (fun W hm => ⟨ret_s (show spec_FormatRow_m x0 = (sB []) from cond_f g10 (rfl)), hm.below⟩)
theorem spec_FormatRow_sz (x : DRow) : (spec_FormatRow_m x).size ≤ 3000000 := by
  unfold spec_FormatRow_m
  cases h : spec_IsRow_m x with
  | false => exact Nat.zero_le _
  | true =>
    have hr := spec_Row_rng h
    have h1 := spec_FormatInt_sz x.Id (by omega)
    have h2 := spec_l3List_sz x.Values hr.2
    have h58 : ByteArray.size (sB [58]) = 1 := rfl
    rw [cond_true, sz_app, sz_app]
    omega

def spec_ParseRow_b1 (x0 : ByteArray) (k18 : Nat) (d21 : (List Int)) : (DRow × Bool) ⊕ ((List Int)) :=
 Sum.inr (d21 ++ [(spec_l2Num_m (gt (spec_l2Cut_m (gt (spec_l2Cut_m x0 58) 1) 44) k18))])
def spec_ParseRow_m (x0 : ByteArray) : (DRow × Bool) :=
 cond ((((spec_l2Cut_m x0 58).length : Nat) : Int) == 2) (Sum.elim id (fun (s : (List Int)) => cond (eqS x0 (sB [])) ((⟨0, []⟩ : DRow), false) (cond (eqS (spec_FormatRow_m (⟨(spec_l2Num_m (gt (spec_l2Cut_m x0 58) 0)), s⟩ : DRow)) x0) ((⟨(spec_l2Num_m (gt (spec_l2Cut_m x0 58) 0)), s⟩ : DRow), true) ((⟨0, []⟩ : DRow), false))) (rng (R := (DRow × Bool)) (fun k (s : (List Int)) => spec_ParseRow_b1 x0 k s) ((spec_l2Cut_m (gt (spec_l2Cut_m x0 58) 1) 44).length - 0) 0 [])) (cond (eqS x0 (sB [])) ((⟨0, []⟩ : DRow), false) (cond (eqS (spec_FormatRow_m (⟨(spec_l2Num_m (gt (spec_l2Cut_m x0 58) 0)), []⟩ : DRow)) x0) ((⟨(spec_l2Num_m (gt (spec_l2Cut_m x0 58) 0)), []⟩ : DRow), true) ((⟨0, []⟩ : DRow), false)))
theorem cb10 : Cb Tryd.prog 10 := ⟨f10, _, func10, rfl, by decide⟩
theorem spec_ParseRow_c (w : World) (x0 : ByteArray) (hs_0 : x0.size ≤ 1048576) :
  Calls Tryd.prog 10 #[.string x0] w fun e w' => ∃ v : List Value, e = .returned (.tuple #[.agg v.toArray, .bool ((spec_ParseRow_m x0).2)]) ∧ Mem w.heap.size w [iOwn tyRow v (spec_ParseRow_m x0).1] w' := by
 refine ce1 (L := [(0, .string x0)]) (N := 48) func10 ?_
 refine sr ?_
 refine WM_alloc type24 rfl (Wd_none rfl) (by decide) (fun p1 => ?_)
 refine wa (nt' (sr (wm ?_)))
 refine wcl (tSl tStr 9) (spec_l2Cut_m x0 58) (cl_fn cb9 rfl) (fun W hm => spec_l2Cut_c W x0 58 (by omega)) (fun z2 => ?_)
 have hcf58 := spec_l2Cut_f x0 58 58 rfl (by decide)
 refine WM_form (n := 0) rfl ?_
 rintro A3 c4 rfl m5
 refine wa (nt' (sr (wm ?_)))
 refine WM_formO (n := 0) rfl (by omega) ?_
 rintro g7 rfl
 refine wv (vix 1 0 underlying32 type9) ?_
 refine wv (fun W hm => rv_load underlying9 rfl rfl (hm.ownStr (i := 0) rfl (by omega))) ?_
 have hz8 := hcf58.2.2 0
 refine wcv (cl_fn cb11 rfl) (fun W hm => spec_l2Num_c W (gt (spec_l2Cut_m x0 58) 0) (by omega)) ?_
 let K3 : List Value := [.int .i64 (spec_l2Num_m (gt (spec_l2Cut_m x0 58) 0)), .slice none 0 0]
 refine wv (fun W hm => rv_build (cs := K3) rfl (by kernel_rfl)) ?_
 refine WM_alloc type24 rfl (Wd_none rfl) (by decide) (fun p9 => ?_)
 let K4 : List Value := [.slice (some ⟨g7, 0, none⟩) (spec_l2Cut_m x0 58).length c4]
 refine sb 0 K3 [iOwn (tSl tStr 9) K4 (spec_l2Cut_m x0 58), iBox p1 24 [.int .i64 0, .slice none 0 0]] (fun W hm => hm) type24 ?_
 refine nt' (CM_seq (sr (wm ?_)))
 refine wv (vlen underlying32) ?_
 refine wv (fun W hm => rv_eql rfl rfl) ?_
 refine nt' ?_
 by_cases h10 : (((spec_l2Cut_m x0 58).length : Nat) : Int) = 2
 ·have g11 := beq_iff_eq.2 h10
  refine CM_condT rfl g11 ?_
  refine sr (wm ?_)
  refine wv (vix 1 1 underlying32 type9) ?_
  refine wv (fun W hm => rv_load underlying9 rfl rfl (hm.ownStr (i := 1) rfl (by omega))) ?_
  have hz12 := hcf58.2.2 1
  refine wcl (tSl tStr 9) (spec_l2Cut_m (gt (spec_l2Cut_m x0 58) 1) 44) (cl_fn cb9 rfl) (fun W hm => spec_l2Cut_c W (gt (spec_l2Cut_m x0 58) 1) 44 (by omega)) (fun z13 => ?_)
  have hcf44 := spec_l2Cut_f (gt (spec_l2Cut_m x0 58) 1) 44 44 rfl (by decide)
  refine WM_form (n := 0) rfl ?_
  rintro A14 c15 rfl m16
  refine wa (nt' (sr (wa (nt' (CM_block ?_)))))
  refine CM_items (fun W hm => (hm.addNil (E := tInt) (e := 3)).last) ?_
  let F1 := fun k (s : (List Int)) => spec_ParseRow_b1 x0 k s
  let R2 := rng (R := (DRow × Bool)) F1
  let K5 : List Value := [.slice A14 (spec_l2Cut_m (gt (spec_l2Cut_m x0 58) 1) 44).length c15]
  let I9 : It := iOwn (tSl tStr 9) K5 (spec_l2Cut_m (gt (spec_l2Cut_m x0 58) 1) 44)
  refine CM_loop (σ := Nat × ((List Int)) × (Option Addr × Nat)) (fun s => [(0, .string x0), (2, .pointer (some (⟨p1, 0, none⟩ : Addr))), (5, .pointer (some (⟨p9, 0, none⟩ : Addr))), (6, .slice A14 (spec_l2Cut_m (gt (spec_l2Cut_m x0 58) 1) 44).length c15), (7, .int .i64 ((s.1 : Nat) : Int))]) (fun s => [I9, iBox p9 24 [.int .i64 (spec_l2Num_m (gt (spec_l2Cut_m x0 58) 0)), .slice s.2.2.1 s.2.1.length s.2.2.2], iOwn (tSl tStr 9) K4 (spec_l2Cut_m x0 58), iBox p1 24 [.int .i64 0, .slice none 0 0], iOwn (tSl tInt 3) [.slice s.2.2.1 s.2.1.length s.2.2.2] s.2.1]) (fun s => s.1 ≤ (spec_l2Cut_m (gt (spec_l2Cut_m x0 58) 1) 44).length ∧ R2 ((spec_l2Cut_m (gt (spec_l2Cut_m x0 58) 1) 44).length - s.1) s.1 s.2.1 = R2 ((spec_l2Cut_m (gt (spec_l2Cut_m x0 58) 1) 44).length - 0) 0 [] ∧ s.2.1.length ≤ 0 + s.1) (fun s => (spec_l2Cut_m (gt (spec_l2Cut_m x0 58) 1) 44).length - s.1) (0, [], (none, 0)) sl5 (fun W hm => hm) ⟨(by omega), rfl, Nat.le_refl _⟩ ?_
  rintro ⟨k18, d21, ⟨A22, c23⟩⟩ H26
  obtain ⟨hk24, hF25, hi27⟩ : k18 ≤ (spec_l2Cut_m (gt (spec_l2Cut_m x0 58) 1) 44).length ∧ R2 ((spec_l2Cut_m (gt (spec_l2Cut_m x0 58) 1) 44).length - k18) k18 d21 = R2 ((spec_l2Cut_m (gt (spec_l2Cut_m x0 58) 1) 44).length - 0) 0 [] ∧ d21.length ≤ 0 + k18 := H26
  let K6 : List Value := [.int .i64 (spec_l2Num_m (gt (spec_l2Cut_m x0 58) 0)), .slice A22 d21.length c23]
  let I10 : It := iOwn (tSl tInt 3) [.slice A22 d21.length c23] d21
  show CM Tryd.prog 48 _ _ _ _ [(0, .string x0), (2, .pointer (some (⟨p1, 0, none⟩ : Addr))), (5, .pointer (some (⟨p9, 0, none⟩ : Addr))), (6, .slice A14 (spec_l2Cut_m (gt (spec_l2Cut_m x0 58) 1) 44).length c15), (7, .int .i64 ((k18 : Nat) : Int))] [I9, iBox p9 24 K6, iOwn (tSl tStr 9) K4 (spec_l2Cut_m x0 58), iBox p1 24 [.int .i64 0, .slice none 0 0], I10]
  refine CM_seq (sr (wm (wm ?_)))
  refine wv (vlen underlying32) ?_
  refine wv vlss ?_
  refine nt' ?_
  by_cases hl28 : k18 < (spec_l2Cut_m (gt (spec_l2Cut_m x0 58) 1) 44).length
  ·have g29 := dlT hl28
   refine CM_condT rfl g29 ?_
   refine CM_skip (QM_then (CM_seq (CM_block ?_)))
   refine CM_formO (n := 0) rfl (by omega) ?_
   rintro g30 rfl
   let K7 : List Value := [.slice (some ⟨g30, 0, none⟩) (spec_l2Cut_m (gt (spec_l2Cut_m x0 58) 1) 44).length c15]
   let I11 : It := iOwn (tSl tStr 9) K7 (spec_l2Cut_m (gt (spec_l2Cut_m x0 58) 1) 44)
   refine rd2 11 [10] (s := [I11, iOwn (tSl tStr 9) K4 (spec_l2Cut_m x0 58), iBox p1 24 [.int .i64 0, .slice none 0 0]]) (s2 := [I11, iBox p9 24 K6, iOwn (tSl tStr 9) K4 (spec_l2Cut_m x0 58), iBox p1 24 [.int .i64 0, .slice none 0 0]]) (pk [0, 2, 3]) (pk [0, 1, 2, 3]) ?_
   refine qtD 11 0 1 rfl (vf underlying24 rfl type22) ?_
   refine qtD 11 1 3 rfl (vl 1 1 underlying22) ?_
   refine qtD 11 2 7 rfl vmv ?_
   refine qtD 11 3 15 rfl vmv ?_
   refine qtD 11 4 31 rfl (vix 1 k18 underlying32 type9) ?_
   refine qtD 11 5 63 rfl (fun W hm => rv_load underlying9 rfl rfl (hm.ownStr (i := 0) rfl (by omega))) ?_
   have hz31 := hcf44.2.2 k18
   refine qoD 11 6 127 rfl ?_
   refine wcv (cl_fn cb11 rfl) (fun W hm => spec_l2Num_c W (gt (spec_l2Cut_m (gt (spec_l2Cut_m x0 58) 1) 44) k18) (by omega)) ?_
   refine qnD (pk [0, 2, 3]) (pk [0, 1, 2, 3]) ?_
   refine qoD 11 7 255 rfl ?_
   let K8 : List Value := [.int .i64 (spec_l2Num_m (gt (spec_l2Cut_m (gt (spec_l2Cut_m x0 58) 1) 44) k18))]
   refine WM_build (cs := K8) underlying22 type3 rfl (by decide) (by decide) rfl (by kernel_rfl) (Wd_none rfl) (by decide) (fun p32 => ?_)
   refine qnD (pk [1, 3, 4]) (pk [1, 2, 3, 4]) ?_
   refine qoD 11 8 511 rfl ?_
   refine ap1 tInt 3 (.slice A22 d21.length c23) d21 (spec_l2Num_m (gt (spec_l2Cut_m (gt (spec_l2Cut_m x0 58) 1) 44) k18)) [] [I11, iBox p9 24 K6, iOwn (tSl tStr 9) K4 (spec_l2Cut_m x0 58), iBox p1 24 [.int .i64 0, .slice none 0 0]] K8 (pk [0, 5, 1, 2, 3, 4]) (fun _ _ hs => by cases (Sep.nil hs); exact (els_cons tInt_own els_nil)) underlying22 type3 (show (d21.length + 1) * 8 ≤ 140737488355328 from by omega) (fun v33 => ?_)
   refine WM_form (n := 0) rfl ?_
   rintro A34 c35 rfl m36
   refine qnD (pk [1, 3, 4]) (pk [1, 2, 3, 4]) ?_
   refine qtD 11 9 1023 rfl (vf underlying24 rfl type22) ?_
   refine qoD 11 10 2047 rfl ?_
   refine sb 1 [.int .i64 (spec_l2Num_m (gt (spec_l2Cut_m x0 58) 0)), .slice A34 (d21 ++ [(spec_l2Num_m (gt (spec_l2Cut_m (gt (spec_l2Cut_m x0 58) 1) 44) k18))]).length c35] [iOwn (tSl tInt 3) [.slice A34 (d21 ++ [(spec_l2Num_m (gt (spec_l2Cut_m (gt (spec_l2Cut_m x0 58) 1) 44) k18))]).length c35] (d21 ++ [(spec_l2Num_m (gt (spec_l2Cut_m (gt (spec_l2Cut_m x0 58) 1) 44) k18))]), I11, iOwn (tSl tStr 9) K4 (spec_l2Cut_m x0 58), iBox p1 24 [.int .i64 0, .slice none 0 0]] (pk [2, 0, 1, 3, 4]) type22 ?_
   refine qxD (pk [2, 3, 4]) ?_
   refine QB_done (by kernel_rfl) ?_
   refine QM_block_normal (QM_then (CM_region (wm ?_)))
   refine wv (vadN k18 1 (by omega)) ?_
   refine wa (WM_nil ?_)
   have hn38 := rng_next (R := (DRow × Bool)) (body := F1) (k := k18) (s := d21) (s' := (d21 ++ [(spec_l2Num_m (gt (spec_l2Cut_m (gt (spec_l2Cut_m x0 58) 1) 44) k18))])) (show k18 < (spec_l2Cut_m (gt (spec_l2Cut_m x0 58) 1) 44).length from by omega) (rfl) hF25
   exact QM_round (k18 + 1, (d21 ++ [(spec_l2Num_m (gt (spec_l2Cut_m (gt (spec_l2Cut_m x0 58) 1) 44) k18))]), (A34, c35)) sl5 (pk [2, 0, 3, 4, 1]) ⟨(by omega), hn38, (show (d21 ++ [(spec_l2Num_m (gt (spec_l2Cut_m (gt (spec_l2Cut_m x0 58) 1) 44) k18))]).length ≤ 0 + (k18 + 1) from by first | omega | (simp only [List.length_append, List.length_cons, List.length_nil] at *; omega))⟩ (show (spec_l2Cut_m (gt (spec_l2Cut_m x0 58) 1) 44).length - (k18 + 1) < (spec_l2Cut_m (gt (spec_l2Cut_m x0 58) 1) 44).length - k18 from by omega)
  ·have g29 := dlF hl28
   refine CM_condF rfl g29 ?_
   refine CM_exit (QM_then_exit (QM_then_exit ?_))
   have hE39 : R2 ((spec_l2Cut_m (gt (spec_l2Cut_m x0 58) 1) 44).length - 0) 0 [] = Sum.inr d21 := rng_end hl28 hF25
   refine QM_block_hit (QM_then (CM_seq (sr (wm ?_))))
   refine wv (fun W hm => rv_eqlS (p := x0) (q := (sB [])) underlying9 rfl rfl) ?_
   refine wm ?_
   rcases Bool.eq_false_or_eq_true (eqS x0 (sB [])) with g41 | g41
   ·
    refine ws g41 ?_
    refine ws g41 ?_
    refine ws g41 ?_
    refine ws g41 ?_
    refine wv (vpT g41) ?_
    refine nt' ?_
    refine CM_condT rfl rfl ?_
    refine CM_seq ?_
    refine CM_items (pk [3]) ?_
    refine CM_region ?_
    refine wv (fun W hm => rv_build (cs := [.int .i64 0, .slice none 0 0]) rfl (by kernel_rfl)) ?_
    refine sb 0 [.int .i64 0, .slice none 0 0] [] (fun W hm => hm) type24 ?_
    refine wa (nt' (CM_ret (QM_then_ret ?_)))
    refine QM_items (fun W hm => hm.addNil (E := tInt) (e := 3)) ?_
    have he43 := (show spec_ParseRow_m x0 = ((⟨0, []⟩ : DRow), false) from cond_t g11 (fin_inr hE39 (cond_t g41 (rfl))))
    refine QM_r2 rfl (RR_cell (n := 1) rfl rfl underlying24 type24 rfl) (RR_tmp rfl) (fun W hm => ⟨[.int .i64 0, .slice none 0 0], ?_, ?_⟩)
    ·first | rw [he43] | rfl
     try rfl
    ·rw [he43]; exact Mem.join (is := [iOwn (tSl tInt 3) [.slice none 0 0] []]) (js := []) (fun _ _ hs => tyRow_join (x := (⟨0, []⟩ : DRow)) hs) (hm.pick [0] (by decide))
   ·
    refine wg (fun W hm => rv_loadN (cs := K6) underlying24 type24 rfl rfl (hm.boxCells (n := 1) rfl)) g41 ?_
    refine WM_callV (cl_fn cb21 rfl) (fun W hm => spec_FormatRow_c W _ (⟨(spec_l2Num_m (gt (spec_l2Cut_m x0 58) 0)), d21⟩ : DRow) (tyRow_mk (x := (⟨(spec_l2Num_m (gt (spec_l2Cut_m x0 58) 0)), d21⟩ : DRow)) (hm.rdSI (n := 4) rfl))) (Wd_some rfl rfl rfl (bw g41 rfl)) (by decide) ?_
    refine wg vmv g41 ?_
    refine wg (fun W hm => rv_neqS (p := (spec_FormatRow_m (⟨(spec_l2Num_m (gt (spec_l2Cut_m x0 58) 0)), d21⟩ : DRow))) (q := x0) underlying9 rfl rfl) g41 ?_
    refine wv (vpF g41) ?_
    refine nt' ?_
    rcases Bool.eq_false_or_eq_true (eqS (spec_FormatRow_m (⟨(spec_l2Num_m (gt (spec_l2Cut_m x0 58) 0)), d21⟩ : DRow)) x0) with g45 | g45
    ·
     refine CM_condF rfl (nt g45) ?_
     refine CM_skip (QM_then (sr ?_))
     refine wv (fun W hm => rv_loadN (cs := K6) underlying24 type24 rfl rfl (hm.boxCells (n := 1) rfl)) ?_
     refine sb 0 K6 [I9, iBox p9 24 K6, iOwn (tSl tStr 9) K4 (spec_l2Cut_m x0 58), I10] (pk [3, 0, 1, 2, 4]) type24 ?_
     refine wa (nt' (CM_ret ?_))
     have he46 := (show spec_ParseRow_m x0 = ((⟨(spec_l2Num_m (gt (spec_l2Cut_m x0 58) 0)), d21⟩ : DRow), true) from cond_t g11 (fin_inr hE39 (cond_f g41 (cond_t g45 (rfl)))))
     refine QM_r2 rfl (RR_cell (n := 0) rfl rfl underlying24 type24 rfl) (RR_tmp rfl) (fun W hm => ⟨K6, ?_, ?_⟩)
     ·first | rw [he46] | rfl
      try rfl
     ·rw [he46]; exact Mem.join (is := [I10]) (js := []) (fun _ _ hs => tyRow_join (x := (⟨(spec_l2Num_m (gt (spec_l2Cut_m x0 58) 0)), d21⟩ : DRow)) hs) (hm.pick [4] (by decide))
    ·
     refine CM_condT rfl (nf g45) ?_
     refine CM_seq ?_
     refine CM_items (pk [3]) ?_
     refine CM_region ?_
     refine wv (fun W hm => rv_build (cs := [.int .i64 0, .slice none 0 0]) rfl (by kernel_rfl)) ?_
     refine sb 0 [.int .i64 0, .slice none 0 0] [] (fun W hm => hm) type24 ?_
     refine wa (nt' (CM_ret (QM_then_ret ?_)))
     refine QM_items (fun W hm => hm.addNil (E := tInt) (e := 3)) ?_
     have he48 := (show spec_ParseRow_m x0 = ((⟨0, []⟩ : DRow), false) from cond_t g11 (fin_inr hE39 (cond_f g41 (cond_f g45 (rfl)))))
     refine QM_r2 rfl (RR_cell (n := 1) rfl rfl underlying24 type24 rfl) (RR_tmp rfl) (fun W hm => ⟨[.int .i64 0, .slice none 0 0], ?_, ?_⟩)
     ·first | rw [he48] | rfl
      try rfl
     ·rw [he48]; exact Mem.join (is := [iOwn (tSl tInt 3) [.slice none 0 0] []]) (js := []) (fun _ _ hs => tyRow_join (x := (⟨0, []⟩ : DRow)) hs) (hm.pick [0] (by decide))
 ·have g11 := beq_eq_false_iff_ne.2 h10
  refine CM_condF rfl g11 ?_
  refine CM_skip (QM_then (CM_seq (sr (wm ?_))))
  refine wv (fun W hm => rv_eqlS (p := x0) (q := (sB [])) underlying9 rfl rfl) ?_
  refine wm ?_
  rcases Bool.eq_false_or_eq_true (eqS x0 (sB [])) with g50 | g50
  ·
   refine ws g50 ?_
   refine ws g50 ?_
   refine ws g50 ?_
   refine ws g50 ?_
   refine wv (vpT g50) ?_
   refine nt' ?_
   refine CM_condT rfl rfl ?_
   refine sr ?_
   refine wv (fun W hm => rv_build (cs := [.int .i64 0, .slice none 0 0]) rfl (by kernel_rfl)) ?_
   refine sb 0 [.int .i64 0, .slice none 0 0] [iBox p9 24 K3, iOwn (tSl tStr 9) K4 (spec_l2Cut_m x0 58)] (pk [2, 0, 1]) type24 ?_
   refine wa (nt' (CM_ret (QM_then_ret ?_)))
   refine QM_items (fun W hm => hm.addNil (E := tInt) (e := 3)) ?_
   have he52 := (show spec_ParseRow_m x0 = ((⟨0, []⟩ : DRow), false) from cond_f g11 (cond_t g50 (rfl)))
   refine QM_r2 rfl (RR_cell (n := 1) rfl rfl underlying24 type24 rfl) (RR_tmp rfl) (fun W hm => ⟨[.int .i64 0, .slice none 0 0], ?_, ?_⟩)
   ·first | rw [he52] | rfl
    try rfl
   ·rw [he52]; exact Mem.join (is := [iOwn (tSl tInt 3) [.slice none 0 0] []]) (js := []) (fun _ _ hs => tyRow_join (x := (⟨0, []⟩ : DRow)) hs) (hm.pick [0] (by decide))
  ·
   refine wg (fun W hm => rv_loadN (cs := K3) underlying24 type24 rfl rfl (hm.boxCells (n := 0) rfl)) g50 ?_
   refine WM_callV (cl_fn cb21 rfl) (fun W hm => spec_FormatRow_c W _ (⟨(spec_l2Num_m (gt (spec_l2Cut_m x0 58) 0)), []⟩ : DRow) (tyRow_mk (x := (⟨(spec_l2Num_m (gt (spec_l2Cut_m x0 58) 0)), []⟩ : DRow)) rdS_nil)) (Wd_some rfl rfl rfl (bw g50 rfl)) (by decide) ?_
   refine wg vmv g50 ?_
   refine wg (fun W hm => rv_neqS (p := (spec_FormatRow_m (⟨(spec_l2Num_m (gt (spec_l2Cut_m x0 58) 0)), []⟩ : DRow))) (q := x0) underlying9 rfl rfl) g50 ?_
   refine wv (vpF g50) ?_
   refine nt' ?_
   rcases Bool.eq_false_or_eq_true (eqS (spec_FormatRow_m (⟨(spec_l2Num_m (gt (spec_l2Cut_m x0 58) 0)), []⟩ : DRow)) x0) with g54 | g54
   ·
    refine CM_condF rfl (nt g54) ?_
    refine CM_skip (QM_then (sr ?_))
    refine wv (fun W hm => rv_loadN (cs := K3) underlying24 type24 rfl rfl (hm.boxCells (n := 0) rfl)) ?_
    refine sb 0 K3 [iBox p9 24 K3, iOwn (tSl tStr 9) K4 (spec_l2Cut_m x0 58)] (pk [2, 0, 1]) type24 ?_
    refine wa (nt' (CM_ret ?_))
    refine QM_items (fun W hm => hm.addNil (E := tInt) (e := 3)) ?_
    have he56 := (show spec_ParseRow_m x0 = ((⟨(spec_l2Num_m (gt (spec_l2Cut_m x0 58) 0)), []⟩ : DRow), true) from cond_f g11 (cond_f g50 (cond_t g54 (rfl))))
    refine QM_r2 rfl (RR_cell (n := 1) rfl rfl underlying24 type24 rfl) (RR_tmp rfl) (fun W hm => ⟨K3, ?_, ?_⟩)
    ·first | rw [he56] | rfl
     try rfl
    ·rw [he56]; exact Mem.join (is := [iOwn (tSl tInt 3) [.slice none 0 0] []]) (js := []) (fun _ _ hs => tyRow_join (x := (⟨(spec_l2Num_m (gt (spec_l2Cut_m x0 58) 0)), []⟩ : DRow)) hs) (hm.pick [0] (by decide))
   ·
    refine CM_condT rfl (nf g54) ?_
    refine sr ?_
    refine wv (fun W hm => rv_build (cs := [.int .i64 0, .slice none 0 0]) rfl (by kernel_rfl)) ?_
    refine sb 0 [.int .i64 0, .slice none 0 0] [iBox p9 24 K3, iOwn (tSl tStr 9) K4 (spec_l2Cut_m x0 58)] (pk [2, 0, 1]) type24 ?_
    refine wa (nt' (CM_ret (QM_then_ret ?_)))
    refine QM_items (fun W hm => hm.addNil (E := tInt) (e := 3)) ?_
    have he58 := (show spec_ParseRow_m x0 = ((⟨0, []⟩ : DRow), false) from cond_f g11 (cond_f g50 (cond_f g54 (rfl))))
    refine QM_r2 rfl (RR_cell (n := 1) rfl rfl underlying24 type24 rfl) (RR_tmp rfl) (fun W hm => ⟨[.int .i64 0, .slice none 0 0], ?_, ?_⟩)
    ·first | rw [he58] | rfl
     try rfl
    ·rw [he58]; exact Mem.join (is := [iOwn (tSl tInt 3) [.slice none 0 0] []]) (js := []) (fun _ _ hs => tyRow_join (x := (⟨0, []⟩ : DRow)) hs) (hm.pick [0] (by decide))

def spec_IsUpdate_m (x0 : DUpdate) : Bool :=
 cond (x0.Kind == 1) (cond (spec_IsRow_m x0.Row) (cond (x0.Field == 0) (x0.Value == 0) false) false) (cond (x0.Kind == 2) (cond (spec_l1In_m x0.Row.Id 0 999) (cond (((x0.Row.Values.length : Nat) : Int) == 0) (cond (x0.Field == 0) (x0.Value == 0) false) false) false) (cond (x0.Kind == 3) (cond (spec_l1In_m x0.Row.Id 0 999) (cond (((x0.Row.Values.length : Nat) : Int) == 0) (cond (spec_l1In_m x0.Field 0 2) (spec_l1In_m x0.Value 0 99) false) false) false) false))
theorem cb23 : Cb Tryd.prog 23 := ⟨f23, _, func23, rfl, by decide⟩
theorem spec_IsUpdate_c (w : World) (z0 : List Value) (x0 : DUpdate) (r_0 : tyUpdate.rd w w.heap.size z0 x0) :
  Calls Tryd.prog 23 #[.agg z0.toArray] w fun e w' => e = .returned (.bool (spec_IsUpdate_m x0)) ∧ Below w.heap.size w w' := by
 obtain ⟨v1, rfl, r2⟩ := tyUpdate_rd r_0
 obtain ⟨m3, A4, c5, rfl, q6, r7⟩ := rdS_op r2
 refine ce1 (L := [(0, .agg #[.int .i64 x0.Kind, .int .i64 x0.Row.Id, .slice A4 x0.Row.Values.length c5, .int .i64 x0.Field, .int .i64 x0.Value])]) (N := 66) func23 ?_
 refine sr ?_
 refine WM_box rfl (Wd_none rfl) (by decide) (fun p8 => ?_)
 refine wa (nt' (CM_seq (sr ?_)))
 refine wv (vf underlying26 rfl type3) ?_
 refine wv (vl 0 0 underlying3) ?_
 refine nt' (CM_block (sr ?_))
 refine wv (fun W hm => rv_eql rfl rfl) ?_
 refine wa (nt' ?_)
 by_cases h9 : x0.Kind = 1
 ·have g10 := beq_iff_eq.2 h9
  refine CM_condT rfl g10 ?_
  refine sr ?_
  refine wv (vf underlying26 rfl type24) ?_
  refine wv (fun W hm => rv_loadN (cs := [.int .i64 x0.Row.Id, .slice A4 x0.Row.Values.length c5]) underlying24 type24 rfl rfl (hm.boxPart (n := 0) rfl rfl)) ?_
  refine wcv (cl_fn cb37 rfl) (fun W hm => spec_IsRow_c W _ x0.Row (tyRow_mk (x := x0.Row) (hm.rdS0 r7))) ?_
  refine wm ?_
  rcases Bool.eq_false_or_eq_true (spec_IsRow_m x0.Row) with g12 | g12
  ·
   refine wg (vf underlying26 rfl type3) g12 ?_
   refine wg (vl 0 3 underlying3) g12 ?_
   refine wg (fun W hm => rv_eql rfl rfl) g12 ?_
   refine wv (vpT g12) ?_
   refine wm ?_
   by_cases h13 : x0.Field = 0
   ·have g14 := beq_iff_eq.2 h13
    refine wg (vf underlying26 rfl type3) g14 ?_
    refine wg (vl 0 4 underlying3) g14 ?_
    refine wg (fun W hm => rv_eql rfl rfl) g14 ?_
    refine wv (vpT g14) ?_
    refine wa (nt' (CM_ret (QM_block_ret (QM_then_ret ?_))))
    exact rtb (h := cond_t g10 (cond_t g12 (cond_t g14 (rfl))))
   ·have g14 := beq_eq_false_iff_ne.2 h13
    refine ws g14 ?_
    refine ws g14 ?_
    refine ws g14 ?_
    refine wv (vpF g14) ?_
    refine wa (nt' (CM_ret (QM_block_ret (QM_then_ret ?_))))
    exact rtb (h := cond_t g10 (cond_t g12 (cond_f g14 (rfl))))
  ·
   refine ws g12 ?_
   refine ws g12 ?_
   refine ws g12 ?_
   refine wv (vpF g12) ?_
   refine wm ?_
   refine wk ?_
   refine wk ?_
   refine wk ?_
   refine wv (vpF rfl) ?_
   refine wa (nt' (CM_ret (QM_block_ret (QM_then_ret ?_))))
   exact rtb (h := cond_t g10 (cond_f g12 (rfl)))
 ·have g10 := beq_eq_false_iff_ne.2 h9
  refine CM_condF rfl g10 ?_
  refine sr ?_
  refine wv (fun W hm => rv_eql rfl rfl) ?_
  refine wa (nt' ?_)
  by_cases h15 : x0.Kind = 2
  ·have g16 := beq_iff_eq.2 h15
   refine CM_condT rfl g16 ?_
   refine sr ?_
   refine wv (vf underlying26 rfl type24) ?_
   refine wv (fun W hm => rv_fieldA (o := 1) underlying24 rfl type3 (by decide) rfl rfl) ?_
   refine wv (vl 0 1 underlying3) ?_
   refine wcv (cl_fn cb39 rfl) (fun W hm => spec_l1In_c W x0.Row.Id 0 999) ?_
   refine wm ?_
   rcases Bool.eq_false_or_eq_true (spec_l1In_m x0.Row.Id 0 999) with g18 | g18
   ·
    have hw := spec_l1In_fact g18
    refine wg (vf underlying26 rfl type24) g18 ?_
    refine wg (fun W hm => rv_fieldA (o := 2) underlying24 rfl type22 (by decide) rfl rfl) g18 ?_
    refine wg (vl 0 2 underlying22) g18 ?_
    refine wg (vlen underlying22) g18 ?_
    refine wg (fun W hm => rv_eql rfl rfl) g18 ?_
    refine wv (vpT g18) ?_
    refine wm ?_
    by_cases h19 : ((x0.Row.Values.length : Nat) : Int) = 0
    ·have g20 := beq_iff_eq.2 h19
     refine wg (vf underlying26 rfl type3) g20 ?_
     refine wg (vl 0 3 underlying3) g20 ?_
     refine wg (fun W hm => rv_eql rfl rfl) g20 ?_
     refine wv (vpT g20) ?_
     refine wm ?_
     by_cases h21 : x0.Field = 0
     ·have g22 := beq_iff_eq.2 h21
      refine wg (vf underlying26 rfl type3) g22 ?_
      refine wg (vl 0 4 underlying3) g22 ?_
      refine wg (fun W hm => rv_eql rfl rfl) g22 ?_
      refine wv (vpT g22) ?_
      refine wa (nt' (CM_ret (QM_block_ret (QM_then_ret ?_))))
      exact rtb (h := cond_f g10 (cond_t g16 (cond_t g18 (cond_t g20 (cond_t g22 (rfl))))))
     ·have g22 := beq_eq_false_iff_ne.2 h21
      refine ws g22 ?_
      refine ws g22 ?_
      refine ws g22 ?_
      refine wv (vpF g22) ?_
      refine wa (nt' (CM_ret (QM_block_ret (QM_then_ret ?_))))
      exact rtb (h := cond_f g10 (cond_t g16 (cond_t g18 (cond_t g20 (cond_f g22 (rfl))))))
    ·have g20 := beq_eq_false_iff_ne.2 h19
     refine ws g20 ?_
     refine ws g20 ?_
     refine ws g20 ?_
     refine wv (vpF g20) ?_
     refine wm ?_
     refine wk ?_
     refine wk ?_
     refine wk ?_
     refine wv (vpF rfl) ?_
     refine wa (nt' (CM_ret (QM_block_ret (QM_then_ret ?_))))
     exact rtb (h := cond_f g10 (cond_t g16 (cond_t g18 (cond_f g20 (rfl)))))
   ·
    refine ws g18 ?_
    refine ws g18 ?_
    refine ws g18 ?_
    refine ws g18 ?_
    refine ws g18 ?_
    refine wv (vpF g18) ?_
    refine wm ?_
    refine wk ?_
    refine wk ?_
    refine wk ?_
    refine wv (vpF rfl) ?_
    refine wm ?_
    refine wk ?_
    refine wk ?_
    refine wk ?_
    refine wv (vpF rfl) ?_
    refine wa (nt' (CM_ret (QM_block_ret (QM_then_ret ?_))))
    exact rtb (h := cond_f g10 (cond_t g16 (cond_f g18 (rfl))))
  ·have g16 := beq_eq_false_iff_ne.2 h15
   refine CM_condF rfl g16 ?_
   refine sr ?_
   refine wv (fun W hm => rv_eql rfl rfl) ?_
   refine wa (nt' ?_)
   by_cases h23 : x0.Kind = 3
   ·have g24 := beq_iff_eq.2 h23
    refine CM_condT rfl g24 ?_
    refine sr ?_
    refine wv (vf underlying26 rfl type24) ?_
    refine wv (fun W hm => rv_fieldA (o := 1) underlying24 rfl type3 (by decide) rfl rfl) ?_
    refine wv (vl 0 1 underlying3) ?_
    refine wcv (cl_fn cb39 rfl) (fun W hm => spec_l1In_c W x0.Row.Id 0 999) ?_
    refine wm ?_
    rcases Bool.eq_false_or_eq_true (spec_l1In_m x0.Row.Id 0 999) with g26 | g26
    ·
     have hw := spec_l1In_fact g26
     refine wg (vf underlying26 rfl type24) g26 ?_
     refine wg (fun W hm => rv_fieldA (o := 2) underlying24 rfl type22 (by decide) rfl rfl) g26 ?_
     refine wg (vl 0 2 underlying22) g26 ?_
     refine wg (vlen underlying22) g26 ?_
     refine wg (fun W hm => rv_eql rfl rfl) g26 ?_
     refine wv (vpT g26) ?_
     refine wm ?_
     by_cases h27 : ((x0.Row.Values.length : Nat) : Int) = 0
     ·have g28 := beq_iff_eq.2 h27
      refine wg (vf underlying26 rfl type3) g28 ?_
      refine wg (vl 0 3 underlying3) g28 ?_
      refine WM_callV (cl_fn cb39 rfl) (fun W hm => spec_l1In_c W x0.Field 0 2) (Wd_some rfl rfl rfl (bw g28 rfl)) (by decide) ?_
      refine wv (vpT g28) ?_
      refine wm ?_
      rcases Bool.eq_false_or_eq_true (spec_l1In_m x0.Field 0 2) with g30 | g30
      ·
       have hw := spec_l1In_fact g30
       refine wg (vf underlying26 rfl type3) g30 ?_
       refine wg (vl 0 4 underlying3) g30 ?_
       refine WM_callV (cl_fn cb39 rfl) (fun W hm => spec_l1In_c W x0.Value 0 99) (Wd_some rfl rfl rfl (bw g30 rfl)) (by decide) ?_
       refine wv (vpT g30) ?_
       refine wa (nt' (CM_ret (QM_block_ret (QM_then_ret ?_))))
       exact rtb (h := cond_f g10 (cond_f g16 (cond_t g24 (cond_t g26 (cond_t g28 (cond_t g30 (rfl)))))))
      ·
       refine ws g30 ?_
       refine ws g30 ?_
       refine ws g30 ?_
       refine wv (vpF g30) ?_
       refine wa (nt' (CM_ret (QM_block_ret (QM_then_ret ?_))))
       exact rtb (h := cond_f g10 (cond_f g16 (cond_t g24 (cond_t g26 (cond_t g28 (cond_f g30 (rfl)))))))
     ·have g28 := beq_eq_false_iff_ne.2 h27
      refine ws g28 ?_
      refine ws g28 ?_
      refine ws g28 ?_
      refine wv (vpF g28) ?_
      refine wm ?_
      refine wk ?_
      refine wk ?_
      refine wk ?_
      refine wv (vpF rfl) ?_
      refine wa (nt' (CM_ret (QM_block_ret (QM_then_ret ?_))))
      exact rtb (h := cond_f g10 (cond_f g16 (cond_t g24 (cond_t g26 (cond_f g28 (rfl))))))
    ·
     refine ws g26 ?_
     refine ws g26 ?_
     refine ws g26 ?_
     refine ws g26 ?_
     refine ws g26 ?_
     refine wv (vpF g26) ?_
     refine wm ?_
     refine wk ?_
     refine wk ?_
     refine wk ?_
     refine wv (vpF rfl) ?_
     refine wm ?_
     refine wk ?_
     refine wk ?_
     refine wk ?_
     refine wv (vpF rfl) ?_
     refine wa (nt' (CM_ret (QM_block_ret (QM_then_ret ?_))))
     exact rtb (h := cond_f g10 (cond_f g16 (cond_t g24 (cond_f g26 (rfl)))))
   ·have g24 := beq_eq_false_iff_ne.2 h23
    refine CM_condF rfl g24 ?_
    refine CM_skip (QM_block_normal (QM_then (sr (wa (nt' (CM_ret ?_))))))
    exact rtb (h := cond_f g10 (cond_f g16 (cond_f g24 (rfl))))

theorem cond_tt {a b : Bool} (h : cond a b false = true) : a = true ∧ b = true := by cases a <;> simp_all
theorem spec_Update_rng {x : DUpdate} (h : spec_IsUpdate_m x = true) : (0 ≤ x.Row.Id ∧ x.Row.Id ≤ 999) ∧ (0 ≤ x.Field ∧ x.Field ≤ 2) ∧ (0 ≤ x.Value ∧ x.Value ≤ 99) := by
  unfold spec_IsUpdate_m at h
  cases h1 : x.Kind == 1 with
  | true =>
    rw [h1] at h
    obtain ⟨h2, h⟩ := cond_tt h
    obtain ⟨h3, h⟩ := cond_tt h
    rw [beq_iff_eq] at h3 h
    exact ⟨(spec_Row_rng h2).1, by omega, by omega⟩
  | false =>
    rw [h1, cond_false] at h
    cases h2 : x.Kind == 2 with
    | true =>
      rw [h2, cond_true] at h
      obtain ⟨h3, h⟩ := cond_tt h
      obtain ⟨_, h⟩ := cond_tt h
      obtain ⟨h4, h⟩ := cond_tt h
      rw [beq_iff_eq] at h4 h
      rw [spec_l1In_iff, decide_eq_true_eq] at h3
      exact ⟨h3, by omega, by omega⟩
    | false =>
      rw [h2, cond_false] at h
      obtain ⟨_, h⟩ := cond_tt h
      obtain ⟨h3, h⟩ := cond_tt h
      obtain ⟨_, h⟩ := cond_tt h
      obtain ⟨h4, h⟩ := cond_tt h
      rw [spec_l1In_iff, decide_eq_true_eq] at h3 h4 h
      exact ⟨h3, h4, h⟩
def spec_FormatUpdate_m (x0 : DUpdate) : ByteArray :=
 cond (spec_IsUpdate_m x0) (cond (x0.Kind == 1) ((sB [105, 110, 115, 101, 114, 116, 32]) ++ (spec_FormatRow_m x0.Row)) (cond (x0.Kind == 2) ((sB [100, 101, 108, 101, 116, 101, 32]) ++ (spec_FormatInt_m x0.Row.Id)) ((((((sB [115, 101, 116, 32]) ++ (spec_FormatInt_m x0.Row.Id)) ++ (sB [32, 102])) ++ (spec_FormatInt_m x0.Field)) ++ (sB [32])) ++ (spec_FormatInt_m x0.Value)))) (sB [])
theorem cb13 : Cb Tryd.prog 13 := ⟨f13, _, func13, rfl, by decide⟩
theorem spec_FormatUpdate_c (w : World) (z0 : List Value) (x0 : DUpdate) (r_0 : tyUpdate.rd w w.heap.size z0 x0) :
  Calls Tryd.prog 13 #[.agg z0.toArray] w fun e w' => e = .returned (.string (spec_FormatUpdate_m x0)) ∧ Below w.heap.size w w' := by
 obtain ⟨v1, rfl, r2⟩ := tyUpdate_rd r_0
 obtain ⟨m3, A4, c5, rfl, q6, r7⟩ := rdS_op r2
 refine ce1 (L := [(0, .agg #[.int .i64 x0.Kind, .int .i64 x0.Row.Id, .slice A4 x0.Row.Values.length c5, .int .i64 x0.Field, .int .i64 x0.Value])]) (N := 36) func13 ?_
 refine sr ?_
 refine WM_box rfl (Wd_none rfl) (by decide) (fun p8 => ?_)
 refine wa (nt' (CM_seq (sr ?_)))
 refine wv (fun W hm => rv_loadN (cs := [.int .i64 x0.Kind, .int .i64 x0.Row.Id, .slice A4 x0.Row.Values.length c5, .int .i64 x0.Field, .int .i64 x0.Value]) underlying26 type26 rfl rfl (hm.boxCells (n := 0) rfl)) ?_
 refine wcv (cl_fn cb23 rfl) (fun W hm => spec_IsUpdate_c W _ x0 (tyUpdate_mk (x := x0) (hm.rdS0 r7))) ?_
 refine wv vnot ?_
 refine nt' ?_
 rcases Bool.eq_false_or_eq_true (spec_IsUpdate_m x0) with g10 | g10
 ·
  have hup := spec_Update_rng g10
  refine CM_condF rfl (nt g10) ?_
  refine CM_skip (QM_then (CM_seq (sr ?_)))
  refine wv (vf underlying26 rfl type3) ?_
  refine wv (vl 0 0 underlying3) ?_
  refine nt' (CM_block (sr ?_))
  refine wv (fun W hm => rv_eql rfl rfl) ?_
  refine wa (nt' ?_)
  by_cases h11 : x0.Kind = 1
  ·have g12 := beq_iff_eq.2 h11
   refine CM_condT rfl g12 ?_
   refine sr ?_
   refine wv (vf underlying26 rfl type24) ?_
   refine wv (fun W hm => rv_loadN (cs := [.int .i64 x0.Row.Id, .slice A4 x0.Row.Values.length c5]) underlying24 type24 rfl rfl (hm.boxPart (n := 0) rfl rfl)) ?_
   refine wcv (cl_fn cb21 rfl) (fun W hm => spec_FormatRow_c W _ x0.Row (tyRow_mk (x := x0.Row) (hm.rdS0 r7))) ?_
   have hzr := spec_FormatRow_sz x0.Row
   have hz13 : ByteArray.size (sB [105, 110, 115, 101, 114, 116, 32]) = 7 := rfl
   refine wv (fun W hm => rv_addS (p := (sB [105, 110, 115, 101, 114, 116, 32])) (q := (spec_FormatRow_m x0.Row)) rfl rfl (by omega)) ?_
   have hz14 := sz_app (sB [105, 110, 115, 101, 114, 116, 32]) (spec_FormatRow_m x0.Row)
   refine wa (nt' (CM_ret (QM_block_ret (QM_then_ret ?_))))
   exact QM_ret1 rfl rfl (fun W hm => ⟨ret_s (show spec_FormatUpdate_m x0 = ((sB [105, 110, 115, 101, 114, 116, 32]) ++ (spec_FormatRow_m x0.Row)) from cond_t g10 (cond_t g12 (rfl))), hm.below⟩)
  ·have g12 := beq_eq_false_iff_ne.2 h11
   refine CM_condF rfl g12 ?_
   refine sr ?_
   refine wv (fun W hm => rv_eql rfl rfl) ?_
   refine wa (nt' ?_)
   by_cases h15 : x0.Kind = 2
   ·have g16 := beq_iff_eq.2 h15
    refine CM_condT rfl g16 ?_
    refine sr ?_
    refine wv (vf underlying26 rfl type24) ?_
    refine wv (fun W hm => rv_fieldA (o := 1) underlying24 rfl type3 (by decide) rfl rfl) ?_
    refine wv (vl 0 1 underlying3) ?_
    refine wcv (cl_fn cb24 rfl) (fun W hm => spec_FormatInt_c W x0.Row.Id (⟨by omega, by omega⟩)) ?_
    have hz17 := spec_FormatInt_sz x0.Row.Id (by omega)
    have hz18 : ByteArray.size (sB [100, 101, 108, 101, 116, 101, 32]) = 7 := rfl
    refine wv (fun W hm => rv_addS (p := (sB [100, 101, 108, 101, 116, 101, 32])) (q := (spec_FormatInt_m x0.Row.Id)) rfl rfl (by omega)) ?_
    have hz19 := sz_app (sB [100, 101, 108, 101, 116, 101, 32]) (spec_FormatInt_m x0.Row.Id)
    refine wa (nt' (CM_ret (QM_block_ret (QM_then_ret ?_))))
    exact QM_ret1 rfl rfl (fun W hm => ⟨ret_s (show spec_FormatUpdate_m x0 = ((sB [100, 101, 108, 101, 116, 101, 32]) ++ (spec_FormatInt_m x0.Row.Id)) from cond_t g10 (cond_f g12 (cond_t g16 (rfl)))), hm.below⟩)
   ·have g16 := beq_eq_false_iff_ne.2 h15
    refine CM_condF rfl g16 ?_
    refine CM_skip (QM_block_normal (QM_then (CM_seq ?_)))
    refine CM_regionD (by kernel_rfl) (by kernel_rfl) ?_
    refine qv (vf underlying26 rfl type24) ?_
    refine qv (fun W hm => rv_fieldA (o := 1) underlying24 rfl type3 (by decide) rfl rfl) ?_
    refine qv (vl 0 1 underlying3) ?_
    refine QR_callV (cl_fn cb24 rfl) (fun W hm => spec_FormatInt_c W x0.Row.Id (⟨by omega, by omega⟩)) (Wd_none rfl) (by decide) ?_
    have hz20 := spec_FormatInt_sz x0.Row.Id (by omega)
    have hz21 : ByteArray.size (sB [115, 101, 116, 32]) = 4 := rfl
    refine qv (fun W hm => rv_addS (p := (sB [115, 101, 116, 32])) (q := (spec_FormatInt_m x0.Row.Id)) rfl rfl (by omega)) ?_
    have hz22 := sz_app (sB [115, 101, 116, 32]) (spec_FormatInt_m x0.Row.Id)
    have hz23 : ByteArray.size (sB [32, 102]) = 2 := rfl
    refine qv (fun W hm => rv_addS (p := ((sB [115, 101, 116, 32]) ++ (spec_FormatInt_m x0.Row.Id))) (q := (sB [32, 102])) rfl rfl (by omega)) ?_
    have hz24 := sz_app ((sB [115, 101, 116, 32]) ++ (spec_FormatInt_m x0.Row.Id)) (sB [32, 102])
    refine qv (vf underlying26 rfl type3) ?_
    refine qv (vl 0 3 underlying3) ?_
    refine QR_callV (cl_fn cb24 rfl) (fun W hm => spec_FormatInt_c W x0.Field (⟨by omega, by omega⟩)) (Wd_none rfl) (by decide) ?_
    have hz25 := spec_FormatInt_sz x0.Field (by omega)
    refine qv (fun W hm => rv_addS (p := (((sB [115, 101, 116, 32]) ++ (spec_FormatInt_m x0.Row.Id)) ++ (sB [32, 102]))) (q := (spec_FormatInt_m x0.Field)) rfl rfl (by omega)) ?_
    have hz26 := sz_app (((sB [115, 101, 116, 32]) ++ (spec_FormatInt_m x0.Row.Id)) ++ (sB [32, 102])) (spec_FormatInt_m x0.Field)
    have hz27 : ByteArray.size (sB [32]) = 1 := rfl
    refine qv (fun W hm => rv_addS (p := ((((sB [115, 101, 116, 32]) ++ (spec_FormatInt_m x0.Row.Id)) ++ (sB [32, 102])) ++ (spec_FormatInt_m x0.Field))) (q := (sB [32])) rfl rfl (by omega)) ?_
    have hz28 := sz_app ((((sB [115, 101, 116, 32]) ++ (spec_FormatInt_m x0.Row.Id)) ++ (sB [32, 102])) ++ (spec_FormatInt_m x0.Field)) (sB [32])
    refine qv (vf underlying26 rfl type3) ?_
    refine qv (vl 0 4 underlying3) ?_
    refine QR_callV (cl_fn cb24 rfl) (fun W hm => spec_FormatInt_c W x0.Value (⟨by omega, by omega⟩)) (Wd_none rfl) (by decide) ?_
    have hz29 := spec_FormatInt_sz x0.Value (by omega)
    refine qv (fun W hm => rv_addS (p := (((((sB [115, 101, 116, 32]) ++ (spec_FormatInt_m x0.Row.Id)) ++ (sB [32, 102])) ++ (spec_FormatInt_m x0.Field)) ++ (sB [32]))) (q := (spec_FormatInt_m x0.Value)) rfl rfl (by omega)) ?_
    have hz30 := sz_app (((((sB [115, 101, 116, 32]) ++ (spec_FormatInt_m x0.Row.Id)) ++ (sB [32, 102])) ++ (spec_FormatInt_m x0.Field)) ++ (sB [32])) (spec_FormatInt_m x0.Value)
    refine qv (fun W hm => rv_assign rfl) ?_
    refine nq' (CM_ret ?_)
    exact QM_ret1 rfl rfl (fun W hm => ⟨ret_s (show spec_FormatUpdate_m x0 = ((((((sB [115, 101, 116, 32]) ++ (spec_FormatInt_m x0.Row.Id)) ++ (sB [32, 102])) ++ (spec_FormatInt_m x0.Field)) ++ (sB [32])) ++ (spec_FormatInt_m x0.Value)) from cond_t g10 (cond_f g12 (cond_f g16 (rfl)))), hm.below⟩)
 ·
  refine CM_condT rfl (nf g10) ?_
  refine sr (wa (nt' (CM_ret (QM_then_ret ?_))))
  exact QM_ret1 rfl rfl (fun W hm => ⟨ret_s (show spec_FormatUpdate_m x0 = (sB []) from cond_f g10 (rfl)), hm.below⟩)

def spec_l4After_m (x0 : ByteArray) (x1 : Int) : Int :=
 cond (decide (((x0.size : Nat) : Int) < 2)) (-100000) (cond ((chr x0 0) != x1) (-100000) (spec_l2Num_m (ByteArray.extract x0 1 x0.size)))
theorem cb12 : Cb Tryd.prog 12 := ⟨f12, _, func12, rfl, by decide⟩
theorem spec_l4After_c (w : World) (x0 : ByteArray) (x1 : Int) (hs_0 : x0.size ≤ 1048576) :
  Calls Tryd.prog 12 #[.string x0, .int .u8 x1] w fun e w' => e = .returned (.int .i64 (spec_l4After_m x0 x1)) ∧ Below w.heap.size w w' := by
 refine ce2 (L := [(0, .string x0), (1, .int .u8 x1)]) (N := 17) func12 ?_
 refine sr (wa (nt' (CM_seq (sr (wm ?_)))))
 refine wv (fun W hm => rv_lenS underlying9 rfl) ?_
 refine wv vlss ?_
 refine wm ?_
 by_cases h1 : ((x0.size : Nat) : Int) < 2
 ·have g2 := decide_eq_true h1
  refine ws g2 ?_
  refine ws g2 ?_
  refine ws g2 ?_
  refine ws g2 ?_
  refine wv (vpT g2) ?_
  refine nt' ?_
  refine CM_condT rfl rfl ?_
  refine sr (wa (nt' (CM_ret (QM_then_ret ?_))))
  exact rti (h := cond_t g2 (rfl))
 ·have g2 := decide_eq_false h1
  refine wg vmv g2 ?_
  refine wg (fun W hm => rv_indexS (s := x0) (k := 0) underlying9 rfl rfl (by omega)) g2 ?_
  have hc3 := chr_bd x0 0
  refine wg vmv g2 ?_
  refine wg (fun W hm => rv_neq8 rfl rfl) g2 ?_
  refine wv (vpF g2) ?_
  refine nt' ?_
  by_cases h4 : (chr x0 0) = x1
  ·have g5 : ((chr x0 0) != x1) = false := by rw [h4]; exact bne_self_eq_false _
   refine CM_condF rfl g5 ?_
   refine CM_skip (QM_then (sr (wm ?_)))
   refine wv (fun W hm => rv_sliceS1 (s := x0) (k := 1) underlying9 rfl rfl (by omega)) ?_
   have hz6 := ext_sz x0 1 x0.size
   refine wcv (cl_fn cb11 rfl) (fun W hm => spec_l2Num_c W (ByteArray.extract x0 1 x0.size) (by omega)) ?_
   refine wa (nt' (CM_ret ?_))
   exact rti (h := cond_f g2 (cond_f g5 (rfl)))
  ·have g5 : ((chr x0 0) != x1) = true := bne_iff_ne.2 h4
   refine CM_condT rfl g5 ?_
   refine sr (wa (nt' (CM_ret (QM_then_ret ?_))))
   exact rti (h := cond_f g2 (cond_t g5 (rfl)))

def spec_ParseUpdate_m (x0 : ByteArray) : (DUpdate × Bool) :=
 cond ((((spec_l2Cut_m x0 32).length : Nat) : Int) == 2) (cond (eqS (gt (spec_l2Cut_m x0 32) 0) (sB [105, 110, 115, 101, 114, 116])) (cond (eqS x0 (sB [])) ((⟨0, (⟨0, []⟩ : DRow), 0, 0⟩ : DUpdate), false) (cond (eqS (spec_FormatUpdate_m (⟨1, ((spec_ParseRow_m (gt (spec_l2Cut_m x0 32) 1)).1), 0, 0⟩ : DUpdate)) x0) ((⟨1, ((spec_ParseRow_m (gt (spec_l2Cut_m x0 32) 1)).1), 0, 0⟩ : DUpdate), true) ((⟨0, (⟨0, []⟩ : DRow), 0, 0⟩ : DUpdate), false))) (cond (eqS x0 (sB [])) ((⟨0, (⟨0, []⟩ : DRow), 0, 0⟩ : DUpdate), false) (cond (eqS (spec_FormatUpdate_m (⟨2, (⟨(spec_l2Num_m (gt (spec_l2Cut_m x0 32) 1)), []⟩ : DRow), 0, 0⟩ : DUpdate)) x0) ((⟨2, (⟨(spec_l2Num_m (gt (spec_l2Cut_m x0 32) 1)), []⟩ : DRow), 0, 0⟩ : DUpdate), true) ((⟨0, (⟨0, []⟩ : DRow), 0, 0⟩ : DUpdate), false)))) (cond ((((spec_l2Cut_m x0 32).length : Nat) : Int) == 4) (cond (eqS x0 (sB [])) ((⟨0, (⟨0, []⟩ : DRow), 0, 0⟩ : DUpdate), false) (cond (eqS (spec_FormatUpdate_m (⟨3, (⟨(spec_l2Num_m (gt (spec_l2Cut_m x0 32) 1)), []⟩ : DRow), (spec_l4After_m (gt (spec_l2Cut_m x0 32) 2) 102), (spec_l2Num_m (gt (spec_l2Cut_m x0 32) 3))⟩ : DUpdate)) x0) ((⟨3, (⟨(spec_l2Num_m (gt (spec_l2Cut_m x0 32) 1)), []⟩ : DRow), (spec_l4After_m (gt (spec_l2Cut_m x0 32) 2) 102), (spec_l2Num_m (gt (spec_l2Cut_m x0 32) 3))⟩ : DUpdate), true) ((⟨0, (⟨0, []⟩ : DRow), 0, 0⟩ : DUpdate), false))) (cond (eqS x0 (sB [])) ((⟨0, (⟨0, []⟩ : DRow), 0, 0⟩ : DUpdate), false) (cond (eqS (spec_FormatUpdate_m (⟨0, (⟨0, []⟩ : DRow), 0, 0⟩ : DUpdate)) x0) ((⟨0, (⟨0, []⟩ : DRow), 0, 0⟩ : DUpdate), true) ((⟨0, (⟨0, []⟩ : DRow), 0, 0⟩ : DUpdate), false))))
theorem cb4 : Cb Tryd.prog 4 := ⟨f4, _, func4, rfl, by decide⟩
theorem spec_ParseUpdate_c (w : World) (x0 : ByteArray) (hs_0 : x0.size ≤ 1048576) :
  Calls Tryd.prog 4 #[.string x0] w fun e w' => ∃ v : List Value, e = .returned (.tuple #[.agg v.toArray, .bool ((spec_ParseUpdate_m x0).2)]) ∧ Mem w.heap.size w [iOwn tyUpdate v (spec_ParseUpdate_m x0).1] w' := by
 refine ce1 (L := [(0, .string x0)]) (N := 68) func4 ?_
 refine sr ?_
 refine WM_alloc type26 rfl (Wd_none rfl) (by decide) (fun p1 => ?_)
 refine wa (nt' (sr (wm ?_)))
 refine wcl (tSl tStr 9) (spec_l2Cut_m x0 32) (cl_fn cb9 rfl) (fun W hm => spec_l2Cut_c W x0 32 (by omega)) (fun z2 => ?_)
 have hcf32 := spec_l2Cut_f x0 32 32 rfl (by decide)
 refine WM_form (n := 0) rfl ?_
 rintro A3 c4 rfl m5
 refine wa (nt' (sr ?_))
 let K1 : List Value := [.int .i64 0, .int .i64 0, .slice none 0 0, .int .i64 0, .int .i64 0]
 refine wv (fun W hm => rv_build (cs := K1) rfl (by kernel_rfl)) ?_
 refine WM_alloc type26 rfl (Wd_none rfl) (by decide) (fun p7 => ?_)
 let I10 : It := iOwn (tSl tStr 9) [.slice A3 (spec_l2Cut_m x0 32).length c4] (spec_l2Cut_m x0 32)
 refine sb 0 K1 [I10, iBox p1 26 K1] (fun W hm => hm) type26 ?_
 refine nt' (CM_seq (CM_block (sr (wm ?_))))
 refine wv (vlen underlying32) ?_
 refine wv (fun W hm => rv_eql rfl rfl) ?_
 refine wm ?_
 by_cases h8 : (((spec_l2Cut_m x0 32).length : Nat) : Int) = 2
 ·have g9 := beq_iff_eq.2 h8
  refine wg vmv g9 ?_
  refine WM_formO (n := 1) rfl (by omega) ?_
  rintro g10 rfl
  refine wg (vix 1 0 underlying32 type9) g9 ?_
  refine wg (fun W hm => rv_load underlying9 rfl rfl (hm.ownStr (i := 1) rfl (by omega))) g9 ?_
  have hz11 := hcf32.2.2 0
  refine wg (fun W hm => rv_eqlS (p := (gt (spec_l2Cut_m x0 32) 0)) (q := (sB [105, 110, 115, 101, 114, 116])) underlying9 rfl rfl) g9 ?_
  refine wv (vpT g9) ?_
  refine wa (nt' ?_)
  rcases Bool.eq_false_or_eq_true (eqS (gt (spec_l2Cut_m x0 32) 0) (sB [105, 110, 115, 101, 114, 116])) with g13 | g13
  ·
   refine CM_condT rfl g13 ?_
   refine sr (wm ?_)
   refine wv (vix 1 1 underlying32 type9) ?_
   refine wv (fun W hm => rv_load underlying9 rfl rfl (hm.ownStr (i := 1) rfl (by omega))) ?_
   have hz14 := hcf32.2.2 1
   refine WM_call (χ := List Value) (val := fun x => .tuple #[.agg x.toArray, .bool ((spec_ParseRow_m (gt (spec_l2Cut_m x0 32) 1)).2)]) (js := fun x => [iOwn tyRow x ((spec_ParseRow_m (gt (spec_l2Cut_m x0 32) 1)).1)]) (cl_fn cb10 rfl) (fun W hm => spec_ParseRow_c W (gt (spec_l2Cut_m x0 32) 1) (by omega)) (Wd_none rfl) (by decide) (fun z15 => ?_)
   refine tyRow_sp ?_
   rintro v16 rfl
   refine WM_form (n := 0) rfl ?_
   rintro A17 c18 rfl m19
   refine wm ?_
   refine wv (fun W hm => rv_extract rfl rfl) ?_
   refine wv (fun W hm => rv_extract rfl rfl) ?_
   refine WM_alloc type24 rfl (Wd_none rfl) (by decide) (fun p21 => ?_)
   let K2 : List Value := [.int .i64 (((spec_ParseRow_m (gt (spec_l2Cut_m x0 32) 1)).1).Id), .slice A17 (((spec_ParseRow_m (gt (spec_l2Cut_m x0 32) 1)).1).Values).length c18]
   let K3 : List Value := [.slice A17 (((spec_ParseRow_m (gt (spec_l2Cut_m x0 32) 1)).1).Values).length c18]
   let K4 : List Value := [.slice (some ⟨g10, 0, none⟩) (spec_l2Cut_m x0 32).length c4]
   let I11 : It := iOwn (tSl tInt 3) K3 (((spec_ParseRow_m (gt (spec_l2Cut_m x0 32) 1)).1).Values)
   refine sb 0 K2 [I11, iBox p7 26 K1, iOwn (tSl tStr 9) K4 (spec_l2Cut_m x0 32), iBox p1 26 K1] (fun W hm => hm) type24 ?_
   refine wa (nt' (CM_region ?_))
   refine wv (fun W hm => rv_loadN (cs := K2) underlying24 type24 rfl rfl (hm.boxCells (n := 0) rfl)) ?_
   let K5 : List Value := [.int .i64 1, .int .i64 (((spec_ParseRow_m (gt (spec_l2Cut_m x0 32) 1)).1).Id), .slice A17 (((spec_ParseRow_m (gt (spec_l2Cut_m x0 32) 1)).1).Values).length c18, .int .i64 0, .int .i64 0]
   refine wv (fun W hm => rv_build (cs := K5) rfl (by kernel_rfl)) ?_
   refine sb 0 K5 [iBox p21 24 K2, I11, iOwn (tSl tStr 9) K4 (spec_l2Cut_m x0 32), iBox p1 26 K1] (pk [2, 0, 1, 3, 4]) type26 ?_
   refine WM_nil (QM_block_normal (QM_then (CM_seq (sr (wm ?_)))))
   refine wv (fun W hm => rv_eqlS (p := x0) (q := (sB [])) underlying9 rfl rfl) ?_
   refine wm ?_
   rcases Bool.eq_false_or_eq_true (eqS x0 (sB [])) with g23 | g23
   ·
    refine ws g23 ?_
    refine ws g23 ?_
    refine ws g23 ?_
    refine ws g23 ?_
    refine wv (vpT g23) ?_
    refine nt' ?_
    refine CM_condT rfl rfl ?_
    refine CM_seq ?_
    refine CM_items (pk [4]) ?_
    refine CM_region ?_
    refine wv (fun W hm => rv_build (cs := K1) rfl (by kernel_rfl)) ?_
    refine sb 0 K1 [] (fun W hm => hm) type26 ?_
    refine wa (nt' (CM_ret (QM_then_ret ?_)))
    refine QM_items (fun W hm => hm.addNil (E := tInt) (e := 3)) ?_
    have he25 := (show spec_ParseUpdate_m x0 = ((⟨0, (⟨0, []⟩ : DRow), 0, 0⟩ : DUpdate), false) from cond_t g9 (cond_t g13 (cond_t g23 (rfl))))
    refine QM_r2 rfl (RR_cell (n := 1) rfl rfl underlying26 type26 rfl) (RR_tmp rfl) (fun W hm => ⟨K1, ?_, ?_⟩)
    ·first | rw [he25] | rfl
     try rfl
    ·rw [he25]; exact Mem.join (is := [iOwn (tSl tInt 3) [.slice none 0 0] []]) (js := []) (fun _ _ hs => tyUpdate_join (x := (⟨0, (⟨0, []⟩ : DRow), 0, 0⟩ : DUpdate)) hs) (hm.pick [0] (by decide))
   ·
    refine wg (fun W hm => rv_loadN (cs := K5) underlying26 type26 rfl rfl (hm.boxCells (n := 0) rfl)) g23 ?_
    refine WM_callV (cl_fn cb13 rfl) (fun W hm => spec_FormatUpdate_c W _ (⟨1, ((spec_ParseRow_m (gt (spec_l2Cut_m x0 32) 1)).1), 0, 0⟩ : DUpdate) (tyUpdate_mk (x := (⟨1, ((spec_ParseRow_m (gt (spec_l2Cut_m x0 32) 1)).1), 0, 0⟩ : DUpdate)) (hm.rdSI (n := 2) rfl))) (Wd_some rfl rfl rfl (bw g23 rfl)) (by decide) ?_
    refine wg vmv g23 ?_
    refine wg (fun W hm => rv_neqS (p := (spec_FormatUpdate_m (⟨1, ((spec_ParseRow_m (gt (spec_l2Cut_m x0 32) 1)).1), 0, 0⟩ : DUpdate))) (q := x0) underlying9 rfl rfl) g23 ?_
    refine wv (vpF g23) ?_
    refine nt' ?_
    rcases Bool.eq_false_or_eq_true (eqS (spec_FormatUpdate_m (⟨1, ((spec_ParseRow_m (gt (spec_l2Cut_m x0 32) 1)).1), 0, 0⟩ : DUpdate)) x0) with g27 | g27
    ·
     refine CM_condF rfl (nt g27) ?_
     refine CM_skip (QM_then (sr ?_))
     refine wv (fun W hm => rv_loadN (cs := K5) underlying26 type26 rfl rfl (hm.boxCells (n := 0) rfl)) ?_
     refine sb 0 K5 [iBox p7 26 K5, iBox p21 24 K2, I11, iOwn (tSl tStr 9) K4 (spec_l2Cut_m x0 32)] (pk [4, 0, 1, 2, 3]) type26 ?_
     refine wa (nt' (CM_ret ?_))
     have he28 := (show spec_ParseUpdate_m x0 = ((⟨1, ((spec_ParseRow_m (gt (spec_l2Cut_m x0 32) 1)).1), 0, 0⟩ : DUpdate), true) from cond_t g9 (cond_t g13 (cond_f g23 (cond_t g27 (rfl)))))
     refine QM_r2 rfl (RR_cell (n := 0) rfl rfl underlying26 type26 rfl) (RR_tmp rfl) (fun W hm => ⟨K5, ?_, ?_⟩)
     ·first | rw [he28] | rfl
      try rfl
     ·rw [he28]; exact Mem.join (is := [I11]) (js := []) (fun _ _ hs => tyUpdate_join (x := (⟨1, ((spec_ParseRow_m (gt (spec_l2Cut_m x0 32) 1)).1), 0, 0⟩ : DUpdate)) hs) (hm.pick [3] (by decide))
    ·
     refine CM_condT rfl (nf g27) ?_
     refine CM_seq ?_
     refine CM_items (pk [4]) ?_
     refine CM_region ?_
     refine wv (fun W hm => rv_build (cs := K1) rfl (by kernel_rfl)) ?_
     refine sb 0 K1 [] (fun W hm => hm) type26 ?_
     refine wa (nt' (CM_ret (QM_then_ret ?_)))
     refine QM_items (fun W hm => hm.addNil (E := tInt) (e := 3)) ?_
     have he30 := (show spec_ParseUpdate_m x0 = ((⟨0, (⟨0, []⟩ : DRow), 0, 0⟩ : DUpdate), false) from cond_t g9 (cond_t g13 (cond_f g23 (cond_f g27 (rfl)))))
     refine QM_r2 rfl (RR_cell (n := 1) rfl rfl underlying26 type26 rfl) (RR_tmp rfl) (fun W hm => ⟨K1, ?_, ?_⟩)
     ·first | rw [he30] | rfl
      try rfl
     ·rw [he30]; exact Mem.join (is := [iOwn (tSl tInt 3) [.slice none 0 0] []]) (js := []) (fun _ _ hs => tyUpdate_join (x := (⟨0, (⟨0, []⟩ : DRow), 0, 0⟩ : DUpdate)) hs) (hm.pick [0] (by decide))
  ·
   refine CM_condF rfl g13 ?_
   refine sr (wm ?_)
   refine wv (vlen underlying32) ?_
   refine wv (fun W hm => rv_eql rfl rfl) ?_
   refine wa (nt' ?_)
   refine CM_condT rfl g9 ?_
   refine CM_region (wm ?_)
   refine wv (vix 1 1 underlying32 type9) ?_
   refine wv (fun W hm => rv_load underlying9 rfl rfl (hm.ownStr (i := 1) rfl (by omega))) ?_
   have hz31 := hcf32.2.2 1
   refine wcv (cl_fn cb11 rfl) (fun W hm => spec_l2Num_c W (gt (spec_l2Cut_m x0 32) 1) (by omega)) ?_
   refine wv (fun W hm => rv_build (cs := [.int .i64 (spec_l2Num_m (gt (spec_l2Cut_m x0 32) 1)), .slice none 0 0]) rfl (by kernel_rfl)) ?_
   let K6 : List Value := [.int .i64 2, .int .i64 (spec_l2Num_m (gt (spec_l2Cut_m x0 32) 1)), .slice none 0 0, .int .i64 0, .int .i64 0]
   refine wv (fun W hm => rv_build (cs := K6) rfl (by kernel_rfl)) ?_
   let K7 : List Value := [.slice (some ⟨g10, 0, none⟩) (spec_l2Cut_m x0 32).length c4]
   refine sb 0 K6 [iOwn (tSl tStr 9) K7 (spec_l2Cut_m x0 32), iBox p1 26 K1] (fun W hm => hm) type26 ?_
   refine WM_nil (QM_block_normal (QM_then (CM_seq (sr (wm ?_)))))
   refine wv (fun W hm => rv_eqlS (p := x0) (q := (sB [])) underlying9 rfl rfl) ?_
   refine wm ?_
   rcases Bool.eq_false_or_eq_true (eqS x0 (sB [])) with g33 | g33
   ·
    refine ws g33 ?_
    refine ws g33 ?_
    refine ws g33 ?_
    refine ws g33 ?_
    refine wv (vpT g33) ?_
    refine nt' ?_
    refine CM_condT rfl rfl ?_
    refine sr ?_
    refine wv (fun W hm => rv_build (cs := K1) rfl (by kernel_rfl)) ?_
    refine sb 0 K1 [iBox p7 26 K6, iOwn (tSl tStr 9) K7 (spec_l2Cut_m x0 32)] (pk [2, 0, 1]) type26 ?_
    refine wa (nt' (CM_ret (QM_then_ret ?_)))
    refine QM_items (fun W hm => hm.addNil (E := tInt) (e := 3)) ?_
    have he35 := (show spec_ParseUpdate_m x0 = ((⟨0, (⟨0, []⟩ : DRow), 0, 0⟩ : DUpdate), false) from cond_t g9 (cond_f g13 (cond_t g33 (rfl))))
    refine QM_r2 rfl (RR_cell (n := 1) rfl rfl underlying26 type26 rfl) (RR_tmp rfl) (fun W hm => ⟨K1, ?_, ?_⟩)
    ·first | rw [he35] | rfl
     try rfl
    ·rw [he35]; exact Mem.join (is := [iOwn (tSl tInt 3) [.slice none 0 0] []]) (js := []) (fun _ _ hs => tyUpdate_join (x := (⟨0, (⟨0, []⟩ : DRow), 0, 0⟩ : DUpdate)) hs) (hm.pick [0] (by decide))
   ·
    refine wg (fun W hm => rv_loadN (cs := K6) underlying26 type26 rfl rfl (hm.boxCells (n := 0) rfl)) g33 ?_
    refine WM_callV (cl_fn cb13 rfl) (fun W hm => spec_FormatUpdate_c W _ (⟨2, (⟨(spec_l2Num_m (gt (spec_l2Cut_m x0 32) 1)), []⟩ : DRow), 0, 0⟩ : DUpdate) (tyUpdate_mk (x := (⟨2, (⟨(spec_l2Num_m (gt (spec_l2Cut_m x0 32) 1)), []⟩ : DRow), 0, 0⟩ : DUpdate)) rdS_nil)) (Wd_some rfl rfl rfl (bw g33 rfl)) (by decide) ?_
    refine wg vmv g33 ?_
    refine wg (fun W hm => rv_neqS (p := (spec_FormatUpdate_m (⟨2, (⟨(spec_l2Num_m (gt (spec_l2Cut_m x0 32) 1)), []⟩ : DRow), 0, 0⟩ : DUpdate))) (q := x0) underlying9 rfl rfl) g33 ?_
    refine wv (vpF g33) ?_
    refine nt' ?_
    rcases Bool.eq_false_or_eq_true (eqS (spec_FormatUpdate_m (⟨2, (⟨(spec_l2Num_m (gt (spec_l2Cut_m x0 32) 1)), []⟩ : DRow), 0, 0⟩ : DUpdate)) x0) with g37 | g37
    ·
     refine CM_condF rfl (nt g37) ?_
     refine CM_skip (QM_then (sr ?_))
     refine wv (fun W hm => rv_loadN (cs := K6) underlying26 type26 rfl rfl (hm.boxCells (n := 0) rfl)) ?_
     refine sb 0 K6 [iBox p7 26 K6, iOwn (tSl tStr 9) K7 (spec_l2Cut_m x0 32)] (pk [2, 0, 1]) type26 ?_
     refine wa (nt' (CM_ret ?_))
     refine QM_items (fun W hm => hm.addNil (E := tInt) (e := 3)) ?_
     have he39 := (show spec_ParseUpdate_m x0 = ((⟨2, (⟨(spec_l2Num_m (gt (spec_l2Cut_m x0 32) 1)), []⟩ : DRow), 0, 0⟩ : DUpdate), true) from cond_t g9 (cond_f g13 (cond_f g33 (cond_t g37 (rfl)))))
     refine QM_r2 rfl (RR_cell (n := 1) rfl rfl underlying26 type26 rfl) (RR_tmp rfl) (fun W hm => ⟨K6, ?_, ?_⟩)
     ·first | rw [he39] | rfl
      try rfl
     ·rw [he39]; exact Mem.join (is := [iOwn (tSl tInt 3) [.slice none 0 0] []]) (js := []) (fun _ _ hs => tyUpdate_join (x := (⟨2, (⟨(spec_l2Num_m (gt (spec_l2Cut_m x0 32) 1)), []⟩ : DRow), 0, 0⟩ : DUpdate)) hs) (hm.pick [0] (by decide))
    ·
     refine CM_condT rfl (nf g37) ?_
     refine sr ?_
     refine wv (fun W hm => rv_build (cs := K1) rfl (by kernel_rfl)) ?_
     refine sb 0 K1 [iBox p7 26 K6, iOwn (tSl tStr 9) K7 (spec_l2Cut_m x0 32)] (pk [2, 0, 1]) type26 ?_
     refine wa (nt' (CM_ret (QM_then_ret ?_)))
     refine QM_items (fun W hm => hm.addNil (E := tInt) (e := 3)) ?_
     have he41 := (show spec_ParseUpdate_m x0 = ((⟨0, (⟨0, []⟩ : DRow), 0, 0⟩ : DUpdate), false) from cond_t g9 (cond_f g13 (cond_f g33 (cond_f g37 (rfl)))))
     refine QM_r2 rfl (RR_cell (n := 1) rfl rfl underlying26 type26 rfl) (RR_tmp rfl) (fun W hm => ⟨K1, ?_, ?_⟩)
     ·first | rw [he41] | rfl
      try rfl
     ·rw [he41]; exact Mem.join (is := [iOwn (tSl tInt 3) [.slice none 0 0] []]) (js := []) (fun _ _ hs => tyUpdate_join (x := (⟨0, (⟨0, []⟩ : DRow), 0, 0⟩ : DUpdate)) hs) (hm.pick [0] (by decide))
 ·have g9 := beq_eq_false_iff_ne.2 h8
  refine ws g9 ?_
  refine ws g9 ?_
  refine ws g9 ?_
  refine ws g9 ?_
  refine wv (vpF g9) ?_
  refine wa (nt' ?_)
  refine CM_condF rfl rfl ?_
  refine sr (wm ?_)
  refine wv (vlen underlying32) ?_
  refine wv (fun W hm => rv_eql rfl rfl) ?_
  refine wa (nt' ?_)
  refine CM_condF rfl g9 ?_
  refine sr (wm ?_)
  refine wv (vlen underlying32) ?_
  refine wv (fun W hm => rv_eql rfl rfl) ?_
  refine wa (nt' ?_)
  by_cases h42 : (((spec_l2Cut_m x0 32).length : Nat) : Int) = 4
  ·have g43 := beq_iff_eq.2 h42
   refine CM_condT rfl g43 ?_
   refine CM_formO (n := 1) rfl (by omega) ?_
   rintro g44 rfl
   let K8 : List Value := [.slice (some ⟨g44, 0, none⟩) (spec_l2Cut_m x0 32).length c4]
   refine rd2 15 [14] (s := [iOwn (tSl tStr 9) K8 (spec_l2Cut_m x0 32), iBox p1 26 K1]) (s2 := [iBox p7 26 K1, iOwn (tSl tStr 9) K8 (spec_l2Cut_m x0 32), iBox p1 26 K1]) (pk [1, 2]) (fun W hm => hm) ?_
   refine qtD 15 0 1 rfl vmv ?_
   refine qtD 15 1 3 rfl (vix 1 1 underlying32 type9) ?_
   refine qtD 15 2 7 rfl (fun W hm => rv_load underlying9 rfl rfl (hm.ownStr (i := 1) rfl (by omega))) ?_
   have hz45 := hcf32.2.2 1
   refine qtD 15 5 39 rfl vmv ?_
   refine qtD 15 6 103 rfl (vix 1 2 underlying32 type9) ?_
   refine qtD 15 7 231 rfl (fun W hm => rv_load underlying9 rfl rfl (hm.ownStr (i := 1) rfl (by omega))) ?_
   have hz46 := hcf32.2.2 2
   refine qtD 15 9 743 rfl vmv ?_
   refine qtD 15 10 1767 rfl (vix 1 3 underlying32 type9) ?_
   refine qtD 15 11 3815 rfl (fun W hm => rv_load underlying9 rfl rfl (hm.ownStr (i := 1) rfl (by omega))) ?_
   have hz47 := hcf32.2.2 3
   refine qoD 15 3 3823 rfl ?_
   refine wcv (cl_fn cb11 rfl) (fun W hm => spec_l2Num_c W (gt (spec_l2Cut_m x0 32) 1) (by omega)) ?_
   refine qnD (pk [1, 2]) (fun W hm => hm) ?_
   refine qtD 15 4 3839 rfl (fun W hm => rv_build (cs := [.int .i64 (spec_l2Num_m (gt (spec_l2Cut_m x0 32) 1)), .slice none 0 0]) rfl (by kernel_rfl)) ?_
   refine qoD 15 8 4095 rfl ?_
   refine wcv (cl_fn cb12 rfl) (fun W hm => spec_l4After_c W (gt (spec_l2Cut_m x0 32) 2) 102 (by omega)) ?_
   refine qnD (pk [1, 2]) (fun W hm => hm) ?_
   refine qoD 15 12 8191 rfl ?_
   refine wcv (cl_fn cb11 rfl) (fun W hm => spec_l2Num_c W (gt (spec_l2Cut_m x0 32) 3) (by omega)) ?_
   refine qnD (pk [1, 2]) (fun W hm => hm) ?_
   let K9 : List Value := [.int .i64 3, .int .i64 (spec_l2Num_m (gt (spec_l2Cut_m x0 32) 1)), .slice none 0 0, .int .i64 (spec_l4After_m (gt (spec_l2Cut_m x0 32) 2) 102), .int .i64 (spec_l2Num_m (gt (spec_l2Cut_m x0 32) 3))]
   refine qtD 15 13 16383 rfl (fun W hm => rv_build (cs := K9) rfl (by kernel_rfl)) ?_
   refine qoD 15 14 32767 rfl ?_
   refine sb 0 K9 [iOwn (tSl tStr 9) K8 (spec_l2Cut_m x0 32), iBox p1 26 K1] (fun W hm => hm) type26 ?_
   refine qxD (pk [1, 2]) ?_
   refine QB_done (by kernel_rfl) ?_
   refine QM_block_normal (QM_then (CM_seq (sr (wm ?_))))
   refine wv (fun W hm => rv_eqlS (p := x0) (q := (sB [])) underlying9 rfl rfl) ?_
   refine wm ?_
   rcases Bool.eq_false_or_eq_true (eqS x0 (sB [])) with g49 | g49
   ·
    refine ws g49 ?_
    refine ws g49 ?_
    refine ws g49 ?_
    refine ws g49 ?_
    refine wv (vpT g49) ?_
    refine nt' ?_
    refine CM_condT rfl rfl ?_
    refine sr ?_
    refine wv (fun W hm => rv_build (cs := K1) rfl (by kernel_rfl)) ?_
    refine sb 0 K1 [iBox p7 26 K9, iOwn (tSl tStr 9) K8 (spec_l2Cut_m x0 32)] (pk [2, 0, 1]) type26 ?_
    refine wa (nt' (CM_ret (QM_then_ret ?_)))
    refine QM_items (fun W hm => hm.addNil (E := tInt) (e := 3)) ?_
    have he51 := (show spec_ParseUpdate_m x0 = ((⟨0, (⟨0, []⟩ : DRow), 0, 0⟩ : DUpdate), false) from cond_f g9 (cond_t g43 (cond_t g49 (rfl))))
    refine QM_r2 rfl (RR_cell (n := 1) rfl rfl underlying26 type26 rfl) (RR_tmp rfl) (fun W hm => ⟨K1, ?_, ?_⟩)
    ·first | rw [he51] | rfl
     try rfl
    ·rw [he51]; exact Mem.join (is := [iOwn (tSl tInt 3) [.slice none 0 0] []]) (js := []) (fun _ _ hs => tyUpdate_join (x := (⟨0, (⟨0, []⟩ : DRow), 0, 0⟩ : DUpdate)) hs) (hm.pick [0] (by decide))
   ·
    refine wg (fun W hm => rv_loadN (cs := K9) underlying26 type26 rfl rfl (hm.boxCells (n := 0) rfl)) g49 ?_
    refine WM_callV (cl_fn cb13 rfl) (fun W hm => spec_FormatUpdate_c W _ (⟨3, (⟨(spec_l2Num_m (gt (spec_l2Cut_m x0 32) 1)), []⟩ : DRow), (spec_l4After_m (gt (spec_l2Cut_m x0 32) 2) 102), (spec_l2Num_m (gt (spec_l2Cut_m x0 32) 3))⟩ : DUpdate) (tyUpdate_mk (x := (⟨3, (⟨(spec_l2Num_m (gt (spec_l2Cut_m x0 32) 1)), []⟩ : DRow), (spec_l4After_m (gt (spec_l2Cut_m x0 32) 2) 102), (spec_l2Num_m (gt (spec_l2Cut_m x0 32) 3))⟩ : DUpdate)) rdS_nil)) (Wd_some rfl rfl rfl (bw g49 rfl)) (by decide) ?_
    refine wg vmv g49 ?_
    refine wg (fun W hm => rv_neqS (p := (spec_FormatUpdate_m (⟨3, (⟨(spec_l2Num_m (gt (spec_l2Cut_m x0 32) 1)), []⟩ : DRow), (spec_l4After_m (gt (spec_l2Cut_m x0 32) 2) 102), (spec_l2Num_m (gt (spec_l2Cut_m x0 32) 3))⟩ : DUpdate))) (q := x0) underlying9 rfl rfl) g49 ?_
    refine wv (vpF g49) ?_
    refine nt' ?_
    rcases Bool.eq_false_or_eq_true (eqS (spec_FormatUpdate_m (⟨3, (⟨(spec_l2Num_m (gt (spec_l2Cut_m x0 32) 1)), []⟩ : DRow), (spec_l4After_m (gt (spec_l2Cut_m x0 32) 2) 102), (spec_l2Num_m (gt (spec_l2Cut_m x0 32) 3))⟩ : DUpdate)) x0) with g53 | g53
    ·
     refine CM_condF rfl (nt g53) ?_
     refine CM_skip (QM_then (sr ?_))
     refine wv (fun W hm => rv_loadN (cs := K9) underlying26 type26 rfl rfl (hm.boxCells (n := 0) rfl)) ?_
     refine sb 0 K9 [iBox p7 26 K9, iOwn (tSl tStr 9) K8 (spec_l2Cut_m x0 32)] (pk [2, 0, 1]) type26 ?_
     refine wa (nt' (CM_ret ?_))
     refine QM_items (fun W hm => hm.addNil (E := tInt) (e := 3)) ?_
     have he55 := (show spec_ParseUpdate_m x0 = ((⟨3, (⟨(spec_l2Num_m (gt (spec_l2Cut_m x0 32) 1)), []⟩ : DRow), (spec_l4After_m (gt (spec_l2Cut_m x0 32) 2) 102), (spec_l2Num_m (gt (spec_l2Cut_m x0 32) 3))⟩ : DUpdate), true) from cond_f g9 (cond_t g43 (cond_f g49 (cond_t g53 (rfl)))))
     refine QM_r2 rfl (RR_cell (n := 1) rfl rfl underlying26 type26 rfl) (RR_tmp rfl) (fun W hm => ⟨K9, ?_, ?_⟩)
     ·first | rw [he55] | rfl
      try rfl
     ·rw [he55]; exact Mem.join (is := [iOwn (tSl tInt 3) [.slice none 0 0] []]) (js := []) (fun _ _ hs => tyUpdate_join (x := (⟨3, (⟨(spec_l2Num_m (gt (spec_l2Cut_m x0 32) 1)), []⟩ : DRow), (spec_l4After_m (gt (spec_l2Cut_m x0 32) 2) 102), (spec_l2Num_m (gt (spec_l2Cut_m x0 32) 3))⟩ : DUpdate)) hs) (hm.pick [0] (by decide))
    ·
     refine CM_condT rfl (nf g53) ?_
     refine sr ?_
     refine wv (fun W hm => rv_build (cs := K1) rfl (by kernel_rfl)) ?_
     refine sb 0 K1 [iBox p7 26 K9, iOwn (tSl tStr 9) K8 (spec_l2Cut_m x0 32)] (pk [2, 0, 1]) type26 ?_
     refine wa (nt' (CM_ret (QM_then_ret ?_)))
     refine QM_items (fun W hm => hm.addNil (E := tInt) (e := 3)) ?_
     have he57 := (show spec_ParseUpdate_m x0 = ((⟨0, (⟨0, []⟩ : DRow), 0, 0⟩ : DUpdate), false) from cond_f g9 (cond_t g43 (cond_f g49 (cond_f g53 (rfl)))))
     refine QM_r2 rfl (RR_cell (n := 1) rfl rfl underlying26 type26 rfl) (RR_tmp rfl) (fun W hm => ⟨K1, ?_, ?_⟩)
     ·first | rw [he57] | rfl
      try rfl
     ·rw [he57]; exact Mem.join (is := [iOwn (tSl tInt 3) [.slice none 0 0] []]) (js := []) (fun _ _ hs => tyUpdate_join (x := (⟨0, (⟨0, []⟩ : DRow), 0, 0⟩ : DUpdate)) hs) (hm.pick [0] (by decide))
  ·have g43 := beq_eq_false_iff_ne.2 h42
   refine CM_condF rfl g43 ?_
   refine CM_skip (QM_block_normal (QM_then (CM_seq (sr (wm ?_)))))
   refine wv (fun W hm => rv_eqlS (p := x0) (q := (sB [])) underlying9 rfl rfl) ?_
   refine wm ?_
   rcases Bool.eq_false_or_eq_true (eqS x0 (sB [])) with g59 | g59
   ·
    refine ws g59 ?_
    refine ws g59 ?_
    refine ws g59 ?_
    refine ws g59 ?_
    refine wv (vpT g59) ?_
    refine nt' ?_
    refine CM_condT rfl rfl ?_
    refine sr ?_
    refine wv (fun W hm => rv_build (cs := K1) rfl (by kernel_rfl)) ?_
    refine sb 0 K1 [iBox p7 26 K1, I10] (pk [2, 0, 1]) type26 ?_
    refine wa (nt' (CM_ret (QM_then_ret ?_)))
    refine QM_items (fun W hm => hm.addNil (E := tInt) (e := 3)) ?_
    have he61 := (show spec_ParseUpdate_m x0 = ((⟨0, (⟨0, []⟩ : DRow), 0, 0⟩ : DUpdate), false) from cond_f g9 (cond_f g43 (cond_t g59 (rfl))))
    refine QM_r2 rfl (RR_cell (n := 1) rfl rfl underlying26 type26 rfl) (RR_tmp rfl) (fun W hm => ⟨K1, ?_, ?_⟩)
    ·first | rw [he61] | rfl
     try rfl
    ·rw [he61]; exact Mem.join (is := [iOwn (tSl tInt 3) [.slice none 0 0] []]) (js := []) (fun _ _ hs => tyUpdate_join (x := (⟨0, (⟨0, []⟩ : DRow), 0, 0⟩ : DUpdate)) hs) (hm.pick [0] (by decide))
   ·
    refine wg (fun W hm => rv_loadN (cs := K1) underlying26 type26 rfl rfl (hm.boxCells (n := 0) rfl)) g59 ?_
    refine WM_callV (cl_fn cb13 rfl) (fun W hm => spec_FormatUpdate_c W _ (⟨0, (⟨0, []⟩ : DRow), 0, 0⟩ : DUpdate) (tyUpdate_mk (x := (⟨0, (⟨0, []⟩ : DRow), 0, 0⟩ : DUpdate)) rdS_nil)) (Wd_some rfl rfl rfl (bw g59 rfl)) (by decide) ?_
    refine wg vmv g59 ?_
    refine wg (fun W hm => rv_neqS (p := (spec_FormatUpdate_m (⟨0, (⟨0, []⟩ : DRow), 0, 0⟩ : DUpdate))) (q := x0) underlying9 rfl rfl) g59 ?_
    refine wv (vpF g59) ?_
    refine nt' ?_
    rcases Bool.eq_false_or_eq_true (eqS (spec_FormatUpdate_m (⟨0, (⟨0, []⟩ : DRow), 0, 0⟩ : DUpdate)) x0) with g63 | g63
    ·
     refine CM_condF rfl (nt g63) ?_
     refine CM_skip (QM_then (sr ?_))
     refine wv (fun W hm => rv_loadN (cs := K1) underlying26 type26 rfl rfl (hm.boxCells (n := 0) rfl)) ?_
     refine sb 0 K1 [iBox p7 26 K1, I10] (pk [2, 0, 1]) type26 ?_
     refine wa (nt' (CM_ret ?_))
     refine QM_items (fun W hm => hm.addNil (E := tInt) (e := 3)) ?_
     have he65 := (show spec_ParseUpdate_m x0 = ((⟨0, (⟨0, []⟩ : DRow), 0, 0⟩ : DUpdate), true) from cond_f g9 (cond_f g43 (cond_f g59 (cond_t g63 (rfl)))))
     refine QM_r2 rfl (RR_cell (n := 1) rfl rfl underlying26 type26 rfl) (RR_tmp rfl) (fun W hm => ⟨K1, ?_, ?_⟩)
     ·first | rw [he65] | rfl
      try rfl
     ·rw [he65]; exact Mem.join (is := [iOwn (tSl tInt 3) [.slice none 0 0] []]) (js := []) (fun _ _ hs => tyUpdate_join (x := (⟨0, (⟨0, []⟩ : DRow), 0, 0⟩ : DUpdate)) hs) (hm.pick [0] (by decide))
    ·
     refine CM_condT rfl (nf g63) ?_
     refine sr ?_
     refine wv (fun W hm => rv_build (cs := K1) rfl (by kernel_rfl)) ?_
     refine sb 0 K1 [iBox p7 26 K1, I10] (pk [2, 0, 1]) type26 ?_
     refine wa (nt' (CM_ret (QM_then_ret ?_)))
     refine QM_items (fun W hm => hm.addNil (E := tInt) (e := 3)) ?_
     have he67 := (show spec_ParseUpdate_m x0 = ((⟨0, (⟨0, []⟩ : DRow), 0, 0⟩ : DUpdate), false) from cond_f g9 (cond_f g43 (cond_f g59 (cond_f g63 (rfl)))))
     refine QM_r2 rfl (RR_cell (n := 1) rfl rfl underlying26 type26 rfl) (RR_tmp rfl) (fun W hm => ⟨K1, ?_, ?_⟩)
     ·first | rw [he67] | rfl
      try rfl
     ·rw [he67]; exact Mem.join (is := [iOwn (tSl tInt 3) [.slice none 0 0] []]) (js := []) (fun _ _ hs => tyUpdate_join (x := (⟨0, (⟨0, []⟩ : DRow), 0, 0⟩ : DUpdate)) hs) (hm.pick [0] (by decide))

def impl_FormatInt_m (x0 : Int) : ByteArray :=
 (itoaB x0)
theorem cb33 : Cb Tryd.prog 33 := ⟨f33, _, func33, rfl, by decide⟩
theorem impl_FormatInt_c (w : World) (x0 : Int) (hr : -9223372036854775808 ≤ x0 ∧ x0 ≤ 9223372036854775807) (hT : TabOK w.heap.size w) :
  Calls Tryd.prog 33 #[.int .i64 x0] w fun e w' => e = .returned (.string (impl_FormatInt_m x0)) ∧ Below w.heap.size w w' := by
 refine ce1 (L := [(0, .int .i64 x0)]) (N := 5) func33 ?_
 refine sr (wa (nt' (sr (wm ?_))))
 refine wcv (cl_fn ⟨f48, _, func48, rfl, by decide⟩ rfl) (fun W hm => itoa_c W x0 (by omega) (hT.mem hm)) ?_
 have hz1 := itoaB_sz x0 (by omega)
 refine wa (nt' (CM_ret ?_))
 exact QM_ret1 rfl rfl (fun W hm => ⟨ret_s (show impl_FormatInt_m x0 = (itoaB x0) from rfl), hm.below⟩)
theorem impl_FormatInt_sz (x : Int) (h : -9223372036854775808 ≤ x ∧ x ≤ 9223372036854775807) : (impl_FormatInt_m x).size ≤ 21 := itoaB_sz x h

def impl_ParseInt_m (x0 : ByteArray) : (Int × Bool) :=
 cond (atoOk x0) (cond (eqS (impl_FormatInt_m (atoV x0)) x0) (cond (decide ((atoV x0) < (-999999999))) (0, false) (cond (decide (999999999 < (atoV x0))) (0, false) ((atoV x0), true))) (0, false)) (0, false)
theorem cb26 : Cb Tryd.prog 26 := ⟨f26, _, func26, rfl, by decide⟩
theorem impl_ParseInt_c (w : World) (x0 : ByteArray) (hs_0 : x0.size ≤ 1048576) (hT : TabOK w.heap.size w) :
  Calls Tryd.prog 26 #[.string x0] w fun e w' => e = .returned (.tuple #[.int .i64 ((impl_ParseInt_m x0).1), .bool ((impl_ParseInt_m x0).2)]) ∧ Below w.heap.size w w' := by
 refine ce1 (L := [(0, .string x0)]) (N := 28) func26 ?_
 refine sr (wa (wa (nt' (sr (wm ?_)))))
 rcases Bool.eq_false_or_eq_true (atoOk x0) with g2 | g2
 ·
  have hv3 := atoV_bd x0
  refine wcv (cl_fn ⟨f42, _, func42, rfl, by decide⟩ rfl) (fun W hm => atoi_t W x0 (by omega) g2) ?_
  refine wm ?_
  refine wv (fun W hm => rv_extract rfl rfl) ?_
  refine wv (fun W hm => rv_extract rfl rfl) ?_
  refine wa (wa (nt' (CM_seq (sr (wm ?_)))))
  refine wv (fun W hm => rv_neqIF und_err rfl) ?_
  refine wm ?_
  refine WM_val vmv (Wd_some rfl rfl rfl rfl) rfl (by decide) ?_
  refine WM_callV (cl_fn cb33 rfl) (fun W hm => impl_FormatInt_c W (atoV x0) (⟨by omega, by omega⟩) (hT.mem hm)) (Wd_some rfl rfl rfl rfl) (by decide) ?_
  have hz4 := impl_FormatInt_sz (atoV x0) (by omega)
  refine WM_val vmv (Wd_some rfl rfl rfl rfl) rfl (by decide) ?_
  refine WM_val (fun W hm => rv_neqS (p := (impl_FormatInt_m (atoV x0))) (q := x0) underlying9 rfl rfl) (Wd_some rfl rfl rfl rfl) rfl (by decide) ?_
  refine wv (vpF rfl) ?_
  refine wm ?_
  rcases Bool.eq_false_or_eq_true (eqS (impl_FormatInt_m (atoV x0)) x0) with g6 | g6
  ·
   refine wg vmv (nt g6) ?_
   refine wg vlss (nt g6) ?_
   refine wv (vpF (nt g6)) ?_
   refine wm ?_
   by_cases h7 : (atoV x0) < (-999999999)
   ·have g8 := decide_eq_true h7
    refine ws g8 ?_
    refine ws g8 ?_
    refine wv (vpT g8) ?_
    refine nt' ?_
    refine CM_condT rfl rfl ?_
    refine sr (wa (wa (nt' (CM_ret (QM_then_ret ?_)))))
    have he9 := (show impl_ParseInt_m x0 = (0, false) from cond_t g2 (cond_t g6 (cond_t g8 (rfl))))
    exact QM_r2 rfl (RR_tmp rfl) (RR_tmp rfl) (fun W hm => ⟨by rw [he9]; first | done | rfl, hm.below⟩)
   ·have g8 := decide_eq_false h7
    refine wg vmv g8 ?_
    refine wg (fun W hm => rv_gtr rfl rfl) g8 ?_
    refine wv (vpF g8) ?_
    refine nt' ?_
    by_cases h10 : 999999999 < (atoV x0)
    ·have g11 := decide_eq_true h10
     refine CM_condT rfl g11 ?_
     refine sr (wa (wa (nt' (CM_ret (QM_then_ret ?_)))))
     have he12 := (show impl_ParseInt_m x0 = (0, false) from cond_t g2 (cond_t g6 (cond_f g8 (cond_t g11 (rfl)))))
     exact QM_r2 rfl (RR_tmp rfl) (RR_tmp rfl) (fun W hm => ⟨by rw [he12]; first | done | rfl, hm.below⟩)
    ·have g11 := decide_eq_false h10
     refine CM_condF rfl g11 ?_
     refine CM_skip (QM_then (sr (wm (wa (wa (nt' (CM_ret ?_)))))))
     have he13 := (show impl_ParseInt_m x0 = ((atoV x0), true) from cond_t g2 (cond_t g6 (cond_f g8 (cond_f g11 (rfl)))))
     exact QM_r2 rfl (RR_tmp rfl) (RR_tmp rfl) (fun W hm => ⟨by rw [he13]; first | done | rfl, hm.below⟩)
  ·
   refine ws (nf g6) ?_
   refine ws (nf g6) ?_
   refine wv (vpT (nf g6)) ?_
   refine wm ?_
   refine wk ?_
   refine wk ?_
   refine wv (vpT rfl) ?_
   refine nt' ?_
   refine CM_condT rfl rfl ?_
   refine sr (wa (wa (nt' (CM_ret (QM_then_ret ?_)))))
   have he14 := (show impl_ParseInt_m x0 = (0, false) from cond_t g2 (cond_f g6 (rfl)))
   exact QM_r2 rfl (RR_tmp rfl) (RR_tmp rfl) (fun W hm => ⟨by rw [he14]; first | done | rfl, hm.below⟩)
 ·
  have hv15 := atoV_bd x0
  refine WM_callW (χ := Nat) (val := fun x => .tuple #[.int .i64 (atoV x0), .iface 76 (.pointer (some ⟨x, 0, none⟩))]) (js := fun _ => []) (cl_fn ⟨f42, _, func42, rfl, by decide⟩ rfl) (fun W hm => (atoi_f W x0 (by omega) g2 (hT.mem hm)).mono (fun _ _ ⟨x, h1, h2⟩ => ⟨x, h1, hm.ext h2⟩)) (Wd_none rfl) (by decide) (fun n16 => ?_)
  refine wm ?_
  refine wv (fun W hm => rv_extract rfl rfl) ?_
  refine wv (fun W hm => rv_extract rfl rfl) ?_
  refine wa (wa (nt' (CM_seq (sr (wm ?_)))))
  refine wv (fun W hm => rv_neqIT und_err rfl) ?_
  refine wm ?_
  refine wk ?_
  refine wk ?_
  refine wk ?_
  refine wk ?_
  refine wv (vpT rfl) ?_
  refine wm ?_
  refine wk ?_
  refine wk ?_
  refine wv (vpT rfl) ?_
  refine wm ?_
  refine wk ?_
  refine wk ?_
  refine wv (vpT rfl) ?_
  refine nt' ?_
  refine CM_condT rfl rfl ?_
  refine sr (wa (wa (nt' (CM_ret (QM_then_ret ?_)))))
  have he17 := (show impl_ParseInt_m x0 = (0, false) from cond_f g2 (rfl))
  exact QM_r2 rfl (RR_tmp rfl) (RR_tmp rfl) (fun W hm => ⟨by rw [he17]; first | done | rfl, hm.below⟩)

def impl_parseNumbers_b1 (x0 : ByteArray) (k10 : Nat) (d11 : (List Int)) : ((List Int) × Bool) ⊕ ((List Int)) :=
 cond ((impl_ParseInt_m (gt (splS x0 (sB [44])) k10)).2) (Sum.inr (d11 ++ [(impl_ParseInt_m (gt (splS x0 (sB [44])) k10)).1])) (Sum.inl ([], false))
def impl_parseNumbers_m (x0 : ByteArray) : ((List Int) × Bool) :=
 Sum.elim id (fun (s : (List Int)) => (s, true)) (rng (R := ((List Int) × Bool)) (fun k (s : (List Int)) => impl_parseNumbers_b1 x0 k s) ((splS x0 (sB [44])).length - 0) 0 [])
theorem cb41 : Cb Tryd.prog 41 := ⟨f41, _, func41, rfl, by decide⟩
theorem impl_parseNumbers_c (w : World) (x0 : ByteArray) (hs_0 : x0.size ≤ 1048576) (hT : TabOK w.heap.size w) :
  Calls Tryd.prog 41 #[.string x0] w fun e w' => ∃ v : Value, e = .returned (.tuple #[v, .bool ((impl_parseNumbers_m x0).2)]) ∧ Mem w.heap.size w [iOwn (tSl tInt 3) [v] (impl_parseNumbers_m x0).1] w' := by
 refine ce1 (L := [(0, .string x0)]) (N := 30) func41 ?_
 refine sr (wa (wa (nt' (sr ?_))))
 refine WM_build0 (E := tInt) underlying22 type3 (Wd_none rfl) (by decide) (fun p1 => ?_)
 refine wa (nt' (CM_seq (sr (wm ?_))))
 have hz3 : ByteArray.size (sB [44]) = 1 := rfl
 refine WM_callW (χ := Value) (val := fun x => x) (js := fun x => (iOwn (tSl tStr 9) [x] (splS x0 (sB [44])) :: [iOwn (tSl tInt 3) [.slice (some ⟨p1, 0, none⟩) 0 0] []])) (cl_fn ⟨f15, _, func15, rfl, by decide⟩ rfl) (fun W hm => split_c W x0 (sB [44]) (by omega) (by omega) (hT.mem hm) hm) (Wd_none rfl) (by decide) (fun v4 => ?_)
 refine WM_form (n := 0) rfl ?_
 rintro A5 c6 rfl m7
 have hl9 := splS_le x0 (sB [44]) (by omega)
 refine wv (vlen underlying32) ?_
 refine wm (nt' (CM_block ?_))
 let F1 := fun k (s : (List Int)) => impl_parseNumbers_b1 x0 k s
 let R2 := rng (R := ((List Int) × Bool)) F1
 let I4 : It := iOwn (tSl tStr 9) [.slice A5 (splS x0 (sB [44])).length c6] (splS x0 (sB [44]))
 refine CM_loop (σ := Nat × ((List Int)) × (Option Addr × Nat)) (fun s => [(4, .slice s.2.2.1 s.2.1.length s.2.2.2), (11, .slice A5 (splS x0 (sB [44])).length c6), (12, .int .i64 (((splS x0 (sB [44])).length : Nat) : Int)), (13, .int .i64 ((s.1 : Nat) : Int))]) (fun s => [I4, iOwn (tSl tInt 3) [.slice s.2.2.1 s.2.1.length s.2.2.2] s.2.1]) (fun s => s.1 ≤ (splS x0 (sB [44])).length ∧ R2 ((splS x0 (sB [44])).length - s.1) s.1 s.2.1 = R2 ((splS x0 (sB [44])).length - 0) 0 [] ∧ s.2.1.length ≤ 0 + s.1) (fun s => (splS x0 (sB [44])).length - s.1) (0, [], ((some ⟨p1, 0, none⟩), 0)) sl4 (fun W hm => hm) ⟨(by omega), rfl, Nat.le_refl _⟩ ?_
 rintro ⟨k10, d11, ⟨A12, c13⟩⟩ H16
 obtain ⟨hk14, hF15, hi17⟩ : k10 ≤ (splS x0 (sB [44])).length ∧ R2 ((splS x0 (sB [44])).length - k10) k10 d11 = R2 ((splS x0 (sB [44])).length - 0) 0 [] ∧ d11.length ≤ 0 + k10 := H16
 show CM Tryd.prog 30 _ _ _ _ [(4, .slice A12 d11.length c13), (11, .slice A5 (splS x0 (sB [44])).length c6), (12, .int .i64 (((splS x0 (sB [44])).length : Nat) : Int)), (13, .int .i64 ((k10 : Nat) : Int))] [I4, iOwn (tSl tInt 3) [.slice A12 d11.length c13] d11]
 refine sr ?_
 refine wv vlss ?_
 refine nt' (CM_seq ?_)
 by_cases hl18 : k10 < (splS x0 (sB [44])).length
 ·have g19 := dlT hl18
  refine CM_condT rfl g19 ?_
  refine CM_skip (QM_then (CM_seq (CM_block (sr ?_))))
  refine WM_formO (n := 0) rfl (by omega) ?_
  rintro g20 rfl
  refine wv (vix 1 k10 underlying32 type9) ?_
  refine wv (fun W hm => rv_load underlying9 rfl rfl (hm.ownStr (i := 0) rfl (by omega))) ?_
  have hz21 := splS_gt x0 (sB [44]) k10
  refine wa (nt' (sr (wm ?_)))
  refine wcv (cl_fn cb26 rfl) (fun W hm => impl_ParseInt_c W (gt (splS x0 (sB [44])) k10) (by omega) (hT.mem hm)) ?_
  refine wm ?_
  refine wv (fun W hm => rv_extract rfl rfl) ?_
  refine wv (fun W hm => rv_extract rfl rfl) ?_
  refine wa (wa (nt' (CM_seq (sr (wm ?_)))))
  refine wv vnot ?_
  refine nt' ?_
  rcases Bool.eq_false_or_eq_true ((impl_ParseInt_m (gt (splS x0 (sB [44])) k10)).2) with g23 | g23
  ·
   refine CM_condF rfl (nt g23) ?_
   refine CM_skip (QM_then (CM_region (wm (wm ?_))))
   let K3 : List Value := [.int .i64 ((impl_ParseInt_m (gt (splS x0 (sB [44])) k10)).1)]
   refine WM_build (cs := K3) underlying22 type3 rfl (by decide) (by decide) rfl (by kernel_rfl) (Wd_none rfl) (by decide) (fun p24 => ?_)
   refine ap1 tInt 3 (.slice A12 d11.length c13) d11 ((impl_ParseInt_m (gt (splS x0 (sB [44])) k10)).1) [] [iOwn (tSl tStr 9) [.slice (some ⟨g20, 0, none⟩) (splS x0 (sB [44])).length c6] (splS x0 (sB [44]))] K3 (pk [0, 2, 1]) (fun _ _ hs => by cases (Sep.nil hs); exact (els_cons tInt_own els_nil)) underlying22 type3 (show (d11.length + 1) * 8 ≤ 140737488355328 from by omega) (fun v25 => ?_)
   refine WM_form (n := 0) rfl ?_
   rintro A26 c27 rfl m28
   refine wa (WM_nil (QM_block_normal (QM_then (CM_region ?_))))
   refine wv (vadN k10 1 (by omega)) ?_
   refine wm (WM_nil ?_)
   have hn30 := rng_next (R := ((List Int) × Bool)) (body := F1) (k := k10) (s := d11) (s' := (d11 ++ [(impl_ParseInt_m (gt (splS x0 (sB [44])) k10)).1])) (show k10 < (splS x0 (sB [44])).length from by omega) (cond_t g23 (rfl)) hF15
   exact QM_round (k10 + 1, (d11 ++ [(impl_ParseInt_m (gt (splS x0 (sB [44])) k10)).1]), (A26, c27)) sl4 (pk [1, 0]) ⟨(by omega), hn30, (show (d11 ++ [(impl_ParseInt_m (gt (splS x0 (sB [44])) k10)).1]).length ≤ 0 + (k10 + 1) from by first | omega | (simp only [List.length_append, List.length_cons, List.length_nil] at *; omega))⟩ (show (splS x0 (sB [44])).length - (k10 + 1) < (splS x0 (sB [44])).length - k10 from by omega)
  ·
   refine CM_condT rfl (nf g23) ?_
   refine sr (wa (wa (nt' (CM_ret (QM_then_ret (QM_block_ret (QM_then_ret (QM_then_ret (QM_block_ret (QM_then_ret ?_))))))))))
   refine QM_items (fun W hm => hm.addNil (E := tInt) (e := 3)) ?_
   have he32 := (show impl_parseNumbers_m x0 = ([], false) from fin_inl (rng_ret (body := F1) (k := k10) (s := d11) (show k10 < (splS x0 (sB [44])).length from by omega) (cond_f g23 (rfl)) hF15) rfl)
   refine QM_r2 rfl (RR_tmp rfl) (RR_tmp rfl) (fun W hm => ⟨.slice none 0 0, ?_, ?_⟩)
   ·first | rw [he32] | rfl
    try rfl
   ·rw [he32]; exact (hm.pick [0] (by decide))
 ·have g19 := dlF hl18
  refine CM_condF rfl g19 ?_
  refine CM_exit (QM_then_exit (QM_then_exit ?_))
  have hE33 : R2 ((splS x0 (sB [44])).length - 0) 0 [] = Sum.inr d11 := rng_end hl18 hF15
  refine QM_block_hit (QM_then (sr (wm (wa (wa (nt' (CM_ret ?_)))))))
  have he34 := (show impl_parseNumbers_m x0 = (d11, true) from fin_inr hE33 (rfl))
  refine QM_r2 rfl (RR_tmp rfl) (RR_tmp rfl) (fun W hm => ⟨.slice A12 d11.length c13, ?_, ?_⟩)
  ·first | rw [he34] | rfl
   try rfl
  ·rw [he34]; exact (hm.pick [1] (by decide))

def impl_within_m (x0 : Int) (x1 : Int) (x2 : Int) : Bool :=
 cond (decide (x1 ≤ x0)) (decide (x0 ≤ x2)) false
theorem cb29 : Cb Tryd.prog 29 := ⟨f29, _, func29, rfl, by decide⟩
theorem impl_within_c (w : World) (x0 : Int) (x1 : Int) (x2 : Int) :
  Calls Tryd.prog 29 #[.int .i64 x0, .int .i64 x1, .int .i64 x2] w fun e w' => e = .returned (.bool (impl_within_m x0 x1 x2)) ∧ Below w.heap.size w w' := by
 refine ce3 (L := [(0, .int .i64 x0), (1, .int .i64 x1), (2, .int .i64 x2)]) (N := 15) func29 ?_
 refine sr (wa (nt' (sr (wm (wm ?_)))))
 refine wv (fun W hm => rv_geq rfl rfl) ?_
 refine wm ?_
 by_cases h1 : x1 ≤ x0
 ·have g2 := decide_eq_true h1
  refine wg vmv g2 ?_
  refine wg vmv g2 ?_
  refine wg (fun W hm => rv_leq rfl rfl) g2 ?_
  refine wv (vpT g2) ?_
  refine wa (nt' (CM_ret ?_))
  exact rtb (h := cond_t g2 (rfl))
 ·have g2 := decide_eq_false h1
  refine ws g2 ?_
  refine ws g2 ?_
  refine ws g2 ?_
  refine wv (vpF g2) ?_
  refine wa (nt' (CM_ret ?_))
  exact rtb (h := cond_f g2 (rfl))

theorem impl_within_fact {x a b : Int} (h : impl_within_m x a b = true) : a ≤ x ∧ x ≤ b := by
  unfold impl_within_m at h
  by_cases h1 : a ≤ x
  · rw [decide_eq_true h1] at h
    exact ⟨h1, of_decide_eq_true h⟩
  · rw [decide_eq_false h1] at h
    cases h
theorem impl_within_iff (x a b : Int) : impl_within_m x a b = decide (a ≤ x ∧ x ≤ b) := by
  unfold impl_within_m
  by_cases h1 : a ≤ x
  · by_cases h2 : x ≤ b
    · simp [h1, h2]
    · simp [h1, h2]
  · simp [h1]

def impl_IsRow_b1 (x0 : DRow) (k9 : Nat) : Bool ⊕ (Unit) :=
 cond (impl_within_m (gt x0.Values k9) 0 99) (Sum.inr ()) (Sum.inl false)
def impl_IsRow_m (x0 : DRow) : Bool :=
 Sum.elim id (fun (s : Unit) => cond (impl_within_m x0.Id 0 999) (((x0.Values.length : Nat) : Int) == 3) false) (rng (R := Bool) (fun k (_ : Unit) => impl_IsRow_b1 x0 k) (x0.Values.length - 0) 0 ())
theorem cb30 : Cb Tryd.prog 30 := ⟨f30, _, func30, rfl, by decide⟩
theorem impl_IsRow_c (w : World) (z0 : List Value) (x0 : DRow) (r_0 : tyRow.rd w w.heap.size z0 x0) :
  Calls Tryd.prog 30 #[.agg z0.toArray] w fun e w' => e = .returned (.bool (impl_IsRow_m x0)) ∧ Below w.heap.size w w' := by
 obtain ⟨v1, rfl, r2⟩ := tyRow_rd r_0
 obtain ⟨m3, A4, c5, rfl, q6, r7⟩ := rdS_op r2
 refine ce1 (L := [(0, .agg #[.int .i64 x0.Id, .slice A4 x0.Values.length c5])]) (N := 25) func30 ?_
 refine sr ?_
 refine WM_box rfl (Wd_none rfl) (by decide) (fun p8 => ?_)
 refine wa (nt' (CM_seq (sr ?_)))
 refine wv (vf underlying24 rfl type22) ?_
 refine wv (vl 0 1 underlying22) ?_
 refine wv (vlen underlying22) ?_
 refine wm (nt' (CM_block ?_))
 let F1 := fun k (_ : Unit) => impl_IsRow_b1 x0 k
 let R2 := rng (R := Bool) F1
 let I3 : It := iBox p8 24 [.int .i64 x0.Id, .slice A4 x0.Values.length c5]
 refine CM_loop (σ := Nat × (Unit) × (Unit)) (fun s => [(1, .pointer (some (⟨p8, 0, none⟩ : Addr))), (6, .slice A4 x0.Values.length c5), (7, .int .i64 ((x0.Values.length : Nat) : Int)), (8, .int .i64 ((s.1 : Nat) : Int))]) (fun s => [I3]) (fun s => s.1 ≤ x0.Values.length ∧ R2 (x0.Values.length - s.1) s.1 s.2.1 = R2 (x0.Values.length - 0) 0 ()) (fun s => x0.Values.length - s.1) (0, (), ()) sl4 (fun W hm => hm) ⟨(by omega), rfl⟩ ?_
 rintro ⟨k9, ⟨⟩, ⟨⟩⟩ H12
 obtain ⟨hk10, hF11⟩ : k9 ≤ x0.Values.length ∧ R2 (x0.Values.length - k9) k9 () = R2 (x0.Values.length - 0) 0 () := H12
 show CM Tryd.prog 25 _ _ _ _ [(1, .pointer (some (⟨p8, 0, none⟩ : Addr))), (6, .slice A4 x0.Values.length c5), (7, .int .i64 ((x0.Values.length : Nat) : Int)), (8, .int .i64 ((k9 : Nat) : Int))] [I3]
 refine sr ?_
 refine wv vlss ?_
 refine nt' (CM_seq ?_)
 by_cases hl13 : k9 < x0.Values.length
 ·have g14 := dlT hl13
  refine CM_condT rfl g14 ?_
  refine CM_skip (QM_then (CM_seq (CM_block (sr ?_))))
  obtain ⟨a15, rfl, hb16, he17⟩ := q6 (by omega)
  refine wv (vix 1 k9 underlying22 type3) ?_
  refine wv (fun W hm => rv_load underlying3 rfl rfl ((hm.cell0 (show (a15.add (k9 * 1)).block < w.heap.size from by rw [add_block]; exact hb16.1)).trans (rdS_int he17 k9 (by omega)))) ?_
  refine wa (nt' (sr (wm ?_)))
  refine wcv (cl_fn cb29 rfl) (fun W hm => impl_within_c W (gt x0.Values k9) 0 99) ?_
  refine wv vnot ?_
  refine nt' ?_
  rcases Bool.eq_false_or_eq_true (impl_within_m (gt x0.Values k9) 0 99) with g19 | g19
  ·
   have hw := impl_within_fact g19
   refine CM_condF rfl (nt g19) ?_
   refine CM_skip (QM_block_normal (QM_then (CM_region ?_)))
   refine wv (vadN k9 1 (by omega)) ?_
   refine wm (WM_nil ?_)
   have hn20 := rng_next (R := Bool) (body := F1) (k := k9) (s := ()) (s' := ()) (show k9 < x0.Values.length from by omega) (cond_t g19 (rfl)) hF11
   exact QM_round (k9 + 1, (), ()) sl4 (fun W hm => hm) ⟨(by omega), hn20⟩ (rl (by omega))
  ·
   refine CM_condT rfl (nf g19) ?_
   refine sr (wa (nt' (CM_ret (QM_block_ret (QM_then_ret (QM_then_ret (QM_block_ret (QM_then_ret ?_))))))))
   exact rtb (h := fin_inl (rng_ret (body := F1) (k := k9) (s := ()) (show k9 < x0.Values.length from by omega) (cond_f g19 (rfl)) hF11) rfl)
 ·have g14 := dlF hl13
  refine CM_condF rfl g14 ?_
  refine CM_exit (QM_then_exit (QM_then_exit ?_))
  have hE21 : R2 (x0.Values.length - 0) 0 () = Sum.inr () := rng_end hl13 hF11
  refine QM_block_hit (QM_then (sr ?_))
  refine wv (vf underlying24 rfl type3) ?_
  refine wv (vl 0 0 underlying3) ?_
  refine wcv (cl_fn cb29 rfl) (fun W hm => impl_within_c W x0.Id 0 999) ?_
  refine wm ?_
  rcases Bool.eq_false_or_eq_true (impl_within_m x0.Id 0 999) with g23 | g23
  ·
   have hw := impl_within_fact g23
   refine wg (vf underlying24 rfl type22) g23 ?_
   refine wg (vl 0 1 underlying22) g23 ?_
   refine wg (vlen underlying22) g23 ?_
   refine wg (fun W hm => rv_eql rfl rfl) g23 ?_
   refine wv (vpT g23) ?_
   refine wa (nt' (CM_ret ?_))
   exact rtb (h := fin_inr hE21 (cond_t g23 (rfl)))
  ·
   refine ws g23 ?_
   refine ws g23 ?_
   refine ws g23 ?_
   refine ws g23 ?_
   refine wv (vpF g23) ?_
   refine wa (nt' (CM_ret ?_))
   exact rtb (h := fin_inr hE21 (cond_f g23 (rfl)))

def impl_numbersText_b1 (x0 : (List Int)) (k8 : Nat) (d9 : (List ByteArray)) : ByteArray ⊕ ((List ByteArray)) :=
 Sum.inr (d9 ++ [(impl_FormatInt_m (gt x0 k8))])
def impl_numbersText_m (x0 : (List Int)) : ByteArray :=
 Sum.elim id (fun (s : (List ByteArray)) => (joinB s (sB [44]))) (rng (R := ByteArray) (fun k (s : (List ByteArray)) => impl_numbersText_b1 x0 k s) (x0.length - 0) 0 [])
theorem cb47 : Cb Tryd.prog 47 := ⟨f47, _, func47, rfl, by decide⟩
theorem impl_numbersText_c (w : World) (z0 : Value) (x0 : (List Int)) (r_0 : rdS tInt w w.heap.size z0 x0) (hv : x0.length = 3 ∧ ∀ k, k < 3 → 0 ≤ gt x0 k ∧ gt x0 k ≤ 99) (hT : TabOK w.heap.size w) :
  Calls Tryd.prog 47 #[z0] w fun e w' => e = .returned (.string (impl_numbersText_m x0)) ∧ Below w.heap.size w w' := by
 obtain ⟨m1, A2, c3, rfl, q4, r5⟩ := rdS_op r_0
 refine ce1 (L := [(0, .slice A2 x0.length c3)]) (N := 21) func47 ?_
 refine sr (wa (nt' (sr ?_)))
 refine WM_build0 (E := tStr) underlying32 type9 (Wd_none rfl) (by decide) (fun p6 => ?_)
 refine wa (nt' (CM_seq (sr (wm ?_))))
 refine wv (vlen underlying22) ?_
 refine wm (nt' (CM_block ?_))
 let F1 := fun k (s : (List ByteArray)) => impl_numbersText_b1 x0 k s
 let R2 := rng (R := ByteArray) F1
 refine CM_loop (σ := Nat × ((List ByteArray)) × (Option Addr × Nat)) (fun s => [(3, .slice s.2.2.1 s.2.1.length s.2.2.2), (7, .slice A2 x0.length c3), (8, .int .i64 ((x0.length : Nat) : Int)), (9, .int .i64 ((s.1 : Nat) : Int))]) (fun s => [iOwn (tSl tStr 9) [.slice s.2.2.1 s.2.1.length s.2.2.2] s.2.1]) (fun s => s.1 ≤ x0.length ∧ R2 (x0.length - s.1) s.1 s.2.1 = R2 (x0.length - 0) 0 [] ∧ s.2.1.length ≤ 0 + s.1 ∧ s.2.1.length = s.1 ∧ ∀ z ∈ s.2.1, z.size ≤ 1000) (fun s => x0.length - s.1) (0, [], ((some ⟨p6, 0, none⟩), 0)) sl4 (fun W hm => hm) ⟨(by omega), rfl, Nat.le_refl _, rfl, (by intro z hz; cases hz)⟩ ?_
 rintro ⟨k8, d9, ⟨A10, c11⟩⟩ H14
 obtain ⟨hk12, hF13, hi15, hi16, hi17⟩ : k8 ≤ x0.length ∧ R2 (x0.length - k8) k8 d9 = R2 (x0.length - 0) 0 [] ∧ d9.length ≤ 0 + k8 ∧ d9.length = k8 ∧ ∀ z ∈ d9, z.size ≤ 1000 := H14
 show CM Tryd.prog 21 _ _ _ _ [(3, .slice A10 d9.length c11), (7, .slice A2 x0.length c3), (8, .int .i64 ((x0.length : Nat) : Int)), (9, .int .i64 ((k8 : Nat) : Int))] [iOwn (tSl tStr 9) [.slice A10 d9.length c11] d9]
 refine sr ?_
 refine wv vlss ?_
 refine nt' (CM_seq ?_)
 by_cases hl18 : k8 < x0.length
 ·have g19 := dlT hl18
  have hvk := hv.2 k8 (by omega)
  refine CM_condT rfl g19 ?_
  refine CM_skip (QM_then (CM_seq (CM_block (sr ?_))))
  obtain ⟨a20, rfl, hb21, he22⟩ := q4 (by omega)
  refine wv (vix 1 k8 underlying22 type3) ?_
  refine wv (fun W hm => rv_load underlying3 rfl rfl ((hm.cell0 (show (a20.add (k8 * 1)).block < w.heap.size from by rw [add_block]; exact hb21.1)).trans (rdS_int he22 k8 (by omega)))) ?_
  refine wa (nt' (CM_region (wm (wm ?_))))
  refine wcv (cl_fn cb33 rfl) (fun W hm => impl_FormatInt_c W (gt x0 k8) (⟨by omega, by omega⟩) (hT.mem hm)) ?_
  have hz23 := impl_FormatInt_sz (gt x0 k8) (by omega)
  refine WM_build (cs := [.string (impl_FormatInt_m (gt x0 k8))]) underlying32 type9 rfl (by decide) (by decide) rfl (by kernel_rfl) (Wd_none rfl) (by decide) (fun p24 => ?_)
  refine ap1 tStr 9 (.slice A10 d9.length c11) d9 (impl_FormatInt_m (gt x0 k8)) [] [] [.string (impl_FormatInt_m (gt x0 k8))] (fun W hm => hm) (fun _ _ hs => by cases (Sep.nil hs); exact (els_cons (tStr_own (by omega)) els_nil)) underlying32 type9 (show (d9.length + 1) * 16 ≤ 140737488355328 from by omega) (fun v25 => ?_)
  refine WM_form (n := 0) rfl ?_
  rintro A26 c27 rfl m28
  refine wa (WM_nil (QM_block_normal (QM_then (CM_region ?_))))
  refine wv (vadN k8 1 (by omega)) ?_
  refine wm (WM_nil ?_)
  have hn30 := rng_next (R := ByteArray) (body := F1) (k := k8) (s := d9) (s' := (d9 ++ [(impl_FormatInt_m (gt x0 k8))])) (show k8 < x0.length from by omega) (rfl) hF13
  exact QM_round (k8 + 1, (d9 ++ [(impl_FormatInt_m (gt x0 k8))]), (A26, c27)) sl4 (fun W hm => hm) ⟨(by omega), hn30, (show (d9 ++ [(impl_FormatInt_m (gt x0 k8))]).length ≤ 0 + (k8 + 1) from by first | omega | (simp only [List.length_append, List.length_cons, List.length_nil] at *; omega)), (show (d9 ++ [(impl_FormatInt_m (gt x0 k8))]).length = (k8 + 1) from by rw [List.length_append]; show _ + 1 = _; omega), (show ∀ z ∈ (d9 ++ [(impl_FormatInt_m (gt x0 k8))]), z.size ≤ 1000 from by intro z hz; rcases List.mem_append.1 hz with hz | hz; exact hi17 z hz; rw [List.mem_singleton.1 hz]; exact Nat.le_trans (impl_FormatInt_sz _ (by omega)) (by decide))⟩ (rl (by omega))
 ·have g19 := dlF hl18
  refine CM_condF rfl g19 ?_
  refine CM_exit (QM_then_exit (QM_then_exit ?_))
  have hE31 : R2 (x0.length - 0) 0 [] = Sum.inr d9 := rng_end hl18 hF13
  refine QM_block_hit (QM_then (sr (wm ?_)))
  refine WM_formO (n := 0) rfl (by omega) ?_
  rintro g32 rfl
  have hz34 : ByteArray.size (sB [44]) = 1 := rfl
  refine wcv (cl_fn ⟨f57, _, func57, rfl, by decide⟩ rfl) (fun W hm => join_c W g32 _ d9 (sB [44]) (hm.rdSI (n := 0) rfl) (show 1 ≤ List.length d9 ∧ List.length d9 ≤ 1000 from by omega) (by assumption) (by omega)) ?_
  have hz35 := joinB_sz (show 1 ≤ List.length d9 ∧ List.length d9 ≤ 1000 from by omega).2 (by assumption) (show ByteArray.size (sB [44]) ≤ 1000 by omega)
  refine wa (nt' (CM_ret ?_))
  exact QM_ret1 rfl rfl (fun W hm => ⟨ret_s (show impl_numbersText_m x0 = (joinB d9 (sB [44])) from fin_inr hE31 (rfl)), hm.below⟩)

theorem IsRow_same (x : DRow) : impl_IsRow_m x = spec_IsRow_m x := rfl
theorem impl_Row_rng {x : DRow} (h : impl_IsRow_m x = true) : (0 ≤ x.Id ∧ x.Id ≤ 999) ∧ x.Values.length = 3 ∧ ∀ k, k < 3 → 0 ≤ gt x.Values k ∧ gt x.Values k ≤ 99 := spec_Row_rng ((IsRow_same x).symm.trans h)
theorem impl_numbersText_fold (x : List Int) : impl_numbersText_m x = joinB (x.map impl_FormatInt_m) (sB [44]) := by
  unfold impl_numbersText_m
  rw [rng_fold (xs := x) (f := fun d n => d ++ [impl_FormatInt_m n]) (b := fun k s => impl_numbersText_b1 x k s) (fun j s _ => rfl)]
  show joinB (List.foldl _ [] x) _ = _
  have h := foldl_filterMap (fun _ => true) impl_FormatInt_m x []
  have e : List.foldl (fun d n => d ++ [impl_FormatInt_m n]) [] x = x.map impl_FormatInt_m := by
    have h2 : List.filter (fun _ : Int => true) x = x := List.filter_eq_self.2 fun _ _ => rfl
    rw [h2] at h
    exact h
  rw [e]
theorem impl_numbersText_sz (x : List Int) (hv : x.length = 3 ∧ ∀ k, k < 3 → 0 ≤ gt x k ∧ gt x k ≤ 99) : (impl_numbersText_m x).size ≤ 2000000 := by
  rw [impl_numbersText_fold]
  refine joinB_sz (by rw [List.length_map]; omega) (fun z hz => ?_) (by decide)
  obtain ⟨n, hn, rfl⟩ := List.mem_map.1 hz
  obtain ⟨i, hi, rfl⟩ := List.mem_iff_getElem.1 hn
  have := hv.2 i (by omega)
  rw [gt_at hi] at this
  have h2 := impl_FormatInt_sz x[i] (by omega)
  omega
def impl_FormatRow_m (x0 : DRow) : ByteArray :=
 cond (impl_IsRow_m x0) (((impl_FormatInt_m x0.Id) ++ (sB [58])) ++ (impl_numbersText_m x0.Values)) (sB [])
theorem cb32 : Cb Tryd.prog 32 := ⟨f32, _, func32, rfl, by decide⟩
theorem impl_FormatRow_c (w : World) (z0 : List Value) (x0 : DRow) (r_0 : tyRow.rd w w.heap.size z0 x0) (hT : TabOK w.heap.size w) :
  Calls Tryd.prog 32 #[.agg z0.toArray] w fun e w' => e = .returned (.string (impl_FormatRow_m x0)) ∧ Below w.heap.size w w' := by
 obtain ⟨v1, rfl, r2⟩ := tyRow_rd r_0
 obtain ⟨m3, A4, c5, rfl, q6, r7⟩ := rdS_op r2
 refine ce1 (L := [(0, .agg #[.int .i64 x0.Id, .slice A4 x0.Values.length c5])]) (N := 14) func32 ?_
 refine sr ?_
 refine WM_box rfl (Wd_none rfl) (by decide) (fun p8 => ?_)
 refine wa (nt' (CM_seq (sr ?_)))
 refine wv (fun W hm => rv_loadN (cs := [.int .i64 x0.Id, .slice A4 x0.Values.length c5]) underlying24 type24 rfl rfl (hm.boxCells (n := 0) rfl)) ?_
 refine wcv (cl_fn cb30 rfl) (fun W hm => impl_IsRow_c W _ x0 (tyRow_mk (x := x0) (hm.rdS0 r7))) ?_
 refine wv vnot ?_
 refine nt' ?_
 rcases Bool.eq_false_or_eq_true (impl_IsRow_m x0) with g10 | g10
 ·
  have hrw := impl_Row_rng g10
  refine CM_condF rfl (nt g10) ?_
  refine CM_skip (QM_then (CM_seq ?_))
  refine CM_regionD (by kernel_rfl) (by kernel_rfl) ?_
  refine qv (vf underlying24 rfl type3) ?_
  refine qv (vl 0 0 underlying3) ?_
  refine QR_callV (cl_fn cb33 rfl) (fun W hm => impl_FormatInt_c W x0.Id (⟨by omega, by omega⟩) (hT.mem hm)) (Wd_none rfl) (by decide) ?_
  have hz11 := impl_FormatInt_sz x0.Id (by omega)
  have hz12 : ByteArray.size (sB [58]) = 1 := rfl
  refine qv (fun W hm => rv_addS (p := (impl_FormatInt_m x0.Id)) (q := (sB [58])) rfl rfl (by omega)) ?_
  have hz13 := sz_app (impl_FormatInt_m x0.Id) (sB [58])
  refine qv (vf underlying24 rfl type22) ?_
  refine qv (vl 0 1 underlying22) ?_
  refine QR_callV (cl_fn cb47 rfl) (fun W hm => impl_numbersText_c W _ x0.Values (hm.rdS0 r7) (hrw.2) (hT.mem hm)) (Wd_none rfl) (by decide) ?_
  have hzn := impl_numbersText_sz x0.Values hrw.2
  refine qv (fun W hm => rv_addS (p := ((impl_FormatInt_m x0.Id) ++ (sB [58]))) (q := (impl_numbersText_m x0.Values)) rfl rfl (by omega)) ?_
  have hz14 := sz_app ((impl_FormatInt_m x0.Id) ++ (sB [58])) (impl_numbersText_m x0.Values)
  refine qv (fun W hm => rv_assign rfl) ?_
  refine nq' (CM_ret ?_)
  exact QM_ret1 rfl rfl (fun W hm => ⟨ret_s (show impl_FormatRow_m x0 = (((impl_FormatInt_m x0.Id) ++ (sB [58])) ++ (impl_numbersText_m x0.Values)) from cond_t g10 (rfl)), hm.below⟩)
 ·
  refine CM_condT rfl (nf g10) ?_
  refine sr (wa (nt' (CM_ret (QM_then_ret ?_))))
  exact QM_ret1 rfl rfl (fun W hm => ⟨ret_s (show impl_FormatRow_m x0 = (sB []) from cond_f g10 (rfl)), hm.below⟩)
theorem impl_FormatRow_sz (x : DRow) : (impl_FormatRow_m x).size ≤ 3000000 := by
  unfold impl_FormatRow_m
  cases h : impl_IsRow_m x with
  | false => exact Nat.zero_le _
  | true =>
    have hr := impl_Row_rng h
    have h1 := impl_FormatInt_sz x.Id (by omega)
    have h2 := impl_numbersText_sz x.Values hr.2
    have h58 : ByteArray.size (sB [58]) = 1 := rfl
    rw [cond_true, sz_app, sz_app]
    omega

def impl_ParseRow_m (x0 : ByteArray) : (DRow × Bool) :=
 cond ((impl_ParseInt_m (cutA x0 (sB [58]))).2) (cond ((impl_parseNumbers_m (cutZ x0 (sB [58]))).2) (cond (impl_IsRow_m (⟨(impl_ParseInt_m (cutA x0 (sB [58]))).1, (impl_parseNumbers_m (cutZ x0 (sB [58]))).1⟩ : DRow)) (cond (eqS (impl_FormatRow_m (⟨(impl_ParseInt_m (cutA x0 (sB [58]))).1, (impl_parseNumbers_m (cutZ x0 (sB [58]))).1⟩ : DRow)) x0) ((⟨(impl_ParseInt_m (cutA x0 (sB [58]))).1, (impl_parseNumbers_m (cutZ x0 (sB [58]))).1⟩ : DRow), true) ((⟨0, []⟩ : DRow), false)) ((⟨0, []⟩ : DRow), false)) ((⟨0, []⟩ : DRow), false)) ((⟨0, []⟩ : DRow), false)
theorem cb25 : Cb Tryd.prog 25 := ⟨f25, _, func25, rfl, by decide⟩
theorem impl_ParseRow_c (w : World) (x0 : ByteArray) (hs_0 : x0.size ≤ 1048576) (hT : TabOK w.heap.size w) :
  Calls Tryd.prog 25 #[.string x0] w fun e w' => ∃ v : List Value, e = .returned (.tuple #[.agg v.toArray, .bool ((impl_ParseRow_m x0).2)]) ∧ Mem w.heap.size w [iOwn tyRow v (impl_ParseRow_m x0).1] w' := by
 refine ce1 (L := [(0, .string x0)]) (N := 50) func25 ?_
 refine sr ?_
 refine WM_alloc type24 rfl (Wd_none rfl) (by decide) (fun p1 => ?_)
 refine wa (nt' (sr (wm ?_)))
 have hz2 : ByteArray.size (sB [58]) = 1 := rfl
 refine wcv (cl_fn ⟨f40, _, func40, rfl, by decide⟩ rfl) (fun W hm => cut_c W x0 (sB [58]) (by omega) (hT.mem hm)) ?_
 have hz3 := cut_sz x0 (sB [58])
 refine wm ?_
 refine wv (fun W hm => rv_extract rfl rfl) ?_
 refine wv (fun W hm => rv_extract rfl rfl) ?_
 refine wv (fun W hm => rv_extract rfl rfl) ?_
 refine wa (wa (wa (nt' (sr (wm ?_)))))
 refine wcv (cl_fn cb26 rfl) (fun W hm => impl_ParseInt_c W (cutA x0 (sB [58])) (by omega) (hT.mem hm)) ?_
 refine wm ?_
 refine wv (fun W hm => rv_extract rfl rfl) ?_
 refine wv (fun W hm => rv_extract rfl rfl) ?_
 refine wa (wa (nt' (sr (wm ?_))))
 refine WM_call (χ := Value) (val := fun x => .tuple #[x, .bool ((impl_parseNumbers_m (cutZ x0 (sB [58]))).2)]) (js := fun x => [iOwn (tSl tInt 3) [x] ((impl_parseNumbers_m (cutZ x0 (sB [58]))).1)]) (cl_fn cb41 rfl) (fun W hm => impl_parseNumbers_c W (cutZ x0 (sB [58])) (by omega) (hT.mem hm)) (Wd_none rfl) (by decide) (fun z4 => ?_)
 refine WM_form (n := 0) rfl ?_
 rintro A5 c6 rfl m7
 refine wm ?_
 refine wv (fun W hm => rv_extract rfl rfl) ?_
 refine wv (fun W hm => rv_extract rfl rfl) ?_
 refine wa (wa (nt' (sr (wm (wm ?_)))))
 let K1 : List Value := [.int .i64 ((impl_ParseInt_m (cutA x0 (sB [58]))).1), .slice A5 ((impl_parseNumbers_m (cutZ x0 (sB [58]))).1).length c6]
 refine wv (fun W hm => rv_build (cs := K1) rfl (by kernel_rfl)) ?_
 refine WM_alloc type24 rfl (Wd_none rfl) (by decide) (fun p9 => ?_)
 let K2 : List Value := [.slice A5 ((impl_parseNumbers_m (cutZ x0 (sB [58]))).1).length c6]
 let I3 : It := iOwn (tSl tInt 3) K2 ((impl_parseNumbers_m (cutZ x0 (sB [58]))).1)
 refine sb 0 K1 [I3, iBox p1 24 [.int .i64 0, .slice none 0 0]] (fun W hm => hm) type24 ?_
 refine nt' (CM_seq (sr (wm ?_)))
 refine wv vnot ?_
 refine wm ?_
 rcases Bool.eq_false_or_eq_true ((impl_ParseInt_m (cutA x0 (sB [58]))).2) with g11 | g11
 ·
  refine wg vmv (nt g11) ?_
  refine wg vnot (nt g11) ?_
  refine wv (vpF (nt g11)) ?_
  refine wm ?_
  rcases Bool.eq_false_or_eq_true ((impl_parseNumbers_m (cutZ x0 (sB [58]))).2) with g13 | g13
  ·
   refine wg (fun W hm => rv_loadN (cs := K1) underlying24 type24 rfl rfl (hm.boxCells (n := 0) rfl)) (nt g13) ?_
   refine WM_callV (cl_fn cb30 rfl) (fun W hm => impl_IsRow_c W _ (⟨(impl_ParseInt_m (cutA x0 (sB [58]))).1, (impl_parseNumbers_m (cutZ x0 (sB [58]))).1⟩ : DRow) (tyRow_mk (x := (⟨(impl_ParseInt_m (cutA x0 (sB [58]))).1, (impl_parseNumbers_m (cutZ x0 (sB [58]))).1⟩ : DRow)) (hm.rdSI (n := 1) rfl))) (Wd_some rfl rfl rfl (bw (nt g13) rfl)) (by decide) ?_
   refine wg vnot (nt g13) ?_
   refine wv (vpF (nt g13)) ?_
   refine wm ?_
   rcases Bool.eq_false_or_eq_true (impl_IsRow_m (⟨(impl_ParseInt_m (cutA x0 (sB [58]))).1, (impl_parseNumbers_m (cutZ x0 (sB [58]))).1⟩ : DRow)) with g15 | g15
   ·
    refine wg (fun W hm => rv_loadN (cs := K1) underlying24 type24 rfl rfl (hm.boxCells (n := 0) rfl)) (nt g15) ?_
    refine WM_callV (cl_fn cb32 rfl) (fun W hm => impl_FormatRow_c W _ (⟨(impl_ParseInt_m (cutA x0 (sB [58]))).1, (impl_parseNumbers_m (cutZ x0 (sB [58]))).1⟩ : DRow) (tyRow_mk (x := (⟨(impl_ParseInt_m (cutA x0 (sB [58]))).1, (impl_parseNumbers_m (cutZ x0 (sB [58]))).1⟩ : DRow)) (hm.rdSI (n := 1) rfl)) (hT.mem hm)) (Wd_some rfl rfl rfl (bw (nt g15) rfl)) (by decide) ?_
    refine wg vmv (nt g15) ?_
    refine wg (fun W hm => rv_neqS (p := (impl_FormatRow_m (⟨(impl_ParseInt_m (cutA x0 (sB [58]))).1, (impl_parseNumbers_m (cutZ x0 (sB [58]))).1⟩ : DRow))) (q := x0) underlying9 rfl rfl) (nt g15) ?_
    refine wv (vpF (nt g15)) ?_
    refine nt' ?_
    rcases Bool.eq_false_or_eq_true (eqS (impl_FormatRow_m (⟨(impl_ParseInt_m (cutA x0 (sB [58]))).1, (impl_parseNumbers_m (cutZ x0 (sB [58]))).1⟩ : DRow)) x0) with g17 | g17
    ·
     refine CM_condF rfl (nt g17) ?_
     refine CM_skip (QM_then (sr ?_))
     refine wv (fun W hm => rv_loadN (cs := K1) underlying24 type24 rfl rfl (hm.boxCells (n := 0) rfl)) ?_
     refine sb 0 K1 [iBox p9 24 K1, I3] (pk [2, 0, 1]) type24 ?_
     refine wa (nt' (CM_ret ?_))
     have he18 := (show impl_ParseRow_m x0 = ((⟨(impl_ParseInt_m (cutA x0 (sB [58]))).1, (impl_parseNumbers_m (cutZ x0 (sB [58]))).1⟩ : DRow), true) from cond_t g11 (cond_t g13 (cond_t g15 (cond_t g17 (rfl)))))
     refine QM_r2 rfl (RR_cell (n := 0) rfl rfl underlying24 type24 rfl) (RR_tmp rfl) (fun W hm => ⟨K1, ?_, ?_⟩)
     ·first | rw [he18] | rfl
      try rfl
     ·rw [he18]; exact Mem.join (is := [I3]) (js := []) (fun _ _ hs => tyRow_join (x := (⟨(impl_ParseInt_m (cutA x0 (sB [58]))).1, (impl_parseNumbers_m (cutZ x0 (sB [58]))).1⟩ : DRow)) hs) (hm.pick [2] (by decide))
    ·
     refine CM_condT rfl (nf g17) ?_
     refine sr ?_
     refine wv (fun W hm => rv_build (cs := [.int .i64 0, .slice none 0 0]) rfl (by kernel_rfl)) ?_
     refine sb 0 [.int .i64 0, .slice none 0 0] [iBox p9 24 K1, I3] (pk [2, 0, 1]) type24 ?_
     refine wa (nt' (CM_ret (QM_then_ret ?_)))
     refine QM_items (fun W hm => hm.addNil (E := tInt) (e := 3)) ?_
     have he20 := (show impl_ParseRow_m x0 = ((⟨0, []⟩ : DRow), false) from cond_t g11 (cond_t g13 (cond_t g15 (cond_f g17 (rfl)))))
     refine QM_r2 rfl (RR_cell (n := 1) rfl rfl underlying24 type24 rfl) (RR_tmp rfl) (fun W hm => ⟨[.int .i64 0, .slice none 0 0], ?_, ?_⟩)
     ·first | rw [he20] | rfl
      try rfl
     ·rw [he20]; exact Mem.join (is := [iOwn (tSl tInt 3) [.slice none 0 0] []]) (js := []) (fun _ _ hs => tyRow_join (x := (⟨0, []⟩ : DRow)) hs) (hm.pick [0] (by decide))
   ·
    refine ws (nf g15) ?_
    refine ws (nf g15) ?_
    refine ws (nf g15) ?_
    refine ws (nf g15) ?_
    refine wv (vpT (nf g15)) ?_
    refine nt' ?_
    refine CM_condT rfl rfl ?_
    refine sr ?_
    refine wv (fun W hm => rv_build (cs := [.int .i64 0, .slice none 0 0]) rfl (by kernel_rfl)) ?_
    refine sb 0 [.int .i64 0, .slice none 0 0] [iBox p9 24 K1, I3] (pk [2, 0, 1]) type24 ?_
    refine wa (nt' (CM_ret (QM_then_ret ?_)))
    refine QM_items (fun W hm => hm.addNil (E := tInt) (e := 3)) ?_
    have he22 := (show impl_ParseRow_m x0 = ((⟨0, []⟩ : DRow), false) from cond_t g11 (cond_t g13 (cond_f g15 (rfl))))
    refine QM_r2 rfl (RR_cell (n := 1) rfl rfl underlying24 type24 rfl) (RR_tmp rfl) (fun W hm => ⟨[.int .i64 0, .slice none 0 0], ?_, ?_⟩)
    ·first | rw [he22] | rfl
     try rfl
    ·rw [he22]; exact Mem.join (is := [iOwn (tSl tInt 3) [.slice none 0 0] []]) (js := []) (fun _ _ hs => tyRow_join (x := (⟨0, []⟩ : DRow)) hs) (hm.pick [0] (by decide))
  ·
   refine ws (nf g13) ?_
   refine ws (nf g13) ?_
   refine ws (nf g13) ?_
   refine wv (vpT (nf g13)) ?_
   refine wm ?_
   refine wk ?_
   refine wk ?_
   refine wk ?_
   refine wk ?_
   refine wv (vpT rfl) ?_
   refine nt' ?_
   refine CM_condT rfl rfl ?_
   refine sr ?_
   refine wv (fun W hm => rv_build (cs := [.int .i64 0, .slice none 0 0]) rfl (by kernel_rfl)) ?_
   refine sb 0 [.int .i64 0, .slice none 0 0] [iBox p9 24 K1, I3] (pk [2, 0, 1]) type24 ?_
   refine wa (nt' (CM_ret (QM_then_ret ?_)))
   refine QM_items (fun W hm => hm.addNil (E := tInt) (e := 3)) ?_
   have he24 := (show impl_ParseRow_m x0 = ((⟨0, []⟩ : DRow), false) from cond_t g11 (cond_f g13 (rfl)))
   refine QM_r2 rfl (RR_cell (n := 1) rfl rfl underlying24 type24 rfl) (RR_tmp rfl) (fun W hm => ⟨[.int .i64 0, .slice none 0 0], ?_, ?_⟩)
   ·first | rw [he24] | rfl
    try rfl
   ·rw [he24]; exact Mem.join (is := [iOwn (tSl tInt 3) [.slice none 0 0] []]) (js := []) (fun _ _ hs => tyRow_join (x := (⟨0, []⟩ : DRow)) hs) (hm.pick [0] (by decide))
 ·
  refine ws (nf g11) ?_
  refine ws (nf g11) ?_
  refine wv (vpT (nf g11)) ?_
  refine wm ?_
  refine wk ?_
  refine wk ?_
  refine wk ?_
  refine wv (vpT rfl) ?_
  refine wm ?_
  refine wk ?_
  refine wk ?_
  refine wk ?_
  refine wk ?_
  refine wv (vpT rfl) ?_
  refine nt' ?_
  refine CM_condT rfl rfl ?_
  refine sr ?_
  refine wv (fun W hm => rv_build (cs := [.int .i64 0, .slice none 0 0]) rfl (by kernel_rfl)) ?_
  refine sb 0 [.int .i64 0, .slice none 0 0] [iBox p9 24 K1, I3] (pk [2, 0, 1]) type24 ?_
  refine wa (nt' (CM_ret (QM_then_ret ?_)))
  refine QM_items (fun W hm => hm.addNil (E := tInt) (e := 3)) ?_
  have he26 := (show impl_ParseRow_m x0 = ((⟨0, []⟩ : DRow), false) from cond_f g11 (rfl))
  refine QM_r2 rfl (RR_cell (n := 1) rfl rfl underlying24 type24 rfl) (RR_tmp rfl) (fun W hm => ⟨[.int .i64 0, .slice none 0 0], ?_, ?_⟩)
  ·first | rw [he26] | rfl
   try rfl
  ·rw [he26]; exact Mem.join (is := [iOwn (tSl tInt 3) [.slice none 0 0] []]) (js := []) (fun _ _ hs => tyRow_join (x := (⟨0, []⟩ : DRow)) hs) (hm.pick [0] (by decide))

def impl_parseAfter_m (x0 : ByteArray) (x1 : ByteArray) : (Int × Bool) :=
 cond (hasP x0 x1) ((impl_ParseInt_m (trimP x0 x1)).1, (impl_ParseInt_m (trimP x0 x1)).2) ((impl_ParseInt_m (trimP x0 x1)).1, false)
theorem cb27 : Cb Tryd.prog 27 := ⟨f27, _, func27, rfl, by decide⟩
theorem impl_parseAfter_c (w : World) (x0 : ByteArray) (x1 : ByteArray) (hs_0 : x0.size ≤ 1048576) (hs_1 : x1.size ≤ 1048576) (hT : TabOK w.heap.size w) :
  Calls Tryd.prog 27 #[.string x0, .string x1] w fun e w' => e = .returned (.tuple #[.int .i64 ((impl_parseAfter_m x0 x1).1), .bool ((impl_parseAfter_m x0 x1).2)]) ∧ Below w.heap.size w w' := by
 refine ce2 (L := [(0, .string x0), (1, .string x1)]) (N := 26) func27 ?_
 refine sr (wa (wa (nt' (sr (wm (wm ?_))))))
 refine wcv (cl_fn ⟨f43, _, func43, rfl, by decide⟩ rfl) (fun W hm => cutp_c W x0 x1) ?_
 have hz1 := trimP_sz x0 x1
 refine wm ?_
 refine wv (fun W hm => rv_extract rfl rfl) ?_
 refine wv (fun W hm => rv_extract rfl rfl) ?_
 refine wa (wa (nt' (sr (wm ?_))))
 refine wcv (cl_fn cb26 rfl) (fun W hm => impl_ParseInt_c W (trimP x0 x1) (by omega) (hT.mem hm)) ?_
 refine wm ?_
 refine wv (fun W hm => rv_extract rfl rfl) ?_
 refine wv (fun W hm => rv_extract rfl rfl) ?_
 refine wa (wa (nt' (sr (wm (wm (wm ?_))))))
 rcases Bool.eq_false_or_eq_true (hasP x0 x1) with g3 | g3
 ·
  refine wg vmv g3 ?_
  refine wv (vpT g3) ?_
  refine wa (wa (nt' (CM_ret ?_)))
  have he4 := (show impl_parseAfter_m x0 x1 = ((impl_ParseInt_m (trimP x0 x1)).1, (impl_ParseInt_m (trimP x0 x1)).2) from cond_t g3 (rfl))
  exact QM_r2 rfl (RR_tmp rfl) (RR_tmp rfl) (fun W hm => ⟨by rw [he4]; first | done | rfl, hm.below⟩)
 ·
  refine ws g3 ?_
  refine wv (vpF g3) ?_
  refine wa (wa (nt' (CM_ret ?_)))
  have he5 := (show impl_parseAfter_m x0 x1 = ((impl_ParseInt_m (trimP x0 x1)).1, false) from cond_f g3 (rfl))
  exact QM_r2 rfl (RR_tmp rfl) (RR_tmp rfl) (fun W hm => ⟨by rw [he5]; first | done | rfl, hm.below⟩)

def impl_readUpdate_m (x0 : (List ByteArray)) : DUpdate :=
 cond (eqS (gt x0 0) (sB [105, 110, 115, 101, 114, 116])) (cond (((x0.length : Nat) : Int) == 2) (⟨1, ((impl_ParseRow_m (gt x0 1)).1), 0, 0⟩ : DUpdate) (cond (eqS (gt x0 0) (sB [100, 101, 108, 101, 116, 101])) (cond (eqS (gt x0 0) (sB [115, 101, 116])) (cond (((x0.length : Nat) : Int) == 4) (⟨3, (⟨(impl_ParseInt_m (gt x0 1)).1, []⟩ : DRow), (impl_parseAfter_m (gt x0 2) (sB [102])).1, (impl_ParseInt_m (gt x0 3)).1⟩ : DUpdate) (⟨0, (⟨0, []⟩ : DRow), 0, 0⟩ : DUpdate)) (⟨0, (⟨0, []⟩ : DRow), 0, 0⟩ : DUpdate)) (cond (eqS (gt x0 0) (sB [115, 101, 116])) (cond (((x0.length : Nat) : Int) == 4) (⟨3, (⟨(impl_ParseInt_m (gt x0 1)).1, []⟩ : DRow), (impl_parseAfter_m (gt x0 2) (sB [102])).1, (impl_ParseInt_m (gt x0 3)).1⟩ : DUpdate) (⟨0, (⟨0, []⟩ : DRow), 0, 0⟩ : DUpdate)) (⟨0, (⟨0, []⟩ : DRow), 0, 0⟩ : DUpdate)))) (cond (eqS (gt x0 0) (sB [100, 101, 108, 101, 116, 101])) (cond (((x0.length : Nat) : Int) == 2) (⟨2, (⟨(impl_ParseInt_m (gt x0 1)).1, []⟩ : DRow), 0, 0⟩ : DUpdate) (cond (eqS (gt x0 0) (sB [115, 101, 116])) (cond (((x0.length : Nat) : Int) == 4) (⟨3, (⟨(impl_ParseInt_m (gt x0 1)).1, []⟩ : DRow), (impl_parseAfter_m (gt x0 2) (sB [102])).1, (impl_ParseInt_m (gt x0 3)).1⟩ : DUpdate) (⟨0, (⟨0, []⟩ : DRow), 0, 0⟩ : DUpdate)) (⟨0, (⟨0, []⟩ : DRow), 0, 0⟩ : DUpdate))) (cond (eqS (gt x0 0) (sB [115, 101, 116])) (cond (((x0.length : Nat) : Int) == 4) (⟨3, (⟨(impl_ParseInt_m (gt x0 1)).1, []⟩ : DRow), (impl_parseAfter_m (gt x0 2) (sB [102])).1, (impl_ParseInt_m (gt x0 3)).1⟩ : DUpdate) (⟨0, (⟨0, []⟩ : DRow), 0, 0⟩ : DUpdate)) (⟨0, (⟨0, []⟩ : DRow), 0, 0⟩ : DUpdate)))
theorem cb14 : Cb Tryd.prog 14 := ⟨f14, _, func14, rfl, by decide⟩
theorem impl_readUpdate_c (w : World) (z0 : Value) (x0 : (List ByteArray)) (r_0 : rdS tStr w w.heap.size z0 x0) (s_0 : x0.length ≤ 68719476736) (hl : 1 ≤ x0.length) (hw : ∀ j, (gt x0 j).size ≤ 1048576) (hT : TabOK w.heap.size w) :
  Calls Tryd.prog 14 #[z0] w fun e w' => ∃ v : List Value, e = .returned (.agg v.toArray) ∧ Mem w.heap.size w [iOwn tyUpdate v (impl_readUpdate_m x0)] w' := by
 obtain ⟨m1, A2, c3, rfl, q4, r5⟩ := rdS_op r_0
 have l6 : x0.length ≤ 68719476736 := s_0
 refine ce1 (L := [(0, .slice A2 x0.length c3)]) (N := 81) func14 ?_
 have hw0 := hw 0
 have hw1 := hw 1
 have hw2 := hw 2
 have hw3 := hw 3
 refine sr ?_
 refine WM_alloc type26 rfl (Wd_none rfl) (by decide) (fun p7 => ?_)
 refine nt' (sr ?_)
 let K1 : List Value := [.int .i64 0, .int .i64 0, .slice none 0 0, .int .i64 0, .int .i64 0]
 refine wv (fun W hm => rv_build (cs := K1) rfl (by kernel_rfl)) ?_
 refine WM_alloc type26 rfl (Wd_none rfl) (by decide) (fun p8 => ?_)
 refine sb 0 K1 [iBox p7 26 K1] (fun W hm => hm) type26 ?_
 refine nt' (CM_seq (CM_block (sr (wm ?_))))
 obtain ⟨a9, rfl, hb10, he11⟩ := q4 (by omega)
 refine wv (vix 1 0 underlying32 type9) ?_
 obtain ⟨_, e13, hc12⟩ := he11 0 _ (gt_some (show 0 < x0.length from by omega))
 obtain ⟨_, rfl, rfl, hs14⟩ := e13
 refine wv (fun W hm => rv_load underlying9 rfl rfl ((hm.cell0 (show (a9.add (0 * 1)).block < w.heap.size from by rw [add_block]; exact hb10.1)).trans (hc12 0 _ rfl))) ?_
 refine wv (fun W hm => rv_eqlS (p := (gt x0 0)) (q := (sB [105, 110, 115, 101, 114, 116])) underlying9 rfl rfl) ?_
 refine wm ?_
 rcases Bool.eq_false_or_eq_true (eqS (gt x0 0) (sB [105, 110, 115, 101, 114, 116])) with g16 | g16
 ·
  refine wg vmv g16 ?_
  refine wg (vlen underlying32) g16 ?_
  refine wg (fun W hm => rv_eql rfl rfl) g16 ?_
  refine wv (vpT g16) ?_
  refine wa (nt' ?_)
  by_cases h17 : ((x0.length : Nat) : Int) = 2
  ·have g18 := beq_iff_eq.2 h17
   refine CM_condT rfl g18 ?_
   refine sr ?_
   refine wv (vf underlying26 rfl type3) ?_
   refine sb 0 [.int .i64 1, .int .i64 0, .slice none 0 0, .int .i64 0, .int .i64 0] [iBox p7 26 K1] (fun W hm => hm) type3 ?_
   refine nt' (CM_region (wm ?_))
   refine wv (vix 1 1 underlying32 type9) ?_
   obtain ⟨_, e20, hc19⟩ := he11 1 _ (gt_some (show 1 < x0.length from by omega))
   obtain ⟨_, rfl, rfl, hs21⟩ := e20
   refine wv (fun W hm => rv_load underlying9 rfl rfl ((hm.cell0 (show (a9.add (1 * 1)).block < w.heap.size from by rw [add_block]; exact hb10.1)).trans (hc19 0 _ rfl))) ?_
   refine WM_call (χ := List Value) (val := fun x => .tuple #[.agg x.toArray, .bool ((impl_ParseRow_m (gt x0 1)).2)]) (js := fun x => [iOwn tyRow x ((impl_ParseRow_m (gt x0 1)).1)]) (cl_fn cb25 rfl) (fun W hm => impl_ParseRow_c W (gt x0 1) (by omega) (hT.mem hm)) (Wd_none rfl) (by decide) (fun z22 => ?_)
   refine tyRow_sp ?_
   rintro v23 rfl
   refine WM_form (n := 0) rfl ?_
   rintro A24 c25 rfl m26
   refine wm ?_
   refine wv (fun W hm => rv_extract rfl rfl) ?_
   refine wv (fun W hm => rv_extract rfl rfl) ?_
   refine wv (vf underlying26 rfl type24) ?_
   let K2 : List Value := [.int .i64 1, .int .i64 (((impl_ParseRow_m (gt x0 1)).1).Id), .slice A24 (((impl_ParseRow_m (gt x0 1)).1).Values).length c25, .int .i64 0, .int .i64 0]
   let K3 : List Value := [.slice A24 (((impl_ParseRow_m (gt x0 1)).1).Values).length c25]
   let I9 : It := iOwn (tSl tInt 3) K3 (((impl_ParseRow_m (gt x0 1)).1).Values)
   refine sb 1 K2 [I9, iBox p7 26 K1] (pk [1, 0, 2]) type24 ?_
   refine WM_nil (QM_block_normal (QM_then (sr ?_)))
   refine wv (fun W hm => rv_loadN (cs := K2) underlying26 type26 rfl rfl (hm.boxCells (n := 0) rfl)) ?_
   refine sb 0 K2 [iBox p8 26 K2, I9] (pk [2, 0, 1]) type26 ?_
   refine nt' (CM_ret ?_)
   have he28 := (show impl_readUpdate_m x0 = (⟨1, ((impl_ParseRow_m (gt x0 1)).1), 0, 0⟩ : DUpdate) from cond_t g16 (cond_t g18 (rfl)))
   refine QM_r1 rfl (RR_cell (n := 0) rfl rfl underlying26 type26 rfl) (fun W hm => ⟨K2, ?_, ?_⟩)
   ·first | rw [he28] | rfl
   ·rw [he28]; exact Mem.join (is := [I9]) (js := []) (fun _ _ hs => tyUpdate_join (x := (⟨1, ((impl_ParseRow_m (gt x0 1)).1), 0, 0⟩ : DUpdate)) hs) (hm.pick [2] (by decide))
  ·have g18 := beq_eq_false_iff_ne.2 h17
   refine CM_condF rfl g18 ?_
   refine sr (wm ?_)
   refine wv (vix 1 0 underlying32 type9) ?_
   refine wv (fun W hm => rv_load underlying9 rfl rfl ((hm.cell0 (show (a9.add (0 * 1)).block < w.heap.size from by rw [add_block]; exact hb10.1)).trans (hc12 0 _ rfl))) ?_
   refine wv (fun W hm => rv_eqlS (p := (gt x0 0)) (q := (sB [100, 101, 108, 101, 116, 101])) underlying9 rfl rfl) ?_
   refine wm ?_
   rcases Bool.eq_false_or_eq_true (eqS (gt x0 0) (sB [100, 101, 108, 101, 116, 101])) with g30 | g30
   ·
    refine wg vmv g30 ?_
    refine wg (vlen underlying32) g30 ?_
    refine wg (fun W hm => rv_eql rfl rfl) g30 ?_
    refine wv (vpT g30) ?_
    refine wa (nt' ?_)
    refine CM_condF rfl g18 ?_
    refine sr (wm ?_)
    refine wv (vix 1 0 underlying32 type9) ?_
    refine wv (fun W hm => rv_load underlying9 rfl rfl ((hm.cell0 (show (a9.add (0 * 1)).block < w.heap.size from by rw [add_block]; exact hb10.1)).trans (hc12 0 _ rfl))) ?_
    refine wv (fun W hm => rv_eqlS (p := (gt x0 0)) (q := (sB [115, 101, 116])) underlying9 rfl rfl) ?_
    refine wm ?_
    rcases Bool.eq_false_or_eq_true (eqS (gt x0 0) (sB [115, 101, 116])) with g32 | g32
    ·
     refine wg vmv g32 ?_
     refine wg (vlen underlying32) g32 ?_
     refine wg (fun W hm => rv_eql rfl rfl) g32 ?_
     refine wv (vpT g32) ?_
     refine wa (nt' ?_)
     by_cases h33 : ((x0.length : Nat) : Int) = 4
     ·have g34 := beq_iff_eq.2 h33
      refine CM_condT rfl g34 ?_
      refine sr ?_
      refine wv (vf underlying26 rfl type3) ?_
      refine sb 0 [.int .i64 3, .int .i64 0, .slice none 0 0, .int .i64 0, .int .i64 0] [iBox p7 26 K1] (fun W hm => hm) type3 ?_
      refine nt' (sr (wm ?_))
      refine wv (vix 1 1 underlying32 type9) ?_
      obtain ⟨_, e36, hc35⟩ := he11 1 _ (gt_some (show 1 < x0.length from by omega))
      obtain ⟨_, rfl, rfl, hs37⟩ := e36
      refine wv (fun W hm => rv_load underlying9 rfl rfl ((hm.cell0 (show (a9.add (1 * 1)).block < w.heap.size from by rw [add_block]; exact hb10.1)).trans (hc35 0 _ rfl))) ?_
      refine wcv (cl_fn cb26 rfl) (fun W hm => impl_ParseInt_c W (gt x0 1) (by omega) (hT.mem hm)) ?_
      refine wm ?_
      refine wv (fun W hm => rv_extract rfl rfl) ?_
      refine wv (fun W hm => rv_extract rfl rfl) ?_
      refine wv (vf underlying26 rfl type24) ?_
      refine wv (fun W hm => rv_fieldA (o := 1) underlying24 rfl type3 (by decide) rfl rfl) ?_
      refine sb 1 [.int .i64 3, .int .i64 ((impl_ParseInt_m (gt x0 1)).1), .slice none 0 0, .int .i64 0, .int .i64 0] [iBox p7 26 K1] (fun W hm => hm) type3 ?_
      refine nt' (sr (wm ?_))
      refine wv (vix 1 2 underlying32 type9) ?_
      obtain ⟨_, e39, hc38⟩ := he11 2 _ (gt_some (show 2 < x0.length from by omega))
      obtain ⟨_, rfl, rfl, hs40⟩ := e39
      refine wv (fun W hm => rv_load underlying9 rfl rfl ((hm.cell0 (show (a9.add (2 * 1)).block < w.heap.size from by rw [add_block]; exact hb10.1)).trans (hc38 0 _ rfl))) ?_
      have hz41 : ByteArray.size (sB [102]) = 1 := rfl
      refine wcv (cl_fn cb27 rfl) (fun W hm => impl_parseAfter_c W (gt x0 2) (sB [102]) (by omega) (by omega) (hT.mem hm)) ?_
      refine wm ?_
      refine wv (fun W hm => rv_extract rfl rfl) ?_
      refine wv (fun W hm => rv_extract rfl rfl) ?_
      refine wv (vf underlying26 rfl type3) ?_
      refine sb 3 [.int .i64 3, .int .i64 ((impl_ParseInt_m (gt x0 1)).1), .slice none 0 0, .int .i64 ((impl_parseAfter_m (gt x0 2) (sB [102])).1), .int .i64 0] [iBox p7 26 K1] (fun W hm => hm) type3 ?_
      refine nt' (CM_region (wm ?_))
      refine wv (vix 1 3 underlying32 type9) ?_
      obtain ⟨_, e43, hc42⟩ := he11 3 _ (gt_some (show 3 < x0.length from by omega))
      obtain ⟨_, rfl, rfl, hs44⟩ := e43
      refine wv (fun W hm => rv_load underlying9 rfl rfl ((hm.cell0 (show (a9.add (3 * 1)).block < w.heap.size from by rw [add_block]; exact hb10.1)).trans (hc42 0 _ rfl))) ?_
      refine wcv (cl_fn cb26 rfl) (fun W hm => impl_ParseInt_c W (gt x0 3) (by omega) (hT.mem hm)) ?_
      refine wm ?_
      refine wv (fun W hm => rv_extract rfl rfl) ?_
      refine wv (fun W hm => rv_extract rfl rfl) ?_
      refine wv (vf underlying26 rfl type3) ?_
      let K4 : List Value := [.int .i64 3, .int .i64 ((impl_ParseInt_m (gt x0 1)).1), .slice none 0 0, .int .i64 ((impl_parseAfter_m (gt x0 2) (sB [102])).1), .int .i64 ((impl_ParseInt_m (gt x0 3)).1)]
      refine sb 4 K4 [iBox p7 26 K1] (fun W hm => hm) type3 ?_
      refine WM_nil (QM_block_normal (QM_then (sr ?_)))
      refine wv (fun W hm => rv_loadN (cs := K4) underlying26 type26 rfl rfl (hm.boxCells (n := 0) rfl)) ?_
      refine sb 0 K4 [iBox p8 26 K4] (pk [1, 0]) type26 ?_
      refine nt' (CM_ret ?_)
      refine QM_items (fun W hm => hm.addNil (E := tInt) (e := 3)) ?_
      have he46 := (show impl_readUpdate_m x0 = (⟨3, (⟨(impl_ParseInt_m (gt x0 1)).1, []⟩ : DRow), (impl_parseAfter_m (gt x0 2) (sB [102])).1, (impl_ParseInt_m (gt x0 3)).1⟩ : DUpdate) from cond_t g16 (cond_f g18 (cond_t g30 (cond_t g32 (cond_t g34 (rfl))))))
      refine QM_r1 rfl (RR_cell (n := 1) rfl rfl underlying26 type26 rfl) (fun W hm => ⟨K4, ?_, ?_⟩)
      ·first | rw [he46] | rfl
      ·rw [he46]; exact Mem.join (is := [iOwn (tSl tInt 3) [.slice none 0 0] []]) (js := []) (fun _ _ hs => tyUpdate_join (x := (⟨3, (⟨(impl_ParseInt_m (gt x0 1)).1, []⟩ : DRow), (impl_parseAfter_m (gt x0 2) (sB [102])).1, (impl_ParseInt_m (gt x0 3)).1⟩ : DUpdate)) hs) (hm.pick [0] (by decide))
     ·have g34 := beq_eq_false_iff_ne.2 h33
      refine CM_condF rfl g34 ?_
      refine CM_skip (QM_block_normal (QM_then (sr ?_)))
      refine wv (fun W hm => rv_loadN (cs := K1) underlying26 type26 rfl rfl (hm.boxCells (n := 0) rfl)) ?_
      refine sb 0 K1 [iBox p8 26 K1] (pk [1, 0]) type26 ?_
      refine nt' (CM_ret ?_)
      refine QM_items (fun W hm => hm.addNil (E := tInt) (e := 3)) ?_
      have he48 := (show impl_readUpdate_m x0 = (⟨0, (⟨0, []⟩ : DRow), 0, 0⟩ : DUpdate) from cond_t g16 (cond_f g18 (cond_t g30 (cond_t g32 (cond_f g34 (rfl))))))
      refine QM_r1 rfl (RR_cell (n := 1) rfl rfl underlying26 type26 rfl) (fun W hm => ⟨K1, ?_, ?_⟩)
      ·first | rw [he48] | rfl
      ·rw [he48]; exact Mem.join (is := [iOwn (tSl tInt 3) [.slice none 0 0] []]) (js := []) (fun _ _ hs => tyUpdate_join (x := (⟨0, (⟨0, []⟩ : DRow), 0, 0⟩ : DUpdate)) hs) (hm.pick [0] (by decide))
    ·
     refine ws g32 ?_
     refine ws g32 ?_
     refine ws g32 ?_
     refine wv (vpF g32) ?_
     refine wa (nt' ?_)
     refine CM_condF rfl rfl ?_
     refine CM_skip (QM_block_normal (QM_then (sr ?_)))
     refine wv (fun W hm => rv_loadN (cs := K1) underlying26 type26 rfl rfl (hm.boxCells (n := 0) rfl)) ?_
     refine sb 0 K1 [iBox p8 26 K1] (pk [1, 0]) type26 ?_
     refine nt' (CM_ret ?_)
     refine QM_items (fun W hm => hm.addNil (E := tInt) (e := 3)) ?_
     have he50 := (show impl_readUpdate_m x0 = (⟨0, (⟨0, []⟩ : DRow), 0, 0⟩ : DUpdate) from cond_t g16 (cond_f g18 (cond_t g30 (cond_f g32 (rfl)))))
     refine QM_r1 rfl (RR_cell (n := 1) rfl rfl underlying26 type26 rfl) (fun W hm => ⟨K1, ?_, ?_⟩)
     ·first | rw [he50] | rfl
     ·rw [he50]; exact Mem.join (is := [iOwn (tSl tInt 3) [.slice none 0 0] []]) (js := []) (fun _ _ hs => tyUpdate_join (x := (⟨0, (⟨0, []⟩ : DRow), 0, 0⟩ : DUpdate)) hs) (hm.pick [0] (by decide))
   ·
    refine ws g30 ?_
    refine ws g30 ?_
    refine ws g30 ?_
    refine wv (vpF g30) ?_
    refine wa (nt' ?_)
    refine CM_condF rfl rfl ?_
    refine sr (wm ?_)
    refine wv (vix 1 0 underlying32 type9) ?_
    refine wv (fun W hm => rv_load underlying9 rfl rfl ((hm.cell0 (show (a9.add (0 * 1)).block < w.heap.size from by rw [add_block]; exact hb10.1)).trans (hc12 0 _ rfl))) ?_
    refine wv (fun W hm => rv_eqlS (p := (gt x0 0)) (q := (sB [115, 101, 116])) underlying9 rfl rfl) ?_
    refine wm ?_
    rcases Bool.eq_false_or_eq_true (eqS (gt x0 0) (sB [115, 101, 116])) with g52 | g52
    ·
     refine wg vmv g52 ?_
     refine wg (vlen underlying32) g52 ?_
     refine wg (fun W hm => rv_eql rfl rfl) g52 ?_
     refine wv (vpT g52) ?_
     refine wa (nt' ?_)
     by_cases h53 : ((x0.length : Nat) : Int) = 4
     ·have g54 := beq_iff_eq.2 h53
      refine CM_condT rfl g54 ?_
      refine sr ?_
      refine wv (vf underlying26 rfl type3) ?_
      refine sb 0 [.int .i64 3, .int .i64 0, .slice none 0 0, .int .i64 0, .int .i64 0] [iBox p7 26 K1] (fun W hm => hm) type3 ?_
      refine nt' (sr (wm ?_))
      refine wv (vix 1 1 underlying32 type9) ?_
      obtain ⟨_, e56, hc55⟩ := he11 1 _ (gt_some (show 1 < x0.length from by omega))
      obtain ⟨_, rfl, rfl, hs57⟩ := e56
      refine wv (fun W hm => rv_load underlying9 rfl rfl ((hm.cell0 (show (a9.add (1 * 1)).block < w.heap.size from by rw [add_block]; exact hb10.1)).trans (hc55 0 _ rfl))) ?_
      refine wcv (cl_fn cb26 rfl) (fun W hm => impl_ParseInt_c W (gt x0 1) (by omega) (hT.mem hm)) ?_
      refine wm ?_
      refine wv (fun W hm => rv_extract rfl rfl) ?_
      refine wv (fun W hm => rv_extract rfl rfl) ?_
      refine wv (vf underlying26 rfl type24) ?_
      refine wv (fun W hm => rv_fieldA (o := 1) underlying24 rfl type3 (by decide) rfl rfl) ?_
      refine sb 1 [.int .i64 3, .int .i64 ((impl_ParseInt_m (gt x0 1)).1), .slice none 0 0, .int .i64 0, .int .i64 0] [iBox p7 26 K1] (fun W hm => hm) type3 ?_
      refine nt' (sr (wm ?_))
      refine wv (vix 1 2 underlying32 type9) ?_
      obtain ⟨_, e59, hc58⟩ := he11 2 _ (gt_some (show 2 < x0.length from by omega))
      obtain ⟨_, rfl, rfl, hs60⟩ := e59
      refine wv (fun W hm => rv_load underlying9 rfl rfl ((hm.cell0 (show (a9.add (2 * 1)).block < w.heap.size from by rw [add_block]; exact hb10.1)).trans (hc58 0 _ rfl))) ?_
      have hz61 : ByteArray.size (sB [102]) = 1 := rfl
      refine wcv (cl_fn cb27 rfl) (fun W hm => impl_parseAfter_c W (gt x0 2) (sB [102]) (by omega) (by omega) (hT.mem hm)) ?_
      refine wm ?_
      refine wv (fun W hm => rv_extract rfl rfl) ?_
      refine wv (fun W hm => rv_extract rfl rfl) ?_
      refine wv (vf underlying26 rfl type3) ?_
      refine sb 3 [.int .i64 3, .int .i64 ((impl_ParseInt_m (gt x0 1)).1), .slice none 0 0, .int .i64 ((impl_parseAfter_m (gt x0 2) (sB [102])).1), .int .i64 0] [iBox p7 26 K1] (fun W hm => hm) type3 ?_
      refine nt' (CM_region (wm ?_))
      refine wv (vix 1 3 underlying32 type9) ?_
      obtain ⟨_, e63, hc62⟩ := he11 3 _ (gt_some (show 3 < x0.length from by omega))
      obtain ⟨_, rfl, rfl, hs64⟩ := e63
      refine wv (fun W hm => rv_load underlying9 rfl rfl ((hm.cell0 (show (a9.add (3 * 1)).block < w.heap.size from by rw [add_block]; exact hb10.1)).trans (hc62 0 _ rfl))) ?_
      refine wcv (cl_fn cb26 rfl) (fun W hm => impl_ParseInt_c W (gt x0 3) (by omega) (hT.mem hm)) ?_
      refine wm ?_
      refine wv (fun W hm => rv_extract rfl rfl) ?_
      refine wv (fun W hm => rv_extract rfl rfl) ?_
      refine wv (vf underlying26 rfl type3) ?_
      let K5 : List Value := [.int .i64 3, .int .i64 ((impl_ParseInt_m (gt x0 1)).1), .slice none 0 0, .int .i64 ((impl_parseAfter_m (gt x0 2) (sB [102])).1), .int .i64 ((impl_ParseInt_m (gt x0 3)).1)]
      refine sb 4 K5 [iBox p7 26 K1] (fun W hm => hm) type3 ?_
      refine WM_nil (QM_block_normal (QM_then (sr ?_)))
      refine wv (fun W hm => rv_loadN (cs := K5) underlying26 type26 rfl rfl (hm.boxCells (n := 0) rfl)) ?_
      refine sb 0 K5 [iBox p8 26 K5] (pk [1, 0]) type26 ?_
      refine nt' (CM_ret ?_)
      refine QM_items (fun W hm => hm.addNil (E := tInt) (e := 3)) ?_
      have he66 := (show impl_readUpdate_m x0 = (⟨3, (⟨(impl_ParseInt_m (gt x0 1)).1, []⟩ : DRow), (impl_parseAfter_m (gt x0 2) (sB [102])).1, (impl_ParseInt_m (gt x0 3)).1⟩ : DUpdate) from cond_t g16 (cond_f g18 (cond_f g30 (cond_t g52 (cond_t g54 (rfl))))))
      refine QM_r1 rfl (RR_cell (n := 1) rfl rfl underlying26 type26 rfl) (fun W hm => ⟨K5, ?_, ?_⟩)
      ·first | rw [he66] | rfl
      ·rw [he66]; exact Mem.join (is := [iOwn (tSl tInt 3) [.slice none 0 0] []]) (js := []) (fun _ _ hs => tyUpdate_join (x := (⟨3, (⟨(impl_ParseInt_m (gt x0 1)).1, []⟩ : DRow), (impl_parseAfter_m (gt x0 2) (sB [102])).1, (impl_ParseInt_m (gt x0 3)).1⟩ : DUpdate)) hs) (hm.pick [0] (by decide))
     ·have g54 := beq_eq_false_iff_ne.2 h53
      refine CM_condF rfl g54 ?_
      refine CM_skip (QM_block_normal (QM_then (sr ?_)))
      refine wv (fun W hm => rv_loadN (cs := K1) underlying26 type26 rfl rfl (hm.boxCells (n := 0) rfl)) ?_
      refine sb 0 K1 [iBox p8 26 K1] (pk [1, 0]) type26 ?_
      refine nt' (CM_ret ?_)
      refine QM_items (fun W hm => hm.addNil (E := tInt) (e := 3)) ?_
      have he68 := (show impl_readUpdate_m x0 = (⟨0, (⟨0, []⟩ : DRow), 0, 0⟩ : DUpdate) from cond_t g16 (cond_f g18 (cond_f g30 (cond_t g52 (cond_f g54 (rfl))))))
      refine QM_r1 rfl (RR_cell (n := 1) rfl rfl underlying26 type26 rfl) (fun W hm => ⟨K1, ?_, ?_⟩)
      ·first | rw [he68] | rfl
      ·rw [he68]; exact Mem.join (is := [iOwn (tSl tInt 3) [.slice none 0 0] []]) (js := []) (fun _ _ hs => tyUpdate_join (x := (⟨0, (⟨0, []⟩ : DRow), 0, 0⟩ : DUpdate)) hs) (hm.pick [0] (by decide))
    ·
     refine ws g52 ?_
     refine ws g52 ?_
     refine ws g52 ?_
     refine wv (vpF g52) ?_
     refine wa (nt' ?_)
     refine CM_condF rfl rfl ?_
     refine CM_skip (QM_block_normal (QM_then (sr ?_)))
     refine wv (fun W hm => rv_loadN (cs := K1) underlying26 type26 rfl rfl (hm.boxCells (n := 0) rfl)) ?_
     refine sb 0 K1 [iBox p8 26 K1] (pk [1, 0]) type26 ?_
     refine nt' (CM_ret ?_)
     refine QM_items (fun W hm => hm.addNil (E := tInt) (e := 3)) ?_
     have he70 := (show impl_readUpdate_m x0 = (⟨0, (⟨0, []⟩ : DRow), 0, 0⟩ : DUpdate) from cond_t g16 (cond_f g18 (cond_f g30 (cond_f g52 (rfl)))))
     refine QM_r1 rfl (RR_cell (n := 1) rfl rfl underlying26 type26 rfl) (fun W hm => ⟨K1, ?_, ?_⟩)
     ·first | rw [he70] | rfl
     ·rw [he70]; exact Mem.join (is := [iOwn (tSl tInt 3) [.slice none 0 0] []]) (js := []) (fun _ _ hs => tyUpdate_join (x := (⟨0, (⟨0, []⟩ : DRow), 0, 0⟩ : DUpdate)) hs) (hm.pick [0] (by decide))
 ·
  refine ws g16 ?_
  refine ws g16 ?_
  refine ws g16 ?_
  refine wv (vpF g16) ?_
  refine wa (nt' ?_)
  refine CM_condF rfl rfl ?_
  refine sr (wm ?_)
  refine wv (vix 1 0 underlying32 type9) ?_
  refine wv (fun W hm => rv_load underlying9 rfl rfl ((hm.cell0 (show (a9.add (0 * 1)).block < w.heap.size from by rw [add_block]; exact hb10.1)).trans (hc12 0 _ rfl))) ?_
  refine wv (fun W hm => rv_eqlS (p := (gt x0 0)) (q := (sB [100, 101, 108, 101, 116, 101])) underlying9 rfl rfl) ?_
  refine wm ?_
  rcases Bool.eq_false_or_eq_true (eqS (gt x0 0) (sB [100, 101, 108, 101, 116, 101])) with g72 | g72
  ·
   refine wg vmv g72 ?_
   refine wg (vlen underlying32) g72 ?_
   refine wg (fun W hm => rv_eql rfl rfl) g72 ?_
   refine wv (vpT g72) ?_
   refine wa (nt' ?_)
   by_cases h73 : ((x0.length : Nat) : Int) = 2
   ·have g74 := beq_iff_eq.2 h73
    refine CM_condT rfl g74 ?_
    refine sr ?_
    refine wv (vf underlying26 rfl type3) ?_
    refine sb 0 [.int .i64 2, .int .i64 0, .slice none 0 0, .int .i64 0, .int .i64 0] [iBox p7 26 K1] (fun W hm => hm) type3 ?_
    refine nt' (CM_region (wm ?_))
    refine wv (vix 1 1 underlying32 type9) ?_
    obtain ⟨_, e76, hc75⟩ := he11 1 _ (gt_some (show 1 < x0.length from by omega))
    obtain ⟨_, rfl, rfl, hs77⟩ := e76
    refine wv (fun W hm => rv_load underlying9 rfl rfl ((hm.cell0 (show (a9.add (1 * 1)).block < w.heap.size from by rw [add_block]; exact hb10.1)).trans (hc75 0 _ rfl))) ?_
    refine wcv (cl_fn cb26 rfl) (fun W hm => impl_ParseInt_c W (gt x0 1) (by omega) (hT.mem hm)) ?_
    refine wm ?_
    refine wv (fun W hm => rv_extract rfl rfl) ?_
    refine wv (fun W hm => rv_extract rfl rfl) ?_
    refine wv (vf underlying26 rfl type24) ?_
    refine wv (fun W hm => rv_fieldA (o := 1) underlying24 rfl type3 (by decide) rfl rfl) ?_
    let K6 : List Value := [.int .i64 2, .int .i64 ((impl_ParseInt_m (gt x0 1)).1), .slice none 0 0, .int .i64 0, .int .i64 0]
    refine sb 1 K6 [iBox p7 26 K1] (fun W hm => hm) type3 ?_
    refine WM_nil (QM_block_normal (QM_then (sr ?_)))
    refine wv (fun W hm => rv_loadN (cs := K6) underlying26 type26 rfl rfl (hm.boxCells (n := 0) rfl)) ?_
    refine sb 0 K6 [iBox p8 26 K6] (pk [1, 0]) type26 ?_
    refine nt' (CM_ret ?_)
    refine QM_items (fun W hm => hm.addNil (E := tInt) (e := 3)) ?_
    have he79 := (show impl_readUpdate_m x0 = (⟨2, (⟨(impl_ParseInt_m (gt x0 1)).1, []⟩ : DRow), 0, 0⟩ : DUpdate) from cond_f g16 (cond_t g72 (cond_t g74 (rfl))))
    refine QM_r1 rfl (RR_cell (n := 1) rfl rfl underlying26 type26 rfl) (fun W hm => ⟨K6, ?_, ?_⟩)
    ·first | rw [he79] | rfl
    ·rw [he79]; exact Mem.join (is := [iOwn (tSl tInt 3) [.slice none 0 0] []]) (js := []) (fun _ _ hs => tyUpdate_join (x := (⟨2, (⟨(impl_ParseInt_m (gt x0 1)).1, []⟩ : DRow), 0, 0⟩ : DUpdate)) hs) (hm.pick [0] (by decide))
   ·have g74 := beq_eq_false_iff_ne.2 h73
    refine CM_condF rfl g74 ?_
    refine sr (wm ?_)
    refine wv (vix 1 0 underlying32 type9) ?_
    refine wv (fun W hm => rv_load underlying9 rfl rfl ((hm.cell0 (show (a9.add (0 * 1)).block < w.heap.size from by rw [add_block]; exact hb10.1)).trans (hc12 0 _ rfl))) ?_
    refine wv (fun W hm => rv_eqlS (p := (gt x0 0)) (q := (sB [115, 101, 116])) underlying9 rfl rfl) ?_
    refine wm ?_
    rcases Bool.eq_false_or_eq_true (eqS (gt x0 0) (sB [115, 101, 116])) with g81 | g81
    ·
     refine wg vmv g81 ?_
     refine wg (vlen underlying32) g81 ?_
     refine wg (fun W hm => rv_eql rfl rfl) g81 ?_
     refine wv (vpT g81) ?_
     refine wa (nt' ?_)
     by_cases h82 : ((x0.length : Nat) : Int) = 4
     ·have g83 := beq_iff_eq.2 h82
      refine CM_condT rfl g83 ?_
      refine sr ?_
      refine wv (vf underlying26 rfl type3) ?_
      refine sb 0 [.int .i64 3, .int .i64 0, .slice none 0 0, .int .i64 0, .int .i64 0] [iBox p7 26 K1] (fun W hm => hm) type3 ?_
      refine nt' (sr (wm ?_))
      refine wv (vix 1 1 underlying32 type9) ?_
      obtain ⟨_, e85, hc84⟩ := he11 1 _ (gt_some (show 1 < x0.length from by omega))
      obtain ⟨_, rfl, rfl, hs86⟩ := e85
      refine wv (fun W hm => rv_load underlying9 rfl rfl ((hm.cell0 (show (a9.add (1 * 1)).block < w.heap.size from by rw [add_block]; exact hb10.1)).trans (hc84 0 _ rfl))) ?_
      refine wcv (cl_fn cb26 rfl) (fun W hm => impl_ParseInt_c W (gt x0 1) (by omega) (hT.mem hm)) ?_
      refine wm ?_
      refine wv (fun W hm => rv_extract rfl rfl) ?_
      refine wv (fun W hm => rv_extract rfl rfl) ?_
      refine wv (vf underlying26 rfl type24) ?_
      refine wv (fun W hm => rv_fieldA (o := 1) underlying24 rfl type3 (by decide) rfl rfl) ?_
      refine sb 1 [.int .i64 3, .int .i64 ((impl_ParseInt_m (gt x0 1)).1), .slice none 0 0, .int .i64 0, .int .i64 0] [iBox p7 26 K1] (fun W hm => hm) type3 ?_
      refine nt' (sr (wm ?_))
      refine wv (vix 1 2 underlying32 type9) ?_
      obtain ⟨_, e88, hc87⟩ := he11 2 _ (gt_some (show 2 < x0.length from by omega))
      obtain ⟨_, rfl, rfl, hs89⟩ := e88
      refine wv (fun W hm => rv_load underlying9 rfl rfl ((hm.cell0 (show (a9.add (2 * 1)).block < w.heap.size from by rw [add_block]; exact hb10.1)).trans (hc87 0 _ rfl))) ?_
      have hz90 : ByteArray.size (sB [102]) = 1 := rfl
      refine wcv (cl_fn cb27 rfl) (fun W hm => impl_parseAfter_c W (gt x0 2) (sB [102]) (by omega) (by omega) (hT.mem hm)) ?_
      refine wm ?_
      refine wv (fun W hm => rv_extract rfl rfl) ?_
      refine wv (fun W hm => rv_extract rfl rfl) ?_
      refine wv (vf underlying26 rfl type3) ?_
      refine sb 3 [.int .i64 3, .int .i64 ((impl_ParseInt_m (gt x0 1)).1), .slice none 0 0, .int .i64 ((impl_parseAfter_m (gt x0 2) (sB [102])).1), .int .i64 0] [iBox p7 26 K1] (fun W hm => hm) type3 ?_
      refine nt' (CM_region (wm ?_))
      refine wv (vix 1 3 underlying32 type9) ?_
      obtain ⟨_, e92, hc91⟩ := he11 3 _ (gt_some (show 3 < x0.length from by omega))
      obtain ⟨_, rfl, rfl, hs93⟩ := e92
      refine wv (fun W hm => rv_load underlying9 rfl rfl ((hm.cell0 (show (a9.add (3 * 1)).block < w.heap.size from by rw [add_block]; exact hb10.1)).trans (hc91 0 _ rfl))) ?_
      refine wcv (cl_fn cb26 rfl) (fun W hm => impl_ParseInt_c W (gt x0 3) (by omega) (hT.mem hm)) ?_
      refine wm ?_
      refine wv (fun W hm => rv_extract rfl rfl) ?_
      refine wv (fun W hm => rv_extract rfl rfl) ?_
      refine wv (vf underlying26 rfl type3) ?_
      let K7 : List Value := [.int .i64 3, .int .i64 ((impl_ParseInt_m (gt x0 1)).1), .slice none 0 0, .int .i64 ((impl_parseAfter_m (gt x0 2) (sB [102])).1), .int .i64 ((impl_ParseInt_m (gt x0 3)).1)]
      refine sb 4 K7 [iBox p7 26 K1] (fun W hm => hm) type3 ?_
      refine WM_nil (QM_block_normal (QM_then (sr ?_)))
      refine wv (fun W hm => rv_loadN (cs := K7) underlying26 type26 rfl rfl (hm.boxCells (n := 0) rfl)) ?_
      refine sb 0 K7 [iBox p8 26 K7] (pk [1, 0]) type26 ?_
      refine nt' (CM_ret ?_)
      refine QM_items (fun W hm => hm.addNil (E := tInt) (e := 3)) ?_
      have he95 := (show impl_readUpdate_m x0 = (⟨3, (⟨(impl_ParseInt_m (gt x0 1)).1, []⟩ : DRow), (impl_parseAfter_m (gt x0 2) (sB [102])).1, (impl_ParseInt_m (gt x0 3)).1⟩ : DUpdate) from cond_f g16 (cond_t g72 (cond_f g74 (cond_t g81 (cond_t g83 (rfl))))))
      refine QM_r1 rfl (RR_cell (n := 1) rfl rfl underlying26 type26 rfl) (fun W hm => ⟨K7, ?_, ?_⟩)
      ·first | rw [he95] | rfl
      ·rw [he95]; exact Mem.join (is := [iOwn (tSl tInt 3) [.slice none 0 0] []]) (js := []) (fun _ _ hs => tyUpdate_join (x := (⟨3, (⟨(impl_ParseInt_m (gt x0 1)).1, []⟩ : DRow), (impl_parseAfter_m (gt x0 2) (sB [102])).1, (impl_ParseInt_m (gt x0 3)).1⟩ : DUpdate)) hs) (hm.pick [0] (by decide))
     ·have g83 := beq_eq_false_iff_ne.2 h82
      refine CM_condF rfl g83 ?_
      refine CM_skip (QM_block_normal (QM_then (sr ?_)))
      refine wv (fun W hm => rv_loadN (cs := K1) underlying26 type26 rfl rfl (hm.boxCells (n := 0) rfl)) ?_
      refine sb 0 K1 [iBox p8 26 K1] (pk [1, 0]) type26 ?_
      refine nt' (CM_ret ?_)
      refine QM_items (fun W hm => hm.addNil (E := tInt) (e := 3)) ?_
      have he97 := (show impl_readUpdate_m x0 = (⟨0, (⟨0, []⟩ : DRow), 0, 0⟩ : DUpdate) from cond_f g16 (cond_t g72 (cond_f g74 (cond_t g81 (cond_f g83 (rfl))))))
      refine QM_r1 rfl (RR_cell (n := 1) rfl rfl underlying26 type26 rfl) (fun W hm => ⟨K1, ?_, ?_⟩)
      ·first | rw [he97] | rfl
      ·rw [he97]; exact Mem.join (is := [iOwn (tSl tInt 3) [.slice none 0 0] []]) (js := []) (fun _ _ hs => tyUpdate_join (x := (⟨0, (⟨0, []⟩ : DRow), 0, 0⟩ : DUpdate)) hs) (hm.pick [0] (by decide))
    ·
     refine ws g81 ?_
     refine ws g81 ?_
     refine ws g81 ?_
     refine wv (vpF g81) ?_
     refine wa (nt' ?_)
     refine CM_condF rfl rfl ?_
     refine CM_skip (QM_block_normal (QM_then (sr ?_)))
     refine wv (fun W hm => rv_loadN (cs := K1) underlying26 type26 rfl rfl (hm.boxCells (n := 0) rfl)) ?_
     refine sb 0 K1 [iBox p8 26 K1] (pk [1, 0]) type26 ?_
     refine nt' (CM_ret ?_)
     refine QM_items (fun W hm => hm.addNil (E := tInt) (e := 3)) ?_
     have he99 := (show impl_readUpdate_m x0 = (⟨0, (⟨0, []⟩ : DRow), 0, 0⟩ : DUpdate) from cond_f g16 (cond_t g72 (cond_f g74 (cond_f g81 (rfl)))))
     refine QM_r1 rfl (RR_cell (n := 1) rfl rfl underlying26 type26 rfl) (fun W hm => ⟨K1, ?_, ?_⟩)
     ·first | rw [he99] | rfl
     ·rw [he99]; exact Mem.join (is := [iOwn (tSl tInt 3) [.slice none 0 0] []]) (js := []) (fun _ _ hs => tyUpdate_join (x := (⟨0, (⟨0, []⟩ : DRow), 0, 0⟩ : DUpdate)) hs) (hm.pick [0] (by decide))
  ·
   refine ws g72 ?_
   refine ws g72 ?_
   refine ws g72 ?_
   refine wv (vpF g72) ?_
   refine wa (nt' ?_)
   refine CM_condF rfl rfl ?_
   refine sr (wm ?_)
   refine wv (vix 1 0 underlying32 type9) ?_
   refine wv (fun W hm => rv_load underlying9 rfl rfl ((hm.cell0 (show (a9.add (0 * 1)).block < w.heap.size from by rw [add_block]; exact hb10.1)).trans (hc12 0 _ rfl))) ?_
   refine wv (fun W hm => rv_eqlS (p := (gt x0 0)) (q := (sB [115, 101, 116])) underlying9 rfl rfl) ?_
   refine wm ?_
   rcases Bool.eq_false_or_eq_true (eqS (gt x0 0) (sB [115, 101, 116])) with g101 | g101
   ·
    refine wg vmv g101 ?_
    refine wg (vlen underlying32) g101 ?_
    refine wg (fun W hm => rv_eql rfl rfl) g101 ?_
    refine wv (vpT g101) ?_
    refine wa (nt' ?_)
    by_cases h102 : ((x0.length : Nat) : Int) = 4
    ·have g103 := beq_iff_eq.2 h102
     refine CM_condT rfl g103 ?_
     refine sr ?_
     refine wv (vf underlying26 rfl type3) ?_
     refine sb 0 [.int .i64 3, .int .i64 0, .slice none 0 0, .int .i64 0, .int .i64 0] [iBox p7 26 K1] (fun W hm => hm) type3 ?_
     refine nt' (sr (wm ?_))
     refine wv (vix 1 1 underlying32 type9) ?_
     obtain ⟨_, e105, hc104⟩ := he11 1 _ (gt_some (show 1 < x0.length from by omega))
     obtain ⟨_, rfl, rfl, hs106⟩ := e105
     refine wv (fun W hm => rv_load underlying9 rfl rfl ((hm.cell0 (show (a9.add (1 * 1)).block < w.heap.size from by rw [add_block]; exact hb10.1)).trans (hc104 0 _ rfl))) ?_
     refine wcv (cl_fn cb26 rfl) (fun W hm => impl_ParseInt_c W (gt x0 1) (by omega) (hT.mem hm)) ?_
     refine wm ?_
     refine wv (fun W hm => rv_extract rfl rfl) ?_
     refine wv (fun W hm => rv_extract rfl rfl) ?_
     refine wv (vf underlying26 rfl type24) ?_
     refine wv (fun W hm => rv_fieldA (o := 1) underlying24 rfl type3 (by decide) rfl rfl) ?_
     refine sb 1 [.int .i64 3, .int .i64 ((impl_ParseInt_m (gt x0 1)).1), .slice none 0 0, .int .i64 0, .int .i64 0] [iBox p7 26 K1] (fun W hm => hm) type3 ?_
     refine nt' (sr (wm ?_))
     refine wv (vix 1 2 underlying32 type9) ?_
     obtain ⟨_, e108, hc107⟩ := he11 2 _ (gt_some (show 2 < x0.length from by omega))
     obtain ⟨_, rfl, rfl, hs109⟩ := e108
     refine wv (fun W hm => rv_load underlying9 rfl rfl ((hm.cell0 (show (a9.add (2 * 1)).block < w.heap.size from by rw [add_block]; exact hb10.1)).trans (hc107 0 _ rfl))) ?_
     have hz110 : ByteArray.size (sB [102]) = 1 := rfl
     refine wcv (cl_fn cb27 rfl) (fun W hm => impl_parseAfter_c W (gt x0 2) (sB [102]) (by omega) (by omega) (hT.mem hm)) ?_
     refine wm ?_
     refine wv (fun W hm => rv_extract rfl rfl) ?_
     refine wv (fun W hm => rv_extract rfl rfl) ?_
     refine wv (vf underlying26 rfl type3) ?_
     refine sb 3 [.int .i64 3, .int .i64 ((impl_ParseInt_m (gt x0 1)).1), .slice none 0 0, .int .i64 ((impl_parseAfter_m (gt x0 2) (sB [102])).1), .int .i64 0] [iBox p7 26 K1] (fun W hm => hm) type3 ?_
     refine nt' (CM_region (wm ?_))
     refine wv (vix 1 3 underlying32 type9) ?_
     obtain ⟨_, e112, hc111⟩ := he11 3 _ (gt_some (show 3 < x0.length from by omega))
     obtain ⟨_, rfl, rfl, hs113⟩ := e112
     refine wv (fun W hm => rv_load underlying9 rfl rfl ((hm.cell0 (show (a9.add (3 * 1)).block < w.heap.size from by rw [add_block]; exact hb10.1)).trans (hc111 0 _ rfl))) ?_
     refine wcv (cl_fn cb26 rfl) (fun W hm => impl_ParseInt_c W (gt x0 3) (by omega) (hT.mem hm)) ?_
     refine wm ?_
     refine wv (fun W hm => rv_extract rfl rfl) ?_
     refine wv (fun W hm => rv_extract rfl rfl) ?_
     refine wv (vf underlying26 rfl type3) ?_
     let K8 : List Value := [.int .i64 3, .int .i64 ((impl_ParseInt_m (gt x0 1)).1), .slice none 0 0, .int .i64 ((impl_parseAfter_m (gt x0 2) (sB [102])).1), .int .i64 ((impl_ParseInt_m (gt x0 3)).1)]
     refine sb 4 K8 [iBox p7 26 K1] (fun W hm => hm) type3 ?_
     refine WM_nil (QM_block_normal (QM_then (sr ?_)))
     refine wv (fun W hm => rv_loadN (cs := K8) underlying26 type26 rfl rfl (hm.boxCells (n := 0) rfl)) ?_
     refine sb 0 K8 [iBox p8 26 K8] (pk [1, 0]) type26 ?_
     refine nt' (CM_ret ?_)
     refine QM_items (fun W hm => hm.addNil (E := tInt) (e := 3)) ?_
     have he115 := (show impl_readUpdate_m x0 = (⟨3, (⟨(impl_ParseInt_m (gt x0 1)).1, []⟩ : DRow), (impl_parseAfter_m (gt x0 2) (sB [102])).1, (impl_ParseInt_m (gt x0 3)).1⟩ : DUpdate) from cond_f g16 (cond_f g72 (cond_t g101 (cond_t g103 (rfl)))))
     refine QM_r1 rfl (RR_cell (n := 1) rfl rfl underlying26 type26 rfl) (fun W hm => ⟨K8, ?_, ?_⟩)
     ·first | rw [he115] | rfl
     ·rw [he115]; exact Mem.join (is := [iOwn (tSl tInt 3) [.slice none 0 0] []]) (js := []) (fun _ _ hs => tyUpdate_join (x := (⟨3, (⟨(impl_ParseInt_m (gt x0 1)).1, []⟩ : DRow), (impl_parseAfter_m (gt x0 2) (sB [102])).1, (impl_ParseInt_m (gt x0 3)).1⟩ : DUpdate)) hs) (hm.pick [0] (by decide))
    ·have g103 := beq_eq_false_iff_ne.2 h102
     refine CM_condF rfl g103 ?_
     refine CM_skip (QM_block_normal (QM_then (sr ?_)))
     refine wv (fun W hm => rv_loadN (cs := K1) underlying26 type26 rfl rfl (hm.boxCells (n := 0) rfl)) ?_
     refine sb 0 K1 [iBox p8 26 K1] (pk [1, 0]) type26 ?_
     refine nt' (CM_ret ?_)
     refine QM_items (fun W hm => hm.addNil (E := tInt) (e := 3)) ?_
     have he117 := (show impl_readUpdate_m x0 = (⟨0, (⟨0, []⟩ : DRow), 0, 0⟩ : DUpdate) from cond_f g16 (cond_f g72 (cond_t g101 (cond_f g103 (rfl)))))
     refine QM_r1 rfl (RR_cell (n := 1) rfl rfl underlying26 type26 rfl) (fun W hm => ⟨K1, ?_, ?_⟩)
     ·first | rw [he117] | rfl
     ·rw [he117]; exact Mem.join (is := [iOwn (tSl tInt 3) [.slice none 0 0] []]) (js := []) (fun _ _ hs => tyUpdate_join (x := (⟨0, (⟨0, []⟩ : DRow), 0, 0⟩ : DUpdate)) hs) (hm.pick [0] (by decide))
   ·
    refine ws g101 ?_
    refine ws g101 ?_
    refine ws g101 ?_
    refine wv (vpF g101) ?_
    refine wa (nt' ?_)
    refine CM_condF rfl rfl ?_
    refine CM_skip (QM_block_normal (QM_then (sr ?_)))
    refine wv (fun W hm => rv_loadN (cs := K1) underlying26 type26 rfl rfl (hm.boxCells (n := 0) rfl)) ?_
    refine sb 0 K1 [iBox p8 26 K1] (pk [1, 0]) type26 ?_
    refine nt' (CM_ret ?_)
    refine QM_items (fun W hm => hm.addNil (E := tInt) (e := 3)) ?_
    have he119 := (show impl_readUpdate_m x0 = (⟨0, (⟨0, []⟩ : DRow), 0, 0⟩ : DUpdate) from cond_f g16 (cond_f g72 (cond_f g101 (rfl))))
    refine QM_r1 rfl (RR_cell (n := 1) rfl rfl underlying26 type26 rfl) (fun W hm => ⟨K1, ?_, ?_⟩)
    ·first | rw [he119] | rfl
    ·rw [he119]; exact Mem.join (is := [iOwn (tSl tInt 3) [.slice none 0 0] []]) (js := []) (fun _ _ hs => tyUpdate_join (x := (⟨0, (⟨0, []⟩ : DRow), 0, 0⟩ : DUpdate)) hs) (hm.pick [0] (by decide))

def impl_isField_m (x0 : Int) : Bool :=
 (impl_within_m x0 0 2)
theorem cb31 : Cb Tryd.prog 31 := ⟨f31, _, func31, rfl, by decide⟩
theorem impl_isField_c (w : World) (x0 : Int) :
  Calls Tryd.prog 31 #[.int .i64 x0] w fun e w' => e = .returned (.bool (impl_isField_m x0)) ∧ Below w.heap.size w w' := by
 refine ce1 (L := [(0, .int .i64 x0)]) (N := 5) func31 ?_
 refine sr (wa (nt' (sr (wm ?_))))
 refine wcv (cl_fn cb29 rfl) (fun W hm => impl_within_c W x0 0 2) ?_
 refine wa (nt' (CM_ret ?_))
 exact rtb (h := rfl)

def impl_IsUpdate_m (x0 : DUpdate) : Bool :=
 cond (impl_within_m x0.Row.Id 0 999) (cond (x0.Kind == 1) (cond (impl_IsRow_m x0.Row) (cond (x0.Field == 0) (x0.Value == 0) false) false) (cond (x0.Kind == 2) (cond (((x0.Row.Values.length : Nat) : Int) == 0) (cond (x0.Field == 0) (x0.Value == 0) false) false) (cond (x0.Kind == 3) (cond (((x0.Row.Values.length : Nat) : Int) == 0) (cond (impl_isField_m x0.Field) (impl_within_m x0.Value 0 99) false) false) false))) (cond (x0.Kind == 1) (cond (impl_IsRow_m x0.Row) (cond (x0.Field == 0) (x0.Value == 0) false) false) (cond (x0.Kind == 2) false (cond (x0.Kind == 3) false false)))
theorem cb16 : Cb Tryd.prog 16 := ⟨f16, _, func16, rfl, by decide⟩
theorem impl_IsUpdate_c (w : World) (z0 : List Value) (x0 : DUpdate) (r_0 : tyUpdate.rd w w.heap.size z0 x0) :
  Calls Tryd.prog 16 #[.agg z0.toArray] w fun e w' => e = .returned (.bool (impl_IsUpdate_m x0)) ∧ Below w.heap.size w w' := by
 obtain ⟨v1, rfl, r2⟩ := tyUpdate_rd r_0
 obtain ⟨m3, A4, c5, rfl, q6, r7⟩ := rdS_op r2
 refine ce1 (L := [(0, .agg #[.int .i64 x0.Kind, .int .i64 x0.Row.Id, .slice A4 x0.Row.Values.length c5, .int .i64 x0.Field, .int .i64 x0.Value])]) (N := 58) func16 ?_
 refine sr ?_
 refine WM_box rfl (Wd_none rfl) (by decide) (fun p8 => ?_)
 refine wa (nt' (sr ?_))
 refine wv (vf underlying26 rfl type24) ?_
 refine wv (fun W hm => rv_fieldA (o := 1) underlying24 rfl type3 (by decide) rfl rfl) ?_
 refine wv (vl 0 1 underlying3) ?_
 refine wcv (cl_fn cb29 rfl) (fun W hm => impl_within_c W x0.Row.Id 0 999) ?_
 refine wm ?_
 rcases Bool.eq_false_or_eq_true (impl_within_m x0.Row.Id 0 999) with g10 | g10
 ·
  have hw := impl_within_fact g10
  refine wg (vf underlying26 rfl type24) g10 ?_
  refine wg (fun W hm => rv_fieldA (o := 2) underlying24 rfl type22 (by decide) rfl rfl) g10 ?_
  refine wg (vl 0 2 underlying22) g10 ?_
  refine wg (vlen underlying22) g10 ?_
  refine wg (fun W hm => rv_eql rfl rfl) g10 ?_
  refine wv (vpT g10) ?_
  refine wa (nt' (CM_seq (sr ?_)))
  refine wv (vf underlying26 rfl type3) ?_
  refine wv (vl 0 0 underlying3) ?_
  refine nt' (CM_block (sr ?_))
  refine wv (fun W hm => rv_eql rfl rfl) ?_
  refine wa (nt' ?_)
  by_cases h11 : x0.Kind = 1
  ·have g12 := beq_iff_eq.2 h11
   refine CM_condT rfl g12 ?_
   refine sr ?_
   refine wv (vf underlying26 rfl type24) ?_
   refine wv (fun W hm => rv_loadN (cs := [.int .i64 x0.Row.Id, .slice A4 x0.Row.Values.length c5]) underlying24 type24 rfl rfl (hm.boxPart (n := 0) rfl rfl)) ?_
   refine wcv (cl_fn cb30 rfl) (fun W hm => impl_IsRow_c W _ x0.Row (tyRow_mk (x := x0.Row) (hm.rdS0 r7))) ?_
   refine wm ?_
   rcases Bool.eq_false_or_eq_true (impl_IsRow_m x0.Row) with g14 | g14
   ·
    refine wg (vf underlying26 rfl type3) g14 ?_
    refine wg (vl 0 3 underlying3) g14 ?_
    refine wg (fun W hm => rv_eql rfl rfl) g14 ?_
    refine wv (vpT g14) ?_
    refine wm ?_
    by_cases h15 : x0.Field = 0
    ·have g16 := beq_iff_eq.2 h15
     refine wg (vf underlying26 rfl type3) g16 ?_
     refine wg (vl 0 4 underlying3) g16 ?_
     refine wg (fun W hm => rv_eql rfl rfl) g16 ?_
     refine wv (vpT g16) ?_
     refine wa (nt' (CM_ret (QM_block_ret (QM_then_ret ?_))))
     exact rtb (h := cond_t g10 (cond_t g12 (cond_t g14 (cond_t g16 (rfl)))))
    ·have g16 := beq_eq_false_iff_ne.2 h15
     refine ws g16 ?_
     refine ws g16 ?_
     refine ws g16 ?_
     refine wv (vpF g16) ?_
     refine wa (nt' (CM_ret (QM_block_ret (QM_then_ret ?_))))
     exact rtb (h := cond_t g10 (cond_t g12 (cond_t g14 (cond_f g16 (rfl)))))
   ·
    refine ws g14 ?_
    refine ws g14 ?_
    refine ws g14 ?_
    refine wv (vpF g14) ?_
    refine wm ?_
    refine wk ?_
    refine wk ?_
    refine wk ?_
    refine wv (vpF rfl) ?_
    refine wa (nt' (CM_ret (QM_block_ret (QM_then_ret ?_))))
    exact rtb (h := cond_t g10 (cond_t g12 (cond_f g14 (rfl))))
  ·have g12 := beq_eq_false_iff_ne.2 h11
   refine CM_condF rfl g12 ?_
   refine sr ?_
   refine wv (fun W hm => rv_eql rfl rfl) ?_
   refine wa (nt' ?_)
   by_cases h17 : x0.Kind = 2
   ·have g18 := beq_iff_eq.2 h17
    refine CM_condT rfl g18 ?_
    refine sr (wm (wm ?_))
    by_cases h19 : ((x0.Row.Values.length : Nat) : Int) = 0
    ·have g20 := beq_iff_eq.2 h19
     refine wg (vf underlying26 rfl type3) g20 ?_
     refine wg (vl 0 3 underlying3) g20 ?_
     refine wg (fun W hm => rv_eql rfl rfl) g20 ?_
     refine wv (vpT g20) ?_
     refine wm ?_
     by_cases h21 : x0.Field = 0
     ·have g22 := beq_iff_eq.2 h21
      refine wg (vf underlying26 rfl type3) g22 ?_
      refine wg (vl 0 4 underlying3) g22 ?_
      refine wg (fun W hm => rv_eql rfl rfl) g22 ?_
      refine wv (vpT g22) ?_
      refine wa (nt' (CM_ret (QM_block_ret (QM_then_ret ?_))))
      exact rtb (h := cond_t g10 (cond_f g12 (cond_t g18 (cond_t g20 (cond_t g22 (rfl))))))
     ·have g22 := beq_eq_false_iff_ne.2 h21
      refine ws g22 ?_
      refine ws g22 ?_
      refine ws g22 ?_
      refine wv (vpF g22) ?_
      refine wa (nt' (CM_ret (QM_block_ret (QM_then_ret ?_))))
      exact rtb (h := cond_t g10 (cond_f g12 (cond_t g18 (cond_t g20 (cond_f g22 (rfl))))))
    ·have g20 := beq_eq_false_iff_ne.2 h19
     refine ws g20 ?_
     refine ws g20 ?_
     refine ws g20 ?_
     refine wv (vpF g20) ?_
     refine wm ?_
     refine wk ?_
     refine wk ?_
     refine wk ?_
     refine wv (vpF rfl) ?_
     refine wa (nt' (CM_ret (QM_block_ret (QM_then_ret ?_))))
     exact rtb (h := cond_t g10 (cond_f g12 (cond_t g18 (cond_f g20 (rfl)))))
   ·have g18 := beq_eq_false_iff_ne.2 h17
    refine CM_condF rfl g18 ?_
    refine sr ?_
    refine wv (fun W hm => rv_eql rfl rfl) ?_
    refine wa (nt' ?_)
    by_cases h23 : x0.Kind = 3
    ·have g24 := beq_iff_eq.2 h23
     refine CM_condT rfl g24 ?_
     refine sr (wm (wm ?_))
     by_cases h25 : ((x0.Row.Values.length : Nat) : Int) = 0
     ·have g26 := beq_iff_eq.2 h25
      refine wg (vf underlying26 rfl type3) g26 ?_
      refine wg (vl 0 3 underlying3) g26 ?_
      refine WM_callV (cl_fn cb31 rfl) (fun W hm => impl_isField_c W x0.Field) (Wd_some rfl rfl rfl (bw g26 rfl)) (by decide) ?_
      refine wv (vpT g26) ?_
      refine wm ?_
      rcases Bool.eq_false_or_eq_true (impl_isField_m x0.Field) with g28 | g28
      ·
       refine wg (vf underlying26 rfl type3) g28 ?_
       refine wg (vl 0 4 underlying3) g28 ?_
       refine WM_callV (cl_fn cb29 rfl) (fun W hm => impl_within_c W x0.Value 0 99) (Wd_some rfl rfl rfl (bw g28 rfl)) (by decide) ?_
       refine wv (vpT g28) ?_
       refine wa (nt' (CM_ret (QM_block_ret (QM_then_ret ?_))))
       exact rtb (h := cond_t g10 (cond_f g12 (cond_f g18 (cond_t g24 (cond_t g26 (cond_t g28 (rfl)))))))
      ·
       refine ws g28 ?_
       refine ws g28 ?_
       refine ws g28 ?_
       refine wv (vpF g28) ?_
       refine wa (nt' (CM_ret (QM_block_ret (QM_then_ret ?_))))
       exact rtb (h := cond_t g10 (cond_f g12 (cond_f g18 (cond_t g24 (cond_t g26 (cond_f g28 (rfl)))))))
     ·have g26 := beq_eq_false_iff_ne.2 h25
      refine ws g26 ?_
      refine ws g26 ?_
      refine ws g26 ?_
      refine wv (vpF g26) ?_
      refine wm ?_
      refine wk ?_
      refine wk ?_
      refine wk ?_
      refine wv (vpF rfl) ?_
      refine wa (nt' (CM_ret (QM_block_ret (QM_then_ret ?_))))
      exact rtb (h := cond_t g10 (cond_f g12 (cond_f g18 (cond_t g24 (cond_f g26 (rfl))))))
    ·have g24 := beq_eq_false_iff_ne.2 h23
     refine CM_condF rfl g24 ?_
     refine CM_skip (QM_block_normal (QM_then (sr (wa (nt' (CM_ret ?_))))))
     exact rtb (h := cond_t g10 (cond_f g12 (cond_f g18 (cond_f g24 (rfl)))))
 ·
  refine ws g10 ?_
  refine ws g10 ?_
  refine ws g10 ?_
  refine ws g10 ?_
  refine ws g10 ?_
  refine wv (vpF g10) ?_
  refine wa (nt' (CM_seq (sr ?_)))
  refine wv (vf underlying26 rfl type3) ?_
  refine wv (vl 0 0 underlying3) ?_
  refine nt' (CM_block (sr ?_))
  refine wv (fun W hm => rv_eql rfl rfl) ?_
  refine wa (nt' ?_)
  by_cases h29 : x0.Kind = 1
  ·have g30 := beq_iff_eq.2 h29
   refine CM_condT rfl g30 ?_
   refine sr ?_
   refine wv (vf underlying26 rfl type24) ?_
   refine wv (fun W hm => rv_loadN (cs := [.int .i64 x0.Row.Id, .slice A4 x0.Row.Values.length c5]) underlying24 type24 rfl rfl (hm.boxPart (n := 0) rfl rfl)) ?_
   refine wcv (cl_fn cb30 rfl) (fun W hm => impl_IsRow_c W _ x0.Row (tyRow_mk (x := x0.Row) (hm.rdS0 r7))) ?_
   refine wm ?_
   rcases Bool.eq_false_or_eq_true (impl_IsRow_m x0.Row) with g32 | g32
   ·
    refine wg (vf underlying26 rfl type3) g32 ?_
    refine wg (vl 0 3 underlying3) g32 ?_
    refine wg (fun W hm => rv_eql rfl rfl) g32 ?_
    refine wv (vpT g32) ?_
    refine wm ?_
    by_cases h33 : x0.Field = 0
    ·have g34 := beq_iff_eq.2 h33
     refine wg (vf underlying26 rfl type3) g34 ?_
     refine wg (vl 0 4 underlying3) g34 ?_
     refine wg (fun W hm => rv_eql rfl rfl) g34 ?_
     refine wv (vpT g34) ?_
     refine wa (nt' (CM_ret (QM_block_ret (QM_then_ret ?_))))
     exact rtb (h := cond_f g10 (cond_t g30 (cond_t g32 (cond_t g34 (rfl)))))
    ·have g34 := beq_eq_false_iff_ne.2 h33
     refine ws g34 ?_
     refine ws g34 ?_
     refine ws g34 ?_
     refine wv (vpF g34) ?_
     refine wa (nt' (CM_ret (QM_block_ret (QM_then_ret ?_))))
     exact rtb (h := cond_f g10 (cond_t g30 (cond_t g32 (cond_f g34 (rfl)))))
   ·
    refine ws g32 ?_
    refine ws g32 ?_
    refine ws g32 ?_
    refine wv (vpF g32) ?_
    refine wm ?_
    refine wk ?_
    refine wk ?_
    refine wk ?_
    refine wv (vpF rfl) ?_
    refine wa (nt' (CM_ret (QM_block_ret (QM_then_ret ?_))))
    exact rtb (h := cond_f g10 (cond_t g30 (cond_f g32 (rfl))))
  ·have g30 := beq_eq_false_iff_ne.2 h29
   refine CM_condF rfl g30 ?_
   refine sr ?_
   refine wv (fun W hm => rv_eql rfl rfl) ?_
   refine wa (nt' ?_)
   by_cases h35 : x0.Kind = 2
   ·have g36 := beq_iff_eq.2 h35
    refine CM_condT rfl g36 ?_
    refine sr (wm (wm ?_))
    refine wk ?_
    refine wk ?_
    refine wk ?_
    refine wv (vpF rfl) ?_
    refine wm ?_
    refine wk ?_
    refine wk ?_
    refine wk ?_
    refine wv (vpF rfl) ?_
    refine wa (nt' (CM_ret (QM_block_ret (QM_then_ret ?_))))
    exact rtb (h := cond_f g10 (cond_f g30 (cond_t g36 (rfl))))
   ·have g36 := beq_eq_false_iff_ne.2 h35
    refine CM_condF rfl g36 ?_
    refine sr ?_
    refine wv (fun W hm => rv_eql rfl rfl) ?_
    refine wa (nt' ?_)
    by_cases h37 : x0.Kind = 3
    ·have g38 := beq_iff_eq.2 h37
     refine CM_condT rfl g38 ?_
     refine sr (wm (wm ?_))
     refine wk ?_
     refine wk ?_
     refine wk ?_
     refine wv (vpF rfl) ?_
     refine wm ?_
     refine wk ?_
     refine wk ?_
     refine wk ?_
     refine wv (vpF rfl) ?_
     refine wa (nt' (CM_ret (QM_block_ret (QM_then_ret ?_))))
     exact rtb (h := cond_f g10 (cond_f g30 (cond_f g36 (cond_t g38 (rfl)))))
    ·have g38 := beq_eq_false_iff_ne.2 h37
     refine CM_condF rfl g38 ?_
     refine CM_skip (QM_block_normal (QM_then (sr (wa (nt' (CM_ret ?_))))))
     exact rtb (h := cond_f g10 (cond_f g30 (cond_f g36 (cond_f g38 (rfl)))))

theorem within_same (x a b : Int) : impl_within_m x a b = spec_l1In_m x a b := rfl
theorem isField_same (x : Int) : impl_isField_m x = spec_l1In_m x 0 2 := rfl
theorem IsUpdate_same (x : DUpdate) : impl_IsUpdate_m x = spec_IsUpdate_m x := by
  unfold impl_IsUpdate_m spec_IsUpdate_m
  rw [IsRow_same, within_same, within_same, isField_same]
  cases spec_l1In_m x.Row.Id 0 999 <;> cases h1 : x.Kind == 1 <;> cases x.Kind == 2 <;> cases x.Kind == 3 <;> cases spec_IsRow_m x.Row <;> cases (((x.Row.Values.length : Nat) : Int) == 0) <;> rfl
theorem impl_Update_rng {x : DUpdate} (h : impl_IsUpdate_m x = true) : (0 ≤ x.Row.Id ∧ x.Row.Id ≤ 999) ∧ (0 ≤ x.Field ∧ x.Field ≤ 2) ∧ (0 ≤ x.Value ∧ x.Value ≤ 99) := spec_Update_rng ((IsUpdate_same x).symm.trans h)
def impl_FormatUpdate_m (x0 : DUpdate) : ByteArray :=
 cond (impl_IsUpdate_m x0) (cond (x0.Kind == 1) ((sB [105, 110, 115, 101, 114, 116, 32]) ++ (impl_FormatRow_m x0.Row)) (cond (x0.Kind == 2) ((sB [100, 101, 108, 101, 116, 101, 32]) ++ (impl_FormatInt_m x0.Row.Id)) ((((((sB [115, 101, 116, 32]) ++ (impl_FormatInt_m x0.Row.Id)) ++ (sB [32, 102])) ++ (impl_FormatInt_m x0.Field)) ++ (sB [32])) ++ (impl_FormatInt_m x0.Value)))) (sB [])
theorem cb17 : Cb Tryd.prog 17 := ⟨f17, _, func17, rfl, by decide⟩
theorem impl_FormatUpdate_c (w : World) (z0 : List Value) (x0 : DUpdate) (r_0 : tyUpdate.rd w w.heap.size z0 x0) (hT : TabOK w.heap.size w) :
  Calls Tryd.prog 17 #[.agg z0.toArray] w fun e w' => e = .returned (.string (impl_FormatUpdate_m x0)) ∧ Below w.heap.size w w' := by
 obtain ⟨v1, rfl, r2⟩ := tyUpdate_rd r_0
 obtain ⟨m3, A4, c5, rfl, q6, r7⟩ := rdS_op r2
 refine ce1 (L := [(0, .agg #[.int .i64 x0.Kind, .int .i64 x0.Row.Id, .slice A4 x0.Row.Values.length c5, .int .i64 x0.Field, .int .i64 x0.Value])]) (N := 36) func17 ?_
 refine sr ?_
 refine WM_box rfl (Wd_none rfl) (by decide) (fun p8 => ?_)
 refine wa (nt' (CM_seq (sr ?_)))
 refine wv (fun W hm => rv_loadN (cs := [.int .i64 x0.Kind, .int .i64 x0.Row.Id, .slice A4 x0.Row.Values.length c5, .int .i64 x0.Field, .int .i64 x0.Value]) underlying26 type26 rfl rfl (hm.boxCells (n := 0) rfl)) ?_
 refine wcv (cl_fn cb16 rfl) (fun W hm => impl_IsUpdate_c W _ x0 (tyUpdate_mk (x := x0) (hm.rdS0 r7))) ?_
 refine wv vnot ?_
 refine nt' ?_
 rcases Bool.eq_false_or_eq_true (impl_IsUpdate_m x0) with g10 | g10
 ·
  have hup := impl_Update_rng g10
  refine CM_condF rfl (nt g10) ?_
  refine CM_skip (QM_then (CM_seq (sr ?_)))
  refine wv (vf underlying26 rfl type3) ?_
  refine wv (vl 0 0 underlying3) ?_
  refine nt' (CM_block (sr ?_))
  refine wv (fun W hm => rv_eql rfl rfl) ?_
  refine wa (nt' ?_)
  by_cases h11 : x0.Kind = 1
  ·have g12 := beq_iff_eq.2 h11
   refine CM_condT rfl g12 ?_
   refine sr ?_
   refine wv (vf underlying26 rfl type24) ?_
   refine wv (fun W hm => rv_loadN (cs := [.int .i64 x0.Row.Id, .slice A4 x0.Row.Values.length c5]) underlying24 type24 rfl rfl (hm.boxPart (n := 0) rfl rfl)) ?_
   refine wcv (cl_fn cb32 rfl) (fun W hm => impl_FormatRow_c W _ x0.Row (tyRow_mk (x := x0.Row) (hm.rdS0 r7)) (hT.mem hm)) ?_
   have hzr := impl_FormatRow_sz x0.Row
   have hz13 : ByteArray.size (sB [105, 110, 115, 101, 114, 116, 32]) = 7 := rfl
   refine wv (fun W hm => rv_addS (p := (sB [105, 110, 115, 101, 114, 116, 32])) (q := (impl_FormatRow_m x0.Row)) rfl rfl (by omega)) ?_
   have hz14 := sz_app (sB [105, 110, 115, 101, 114, 116, 32]) (impl_FormatRow_m x0.Row)
   refine wa (nt' (CM_ret (QM_block_ret (QM_then_ret ?_))))
   exact QM_ret1 rfl rfl (fun W hm => ⟨ret_s (show impl_FormatUpdate_m x0 = ((sB [105, 110, 115, 101, 114, 116, 32]) ++ (impl_FormatRow_m x0.Row)) from cond_t g10 (cond_t g12 (rfl))), hm.below⟩)
  ·have g12 := beq_eq_false_iff_ne.2 h11
   refine CM_condF rfl g12 ?_
   refine sr ?_
   refine wv (fun W hm => rv_eql rfl rfl) ?_
   refine wa (nt' ?_)
   by_cases h15 : x0.Kind = 2
   ·have g16 := beq_iff_eq.2 h15
    refine CM_condT rfl g16 ?_
    refine sr ?_
    refine wv (vf underlying26 rfl type24) ?_
    refine wv (fun W hm => rv_fieldA (o := 1) underlying24 rfl type3 (by decide) rfl rfl) ?_
    refine wv (vl 0 1 underlying3) ?_
    refine wcv (cl_fn cb33 rfl) (fun W hm => impl_FormatInt_c W x0.Row.Id (⟨by omega, by omega⟩) (hT.mem hm)) ?_
    have hz17 := impl_FormatInt_sz x0.Row.Id (by omega)
    have hz18 : ByteArray.size (sB [100, 101, 108, 101, 116, 101, 32]) = 7 := rfl
    refine wv (fun W hm => rv_addS (p := (sB [100, 101, 108, 101, 116, 101, 32])) (q := (impl_FormatInt_m x0.Row.Id)) rfl rfl (by omega)) ?_
    have hz19 := sz_app (sB [100, 101, 108, 101, 116, 101, 32]) (impl_FormatInt_m x0.Row.Id)
    refine wa (nt' (CM_ret (QM_block_ret (QM_then_ret ?_))))
    exact QM_ret1 rfl rfl (fun W hm => ⟨ret_s (show impl_FormatUpdate_m x0 = ((sB [100, 101, 108, 101, 116, 101, 32]) ++ (impl_FormatInt_m x0.Row.Id)) from cond_t g10 (cond_f g12 (cond_t g16 (rfl)))), hm.below⟩)
   ·have g16 := beq_eq_false_iff_ne.2 h15
    refine CM_condF rfl g16 ?_
    refine CM_skip (QM_block_normal (QM_then (CM_seq ?_)))
    refine CM_regionD (by kernel_rfl) (by kernel_rfl) ?_
    refine qv (vf underlying26 rfl type24) ?_
    refine qv (fun W hm => rv_fieldA (o := 1) underlying24 rfl type3 (by decide) rfl rfl) ?_
    refine qv (vl 0 1 underlying3) ?_
    refine QR_callV (cl_fn cb33 rfl) (fun W hm => impl_FormatInt_c W x0.Row.Id (⟨by omega, by omega⟩) (hT.mem hm)) (Wd_none rfl) (by decide) ?_
    have hz20 := impl_FormatInt_sz x0.Row.Id (by omega)
    have hz21 : ByteArray.size (sB [115, 101, 116, 32]) = 4 := rfl
    refine qv (fun W hm => rv_addS (p := (sB [115, 101, 116, 32])) (q := (impl_FormatInt_m x0.Row.Id)) rfl rfl (by omega)) ?_
    have hz22 := sz_app (sB [115, 101, 116, 32]) (impl_FormatInt_m x0.Row.Id)
    have hz23 : ByteArray.size (sB [32, 102]) = 2 := rfl
    refine qv (fun W hm => rv_addS (p := ((sB [115, 101, 116, 32]) ++ (impl_FormatInt_m x0.Row.Id))) (q := (sB [32, 102])) rfl rfl (by omega)) ?_
    have hz24 := sz_app ((sB [115, 101, 116, 32]) ++ (impl_FormatInt_m x0.Row.Id)) (sB [32, 102])
    refine qv (vf underlying26 rfl type3) ?_
    refine qv (vl 0 3 underlying3) ?_
    refine QR_callV (cl_fn cb33 rfl) (fun W hm => impl_FormatInt_c W x0.Field (⟨by omega, by omega⟩) (hT.mem hm)) (Wd_none rfl) (by decide) ?_
    have hz25 := impl_FormatInt_sz x0.Field (by omega)
    refine qv (fun W hm => rv_addS (p := (((sB [115, 101, 116, 32]) ++ (impl_FormatInt_m x0.Row.Id)) ++ (sB [32, 102]))) (q := (impl_FormatInt_m x0.Field)) rfl rfl (by omega)) ?_
    have hz26 := sz_app (((sB [115, 101, 116, 32]) ++ (impl_FormatInt_m x0.Row.Id)) ++ (sB [32, 102])) (impl_FormatInt_m x0.Field)
    have hz27 : ByteArray.size (sB [32]) = 1 := rfl
    refine qv (fun W hm => rv_addS (p := ((((sB [115, 101, 116, 32]) ++ (impl_FormatInt_m x0.Row.Id)) ++ (sB [32, 102])) ++ (impl_FormatInt_m x0.Field))) (q := (sB [32])) rfl rfl (by omega)) ?_
    have hz28 := sz_app ((((sB [115, 101, 116, 32]) ++ (impl_FormatInt_m x0.Row.Id)) ++ (sB [32, 102])) ++ (impl_FormatInt_m x0.Field)) (sB [32])
    refine qv (vf underlying26 rfl type3) ?_
    refine qv (vl 0 4 underlying3) ?_
    refine QR_callV (cl_fn cb33 rfl) (fun W hm => impl_FormatInt_c W x0.Value (⟨by omega, by omega⟩) (hT.mem hm)) (Wd_none rfl) (by decide) ?_
    have hz29 := impl_FormatInt_sz x0.Value (by omega)
    refine qv (fun W hm => rv_addS (p := (((((sB [115, 101, 116, 32]) ++ (impl_FormatInt_m x0.Row.Id)) ++ (sB [32, 102])) ++ (impl_FormatInt_m x0.Field)) ++ (sB [32]))) (q := (impl_FormatInt_m x0.Value)) rfl rfl (by omega)) ?_
    have hz30 := sz_app (((((sB [115, 101, 116, 32]) ++ (impl_FormatInt_m x0.Row.Id)) ++ (sB [32, 102])) ++ (impl_FormatInt_m x0.Field)) ++ (sB [32])) (impl_FormatInt_m x0.Value)
    refine qv (fun W hm => rv_assign rfl) ?_
    refine nq' (CM_ret ?_)
    exact QM_ret1 rfl rfl (fun W hm => ⟨ret_s (show impl_FormatUpdate_m x0 = ((((((sB [115, 101, 116, 32]) ++ (impl_FormatInt_m x0.Row.Id)) ++ (sB [32, 102])) ++ (impl_FormatInt_m x0.Field)) ++ (sB [32])) ++ (impl_FormatInt_m x0.Value)) from cond_t g10 (cond_f g12 (cond_f g16 (rfl)))), hm.below⟩)
 ·
  refine CM_condT rfl (nf g10) ?_
  refine sr (wa (nt' (CM_ret (QM_then_ret ?_))))
  exact QM_ret1 rfl rfl (fun W hm => ⟨ret_s (show impl_FormatUpdate_m x0 = (sB []) from cond_f g10 (rfl)), hm.below⟩)

def impl_ParseUpdate_m (x0 : ByteArray) : (DUpdate × Bool) :=
 cond (impl_IsUpdate_m (impl_readUpdate_m (splS x0 (sB [32])))) (cond (eqS (impl_FormatUpdate_m (impl_readUpdate_m (splS x0 (sB [32])))) x0) ((impl_readUpdate_m (splS x0 (sB [32]))), true) ((⟨0, (⟨0, []⟩ : DRow), 0, 0⟩ : DUpdate), false)) ((⟨0, (⟨0, []⟩ : DRow), 0, 0⟩ : DUpdate), false)
theorem cb5 : Cb Tryd.prog 5 := ⟨f5, _, func5, rfl, by decide⟩
theorem impl_ParseUpdate_c (w : World) (x0 : ByteArray) (hs_0 : x0.size ≤ 1048576) (hT : TabOK w.heap.size w) :
  Calls Tryd.prog 5 #[.string x0] w fun e w' => ∃ v : List Value, e = .returned (.tuple #[.agg v.toArray, .bool ((impl_ParseUpdate_m x0).2)]) ∧ Mem w.heap.size w [iOwn tyUpdate v (impl_ParseUpdate_m x0).1] w' := by
 refine ce1 (L := [(0, .string x0)]) (N := 19) func5 ?_
 refine sr ?_
 refine WM_alloc type26 rfl (Wd_none rfl) (by decide) (fun p1 => ?_)
 refine wa (nt' (sr (wm ?_)))
 have hz2 : ByteArray.size (sB [32]) = 1 := rfl
 let K1 : List Value := [.int .i64 0, .int .i64 0, .slice none 0 0, .int .i64 0, .int .i64 0]
 refine WM_callW (χ := Value) (val := fun x => x) (js := fun x => (iOwn (tSl tStr 9) [x] (splS x0 (sB [32])) :: [iBox p1 26 K1])) (cl_fn ⟨f15, _, func15, rfl, by decide⟩ rfl) (fun W hm => split_c W x0 (sB [32]) (by omega) (by omega) (hT.mem hm) hm) (Wd_none rfl) (by decide) (fun v3 => ?_)
 refine WM_form (n := 0) rfl ?_
 rintro A4 c5 rfl m6
 have hl8 := splS_le x0 (sB [32]) (by omega)
 refine wcs tyUpdate (impl_readUpdate_m (splS x0 (sB [32]))) (cl_fn cb14 rfl) (fun W hm => impl_readUpdate_c W _ (splS x0 (sB [32])) (hm.rdSI (n := 0) rfl) (show _ ≤ 68719476736 from by omega) (by omega) (fun j => Nat.le_trans (splS_gt _ _ j) (by omega)) (hT.mem hm)) (fun z9 => ?_)
 refine tyUpdate_sp ?_
 rintro v10 rfl
 refine WM_form (n := 0) rfl ?_
 rintro A11 c12 rfl m13
 refine WM_alloc type26 rfl (Wd_none rfl) (by decide) (fun p15 => ?_)
 let K2 : List Value := [.int .i64 ((impl_readUpdate_m (splS x0 (sB [32]))).Kind), .int .i64 ((impl_readUpdate_m (splS x0 (sB [32]))).Row.Id), .slice A11 ((impl_readUpdate_m (splS x0 (sB [32]))).Row.Values).length c12, .int .i64 ((impl_readUpdate_m (splS x0 (sB [32]))).Field), .int .i64 ((impl_readUpdate_m (splS x0 (sB [32]))).Value)]
 let K3 : List Value := [.slice A11 ((impl_readUpdate_m (splS x0 (sB [32]))).Row.Values).length c12]
 let I4 : It := iOwn (tSl tInt 3) K3 ((impl_readUpdate_m (splS x0 (sB [32]))).Row.Values)
 let I5 : It := iOwn (tSl tStr 9) [.slice A4 (splS x0 (sB [32])).length c5] (splS x0 (sB [32]))
 refine sb 0 K2 [I4, I5, iBox p1 26 K1] (fun W hm => hm) type26 ?_
 refine nt' (CM_seq (sr ?_))
 refine wv (fun W hm => rv_loadN (cs := K2) underlying26 type26 rfl rfl (hm.boxCells (n := 0) rfl)) ?_
 refine wcv (cl_fn cb16 rfl) (fun W hm => impl_IsUpdate_c W _ (impl_readUpdate_m (splS x0 (sB [32]))) (tyUpdate_mk (x := (impl_readUpdate_m (splS x0 (sB [32])))) (hm.rdSI (n := 1) rfl))) ?_
 refine wv vnot ?_
 refine wm ?_
 rcases Bool.eq_false_or_eq_true (impl_IsUpdate_m (impl_readUpdate_m (splS x0 (sB [32])))) with g17 | g17
 ·
  refine wg (fun W hm => rv_loadN (cs := K2) underlying26 type26 rfl rfl (hm.boxCells (n := 0) rfl)) (nt g17) ?_
  refine WM_callV (cl_fn cb17 rfl) (fun W hm => impl_FormatUpdate_c W _ (impl_readUpdate_m (splS x0 (sB [32]))) (tyUpdate_mk (x := (impl_readUpdate_m (splS x0 (sB [32])))) (hm.rdSI (n := 1) rfl)) (hT.mem hm)) (Wd_some rfl rfl rfl (bw (nt g17) rfl)) (by decide) ?_
  refine wg vmv (nt g17) ?_
  refine wg (fun W hm => rv_neqS (p := (impl_FormatUpdate_m (impl_readUpdate_m (splS x0 (sB [32]))))) (q := x0) underlying9 rfl rfl) (nt g17) ?_
  refine wv (vpF (nt g17)) ?_
  refine nt' ?_
  rcases Bool.eq_false_or_eq_true (eqS (impl_FormatUpdate_m (impl_readUpdate_m (splS x0 (sB [32])))) x0) with g19 | g19
  ·
   refine CM_condF rfl (nt g19) ?_
   refine CM_skip (QM_then (sr ?_))
   refine wv (fun W hm => rv_loadN (cs := K2) underlying26 type26 rfl rfl (hm.boxCells (n := 0) rfl)) ?_
   refine sb 0 K2 [iBox p15 26 K2, I4, I5] (pk [3, 0, 1, 2]) type26 ?_
   refine wa (nt' (CM_ret ?_))
   have he20 := (show impl_ParseUpdate_m x0 = ((impl_readUpdate_m (splS x0 (sB [32]))), true) from cond_t g17 (cond_t g19 (rfl)))
   refine QM_r2 rfl (RR_cell (n := 0) rfl rfl underlying26 type26 rfl) (RR_tmp rfl) (fun W hm => ⟨K2, ?_, ?_⟩)
   ·first | rw [he20] | rfl
    try rfl
   ·rw [he20]; exact Mem.join (is := [I4]) (js := []) (fun _ _ hs => tyUpdate_join (x := (impl_readUpdate_m (splS x0 (sB [32])))) hs) (hm.pick [2] (by decide))
  ·
   refine CM_condT rfl (nf g19) ?_
   refine sr ?_
   refine wv (fun W hm => rv_build (cs := K1) rfl (by kernel_rfl)) ?_
   refine sb 0 K1 [iBox p15 26 K2, I4, I5] (pk [3, 0, 1, 2]) type26 ?_
   refine wa (nt' (CM_ret (QM_then_ret ?_)))
   refine QM_items (fun W hm => hm.addNil (E := tInt) (e := 3)) ?_
   have he22 := (show impl_ParseUpdate_m x0 = ((⟨0, (⟨0, []⟩ : DRow), 0, 0⟩ : DUpdate), false) from cond_t g17 (cond_f g19 (rfl)))
   refine QM_r2 rfl (RR_cell (n := 1) rfl rfl underlying26 type26 rfl) (RR_tmp rfl) (fun W hm => ⟨K1, ?_, ?_⟩)
   ·first | rw [he22] | rfl
    try rfl
   ·rw [he22]; exact Mem.join (is := [iOwn (tSl tInt 3) [.slice none 0 0] []]) (js := []) (fun _ _ hs => tyUpdate_join (x := (⟨0, (⟨0, []⟩ : DRow), 0, 0⟩ : DUpdate)) hs) (hm.pick [0] (by decide))
 ·
  refine ws (nf g17) ?_
  refine ws (nf g17) ?_
  refine ws (nf g17) ?_
  refine ws (nf g17) ?_
  refine wv (vpT (nf g17)) ?_
  refine nt' ?_
  refine CM_condT rfl rfl ?_
  refine sr ?_
  refine wv (fun W hm => rv_build (cs := K1) rfl (by kernel_rfl)) ?_
  refine sb 0 K1 [iBox p15 26 K2, I4, I5] (pk [3, 0, 1, 2]) type26 ?_
  refine wa (nt' (CM_ret (QM_then_ret ?_)))
  refine QM_items (fun W hm => hm.addNil (E := tInt) (e := 3)) ?_
  have he24 := (show impl_ParseUpdate_m x0 = ((⟨0, (⟨0, []⟩ : DRow), 0, 0⟩ : DUpdate), false) from cond_f g17 (rfl))
  refine QM_r2 rfl (RR_cell (n := 1) rfl rfl underlying26 type26 rfl) (RR_tmp rfl) (fun W hm => ⟨K1, ?_, ?_⟩)
  ·first | rw [he24] | rfl
   try rfl
  ·rw [he24]; exact Mem.join (is := [iOwn (tSl tInt 3) [.slice none 0 0] []]) (js := []) (fun _ _ hs => tyUpdate_join (x := (⟨0, (⟨0, []⟩ : DRow), 0, 0⟩ : DUpdate)) hs) (hm.pick [0] (by decide))

def laws_eqIntS_b1 (x0 : (List Int)) (x1 : (List Int)) (k13 : Nat) : Bool ⊕ (Unit) :=
 cond ((gt x0 k13) != (gt x1 k13)) (Sum.inl false) (Sum.inr ())
def laws_eqIntS_m (x0 : (List Int)) (x1 : (List Int)) : Bool :=
 cond (((x0.length : Nat) : Int) != ((x1.length : Nat) : Int)) false (Sum.elim id (fun (s : Unit) => true) (rng (R := Bool) (fun k (_ : Unit) => laws_eqIntS_b1 x0 x1 k) (x0.length - 0) 0 ()))
theorem cb34 : Cb Tryd.prog 34 := ⟨f34, _, func34, rfl, by decide⟩
theorem laws_eqIntS_c (w : World) (z0 : Value) (x0 : (List Int)) (z1 : Value) (x1 : (List Int)) (r_0 : rdS tInt w w.heap.size z0 x0) (r_1 : rdS tInt w w.heap.size z1 x1) :
  Calls Tryd.prog 34 #[z0, z1] w fun e w' => e = .returned (.bool (laws_eqIntS_m x0 x1)) ∧ Below w.heap.size w w' := by
 obtain ⟨m1, A2, c3, rfl, q4, r5⟩ := rdS_op r_0
 obtain ⟨m6, A7, c8, rfl, q9, r10⟩ := rdS_op r_1
 refine ce2 (L := [(0, .slice A2 x0.length c3), (1, .slice A7 x1.length c8)]) (N := 26) func34 ?_
 refine sr (wa (nt' (CM_seq (sr (wm ?_)))))
 refine wv (vlen underlying22) ?_
 refine wm ?_
 refine wv (vlen underlying22) ?_
 refine wv vneq ?_
 refine nt' ?_
 by_cases h11 : ((x0.length : Nat) : Int) = ((x1.length : Nat) : Int)
 ·have g12 : (((x0.length : Nat) : Int) != ((x1.length : Nat) : Int)) = false := by rw [h11]; exact bne_self_eq_false _
  refine CM_condF rfl g12 ?_
  refine CM_skip (QM_then (CM_seq (sr (wa (nt' (CM_block ?_))))))
  let F1 := fun k (_ : Unit) => laws_eqIntS_b1 x0 x1 k
  let R2 := rng (R := Bool) F1
  refine CM_loop (σ := Nat × (Unit) × (Unit)) (fun s => [(0, .slice A2 x0.length c3), (1, .slice A7 x1.length c8), (5, .int .i64 ((s.1 : Nat) : Int))]) (fun s => []) (fun s => s.1 ≤ x0.length ∧ R2 (x0.length - s.1) s.1 s.2.1 = R2 (x0.length - 0) 0 ()) (fun s => x0.length - s.1) (0, (), ()) sl3 (fun W hm => hm) ⟨(by omega), rfl⟩ ?_
  rintro ⟨k13, ⟨⟩, ⟨⟩⟩ H16
  obtain ⟨hk14, hF15⟩ : k13 ≤ x0.length ∧ R2 (x0.length - k13) k13 () = R2 (x0.length - 0) 0 () := H16
  show CM Tryd.prog 26 _ _ _ _ [(0, .slice A2 x0.length c3), (1, .slice A7 x1.length c8), (5, .int .i64 ((k13 : Nat) : Int))] []
  refine CM_seq (sr (wm (wm ?_)))
  refine wv (vlen underlying22) ?_
  refine wv vlss ?_
  refine nt' ?_
  by_cases hl17 : k13 < x0.length
  ·have g18 := dlT hl17
   refine CM_condT rfl g18 ?_
   refine CM_skip (QM_then (CM_seq (CM_block (CM_seq ?_))))
   refine CM_regionD (by kernel_rfl) (by kernel_rfl) ?_
   refine qm (qm ?_)
   obtain ⟨a19, rfl, hb20, he21⟩ := q4 (by omega)
   refine qv (vix 1 k13 underlying22 type3) ?_
   refine qv (fun W hm => rv_load underlying3 rfl rfl ((hm.cell0 (show (a19.add (k13 * 1)).block < w.heap.size from by rw [add_block]; exact hb20.1)).trans (rdS_int he21 k13 (by omega)))) ?_
   refine qm (qm ?_)
   obtain ⟨a22, rfl, hb23, he24⟩ := q9 (by omega)
   refine qv (vix 1 k13 underlying22 type3) ?_
   refine qv (fun W hm => rv_load underlying3 rfl rfl ((hm.cell0 (show (a22.add (k13 * 1)).block < w.heap.size from by rw [add_block]; exact hb23.1)).trans (rdS_int he24 k13 (by omega)))) ?_
   refine qv vneq ?_
   refine nq' ?_
   by_cases h25 : (gt x0 k13) = (gt x1 k13)
   ·have g26 : ((gt x0 k13) != (gt x1 k13)) = false := by rw [h25]; exact bne_self_eq_false _
    refine CM_condF rfl g26 ?_
    refine CM_skip (QM_block_normal (QM_then (CM_region (wm ?_))))
    refine wv (vadN k13 1 (by omega)) ?_
    refine wa (WM_nil ?_)
    have hn27 := rng_next (R := Bool) (body := F1) (k := k13) (s := ()) (s' := ()) (show k13 < x0.length from by omega) (cond_f g26 (rfl)) hF15
    exact QM_round (k13 + 1, (), ()) sl3 (fun W hm => hm) ⟨(by omega), hn27⟩ (rl (by omega))
   ·have g26 : ((gt x0 k13) != (gt x1 k13)) = true := bne_iff_ne.2 h25
    refine CM_condT rfl g26 ?_
    refine sr (wa (nt' (CM_ret (QM_block_ret (QM_then_ret (QM_then_ret (QM_block_ret (QM_then_ret ?_))))))))
    exact rtb (h := cond_f g12 (fin_inl (rng_ret (body := F1) (k := k13) (s := ()) (show k13 < x0.length from by omega) (cond_t g26 (rfl)) hF15) rfl))
  ·have g18 := dlF hl17
   refine CM_condF rfl g18 ?_
   refine CM_exit (QM_then_exit (QM_then_exit ?_))
   have hE28 : R2 (x0.length - 0) 0 () = Sum.inr () := rng_end hl17 hF15
   refine QM_block_hit (QM_then (sr (wa (nt' (CM_ret ?_)))))
   exact rtb (h := cond_f g12 (fin_inr hE28 (rfl)))
 ·have g12 : (((x0.length : Nat) : Int) != ((x1.length : Nat) : Int)) = true := bne_iff_ne.2 h11
  refine CM_condT rfl g12 ?_
  refine sr (wa (nt' (CM_ret (QM_then_ret ?_))))
  exact rtb (h := cond_t g12 (rfl))

def laws_eqRow_m (x0 : DRow) (x1 : DRow) : Bool :=
 cond (x0.Id != x1.Id) false (cond (laws_eqIntS_m x0.Values x1.Values) true false)
theorem cb18 : Cb Tryd.prog 18 := ⟨f18, _, func18, rfl, by decide⟩
theorem laws_eqRow_c (w : World) (z0 : List Value) (x0 : DRow) (z1 : List Value) (x1 : DRow) (r_0 : tyRow.rd w w.heap.size z0 x0) (r_1 : tyRow.rd w w.heap.size z1 x1) :
  Calls Tryd.prog 18 #[.agg z0.toArray, .agg z1.toArray] w fun e w' => e = .returned (.bool (laws_eqRow_m x0 x1)) ∧ Below w.heap.size w w' := by
 obtain ⟨v1, rfl, r2⟩ := tyRow_rd r_0
 obtain ⟨m3, A4, c5, rfl, q6, r7⟩ := rdS_op r2
 obtain ⟨v8, rfl, r9⟩ := tyRow_rd r_1
 obtain ⟨m10, A11, c12, rfl, q13, r14⟩ := rdS_op r9
 refine ce2 (L := [(0, .agg #[.int .i64 x0.Id, .slice A4 x0.Values.length c5]), (1, .agg #[.int .i64 x1.Id, .slice A11 x1.Values.length c12])]) (N := 16) func18 ?_
 refine sr ?_
 refine WM_box rfl (Wd_none rfl) (by decide) (fun p15 => ?_)
 refine WM_box rfl (Wd_none rfl) (by decide) (fun p16 => ?_)
 refine wa (nt' (CM_seq (sr ?_)))
 refine wv (vf underlying24 rfl type3) ?_
 refine wv (vl 1 0 underlying3) ?_
 refine wv (vf underlying24 rfl type3) ?_
 refine wv (vl 0 0 underlying3) ?_
 refine wv vneq ?_
 refine nt' ?_
 by_cases h17 : x0.Id = x1.Id
 ·have g18 : (x0.Id != x1.Id) = false := by rw [h17]; exact bne_self_eq_false _
  refine CM_condF rfl g18 ?_
  refine CM_skip (QM_then (CM_seq (sr ?_)))
  refine wv (vf underlying24 rfl type22) ?_
  refine wv (vl 1 1 underlying22) ?_
  refine wv (vf underlying24 rfl type22) ?_
  refine wv (vl 0 1 underlying22) ?_
  refine wcv (cl_fn cb34 rfl) (fun W hm => laws_eqIntS_c W _ x0.Values _ x1.Values (hm.rdS0 r7) (hm.rdS0 r14)) ?_
  refine wv vnot ?_
  refine nt' ?_
  rcases Bool.eq_false_or_eq_true (laws_eqIntS_m x0.Values x1.Values) with g20 | g20
  ·
   refine CM_condF rfl (nt g20) ?_
   refine CM_skip (QM_then (sr (wa (nt' (CM_ret ?_)))))
   exact rtb (h := cond_f g18 (cond_t g20 (rfl)))
  ·
   refine CM_condT rfl (nf g20) ?_
   refine sr (wa (nt' (CM_ret (QM_then_ret ?_))))
   exact rtb (h := cond_f g18 (cond_f g20 (rfl)))
 ·have g18 : (x0.Id != x1.Id) = true := bne_iff_ne.2 h17
  refine CM_condT rfl g18 ?_
  refine sr (wa (nt' (CM_ret (QM_then_ret ?_))))
  exact rtb (h := cond_t g18 (rfl))

end Go.Proofs.YtfdaaliffcfjjaaDoor
