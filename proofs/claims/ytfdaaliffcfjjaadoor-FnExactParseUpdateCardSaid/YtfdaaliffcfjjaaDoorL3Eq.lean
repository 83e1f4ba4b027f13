/-
  The program and the reference compute the same: plain laws over what the walks showed.
-/
import Derived.Test.YtfdaaliffcfjjaaDoorL3Law
namespace Go.Proofs.YtfdaaliffcfjjaaDoor
open Go.RowKit
theorem FI_same (x : Int) (h : -9223372036854775808 ≤ x ∧ x ≤ 9223372036854775807) : spec_FormatInt_m x = impl_FormatInt_m x := spec_FormatInt_is x h
theorem join3 (a b c s : List UInt8) : joinB [sB a, sB b, sB c] (sB s) = sB (a ++ (s ++ (b ++ (s ++ c)))) := by
  unfold joinB
  refine congrArg sB ?_
  show Lib.join [a, b, c] s = _
  unfold Lib.join
  simp [List.intercalate, List.append_assoc]
theorem nt_three (a b c : Int) : impl_numbersText_m [a, b, c] = joinB [impl_FormatInt_m a, impl_FormatInt_m b, impl_FormatInt_m c] (sB [44]) := rfl
theorem l3_three (a b c : Int) : spec_l3List_m [a, b, c] = ((((sB [] ++ spec_FormatInt_m a) ++ sB [44]) ++ spec_FormatInt_m b) ++ sB [44]) ++ spec_FormatInt_m c := rfl
theorem numbersText_same {l : List Int} (h : l.length = 3 ∧ ∀ k, k < 3 → 0 ≤ gt l k ∧ gt l k ≤ 99) : impl_numbersText_m l = spec_l3List_m l := by
  obtain ⟨h1, h2⟩ := h
  match l, h1 with
  | [a, b, c], _ =>
    have ha : 0 ≤ a ∧ a ≤ 99 := h2 0 (by omega)
    have hb : 0 ≤ b ∧ b ≤ 99 := h2 1 (by omega)
    have hc : 0 ≤ c ∧ c ≤ 99 := h2 2 (by omega)
    rw [nt_three, l3_three, FI_same a (by omega), FI_same b (by omega), FI_same c (by omega)]
    show joinB [sB (Lib.itoa a), sB (Lib.itoa b), sB (Lib.itoa c)] (sB [44]) = sB [] ++ sB (Lib.itoa a) ++ sB [44] ++ sB (Lib.itoa b) ++ sB [44] ++ sB (Lib.itoa c)
    rw [join3, sB_app, sB_app, sB_app, sB_app, sB_app]
    refine congrArg sB ?_
    simp
theorem FormatRow_same (x : DRow) : impl_FormatRow_m x = spec_FormatRow_m x := by
  unfold impl_FormatRow_m spec_FormatRow_m
  rw [IsRow_same]
  cases h : spec_IsRow_m x with
  | false => rfl
  | true =>
    have hr := spec_Row_rng h
    rw [cond_true, cond_true, FI_same x.Id (by omega), numbersText_same hr.2]
theorem FormatUpdate_same (x : DUpdate) : impl_FormatUpdate_m x = spec_FormatUpdate_m x := by
  unfold impl_FormatUpdate_m spec_FormatUpdate_m
  rw [IsUpdate_same]
  cases h : spec_IsUpdate_m x with
  | false => rfl
  | true =>
    have hr := spec_Update_rng h
    rw [cond_true, cond_true, FI_same x.Row.Id (by omega), FI_same x.Field (by omega), FI_same x.Value (by omega), FormatRow_same]
theorem spl_no {c : UInt8} : ∀ {l : List UInt8}, c ∉ l → spl c l = [l]
  | [], _ => rfl
  | b :: l, h => by
    have hb : ¬ b = c := fun e => h (e ▸ List.mem_cons_self ..)
    have ih := spl_no (c := c) (l := l) fun e => h (List.mem_cons_of_mem _ e)
    unfold spl
    rw [if_neg hb, ih]
theorem spl_app {c : UInt8} : ∀ {x l : List UInt8}, c ∉ x → spl c (x ++ c :: l) = x :: spl c l
  | [], l, _ => by
    show spl c (c :: l) = _
    rw [spl, if_pos rfl]
  | b :: x, l, h => by
    have hb : ¬ b = c := fun e => h (e ▸ List.mem_cons_self ..)
    have ih := spl_app (c := c) (x := x) (l := l) fun e => h (List.mem_cons_of_mem _ e)
    show spl c (b :: (x ++ c :: l)) = _
    rw [spl, if_neg hb, ih]
theorem idx_no {c : UInt8} : ∀ {l : List UInt8}, c ∉ l → Lib.index l [c] = -1
  | [], _ => rfl
  | b :: l, h => by
    have hb : (c == b) = false := beq_eq_false_iff_ne.2 fun e => h (e ▸ List.mem_cons_self ..)
    have ih := idx_no (c := c) (l := l) fun e => h (List.mem_cons_of_mem _ e)
    unfold Lib.index
    rw [show [c].isPrefixOf (b :: l) = false by simp [List.isPrefixOf, hb], ih]
    rfl
theorem idx_app {c : UInt8} : ∀ {x r : List UInt8}, c ∉ x → Lib.index (x ++ c :: r) [c] = (x.length : Int)
  | [], r, _ => by
    show Lib.index (c :: r) [c] = _
    unfold Lib.index
    rw [show [c].isPrefixOf (c :: r) = true by simp [List.isPrefixOf]]
    rfl
  | b :: x, r, h => by
    have hb : (c == b) = false := beq_eq_false_iff_ne.2 fun e => h (e ▸ List.mem_cons_self ..)
    have ih := idx_app (c := c) (x := x) (r := r) fun e => h (List.mem_cons_of_mem _ e)
    show Lib.index (b :: (x ++ c :: r)) [c] = _
    unfold Lib.index
    rw [show [c].isPrefixOf (b :: (x ++ c :: r)) = false by simp [List.isPrefixOf, hb], ih, if_neg (by decide), if_neg (by rw [beq_iff_eq]; omega), List.length_cons]
    omega
theorem idx_cases (c : UInt8) (l : List UInt8) : c ∉ l ∨ ∃ x r, l = x ++ c :: r ∧ c ∉ x := by
  by_cases h : c ∈ l
  · obtain ⟨x, r, e, hx⟩ := List.eq_append_cons_of_mem h
    exact .inr ⟨x, r, e, hx⟩
  · exact .inl h
theorem cut_app {c : UInt8} {x r : List UInt8} (h : c ∉ x) : Lib.cut (x ++ c :: r) [c] = (x, r, true) := by
  unfold Lib.cut
  rw [idx_app h, if_pos (by omega)]
  have e : ((x.length : Int).toNat + [c].length) = x.length + 1 := by simp
  rw [e, show (x.length : Int).toNat = x.length from by omega]
  have e2 : (x ++ c :: r).drop (x.length + 1) = r := by
    rw [show x ++ c :: r = (x ++ [c]) ++ r by simp]
    exact List.drop_left' (by simp)
  rw [e2, List.take_left' rfl]
theorem splitK_spl (c : UInt8) : ∀ (k : Nat) (l : List UInt8), Lib.count l [c] = k → Lib.splitK [c] 0 k l = spl c l
  | k, l, h => by
    rcases idx_cases c l with h2 | ⟨x, r, rfl, h2⟩
    · rw [Lib.count_miss (idx_no h2)] at h
      subst h
      rw [spl_no h2]
      rfl
    · have e2 : (x ++ c :: r).drop (x.length + 1) = r := by
        rw [show x ++ c :: r = (x ++ [c]) ++ r by simp]
        exact List.drop_left' (by simp)
      have h4 := Lib.count_hit (sub := [c]) (by simp) (idx_app (r := r) h2)
      rw [h, show [c].length = 1 from rfl, e2] at h4
      match k, h, h4 with
      | k + 1, h, h4 =>
        unfold Lib.splitK
        rw [idx_app h2, if_neg (by rw [beq_iff_eq]; omega), show (x.length : Int).toNat = x.length from by omega, show [c].length = 1 from rfl, e2, Nat.add_zero, List.take_left' rfl, spl_app h2, splitK_spl c k r (by omega)]
      | 0, h, h4 => omega
termination_by k => k
theorem splitB_spl (c : UInt8) (s : ByteArray) : Lib.splitB (sB [c]) 0 (Lib.countB s (sB [c])) s = splB s c := by
  have h := Lib.splitB_data (sB [c]) 0 (Lib.countB s (sB [c])) s
  rw [show (sB [c]).data.toList = [c] by simp] at h
  have h2 := splitK_spl c (Lib.countB s (sB [c])) s.data.toList (by unfold Lib.countB; simp)
  rw [h2] at h
  unfold splB
  rw [← h, List.map_map]
  conv => lhs; rw [← List.map_id (Lib.splitB _ _ _ _)]
  exact List.map_congr_left fun a _ => (sB_data a).symm
theorem dec_dig : ∀ (n u : Nat), u < n → ∀ b ∈ Lib.decDigits u, 48 ≤ b.toNat ∧ b.toNat ≤ 57
  | 0, u, h => absurd h (Nat.not_lt_zero _)
  | n + 1, u, h => by
    intro b hb
    rw [Lib.decDigits] at hb
    by_cases h0 : u < 10
    · rw [dif_pos h0, List.mem_singleton] at hb
      subst hb
      rw [u8n (by omega)]
      omega
    · rw [dif_neg h0, List.mem_append, List.mem_singleton] at hb
      rcases hb with hb | rfl
      · exact dec_dig n (u / 10) (by omega) b hb
      · rw [u8n (by omega)]
        omega
theorem dec_ne (u : Nat) : Lib.decDigits u ≠ [] := by
  rw [Lib.decDigits]
  split
  · simp
  · simp
theorem pu_app : ∀ {l : List UInt8} {acc n : Nat} {b : UInt8}, Lib.parseUint10 acc l = .ok n → (48 ≤ b.toNat ∧ b.toNat ≤ 57) → n < 1844674407370955162 → n * 10 + (b.toNat - 48) < 18446744073709551616 → Lib.parseUint10 acc (l ++ [b]) = .ok (n * 10 + (b.toNat - 48))
  | [], acc, n, b, h, hb, h1, h2 => by
    simp only [Lib.parseUint10] at h
    injection h with h
    subst h
    show Lib.parseUint10 acc [b] = _
    simp only [Lib.parseUint10]
    rw [if_pos hb, if_neg (by omega), if_neg (by omega)]
  | c :: l, acc, n, b, h, hb, h1, h2 => by
    show Lib.parseUint10 acc (c :: (l ++ [b])) = _
    simp only [Lib.parseUint10] at h ⊢
    split at h
    · rename_i hc
      rw [if_pos hc]
      split at h
      · cases h
      · rename_i hd
        rw [if_neg hd]
        split at h
        · cases h
        · rename_i he
          rw [if_neg he]
          exact pu_app h hb h1 h2
    · cases h
theorem pu_dec : ∀ (n u : Nat), u < n → u < 18446744073709551616 → Lib.parseUint10 0 (Lib.decDigits u) = .ok u
  | 0, u, h, _ => absurd h (Nat.not_lt_zero _)
  | n + 1, u, h, hu => by
    rw [Lib.decDigits]
    by_cases h0 : u < 10
    · rw [dif_pos h0]
      have e : (UInt8.ofNat (48 + u)).toNat = 48 + u := u8n (by omega)
      have := pu_app (l := []) (acc := 0) (n := 0) (b := UInt8.ofNat (48 + u)) rfl (by rw [e]; omega) (by omega) (by rw [e]; omega)
      rw [e] at this
      simpa using this
    · rw [dif_neg h0]
      have e : (UInt8.ofNat (48 + u % 10)).toNat = 48 + u % 10 := u8n (by omega)
      have := pu_app (pu_dec n (u / 10) (by omega) (by omega)) (b := UInt8.ofNat (48 + u % 10)) (by rw [e]; omega) (by omega) (by rw [e]; omega)
      rw [e] at this
      rw [this]
      congr 1
      omega
theorem itoa_ch {n : Int} {b : UInt8} (h : b ∈ Lib.itoa n) : b.toNat = 45 ∨ (48 ≤ b.toNat ∧ b.toNat ≤ 57) := by
  unfold Lib.itoa at h
  split at h
  · rcases List.mem_cons.1 h with rfl | h
    · exact .inl rfl
    · exact .inr (dec_dig _ _ (Nat.lt_succ_self _) b h)
  · exact .inr (dec_dig _ _ (Nat.lt_succ_self _) b h)
theorem itoa_no {n : Int} {c : UInt8} (h : c.toNat ≠ 45 ∧ (c.toNat < 48 ∨ 57 < c.toNat)) : c ∉ Lib.itoa n := fun hc => by
  have := itoa_ch hc
  omega
theorem atoi_itoa {n : Int} (h : -9223372036854775808 ≤ n ∧ n ≤ 9223372036854775807) : Lib.atoiAll (Lib.itoa n) = .ok n := by
  unfold Lib.itoa
  by_cases h0 : n < 0
  · rw [if_pos h0, Lib.atoiAll_minus, Lib.parseMag, if_neg (dec_ne _), pu_dec _ _ (Nat.lt_succ_self _) (by omega)]
    show (if 9223372036854775808 < n.natAbs then _ else _) = _
    rw [if_neg (by omega)]
    congr 1
    omega
  · rw [if_neg h0]
    have h1 := pu_dec _ n.toNat (Nat.lt_succ_self _) (by omega)
    have h2 := dec_dig _ n.toNat (Nat.lt_succ_self _)
    have h3 := dec_ne n.toNat
    generalize Lib.decDigits n.toNat = l at h1 h2 h3 ⊢
    match l, h1, h2, h3 with
    | c :: r, h1, h2, _ =>
      have hc := h2 c (List.mem_cons_self ..)
      rw [Lib.atoiAll_plain c r (by omega) (by omega), Lib.parseMag, if_neg (List.cons_ne_nil _ _), h1]
      show (if 9223372036854775808 ≤ n.toNat then _ else _) = _
      rw [if_neg (by omega)]
      congr 1
      omega
theorem sB_dat (l : List UInt8) : (sB l).data.toList = l := by simp
theorem rowVals {l : List Int} (h : l.length = 3) : ∃ a b c, l = [a, b, c] := by
  match l, h with
  | [a, b, c], _ => exact ⟨a, b, c, rfl⟩
def rowT (i a b c : Int) : List UInt8 := Lib.itoa i ++ 58 :: (Lib.itoa a ++ 44 :: (Lib.itoa b ++ 44 :: Lib.itoa c))
theorem cm_no (n : Int) : (44 : UInt8) ∉ Lib.itoa n := itoa_no ⟨by decide, Or.inl (by decide)⟩
theorem cl_no (n : Int) : (58 : UInt8) ∉ Lib.itoa n := itoa_no ⟨by decide, Or.inr (by decide)⟩
theorem sp_no (n : Int) : (32 : UInt8) ∉ Lib.itoa n := itoa_no ⟨by decide, Or.inl (by decide)⟩
theorem sp_row (i a b c : Int) : (32 : UInt8) ∉ rowT i a b c := by
  unfold rowT
  simp only [List.mem_append, List.mem_cons, not_or]
  exact ⟨sp_no i, by decide, sp_no a, by decide, sp_no b, by decide, sp_no c⟩
theorem FR_text {r : DRow} (h : impl_IsRow_m r = true) : ∃ a b c, r.Values = [a, b, c] ∧ (0 ≤ r.Id ∧ r.Id ≤ 999) ∧ (0 ≤ a ∧ a ≤ 99) ∧ (0 ≤ b ∧ b ≤ 99) ∧ (0 ≤ c ∧ c ≤ 99) ∧ impl_FormatRow_m r = sB (rowT r.Id a b c) := by
  obtain ⟨h1, h2, h3⟩ := impl_Row_rng h
  obtain ⟨a, b, c, e⟩ := rowVals h2
  rw [e] at h3
  refine ⟨a, b, c, e, h1, h3 0 (by omega), h3 1 (by omega), h3 2 (by omega), ?_⟩
  unfold impl_FormatRow_m rowT
  rw [h, cond_true, e, nt_three]
  show (sB (Lib.itoa r.Id) ++ sB [58]) ++ joinB [sB (Lib.itoa a), sB (Lib.itoa b), sB (Lib.itoa c)] (sB [44]) = _
  rw [join3, sB_app, sB_app]
  simp
theorem PI_itoa {n : Int} (h : 0 ≤ n ∧ n ≤ 999) : impl_ParseInt_m (sB (Lib.itoa n)) = (n, true) := by
  have h1 : atoOk (sB (Lib.itoa n)) = true := by
    unfold atoOk
    rw [sB_dat, atoi_itoa (by omega)]
  have h2 : atoV (sB (Lib.itoa n)) = n := by
    unfold atoV
    rw [sB_dat, atoi_itoa (by omega)]
  unfold impl_ParseInt_m
  rw [h1, h2, show impl_FormatInt_m n = sB (Lib.itoa n) from rfl, eqS_refl, decide_eq_false (by omega), decide_eq_false (by omega)]
  rfl
theorem splS_is (l : List UInt8) (c : UInt8) : splS (sB l) (sB [c]) = (spl c l).map sB := by
  unfold splS
  rw [splitB_spl]
  unfold splB
  rw [sB_dat]
theorem spl_three (a b c : Int) : spl 44 (Lib.itoa a ++ 44 :: (Lib.itoa b ++ 44 :: Lib.itoa c)) = [Lib.itoa a, Lib.itoa b, Lib.itoa c] := by
  rw [spl_app (cm_no a), spl_app (cm_no b), spl_no (cm_no c)]
theorem PN_three {a b c : Int} (ha : 0 ≤ a ∧ a ≤ 99) (hb : 0 ≤ b ∧ b ≤ 99) (hc : 0 ≤ c ∧ c ≤ 99) : impl_parseNumbers_m (sB (Lib.itoa a ++ 44 :: (Lib.itoa b ++ 44 :: Lib.itoa c))) = ([a, b, c], true) := by
  have e := splS_is (Lib.itoa a ++ 44 :: (Lib.itoa b ++ 44 :: Lib.itoa c)) 44
  rw [spl_three] at e
  unfold impl_parseNumbers_m impl_parseNumbers_b1
  generalize sB (Lib.itoa a ++ 44 :: (Lib.itoa b ++ 44 :: Lib.itoa c)) = s at e ⊢
  rw [e]
  show Sum.elim _ _ (rng _ 3 0 []) = _
  simp only [rng, List.map_cons, List.map_nil, gt, List.getD_cons_zero, List.getD_cons_succ, PI_itoa (show 0 ≤ a ∧ a ≤ 999 by omega), PI_itoa (show 0 ≤ b ∧ b ≤ 999 by omega), PI_itoa (show 0 ≤ c ∧ c ≤ 999 by omega), cond_true, Sum.elim_inr, Sum.elim_inl, List.nil_append, List.cons_append]
theorem cutA_is {x r : List UInt8} {c : UInt8} (h : c ∉ x) : cutA (sB (x ++ c :: r)) (sB [c]) = sB x ∧ cutZ (sB (x ++ c :: r)) (sB [c]) = sB r := by
  unfold cutA cutZ
  rw [sB_dat, sB_dat, cut_app h]
  exact ⟨rfl, rfl⟩
theorem PR_round {r : DRow} (h : impl_IsRow_m r = true) : impl_ParseRow_m (impl_FormatRow_m r) = (r, true) := by
  obtain ⟨a, b, c, e, h1, h2, h3, h4, ht⟩ := FR_text h
  have hc := cutA_is (r := Lib.itoa a ++ 44 :: (Lib.itoa b ++ 44 :: Lib.itoa c)) (cl_no r.Id)
  have hr : (⟨r.Id, [a, b, c]⟩ : DRow) = r := by rw [← e]
  rw [ht]
  unfold impl_ParseRow_m
  rw [show rowT r.Id a b c = Lib.itoa r.Id ++ 58 :: (Lib.itoa a ++ 44 :: (Lib.itoa b ++ 44 :: Lib.itoa c)) from rfl, hc.1, hc.2, PI_itoa h1, PN_three h2 h3 h4]
  dsimp only
  rw [hr, h, ht, show rowT r.Id a b c = Lib.itoa r.Id ++ 58 :: (Lib.itoa a ++ 44 :: (Lib.itoa b ++ 44 :: Lib.itoa c)) from rfl, eqS_refl]
  rfl
theorem UP_cases {u : DUpdate} (h : impl_IsUpdate_m u = true) : (u = ⟨1, u.Row, 0, 0⟩ ∧ impl_IsRow_m u.Row = true) ∨ (∃ i, u = ⟨2, ⟨i, []⟩, 0, 0⟩ ∧ 0 ≤ i ∧ i ≤ 999) ∨ (∃ i f v, u = ⟨3, ⟨i, []⟩, f, v⟩ ∧ (0 ≤ i ∧ i ≤ 999) ∧ (0 ≤ f ∧ f ≤ 2) ∧ (0 ≤ v ∧ v ≤ 99)) := by
  have hr := impl_Update_rng h
  rw [IsUpdate_same] at h
  obtain ⟨k, ⟨i, vs⟩, f, v⟩ := u
  unfold spec_IsUpdate_m at h
  dsimp only at h hr ⊢
  cases h1 : k == 1 with
  | true =>
    rw [h1] at h
    obtain ⟨h2, h⟩ := cond_tt h
    obtain ⟨h3, h9⟩ := cond_tt h
    rw [beq_iff_eq] at h1 h3 h9
    subst h1 h3 h9
    exact .inl ⟨rfl, (IsRow_same _).trans h2⟩
  | false =>
    rw [h1, cond_false] at h
    cases h2 : k == 2 with
    | true =>
      rw [h2, cond_true] at h
      obtain ⟨h3, h⟩ := cond_tt h
      obtain ⟨h5, h⟩ := cond_tt h
      obtain ⟨h4, h9⟩ := cond_tt h
      rw [beq_iff_eq] at h2 h4 h5 h9
      have : vs = [] := List.eq_nil_of_length_eq_zero (by omega)
      subst h2 h4 h9 this
      exact .inr (.inl ⟨i, rfl, hr.1⟩)
    | false =>
      rw [h2, cond_false] at h
      obtain ⟨h0, h⟩ := cond_tt h
      obtain ⟨h3, h⟩ := cond_tt h
      obtain ⟨h5, h⟩ := cond_tt h
      rw [beq_iff_eq] at h0 h5
      have : vs = [] := List.eq_nil_of_length_eq_zero (by omega)
      subst h0 this
      exact .inr (.inr ⟨i, f, v, rfl, hr⟩)
theorem spl_ins (i a b c : Int) : spl 32 ([105, 110, 115, 101, 114, 116, 32] ++ rowT i a b c) = [[105, 110, 115, 101, 114, 116], rowT i a b c] := by
  rw [show ([105, 110, 115, 101, 114, 116, 32] : List UInt8) ++ rowT i a b c = [105, 110, 115, 101, 114, 116] ++ 32 :: rowT i a b c from rfl, spl_app (by decide), spl_no (sp_row i a b c)]
theorem spl_del (i : Int) : spl 32 ([100, 101, 108, 101, 116, 101, 32] ++ Lib.itoa i) = [[100, 101, 108, 101, 116, 101], Lib.itoa i] := by
  rw [show ([100, 101, 108, 101, 116, 101, 32] : List UInt8) ++ Lib.itoa i = [100, 101, 108, 101, 116, 101] ++ 32 :: Lib.itoa i from rfl, spl_app (by decide), spl_no (sp_no i)]
def setT (i f v : Int) : List UInt8 := [115, 101, 116, 32] ++ (Lib.itoa i ++ 32 :: ((102 :: Lib.itoa f) ++ 32 :: Lib.itoa v))
theorem spl_set (i f v : Int) : spl 32 (setT i f v) = [[115, 101, 116], Lib.itoa i, 102 :: Lib.itoa f, Lib.itoa v] := by
  unfold setT
  rw [show ([115, 101, 116, 32] : List UInt8) ++ (Lib.itoa i ++ 32 :: ((102 :: Lib.itoa f) ++ 32 :: Lib.itoa v)) = [115, 101, 116] ++ 32 :: (Lib.itoa i ++ 32 :: ((102 :: Lib.itoa f) ++ 32 :: Lib.itoa v)) from rfl, spl_app (by decide), spl_app (sp_no i), spl_app (by
    simp only [List.mem_cons, not_or]
    exact ⟨by decide, sp_no f⟩), spl_no (sp_no v)]
theorem FU_text {u : DUpdate} (h : impl_IsUpdate_m u = true) : impl_FormatUpdate_m u = cond (u.Kind == 1) (sB [105, 110, 115, 101, 114, 116, 32] ++ impl_FormatRow_m u.Row) (cond (u.Kind == 2) (sB ([100, 101, 108, 101, 116, 101, 32] ++ Lib.itoa u.Row.Id)) (sB (setT u.Row.Id u.Field u.Value))) := by
  unfold impl_FormatUpdate_m
  rw [h, cond_true]
  have e1 : sB [100, 101, 108, 101, 116, 101, 32] ++ impl_FormatInt_m u.Row.Id = sB ([100, 101, 108, 101, 116, 101, 32] ++ Lib.itoa u.Row.Id) := sB_app _ _
  have e2 : (((sB [115, 101, 116, 32] ++ impl_FormatInt_m u.Row.Id) ++ sB [32, 102]) ++ impl_FormatInt_m u.Field) ++ sB [32] ++ impl_FormatInt_m u.Value = sB (setT u.Row.Id u.Field u.Value) := by
    show (((sB [115, 101, 116, 32] ++ sB (Lib.itoa u.Row.Id)) ++ sB [32, 102]) ++ sB (Lib.itoa u.Field)) ++ sB [32] ++ sB (Lib.itoa u.Value) = _
    rw [sB_app, sB_app, sB_app, sB_app, sB_app]
    unfold setT
    simp
  rw [e1, e2]
theorem PA_is {f : Int} (h : 0 ≤ f ∧ f ≤ 2) : (impl_parseAfter_m (sB (102 :: Lib.itoa f)) (sB [102])).1 = f := by
  have h1 : hasP (sB (102 :: Lib.itoa f)) (sB [102]) = true := by
    unfold hasP Lib.hasPrefix
    rw [sB_dat, sB_dat]
    simp [List.isPrefixOf]
  have h2 : trimP (sB (102 :: Lib.itoa f)) (sB [102]) = sB (Lib.itoa f) := by
    unfold hasP at h1
    unfold trimP Lib.trimPrefix
    rw [if_pos h1, sB_dat, sB_dat]
    rfl
  unfold impl_parseAfter_m
  rw [h1, h2, PI_itoa (by omega)]
  rfl
theorem eqS_ne {a b : List UInt8} (h : a ≠ b) : eqS (sB a) (sB b) = false := by
  cases hb : eqS (sB a) (sB b) with
  | false => rfl
  | true =>
    have := congrArg (fun s : ByteArray => s.data.toList) (eqS_iff.1 hb)
    simp only [sB_dat] at this
    exact absurd this h
theorem RU_round {u : DUpdate} (h : impl_IsUpdate_m u = true) : impl_readUpdate_m (splS (impl_FormatUpdate_m u) (sB [32])) = u := by
  rw [FU_text h]
  rcases UP_cases h with ⟨e, hr⟩ | ⟨i, rfl, h1⟩ | ⟨i, f, v, rfl, h1, h2, h3⟩
  · obtain ⟨a, b, c, _, _, _, _, _, ht⟩ := FR_text hr
    have hp := PR_round hr
    rw [show u.Kind = 1 by rw [e], show ((1 : Int) == 1) = true from rfl, cond_true, ht, sB_app, splS_is, spl_ins]
    unfold impl_readUpdate_m
    show cond (eqS (sB [105, 110, 115, 101, 114, 116]) (sB [105, 110, 115, 101, 114, 116])) (cond ((((2 : Nat) : Int)) == 2) (⟨1, (impl_ParseRow_m (sB (rowT u.Row.Id a b c))).1, 0, 0⟩ : DUpdate) _) _ = _
    rw [eqS_refl, cond_true, show ((((2 : Nat) : Int)) == 2) = true from rfl, cond_true, ← ht, hp]
    exact e.symm
  · show impl_readUpdate_m (splS (sB ([100, 101, 108, 101, 116, 101, 32] ++ Lib.itoa i)) (sB [32])) = _
    rw [splS_is, spl_del]
    unfold impl_readUpdate_m
    show cond (eqS (sB [100, 101, 108, 101, 116, 101]) (sB [105, 110, 115, 101, 114, 116])) _ (cond (eqS (sB [100, 101, 108, 101, 116, 101]) (sB [100, 101, 108, 101, 116, 101])) (cond ((((2 : Nat) : Int)) == 2) (⟨2, (⟨(impl_ParseInt_m (sB (Lib.itoa i))).1, []⟩ : DRow), 0, 0⟩ : DUpdate) _) _) = _
    rw [eqS_ne (by decide), cond_false, eqS_refl, cond_true, show ((((2 : Nat) : Int)) == 2) = true from rfl, cond_true, PI_itoa h1]
  · show impl_readUpdate_m (splS (sB (setT i f v)) (sB [32])) = _
    rw [splS_is, spl_set]
    unfold impl_readUpdate_m
    show cond (eqS (sB [115, 101, 116]) (sB [105, 110, 115, 101, 114, 116])) _ (cond (eqS (sB [115, 101, 116]) (sB [100, 101, 108, 101, 116, 101])) _ (cond (eqS (sB [115, 101, 116]) (sB [115, 101, 116])) (cond ((((4 : Nat) : Int)) == 4) (⟨3, (⟨(impl_ParseInt_m (sB (Lib.itoa i))).1, []⟩ : DRow), (impl_parseAfter_m (sB (102 :: Lib.itoa f)) (sB [102])).1, (impl_ParseInt_m (sB (Lib.itoa v))).1⟩ : DUpdate) _) _)) = _
    rw [eqS_ne (by decide), cond_false, eqS_ne (by decide), cond_false, eqS_refl, cond_true, show ((((4 : Nat) : Int)) == 4) = true from rfl, cond_true, PI_itoa h1, PI_itoa (by omega), PA_is h2]
theorem IU_round {u : DUpdate} (h : impl_IsUpdate_m u = true) : impl_ParseUpdate_m (impl_FormatUpdate_m u) = (u, true) := by
  unfold impl_ParseUpdate_m
  rw [RU_round h, h, eqS_refl]
  rfl
theorem chr_at (l : List UInt8) (k : Nat) : chr (sB l) k = ((l.getD k 0).toNat : Int) := by
  unfold chr
  rw [sB_dat]
theorem dig_wrap {n : Nat} (h : n < 10) : IntKind.i64.wrap (IntKind.u8.wrap (((UInt8.ofNat (48 + n)).toNat : Int) - 48)) = (n : Int) := by
  rw [u8n (by omega)]
  have e : IntKind.u8.wrap (((48 + n : Nat) : Int) - 48) = (n : Int) := by
    simp only [IntKind.wrap, IntKind.signed, IntKind.bits]
    simp
    omega
  rw [e, wrap_id (by omega) (by omega)]
theorem SI_step {s : ByteArray} {k n : Nat} {a b : Int} (hk : k < 11) (hn : n < 10) (hc : chr s k = ((UInt8.ofNat (48 + n)).toNat : Int)) (ha : 0 ≤ a ∧ a ≤ 99999) (hb : 0 ≤ b ∧ b ≤ 99999) : spec_ParseInt_b1 s k a b = .inr (.inr (a * 10 + n, b + 1)) := by
  unfold spec_ParseInt_b1
  rw [hc, dig_wrap hn, u8n (by omega), decide_eq_true (by omega), decide_eq_true (by omega), decide_eq_true (by omega), wrap_id (n := a * 10) (by omega) (by omega), wrap_id (by omega) (by omega), wrap_id (by omega) (by omega)]
  rfl
theorem SI_itoa {n : Int} (h : 0 ≤ n ∧ n ≤ 999) : spec_ParseInt_m (sB (Lib.itoa n)) = (n, true) := by
  obtain ⟨m, rfl⟩ : ∃ m : Nat, n = (m : Int) := ⟨n.toNat, by omega⟩
  have hm : m ≤ 999 := by omega
  have hF : spec_FormatInt_m (m : Int) = sB (Lib.itoa (m : Int)) := spec_FormatInt_is _ (by omega)
  have hi : Lib.itoa (m : Int) = Lib.decDigits m := by
    unfold Lib.itoa
    rw [if_neg (by omega)]
    rfl
  have key : ∃ k : Nat, 1 ≤ k ∧ k ≤ 3 ∧ (sB (Lib.itoa (m : Int))).size = k ∧ chr (sB (Lib.itoa (m : Int))) 0 ≠ 45 ∧ rngb (R := (Int × Bool)) (fun k (s : Int × Int) => spec_ParseInt_b1 (sB (Lib.itoa (m : Int))) k s.1 s.2) ((sB (Lib.itoa (m : Int))).size - 0) 0 (0, 0) = .inr ((m : Int), (k : Int)) := by
    rw [hi]
    by_cases h1 : m < 10
    · rw [Lib.decDigits, dif_pos h1]
      have c0 : chr (sB [UInt8.ofNat (48 + m)]) 0 = ((UInt8.ofNat (48 + m)).toNat : Int) := chr_at _ 0
      refine ⟨1, by omega, by omega, rfl, by rw [c0, u8n (by omega)]; omega, ?_⟩
      show rngb _ 1 0 (0, 0) = _
      simp only [rngb, SI_step (show 0 < 11 by omega) h1 c0 (show (0 : Int) ≤ 0 ∧ (0 : Int) ≤ 99999 by omega) (show (0 : Int) ≤ 0 ∧ (0 : Int) ≤ 99999 by omega), Sum.elim_inr]
      congr 2
      omega
    · by_cases h2 : m < 100
      · rw [Lib.decDigits, dif_neg h1, Lib.decDigits, dif_pos (by omega)]
        have c0 : chr (sB ([UInt8.ofNat (48 + m / 10)] ++ [UInt8.ofNat (48 + m % 10)])) 0 = ((UInt8.ofNat (48 + m / 10)).toNat : Int) := chr_at _ 0
        have c1 : chr (sB ([UInt8.ofNat (48 + m / 10)] ++ [UInt8.ofNat (48 + m % 10)])) 1 = ((UInt8.ofNat (48 + m % 10)).toNat : Int) := chr_at _ 1
        refine ⟨2, by omega, by omega, rfl, by rw [c0, u8n (by omega)]; omega, ?_⟩
        show rngb _ 2 0 (0, 0) = _
        simp only [rngb, SI_step (show 0 < 11 by omega) (show m / 10 < 10 by omega) c0 (show (0 : Int) ≤ 0 ∧ (0 : Int) ≤ 99999 by omega) (show (0 : Int) ≤ 0 ∧ (0 : Int) ≤ 99999 by omega), Sum.elim_inr,
          SI_step (show 0 + 1 < 11 by omega) (show m % 10 < 10 by omega) c1 (a := 0 * 10 + ((m / 10 : Nat) : Int)) (b := 0 + 1) (by omega) (by omega)]
        congr 2
        omega
      · rw [Lib.decDigits, dif_neg h1, Lib.decDigits, dif_neg (by omega), Lib.decDigits, dif_pos (by omega)]
        have c0 : chr (sB (([UInt8.ofNat (48 + m / 10 / 10)] ++ [UInt8.ofNat (48 + m / 10 % 10)]) ++ [UInt8.ofNat (48 + m % 10)])) 0 = ((UInt8.ofNat (48 + m / 10 / 10)).toNat : Int) := chr_at _ 0
        have c1 : chr (sB (([UInt8.ofNat (48 + m / 10 / 10)] ++ [UInt8.ofNat (48 + m / 10 % 10)]) ++ [UInt8.ofNat (48 + m % 10)])) 1 = ((UInt8.ofNat (48 + m / 10 % 10)).toNat : Int) := chr_at _ 1
        have c2 : chr (sB (([UInt8.ofNat (48 + m / 10 / 10)] ++ [UInt8.ofNat (48 + m / 10 % 10)]) ++ [UInt8.ofNat (48 + m % 10)])) 2 = ((UInt8.ofNat (48 + m % 10)).toNat : Int) := chr_at _ 2
        refine ⟨3, by omega, by omega, rfl, by rw [c0, u8n (by omega)]; omega, ?_⟩
        show rngb _ 3 0 (0, 0) = _
        simp only [rngb, SI_step (show 0 < 11 by omega) (show m / 10 / 10 < 10 by omega) c0 (show (0 : Int) ≤ 0 ∧ (0 : Int) ≤ 99999 by omega) (show (0 : Int) ≤ 0 ∧ (0 : Int) ≤ 99999 by omega), Sum.elim_inr,
          SI_step (show 0 + 1 < 11 by omega) (show m / 10 % 10 < 10 by omega) c1 (a := 0 * 10 + ((m / 10 / 10 : Nat) : Int)) (b := 0 + 1) (by omega) (by omega),
          SI_step (show 0 + 1 + 1 < 11 by omega) (show m % 10 < 10 by omega) c2 (a := (0 * 10 + ((m / 10 / 10 : Nat) : Int)) * 10 + ((m / 10 % 10 : Nat) : Int)) (b := 0 + 1 + 1) (by omega) (by omega)]
        congr 2
        omega
  obtain ⟨k, k1, k2, k3, k4, k5⟩ := key
  unfold spec_ParseInt_m
  rw [k5, Sum.elim_inr]
  dsimp only
  rw [k3, decide_eq_true (by omega), cond_true, beq_eq_false_iff_ne.2 k4, cond_false, decide_eq_false (by omega), decide_eq_false (by omega), hF, eqS_refl]
  rfl
theorem SN_itoa {n : Int} (h : 0 ≤ n ∧ n ≤ 999) : spec_l2Num_m (sB (Lib.itoa n)) = n := by
  unfold spec_l2Num_m
  rw [SI_itoa h]
  rfl
theorem SC_is (l : List UInt8) (c : UInt8) (z : Int) (h : (c.toNat : Int) = z) : spec_l2Cut_m (sB l) z = (spl c l).map sB := by
  subst h
  rw [spec_l2Cut_is]
  unfold splB
  rw [sB_dat]
theorem SR_round {r : DRow} (h : impl_IsRow_m r = true) : spec_ParseRow_m (impl_FormatRow_m r) = (r, true) := by
  obtain ⟨a, b, c, e, h1, h2, h3, h4, ht⟩ := FR_text h
  have hr : (⟨r.Id, [a, b, c]⟩ : DRow) = r := by rw [← e]
  have hF := FormatRow_same r
  have hc1 : spec_l2Cut_m (impl_FormatRow_m r) 58 = [sB (Lib.itoa r.Id), sB (Lib.itoa a ++ 44 :: (Lib.itoa b ++ 44 :: Lib.itoa c))] := by
    rw [ht, SC_is _ 58 58 rfl]
    unfold rowT
    rw [spl_app (cl_no _), spl_no]
    · rfl
    · simp only [List.mem_append, List.mem_cons, not_or]
      exact ⟨cl_no a, by decide, cl_no b, by decide, cl_no c⟩
  have hc2 : spec_l2Cut_m (sB (Lib.itoa a ++ 44 :: (Lib.itoa b ++ 44 :: Lib.itoa c))) 44 = [sB (Lib.itoa a), sB (Lib.itoa b), sB (Lib.itoa c)] := by
    rw [SC_is _ 44 44 rfl, spl_three]
    rfl
  have hne : eqS (impl_FormatRow_m r) (sB []) = false := by
    rw [ht]
    refine eqS_ne fun hh => ?_
    have := congrArg List.length hh
    unfold rowT at this
    simp at this
  unfold spec_ParseRow_m spec_ParseRow_b1
  rw [hc1]
  show cond ((((2 : Nat) : Int)) == 2) (Sum.elim id _ (rng _ ((spec_l2Cut_m (sB (Lib.itoa a ++ 44 :: (Lib.itoa b ++ 44 :: Lib.itoa c))) 44).length - 0) 0 [])) _ = _
  rw [show ((((2 : Nat) : Int)) == 2) = true from rfl, cond_true]
  simp only [gt, List.getD_cons_zero, List.getD_cons_succ, hc2]
  show Sum.elim id _ (rng _ 3 0 []) = _
  simp only [rng, List.getD_cons_zero, List.getD_cons_succ, Sum.elim_inr, List.nil_append, List.cons_append, SN_itoa h1, SN_itoa (show 0 ≤ a ∧ a ≤ 999 by omega), SN_itoa (show 0 ≤ b ∧ b ≤ 999 by omega), SN_itoa (show 0 ≤ c ∧ c ≤ 999 by omega), hr, hne, cond_false, ← hF, eqS_refl, cond_true]
theorem SA_is {f : Int} (h : 0 ≤ f ∧ f ≤ 2) : spec_l4After_m (sB (102 :: Lib.itoa f)) 102 = f := by
  have hl : 1 ≤ (Lib.itoa f).length := by
    unfold Lib.itoa
    rw [if_neg (by omega)]
    exact List.length_pos_iff.2 (dec_ne _)
  have h1 : (sB (102 :: Lib.itoa f)).size = (Lib.itoa f).length + 1 := by rw [sB_size]; rfl
  have h2 : chr (sB (102 :: Lib.itoa f)) 0 = 102 := by rw [chr_at]; rfl
  have h3 : ByteArray.extract (sB (102 :: Lib.itoa f)) 1 (sB (102 :: Lib.itoa f)).size = sB (Lib.itoa f) := by
    rw [Lib.extract_eq, sB_dat, h1]
    refine congrArg sB ?_
    rw [show List.drop 1 (102 :: Lib.itoa f) = Lib.itoa f from rfl]
    exact List.take_of_length_le (by omega)
  unfold spec_l4After_m
  rw [h3, h1, h2, decide_eq_false (by omega), cond_false, show ((102 : Int) != 102) = false from rfl, cond_false]
  exact SN_itoa (by omega)
def tryU (u : DUpdate) (s : ByteArray) : DUpdate × Bool := cond (eqS s (sB [])) ((⟨0, (⟨0, []⟩ : DRow), 0, 0⟩ : DUpdate), false) (cond (eqS (spec_FormatUpdate_m u) s) (u, true) ((⟨0, (⟨0, []⟩ : DRow), 0, 0⟩ : DUpdate), false))
def candU (l : List ByteArray) : DUpdate := cond (((l.length : Nat) : Int) == 2) (cond (eqS (gt l 0) (sB [105, 110, 115, 101, 114, 116])) (⟨1, ((spec_ParseRow_m (gt l 1)).1), 0, 0⟩ : DUpdate) (⟨2, (⟨(spec_l2Num_m (gt l 1)), []⟩ : DRow), 0, 0⟩ : DUpdate)) (cond (((l.length : Nat) : Int) == 4) (⟨3, (⟨(spec_l2Num_m (gt l 1)), []⟩ : DRow), (spec_l4After_m (gt l 2) 102), (spec_l2Num_m (gt l 3))⟩ : DUpdate) (⟨0, (⟨0, []⟩ : DRow), 0, 0⟩ : DUpdate))
theorem SP_form (s : ByteArray) : spec_ParseUpdate_m s = tryU (candU (spec_l2Cut_m s 32)) s := by
  unfold spec_ParseUpdate_m candU tryU
  generalize spec_l2Cut_m s 32 = l
  cases ((l.length : Nat) : Int) == 2 with
  | true => cases eqS (gt l 0) (sB [105, 110, 115, 101, 114, 116]) <;> rfl
  | false => cases ((l.length : Nat) : Int) == 4 <;> rfl
theorem CU_round {u : DUpdate} (h : impl_IsUpdate_m u = true) : candU (spec_l2Cut_m (impl_FormatUpdate_m u) 32) = u := by
  rw [FU_text h]
  rcases UP_cases h with ⟨e, hr⟩ | ⟨i, rfl, h1⟩ | ⟨i, f, v, rfl, h1, h2, h3⟩
  · obtain ⟨a, b, c, _, _, _, _, _, ht⟩ := FR_text hr
    have hp := SR_round hr
    rw [show u.Kind = 1 by rw [e], show ((1 : Int) == 1) = true from rfl, cond_true, ht, sB_app, SC_is _ 32 32 rfl, spl_ins]
    unfold candU
    show cond ((((2 : Nat) : Int)) == 2) (cond (eqS (sB [105, 110, 115, 101, 114, 116]) (sB [105, 110, 115, 101, 114, 116])) (⟨1, (spec_ParseRow_m (sB (rowT u.Row.Id a b c))).1, 0, 0⟩ : DUpdate) _) _ = _
    rw [show ((((2 : Nat) : Int)) == 2) = true from rfl, cond_true, eqS_refl, cond_true, ← ht, hp]
    exact e.symm
  · show candU (spec_l2Cut_m (sB ([100, 101, 108, 101, 116, 101, 32] ++ Lib.itoa i)) 32) = _
    rw [SC_is _ 32 32 rfl, spl_del]
    unfold candU
    show cond ((((2 : Nat) : Int)) == 2) (cond (eqS (sB [100, 101, 108, 101, 116, 101]) (sB [105, 110, 115, 101, 114, 116])) _ (⟨2, (⟨(spec_l2Num_m (sB (Lib.itoa i))), []⟩ : DRow), 0, 0⟩ : DUpdate)) _ = _
    rw [show ((((2 : Nat) : Int)) == 2) = true from rfl, cond_true, eqS_ne (by decide), cond_false, SN_itoa h1]
  · show candU (spec_l2Cut_m (sB (setT i f v)) 32) = _
    rw [SC_is _ 32 32 rfl, spl_set]
    unfold candU
    show cond ((((4 : Nat) : Int)) == 2) _ (cond ((((4 : Nat) : Int)) == 4) (⟨3, (⟨(spec_l2Num_m (sB (Lib.itoa i))), []⟩ : DRow), (spec_l4After_m (sB (102 :: Lib.itoa f)) 102), (spec_l2Num_m (sB (Lib.itoa v)))⟩ : DUpdate) _) = _
    rw [show ((((4 : Nat) : Int)) == 2) = false from rfl, cond_false, show ((((4 : Nat) : Int)) == 4) = true from rfl, cond_true, SN_itoa h1, SN_itoa (by omega), SA_is h2]
theorem FU_ne {u : DUpdate} (h : eqS (impl_FormatUpdate_m u) (sB []) = false) : impl_IsUpdate_m u = true := by
  cases hu : impl_IsUpdate_m u with
  | true => rfl
  | false =>
    have : impl_FormatUpdate_m u = sB [] := by
      unfold impl_FormatUpdate_m
      rw [hu]
      rfl
    rw [this, eqS_refl] at h
    cases h
theorem FU_nonempty {u : DUpdate} (h : impl_IsUpdate_m u = true) : eqS (impl_FormatUpdate_m u) (sB []) = false := by
  cases he : eqS (impl_FormatUpdate_m u) (sB []) with
  | false => rfl
  | true =>
    have e := eqS_iff.1 he
    rw [FU_text h] at e
    rcases UP_cases h with ⟨e1, hr⟩ | ⟨i, rfl, h1⟩ | ⟨i, f, v, rfl, h1, h2, h3⟩
    · rw [show u.Kind = 1 by rw [e1], show ((1 : Int) == 1) = true from rfl, cond_true] at e
      have := congrArg ByteArray.size e
      rw [sz_app, sB_size, show (sB []).size = 0 from rfl] at this
      simp only [List.length_cons] at this
      omega
    · have := congrArg (fun s : ByteArray => s.data.toList) e
      exact absurd this (by simp)
    · have := congrArg (fun s : ByteArray => s.data.toList) e
      exact absurd this (by simp [setT])
theorem SU_round {u : DUpdate} (h : impl_IsUpdate_m u = true) : spec_ParseUpdate_m (impl_FormatUpdate_m u) = (u, true) := by
  rw [SP_form, CU_round h]
  unfold tryU
  rw [FU_nonempty h, cond_false, ← FormatUpdate_same, eqS_refl, cond_true]
theorem ParseUpdate_same (s : ByteArray) : impl_ParseUpdate_m s = spec_ParseUpdate_m s := by
  by_cases hx : ∃ u, impl_IsUpdate_m u = true ∧ impl_FormatUpdate_m u = s
  · obtain ⟨u, hu, rfl⟩ := hx
    rw [IU_round hu, SU_round hu]
  · have h1 : impl_ParseUpdate_m s = ((⟨0, (⟨0, []⟩ : DRow), 0, 0⟩ : DUpdate), false) := by
      unfold impl_ParseUpdate_m
      cases ha : impl_IsUpdate_m (impl_readUpdate_m (splS s (sB [32]))) with
      | false => rfl
      | true =>
        cases hb : eqS (impl_FormatUpdate_m (impl_readUpdate_m (splS s (sB [32])))) s with
        | false => rfl
        | true => exact absurd ⟨_, ha, eqS_iff.1 hb⟩ hx
    rw [h1, SP_form]
    unfold tryU
    cases ha : eqS s (sB []) with
    | true => rfl
    | false =>
      cases hb : eqS (spec_FormatUpdate_m (candU (spec_l2Cut_m s 32))) s with
      | false => rfl
      | true =>
        have e := eqS_iff.1 hb
        rw [← FormatUpdate_same] at e
        exact absurd ⟨_, FU_ne (by rw [e]; exact ha), e⟩ hx
theorem PU_len (s : ByteArray) : (impl_ParseUpdate_m s).1.Row.Values.length ≤ 3 := by
  unfold impl_ParseUpdate_m
  cases ha : impl_IsUpdate_m (impl_readUpdate_m (splS s (sB [32]))) with
  | false => exact Nat.zero_le _
  | true =>
    cases hb : eqS (impl_FormatUpdate_m (impl_readUpdate_m (splS s (sB [32])))) s with
    | false => exact Nat.zero_le _
    | true =>
      show (impl_readUpdate_m (splS s (sB [32]))).Row.Values.length ≤ 3
      generalize impl_readUpdate_m (splS s (sB [32])) = u at ha ⊢
      rcases UP_cases ha with ⟨e, hr⟩ | ⟨i, rfl, h1⟩ | ⟨i, f, v, rfl, h1, h2, h3⟩
      · have := (impl_Row_rng hr).2.1
        omega
      · exact Nat.zero_le _
      · exact Nat.zero_le _
theorem law_ParseUpdate (s : ByteArray) : laws_FnExactParseUpdate_m s = true := by
  unfold laws_FnExactParseUpdate_m
  rw [← ParseUpdate_same, laws_eqUpdate_refl, bne_self_eq_false]
  have hl := PU_len s
  obtain ⟨p2, _, r2⟩ := laws_markUpdate_ok.go (impl_ParseUpdate_m s).1 1 (by omega) (by unfold wtUpdate wtRow; omega)
  have r3 : laws_heldUpdate_m (⟨((impl_ParseUpdate_m s).1).Kind, (⟨((impl_ParseUpdate_m s).1).Row.Id, (laws_markUpdate_m ((impl_ParseUpdate_m s).1) 1).2.Row.Values⟩ : DRow), ((impl_ParseUpdate_m s).1).Field, ((impl_ParseUpdate_m s).1).Value⟩ : DUpdate) 1 = (laws_markUpdate_m (impl_ParseUpdate_m s).1 1).1 := r2
  rw [r3, decide_eq_false (p := (laws_markUpdate_m (impl_ParseUpdate_m s).1 1).1 < 0) (by omega), bne_self_eq_false]
  cases decide (1048576 < ((s.size : Nat) : Int)) <;> rfl

end Go.Proofs.YtfdaaliffcfjjaaDoor
