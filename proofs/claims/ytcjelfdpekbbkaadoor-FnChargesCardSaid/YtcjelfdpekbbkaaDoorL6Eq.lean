/-
  The program and the reference compute the same: plain laws over what the walks showed.
-/
import Derived.Test.YtcjelfdpekbbkaaDoorL6Law
namespace Go.Proofs.YtcjelfdpekbbkaaDoor
open Go.RowKit
theorem WorkDone_same (x : DCharge) : impl_WorkDone_m x = spec_WorkDone_m x := by
  unfold impl_WorkDone_m spec_WorkDone_m
  rw [IsCharge_same]
  rfl
theorem TotalWork_same (x : List DCharge) : impl_TotalWork_m x = spec_TotalWork_m x := by
  unfold impl_TotalWork_m spec_TotalWork_m impl_TotalWork_b1 spec_TotalWork_b1
  simp only [WorkDone_same]
theorem WorstStep_same (x : List DCharge) : impl_WorstStep_m x = spec_WorstStep_m x := by
  unfold impl_WorstStep_m spec_WorstStep_m impl_WorstStep_b1 spec_WorstStep_b1
  simp only [WorkDone_same]

theorem rngb_as {R S : Type} {b : Nat → S → R ⊕ S} {b' : Nat → S → R ⊕ (S ⊕ S)} (h : ∀ j s, b' j s = Sum.elim Sum.inl (fun s => Sum.inr (Sum.inr s)) (b j s)) : ∀ m k s, rngb b' m k s = rng b m k s
  | 0, _, _ => rfl
  | m + 1, k, s => by
    rw [rngb, rng, h]
    cases b k s with
    | inl r => rfl
    | inr s' => exact rngb_as h m (k + 1) s'
theorem rng_rel {R R' S T : Type} {b : Nat → S → R ⊕ S} {c : Nat → T → R' ⊕ T} (I : S → T → Prop) (h : ∀ j s t, I s t → ∃ s' t', b j s = .inr s' ∧ c j t = .inr t' ∧ I s' t') : ∀ m k s t, I s t → ∃ s' t', rng b m k s = .inr s' ∧ rng c m k t = .inr t' ∧ I s' t'
  | 0, _, s, t, hi => ⟨s, t, rfl, rfl, hi⟩
  | m + 1, k, s, t, hi => by
    obtain ⟨s', t', h1, h2, h3⟩ := h k s t hi
    obtain ⟨s'', t'', h4, h5, h6⟩ := rng_rel I h m (k + 1) s' t' h3
    exact ⟨s'', t'', by rw [rng, h1]; exact h4, by rw [rng, h2]; exact h5, h6⟩
theorem SharesOf_same (x : DCharge) : impl_SharesOf_m x = spec_SharesOf_m x := by
  unfold impl_SharesOf_m spec_SharesOf_m
  rw [IsCharge_same]
  cases h : spec_IsCharge_m x with
  | false =>
    have hb : ∀ j s, spec_SharesOf_b1 x j s = .inr (.inl s) := fun j s => by unfold spec_SharesOf_b1; rw [h]; rfl
    cases hn : x.Ids.length - 0 with
    | zero => rfl
    | succ m => rw [rngb, hb]; rfl
  | true =>
    obtain ⟨_, h2, h3⟩ := spec_IsCharge_fact h
    rw [cond_true, h3, rngb_as (b := fun k s => impl_SharesOf_b1 x k s) (fun j s => by
      unfold spec_SharesOf_b1 impl_SharesOf_b1
      rw [h, Int.add_comm (gt x.Rows j)]
      cases decide (((j : Nat) : Int) < (Int.tmod x.Base ((x.Ids.length : Nat) : Int))) <;> rfl)]
theorem TenantCharge_same (x : List DCharge) (i : Int) : impl_TenantCharge_m x i = spec_TenantCharge_m x i := by
  unfold impl_TenantCharge_m spec_TenantCharge_m impl_TenantCharge_b1 spec_TenantCharge_b1 impl_TenantCharge_b2 spec_TenantCharge_b2
  simp only [SharesOf_same]
theorem HasMember_same (x : List Int) (i : Int) : impl_hasInt_m x i = spec_HasMember_m x i := rfl
def Coal (n : Int) (s t : Int × Bool) : Prop := s.2 = t.2 ∧ (s.2 = false → s.1 = n ∧ t.1 = 0) ∧ (s.2 = true → s.1 = IntKind.i64.wrap (n + t.1))
theorem Coalition_b1_same (x : List DCharge) (y : List Int) (k : Nat) (n : Int) : impl_CoalitionCost_b1 x y k n = spec_CoalitionCost_b1 x y k n := by
  unfold impl_CoalitionCost_b1 spec_CoalitionCost_b1
  rw [IsCharge_same]
  cases h : spec_IsCharge_m (gt x k) with
  | false =>
    have hb : ∀ j (s : Int × Bool), spec_CoalitionCost_b2 x y k j s.1 s.2 = .inr (.inl s) := fun j s => by unfold spec_CoalitionCost_b2; rw [h]; rfl
    cases hn : (gt x k).Ids.length - 0 with
    | zero => rfl
    | succ m => rw [rngb, hb]; rfl
  | true =>
    obtain ⟨_, h2, h3⟩ := spec_IsCharge_fact h
    have hb : ∀ j (s : Int × Bool), spec_CoalitionCost_b2 x y k j s.1 s.2 = Sum.elim Sum.inl (fun s => Sum.inr (Sum.inr s)) (cond (spec_HasMember_m y (gt ((gt x k).Tenants) j)) (Sum.inr ((IntKind.i64.wrap (s.1 + (gt ((gt x k).Rows) j))), true)) (Sum.inr (s.1, s.2)) : Int ⊕ (Int × Bool)) := fun j s => by
      unfold spec_CoalitionCost_b2
      rw [h]
      cases spec_HasMember_m y (gt ((gt x k).Tenants) j) <;> rfl
    rw [cond_true, h2, rngb_as hb]
    obtain ⟨s', t', h4, h5, h6, h7, h8⟩ := rng_rel (b := fun j (s : Int × Bool) => (cond (spec_HasMember_m y (gt ((gt x k).Tenants) j)) (Sum.inr ((IntKind.i64.wrap (s.1 + (gt ((gt x k).Rows) j))), true)) (Sum.inr (s.1, s.2)) : Int ⊕ (Int × Bool)))
      (c := fun j (s : Int × Bool) => impl_CoalitionCost_b2 x y k j s.1 s.2) (Coal n) (fun j s t ⟨i1, i2, i3⟩ => by
        unfold impl_CoalitionCost_b2
        rw [HasMember_same]
        cases spec_HasMember_m y (gt ((gt x k).Tenants) j) with
        | false => exact ⟨_, _, rfl, rfl, i1, i2, i3⟩
        | true =>
          refine ⟨_, _, rfl, rfl, rfl, (fun e => by cases e), fun _ => ?_⟩
          dsimp only
          cases hs : s.2 with
          | false =>
            obtain ⟨e1, e2⟩ := i2 hs
            rw [e1, e2]
            simp only [IntKind.wrap_i64]
            omega
          | true =>
            rw [i3 hs]
            simp only [IntKind.wrap_i64]
            omega) ((gt x k).Ids.length - 0) 0 (n, false) (0, false) ⟨rfl, fun _ => ⟨rfl, rfl⟩, fun e => by cases e⟩
    rw [h4, h5]
    dsimp only [Sum.elim_inr]
    rw [← h6]
    cases hs : s'.2 with
    | false => rw [(h7 hs).1]; rfl
    | true =>
      rw [h8 hs, cond_true, cond_true]
      congr 1
      simp only [IntKind.wrap_i64]
      omega
theorem CoalitionCost_same (x : List DCharge) (y : List Int) : impl_CoalitionCost_m x y = spec_CoalitionCost_m x y := by
  unfold impl_CoalitionCost_m spec_CoalitionCost_m
  simp only [Coalition_b1_same]
theorem FI_same (x : Int) (h : -9223372036854775808 ≤ x ∧ x ≤ 9223372036854775807) : spec_FormatInt_m x = impl_FormatInt_m x := spec_FormatInt_is x h
theorem join3 (a b c s : List UInt8) : joinB [sB a, sB b, sB c] (sB s) = sB (a ++ (s ++ (b ++ (s ++ c)))) := by
  unfold joinB
  refine congrArg sB ?_
  show Lib.join [a, b, c] s = _
  unfold Lib.join
  simp [List.intercalate, List.append_assoc]
theorem join_snoc (sep y : List UInt8) : ∀ {xs : List (List UInt8)}, xs ≠ [] → Lib.join (xs ++ [y]) sep = Lib.join xs sep ++ (sep ++ y)
  | [], h => absurd rfl h
  | [x], _ => by
    unfold Lib.join
    simp [List.intercalate]
  | x :: z :: r, _ => by
    have ih := join_snoc sep y (xs := z :: r) (by simp)
    have e : ∀ (u v : List UInt8) (q : List (List UInt8)), Lib.join (u :: v :: q) sep = u ++ (sep ++ Lib.join (v :: q) sep) := fun u v q => by
      unfold Lib.join
      simp [List.intercalate]
    show Lib.join (x :: z :: (r ++ [y])) sep = _
    rw [e, e]
    show x ++ (sep ++ Lib.join ((z :: r) ++ [y]) sep) = _
    rw [ih]
    simp
theorem joinB_snoc {xs : List ByteArray} (y sep : ByteArray) (h : xs ≠ []) : joinB (xs ++ [y]) sep = joinB xs sep ++ (sep ++ y) := by
  unfold joinB
  rw [List.map_append]
  show sB (Lib.join (xs.map (·.data.toList) ++ [y.data.toList]) sep.data.toList) = _
  rw [join_snoc _ _ (by simpa using h), ← sB_app, ← sB_app, sB_data, sB_data]
theorem FormatCharge_same (x : DCharge) : impl_FormatCharge_m x = spec_FormatCharge_m x := by
  unfold impl_FormatCharge_m spec_FormatCharge_m
  rw [IsCharge_same]
  cases h : spec_IsCharge_m x with
  | false => rfl
  | true =>
    obtain ⟨h1, h2⟩ := spec_Charge_rng h
    rw [cond_true, cond_true, rng_congr (n := x.Ids.length) (b := fun k (s : ByteArray) => spec_FormatCharge_b1 x k s) (b' := fun k (s : ByteArray) => (.inr ((((s ++ (sB [32, 113])) ++ (impl_FormatInt_m (gt x.Ids k))) ++ (sB [43])) ++ (impl_FormatInt_m (gt x.Rows k))) : ByteArray ⊕ ByteArray)) (fun j s hj => by
      have := h2 j hj
      unfold spec_FormatCharge_b1
      rw [FI_same _ (by omega), FI_same _ (by omega)]) (x.Ids.length - 0) 0 _ (by omega), FI_same x.Segment (by omega), FI_same x.Base (by omega)]
    obtain ⟨s, t, e1, e2, hI⟩ := rng_rel (b := fun k (s : List ByteArray) => impl_FormatCharge_b1 x k s) (c := fun k (s : ByteArray) => (.inr ((((s ++ (sB [32, 113])) ++ (impl_FormatInt_m (gt x.Ids k))) ++ (sB [43])) ++ (impl_FormatInt_m (gt x.Rows k))) : ByteArray ⊕ ByteArray)) (fun s t => s ≠ [] ∧ joinB s (sB [32]) = t) (fun j s t ⟨i1, i2⟩ => by
      refine ⟨_, _, rfl, rfl, by simp, ?_⟩
      rw [joinB_snoc _ _ i1, i2]
      rw [show sB [32, 113] = sB [32] ++ sB [113] from (sB_app [32] [113]).symm]
      simp only [ByteArray.append_assoc]) (x.Ids.length - 0) 0 [impl_FormatInt_m x.Segment, sB [98, 97, 115, 101], impl_FormatInt_m x.Base] ((impl_FormatInt_m x.Segment ++ sB [32, 98, 97, 115, 101, 32]) ++ impl_FormatInt_m x.Base) ⟨by simp, by
        show joinB [sB (Lib.itoa x.Segment), sB [98, 97, 115, 101], sB (Lib.itoa x.Base)] (sB [32]) = sB (Lib.itoa x.Segment) ++ sB [32, 98, 97, 115, 101, 32] ++ sB (Lib.itoa x.Base)
        rw [join3, sB_app, sB_app]
        refine congrArg sB ?_
        simp⟩
    rw [e1, e2]
    exact hI.2
def isum (f : Nat → Int) : Nat → Int
  | 0 => 0
  | n + 1 => isum f n + f n
theorem isum_le {f g : Nat → Int} : ∀ n, (∀ j, j < n → f j ≤ g j) → isum f n ≤ isum g n
  | 0, _ => Int.le_refl _
  | n + 1, h => by
    have h1 := isum_le n fun j hj => h j (by omega)
    have h2 := h n (by omega)
    show isum f n + f n ≤ isum g n + g n
    omega
theorem isum_congr {f g : Nat → Int} : ∀ n, (∀ j, j < n → f j = g j) → isum f n = isum g n
  | 0, _ => rfl
  | n + 1, h => by
    have h1 := isum_congr n fun j hj => h j (by omega)
    have h2 := h n (by omega)
    show isum f n + f n = isum g n + g n
    omega
theorem isum_add {f g : Nat → Int} : ∀ n, isum (fun j => f j + g j) n = isum f n + isum g n
  | 0 => rfl
  | n + 1 => by
    have h1 := isum_add (f := f) (g := g) n
    show isum (fun j => f j + g j) n + (f n + g n) = (isum f n + f n) + (isum g n + g n)
    omega
theorem isum_zero {f : Nat → Int} (n : Nat) (h : ∀ j, j < n → f j = 0) : isum f n = 0 := by
  rw [isum_congr (g := fun _ => 0) n h]
  induction n with
  | zero => rfl
  | succ n ih => show isum (fun _ => 0) n + 0 = 0; rw [ih fun j hj => h j (by omega)]; rfl
theorem isum_bnd {f : Nat → Int} {c : Int} : ∀ n, (∀ j, j < n → 0 ≤ f j ∧ f j ≤ c) → 0 ≤ isum f n ∧ isum f n ≤ n * c
  | 0, _ => ⟨Int.le_refl _, by show (0 : Int) ≤ ((0 : Nat) : Int) * c; rw [Int.natCast_zero, Int.zero_mul]; exact Int.le_refl _⟩
  | n + 1, h => by
    have h1 := isum_bnd n fun j hj => h j (by omega)
    have h2 := h n (by omega)
    show 0 ≤ isum f n + f n ∧ isum f n + f n ≤ ((n + 1 : Nat) : Int) * c
    have e : ((n + 1 : Nat) : Int) * c = (n : Int) * c + c := by rw [Int.natCast_add, Int.add_mul]; simp
    rw [e]
    omega
theorem isum_swap (p : Nat → Nat → Int) (n : Nat) : ∀ m, isum (fun i => isum (fun j => p i j) n) m = isum (fun j => isum (fun i => p i j) m) n
  | 0 => (isum_zero n fun _ _ => rfl).symm
  | m + 1 => by
    show isum (fun i => isum (fun j => p i j) n) m + isum (fun j => p m j) n = _
    rw [isum_swap p n m, ← isum_add]
    rfl
theorem rng_isum {R : Type} {n : Nat} {f : Nat → Int} {b : Nat → Int → R ⊕ Int} {s0 : Int} (hb : ∀ j s, j < n → 0 ≤ s → s ≤ 2000000000 → b j s = .inr (s + f j)) (hf : ∀ j, j < n → 0 ≤ f j ∧ f j ≤ 1000) (hn : n ≤ 1000) (h0 : 0 ≤ s0 ∧ s0 ≤ 1000000000) : rng b (n - 0) 0 s0 = .inr (s0 + isum f n) := by
  obtain ⟨s, e, h⟩ := rng_inv (body := b) (n := n) (fun k s => s = s0 + isum f k) (fun k s hk h => by
    have h1 := isum_bnd (f := f) (c := 1000) k fun j hj => hf j (by omega)
    have h3 : (k : Int) * 1000 ≤ 1000 * 1000 := Int.mul_le_mul_of_nonneg_right (by omega) (by omega)
    refine ⟨_, hb k s hk (by omega) (by omega), ?_⟩
    show s + f k = s0 + (isum f k + f k)
    omega) (n - 0) 0 s0 (by omega) (by show s0 = s0 + 0; omega)
  rw [e, h]
theorem baseS_sum {x : DCharge} (h : spec_IsCharge_m x = true) : isum (baseS x) x.Ids.length = x.Base := by
  obtain ⟨h1, _, _, h4, _⟩ := spec_Charge_all h
  have key : ∀ (q r : Int) (m : Nat), 0 ≤ r → isum (fun k => q + (if ((k : Nat) : Int) < r then 1 else 0)) m = m * q + (if (m : Int) ≤ r then (m : Int) else r) := fun q r m hr => by
    induction m with
    | zero => show (0 : Int) = ((0 : Nat) : Int) * q + _; rw [Int.natCast_zero, Int.zero_mul, if_pos hr]; rfl
    | succ m ih =>
      show isum _ m + (q + _) = ((m + 1 : Nat) : Int) * q + _
      have e : ((m + 1 : Nat) : Int) * q = (m : Int) * q + q := by rw [Int.natCast_add, Int.add_mul]; simp
      rw [ih, e]
      split <;> split <;> split <;> omega
  have hr : 0 ≤ x.Base % ((x.Ids.length : Nat) : Int) := Int.emod_nonneg _ (by omega)
  have hr2 : x.Base % ((x.Ids.length : Nat) : Int) < ((x.Ids.length : Nat) : Int) := Int.emod_lt_of_pos _ (by omega)
  have h9 := key (x.Base / ((x.Ids.length : Nat) : Int)) (x.Base % ((x.Ids.length : Nat) : Int)) x.Ids.length hr
  have h10 : isum (baseS x) x.Ids.length = isum (fun k => x.Base / ((x.Ids.length : Nat) : Int) + (if ((k : Nat) : Int) < x.Base % ((x.Ids.length : Nat) : Int) then 1 else 0)) x.Ids.length := rfl
  rw [h10, h9, if_neg (by omega)]
  have := Int.mul_ediv_add_emod x.Base ((x.Ids.length : Nat) : Int)
  omega
theorem shareS_bnd {x : DCharge} (h : spec_IsCharge_m x = true) {k : Nat} (hk : k < x.Ids.length) : 0 ≤ shareS x k ∧ shareS x k ≤ 9 := by
  have h1 := baseS_bnd h k
  have h2 := ((spec_Charge_all h).2.2.2.2 k hk).2
  unfold shareS
  omega
theorem gt_map_range {f : Nat → Int} {n k : Nat} (hk : k < n) : gt ((List.range n).map f) k = f k := by
  rw [gt_at (by rw [List.length_map, List.length_range]; exact hk), List.getElem_map, List.getElem_range]
theorem WorkDone_form {x : DCharge} (h : spec_IsCharge_m x = true) : impl_WorkDone_m x = x.Base + isum (fun k => gt x.Rows k) x.Ids.length := by
  obtain ⟨h1, h2, h3, h4, h5⟩ := spec_Charge_all h
  unfold impl_WorkDone_m
  rw [IsCharge_same, h, cond_true, h3, rng_isum (f := fun k => gt x.Rows k) (b := fun k s => impl_WorkDone_b1 x k s) (fun j s hj _ _ => by have := (h5 j hj).2; unfold impl_WorkDone_b1; rw [wrap_id (by omega) (by omega)]) (fun j hj => by have := (h5 j hj).2; omega) (by omega) (by omega)]
  rfl
theorem WorkDone_no {x : DCharge} (h : spec_IsCharge_m x = false) : impl_WorkDone_m x = 0 := by
  unfold impl_WorkDone_m
  rw [IsCharge_same, h]
  rfl
def tcS (x : DCharge) (t : Int) : Int := if spec_IsCharge_m x = true then isum (fun j => if gt x.Tenants j = t then shareS x j else 0) x.Ids.length else 0
def ccS (x : DCharge) (ts : List Int) : Int := if spec_IsCharge_m x = true then (if (List.range x.Ids.length).any (fun j => impl_hasInt_m ts (gt x.Tenants j)) = true then x.Base else 0) + isum (fun j => if impl_hasInt_m ts (gt x.Tenants j) = true then gt x.Rows j else 0) x.Ids.length else 0
theorem tcS_bnd (x : DCharge) (t : Int) : 0 ≤ tcS x t ∧ tcS x t ≤ 72 := by
  unfold tcS
  split
  · rename_i h
    obtain ⟨h1, h2, h3, h4, h5⟩ := spec_Charge_all h
    have hb := isum_bnd (f := fun j => if gt x.Tenants j = t then shareS x j else 0) (c := 9) x.Ids.length (fun j hj => by
      have := shareS_bnd h hj
      try dsimp only
      split <;> omega)
    have : (x.Ids.length : Int) * 9 ≤ 8 * 9 := Int.mul_le_mul_of_nonneg_right (by omega) (by omega)
    omega
  · omega
theorem ccS_bnd (x : DCharge) (ts : List Int) : 0 ≤ ccS x ts ∧ ccS x ts ≤ 36 := by
  unfold ccS
  split
  · rename_i h
    obtain ⟨h1, h2, h3, h4, h5⟩ := spec_Charge_all h
    have hb := isum_bnd (f := fun j => if impl_hasInt_m ts (gt x.Tenants j) = true then gt x.Rows j else 0) (c := 4) x.Ids.length (fun j hj => by
      have := (h5 j hj).2
      try dsimp only
      split <;> omega)
    have : (x.Ids.length : Int) * 4 ≤ 8 * 4 := Int.mul_le_mul_of_nonneg_right (by omega) (by omega)
    split <;> omega
  · omega
theorem TenantCharge_form (l : List DCharge) (t : Int) (hl : l.length ≤ 1000) : impl_TenantCharge_m l t = isum (fun i => tcS (gt l i) t) l.length := by
  unfold impl_TenantCharge_m
  obtain ⟨s, e, h⟩ := rng_inv (R := Int) (body := fun k (s : Int) => impl_TenantCharge_b1 l t k s) (n := l.length) (fun k s => s = isum (fun i => tcS (gt l i) t) k) (fun k s hk h => by
    have hs := isum_bnd (f := fun i => tcS (gt l i) t) (c := 72) k fun j _ => tcS_bnd _ _
    have h3 : (k : Int) * 72 ≤ 1000 * 72 := Int.mul_le_mul_of_nonneg_right (by omega) (by omega)
    refine ⟨s + tcS (gt l k) t, ?_, by show _ = isum _ k + _; rw [h]⟩
    show impl_TenantCharge_b1 l t k s = _
    unfold impl_TenantCharge_b1 tcS
    cases hc : spec_IsCharge_m (gt l k) with
    | false =>
      rw [SharesOf_no hc, if_neg Bool.false_ne_true, Int.add_zero]
      rfl
    | true =>
      rw [SharesOf_form hc, List.length_map, List.length_range, if_pos rfl]
      have hcb := spec_Charge_all hc
      rw [rng_isum (n := (gt l k).Ids.length) (f := fun j => if gt (gt l k).Tenants j = t then shareS (gt l k) j else 0) (b := fun j (s : Int) => impl_TenantCharge_b2 l t k j s) (fun j s' hj _ _ => by
        have hsb := shareS_bnd hc hj
        unfold impl_TenantCharge_b2
        rw [SharesOf_form hc, gt_map_range hj]
        try dsimp only
        by_cases ht : gt (gt l k).Tenants j = t
        · rw [beq_iff_eq.2 ht, if_pos ht, cond_true, wrap_id (by omega) (by omega)]
        · rw [beq_eq_false_iff_ne.2 ht, if_neg ht, Int.add_zero, cond_false]) (fun j hj => by
        have := shareS_bnd hc hj
        try dsimp only
        split <;> omega) (by omega) (by omega)]
      rfl) (l.length - 0) 0 0 (by omega) rfl
  rw [e, h]
  rfl
theorem Coal_loop {x : DCharge} {ts : List Int} (h : spec_IsCharge_m x = true) {b : Nat → Int × Bool → Int ⊕ (Int × Bool)} (hb : ∀ j s, b j s = cond (impl_hasInt_m ts (gt x.Tenants j)) (.inr (IntKind.i64.wrap (s.1 + gt x.Rows j), true)) (.inr (s.1, s.2))) : rng b (x.Ids.length - 0) 0 (0, false) = .inr (isum (fun j => if impl_hasInt_m ts (gt x.Tenants j) = true then gt x.Rows j else 0) x.Ids.length, (List.range x.Ids.length).any fun j => impl_hasInt_m ts (gt x.Tenants j)) := by
  obtain ⟨h1, h2, h3, h4, h5⟩ := spec_Charge_all h
  obtain ⟨s, e, hs⟩ := rng_inv (body := b) (n := x.Ids.length) (fun k s => s = (isum (fun j => if impl_hasInt_m ts (gt x.Tenants j) = true then gt x.Rows j else 0) k, (List.range k).any fun j => impl_hasInt_m ts (gt x.Tenants j))) (fun k s hk hs => by
    have hbd := isum_bnd (f := fun j => if impl_hasInt_m ts (gt x.Tenants j) = true then gt x.Rows j else 0) (c := 4) k (fun j hj => by
      have := (h5 j (by omega)).2
      try dsimp only
      split <;> omega)
    have hk4 : (k : Int) * 4 ≤ 8 * 4 := Int.mul_le_mul_of_nonneg_right (by omega) (by omega)
    have hr := (h5 k hk).2
    subst hs
    rw [hb]
    try dsimp only
    cases hc : impl_hasInt_m ts (gt x.Tenants k) with
    | true =>
      rw [wrap_id (by omega) (by omega)]
      refine ⟨_, rfl, ?_⟩
      refine Prod.ext ?_ ?_
      · show isum _ k + gt x.Rows k = isum _ k + (if impl_hasInt_m ts (gt x.Tenants k) = true then gt x.Rows k else 0)
        rw [if_pos hc]
      · show true = (List.range (k + 1)).any _
        rw [List.range_succ, List.any_append]
        simp [hc]
    | false =>
      refine ⟨_, rfl, ?_⟩
      refine Prod.ext ?_ ?_
      · show isum _ k = isum _ k + (if impl_hasInt_m ts (gt x.Tenants k) = true then gt x.Rows k else 0)
        rw [hc, if_neg Bool.false_ne_true, Int.add_zero]
      · show (List.range k).any _ = (List.range (k + 1)).any _
        rw [List.range_succ, List.any_append]
        simp [hc]) (x.Ids.length - 0) 0 (0, false) (by omega) rfl
  rw [e, hs]
theorem CoalitionCost_form (l : List DCharge) (ts : List Int) (hl : l.length ≤ 1000) : impl_CoalitionCost_m l ts = isum (fun i => ccS (gt l i) ts) l.length := by
  unfold impl_CoalitionCost_m
  rw [rng_isum (n := l.length) (f := fun i => ccS (gt l i) ts) (b := fun k (s : Int) => impl_CoalitionCost_b1 l ts k s) (fun k s hk h0 h9 => by
    have hcb := ccS_bnd (gt l k) ts
    show impl_CoalitionCost_b1 l ts k s = _
    unfold impl_CoalitionCost_b1
    rw [IsCharge_same]
    unfold ccS at hcb ⊢
    cases hc : spec_IsCharge_m (gt l k) with
    | false => rw [if_neg Bool.false_ne_true, Int.add_zero]; rfl
    | true =>
      rw [hc, if_pos rfl] at hcb
      obtain ⟨h1, h2, h3, h4, h5⟩ := spec_Charge_all hc
      rw [cond_true, h2, Coal_loop hc (b := fun j (s : Int × Bool) => impl_CoalitionCost_b2 l ts k j s.1 s.2) (fun j s => rfl), if_pos rfl]
      cases ha : (List.range (gt l k).Ids.length).any fun j => impl_hasInt_m ts (gt (gt l k).Tenants j) with
      | true =>
        rw [ha, if_pos rfl] at hcb
        rw [if_pos rfl]
        show cond true (Sum.inr (IntKind.i64.wrap (s + IntKind.i64.wrap ((gt l k).Base + _)))) (Sum.inr s) = (_ : Int ⊕ Int)
        have hw := wrap_id (n := (gt l k).Base + isum (fun j => if impl_hasInt_m ts (gt (gt l k).Tenants j) = true then gt (gt l k).Rows j else 0) (gt l k).Ids.length) (by omega) (by omega)
        rw [cond_true]
        dsimp only
        rw [hw, wrap_id (by omega) (by omega)]
      | false =>
        rw [if_neg Bool.false_ne_true]
        have hz : isum (fun j => if impl_hasInt_m ts (gt (gt l k).Tenants j) = true then gt (gt l k).Rows j else 0) (gt l k).Ids.length = 0 := isum_zero _ fun j hj => by
          rw [List.any_eq_false] at ha
          exact if_neg (ha j (List.mem_range.2 hj))
        rw [hz]
        show Sum.inr s = Sum.inr (s + (0 + 0))
        rw [Int.add_zero, Int.add_zero]) (fun k _ => by have := ccS_bnd (gt l k) ts; (try dsimp only); omega) hl (by omega)]
  show 0 + _ = _
  rw [Int.zero_add]
theorem wdS_bnd (x : DCharge) : 0 ≤ impl_WorkDone_m x ∧ impl_WorkDone_m x ≤ 36 := by
  cases h : spec_IsCharge_m x with
  | false => rw [WorkDone_no h]; omega
  | true =>
    obtain ⟨h1, h2, h3, h4, h5⟩ := spec_Charge_all h
    rw [WorkDone_form h]
    have hb := isum_bnd (f := fun j => gt x.Rows j) (c := 4) x.Ids.length (fun j hj => (h5 j hj).2)
    have : (x.Ids.length : Int) * 4 ≤ 8 * 4 := Int.mul_le_mul_of_nonneg_right (by omega) (by omega)
    omega
theorem TotalWork_form (l : List DCharge) (hl : l.length ≤ 1000) : impl_TotalWork_m l = isum (fun i => impl_WorkDone_m (gt l i)) l.length := by
  unfold impl_TotalWork_m
  rw [rng_isum (n := l.length) (f := fun i => impl_WorkDone_m (gt l i)) (b := fun k (s : Int) => impl_TotalWork_b1 l k s) (fun k s hk _ _ => by
    have := wdS_bnd (gt l k)
    show Sum.inr (IntKind.i64.wrap _) = _
    rw [wrap_id (by omega) (by omega)]) (fun k _ => by have := wdS_bnd (gt l k); (try dsimp only); omega) hl (by omega)]
  show 0 + _ = _
  rw [Int.zero_add]
theorem cc_le_wd (x : DCharge) (ts : List Int) : ccS x ts ≤ impl_WorkDone_m x := by
  unfold ccS
  cases h : spec_IsCharge_m x with
  | false => rw [if_neg Bool.false_ne_true, WorkDone_no h]; omega
  | true =>
    obtain ⟨h1, h2, h3, h4, h5⟩ := spec_Charge_all h
    rw [if_pos rfl, WorkDone_form h]
    have := isum_le (f := fun j => if impl_hasInt_m ts (gt x.Tenants j) = true then gt x.Rows j else 0) (g := fun j => gt x.Rows j) x.Ids.length (fun j hj => by
      have := (h5 j hj).2
      try dsimp only
      split <;> omega)
    split <;> omega
/-- What the tenants of a group pay for one charge is at most what it costs alone. -/
theorem group_le (x : DCharge) (ts : List Int) : isum (fun k => if impl_hasInt_m ts ((k : Nat) : Int) = true then tcS x ((k : Nat) : Int) else 0) 4 ≤ ccS x ts := by
  unfold ccS
  cases h : spec_IsCharge_m x with
  | false =>
    rw [if_neg Bool.false_ne_true]
    have : isum (fun k => if impl_hasInt_m ts ((k : Nat) : Int) = true then tcS x ((k : Nat) : Int) else 0) 4 = 0 := isum_zero 4 fun k _ => by
      unfold tcS
      rw [h, if_neg Bool.false_ne_true]
      split <;> rfl
    omega
  | true =>
    obtain ⟨h1, h2, h3, h4, h5⟩ := spec_Charge_all h
    rw [if_pos rfl]
    have e1 : isum (fun k => if impl_hasInt_m ts ((k : Nat) : Int) = true then tcS x ((k : Nat) : Int) else 0) 4 = isum (fun k => isum (fun j => if impl_hasInt_m ts ((k : Nat) : Int) = true then (if gt x.Tenants j = ((k : Nat) : Int) then shareS x j else 0) else 0) x.Ids.length) 4 := isum_congr 4 fun k _ => by
      try dsimp only
      split
      · unfold tcS; rw [h, if_pos rfl]
      · rw [isum_zero _ fun _ _ => rfl]
    have e2 : ∀ j, j < x.Ids.length → isum (fun k => if impl_hasInt_m ts ((k : Nat) : Int) = true then (if gt x.Tenants j = ((k : Nat) : Int) then shareS x j else 0) else 0) 4 = if impl_hasInt_m ts (gt x.Tenants j) = true then shareS x j else 0 := fun j hj => by
      have ht := (h5 j hj).1
      have h4' : gt x.Tenants j = 0 ∨ gt x.Tenants j = 1 ∨ gt x.Tenants j = 2 ∨ gt x.Tenants j = 3 := by omega
      show ((((0 : Int) + (if impl_hasInt_m ts 0 = true then (if gt x.Tenants j = 0 then shareS x j else 0) else 0)) + (if impl_hasInt_m ts 1 = true then (if gt x.Tenants j = 1 then shareS x j else 0) else 0)) + (if impl_hasInt_m ts 2 = true then (if gt x.Tenants j = 2 then shareS x j else 0) else 0)) + (if impl_hasInt_m ts 3 = true then (if gt x.Tenants j = 3 then shareS x j else 0) else 0) = _
      rcases h4' with e | e | e | e <;> rw [e] <;> simp
    rw [e1, isum_swap, isum_congr _ e2]
    have e3 : isum (fun j => if impl_hasInt_m ts (gt x.Tenants j) = true then shareS x j else 0) x.Ids.length = isum (fun j => (if impl_hasInt_m ts (gt x.Tenants j) = true then gt x.Rows j else 0) + (if impl_hasInt_m ts (gt x.Tenants j) = true then baseS x j else 0)) x.Ids.length := isum_congr _ fun j _ => by
      try dsimp only
      split
      · rfl
      · rfl
    rw [e3, isum_add]
    have hbs := baseS_sum h
    cases ha : (List.range x.Ids.length).any fun j => impl_hasInt_m ts (gt x.Tenants j) with
    | true =>
      rw [if_pos rfl]
      have := isum_le (f := fun j => if impl_hasInt_m ts (gt x.Tenants j) = true then baseS x j else 0) (g := baseS x) x.Ids.length (fun j hj => by
        have := baseS_bnd h j
        try dsimp only
        split <;> omega)
      omega
    | false =>
      rw [if_neg Bool.false_ne_true]
      have hz : isum (fun j => if impl_hasInt_m ts (gt x.Tenants j) = true then baseS x j else 0) x.Ids.length = 0 := isum_zero _ fun j hj => by
        rw [List.any_eq_false] at ha
        exact if_neg (ha j (List.mem_range.2 hj))
      omega
theorem sameInts_refl (z : List Int) : laws_sameInts_m z z = true := by
  unfold laws_sameInts_m
  rw [bne_self_eq_false, rng_all (fun j _ => by unfold laws_sameInts_b1; rw [bne_self_eq_false]; rfl)]
  rfl
theorem laws_has_same (l : List Int) (i : Int) : laws_has_m l i = impl_hasInt_m l i := rfl
theorem shares_loop (x0 : List Int) : rng (R := Bool) (fun k (s : Int) => laws_FnCharges_b1 x0 k s) ((impl_SharesOf_m (spec_DrawSharesOf_m x0)).length - 0) 0 0 = .inr (impl_WorkDone_m (spec_DrawSharesOf_m x0)) := by
  cases h : spec_IsCharge_m (spec_DrawSharesOf_m x0) with
  | false => rw [SharesOf_no h, WorkDone_no h]; rfl
  | true =>
    obtain ⟨h1, h2, h3, h4, h5⟩ := spec_Charge_all h
    rw [SharesOf_form h, List.length_map, List.length_range, rng_isum (n := (spec_DrawSharesOf_m x0).Ids.length) (f := shareS (spec_DrawSharesOf_m x0)) (b := fun k (s : Int) => laws_FnCharges_b1 x0 k s) (fun k s hk _ _ => by
      have hb := baseS_bnd h k
      have hs := shareS_bnd h hk
      have hr := (h5 k hk).2
      show laws_FnCharges_b1 x0 k s = _
      unfold laws_FnCharges_b1
      rw [SharesOf_form h, gt_map_range hk, List.length_map, List.length_range]
      have e1 : shareS (spec_DrawSharesOf_m x0) k - gt (spec_DrawSharesOf_m x0).Rows k = baseS (spec_DrawSharesOf_m x0) k := by unfold shareS; omega
      rw [e1, wrap_id (n := baseS _ k) (by omega) (by omega), Int.tdiv_eq_ediv_of_nonneg h4.1]
      have hd : 0 ≤ (spec_DrawSharesOf_m x0).Base / (((spec_DrawSharesOf_m x0).Ids.length : Nat) : Int) := Int.ediv_nonneg h4.1 (by omega)
      rw [wrap_id (n := (spec_DrawSharesOf_m x0).Base / (((spec_DrawSharesOf_m x0).Ids.length : Nat) : Int)) (by omega) (by omega), decide_eq_false (show ¬ baseS (spec_DrawSharesOf_m x0) k < (spec_DrawSharesOf_m x0).Base / (((spec_DrawSharesOf_m x0).Ids.length : Nat) : Int) by omega), cond_false]
      rw [wrap_id (n := (spec_DrawSharesOf_m x0).Base + (((spec_DrawSharesOf_m x0).Ids.length : Nat) : Int)) (by omega) (by omega), wrap_id (n := (spec_DrawSharesOf_m x0).Base + (((spec_DrawSharesOf_m x0).Ids.length : Nat) : Int) - 1) (by omega) (by omega), Int.tdiv_eq_ediv_of_nonneg (by omega)]
      have hu : ((spec_DrawSharesOf_m x0).Base + (((spec_DrawSharesOf_m x0).Ids.length : Nat) : Int) - 1) / (((spec_DrawSharesOf_m x0).Ids.length : Nat) : Int) ≤ (spec_DrawSharesOf_m x0).Base + (((spec_DrawSharesOf_m x0).Ids.length : Nat) : Int) - 1 := Int.ediv_le_self _ (by omega)
      rw [wrap_id (n := ((spec_DrawSharesOf_m x0).Base + (((spec_DrawSharesOf_m x0).Ids.length : Nat) : Int) - 1) / (((spec_DrawSharesOf_m x0).Ids.length : Nat) : Int)) (by omega) (by omega), decide_eq_false (show ¬ ((spec_DrawSharesOf_m x0).Base + (((spec_DrawSharesOf_m x0).Ids.length : Nat) : Int) - 1) / (((spec_DrawSharesOf_m x0).Ids.length : Nat) : Int) < baseS (spec_DrawSharesOf_m x0) k by omega), cond_false, wrap_id (by omega) (by omega)]) (fun j hj => by have := shareS_bnd h hj; omega) (by omega) (by omega), WorkDone_form h]
    have e : isum (shareS (spec_DrawSharesOf_m x0)) (spec_DrawSharesOf_m x0).Ids.length = isum (fun k => gt (spec_DrawSharesOf_m x0).Rows k) (spec_DrawSharesOf_m x0).Ids.length + isum (baseS (spec_DrawSharesOf_m x0)) (spec_DrawSharesOf_m x0).Ids.length := isum_add (f := fun k => gt (spec_DrawSharesOf_m x0).Rows k) (g := baseS (spec_DrawSharesOf_m x0)) _
    rw [e, baseS_sum h, Int.zero_add, Int.add_comm]
theorem law_Charges (x0 : List Int) : laws_FnCharges_m x0 = true := by
  unfold laws_FnCharges_m
  cases laws_big_m x0 with
  | true => rfl
  | false =>
  have hl := (spec_DrawCoalitionCost_fact x0).1.1
  have hg : rng (R := Bool) (fun k (s : Int) => laws_FnCharges_b2 x0 k s) (4 - 0) 0 0 = .inr (isum (fun k => if impl_hasInt_m (spec_DrawCoalitionCost_m x0).2 ((k : Nat) : Int) = true then impl_TenantCharge_m (spec_DrawCoalitionCost_m x0).1 ((k : Nat) : Int) else 0) 4) := by
    have hb : ∀ k, 0 ≤ impl_TenantCharge_m (spec_DrawCoalitionCost_m x0).1 ((k : Nat) : Int) ∧ impl_TenantCharge_m (spec_DrawCoalitionCost_m x0).1 ((k : Nat) : Int) ≤ 360 := fun k => by
      rw [TenantCharge_form _ _ (by omega)]
      have := isum_bnd (f := fun i => tcS (gt (spec_DrawCoalitionCost_m x0).1 i) ((k : Nat) : Int)) (c := 72) (spec_DrawCoalitionCost_m x0).1.length fun j _ => tcS_bnd _ _
      have h3 : ((spec_DrawCoalitionCost_m x0).1.length : Int) * 72 ≤ 5 * 72 := Int.mul_le_mul_of_nonneg_right (by omega) (by omega)
      omega
    rw [rng_isum (n := 4) (f := fun k => if impl_hasInt_m (spec_DrawCoalitionCost_m x0).2 ((k : Nat) : Int) = true then impl_TenantCharge_m (spec_DrawCoalitionCost_m x0).1 ((k : Nat) : Int) else 0) (b := fun k (s : Int) => laws_FnCharges_b2 x0 k s) (fun k s hk _ _ => by
      have := hb k
      show laws_FnCharges_b2 x0 k s = _
      unfold laws_FnCharges_b2
      rw [laws_has_same]
      try dsimp only
      cases impl_hasInt_m (spec_DrawCoalitionCost_m x0).2 ((k : Nat) : Int) with
      | true => rw [cond_true, if_pos rfl, wrap_id (by omega) (by omega)]
      | false => rw [cond_false, if_neg Bool.false_ne_true, Int.add_zero]) (fun k _ => by have := hb k; (try dsimp only); split <;> omega) (by omega) (by omega)]
    rw [Int.zero_add]
  have hle : isum (fun k => if impl_hasInt_m (spec_DrawCoalitionCost_m x0).2 ((k : Nat) : Int) = true then impl_TenantCharge_m (spec_DrawCoalitionCost_m x0).1 ((k : Nat) : Int) else 0) 4 ≤ impl_CoalitionCost_m (spec_DrawCoalitionCost_m x0).1 (spec_DrawCoalitionCost_m x0).2 := by
    rw [CoalitionCost_form _ _ (by omega)]
    have e : isum (fun k => if impl_hasInt_m (spec_DrawCoalitionCost_m x0).2 ((k : Nat) : Int) = true then impl_TenantCharge_m (spec_DrawCoalitionCost_m x0).1 ((k : Nat) : Int) else 0) 4 = isum (fun k => isum (fun i => if impl_hasInt_m (spec_DrawCoalitionCost_m x0).2 ((k : Nat) : Int) = true then tcS (gt (spec_DrawCoalitionCost_m x0).1 i) ((k : Nat) : Int) else 0) (spec_DrawCoalitionCost_m x0).1.length) 4 := isum_congr 4 fun k _ => by
      try dsimp only
      split
      · exact TenantCharge_form _ _ (by omega)
      · rw [isum_zero _ fun _ _ => rfl]
    rw [e, isum_swap]
    exact isum_le _ fun i _ => group_le _ _
  have hcw : impl_CoalitionCost_m (spec_DrawCoalitionCost_m x0).1 (spec_DrawCoalitionCost_m x0).2 ≤ impl_TotalWork_m (spec_DrawCoalitionCost_m x0).1 := by
    rw [CoalitionCost_form _ _ (by omega), TotalWork_form _ (by omega)]
    exact isum_le _ fun i _ => cc_le_wd _ _
  rw [shares_loop, hg, SharesOf_same, sameInts_refl, IsCharge_same, bne_self_eq_false, ← WorkDone_same, bne_self_eq_false, FormatCharge_same, eqS_refl]
  show cond (impl_WorkDone_m (spec_DrawSharesOf_m x0) == impl_WorkDone_m (spec_DrawSharesOf_m x0)) (cond (_ == _) (cond (decide (isum _ 4 ≤ _)) (cond (_ == _) (cond (_ == _) (cond (decide _) (_ == _) false) false) false) false) false) false = true
  rw [beq_self_eq_true, ← CoalitionCost_same, beq_self_eq_true, decide_eq_true hle, ← TenantCharge_same, beq_self_eq_true, ← TotalWork_same, beq_self_eq_true, decide_eq_true hcw, ← WorstStep_same, beq_self_eq_true]
  rfl

end Go.Proofs.YtcjelfdpekbbkaaDoor
