/-
  The contract of the law.
-/
import Derived.Test.YtfdaaliffcfjjaaGreatDoorL3Pl
namespace Go.Proofs.YtfdaaliffcfjjaaGreatDoor
open Go.RowKit
set_option maxRecDepth 100000
set_option maxHeartbeats 4000000
open _root_.Go.Proofs.Tryz
theorem spec_l8Any_sm (b : List Int) (D : Dl1Cur) (s : DStore) : smUpdate 68719476736 (spec_l8Any_m b D s).1 := by
  unfold spec_l8Any_m
  repeat' (first | exact spec_l8Update_sm _ _ _ | apply cond_smU)
theorem join3 (a b c s : List UInt8) : joinB [sB a, sB b, sB c] (sB s) = sB (a ++ (s ++ (b ++ (s ++ c)))) := by
  unfold joinB
  refine congrArg sB ?_
  show Lib.join [a, b, c] s = _
  unfold Lib.join
  simp [List.intercalate, List.append_assoc]
theorem nt_three (a b c : Int) : impl_numbersText_m [a, b, c] = joinB [impl_FormatInt_m a, impl_FormatInt_m b, impl_FormatInt_m c] (sB [44]) := rfl
theorem rowVals {l : List Int} (h : l.length = 3) : ∃ a b c, l = [a, b, c] := by
  match l, h with
  | [a, b, c], _ => exact ⟨a, b, c, rfl⟩
def rowT (i a b c : Int) : List UInt8 := Lib.itoa i ++ 58 :: (Lib.itoa a ++ 44 :: (Lib.itoa b ++ 44 :: Lib.itoa c))
theorem FR_text {r : DRow} (h : impl_IsRow_m r = true) : ∃ a b c, r.Values = [a, b, c] ∧ (0 ≤ r.Id ∧ r.Id ≤ 999) ∧ (0 ≤ a ∧ a ≤ 99) ∧ (0 ≤ b ∧ b ≤ 99) ∧ (0 ≤ c ∧ c ≤ 99) ∧ impl_FormatRow_m r = sB (rowT r.Id a b c) := by
  obtain ⟨h1, h2, h3⟩ := impl_Row_rng h
  obtain ⟨a, b, c, e⟩ := rowVals h2
  rw [e] at h3
  refine ⟨a, b, c, e, h1, h3 0 (by omega), h3 1 (by omega), h3 2 (by omega), ?_⟩
  unfold impl_FormatRow_m rowT
  rw [h, cond_true, e, nt_three]
  show (sB (Lib.itoa r.Id) ++ sB [58]) ++ joinB [sB (Lib.itoa a), sB (Lib.itoa b), sB (Lib.itoa c)] (sB [44]) = _
  rw [join3, sB_app, sB_app]
  simp
theorem UP_cases {u : DUpdate} (h : impl_IsUpdate_m u = true) : (u = ⟨1, u.Row, 0, 0⟩ ∧ impl_IsRow_m u.Row = true) ∨ (∃ i, u = ⟨2, ⟨i, []⟩, 0, 0⟩ ∧ 0 ≤ i ∧ i ≤ 999) ∨ (∃ i f v, u = ⟨3, ⟨i, []⟩, f, v⟩ ∧ (0 ≤ i ∧ i ≤ 999) ∧ (0 ≤ f ∧ f ≤ 2) ∧ (0 ≤ v ∧ v ≤ 99)) := by
  have hr := impl_Update_rng h
  rw [IsUpdate_same] at h
  obtain ⟨k, ⟨i, vs⟩, f, v⟩ := u
  unfold spec_IsUpdate_m at h
  dsimp only at h hr ⊢
  cases h1 : k == 1 with
  | true =>
    rw [h1] at h
    obtain ⟨h2, h⟩ := cond_tt h
    obtain ⟨h3, h9⟩ := cond_tt h
    rw [beq_iff_eq] at h1 h3 h9
    subst h1 h3 h9
    exact .inl ⟨rfl, (IsRow_same _).trans h2⟩
  | false =>
    rw [h1, cond_false] at h
    cases h2 : k == 2 with
    | true =>
      rw [h2, cond_true] at h
      obtain ⟨h3, h⟩ := cond_tt h
      obtain ⟨h5, h⟩ := cond_tt h
      obtain ⟨h4, h9⟩ := cond_tt h
      rw [beq_iff_eq] at h2 h4 h5 h9
      have : vs = [] := List.eq_nil_of_length_eq_zero (by omega)
      subst h2 h4 h9 this
      exact .inr (.inl ⟨i, rfl, hr.1⟩)
    | false =>
      rw [h2, cond_false] at h
      obtain ⟨h0, h⟩ := cond_tt h
      obtain ⟨h3, h⟩ := cond_tt h
      obtain ⟨h5, h⟩ := cond_tt h
      rw [beq_iff_eq] at h0 h5
      have : vs = [] := List.eq_nil_of_length_eq_zero (by omega)
      subst h0 this
      exact .inr (.inr ⟨i, f, v, rfl, hr⟩)
def setT (i f v : Int) : List UInt8 := [115, 101, 116, 32] ++ (Lib.itoa i ++ 32 :: ((102 :: Lib.itoa f) ++ 32 :: Lib.itoa v))
theorem FU_text {u : DUpdate} (h : impl_IsUpdate_m u = true) : impl_FormatUpdate_m u = cond (u.Kind == 1) (sB [105, 110, 115, 101, 114, 116, 32] ++ impl_FormatRow_m u.Row) (cond (u.Kind == 2) (sB ([100, 101, 108, 101, 116, 101, 32] ++ Lib.itoa u.Row.Id)) (sB (setT u.Row.Id u.Field u.Value))) := by
  unfold impl_FormatUpdate_m
  rw [h, cond_true]
  have e1 : sB [100, 101, 108, 101, 116, 101, 32] ++ impl_FormatInt_m u.Row.Id = sB ([100, 101, 108, 101, 116, 101, 32] ++ Lib.itoa u.Row.Id) := sB_app _ _
  have e2 : (((sB [115, 101, 116, 32] ++ impl_FormatInt_m u.Row.Id) ++ sB [32, 102]) ++ impl_FormatInt_m u.Field) ++ sB [32] ++ impl_FormatInt_m u.Value = sB (setT u.Row.Id u.Field u.Value) := by
    show (((sB [115, 101, 116, 32] ++ sB (Lib.itoa u.Row.Id)) ++ sB [32, 102]) ++ sB (Lib.itoa u.Field)) ++ sB [32] ++ sB (Lib.itoa u.Value) = _
    rw [sB_app, sB_app, sB_app, sB_app, sB_app]
    unfold setT
    simp
  rw [e1, e2]
theorem PU_len (s : ByteArray) : (impl_ParseUpdate_m s).1.Row.Values.length ≤ 3 := by
  unfold impl_ParseUpdate_m
  cases ha : impl_IsUpdate_m (impl_readUpdate_m (splS s (sB [32]))) with
  | false => exact Nat.zero_le _
  | true =>
    cases hb : eqS (impl_FormatUpdate_m (impl_readUpdate_m (splS s (sB [32])))) s with
    | false => exact Nat.zero_le _
    | true =>
      show (impl_readUpdate_m (splS s (sB [32]))).Row.Values.length ≤ 3
      generalize impl_readUpdate_m (splS s (sB [32])) = u at ha ⊢
      rcases UP_cases ha with ⟨e, hr⟩ | ⟨i, rfl, h1⟩ | ⟨i, f, v, rfl, h1, h2, h3⟩
      · have := (impl_Row_rng hr).2.1
        omega
      · exact Nat.zero_le _
      · exact Nat.zero_le _
theorem rng_idl {α R : Type} [Inhabited α] {xs : List α} {b : Nat → List α → R ⊕ List α} (hb : ∀ k s, b k s = .inr (s ++ [gt xs k])) : ∀ m k, k + m = xs.length → rng b m k (xs.take k) = .inr xs
  | 0, k, h => by
    show Sum.inr (xs.take k) = _
    rw [List.take_of_length_le (by omega)]
  | m + 1, k, h => by
    rw [rng, hb]
    show rng b m (k + 1) (xs.take k ++ [gt xs k]) = _
    rw [show xs.take k ++ [gt xs k] = xs.take (k + 1) by rw [List.take_add_one, gt_some (by omega)]; rfl]
    exact rng_idl hb m (k + 1) (by omega)
theorem spec_DrawFormatRow_fact (x : List Int) : smRow 68719476736 (spec_DrawFormatRow_m x) := spec_l3Any_sm _ _
theorem spec_DrawFormatUpdate_fact (x : List Int) : smUpdate 68719476736 (spec_DrawFormatUpdate_m x) := spec_l8Any_sm _ _ _
theorem spec_DrawAreRows_fact (x : List Int) : (spec_DrawAreRows_m x).length ≤ 9 ∧ ∀ y ∈ (spec_DrawAreRows_m x), smRow 68719476736 y := spec_l3AnyRows_9 _ _
theorem spec_DrawEqualRows_fact (x : List Int) : ((spec_DrawEqualRows_m x).1.length ≤ 9 ∧ ∀ y ∈ (spec_DrawEqualRows_m x).1, smRow 68719476736 y) ∧ ((spec_DrawEqualRows_m x).2.length ≤ 9 ∧ ∀ y ∈ (spec_DrawEqualRows_m x).2, smRow 68719476736 y) := by
  have h1 := spec_l3AnyRows_9 x (spec_l1New_m x)
  have h2 := spec_l3AnyRows_9 x (spec_l1Once_m x (spec_l3AnyRows_m x (spec_l1New_m x)).2 2).2
  unfold spec_DrawEqualRows_m
  cases (spec_l1Once_m x (spec_l3AnyRows_m x (spec_l1New_m x)).2 2).1 with
  | false => exact ⟨h1, h2⟩
  | true =>
    have e := rng_idl (R := (List DRow) × (List DRow)) (xs := (spec_l3AnyRows_m x (spec_l1New_m x)).1) (b := fun k (s : List DRow) => spec_DrawEqualRows_b1 x k s) (fun _ _ => rfl) ((spec_l3AnyRows_m x (spec_l1New_m x)).1.length - 0) 0 (by omega)
    rw [List.take_zero] at e
    rw [cond_true, e]
    exact ⟨h1, h1⟩
theorem impl_FormatRow_z (x : DRow) : (impl_FormatRow_m x).size ≤ 1000 := by
  cases h : impl_IsRow_m x with
  | false =>
    unfold impl_FormatRow_m
    rw [h]
    exact Nat.zero_le _
  | true =>
    obtain ⟨a, b, c, _, h1, h2, h3, h4, ht⟩ := FR_text h
    rw [ht, sB_size]
    unfold rowT
    have e1 := Lib.itoa_length_le x.Id (by omega) (by omega)
    have e2 := Lib.itoa_length_le a (by omega) (by omega)
    have e3 := Lib.itoa_length_le b (by omega) (by omega)
    have e4 := Lib.itoa_length_le c (by omega) (by omega)
    simp only [List.length_append, List.length_cons]
    omega
theorem impl_FormatUpdate_z (x : DUpdate) : (impl_FormatUpdate_m x).size ≤ 2000 := by
  cases h : impl_IsUpdate_m x with
  | false =>
    unfold impl_FormatUpdate_m
    rw [h]
    exact Nat.zero_le _
  | true =>
    have hr := impl_Update_rng h
    have e0 := impl_FormatRow_z x.Row
    have e1 := Lib.itoa_length_le x.Row.Id (by omega) (by omega)
    have e2 := Lib.itoa_length_le x.Field (by omega) (by omega)
    have e3 := Lib.itoa_length_le x.Value (by omega) (by omega)
    rw [FU_text h]
    cases x.Kind == 1 with
    | true =>
      rw [cond_true, sz_app, sB_size]
      simp only [List.length_cons, List.length_nil]
      omega
    | false =>
      cases x.Kind == 2 with
      | true =>
        rw [cond_false, cond_true, sB_size]
        simp only [List.length_append, List.length_cons, List.length_nil]
        omega
      | false =>
        rw [cond_false, cond_false, sB_size]
        unfold setT
        simp only [List.length_append, List.length_cons, List.length_nil]
        omega
theorem impl_ParseRow_sm (s : ByteArray) : smRow 68719476736 (impl_ParseRow_m s).1 := by
  show (impl_ParseRow_m s).1.Values.length ≤ _
  unfold impl_ParseRow_m
  cases (impl_ParseInt_m (cutA s (sB [58]))).2 with
  | false => exact Nat.zero_le _
  | true =>
    cases (impl_parseNumbers_m (cutZ s (sB [58]))).2 with
    | false => exact Nat.zero_le _
    | true =>
      rw [cond_true, cond_true]
      cases h : impl_IsRow_m (⟨(impl_ParseInt_m (cutA s (sB [58]))).1, (impl_parseNumbers_m (cutZ s (sB [58]))).1⟩ : DRow) with
      | false => exact Nat.zero_le _
      | true =>
        rw [cond_true]
        have := (impl_Row_rng h).2.1
        cases eqS (impl_FormatRow_m (⟨(impl_ParseInt_m (cutA s (sB [58]))).1, (impl_parseNumbers_m (cutZ s (sB [58]))).1⟩ : DRow)) s with
        | false => exact Nat.zero_le _
        | true =>
          dsimp only [cond_true] at this ⊢
          omega
theorem impl_ParseUpdate_sm (s : ByteArray) : smUpdate 68719476736 (impl_ParseUpdate_m s).1 := by
  show (impl_ParseUpdate_m s).1.Row.Values.length ≤ _
  have := PU_len s
  omega
def laws_FnTexts_m (x0 : (List Int)) : Bool :=
 cond (laws_big_m x0) true (cond (eqS (impl_FormatRow_m (spec_DrawFormatRow_m x0)) (spec_FormatRow_m (spec_DrawFormatRow_m x0))) (cond ((impl_ParseRow_m (impl_FormatRow_m (spec_DrawFormatRow_m x0))).2 == (spec_IsRow_m (spec_DrawFormatRow_m x0))) (cond ((impl_ParseRow_m (impl_FormatRow_m (spec_DrawFormatRow_m x0))).2) (cond (eqS (impl_FormatRow_m (impl_ParseRow_m (impl_FormatRow_m (spec_DrawFormatRow_m x0))).1) (impl_FormatRow_m (spec_DrawFormatRow_m x0))) (cond (eqS (impl_FormatUpdate_m (spec_DrawFormatUpdate_m x0)) (spec_FormatUpdate_m (spec_DrawFormatUpdate_m x0))) (cond ((impl_ParseUpdate_m (impl_FormatUpdate_m (spec_DrawFormatUpdate_m x0))).2 == (spec_IsUpdate_m (spec_DrawFormatUpdate_m x0))) (cond ((impl_ParseUpdate_m (impl_FormatUpdate_m (spec_DrawFormatUpdate_m x0))).2) (cond (eqS (impl_FormatUpdate_m (impl_ParseUpdate_m (impl_FormatUpdate_m (spec_DrawFormatUpdate_m x0))).1) (impl_FormatUpdate_m (spec_DrawFormatUpdate_m x0))) (cond ((impl_EqualRows_m ((spec_DrawEqualRows_m x0).1) ((spec_DrawEqualRows_m x0).2)) == (spec_EqualRows_m ((spec_DrawEqualRows_m x0).1) ((spec_DrawEqualRows_m x0).2))) (cond ((impl_AreRows_m (spec_DrawAreRows_m x0)) == (spec_AreRows_m (spec_DrawAreRows_m x0))) (spec_EqualRows_m (impl_SortRows_m ((spec_DrawEqualRows_m x0).1)) (spec_SortRows_m ((spec_DrawEqualRows_m x0).1))) false) false) false) (cond ((impl_EqualRows_m ((spec_DrawEqualRows_m x0).1) ((spec_DrawEqualRows_m x0).2)) == (spec_EqualRows_m ((spec_DrawEqualRows_m x0).1) ((spec_DrawEqualRows_m x0).2))) (cond ((impl_AreRows_m (spec_DrawAreRows_m x0)) == (spec_AreRows_m (spec_DrawAreRows_m x0))) (spec_EqualRows_m (impl_SortRows_m ((spec_DrawEqualRows_m x0).1)) (spec_SortRows_m ((spec_DrawEqualRows_m x0).1))) false) false)) false) false) false) (cond (eqS (impl_FormatUpdate_m (spec_DrawFormatUpdate_m x0)) (spec_FormatUpdate_m (spec_DrawFormatUpdate_m x0))) (cond ((impl_ParseUpdate_m (impl_FormatUpdate_m (spec_DrawFormatUpdate_m x0))).2 == (spec_IsUpdate_m (spec_DrawFormatUpdate_m x0))) (cond ((impl_ParseUpdate_m (impl_FormatUpdate_m (spec_DrawFormatUpdate_m x0))).2) (cond (eqS (impl_FormatUpdate_m (impl_ParseUpdate_m (impl_FormatUpdate_m (spec_DrawFormatUpdate_m x0))).1) (impl_FormatUpdate_m (spec_DrawFormatUpdate_m x0))) (cond ((impl_EqualRows_m ((spec_DrawEqualRows_m x0).1) ((spec_DrawEqualRows_m x0).2)) == (spec_EqualRows_m ((spec_DrawEqualRows_m x0).1) ((spec_DrawEqualRows_m x0).2))) (cond ((impl_AreRows_m (spec_DrawAreRows_m x0)) == (spec_AreRows_m (spec_DrawAreRows_m x0))) (spec_EqualRows_m (impl_SortRows_m ((spec_DrawEqualRows_m x0).1)) (spec_SortRows_m ((spec_DrawEqualRows_m x0).1))) false) false) false) (cond ((impl_EqualRows_m ((spec_DrawEqualRows_m x0).1) ((spec_DrawEqualRows_m x0).2)) == (spec_EqualRows_m ((spec_DrawEqualRows_m x0).1) ((spec_DrawEqualRows_m x0).2))) (cond ((impl_AreRows_m (spec_DrawAreRows_m x0)) == (spec_AreRows_m (spec_DrawAreRows_m x0))) (spec_EqualRows_m (impl_SortRows_m ((spec_DrawEqualRows_m x0).1)) (spec_SortRows_m ((spec_DrawEqualRows_m x0).1))) false) false)) false) false)) false) false)
theorem cb3 : Cb Tryz.prog 3 := ⟨f3, _, func3, rfl, by decide⟩
theorem laws_FnTexts_c (w : World) (z0 : Value) (x0 : (List Int)) (r_0 : rdS tU8 w w.heap.size z0 x0) (hT : TabOK w.heap.size w) :
  Calls Tryz.prog 3 #[z0] w fun e w' => e = .returned (.bool (laws_FnTexts_m x0)) ∧ Below w.heap.size w w' := by
 have ok0 := r_0.1
 obtain ⟨m1, A2, c3, rfl, q4, r5⟩ := rdS_op r_0
 refine ce1 (L := [(0, .slice A2 x0.length c3)]) (N := 106) func3 ?_
 refine sr (wa (nt' (CM_seq (sr (wm ?_)))))
 refine wcv (cl_fn cb4 rfl) (fun W hm => laws_big_c W _ x0 (hm.rdS0 r5)) ?_
 refine nt' ?_
 rcases Bool.eq_false_or_eq_true (laws_big_m x0) with g7 | g7
 ·
  refine CM_condT rfl g7 ?_
  refine sr (wa (nt' (CM_ret (QM_then_ret ?_))))
  exact rtb (h := cond_t g7 (rfl))
 ·
  have hl0 := of_decide_eq_false (p := 1048576 < ((x0.length : Nat) : Int)) g7
  refine CM_condF rfl g7 ?_
  refine CM_skip (QM_then (sr (wm ?_)))
  refine wcs tyRow (spec_DrawFormatRow_m x0) (cl_fn cb5 rfl) (fun W hm => spec_DrawFormatRow_c W _ x0 (hm.rdS0 r5) (by omega)) (fun z8 => ?_)
  have hdr := spec_DrawFormatRow_fact x0
  refine tyRow_sp ?_
  rintro v9 rfl
  refine WM_form (n := 0) rfl ?_
  rintro A10 c11 rfl m12
  refine WM_alloc type26 rfl (Wd_none rfl) (by decide) (fun p14 => ?_)
  let K1 : List Value := [.int .i64 ((spec_DrawFormatRow_m x0).Id), .slice A10 ((spec_DrawFormatRow_m x0).Values).length c11]
  let I5 : It := iOwn (tSl tInt 3) [.slice A10 ((spec_DrawFormatRow_m x0).Values).length c11] ((spec_DrawFormatRow_m x0).Values)
  refine sb 0 K1 [I5] (fun W hm => hm) type26 ?_
  refine nt' (sr ?_)
  refine wv (fun W hm => rv_loadN (cs := K1) underlying26 type26 rfl rfl (hm.boxCells (n := 0) rfl)) ?_
  refine wcv (cl_fn cb6 rfl) (fun W hm => impl_FormatRow_c W _ (spec_DrawFormatRow_m x0) (tyRow_mk (x := (spec_DrawFormatRow_m x0)) (hm.rdSI (n := 1) rfl)) (hT.mem hm)) ?_
  have hzr := impl_FormatRow_z (spec_DrawFormatRow_m x0)
  refine wa (nt' (sr (wm ?_)))
  refine WM_call (χ := List Value) (val := fun x => .tuple #[.agg x.toArray, .bool ((impl_ParseRow_m (impl_FormatRow_m (spec_DrawFormatRow_m x0))).2)]) (js := fun x => [iOwn tyRow x ((impl_ParseRow_m (impl_FormatRow_m (spec_DrawFormatRow_m x0))).1)]) (cl_fn cb7 rfl) (fun W hm => impl_ParseRow_c W (impl_FormatRow_m (spec_DrawFormatRow_m x0)) (by omega) (hT.mem hm)) (Wd_none rfl) (by decide) (fun z15 => ?_)
  obtain ⟨G16, hG16⟩ : ∃ G, G = (impl_ParseRow_m (impl_FormatRow_m (spec_DrawFormatRow_m x0))) := ⟨_, rfl⟩
  rw [← hG16]
  refine tyRow_sp ?_
  rintro v17 rfl
  refine WM_form (n := 0) rfl ?_
  rintro A18 c19 rfl m20
  refine wm ?_
  refine wv (fun W hm => rv_extract rfl rfl) ?_
  refine wv (fun W hm => rv_extract rfl rfl) ?_
  refine WM_alloc type26 rfl (Wd_none rfl) (by decide) (fun p22 => ?_)
  let I6 : It := iOwn (tSl tInt 3) [.slice A18 G16.1.Values.length c19] G16.1.Values
  refine sb 0 [.int .i64 G16.1.Id, .slice A18 G16.1.Values.length c19] [I6, iBox p14 26 K1, I5] (fun W hm => hm) type26 ?_
  refine wa (nt' (sr (wm ?_)))
  refine wcs tyUpdate (spec_DrawFormatUpdate_m x0) (cl_fn cb8 rfl) (fun W hm => spec_DrawFormatUpdate_c W _ x0 (hm.rdS0 r5) (by omega)) (fun z23 => ?_)
  have hdu := spec_DrawFormatUpdate_fact x0
  refine tyUpdate_sp ?_
  rintro v24 rfl
  refine WM_form (n := 0) rfl ?_
  rintro A25 c26 rfl m27
  refine WM_alloc type32 rfl (Wd_none rfl) (by decide) (fun p29 => ?_)
  let K2 : List Value := [.int .i64 ((spec_DrawFormatUpdate_m x0).Kind), .int .i64 ((spec_DrawFormatUpdate_m x0).Row.Id), .slice A25 ((spec_DrawFormatUpdate_m x0).Row.Values).length c26, .int .i64 ((spec_DrawFormatUpdate_m x0).Field), .int .i64 ((spec_DrawFormatUpdate_m x0).Value)]
  let K3 : List Value := [.slice A25 ((spec_DrawFormatUpdate_m x0).Row.Values).length c26]
  let I7 : It := iOwn (tSl tInt 3) K3 ((spec_DrawFormatUpdate_m x0).Row.Values)
  let I8 : It := iBox p22 26 [.int .i64 G16.1.Id, .slice A18 G16.1.Values.length c19]
  refine sb 0 K2 [I7, I8, I6, iBox p14 26 K1, I5] (fun W hm => hm) type32 ?_
  refine nt' (sr ?_)
  refine wv (fun W hm => rv_loadN (cs := K2) underlying32 type32 rfl rfl (hm.boxCells (n := 0) rfl)) ?_
  refine wcv (cl_fn cb9 rfl) (fun W hm => impl_FormatUpdate_c W _ (spec_DrawFormatUpdate_m x0) (tyUpdate_mk (x := (spec_DrawFormatUpdate_m x0)) (hm.rdSI (n := 1) rfl)) (hT.mem hm)) ?_
  have hzu := impl_FormatUpdate_z (spec_DrawFormatUpdate_m x0)
  refine wa (nt' (sr (wm ?_)))
  refine WM_call (χ := List Value) (val := fun x => .tuple #[.agg x.toArray, .bool ((impl_ParseUpdate_m (impl_FormatUpdate_m (spec_DrawFormatUpdate_m x0))).2)]) (js := fun x => [iOwn tyUpdate x ((impl_ParseUpdate_m (impl_FormatUpdate_m (spec_DrawFormatUpdate_m x0))).1)]) (cl_fn cb10 rfl) (fun W hm => impl_ParseUpdate_c W (impl_FormatUpdate_m (spec_DrawFormatUpdate_m x0)) (by omega) (hT.mem hm)) (Wd_none rfl) (by decide) (fun z30 => ?_)
  obtain ⟨G31, hG31⟩ : ∃ G, G = (impl_ParseUpdate_m (impl_FormatUpdate_m (spec_DrawFormatUpdate_m x0))) := ⟨_, rfl⟩
  rw [← hG31]
  refine tyUpdate_sp ?_
  rintro v32 rfl
  refine WM_form (n := 0) rfl ?_
  rintro A33 c34 rfl m35
  refine wm ?_
  refine wv (fun W hm => rv_extract rfl rfl) ?_
  refine wv (fun W hm => rv_extract rfl rfl) ?_
  refine WM_alloc type32 rfl (Wd_none rfl) (by decide) (fun p37 => ?_)
  let K4 : List Value := [.int .i64 G31.1.Kind, .int .i64 G31.1.Row.Id, .slice A33 G31.1.Row.Values.length c34, .int .i64 G31.1.Field, .int .i64 G31.1.Value]
  let I9 : It := iOwn (tSl tInt 3) [.slice A33 G31.1.Row.Values.length c34] G31.1.Row.Values
  refine sb 0 K4 [I9, iBox p29 32 K2, I7, I8, I6, iBox p14 26 K1, I5] (fun W hm => hm) type32 ?_
  refine wa (nt' (sr (wm ?_)))
  refine WM_call (χ := Value × Value) (val := fun x => .tuple #[x.1, x.2]) (js := fun x => [iOwn (tSl tyRow 26) [x.1] ((spec_DrawEqualRows_m x0).1), iOwn (tSl tyRow 26) [x.2] ((spec_DrawEqualRows_m x0).2)]) (cl_fn cb11 rfl) (fun W hm => spec_DrawEqualRows_c W _ x0 (hm.rdS0 r5) (by omega)) (Wd_none rfl) (by decide) (fun x => ?_)
  obtain ⟨z38, z39⟩ := x
  refine WM_form (n := 0) rfl ?_
  rintro A40 c41 rfl m42
  refine WM_items (js := [iOwn (tSl tyRow 26) [z39] ((spec_DrawEqualRows_m x0).2), iOwn (tSl tyRow 26) [.slice A40 ((spec_DrawEqualRows_m x0).1).length c41] ((spec_DrawEqualRows_m x0).1), iBox p37 32 K4, I9, iBox p29 32 K2, I7, I8, I6, iBox p14 26 K1, I5]) (pk [1, 0, 2, 3, 4, 5, 6, 7, 8, 9]) ?_
  refine WM_form (n := 0) rfl ?_
  rintro A44 c45 rfl m46
  have hde := spec_DrawEqualRows_fact x0
  refine wm ?_
  refine wv (fun W hm => rv_extract rfl rfl) ?_
  refine wv (fun W hm => rv_extract rfl rfl) ?_
  refine wa (wa (nt' (sr (wm ?_))))
  refine wcl (tSl tyRow 26) (spec_DrawAreRows_m x0) (cl_fn cb12 rfl) (fun W hm => spec_DrawAreRows_c W _ x0 (hm.rdS0 r5) (by omega)) (fun z48 => ?_)
  have hda := spec_DrawAreRows_fact x0
  refine WM_form (n := 0) rfl ?_
  rintro A49 c50 rfl m51
  refine wa (nt' (sr (wm ?_)))
  refine wv (fun W hm => rv_loadN (cs := K1) underlying26 type26 rfl rfl (hm.boxCells (n := 9) rfl)) ?_
  refine wcv (cl_fn cb13 rfl) (fun W hm => spec_FormatRow_c W _ (spec_DrawFormatRow_m x0) (tyRow_mk (x := (spec_DrawFormatRow_m x0)) (hm.rdSI (n := 10) rfl))) ?_
  refine wv (fun W hm => rv_eqlS (p := (impl_FormatRow_m (spec_DrawFormatRow_m x0))) (q := (spec_FormatRow_m (spec_DrawFormatRow_m x0))) underlying9 rfl rfl) ?_
  refine wm ?_
  rcases Bool.eq_false_or_eq_true (eqS (impl_FormatRow_m (spec_DrawFormatRow_m x0)) (spec_FormatRow_m (spec_DrawFormatRow_m x0))) with g54 | g54
  ·
   refine wg vmv g54 ?_
   refine wg (fun W hm => rv_loadN (cs := K1) underlying26 type26 rfl rfl (hm.boxCells (n := 9) rfl)) g54 ?_
   refine WM_callV (cl_fn cb14 rfl) (fun W hm => spec_IsRow_c W _ (spec_DrawFormatRow_m x0) (tyRow_mk (x := (spec_DrawFormatRow_m x0)) (hm.rdSI (n := 10) rfl))) (Wd_some rfl rfl rfl (bw g54 rfl)) (by decide) ?_
   refine wg (fun W hm => rv_eqlB underlying4 rfl rfl) g54 ?_
   refine wv (vpT g54) ?_
   refine wm ?_
   rcases Bool.eq_false_or_eq_true (G16.2 == (spec_IsRow_m (spec_DrawFormatRow_m x0))) with g56 | g56
   ·
    refine wg vmv g56 ?_
    refine wg vnot g56 ?_
    refine wg vmv g56 ?_
    rcases Bool.eq_false_or_eq_true G16.2 with g58 | g58
    ·
     refine wg (fun W hm => rv_loadN (cs := [.int .i64 G16.1.Id, .slice A18 G16.1.Values.length c19]) underlying26 type26 rfl rfl (hm.boxCells (n := 7) rfl)) (nt g58) ?_
     refine WM_callV (cl_fn cb6 rfl) (fun W hm => impl_FormatRow_c W _ G16.1 (tyRow_mk (x := G16.1) (hm.rdSI (n := 8) rfl)) (hT.mem hm)) (Wd_some rfl rfl rfl (bw (nt g58) rfl)) (by decide) ?_
     have hzr := impl_FormatRow_z G16.1
     refine wg vmv (nt g58) ?_
     refine wg (fun W hm => rv_eqlS (p := (impl_FormatRow_m G16.1)) (q := (impl_FormatRow_m (spec_DrawFormatRow_m x0))) underlying9 rfl rfl) (nt g58) ?_
     refine wg (vpF (nt g58)) g56 ?_
     refine wv (vpT g56) ?_
     refine wm ?_
     rcases Bool.eq_false_or_eq_true (eqS (impl_FormatRow_m G16.1) (impl_FormatRow_m (spec_DrawFormatRow_m x0))) with g60 | g60
     ·
      refine wg vmv g60 ?_
      refine wg (fun W hm => rv_loadN (cs := K2) underlying32 type32 rfl rfl (hm.boxCells (n := 5) rfl)) g60 ?_
      refine WM_callV (cl_fn cb15 rfl) (fun W hm => spec_FormatUpdate_c W _ (spec_DrawFormatUpdate_m x0) (tyUpdate_mk (x := (spec_DrawFormatUpdate_m x0)) (hm.rdSI (n := 6) rfl))) (Wd_some rfl rfl rfl (bw g60 rfl)) (by decide) ?_
      refine wg (fun W hm => rv_eqlS (p := (impl_FormatUpdate_m (spec_DrawFormatUpdate_m x0))) (q := (spec_FormatUpdate_m (spec_DrawFormatUpdate_m x0))) underlying9 rfl rfl) g60 ?_
      refine wv (vpT g60) ?_
      refine wm ?_
      rcases Bool.eq_false_or_eq_true (eqS (impl_FormatUpdate_m (spec_DrawFormatUpdate_m x0)) (spec_FormatUpdate_m (spec_DrawFormatUpdate_m x0))) with g62 | g62
      ·
       refine wg vmv g62 ?_
       refine wg (fun W hm => rv_loadN (cs := K2) underlying32 type32 rfl rfl (hm.boxCells (n := 5) rfl)) g62 ?_
       refine WM_callV (cl_fn cb16 rfl) (fun W hm => spec_IsUpdate_c W _ (spec_DrawFormatUpdate_m x0) (tyUpdate_mk (x := (spec_DrawFormatUpdate_m x0)) (hm.rdSI (n := 6) rfl))) (Wd_some rfl rfl rfl (bw g62 rfl)) (by decide) ?_
       refine wg (fun W hm => rv_eqlB underlying4 rfl rfl) g62 ?_
       refine wv (vpT g62) ?_
       refine wm ?_
       rcases Bool.eq_false_or_eq_true (G31.2 == (spec_IsUpdate_m (spec_DrawFormatUpdate_m x0))) with g64 | g64
       ·
        refine wg vmv g64 ?_
        refine wg vnot g64 ?_
        refine wg vmv g64 ?_
        rcases Bool.eq_false_or_eq_true G31.2 with g66 | g66
        ·
         refine wg (fun W hm => rv_loadN (cs := K4) underlying32 type32 rfl rfl (hm.boxCells (n := 3) rfl)) (nt g66) ?_
         refine WM_callV (cl_fn cb9 rfl) (fun W hm => impl_FormatUpdate_c W _ G31.1 (tyUpdate_mk (x := G31.1) (hm.rdSI (n := 4) rfl)) (hT.mem hm)) (Wd_some rfl rfl rfl (bw (nt g66) rfl)) (by decide) ?_
         have hzu := impl_FormatUpdate_z G31.1
         refine wg vmv (nt g66) ?_
         refine wg (fun W hm => rv_eqlS (p := (impl_FormatUpdate_m G31.1)) (q := (impl_FormatUpdate_m (spec_DrawFormatUpdate_m x0))) underlying9 rfl rfl) (nt g66) ?_
         refine wg (vpF (nt g66)) g64 ?_
         refine wv (vpT g64) ?_
         refine wm ?_
         rcases Bool.eq_false_or_eq_true (eqS (impl_FormatUpdate_m G31.1) (impl_FormatUpdate_m (spec_DrawFormatUpdate_m x0))) with g68 | g68
         ·
          refine wg vmv g68 ?_
          refine wg vmv g68 ?_
          refine WM_callV (cl_fn cb17 rfl) (fun W hm => impl_EqualRows_c W _ ((spec_DrawEqualRows_m x0).1) _ ((spec_DrawEqualRows_m x0).2) (hm.rdSI (n := 2) rfl) (hm.rdSI (n := 1) rfl)) (Wd_some rfl rfl rfl (bw g68 rfl)) (by decide) ?_
          refine wg vmv g68 ?_
          refine wg vmv g68 ?_
          refine WM_callV (cl_fn cb18 rfl) (fun W hm => spec_EqualRows_c W _ ((spec_DrawEqualRows_m x0).1) _ ((spec_DrawEqualRows_m x0).2) (hm.rdSI (n := 2) rfl) (hm.rdSI (n := 1) rfl)) (Wd_some rfl rfl rfl (bw g68 rfl)) (by decide) ?_
          refine wg (fun W hm => rv_eqlB underlying4 rfl rfl) g68 ?_
          refine wv (vpT g68) ?_
          refine wm ?_
          rcases Bool.eq_false_or_eq_true ((impl_EqualRows_m ((spec_DrawEqualRows_m x0).1) ((spec_DrawEqualRows_m x0).2)) == (spec_EqualRows_m ((spec_DrawEqualRows_m x0).1) ((spec_DrawEqualRows_m x0).2))) with g70 | g70
          ·
           refine wg vmv g70 ?_
           refine WM_callV (cl_fn cb19 rfl) (fun W hm => impl_AreRows_c W _ (spec_DrawAreRows_m x0) (hm.rdSI (n := 0) rfl)) (Wd_some rfl rfl rfl (bw g70 rfl)) (by decide) ?_
           refine wg vmv g70 ?_
           refine WM_callV (cl_fn cb20 rfl) (fun W hm => spec_AreRows_c W _ (spec_DrawAreRows_m x0) (hm.rdSI (n := 0) rfl)) (Wd_some rfl rfl rfl (bw g70 rfl)) (by decide) ?_
           refine wg (fun W hm => rv_eqlB underlying4 rfl rfl) g70 ?_
           refine wv (vpT g70) ?_
           refine wm ?_
           rcases Bool.eq_false_or_eq_true ((impl_AreRows_m (spec_DrawAreRows_m x0)) == (spec_AreRows_m (spec_DrawAreRows_m x0))) with g72 | g72
           ·
            refine wg vmv g72 ?_
            refine WM_call (χ := Value) (val := fun x => x) (js := fun x => [iOwn (tSl tyRow 26) [x] (impl_SortRows_m ((spec_DrawEqualRows_m x0).1))]) (cl_fn cb21 rfl) (fun W hm => impl_SortRows_c W _ ((spec_DrawEqualRows_m x0).1) (hm.rdSI (n := 2) rfl) ⟨by omega, hde.1.2⟩) (Wd_some rfl rfl rfl (bw g72 rfl)) (by decide) (fun z73 => ?_)
            obtain ⟨G74, hG74⟩ : ∃ G, G = (impl_SortRows_m ((spec_DrawEqualRows_m x0).1)) := ⟨_, rfl⟩
            rw [← hG74]
            refine WM_form (n := 0) rfl ?_
            rintro A75 c76 rfl m77
            refine wg vmv g72 ?_
            refine WM_call (χ := Value) (val := fun x => x) (js := fun x => [iOwn (tSl tyRow 26) [x] (spec_SortRows_m ((spec_DrawEqualRows_m x0).1))]) (cl_fn cb22 rfl) (fun W hm => spec_SortRows_c W _ ((spec_DrawEqualRows_m x0).1) (hm.rdSI (n := 3) rfl) ⟨by omega, hde.1.2⟩) (Wd_some rfl rfl rfl (bw g72 rfl)) (by decide) (fun z79 => ?_)
            obtain ⟨G80, hG80⟩ : ∃ G, G = (spec_SortRows_m ((spec_DrawEqualRows_m x0).1)) := ⟨_, rfl⟩
            rw [← hG80]
            refine WM_form (n := 0) rfl ?_
            rintro A81 c82 rfl m83
            refine WM_callV (cl_fn cb18 rfl) (fun W hm => spec_EqualRows_c W _ G74 _ G80 (hm.rdSI (n := 1) rfl) (hm.rdSI (n := 0) rfl)) (Wd_some rfl rfl rfl (bw g72 rfl)) (by decide) ?_
            refine wv (vpT g72) ?_
            refine wa (nt' (CM_ret ?_))
            exact rtb (h := by subst hG16 hG31 hG74 hG80; exact cond_f g7 (cond_t g54 (cond_t g56 (cond_t g58 (cond_t g60 (cond_t g62 (cond_t g64 (cond_t g66 (cond_t g68 (cond_t g70 (cond_t g72 (rfl))))))))))))
           ·
            refine ws g72 ?_
            refine ws g72 ?_
            refine ws g72 ?_
            refine ws g72 ?_
            refine ws g72 ?_
            refine wv (vpF g72) ?_
            refine wa (nt' (CM_ret ?_))
            exact rtb (h := by subst hG16 hG31; exact cond_f g7 (cond_t g54 (cond_t g56 (cond_t g58 (cond_t g60 (cond_t g62 (cond_t g64 (cond_t g66 (cond_t g68 (cond_t g70 (cond_f g72 (rfl))))))))))))
          ·
           refine ws g70 ?_
           refine ws g70 ?_
           refine ws g70 ?_
           refine ws g70 ?_
           refine ws g70 ?_
           refine wv (vpF g70) ?_
           refine wm ?_
           refine wk ?_
           refine wk ?_
           refine wk ?_
           refine wk ?_
           refine wk ?_
           refine wv (vpF rfl) ?_
           refine wa (nt' (CM_ret ?_))
           exact rtb (h := by subst hG16 hG31; exact cond_f g7 (cond_t g54 (cond_t g56 (cond_t g58 (cond_t g60 (cond_t g62 (cond_t g64 (cond_t g66 (cond_t g68 (cond_f g70 (rfl)))))))))))
         ·
          refine ws g68 ?_
          refine ws g68 ?_
          refine ws g68 ?_
          refine ws g68 ?_
          refine ws g68 ?_
          refine ws g68 ?_
          refine ws g68 ?_
          refine wv (vpF g68) ?_
          refine wm ?_
          refine wk ?_
          refine wk ?_
          refine wk ?_
          refine wk ?_
          refine wk ?_
          refine wv (vpF rfl) ?_
          refine wm ?_
          refine wk ?_
          refine wk ?_
          refine wk ?_
          refine wk ?_
          refine wk ?_
          refine wv (vpF rfl) ?_
          refine wa (nt' (CM_ret ?_))
          exact rtb (h := by subst hG16 hG31; exact cond_f g7 (cond_t g54 (cond_t g56 (cond_t g58 (cond_t g60 (cond_t g62 (cond_t g64 (cond_t g66 (cond_f g68 (rfl))))))))))
        ·
         refine ws (nf g66) ?_
         refine ws (nf g66) ?_
         refine ws (nf g66) ?_
         refine ws (nf g66) ?_
         refine wg (vpT (nf g66)) g64 ?_
         refine wv (vpT g64) ?_
         refine wm ?_
         refine WM_val vmv (Wd_some rfl rfl rfl rfl) rfl (by decide) ?_
         refine WM_val vmv (Wd_some rfl rfl rfl rfl) rfl (by decide) ?_
         refine WM_callV (cl_fn cb17 rfl) (fun W hm => impl_EqualRows_c W _ ((spec_DrawEqualRows_m x0).1) _ ((spec_DrawEqualRows_m x0).2) (hm.rdSI (n := 2) rfl) (hm.rdSI (n := 1) rfl)) (Wd_some rfl rfl rfl rfl) (by decide) ?_
         refine WM_val vmv (Wd_some rfl rfl rfl rfl) rfl (by decide) ?_
         refine WM_val vmv (Wd_some rfl rfl rfl rfl) rfl (by decide) ?_
         refine WM_callV (cl_fn cb18 rfl) (fun W hm => spec_EqualRows_c W _ ((spec_DrawEqualRows_m x0).1) _ ((spec_DrawEqualRows_m x0).2) (hm.rdSI (n := 2) rfl) (hm.rdSI (n := 1) rfl)) (Wd_some rfl rfl rfl rfl) (by decide) ?_
         refine WM_val (fun W hm => rv_eqlB underlying4 rfl rfl) (Wd_some rfl rfl rfl rfl) rfl (by decide) ?_
         refine wv (vpT rfl) ?_
         refine wm ?_
         rcases Bool.eq_false_or_eq_true ((impl_EqualRows_m ((spec_DrawEqualRows_m x0).1) ((spec_DrawEqualRows_m x0).2)) == (spec_EqualRows_m ((spec_DrawEqualRows_m x0).1) ((spec_DrawEqualRows_m x0).2))) with g86 | g86
         ·
          refine wg vmv g86 ?_
          refine WM_callV (cl_fn cb19 rfl) (fun W hm => impl_AreRows_c W _ (spec_DrawAreRows_m x0) (hm.rdSI (n := 0) rfl)) (Wd_some rfl rfl rfl (bw g86 rfl)) (by decide) ?_
          refine wg vmv g86 ?_
          refine WM_callV (cl_fn cb20 rfl) (fun W hm => spec_AreRows_c W _ (spec_DrawAreRows_m x0) (hm.rdSI (n := 0) rfl)) (Wd_some rfl rfl rfl (bw g86 rfl)) (by decide) ?_
          refine wg (fun W hm => rv_eqlB underlying4 rfl rfl) g86 ?_
          refine wv (vpT g86) ?_
          refine wm ?_
          rcases Bool.eq_false_or_eq_true ((impl_AreRows_m (spec_DrawAreRows_m x0)) == (spec_AreRows_m (spec_DrawAreRows_m x0))) with g88 | g88
          ·
           refine wg vmv g88 ?_
           refine WM_call (χ := Value) (val := fun x => x) (js := fun x => [iOwn (tSl tyRow 26) [x] (impl_SortRows_m ((spec_DrawEqualRows_m x0).1))]) (cl_fn cb21 rfl) (fun W hm => impl_SortRows_c W _ ((spec_DrawEqualRows_m x0).1) (hm.rdSI (n := 2) rfl) ⟨by omega, hde.1.2⟩) (Wd_some rfl rfl rfl (bw g88 rfl)) (by decide) (fun z89 => ?_)
           obtain ⟨G90, hG90⟩ : ∃ G, G = (impl_SortRows_m ((spec_DrawEqualRows_m x0).1)) := ⟨_, rfl⟩
           rw [← hG90]
           refine WM_form (n := 0) rfl ?_
           rintro A91 c92 rfl m93
           refine wg vmv g88 ?_
           refine WM_call (χ := Value) (val := fun x => x) (js := fun x => [iOwn (tSl tyRow 26) [x] (spec_SortRows_m ((spec_DrawEqualRows_m x0).1))]) (cl_fn cb22 rfl) (fun W hm => spec_SortRows_c W _ ((spec_DrawEqualRows_m x0).1) (hm.rdSI (n := 3) rfl) ⟨by omega, hde.1.2⟩) (Wd_some rfl rfl rfl (bw g88 rfl)) (by decide) (fun z95 => ?_)
           obtain ⟨G96, hG96⟩ : ∃ G, G = (spec_SortRows_m ((spec_DrawEqualRows_m x0).1)) := ⟨_, rfl⟩
           rw [← hG96]
           refine WM_form (n := 0) rfl ?_
           rintro A97 c98 rfl m99
           refine WM_callV (cl_fn cb18 rfl) (fun W hm => spec_EqualRows_c W _ G90 _ G96 (hm.rdSI (n := 1) rfl) (hm.rdSI (n := 0) rfl)) (Wd_some rfl rfl rfl (bw g88 rfl)) (by decide) ?_
           refine wv (vpT g88) ?_
           refine wa (nt' (CM_ret ?_))
           exact rtb (h := by subst hG16 hG31 hG90 hG96; exact cond_f g7 (cond_t g54 (cond_t g56 (cond_t g58 (cond_t g60 (cond_t g62 (cond_t g64 (cond_f g66 (cond_t g86 (cond_t g88 (rfl)))))))))))
          ·
           refine ws g88 ?_
           refine ws g88 ?_
           refine ws g88 ?_
           refine ws g88 ?_
           refine ws g88 ?_
           refine wv (vpF g88) ?_
           refine wa (nt' (CM_ret ?_))
           exact rtb (h := by subst hG16 hG31; exact cond_f g7 (cond_t g54 (cond_t g56 (cond_t g58 (cond_t g60 (cond_t g62 (cond_t g64 (cond_f g66 (cond_t g86 (cond_f g88 (rfl)))))))))))
         ·
          refine ws g86 ?_
          refine ws g86 ?_
          refine ws g86 ?_
          refine ws g86 ?_
          refine ws g86 ?_
          refine wv (vpF g86) ?_
          refine wm ?_
          refine wk ?_
          refine wk ?_
          refine wk ?_
          refine wk ?_
          refine wk ?_
          refine wv (vpF rfl) ?_
          refine wa (nt' (CM_ret ?_))
          exact rtb (h := by subst hG16 hG31; exact cond_f g7 (cond_t g54 (cond_t g56 (cond_t g58 (cond_t g60 (cond_t g62 (cond_t g64 (cond_f g66 (cond_f g86 (rfl))))))))))
       ·
        refine ws g64 ?_
        refine ws g64 ?_
        refine ws g64 ?_
        refine wu ?_
        refine wu ?_
        refine wu ?_
        refine wu ?_
        refine ws g64 ?_
        refine wv (vpF g64) ?_
        refine wm ?_
        refine wk ?_
        refine wk ?_
        refine wk ?_
        refine wk ?_
        refine wk ?_
        refine wk ?_
        refine wk ?_
        refine wv (vpF rfl) ?_
        refine wm ?_
        refine wk ?_
        refine wk ?_
        refine wk ?_
        refine wk ?_
        refine wk ?_
        refine wv (vpF rfl) ?_
        refine wm ?_
        refine wk ?_
        refine wk ?_
        refine wk ?_
        refine wk ?_
        refine wk ?_
        refine wv (vpF rfl) ?_
        refine wa (nt' (CM_ret ?_))
        exact rtb (h := by subst hG16 hG31; exact cond_f g7 (cond_t g54 (cond_t g56 (cond_t g58 (cond_t g60 (cond_t g62 (cond_f g64 (rfl))))))))
      ·
       refine ws g62 ?_
       refine ws g62 ?_
       refine ws g62 ?_
       refine ws g62 ?_
       refine wv (vpF g62) ?_
       refine wm ?_
       refine wk ?_
       refine wk ?_
       refine wk ?_
       refine wu ?_
       refine wu ?_
       refine wu ?_
       refine wu ?_
       refine wk ?_
       refine wv (vpF rfl) ?_
       refine wm ?_
       refine wk ?_
       refine wk ?_
       refine wk ?_
       refine wk ?_
       refine wk ?_
       refine wk ?_
       refine wk ?_
       refine wv (vpF rfl) ?_
       refine wm ?_
       refine wk ?_
       refine wk ?_
       refine wk ?_
       refine wk ?_
       refine wk ?_
       refine wv (vpF rfl) ?_
       refine wm ?_
       refine wk ?_
       refine wk ?_
       refine wk ?_
       refine wk ?_
       refine wk ?_
       refine wv (vpF rfl) ?_
       refine wa (nt' (CM_ret ?_))
       exact rtb (h := by subst hG16 hG31; exact cond_f g7 (cond_t g54 (cond_t g56 (cond_t g58 (cond_t g60 (cond_f g62 (rfl)))))))
     ·
      refine ws g60 ?_
      refine ws g60 ?_
      refine ws g60 ?_
      refine ws g60 ?_
      refine wv (vpF g60) ?_
      refine wm ?_
      refine wk ?_
      refine wk ?_
      refine wk ?_
      refine wk ?_
      refine wv (vpF rfl) ?_
      refine wm ?_
      refine wk ?_
      refine wk ?_
      refine wk ?_
      refine wu ?_
      refine wu ?_
      refine wu ?_
      refine wu ?_
      refine wk ?_
      refine wv (vpF rfl) ?_
      refine wm ?_
      refine wk ?_
      refine wk ?_
      refine wk ?_
      refine wk ?_
      refine wk ?_
      refine wk ?_
      refine wk ?_
      refine wv (vpF rfl) ?_
      refine wm ?_
      refine wk ?_
      refine wk ?_
      refine wk ?_
      refine wk ?_
      refine wk ?_
      refine wv (vpF rfl) ?_
      refine wm ?_
      refine wk ?_
      refine wk ?_
      refine wk ?_
      refine wk ?_
      refine wk ?_
      refine wv (vpF rfl) ?_
      refine wa (nt' (CM_ret ?_))
      exact rtb (h := by subst hG16 hG31; exact cond_f g7 (cond_t g54 (cond_t g56 (cond_t g58 (cond_f g60 (rfl))))))
    ·
     refine ws (nf g58) ?_
     refine ws (nf g58) ?_
     refine ws (nf g58) ?_
     refine ws (nf g58) ?_
     refine wg (vpT (nf g58)) g56 ?_
     refine wv (vpT g56) ?_
     refine wm ?_
     refine WM_val vmv (Wd_some rfl rfl rfl rfl) rfl (by decide) ?_
     refine WM_val (fun W hm => rv_loadN (cs := K2) underlying32 type32 rfl rfl (hm.boxCells (n := 5) rfl)) (Wd_some rfl rfl rfl rfl) rfl (by decide) ?_
     refine WM_callV (cl_fn cb15 rfl) (fun W hm => spec_FormatUpdate_c W _ (spec_DrawFormatUpdate_m x0) (tyUpdate_mk (x := (spec_DrawFormatUpdate_m x0)) (hm.rdSI (n := 6) rfl))) (Wd_some rfl rfl rfl rfl) (by decide) ?_
     refine WM_val (fun W hm => rv_eqlS (p := (impl_FormatUpdate_m (spec_DrawFormatUpdate_m x0))) (q := (spec_FormatUpdate_m (spec_DrawFormatUpdate_m x0))) underlying9 rfl rfl) (Wd_some rfl rfl rfl rfl) rfl (by decide) ?_
     refine wv (vpT rfl) ?_
     refine wm ?_
     rcases Bool.eq_false_or_eq_true (eqS (impl_FormatUpdate_m (spec_DrawFormatUpdate_m x0)) (spec_FormatUpdate_m (spec_DrawFormatUpdate_m x0))) with g102 | g102
     ·
      refine wg vmv g102 ?_
      refine wg (fun W hm => rv_loadN (cs := K2) underlying32 type32 rfl rfl (hm.boxCells (n := 5) rfl)) g102 ?_
      refine WM_callV (cl_fn cb16 rfl) (fun W hm => spec_IsUpdate_c W _ (spec_DrawFormatUpdate_m x0) (tyUpdate_mk (x := (spec_DrawFormatUpdate_m x0)) (hm.rdSI (n := 6) rfl))) (Wd_some rfl rfl rfl (bw g102 rfl)) (by decide) ?_
      refine wg (fun W hm => rv_eqlB underlying4 rfl rfl) g102 ?_
      refine wv (vpT g102) ?_
      refine wm ?_
      rcases Bool.eq_false_or_eq_true (G31.2 == (spec_IsUpdate_m (spec_DrawFormatUpdate_m x0))) with g104 | g104
      ·
       refine wg vmv g104 ?_
       refine wg vnot g104 ?_
       refine wg vmv g104 ?_
       rcases Bool.eq_false_or_eq_true G31.2 with g106 | g106
       ·
        refine wg (fun W hm => rv_loadN (cs := K4) underlying32 type32 rfl rfl (hm.boxCells (n := 3) rfl)) (nt g106) ?_
        refine WM_callV (cl_fn cb9 rfl) (fun W hm => impl_FormatUpdate_c W _ G31.1 (tyUpdate_mk (x := G31.1) (hm.rdSI (n := 4) rfl)) (hT.mem hm)) (Wd_some rfl rfl rfl (bw (nt g106) rfl)) (by decide) ?_
        have hzu := impl_FormatUpdate_z G31.1
        refine wg vmv (nt g106) ?_
        refine wg (fun W hm => rv_eqlS (p := (impl_FormatUpdate_m G31.1)) (q := (impl_FormatUpdate_m (spec_DrawFormatUpdate_m x0))) underlying9 rfl rfl) (nt g106) ?_
        refine wg (vpF (nt g106)) g104 ?_
        refine wv (vpT g104) ?_
        refine wm ?_
        rcases Bool.eq_false_or_eq_true (eqS (impl_FormatUpdate_m G31.1) (impl_FormatUpdate_m (spec_DrawFormatUpdate_m x0))) with g108 | g108
        ·
         refine wg vmv g108 ?_
         refine wg vmv g108 ?_
         refine WM_callV (cl_fn cb17 rfl) (fun W hm => impl_EqualRows_c W _ ((spec_DrawEqualRows_m x0).1) _ ((spec_DrawEqualRows_m x0).2) (hm.rdSI (n := 2) rfl) (hm.rdSI (n := 1) rfl)) (Wd_some rfl rfl rfl (bw g108 rfl)) (by decide) ?_
         refine wg vmv g108 ?_
         refine wg vmv g108 ?_
         refine WM_callV (cl_fn cb18 rfl) (fun W hm => spec_EqualRows_c W _ ((spec_DrawEqualRows_m x0).1) _ ((spec_DrawEqualRows_m x0).2) (hm.rdSI (n := 2) rfl) (hm.rdSI (n := 1) rfl)) (Wd_some rfl rfl rfl (bw g108 rfl)) (by decide) ?_
         refine wg (fun W hm => rv_eqlB underlying4 rfl rfl) g108 ?_
         refine wv (vpT g108) ?_
         refine wm ?_
         rcases Bool.eq_false_or_eq_true ((impl_EqualRows_m ((spec_DrawEqualRows_m x0).1) ((spec_DrawEqualRows_m x0).2)) == (spec_EqualRows_m ((spec_DrawEqualRows_m x0).1) ((spec_DrawEqualRows_m x0).2))) with g110 | g110
         ·
          refine wg vmv g110 ?_
          refine WM_callV (cl_fn cb19 rfl) (fun W hm => impl_AreRows_c W _ (spec_DrawAreRows_m x0) (hm.rdSI (n := 0) rfl)) (Wd_some rfl rfl rfl (bw g110 rfl)) (by decide) ?_
          refine wg vmv g110 ?_
          refine WM_callV (cl_fn cb20 rfl) (fun W hm => spec_AreRows_c W _ (spec_DrawAreRows_m x0) (hm.rdSI (n := 0) rfl)) (Wd_some rfl rfl rfl (bw g110 rfl)) (by decide) ?_
          refine wg (fun W hm => rv_eqlB underlying4 rfl rfl) g110 ?_
          refine wv (vpT g110) ?_
          refine wm ?_
          rcases Bool.eq_false_or_eq_true ((impl_AreRows_m (spec_DrawAreRows_m x0)) == (spec_AreRows_m (spec_DrawAreRows_m x0))) with g112 | g112
          ·
           refine wg vmv g112 ?_
           refine WM_call (χ := Value) (val := fun x => x) (js := fun x => [iOwn (tSl tyRow 26) [x] (impl_SortRows_m ((spec_DrawEqualRows_m x0).1))]) (cl_fn cb21 rfl) (fun W hm => impl_SortRows_c W _ ((spec_DrawEqualRows_m x0).1) (hm.rdSI (n := 2) rfl) ⟨by omega, hde.1.2⟩) (Wd_some rfl rfl rfl (bw g112 rfl)) (by decide) (fun z113 => ?_)
           obtain ⟨G114, hG114⟩ : ∃ G, G = (impl_SortRows_m ((spec_DrawEqualRows_m x0).1)) := ⟨_, rfl⟩
           rw [← hG114]
           refine WM_form (n := 0) rfl ?_
           rintro A115 c116 rfl m117
           refine wg vmv g112 ?_
           refine WM_call (χ := Value) (val := fun x => x) (js := fun x => [iOwn (tSl tyRow 26) [x] (spec_SortRows_m ((spec_DrawEqualRows_m x0).1))]) (cl_fn cb22 rfl) (fun W hm => spec_SortRows_c W _ ((spec_DrawEqualRows_m x0).1) (hm.rdSI (n := 3) rfl) ⟨by omega, hde.1.2⟩) (Wd_some rfl rfl rfl (bw g112 rfl)) (by decide) (fun z119 => ?_)
           obtain ⟨G120, hG120⟩ : ∃ G, G = (spec_SortRows_m ((spec_DrawEqualRows_m x0).1)) := ⟨_, rfl⟩
           rw [← hG120]
           refine WM_form (n := 0) rfl ?_
           rintro A121 c122 rfl m123
           refine WM_callV (cl_fn cb18 rfl) (fun W hm => spec_EqualRows_c W _ G114 _ G120 (hm.rdSI (n := 1) rfl) (hm.rdSI (n := 0) rfl)) (Wd_some rfl rfl rfl (bw g112 rfl)) (by decide) ?_
           refine wv (vpT g112) ?_
           refine wa (nt' (CM_ret ?_))
           exact rtb (h := by subst hG16 hG31 hG114 hG120; exact cond_f g7 (cond_t g54 (cond_t g56 (cond_f g58 (cond_t g102 (cond_t g104 (cond_t g106 (cond_t g108 (cond_t g110 (cond_t g112 (rfl)))))))))))
          ·
           refine ws g112 ?_
           refine ws g112 ?_
           refine ws g112 ?_
           refine ws g112 ?_
           refine ws g112 ?_
           refine wv (vpF g112) ?_
           refine wa (nt' (CM_ret ?_))
           exact rtb (h := by subst hG16 hG31; exact cond_f g7 (cond_t g54 (cond_t g56 (cond_f g58 (cond_t g102 (cond_t g104 (cond_t g106 (cond_t g108 (cond_t g110 (cond_f g112 (rfl)))))))))))
         ·
          refine ws g110 ?_
          refine ws g110 ?_
          refine ws g110 ?_
          refine ws g110 ?_
          refine ws g110 ?_
          refine wv (vpF g110) ?_
          refine wm ?_
          refine wk ?_
          refine wk ?_
          refine wk ?_
          refine wk ?_
          refine wk ?_
          refine wv (vpF rfl) ?_
          refine wa (nt' (CM_ret ?_))
          exact rtb (h := by subst hG16 hG31; exact cond_f g7 (cond_t g54 (cond_t g56 (cond_f g58 (cond_t g102 (cond_t g104 (cond_t g106 (cond_t g108 (cond_f g110 (rfl))))))))))
        ·
         refine ws g108 ?_
         refine ws g108 ?_
         refine ws g108 ?_
         refine ws g108 ?_
         refine ws g108 ?_
         refine ws g108 ?_
         refine ws g108 ?_
         refine wv (vpF g108) ?_
         refine wm ?_
         refine wk ?_
         refine wk ?_
         refine wk ?_
         refine wk ?_
         refine wk ?_
         refine wv (vpF rfl) ?_
         refine wm ?_
         refine wk ?_
         refine wk ?_
         refine wk ?_
         refine wk ?_
         refine wk ?_
         refine wv (vpF rfl) ?_
         refine wa (nt' (CM_ret ?_))
         exact rtb (h := by subst hG16 hG31; exact cond_f g7 (cond_t g54 (cond_t g56 (cond_f g58 (cond_t g102 (cond_t g104 (cond_t g106 (cond_f g108 (rfl)))))))))
       ·
        refine ws (nf g106) ?_
        refine ws (nf g106) ?_
        refine ws (nf g106) ?_
        refine ws (nf g106) ?_
        refine wg (vpT (nf g106)) g104 ?_
        refine wv (vpT g104) ?_
        refine wm ?_
        refine WM_val vmv (Wd_some rfl rfl rfl rfl) rfl (by decide) ?_
        refine WM_val vmv (Wd_some rfl rfl rfl rfl) rfl (by decide) ?_
        refine WM_callV (cl_fn cb17 rfl) (fun W hm => impl_EqualRows_c W _ ((spec_DrawEqualRows_m x0).1) _ ((spec_DrawEqualRows_m x0).2) (hm.rdSI (n := 2) rfl) (hm.rdSI (n := 1) rfl)) (Wd_some rfl rfl rfl rfl) (by decide) ?_
        refine WM_val vmv (Wd_some rfl rfl rfl rfl) rfl (by decide) ?_
        refine WM_val vmv (Wd_some rfl rfl rfl rfl) rfl (by decide) ?_
        refine WM_callV (cl_fn cb18 rfl) (fun W hm => spec_EqualRows_c W _ ((spec_DrawEqualRows_m x0).1) _ ((spec_DrawEqualRows_m x0).2) (hm.rdSI (n := 2) rfl) (hm.rdSI (n := 1) rfl)) (Wd_some rfl rfl rfl rfl) (by decide) ?_
        refine WM_val (fun W hm => rv_eqlB underlying4 rfl rfl) (Wd_some rfl rfl rfl rfl) rfl (by decide) ?_
        refine wv (vpT rfl) ?_
        refine wm ?_
        rcases Bool.eq_false_or_eq_true ((impl_EqualRows_m ((spec_DrawEqualRows_m x0).1) ((spec_DrawEqualRows_m x0).2)) == (spec_EqualRows_m ((spec_DrawEqualRows_m x0).1) ((spec_DrawEqualRows_m x0).2))) with g126 | g126
        ·
         refine wg vmv g126 ?_
         refine WM_callV (cl_fn cb19 rfl) (fun W hm => impl_AreRows_c W _ (spec_DrawAreRows_m x0) (hm.rdSI (n := 0) rfl)) (Wd_some rfl rfl rfl (bw g126 rfl)) (by decide) ?_
         refine wg vmv g126 ?_
         refine WM_callV (cl_fn cb20 rfl) (fun W hm => spec_AreRows_c W _ (spec_DrawAreRows_m x0) (hm.rdSI (n := 0) rfl)) (Wd_some rfl rfl rfl (bw g126 rfl)) (by decide) ?_
         refine wg (fun W hm => rv_eqlB underlying4 rfl rfl) g126 ?_
         refine wv (vpT g126) ?_
         refine wm ?_
         rcases Bool.eq_false_or_eq_true ((impl_AreRows_m (spec_DrawAreRows_m x0)) == (spec_AreRows_m (spec_DrawAreRows_m x0))) with g128 | g128
         ·
          refine wg vmv g128 ?_
          refine WM_call (χ := Value) (val := fun x => x) (js := fun x => [iOwn (tSl tyRow 26) [x] (impl_SortRows_m ((spec_DrawEqualRows_m x0).1))]) (cl_fn cb21 rfl) (fun W hm => impl_SortRows_c W _ ((spec_DrawEqualRows_m x0).1) (hm.rdSI (n := 2) rfl) ⟨by omega, hde.1.2⟩) (Wd_some rfl rfl rfl (bw g128 rfl)) (by decide) (fun z129 => ?_)
          obtain ⟨G130, hG130⟩ : ∃ G, G = (impl_SortRows_m ((spec_DrawEqualRows_m x0).1)) := ⟨_, rfl⟩
          rw [← hG130]
          refine WM_form (n := 0) rfl ?_
          rintro A131 c132 rfl m133
          refine wg vmv g128 ?_
          refine WM_call (χ := Value) (val := fun x => x) (js := fun x => [iOwn (tSl tyRow 26) [x] (spec_SortRows_m ((spec_DrawEqualRows_m x0).1))]) (cl_fn cb22 rfl) (fun W hm => spec_SortRows_c W _ ((spec_DrawEqualRows_m x0).1) (hm.rdSI (n := 3) rfl) ⟨by omega, hde.1.2⟩) (Wd_some rfl rfl rfl (bw g128 rfl)) (by decide) (fun z135 => ?_)
          obtain ⟨G136, hG136⟩ : ∃ G, G = (spec_SortRows_m ((spec_DrawEqualRows_m x0).1)) := ⟨_, rfl⟩
          rw [← hG136]
          refine WM_form (n := 0) rfl ?_
          rintro A137 c138 rfl m139
          refine WM_callV (cl_fn cb18 rfl) (fun W hm => spec_EqualRows_c W _ G130 _ G136 (hm.rdSI (n := 1) rfl) (hm.rdSI (n := 0) rfl)) (Wd_some rfl rfl rfl (bw g128 rfl)) (by decide) ?_
          refine wv (vpT g128) ?_
          refine wa (nt' (CM_ret ?_))
          exact rtb (h := by subst hG16 hG31 hG130 hG136; exact cond_f g7 (cond_t g54 (cond_t g56 (cond_f g58 (cond_t g102 (cond_t g104 (cond_f g106 (cond_t g126 (cond_t g128 (rfl))))))))))
         ·
          refine ws g128 ?_
          refine ws g128 ?_
          refine ws g128 ?_
          refine ws g128 ?_
          refine ws g128 ?_
          refine wv (vpF g128) ?_
          refine wa (nt' (CM_ret ?_))
          exact rtb (h := by subst hG16 hG31; exact cond_f g7 (cond_t g54 (cond_t g56 (cond_f g58 (cond_t g102 (cond_t g104 (cond_f g106 (cond_t g126 (cond_f g128 (rfl))))))))))
        ·
         refine ws g126 ?_
         refine ws g126 ?_
         refine ws g126 ?_
         refine ws g126 ?_
         refine ws g126 ?_
         refine wv (vpF g126) ?_
         refine wm ?_
         refine wk ?_
         refine wk ?_
         refine wk ?_
         refine wk ?_
         refine wk ?_
         refine wv (vpF rfl) ?_
         refine wa (nt' (CM_ret ?_))
         exact rtb (h := by subst hG16 hG31; exact cond_f g7 (cond_t g54 (cond_t g56 (cond_f g58 (cond_t g102 (cond_t g104 (cond_f g106 (cond_f g126 (rfl)))))))))
      ·
       refine ws g104 ?_
       refine ws g104 ?_
       refine ws g104 ?_
       refine wu ?_
       refine wu ?_
       refine wu ?_
       refine wu ?_
       refine ws g104 ?_
       refine wv (vpF g104) ?_
       refine wm ?_
       refine wk ?_
       refine wk ?_
       refine wk ?_
       refine wk ?_
       refine wk ?_
       refine wk ?_
       refine wk ?_
       refine wv (vpF rfl) ?_
       refine wm ?_
       refine wk ?_
       refine wk ?_
       refine wk ?_
       refine wk ?_
       refine wk ?_
       refine wv (vpF rfl) ?_
       refine wm ?_
       refine wk ?_
       refine wk ?_
       refine wk ?_
       refine wk ?_
       refine wk ?_
       refine wv (vpF rfl) ?_
       refine wa (nt' (CM_ret ?_))
       exact rtb (h := by subst hG16 hG31; exact cond_f g7 (cond_t g54 (cond_t g56 (cond_f g58 (cond_t g102 (cond_f g104 (rfl)))))))
     ·
      refine ws g102 ?_
      refine ws g102 ?_
      refine ws g102 ?_
      refine ws g102 ?_
      refine wv (vpF g102) ?_
      refine wm ?_
      refine wk ?_
      refine wk ?_
      refine wk ?_
      refine wu ?_
      refine wu ?_
      refine wu ?_
      refine wu ?_
      refine wk ?_
      refine wv (vpF rfl) ?_
      refine wm ?_
      refine wk ?_
      refine wk ?_
      refine wk ?_
      refine wk ?_
      refine wk ?_
      refine wk ?_
      refine wk ?_
      refine wv (vpF rfl) ?_
      refine wm ?_
      refine wk ?_
      refine wk ?_
      refine wk ?_
      refine wk ?_
      refine wk ?_
      refine wv (vpF rfl) ?_
      refine wm ?_
      refine wk ?_
      refine wk ?_
      refine wk ?_
      refine wk ?_
      refine wk ?_
      refine wv (vpF rfl) ?_
      refine wa (nt' (CM_ret ?_))
      exact rtb (h := by subst hG16 hG31; exact cond_f g7 (cond_t g54 (cond_t g56 (cond_f g58 (cond_f g102 (rfl))))))
   ·
    refine ws g56 ?_
    refine ws g56 ?_
    refine ws g56 ?_
    refine wu ?_
    refine wu ?_
    refine wu ?_
    refine wu ?_
    refine ws g56 ?_
    refine wv (vpF g56) ?_
    refine wm ?_
    refine wk ?_
    refine wk ?_
    refine wk ?_
    refine wk ?_
    refine wv (vpF rfl) ?_
    refine wm ?_
    refine wk ?_
    refine wk ?_
    refine wk ?_
    refine wk ?_
    refine wv (vpF rfl) ?_
    refine wm ?_
    refine wk ?_
    refine wk ?_
    refine wk ?_
    refine wu ?_
    refine wu ?_
    refine wu ?_
    refine wu ?_
    refine wk ?_
    refine wv (vpF rfl) ?_
    refine wm ?_
    refine wk ?_
    refine wk ?_
    refine wk ?_
    refine wk ?_
    refine wk ?_
    refine wk ?_
    refine wk ?_
    refine wv (vpF rfl) ?_
    refine wm ?_
    refine wk ?_
    refine wk ?_
    refine wk ?_
    refine wk ?_
    refine wk ?_
    refine wv (vpF rfl) ?_
    refine wm ?_
    refine wk ?_
    refine wk ?_
    refine wk ?_
    refine wk ?_
    refine wk ?_
    refine wv (vpF rfl) ?_
    refine wa (nt' (CM_ret ?_))
    exact rtb (h := by subst hG16 hG31; exact cond_f g7 (cond_t g54 (cond_f g56 (rfl))))
  ·
   refine ws g54 ?_
   refine ws g54 ?_
   refine ws g54 ?_
   refine ws g54 ?_
   refine wv (vpF g54) ?_
   refine wm ?_
   refine wk ?_
   refine wk ?_
   refine wk ?_
   refine wu ?_
   refine wu ?_
   refine wu ?_
   refine wu ?_
   refine wk ?_
   refine wv (vpF rfl) ?_
   refine wm ?_
   refine wk ?_
   refine wk ?_
   refine wk ?_
   refine wk ?_
   refine wv (vpF rfl) ?_
   refine wm ?_
   refine wk ?_
   refine wk ?_
   refine wk ?_
   refine wk ?_
   refine wv (vpF rfl) ?_
   refine wm ?_
   refine wk ?_
   refine wk ?_
   refine wk ?_
   refine wu ?_
   refine wu ?_
   refine wu ?_
   refine wu ?_
   refine wk ?_
   refine wv (vpF rfl) ?_
   refine wm ?_
   refine wk ?_
   refine wk ?_
   refine wk ?_
   refine wk ?_
   refine wk ?_
   refine wk ?_
   refine wk ?_
   refine wv (vpF rfl) ?_
   refine wm ?_
   refine wk ?_
   refine wk ?_
   refine wk ?_
   refine wk ?_
   refine wk ?_
   refine wv (vpF rfl) ?_
   refine wm ?_
   refine wk ?_
   refine wk ?_
   refine wk ?_
   refine wk ?_
   refine wk ?_
   refine wv (vpF rfl) ?_
   refine wa (nt' (CM_ret ?_))
   exact rtb (h := by subst hG16 hG31; exact cond_f g7 (cond_f g54 (rfl)))

end Go.Proofs.YtfdaaliffcfjjaaGreatDoor
