/-
  The contract of the law.
-/
import Derived.Test.YtglapeecbnaipaaL4Pl
namespace Go.Proofs.Ytglapeecbnaipaa
open Go.RowKit
set_option maxRecDepth 100000
set_option maxHeartbeats 4000000
open _root_.Go.Proofs.Try
theorem Apart_eq (v w : DVersion) : spec_l7Apart_m v w = decide (v.Id ≠ w.Id ∨ (v.Died ≠ -1 ∧ v.Died ≤ w.Born) ∨ (w.Died ≠ -1 ∧ w.Died ≤ v.Born)) := by
  unfold spec_l7Apart_m
  by_cases h1 : v.Id = w.Id <;> by_cases h2 : v.Died = -1 <;> by_cases h3 : w.Died = -1 <;> by_cases h4 : v.Died ≤ w.Born <;> simp [h1, h2, h3, h4] <;> (try rw [h2] at h4) <;> (try simp_all) <;> (try rfl)
theorem Apart_symm {v w : DVersion} (h : spec_l7Apart_m v w = true) : spec_l7Apart_m w v = true := by
  rw [Apart_eq, decide_eq_true_eq] at h ⊢
  omega
def Sto (x : DStore) : Prop := (1 ≤ x.Segments.length ∧ x.Segments.length ≤ 8) ∧ (0 ≤ x.Now ∧ x.Now ≤ 100000) ∧ (∀ s ∈ x.Segments, s.length ≤ 4) ∧ (∀ v ∈ x.Segments.flatten, spec_l7Version_m v x.Now = true) ∧ x.Segments.flatten.Pairwise (fun a b => spec_l7Apart_m b a = true)
theorem split_at {α : Type} [Inhabited α] {l : List α} {i : Nat} (h : i < l.length) (y : α) : ∃ a b, l = a ++ gt l i :: b ∧ l.set i y = a ++ y :: b := by
  refine ⟨l.take i, l.drop (i + 1), ?_, ?_⟩
  · rw [gt_at h, List.getElem_cons_drop]
    exact (List.take_append_drop i l).symm
  · rw [List.set_eq_take_append_cons_drop, if_pos h]
theorem seg_add {S : List (List DVersion)} {j : Nat} (hj : j < S.length) (n : DVersion) : (S.set j (gt S j ++ [n])).flatten.Perm (n :: S.flatten) := by
  obtain ⟨a, b, e1, e2⟩ := split_at hj (gt S j ++ [n])
  have h1 := congrArg List.flatten e1
  rw [e2, h1, show (a ++ (gt S j ++ [n]) :: b).flatten = (a.flatten ++ gt S j) ++ n :: b.flatten by simp, show (a ++ gt S j :: b).flatten = (a.flatten ++ gt S j) ++ b.flatten by simp]
  exact List.perm_middle
theorem Version_iff {v : DVersion} {now : Int} (hn : now ≤ 100000) : spec_l7Version_m v now = true ↔ spec_IsRow_m (⟨v.Id, v.Values⟩ : DRow) = true ∧ 0 ≤ v.Born ∧ v.Born ≤ now ∧ (v.Died = -1 ∨ (v.Born + 1 ≤ v.Died ∧ v.Died ≤ now)) := by
  rw [Version_eq]
  simp only [Bool.and_eq_true, Bool.or_eq_true, decide_eq_true_eq, beq_iff_eq]
  constructor
  · rintro ⟨⟨a, b, c⟩, d⟩
    rw [wrap_id (by omega) (by omega)] at d
    exact ⟨a, b, c, d⟩
  · rintro ⟨a, b, c, d⟩
    rw [wrap_id (by omega) (by omega)]
    exact ⟨⟨a, b, c⟩, d⟩
def verOf (r : DRow) : DVersion := ⟨r.Id, r.Values, 0, -1⟩
def colsOf (l : List DRow) (n k j : Nat) : List DVersion := ((List.range k).filter fun i => i % n == j).map fun i => verOf (gt l i)
theorem colsOf_succ (l : List DRow) (n k j : Nat) : colsOf l n (k + 1) j = colsOf l n k j ++ (if k % n = j then [verOf (gt l k)] else []) := by
  unfold colsOf
  rw [List.range_succ, List.filter_append, List.map_append]
  by_cases h : k % n = j <;> simp [h]
theorem colsOf_same (l : List DRow) (n j : Nat) : ∀ c a : Nat, (∀ i, a ≤ i → i < a + c → i % n ≠ j) → colsOf l n (a + c) j = colsOf l n a j
  | 0, _, _ => rfl
  | c + 1, a, h => by
    rw [← Nat.add_assoc, colsOf_succ, if_neg (h (a + c) (by omega) (by omega)), List.append_nil]
    exact colsOf_same l n j c a (fun i h1 h2 => h i h1 (by omega))
theorem mod_gap {q i m : Nat} (h : i % m = q % m) (hlt : i < q) : i + m ≤ q := by
  have h1 := Nat.sub_mod_eq_zero_of_mod_eq h.symm
  by_cases hg : q - i < m
  · rw [Nat.mod_eq_of_lt hg] at h1; omega
  · omega
theorem colsOf_jump (l : List DRow) {m q j : Nat} (hm : 0 < m) (h : q % m = j) : colsOf l m (q + m) j = colsOf l m q j ++ [verOf (gt l q)] := by
  have e : q + m = (q + 1) + (m - 1) := by omega
  rw [e, colsOf_same l m j (m - 1) (q + 1) (fun i h1 h2 hi => by
    have := mod_gap (m := m) (i := q) (q := i) (by omega) (by omega)
    omega), colsOf_succ, if_pos h]
theorem colsOf_round (l : List DRow) {m j : Nat} (hj : j < m) : ∀ q, (colsOf l m (m * q) j).length = q
  | 0 => rfl
  | q + 1 => by
    have hr := colsOf_round l hj q
    have e : m * (q + 1) = ((m * q + j) + 1) + (m - 1 - j) := by rw [Nat.mul_add]; omega
    have hc : ∀ c, c < m → (m * q + c) % m = c := fun c hc => by rw [Nat.mul_add_mod, Nat.mod_eq_of_lt hc]
    rw [e, colsOf_same l m j (m - 1 - j) (m * q + j + 1) (fun i h1 h2 hi => by
      have := hc (i - m * q) (by omega)
      rw [show m * q + (i - m * q) = i by omega] at this
      omega), colsOf_succ, if_pos (hc j hj), colsOf_same l m j j (m * q) (fun i h1 h2 hi => by
      have := hc (i - m * q) (by omega)
      rw [show m * q + (i - m * q) = i by omega] at this
      omega), List.length_append, hr]
    rfl
theorem colsOf_le (l : List DRow) (m j : Nat) : ∀ c a : Nat, (colsOf l m a j).length ≤ (colsOf l m (a + c) j).length
  | 0, _ => Nat.le_refl _
  | c + 1, a => by
    have := colsOf_le l m j c a
    rw [← Nat.add_assoc, colsOf_succ, List.length_append]
    omega
theorem impl_New_loop {l : List DRow} {m : Nat} (hm : 0 < m) : ∃ d, rng (R := DStore × Bool) (fun k (s : List (List DVersion)) => impl_NewStore_b1 l ((m : Nat) : Int) k s) (l.length - 0) 0 (List.replicate m []) = .inr d ∧ d.length = m ∧ (∀ j, j < m → gt d j = colsOf l m l.length j) ∧ d.flatten.Perm (l.map verOf) := by
  have key := rng_inv (R := DStore × Bool) (body := fun k (s : List (List DVersion)) => impl_NewStore_b1 l ((m : Nat) : Int) k s) (n := l.length) (fun k d => d.length = m ∧ (∀ j, j < m → gt d j = colsOf l m k j) ∧ d.flatten.Perm ((l.take k).map verOf)) (fun k d hk ⟨h1, h2, h3⟩ => by
    have hlt : k % m < d.length := by rw [h1]; exact Nat.mod_lt _ hm
    refine ⟨d.set (k % m) (gt d (k % m) ++ [verOf (gt l k)]), ?_, ?_, fun j hj => ?_, ?_⟩
    · show impl_NewStore_b1 l ((m : Nat) : Int) k d = _
      unfold impl_NewStore_b1
      rw [show Int.tmod ((k : Nat) : Int) ((m : Nat) : Int) = ((k % m : Nat) : Int) from rfl, Int.toNat_natCast]
      rfl
    · rw [List.length_set, h1]
    · rw [colsOf_succ]
      by_cases h : k % m = j
      · rw [if_pos h, ← h, gt_set_eq hlt, h2 _ (Nat.mod_lt _ hm)]
      · rw [if_neg h, gt_set_ne h, List.append_nil, h2 j hj]
    · refine (seg_add hlt (verOf (gt l k))).trans ((h3.cons _).trans ?_)
      rw [List.take_add_one, List.getElem?_eq_getElem hk, ← gt_at hk, List.map_append]
      exact (List.perm_append_singleton _ _).symm) (l.length - 0) 0 (List.replicate m []) (by omega) ⟨List.length_replicate, fun j hj => (by
        rw [gt_at (by rw [List.length_replicate]; exact hj), List.getElem_replicate]; rfl), (by
        rw [List.flatten_replicate_nil]; exact .refl _)⟩
  obtain ⟨d, e, h1, h2, h3⟩ := key
  rw [List.take_length] at h3
  exact ⟨d, e, h1, h2, h3⟩
theorem spec_New_inner {l : List DRow} {m j : Nat} (hm : 0 < m) (h8 : m ≤ 8) (h32 : l.length ≤ 32) (hj : j < m) : ∃ s, rngb (R := DStore × Bool) (fun k (s : (List DVersion) × Int) => spec_NewStore_b2 l ((m : Nat) : Int) k s.1 s.2) (l.length + 1 - 0) 0 ([], ((j : Nat) : Int)) = .inr (colsOf l m l.length j, s) := by
  have hend : ∀ q, q % m = j → (q < l.length + m ∨ q = j) → l.length ≤ q → colsOf l m q j = colsOf l m l.length j := fun q h1 h2 h3 => by
    have e : q = l.length + (q - l.length) := by omega
    rw [e]
    refine colsOf_same l m j _ _ (fun i i1 i2 hi => ?_)
    have := mod_gap (m := m) (i := i) (q := q) (by omega) (by omega)
    omega
  obtain ⟨s', e1, e2⟩ := rngb_invP (R := DStore × Bool) (b := fun k (s : (List DVersion) × Int) => spec_NewStore_b2 l ((m : Nat) : Int) k s.1 s.2) (P := fun k s => ∃ q : Nat, s.2 = ((q : Nat) : Int) ∧ q % m = j ∧ s.1 = colsOf l m q j ∧ (q < l.length + m ∨ q = j) ∧ k ≤ q) (Q := fun s => s.1 = colsOf l m l.length j) (fun k s ⟨q, h1, h2, h3, h4, h5⟩ => by
    show (∃ s', spec_NewStore_b2 l ((m : Nat) : Int) k s.1 s.2 = _ ∧ _) ∨ ∃ s', spec_NewStore_b2 l ((m : Nat) : Int) k s.1 s.2 = _ ∧ _
    unfold spec_NewStore_b2
    by_cases hq : q < l.length
    · rw [h1, decide_eq_true (by omega), cond_true, wrap_id (n := ((q : Nat) : Int) + ((m : Nat) : Int)) (by omega) (by omega), Int.toNat_natCast, h3]
      refine .inl ⟨_, rfl, q + m, by show _ = ((q + m : Nat) : Int); omega, by rw [Nat.add_mod_right]; exact h2, (colsOf_jump l hm h2).symm, .inl (by omega), by omega⟩
    · rw [h1, decide_eq_false (by omega), cond_false]
      exact .inr ⟨_, rfl, by show s.1 = _; rw [h3]; exact hend q h2 h4 (by omega)⟩) (l.length + 1 - 0) 0 ([], ((j : Nat) : Int)) ⟨j, rfl, Nat.mod_eq_of_lt hj, by
      have := colsOf_same l m j j 0 (fun i _ h2 hi => by rw [Nat.mod_eq_of_lt (by omega)] at hi; omega)
      rw [Nat.zero_add] at this
      rw [this]; rfl, .inr rfl, Nat.zero_le _⟩
  refine ⟨s'.2, ?_⟩
  rw [e1]
  rcases e2 with h | ⟨q, h1, h2, h3, h4, h5⟩
  · rw [← h]
  · rw [← hend q h2 h4 (by omega), ← h3]
theorem spec_New_loop {l : List DRow} {m : Nat} (hm : 0 < m) (h8 : m ≤ 8) (h32 : l.length ≤ 32) : rng (R := DStore × Bool) (fun k (s : List (List DVersion)) => spec_NewStore_b1 l ((m : Nat) : Int) k s) (m - 0) 0 [] = .inr ((List.range m).map (colsOf l m l.length)) := by
  obtain ⟨d, e, h⟩ := rng_inv (R := DStore × Bool) (body := fun k (s : List (List DVersion)) => spec_NewStore_b1 l ((m : Nat) : Int) k s) (n := m) (fun k d => d = (List.range k).map (colsOf l m l.length)) (fun k d hk h => by
    obtain ⟨s, hs⟩ := spec_New_inner hm h8 h32 hk
    refine ⟨d ++ [colsOf l m l.length k], ?_, ?_⟩
    · show spec_NewStore_b1 l ((m : Nat) : Int) k d = _
      unfold spec_NewStore_b1
      rw [hs]
      rfl
    · rw [List.range_succ, List.map_append, ← h]; rfl) (m - 0) 0 [] (by omega) rfl
  rw [e, h]
theorem New_eq {d : List (List DVersion)} {f : Nat → List DVersion} {m : Nat} (h1 : d.length = m) (h2 : ∀ j, j < m → gt d j = f j) : d = (List.range m).map f := by
  apply List.ext_getElem
  · rw [h1, List.length_map, List.length_range]
  · intro i i1 i2
    rw [← gt_at i1, h2 i (by omega), List.getElem_map, List.getElem_range]
def NewAt (l : List DRow) (n : Int) (x : DStore) : Prop := spec_AreRows_m l = true ∧ (1 ≤ n ∧ n ≤ 8) ∧ ((l.length : Nat) : Int) ≤ n * 4 ∧ x = ⟨(List.range n.toNat).map (colsOf l n.toNat l.length), 0⟩ ∧ x.Segments.flatten.Perm (l.map verOf)
theorem NewStore_is (l : List DRow) (n : Int) : (impl_NewStore_m l n = (⟨[], 0⟩, false) ∧ spec_NewStore_m l n = (⟨[], 0⟩, false)) ∨ ∃ x, impl_NewStore_m l n = (x, true) ∧ spec_NewStore_m l n = (x, true) ∧ NewAt l n x := by
  unfold impl_NewStore_m spec_NewStore_m
  rw [AreRows_same]
  cases hA : spec_AreRows_m l with
  | false => exact .inl ⟨rfl, rfl⟩
  | true =>
  rw [impl_within_iff, spec_l1In_iff]
  by_cases hw : 1 ≤ n ∧ n ≤ 8
  · rw [decide_eq_true hw, Int.mul_comm 4 n]
    have w1 := wrap_id (n := n * 4) (by omega) (by omega)
    rw [w1]
    by_cases hl : n * 4 < ((l.length : Nat) : Int)
    · rw [decide_eq_true hl]; exact .inl ⟨rfl, rfl⟩
    · rw [decide_eq_false hl]
      obtain ⟨h32, _, _⟩ := AreRows_fact hA
      obtain ⟨m, rfl⟩ := Int.eq_ofNat_of_zero_le (show 0 ≤ n by omega)
      obtain ⟨d, e1, d1, d2, d3⟩ := impl_New_loop (l := l) (m := m) (by omega)
      have e2 := spec_New_loop (l := l) (m := m) (by omega) (by omega) h32
      have e3 := New_eq d1 d2
      rw [Int.toNat_natCast]
      rw [e1, e2]
      refine .inr ⟨⟨d, 0⟩, rfl, by rw [← e3]; rfl, hA, hw, by omega, by rw [Int.toNat_natCast, ← e3], d3⟩
  · rw [decide_eq_false hw]; exact .inl ⟨rfl, rfl⟩
theorem New_vers {l : List DRow} {n : Int} {x : DStore} (h : NewAt l n x) : Sto x := by
  obtain ⟨hA, hn, hl, e, hp⟩ := h
  obtain ⟨h32, hr, hs⟩ := AreRows_fact hA
  have hx : x.Segments = (List.range n.toNat).map (colsOf l n.toNat l.length) := by rw [e]
  have hN : x.Now = 0 := by rw [e]
  have hV : ∀ v ∈ l.map verOf, spec_l7Version_m v x.Now = true := fun v hv => by
    obtain ⟨r, hr', rfl⟩ := List.mem_map.1 hv
    rw [hN, Version_iff (by omega)]
    exact ⟨hr r hr', (by show (0 : Int) ≤ 0; omega), (by show (0 : Int) ≤ 0; omega), .inl rfl⟩
  refine ⟨by rw [hx, List.length_map, List.length_range]; omega, by omega, fun s hs' => ?_, fun v hv => hV v (hp.mem_iff.1 hv), ?_⟩
  · rw [hx] at hs'
    obtain ⟨j, hj, rfl⟩ := List.mem_map.1 hs'
    rw [List.mem_range] at hj
    have h1 := colsOf_le l n.toNat j (n.toNat * 4 - l.length) l.length
    rw [show l.length + (n.toNat * 4 - l.length) = n.toNat * 4 by omega, colsOf_round l hj] at h1
    exact h1
  · refine (hp.pairwise_iff (R := fun a b => spec_l7Apart_m b a = true) (fun h => Apart_symm h)).2 ?_
    rw [List.pairwise_map]
    refine hs.imp fun {a b} hab => ?_
    rw [Apart_eq, decide_eq_true_eq]
    exact .inl (by show b.Id ≠ a.Id; omega)
theorem spec_DrawRowsAt_fact (x : List Int) : stD 21 (spec_DrawRowsAt_m x).1 := spec_l7Any_stD _ _
theorem cond_smR {b : Bool} {p q : DRow × Dl1Cur} (h1 : smRow 68719476736 p.1) (h2 : smRow 68719476736 q.1) : smRow 68719476736 (cond b p q).1 := by cases b <;> assumption
theorem spec_l3Any_sm (b : List Int) (D : Dl1Cur) : smRow 68719476736 (spec_l3Any_m b D).1 := by
  have hr := (spec_l3Row_fact b (spec_l1Below_m b D 9).2 (spec_l1Below_m b D 9).1).2.1
  unfold spec_l3Any_m
  repeat' (first | (show List.length _ ≤ 68719476736; first | omega | (simp only [List.length_set, List.length_append, List.length_take, List.length_cons, List.length_nil]; omega)) | apply cond_smR)
theorem spec_DrawNewStore_fact (x : List Int) : (spec_DrawNewStore_m x).1.length ≤ 68719476736 ∧ ∀ y ∈ (spec_DrawNewStore_m x).1, smRow 68719476736 y := by
  show (spec_l3AnyRows_m x (spec_l1New_m x)).1.length ≤ 68719476736 ∧ ∀ y ∈ (spec_l3AnyRows_m x (spec_l1New_m x)).1, smRow 68719476736 y
  have hr := spec_l3Rows_fact x (spec_l1New_m x) 8 (by omega) (by omega)
  have h1 := rowsP_sm hr.1 (by omega)
  unfold spec_l3AnyRows_m
  cases (spec_l1Once_m x (spec_l3Rows_m x (spec_l1New_m x) 8).2 6).1 with
  | false => exact h1
  | true =>
    refine ⟨?_, fun y hy => ?_⟩
    · show ((spec_l3Rows_m x (spec_l1New_m x) 8).1 ++ [_]).length ≤ _
      rw [List.length_append]; show _ + 1 ≤ _; omega
    · rcases List.mem_append.1 hy with h | h
      · exact h1.2 y h
      · rw [List.mem_singleton.1 h]; exact spec_l3Any_sm _ _
theorem New_sm {l : List DRow} {n : Int} {x : DStore} (h : NewAt l n x) : smStore 68719476736 x := by
  obtain ⟨⟨_, h8⟩, ⟨_, hN⟩, h4, hv, _⟩ := New_vers h
  refine ⟨by show x.Segments.length ≤ _; omega, fun z hz => ⟨by have := h4 z hz; omega, fun v hvz => ?_⟩⟩
  show v.Values.length ≤ _
  rw [spec_Version_len (hv v (List.mem_flatten.2 ⟨z, hz, hvz⟩))]
  omega
theorem impl_NewStore_sm (l : List DRow) (n : Int) : smStore 68719476736 (impl_NewStore_m l n).1 := by
  rcases NewStore_is l n with ⟨e, _⟩ | ⟨x, e, _, h⟩
  · rw [e]; exact ⟨Nat.zero_le _, fun z hz => by cases hz⟩
  · rw [e]; exact New_sm h
theorem spec_NewStore_sm (l : List DRow) (n : Int) : smStore 68719476736 (spec_NewStore_m l n).1 := by
  rcases NewStore_is l n with ⟨_, e⟩ | ⟨x, _, e, h⟩
  · rw [e]; exact ⟨Nat.zero_le _, fun z hz => by cases hz⟩
  · rw [e]; exact New_sm h
theorem SegRows_fact {x : DStore} (h : stD 21 x) (i : Nat) (hi : i < x.Segments.length) (t : Int) : (impl_SegmentRows_m x ((i : Nat) : Int) t).length ≤ 21 ∧ ∀ y ∈ impl_SegmentRows_m x ((i : Nat) : Int) t, smRow 68719476736 y := by
  have hz := h.2.2.2 _ (gt_mem hi)
  unfold impl_SegmentRows_m
  cases impl_IsStore_m x with
  | false => exact ⟨Nat.zero_le _, fun y hy => by cases hy⟩
  | true =>
    cases impl_within_m ((i : Nat) : Int) 0 (IntKind.i64.wrap (((x.Segments.length : Nat) : Int) - 1)) with
    | false => exact ⟨Nat.zero_le _, fun y hy => by cases hy⟩
    | true => exact ⟨Nat.le_trans (segRows_len x i t) hz.1, segRows_sm (stD_sm h) hi t⟩
def laws_FnSegments_b1 (x0 : (List Int)) (k17 : Nat) (d18 : (List DRow)) : Bool ⊕ ((List DRow)) :=
 Sum.inr (d18 ++ (impl_SegmentRows_m ((spec_DrawRowsAt_m x0).1) ((k17 : Nat) : Int) ((spec_DrawRowsAt_m x0).2)))
def laws_FnSegments_m (x0 : (List Int)) : Bool :=
 cond (laws_big_m x0) true (Sum.elim id (fun (s : (List DRow)) => cond (spec_EqualRows_m (impl_RowsAt_m ((spec_DrawRowsAt_m x0).1) ((spec_DrawRowsAt_m x0).2)) (spec_RowsAt_m ((spec_DrawRowsAt_m x0).1) ((spec_DrawRowsAt_m x0).2))) (cond (spec_EqualRows_m (impl_SortRows_m s) (spec_RowsAt_m ((spec_DrawRowsAt_m x0).1) ((spec_DrawRowsAt_m x0).2))) (cond ((impl_NewStore_m ((spec_DrawNewStore_m x0).1) ((spec_DrawNewStore_m x0).2)).2 == (spec_NewStore_m ((spec_DrawNewStore_m x0).1) ((spec_DrawNewStore_m x0).2)).2) (cond (spec_EqualStores_m (impl_NewStore_m ((spec_DrawNewStore_m x0).1) ((spec_DrawNewStore_m x0).2)).1 (spec_NewStore_m ((spec_DrawNewStore_m x0).1) ((spec_DrawNewStore_m x0).2)).1) (cond ((impl_NewStore_m ((spec_DrawNewStore_m x0).1) ((spec_DrawNewStore_m x0).2)).2) (cond (impl_IsStore_m (impl_NewStore_m ((spec_DrawNewStore_m x0).1) ((spec_DrawNewStore_m x0).2)).1) (cond (spec_EqualRows_m (impl_RowsAt_m (impl_NewStore_m ((spec_DrawNewStore_m x0).1) ((spec_DrawNewStore_m x0).2)).1 0) ((spec_DrawNewStore_m x0).1)) (cond ((impl_CountVersions_m (impl_NewStore_m ((spec_DrawNewStore_m x0).1) ((spec_DrawNewStore_m x0).2)).1) == ((((spec_DrawNewStore_m x0).1).length : Nat) : Int)) ((impl_IsVisible_m ((spec_DrawIsVisible_m x0).1) ((spec_DrawIsVisible_m x0).2)) == (spec_IsVisible_m ((spec_DrawIsVisible_m x0).1) ((spec_DrawIsVisible_m x0).2))) false) false) false) ((impl_IsVisible_m ((spec_DrawIsVisible_m x0).1) ((spec_DrawIsVisible_m x0).2)) == (spec_IsVisible_m ((spec_DrawIsVisible_m x0).1) ((spec_DrawIsVisible_m x0).2)))) false) false) false) false) (rng (R := Bool) (fun k (s : (List DRow)) => laws_FnSegments_b1 x0 k s) ((((spec_DrawRowsAt_m x0).1).Segments).length - 0) 0 []))
theorem cb4 : Cb Try.prog 4 := ⟨f4, _, func4, rfl, by decide⟩
theorem laws_FnSegments_c (w : World) (z0 : Value) (x0 : (List Int)) (r_0 : rdS tU8 w w.heap.size z0 x0) :
  Calls Try.prog 4 #[z0] w fun e w' => e = .returned (.bool (laws_FnSegments_m x0)) ∧ Below w.heap.size w w' := by
 have ok0 := r_0.1
 obtain ⟨m1, A2, c3, rfl, q4, r5⟩ := rdS_op r_0
 refine ce1 (L := [(0, .slice A2 x0.length c3)]) (N := 113) func4 ?_
 refine sr (wa (nt' (CM_seq (sr (wm ?_)))))
 refine wcv (cl_fn cb6 rfl) (fun W hm => laws_big_c W _ x0 (hm.rdS0 r5)) ?_
 refine nt' ?_
 rcases Bool.eq_false_or_eq_true (laws_big_m x0) with g7 | g7
 ·
  refine CM_condT rfl g7 ?_
  refine sr (wa (nt' (CM_ret (QM_then_ret ?_))))
  exact rtb (h := cond_t g7 (rfl))
 ·
  have hl0 := of_decide_eq_false (p := 1048576 < ((x0.length : Nat) : Int)) g7
  refine CM_condF rfl g7 ?_
  refine CM_skip (QM_then (sr (wm ?_)))
  refine WM_call (χ := List Value) (val := fun x => .tuple #[.agg x.toArray, .int .i64 ((spec_DrawRowsAt_m x0).2)]) (js := fun x => [iOwn tyStore x ((spec_DrawRowsAt_m x0).1)]) (cl_fn cb18 rfl) (fun W hm => spec_DrawRowsAt_c W _ x0 (hm.rdS0 r5) (by omega)) (Wd_none rfl) (by decide) (fun z8 => ?_)
  have hdr := spec_DrawRowsAt_fact x0
  refine tyStore_sp ?_
  rintro v9 rfl
  refine WM_form (n := 0) rfl ?_
  rintro A10 c11 rfl m12
  refine wm ?_
  refine wv (fun W hm => rv_extract rfl rfl) ?_
  refine wv (fun W hm => rv_extract rfl rfl) ?_
  refine WM_alloc type26 rfl (Wd_none rfl) (by decide) (fun p14 => ?_)
  let K3 : List Value := [.slice A10 (((spec_DrawRowsAt_m x0).1).Segments).length c11, .int .i64 (((spec_DrawRowsAt_m x0).1).Now)]
  let K4 : List Value := [.slice A10 (((spec_DrawRowsAt_m x0).1).Segments).length c11]
  let I7 : It := iOwn (tSl (tSl tyVersion 51) 72) K4 (((spec_DrawRowsAt_m x0).1).Segments)
  refine sb 0 K3 [I7] (fun W hm => hm) type26 ?_
  refine wa (nt' (sr ?_))
  refine WM_build0 (E := tyRow) underlying39 type29 (Wd_none rfl) (by decide) (fun p15 => ?_)
  refine wa (nt' (CM_seq (sr (wa (nt' (CM_block ?_))))))
  have h8 := hdr.2.2.1
  let F1 := fun k (s : (List DRow)) => laws_FnSegments_b1 x0 k s
  let R2 := rng (R := Bool) F1
  refine CM_loop (σ := Nat × ((List DRow)) × (Option Addr × Nat)) (fun s => [(0, .slice A2 x0.length c3), (3, .pointer (some (⟨p14, 0, none⟩ : Addr))), (4, .int .i64 ((spec_DrawRowsAt_m x0).2)), (5, .slice s.2.2.1 s.2.1.length s.2.2.2), (6, .int .i64 ((s.1 : Nat) : Int))]) (fun s => [iOwn (tSl tyRow 29) [.slice s.2.2.1 s.2.1.length s.2.2.2] s.2.1, iBox p14 26 K3, I7]) (fun s => s.1 ≤ (((spec_DrawRowsAt_m x0).1).Segments).length ∧ R2 ((((spec_DrawRowsAt_m x0).1).Segments).length - s.1) s.1 s.2.1 = R2 ((((spec_DrawRowsAt_m x0).1).Segments).length - 0) 0 [] ∧ s.2.1.length ≤ 21 * s.1 ∧ ∀ y ∈ s.2.1, smRow 68719476736 y) (fun s => (((spec_DrawRowsAt_m x0).1).Segments).length - s.1) (0, [], ((some ⟨p15, 0, none⟩), 0)) sl5 (fun W hm => hm) ⟨(by omega), rfl, Nat.zero_le _, fun _ h => by cases h⟩ ?_
  rintro ⟨k17, d18, ⟨A19, c20⟩⟩ H23
  obtain ⟨hk21, hF22, hi24, hi25⟩ : k17 ≤ (((spec_DrawRowsAt_m x0).1).Segments).length ∧ R2 ((((spec_DrawRowsAt_m x0).1).Segments).length - k17) k17 d18 = R2 ((((spec_DrawRowsAt_m x0).1).Segments).length - 0) 0 [] ∧ d18.length ≤ 21 * k17 ∧ ∀ y ∈ d18, smRow 68719476736 y := H23
  let I8 : It := iOwn (tSl tyRow 29) [.slice A19 d18.length c20] d18
  show CM Try.prog 113 _ _ _ _ [(0, .slice A2 x0.length c3), (3, .pointer (some (⟨p14, 0, none⟩ : Addr))), (4, .int .i64 ((spec_DrawRowsAt_m x0).2)), (5, .slice A19 d18.length c20), (6, .int .i64 ((k17 : Nat) : Int))] [I8, iBox p14 26 K3, I7]
  refine CM_seq (sr (wm ?_))
  refine wv (vf underlying26 rfl type24) ?_
  refine wv (vl 1 0 underlying24) ?_
  refine wv (vlen underlying24) ?_
  refine wv vlss ?_
  refine nt' ?_
  by_cases hl26 : k17 < (((spec_DrawRowsAt_m x0).1).Segments).length
  ·have g27 := dlT hl26
   refine CM_condT rfl g27 ?_
   refine CM_skip (QM_then (CM_seq (CM_block (CM_region (wm ?_)))))
   refine wv (fun W hm => rv_loadN (cs := K3) underlying26 type26 rfl rfl (hm.boxCells (n := 1) rfl)) ?_
   refine wm (wm ?_)
   refine wcl (tSl tyRow 29) (impl_SegmentRows_m ((spec_DrawRowsAt_m x0).1) ((k17 : Nat) : Int) ((spec_DrawRowsAt_m x0).2)) (cl_fn cb19 rfl) (fun W hm => impl_SegmentRows_c W _ ((spec_DrawRowsAt_m x0).1) ((k17 : Nat) : Int) ((spec_DrawRowsAt_m x0).2) (tyStore_mk (x := ((spec_DrawRowsAt_m x0).1)) (hm.rdSI (n := 2) rfl)) (stD_sm hdr)) (fun z28 => ?_)
   have hq := SegRows_fact hdr k17 (by omega) (spec_DrawRowsAt_m x0).2
   obtain ⟨G29, hG29⟩ : ∃ G, G = (impl_SegmentRows_m ((spec_DrawRowsAt_m x0).1) ((k17 : Nat) : Int) ((spec_DrawRowsAt_m x0).2)) := ⟨_, rfl⟩
   rw [← hG29]
   rw [← hG29] at hq
   refine WM_form (n := 0) rfl ?_
   rintro A30 c31 rfl m32
   refine WM_appendM (E := tyRow) (e := 29) (v := .slice A19 d18.length c20) (u := .slice A30 G29.length c31) (xs := d18) (ys := G29) (js := [iBox p14 26 K3, I7]) (pk [1, 0, 2, 3]) underlying39 type29 rfl rfl rfl (Nat.le_of_ble_eq_true rfl) rfl rfl (show (d18.length + G29.length) * 32 ≤ 140737488355328 from by omega) (show d18.length + G29.length ≤ 9223372036854775807 from by omega) (Wd_none rfl) (by decide) (fun v34 => ?_)
   refine WM_form (n := 0) rfl ?_
   rintro A35 c36 rfl m37
   refine wa (WM_nil (QM_block_normal (QM_then (CM_region (wm ?_)))))
   refine wv (vadN k17 1 (by omega)) ?_
   refine wa (WM_nil ?_)
   have hn39 := rng_next (R := Bool) (body := F1) (k := k17) (s := d18) (s' := (d18 ++ G29)) (show k17 < (((spec_DrawRowsAt_m x0).1).Segments).length from by omega) (by subst hG29; exact rfl) hF22
   exact QM_round (k17 + 1, (d18 ++ G29), (A35, c36)) sl5 (fun W hm => hm) ⟨(by omega), hn39, (show (d18 ++ G29).length ≤ 21 * (k17 + 1) from by rw [List.length_append]; omega), (show ∀ y ∈ (d18 ++ G29), smRow 68719476736 y from by intro y hy; rcases List.mem_append.1 hy with hy | hy; exact hi25 y hy; exact hq.2 y hy)⟩ (show (((spec_DrawRowsAt_m x0).1).Segments).length - (k17 + 1) < (((spec_DrawRowsAt_m x0).1).Segments).length - k17 from by omega)
  ·have g27 := dlF hl26
   refine CM_condF rfl g27 ?_
   refine CM_exit (QM_then_exit (QM_then_exit ?_))
   have hE40 : R2 ((((spec_DrawRowsAt_m x0).1).Segments).length - 0) 0 [] = Sum.inr d18 := rng_end hl26 hF22
   have hsm : d18.length ≤ 68719476736 ∧ ∀ y ∈ d18, smRow 68719476736 y := ⟨by omega, hi25⟩
   refine QM_block_hit (QM_then (CM_seq (CM_seq ?_)))
   refine rb 17 (s := [I8, iBox p14 26 K3, I7]) (fun W hm => hm) ?_
   refine qt 17 0 1 rfl (fun W hm => rv_loadN (cs := K3) underlying26 type26 rfl rfl (hm.boxCells (n := 1) rfl)) ?_
   refine qt 17 1 3 rfl vmv ?_
   refine qt 17 3 11 rfl (fun W hm => rv_loadN (cs := K3) underlying26 type26 rfl rfl (hm.boxCells (n := 1) rfl)) ?_
   refine qt 17 4 27 rfl vmv ?_
   refine qo 17 2 31 rfl ?_
   refine wcl (tSl tyRow 29) (impl_RowsAt_m ((spec_DrawRowsAt_m x0).1) ((spec_DrawRowsAt_m x0).2)) (cl_fn cb14 rfl) (fun W hm => impl_RowsAt_c W _ ((spec_DrawRowsAt_m x0).1) ((spec_DrawRowsAt_m x0).2) (tyStore_mk (x := ((spec_DrawRowsAt_m x0).1)) (hm.rdSI (n := 2) rfl)) (stD_sm hdr)) (fun z41 => ?_)
   obtain ⟨G42, hG42⟩ : ∃ G, G = (impl_RowsAt_m ((spec_DrawRowsAt_m x0).1) ((spec_DrawRowsAt_m x0).2)) := ⟨_, rfl⟩
   rw [← hG42]
   refine WM_form (n := 0) rfl ?_
   rintro A43 c44 rfl m45
   refine qn (pk [1, 2, 3]) ?_
   refine qo 17 5 63 rfl ?_
   refine wcl (tSl tyRow 29) (spec_RowsAt_m ((spec_DrawRowsAt_m x0).1) ((spec_DrawRowsAt_m x0).2)) (cl_fn cb15 rfl) (fun W hm => spec_RowsAt_c W _ ((spec_DrawRowsAt_m x0).1) ((spec_DrawRowsAt_m x0).2) (tyStore_mk (x := ((spec_DrawRowsAt_m x0).1)) (hm.rdSI (n := 3) rfl)) (stD_sm hdr)) (fun z47 => ?_)
   obtain ⟨G48, hG48⟩ : ∃ G, G = (spec_RowsAt_m ((spec_DrawRowsAt_m x0).1) ((spec_DrawRowsAt_m x0).2)) := ⟨_, rfl⟩
   rw [← hG48]
   refine WM_form (n := 0) rfl ?_
   rintro A49 c50 rfl m51
   refine qn (pk [2, 3, 4]) ?_
   refine qo 17 6 127 rfl ?_
   refine wcv (cl_fn cb13 rfl) (fun W hm => spec_EqualRows_c W _ G42 _ G48 (hm.rdSI (n := 1) rfl) (hm.rdSI (n := 0) rfl)) ?_
   refine qn (pk [2, 3, 4]) ?_
   refine qt 17 7 255 rfl vnot ?_
   refine qt 17 8 511 rfl vmv ?_
   rcases Bool.eq_false_or_eq_true (spec_EqualRows_m G42 G48) with g54 | g54
   ·
    refine qtg 17 9 1023 rfl vmv (Wd_some rfl rfl rfl (bw (nt g54) rfl)) ?_
    refine qtg 17 11 3071 rfl (fun W hm => rv_loadN (cs := K3) underlying26 type26 rfl rfl (hm.boxCells (n := 1) rfl)) (Wd_some rfl rfl rfl (bw (nt g54) rfl)) ?_
    refine qtg 17 12 7167 rfl vmv (Wd_some rfl rfl rfl (bw (nt g54) rfl)) ?_
    refine qo 17 10 8191 rfl ?_
    refine WM_call (χ := Value) (val := fun x => x) (js := fun x => [iOwn (tSl tyRow 29) [x] (impl_SortRows_m d18)]) (cl_fn cb20 rfl) (fun W hm => impl_SortRows_c W _ d18 (hm.rdSI (n := 2) rfl) hsm) (Wd_some rfl rfl rfl (bw (nt g54) rfl)) (by decide) (fun z55 => ?_)
    refine WM_form (n := 0) rfl ?_
    rintro A56 c57 rfl m58
    refine qn (pk [3, 4, 5]) ?_
    refine qo 17 13 16383 rfl ?_
    refine WM_call (χ := Value) (val := fun x => x) (js := fun x => [iOwn (tSl tyRow 29) [x] (spec_RowsAt_m ((spec_DrawRowsAt_m x0).1) ((spec_DrawRowsAt_m x0).2))]) (cl_fn cb15 rfl) (fun W hm => spec_RowsAt_c W _ ((spec_DrawRowsAt_m x0).1) ((spec_DrawRowsAt_m x0).2) (tyStore_mk (x := ((spec_DrawRowsAt_m x0).1)) (hm.rdSI (n := 5) rfl)) (stD_sm hdr)) (Wd_some rfl rfl rfl (bw (nt g54) rfl)) (by decide) (fun z60 => ?_)
    obtain ⟨G61, hG61⟩ : ∃ G, G = (spec_RowsAt_m ((spec_DrawRowsAt_m x0).1) ((spec_DrawRowsAt_m x0).2)) := ⟨_, rfl⟩
    rw [← hG61]
    refine WM_form (n := 0) rfl ?_
    rintro A62 c63 rfl m64
    refine qn (pk [4, 5, 6]) ?_
    refine qo 17 14 32767 rfl ?_
    refine WM_callV (cl_fn cb13 rfl) (fun W hm => spec_EqualRows_c W _ (impl_SortRows_m d18) _ G61 (hm.rdSI (n := 1) rfl) (hm.rdSI (n := 0) rfl)) (Wd_some rfl rfl rfl (bw (nt g54) rfl)) (by decide) ?_
    refine qn (pk [4, 5, 6]) ?_
    refine qtg 17 15 65535 rfl vnot (Wd_some rfl rfl rfl (bw (nt g54) rfl)) ?_
    refine qt 17 16 131071 rfl (vpF (nt g54)) ?_
    refine QB_done (by kernel_rfl) ?_
    refine QM_then ?_
    rcases Bool.eq_false_or_eq_true (spec_EqualRows_m (impl_SortRows_m d18) G61) with g67 | g67
    ·
     refine CM_condF rfl (nt g67) ?_
     refine CM_skip (QM_then (CM_seq ?_))
     refine CM_items (pk []) ?_
     refine CM_region (wm ?_)
     refine WM_call (χ := Value) (val := fun x => .tuple #[x, .int .i64 ((spec_DrawNewStore_m x0).2)]) (js := fun x => [iOwn (tSl tyRow 29) [x] ((spec_DrawNewStore_m x0).1)]) (cl_fn cb21 rfl) (fun W hm => spec_DrawNewStore_c W _ x0 (hm.rdS0 r5) (by omega)) (Wd_none rfl) (by decide) (fun z68 => ?_)
     have hdn := spec_DrawNewStore_fact x0
     refine WM_form (n := 0) rfl ?_
     rintro A69 c70 rfl m71
     refine wm ?_
     refine wv (fun W hm => rv_extract rfl rfl) ?_
     refine wv (fun W hm => rv_extract rfl rfl) ?_
     refine wa (wa (nt' (sr (wm (wm ?_)))))
     refine WM_call (χ := List Value) (val := fun x => .tuple #[.agg x.toArray, .bool ((impl_NewStore_m ((spec_DrawNewStore_m x0).1) ((spec_DrawNewStore_m x0).2)).2)]) (js := fun x => [iOwn tyStore x ((impl_NewStore_m ((spec_DrawNewStore_m x0).1) ((spec_DrawNewStore_m x0).2)).1)]) (cl_fn cb22 rfl) (fun W hm => impl_NewStore_c W _ ((spec_DrawNewStore_m x0).1) ((spec_DrawNewStore_m x0).2) (hm.rdSI (n := 0) rfl) hdn) (Wd_none rfl) (by decide) (fun z73 => ?_)
     have hxs := impl_NewStore_sm (spec_DrawNewStore_m x0).1 (spec_DrawNewStore_m x0).2
     obtain ⟨G74, hG74⟩ : ∃ G, G = (impl_NewStore_m ((spec_DrawNewStore_m x0).1) ((spec_DrawNewStore_m x0).2)) := ⟨_, rfl⟩
     rw [← hG74]
     rw [← hG74] at hxs
     refine tyStore_sp ?_
     rintro v75 rfl
     refine WM_form (n := 0) rfl ?_
     rintro A76 c77 rfl m78
     refine wm ?_
     refine wv (fun W hm => rv_extract rfl rfl) ?_
     refine wv (fun W hm => rv_extract rfl rfl) ?_
     refine WM_alloc type26 rfl (Wd_none rfl) (by decide) (fun p80 => ?_)
     let I9 : It := iOwn (tSl (tSl tyVersion 51) 72) [.slice A76 G74.1.Segments.length c77] G74.1.Segments
     let I10 : It := iOwn (tSl tyRow 29) [.slice A69 ((spec_DrawNewStore_m x0).1).length c70] ((spec_DrawNewStore_m x0).1)
     refine sb 0 [.slice A76 G74.1.Segments.length c77, .int .i64 G74.1.Now] [I9, I10] (fun W hm => hm) type26 ?_
     refine wa (nt' (sr (wm (wm ?_))))
     refine WM_call (χ := List Value) (val := fun x => .tuple #[.agg x.toArray, .bool ((spec_NewStore_m ((spec_DrawNewStore_m x0).1) ((spec_DrawNewStore_m x0).2)).2)]) (js := fun x => [iOwn tyStore x ((spec_NewStore_m ((spec_DrawNewStore_m x0).1) ((spec_DrawNewStore_m x0).2)).1)]) (cl_fn cb23 rfl) (fun W hm => spec_NewStore_c W _ ((spec_DrawNewStore_m x0).1) ((spec_DrawNewStore_m x0).2) (hm.rdSI (n := 2) rfl) hdn) (Wd_none rfl) (by decide) (fun z81 => ?_)
     have hys := spec_NewStore_sm (spec_DrawNewStore_m x0).1 (spec_DrawNewStore_m x0).2
     obtain ⟨G82, hG82⟩ : ∃ G, G = (spec_NewStore_m ((spec_DrawNewStore_m x0).1) ((spec_DrawNewStore_m x0).2)) := ⟨_, rfl⟩
     rw [← hG82]
     rw [← hG82] at hys
     refine tyStore_sp ?_
     rintro v83 rfl
     refine WM_form (n := 0) rfl ?_
     rintro A84 c85 rfl m86
     refine wm ?_
     refine wv (fun W hm => rv_extract rfl rfl) ?_
     refine wv (fun W hm => rv_extract rfl rfl) ?_
     refine WM_alloc type26 rfl (Wd_none rfl) (by decide) (fun p88 => ?_)
     let I11 : It := iOwn (tSl (tSl tyVersion 51) 72) [.slice A84 G82.1.Segments.length c85] G82.1.Segments
     let I12 : It := iBox p80 26 [.slice A76 G74.1.Segments.length c77, .int .i64 G74.1.Now]
     refine sb 0 [.slice A84 G82.1.Segments.length c85, .int .i64 G82.1.Now] [I11, I12, I9, I10] (fun W hm => hm) type26 ?_
     refine wa (nt' (sr (wm ?_)))
     refine WM_call (χ := List Value) (val := fun x => .tuple #[.agg x.toArray, .int .i64 ((spec_DrawIsVisible_m x0).2)]) (js := fun x => [iOwn tyVersion x ((spec_DrawIsVisible_m x0).1)]) (cl_fn cb24 rfl) (fun W hm => spec_DrawIsVisible_c W _ x0 (hm.rdS0 r5) (by omega)) (Wd_none rfl) (by decide) (fun z89 => ?_)
     refine tyVersion_sp ?_
     rintro v90 rfl
     refine WM_form (n := 0) rfl ?_
     rintro A91 c92 rfl m93
     refine wm ?_
     refine wv (fun W hm => rv_extract rfl rfl) ?_
     refine wv (fun W hm => rv_extract rfl rfl) ?_
     refine WM_alloc type51 rfl (Wd_none rfl) (by decide) (fun p95 => ?_)
     let K5 : List Value := [.int .i64 (((spec_DrawIsVisible_m x0).1).Id), .slice A91 (((spec_DrawIsVisible_m x0).1).Values).length c92, .int .i64 (((spec_DrawIsVisible_m x0).1).Born), .int .i64 (((spec_DrawIsVisible_m x0).1).Died)]
     let K6 : List Value := [.slice A91 (((spec_DrawIsVisible_m x0).1).Values).length c92]
     let I13 : It := iOwn (tSl tInt 3) K6 (((spec_DrawIsVisible_m x0).1).Values)
     let I14 : It := iBox p88 26 [.slice A84 G82.1.Segments.length c85, .int .i64 G82.1.Now]
     refine sb 0 K5 [I13, I14, I11, I12, I9, I10] (fun W hm => hm) type51 ?_
     refine wa (nt' (CM_seq ?_))
     refine rb 39 (s := [iBox p95 51 K5, I13, I14, I11, I12, I9, I10]) (fun W hm => hm) ?_
     refine qt 39 0 1 rfl vmv ?_
     refine qt 39 1 3 rfl vmv ?_
     refine qt 39 2 7 rfl (fun W hm => rv_eqlB underlying4 rfl rfl) ?_
     refine qt 39 3 15 rfl vmv ?_
     rcases Bool.eq_false_or_eq_true (G74.2 == G82.2) with g97 | g97
     ·
      refine qtg 39 4 31 rfl (fun W hm => rv_loadN (cs := [.slice A76 G74.1.Segments.length c77, .int .i64 G74.1.Now]) underlying26 type26 rfl rfl (hm.boxCells (n := 4) rfl)) (Wd_some rfl rfl rfl (bw g97 rfl)) ?_
      refine qtg 39 5 63 rfl (fun W hm => rv_loadN (cs := [.slice A84 G82.1.Segments.length c85, .int .i64 G82.1.Now]) underlying26 type26 rfl rfl (hm.boxCells (n := 2) rfl)) (Wd_some rfl rfl rfl (bw g97 rfl)) ?_
      refine qo 39 6 127 rfl ?_
      refine WM_callV (cl_fn cb10 rfl) (fun W hm => spec_EqualStores_c W _ G74.1 _ G82.1 (tyStore_mk (x := G74.1) (hm.rdSI (n := 5) rfl)) (tyStore_mk (x := G82.1) (hm.rdSI (n := 3) rfl))) (Wd_some rfl rfl rfl (bw g97 rfl)) (by decide) ?_
      refine qn (fun W hm => hm) ?_
      refine qt 39 7 255 rfl (vpT g97) ?_
      refine qt 39 8 511 rfl vmv ?_
      rcases Bool.eq_false_or_eq_true (spec_EqualStores_m G74.1 G82.1) with g99 | g99
      ·
       refine qtg 39 9 1023 rfl vmv (Wd_some rfl rfl rfl (bw g99 rfl)) ?_
       refine qtg 39 10 2047 rfl vnot (Wd_some rfl rfl rfl (bw g99 rfl)) ?_
       refine qtg 39 11 4095 rfl vmv (Wd_some rfl rfl rfl (bw g99 rfl)) ?_
       rcases Bool.eq_false_or_eq_true G74.2 with g101 | g101
       ·
        refine qtg 39 12 8191 rfl (fun W hm => rv_loadN (cs := [.slice A76 G74.1.Segments.length c77, .int .i64 G74.1.Now]) underlying26 type26 rfl rfl (hm.boxCells (n := 4) rfl)) (Wd_some rfl rfl rfl (bw (nt g101) rfl)) ?_
        refine qo 39 13 16383 rfl ?_
        refine WM_callV (cl_fn cb11 rfl) (fun W hm => impl_IsStore_c W _ G74.1 (tyStore_mk (x := G74.1) (hm.rdSI (n := 5) rfl)) (by first | exact hxs | exact hys)) (Wd_some rfl rfl rfl (bw (nt g101) rfl)) (by decide) ?_
        refine qn (fun W hm => hm) ?_
        refine qtg 39 14 32767 rfl vmv (Wd_some rfl rfl rfl (bw (nt g101) rfl)) ?_
        rcases Bool.eq_false_or_eq_true (impl_IsStore_m G74.1) with g103 | g103
        ·
         refine qtg 39 15 65535 rfl (fun W hm => rv_loadN (cs := [.slice A76 G74.1.Segments.length c77, .int .i64 G74.1.Now]) underlying26 type26 rfl rfl (hm.boxCells (n := 4) rfl)) (Wd_some rfl rfl rfl (bw g103 rfl)) ?_
         refine qtg 39 17 196607 rfl vmv (Wd_some rfl rfl rfl (bw g103 rfl)) ?_
         refine qo 39 16 262143 rfl ?_
         refine WM_call (χ := Value) (val := fun x => x) (js := fun x => [iOwn (tSl tyRow 29) [x] (impl_RowsAt_m G74.1 0)]) (cl_fn cb14 rfl) (fun W hm => impl_RowsAt_c W _ G74.1 0 (tyStore_mk (x := G74.1) (hm.rdSI (n := 5) rfl)) (by first | exact hxs | exact hys)) (Wd_some rfl rfl rfl (bw g103 rfl)) (by decide) (fun z104 => ?_)
         refine WM_form (n := 0) rfl ?_
         rintro A105 c106 rfl m107
         refine qn (pk [1, 2, 3, 4, 5, 6, 7]) ?_
         refine qo 39 18 524287 rfl ?_
         refine WM_callV (cl_fn cb13 rfl) (fun W hm => spec_EqualRows_c W _ (impl_RowsAt_m G74.1 0) _ ((spec_DrawNewStore_m x0).1) (hm.rdSI (n := 0) rfl) (hm.rdSI (n := 7) rfl)) (Wd_some rfl rfl rfl (bw g103 rfl)) (by decide) ?_
         refine qn (pk [1, 2, 3, 4, 5, 6, 7]) ?_
         refine qtg 39 19 1048575 rfl (vpT g103) (Wd_some rfl rfl rfl (bw (nt g101) rfl)) ?_
         refine qtg 39 20 2097151 rfl vmv (Wd_some rfl rfl rfl (bw (nt g101) rfl)) ?_
         rcases Bool.eq_false_or_eq_true (spec_EqualRows_m (impl_RowsAt_m G74.1 0) ((spec_DrawNewStore_m x0).1)) with g110 | g110
         ·
          refine qtg 39 21 4194303 rfl (fun W hm => rv_loadN (cs := [.slice A76 G74.1.Segments.length c77, .int .i64 G74.1.Now]) underlying26 type26 rfl rfl (hm.boxCells (n := 4) rfl)) (Wd_some rfl rfl rfl (bw g110 rfl)) ?_
          refine qtg 39 23 12582911 rfl vmv (Wd_some rfl rfl rfl (bw g110 rfl)) ?_
          refine qtg 39 24 29360127 rfl (vlen underlying39) (Wd_some rfl rfl rfl (bw g110 rfl)) ?_
          refine qo 39 22 33554431 rfl ?_
          refine WM_callV (cl_fn cb25 rfl) (fun W hm => impl_CountVersions_c W _ G74.1 (tyStore_mk (x := G74.1) (hm.rdSI (n := 6) rfl))) (Wd_some rfl rfl rfl (bw g110 rfl)) (by decide) ?_
          refine qn (pk [1, 2, 3, 4, 5, 6, 7]) ?_
          refine qtg 39 25 67108863 rfl (fun W hm => rv_eql rfl rfl) (Wd_some rfl rfl rfl (bw g110 rfl)) ?_
          refine qtg 39 26 134217727 rfl (vpT g110) (Wd_some rfl rfl rfl (bw (nt g101) rfl)) ?_
          refine qtg 39 27 268435455 rfl (vpF (nt g101)) (Wd_some rfl rfl rfl (bw g99 rfl)) ?_
          refine qt 39 28 536870911 rfl (vpT g99) ?_
          refine qt 39 29 1073741823 rfl vmv ?_
          by_cases h111 : (impl_CountVersions_m G74.1) = ((((spec_DrawNewStore_m x0).1).length : Nat) : Int)
          ·have g112 := beq_iff_eq.2 h111
           refine qtg 39 30 2147483647 rfl (fun W hm => rv_loadN (cs := K5) underlying51 type51 rfl rfl (hm.boxCells (n := 0) rfl)) (Wd_some rfl rfl rfl (bw g112 rfl)) ?_
           refine qtg 39 31 4294967295 rfl vmv (Wd_some rfl rfl rfl (bw g112 rfl)) ?_
           refine qtg 39 33 12884901887 rfl (fun W hm => rv_loadN (cs := K5) underlying51 type51 rfl rfl (hm.boxCells (n := 0) rfl)) (Wd_some rfl rfl rfl (bw g112 rfl)) ?_
           refine qtg 39 34 30064771071 rfl vmv (Wd_some rfl rfl rfl (bw g112 rfl)) ?_
           refine qo 39 32 34359738367 rfl ?_
           refine WM_callV (cl_fn cb26 rfl) (fun W hm => impl_IsVisible_c W _ ((spec_DrawIsVisible_m x0).1) ((spec_DrawIsVisible_m x0).2) (tyVersion_mk (x := ((spec_DrawIsVisible_m x0).1)) (hm.rdSI (n := 2) rfl))) (Wd_some rfl rfl rfl (bw g112 rfl)) (by decide) ?_
           refine qn (pk [1, 2, 3, 4, 5, 6, 7]) ?_
           refine qo 39 35 68719476735 rfl ?_
           refine WM_callV (cl_fn cb27 rfl) (fun W hm => spec_IsVisible_c W _ ((spec_DrawIsVisible_m x0).1) ((spec_DrawIsVisible_m x0).2) (tyVersion_mk (x := ((spec_DrawIsVisible_m x0).1)) (hm.rdSI (n := 2) rfl))) (Wd_some rfl rfl rfl (bw g112 rfl)) (by decide) ?_
           refine qn (pk [1, 2, 3, 4, 5, 6, 7]) ?_
           refine qtg 39 36 137438953471 rfl (fun W hm => rv_eqlB underlying4 rfl rfl) (Wd_some rfl rfl rfl (bw g112 rfl)) ?_
           refine qt 39 37 274877906943 rfl (vpT g112) ?_
           refine qt 39 38 549755813887 rfl (fun W hm => rv_assign rfl) ?_
           refine QB_done (by kernel_rfl) ?_
           refine QM_then (CM_ret ?_)
           exact rtb (h := by subst hG42 hG48 hG61 hG74 hG82; exact cond_f g7 (fin_inr hE40 (cond_t g54 (cond_t g67 (cond_t g97 (cond_t g99 (cond_t g101 (cond_t g103 (cond_t g110 (cond_t g112 (rfl)))))))))))
          ·have g112 := beq_eq_false_iff_ne.2 h111
           refine qk 39 30 2147483647 rfl (Wd_some rfl rfl rfl (bw g112 rfl)) ?_
           refine qk 39 31 4294967295 rfl (Wd_some rfl rfl rfl (bw g112 rfl)) ?_
           refine qk 39 32 8589934591 rfl (Wd_some rfl rfl rfl (bw g112 rfl)) ?_
           refine qk 39 33 17179869183 rfl (Wd_some rfl rfl rfl (bw g112 rfl)) ?_
           refine qk 39 34 34359738367 rfl (Wd_some rfl rfl rfl (bw g112 rfl)) ?_
           refine qk 39 35 68719476735 rfl (Wd_some rfl rfl rfl (bw g112 rfl)) ?_
           refine qk 39 36 137438953471 rfl (Wd_some rfl rfl rfl (bw g112 rfl)) ?_
           refine qt 39 37 274877906943 rfl (vpF g112) ?_
           refine qt 39 38 549755813887 rfl (fun W hm => rv_assign rfl) ?_
           refine QB_done (by kernel_rfl) ?_
           refine QM_then (CM_ret ?_)
           exact rtb (h := by subst hG42 hG48 hG61 hG74 hG82; exact cond_f g7 (fin_inr hE40 (cond_t g54 (cond_t g67 (cond_t g97 (cond_t g99 (cond_t g101 (cond_t g103 (cond_t g110 (cond_f g112 (rfl)))))))))))
         ·
          refine qk 39 21 4194303 rfl (Wd_some rfl rfl rfl (bw g110 rfl)) ?_
          refine qk 39 22 8388607 rfl (Wd_some rfl rfl rfl (bw g110 rfl)) ?_
          refine qk 39 23 16777215 rfl (Wd_some rfl rfl rfl (bw g110 rfl)) ?_
          refine qk 39 24 33554431 rfl (Wd_some rfl rfl rfl (bw g110 rfl)) ?_
          refine qk 39 25 67108863 rfl (Wd_some rfl rfl rfl (bw g110 rfl)) ?_
          refine qtg 39 26 134217727 rfl (vpF g110) (Wd_some rfl rfl rfl (bw (nt g101) rfl)) ?_
          refine qtg 39 27 268435455 rfl (vpF (nt g101)) (Wd_some rfl rfl rfl (bw g99 rfl)) ?_
          refine qt 39 28 536870911 rfl (vpT g99) ?_
          refine qt 39 29 1073741823 rfl vmv ?_
          refine qk 39 30 2147483647 rfl (Wd_some rfl rfl rfl rfl) ?_
          refine qk 39 31 4294967295 rfl (Wd_some rfl rfl rfl rfl) ?_
          refine qk 39 32 8589934591 rfl (Wd_some rfl rfl rfl rfl) ?_
          refine qk 39 33 17179869183 rfl (Wd_some rfl rfl rfl rfl) ?_
          refine qk 39 34 34359738367 rfl (Wd_some rfl rfl rfl rfl) ?_
          refine qk 39 35 68719476735 rfl (Wd_some rfl rfl rfl rfl) ?_
          refine qk 39 36 137438953471 rfl (Wd_some rfl rfl rfl rfl) ?_
          refine qt 39 37 274877906943 rfl (vpF rfl) ?_
          refine qt 39 38 549755813887 rfl (fun W hm => rv_assign rfl) ?_
          refine QB_done (by kernel_rfl) ?_
          refine QM_then (CM_ret ?_)
          exact rtb (h := by subst hG42 hG48 hG61 hG74 hG82; exact cond_f g7 (fin_inr hE40 (cond_t g54 (cond_t g67 (cond_t g97 (cond_t g99 (cond_t g101 (cond_t g103 (cond_f g110 (rfl))))))))))
        ·
         refine qk 39 15 65535 rfl (Wd_some rfl rfl rfl (bw g103 rfl)) ?_
         refine qk 39 16 131071 rfl (Wd_some rfl rfl rfl (bw g103 rfl)) ?_
         refine qk 39 17 262143 rfl (Wd_some rfl rfl rfl (bw g103 rfl)) ?_
         refine qk 39 18 524287 rfl (Wd_some rfl rfl rfl (bw g103 rfl)) ?_
         refine qtg 39 19 1048575 rfl (vpF g103) (Wd_some rfl rfl rfl (bw (nt g101) rfl)) ?_
         refine qtg 39 20 2097151 rfl vmv (Wd_some rfl rfl rfl (bw (nt g101) rfl)) ?_
         refine qk 39 21 4194303 rfl (Wd_some rfl rfl rfl rfl) ?_
         refine qk 39 22 8388607 rfl (Wd_some rfl rfl rfl rfl) ?_
         refine qk 39 23 16777215 rfl (Wd_some rfl rfl rfl rfl) ?_
         refine qk 39 24 33554431 rfl (Wd_some rfl rfl rfl rfl) ?_
         refine qk 39 25 67108863 rfl (Wd_some rfl rfl rfl rfl) ?_
         refine qtg 39 26 134217727 rfl (vpF rfl) (Wd_some rfl rfl rfl (bw (nt g101) rfl)) ?_
         refine qtg 39 27 268435455 rfl (vpF (nt g101)) (Wd_some rfl rfl rfl (bw g99 rfl)) ?_
         refine qt 39 28 536870911 rfl (vpT g99) ?_
         refine qt 39 29 1073741823 rfl vmv ?_
         refine qk 39 30 2147483647 rfl (Wd_some rfl rfl rfl rfl) ?_
         refine qk 39 31 4294967295 rfl (Wd_some rfl rfl rfl rfl) ?_
         refine qk 39 32 8589934591 rfl (Wd_some rfl rfl rfl rfl) ?_
         refine qk 39 33 17179869183 rfl (Wd_some rfl rfl rfl rfl) ?_
         refine qk 39 34 34359738367 rfl (Wd_some rfl rfl rfl rfl) ?_
         refine qk 39 35 68719476735 rfl (Wd_some rfl rfl rfl rfl) ?_
         refine qk 39 36 137438953471 rfl (Wd_some rfl rfl rfl rfl) ?_
         refine qt 39 37 274877906943 rfl (vpF rfl) ?_
         refine qt 39 38 549755813887 rfl (fun W hm => rv_assign rfl) ?_
         refine QB_done (by kernel_rfl) ?_
         refine QM_then (CM_ret ?_)
         exact rtb (h := by subst hG42 hG48 hG61 hG74 hG82; exact cond_f g7 (fin_inr hE40 (cond_t g54 (cond_t g67 (cond_t g97 (cond_t g99 (cond_t g101 (cond_f g103 (rfl)))))))))
       ·
        refine qk 39 12 8191 rfl (Wd_some rfl rfl rfl (bw (nf g101) rfl)) ?_
        refine qk 39 13 16383 rfl (Wd_some rfl rfl rfl (bw (nf g101) rfl)) ?_
        refine qk 39 14 32767 rfl (Wd_some rfl rfl rfl (bw (nf g101) rfl)) ?_
        refine qk 39 15 65535 rfl (Wd_undef rfl rfl rfl) ?_
        refine qk 39 16 131071 rfl (Wd_undef rfl rfl rfl) ?_
        refine qk 39 17 262143 rfl (Wd_undef rfl rfl rfl) ?_
        refine qk 39 18 524287 rfl (Wd_undef rfl rfl rfl) ?_
        refine qk 39 19 1048575 rfl (Wd_some rfl rfl rfl (bw (nf g101) rfl)) ?_
        refine qk 39 20 2097151 rfl (Wd_some rfl rfl rfl (bw (nf g101) rfl)) ?_
        refine qk 39 21 4194303 rfl (Wd_undef rfl rfl rfl) ?_
        refine qk 39 22 8388607 rfl (Wd_undef rfl rfl rfl) ?_
        refine qk 39 23 16777215 rfl (Wd_undef rfl rfl rfl) ?_
        refine qk 39 24 33554431 rfl (Wd_undef rfl rfl rfl) ?_
        refine qk 39 25 67108863 rfl (Wd_undef rfl rfl rfl) ?_
        refine qk 39 26 134217727 rfl (Wd_some rfl rfl rfl (bw (nf g101) rfl)) ?_
        refine qtg 39 27 268435455 rfl (vpT (nf g101)) (Wd_some rfl rfl rfl (bw g99 rfl)) ?_
        refine qt 39 28 536870911 rfl (vpT g99) ?_
        refine qt 39 29 1073741823 rfl vmv ?_
        refine qtg 39 30 2147483647 rfl (fun W hm => rv_loadN (cs := K5) underlying51 type51 rfl rfl (hm.boxCells (n := 0) rfl)) (Wd_some rfl rfl rfl rfl) ?_
        refine qtg 39 31 4294967295 rfl vmv (Wd_some rfl rfl rfl rfl) ?_
        refine qtg 39 33 12884901887 rfl (fun W hm => rv_loadN (cs := K5) underlying51 type51 rfl rfl (hm.boxCells (n := 0) rfl)) (Wd_some rfl rfl rfl rfl) ?_
        refine qtg 39 34 30064771071 rfl vmv (Wd_some rfl rfl rfl rfl) ?_
        refine qo 39 32 34359738367 rfl ?_
        refine WM_callV (cl_fn cb26 rfl) (fun W hm => impl_IsVisible_c W _ ((spec_DrawIsVisible_m x0).1) ((spec_DrawIsVisible_m x0).2) (tyVersion_mk (x := ((spec_DrawIsVisible_m x0).1)) (hm.rdSI (n := 1) rfl))) (Wd_some rfl rfl rfl rfl) (by decide) ?_
        refine qn (fun W hm => hm) ?_
        refine qo 39 35 68719476735 rfl ?_
        refine WM_callV (cl_fn cb27 rfl) (fun W hm => spec_IsVisible_c W _ ((spec_DrawIsVisible_m x0).1) ((spec_DrawIsVisible_m x0).2) (tyVersion_mk (x := ((spec_DrawIsVisible_m x0).1)) (hm.rdSI (n := 1) rfl))) (Wd_some rfl rfl rfl rfl) (by decide) ?_
        refine qn (fun W hm => hm) ?_
        refine qtg 39 36 137438953471 rfl (fun W hm => rv_eqlB underlying4 rfl rfl) (Wd_some rfl rfl rfl rfl) ?_
        refine qt 39 37 274877906943 rfl (vpT rfl) ?_
        refine qt 39 38 549755813887 rfl (fun W hm => rv_assign rfl) ?_
        refine QB_done (by kernel_rfl) ?_
        refine QM_then (CM_ret ?_)
        exact rtb (h := by subst hG42 hG48 hG61 hG74 hG82; exact cond_f g7 (fin_inr hE40 (cond_t g54 (cond_t g67 (cond_t g97 (cond_t g99 (cond_f g101 (rfl))))))))
      ·
       refine qk 39 9 1023 rfl (Wd_some rfl rfl rfl (bw g99 rfl)) ?_
       refine qk 39 10 2047 rfl (Wd_some rfl rfl rfl (bw g99 rfl)) ?_
       refine qk 39 11 4095 rfl (Wd_some rfl rfl rfl (bw g99 rfl)) ?_
       refine qk 39 12 8191 rfl (Wd_undef rfl rfl rfl) ?_
       refine qk 39 13 16383 rfl (Wd_undef rfl rfl rfl) ?_
       refine qk 39 14 32767 rfl (Wd_undef rfl rfl rfl) ?_
       refine qk 39 15 65535 rfl (Wd_undef rfl rfl rfl) ?_
       refine qk 39 16 131071 rfl (Wd_undef rfl rfl rfl) ?_
       refine qk 39 17 262143 rfl (Wd_undef rfl rfl rfl) ?_
       refine qk 39 18 524287 rfl (Wd_undef rfl rfl rfl) ?_
       refine qk 39 19 1048575 rfl (Wd_undef rfl rfl rfl) ?_
       refine qk 39 20 2097151 rfl (Wd_undef rfl rfl rfl) ?_
       refine qk 39 21 4194303 rfl (Wd_undef rfl rfl rfl) ?_
       refine qk 39 22 8388607 rfl (Wd_undef rfl rfl rfl) ?_
       refine qk 39 23 16777215 rfl (Wd_undef rfl rfl rfl) ?_
       refine qk 39 24 33554431 rfl (Wd_undef rfl rfl rfl) ?_
       refine qk 39 25 67108863 rfl (Wd_undef rfl rfl rfl) ?_
       refine qk 39 26 134217727 rfl (Wd_undef rfl rfl rfl) ?_
       refine qk 39 27 268435455 rfl (Wd_some rfl rfl rfl (bw g99 rfl)) ?_
       refine qt 39 28 536870911 rfl (vpF g99) ?_
       refine qt 39 29 1073741823 rfl vmv ?_
       refine qk 39 30 2147483647 rfl (Wd_some rfl rfl rfl rfl) ?_
       refine qk 39 31 4294967295 rfl (Wd_some rfl rfl rfl rfl) ?_
       refine qk 39 32 8589934591 rfl (Wd_some rfl rfl rfl rfl) ?_
       refine qk 39 33 17179869183 rfl (Wd_some rfl rfl rfl rfl) ?_
       refine qk 39 34 34359738367 rfl (Wd_some rfl rfl rfl rfl) ?_
       refine qk 39 35 68719476735 rfl (Wd_some rfl rfl rfl rfl) ?_
       refine qk 39 36 137438953471 rfl (Wd_some rfl rfl rfl rfl) ?_
       refine qt 39 37 274877906943 rfl (vpF rfl) ?_
       refine qt 39 38 549755813887 rfl (fun W hm => rv_assign rfl) ?_
       refine QB_done (by kernel_rfl) ?_
       refine QM_then (CM_ret ?_)
       exact rtb (h := by subst hG42 hG48 hG61 hG74 hG82; exact cond_f g7 (fin_inr hE40 (cond_t g54 (cond_t g67 (cond_t g97 (cond_f g99 (rfl)))))))
     ·
      refine qk 39 4 31 rfl (Wd_some rfl rfl rfl (bw g97 rfl)) ?_
      refine qk 39 5 63 rfl (Wd_some rfl rfl rfl (bw g97 rfl)) ?_
      refine qk 39 6 127 rfl (Wd_some rfl rfl rfl (bw g97 rfl)) ?_
      refine qt 39 7 255 rfl (vpF g97) ?_
      refine qt 39 8 511 rfl vmv ?_
      refine qk 39 9 1023 rfl (Wd_some rfl rfl rfl rfl) ?_
      refine qk 39 10 2047 rfl (Wd_some rfl rfl rfl rfl) ?_
      refine qk 39 11 4095 rfl (Wd_some rfl rfl rfl rfl) ?_
      refine qk 39 12 8191 rfl (Wd_undef rfl rfl rfl) ?_
      refine qk 39 13 16383 rfl (Wd_undef rfl rfl rfl) ?_
      refine qk 39 14 32767 rfl (Wd_undef rfl rfl rfl) ?_
      refine qk 39 15 65535 rfl (Wd_undef rfl rfl rfl) ?_
      refine qk 39 16 131071 rfl (Wd_undef rfl rfl rfl) ?_
      refine qk 39 17 262143 rfl (Wd_undef rfl rfl rfl) ?_
      refine qk 39 18 524287 rfl (Wd_undef rfl rfl rfl) ?_
      refine qk 39 19 1048575 rfl (Wd_undef rfl rfl rfl) ?_
      refine qk 39 20 2097151 rfl (Wd_undef rfl rfl rfl) ?_
      refine qk 39 21 4194303 rfl (Wd_undef rfl rfl rfl) ?_
      refine qk 39 22 8388607 rfl (Wd_undef rfl rfl rfl) ?_
      refine qk 39 23 16777215 rfl (Wd_undef rfl rfl rfl) ?_
      refine qk 39 24 33554431 rfl (Wd_undef rfl rfl rfl) ?_
      refine qk 39 25 67108863 rfl (Wd_undef rfl rfl rfl) ?_
      refine qk 39 26 134217727 rfl (Wd_undef rfl rfl rfl) ?_
      refine qk 39 27 268435455 rfl (Wd_some rfl rfl rfl rfl) ?_
      refine qt 39 28 536870911 rfl (vpF rfl) ?_
      refine qt 39 29 1073741823 rfl vmv ?_
      refine qk 39 30 2147483647 rfl (Wd_some rfl rfl rfl rfl) ?_
      refine qk 39 31 4294967295 rfl (Wd_some rfl rfl rfl rfl) ?_
      refine qk 39 32 8589934591 rfl (Wd_some rfl rfl rfl rfl) ?_
      refine qk 39 33 17179869183 rfl (Wd_some rfl rfl rfl rfl) ?_
      refine qk 39 34 34359738367 rfl (Wd_some rfl rfl rfl rfl) ?_
      refine qk 39 35 68719476735 rfl (Wd_some rfl rfl rfl rfl) ?_
      refine qk 39 36 137438953471 rfl (Wd_some rfl rfl rfl rfl) ?_
      refine qt 39 37 274877906943 rfl (vpF rfl) ?_
      refine qt 39 38 549755813887 rfl (fun W hm => rv_assign rfl) ?_
      refine QB_done (by kernel_rfl) ?_
      refine QM_then (CM_ret ?_)
      exact rtb (h := by subst hG42 hG48 hG61 hG74 hG82; exact cond_f g7 (fin_inr hE40 (cond_t g54 (cond_t g67 (cond_f g97 (rfl))))))
    ·
     refine CM_condT rfl (nf g67) ?_
     refine CM_seq ?_
     refine CM_items (pk []) ?_
     refine CM_region (wa (nt' (CM_ret (QM_then_ret ?_))))
     exact rtb (h := by subst hG42 hG48 hG61; exact cond_f g7 (fin_inr hE40 (cond_t g54 (cond_f g67 (rfl)))))
   ·
    refine qk 17 9 1023 rfl (Wd_some rfl rfl rfl (bw (nf g54) rfl)) ?_
    refine qk 17 10 2047 rfl (Wd_some rfl rfl rfl (bw (nf g54) rfl)) ?_
    refine qk 17 11 4095 rfl (Wd_some rfl rfl rfl (bw (nf g54) rfl)) ?_
    refine qk 17 12 8191 rfl (Wd_some rfl rfl rfl (bw (nf g54) rfl)) ?_
    refine qk 17 13 16383 rfl (Wd_some rfl rfl rfl (bw (nf g54) rfl)) ?_
    refine qk 17 14 32767 rfl (Wd_some rfl rfl rfl (bw (nf g54) rfl)) ?_
    refine qk 17 15 65535 rfl (Wd_some rfl rfl rfl (bw (nf g54) rfl)) ?_
    refine qt 17 16 131071 rfl (vpT (nf g54)) ?_
    refine QB_done (by kernel_rfl) ?_
    refine QM_then ?_
    refine CM_condT rfl rfl ?_
    refine CM_seq ?_
    refine CM_items (pk []) ?_
    refine CM_region (wa (nt' (CM_ret (QM_then_ret ?_))))
    exact rtb (h := by subst hG42 hG48; exact cond_f g7 (fin_inr hE40 (cond_f g54 (rfl))))

end Go.Proofs.Ytglapeecbnaipaa
