/-
  Contracts of functions, printed by a program of ours.
-/
import Derived.Test.YtmikmbmdibabmaaGreatL9F2
namespace Go.Proofs.YtmikmbmdibabmaaGreat
open Go.RowKit
set_option maxRecDepth 100000
set_option maxHeartbeats 4000000
open _root_.Go.Proofs.Tryz
def okS (now : Int) (seen : List Qn) (v : Qn) : Bool := Qho v now && seen.all fun w => Qkg v w
def Qeu (ok : List Qn → Qn → Bool) : List Qn → List Qn → Bool
  | _, [] => true
  | seen, v :: l => ok seen v && Qeu ok (seen ++ [v]) l
theorem Qte (v : Qn) (now : Int) : Qho v now = (Qgx (⟨v.Id, v.Values⟩ : Qaj) && decide (0 ≤ v.Born ∧ v.Born ≤ now) && (v.Died == (-1) || decide (IntKind.i64.wrap (v.Born + 1) ≤ v.Died ∧ v.Died ≤ now))) := by
  unfold Qho
  rw [Qqo, Qqo]
  cases Qgx (⟨v.Id, v.Values⟩ : Qaj) <;> cases decide (0 ≤ v.Born ∧ v.Born ≤ now) <;> cases v.Died == (-1) <;> rfl
def Qow (ok : List Qn → Qn → Bool) (x : Qx) : Bool := decide (1 ≤ (x.Segments.length : Int) ∧ (x.Segments.length : Int) ≤ 8) && decide (0 ≤ x.Now ∧ x.Now ≤ 100000) && x.Segments.all (fun s => decide (s.length ≤ 4)) && Qeu ok [] x.Segments.flatten
theorem Qzk {α : Type} : ∀ (l : List (List α)) (d : List α), l.foldl (fun d s => d ++ s) d = d ++ l.flatten
  | [], d => by simp
  | s :: l, d => by rw [List.foldl_cons, Qzk l]; simp
theorem Qall (x : Qx) : Qct x = x.Segments.flatten := by
  unfold Qct
  rw [Qmj (xs := x.Segments) (f := fun d s => d ++ s) (b := fun k s => Qwq x k s) (fun j s _ => rfl), Qzk]
  rfl
theorem Qaqy (now : Int) (l : List Qn) (b : Nat → Unit → Bool ⊕ Unit) (hb : ∀ i, i < l.length → b i () = cond (okS now (l.take i) (gt l i)) (.inr ()) (.inl false)) : rng b (l.length - 0) 0 () = cond (Qeu (okS now) [] l) (.inr ()) (.inl false) := by
  have h : ∀ m k, m + k = l.length → rng b m k () = cond (Qeu (okS now) (l.take k) (l.drop k)) (.inr ()) (.inl false) := by
    intro m
    induction m with
    | zero => intro k hk; rw [rng, List.drop_of_length_le (by omega)]; rfl
    | succ m ih =>
      intro k hk
      have hlt : k < l.length := by omega
      rw [rng, hb k hlt, List.drop_eq_getElem_cons hlt, ← Qhk hlt]
      show _ = cond (okS now (l.take k) (gt l k) && Qeu (okS now) (l.take k ++ [gt l k]) (l.drop (k + 1))) _ _
      have ht : l.take k ++ [gt l k] = l.take (k + 1) := by rw [List.take_add_one, List.getElem?_eq_getElem hlt, ← Qhk hlt]; rfl
      rw [ht]
      cases okS now (l.take k) (gt l k) with
      | true => exact ih (k + 1) (by omega)
      | false => rfl
  have := h (l.length - 0) 0 (by omega)
  simpa using this
theorem Qaco (x : Qx) : Qhd x = Qow (okS x.Now) x := by
  unfold Qhd Qow
  rw [Qvy (xs := x.Segments) (r := false) (p := fun s => decide (s.length ≤ 4)) (fun j _ => by
    unfold Qqm
    by_cases h : (gt x.Segments j).length ≤ 4
    · rw [decide_eq_true h, decide_eq_false (show ¬ 4 < ((gt x.Segments j).length : Int) by omega)]; rfl
    rw [decide_eq_false h, decide_eq_true (show 4 < ((gt x.Segments j).length : Int) by omega)]; rfl)]
  rw [Qaqy x.Now (Qct x) _ (fun i hi => by
    show Qsg x i = _
    unfold Qsg okS
    rw [Qaqk (xs := Qct x) (Nat.le_of_lt hi), Qvy (xs := (Qct x).take i) (r := false) (p := fun w => Qkg (gt (Qct x) i) w) (fun k hk => by
      rw [List.length_take] at hk
      rw [Qajn (by omega)]
      rfl)]
    cases Qho (gt (Qct x) i) x.Now <;> cases ((Qct x).take i).all (fun w => Qkg (gt (Qct x) i) w) <;> rfl), Qall, Qqo, Qqo]
  cases decide (1 ≤ (x.Segments.length : Int) ∧ (x.Segments.length : Int) ≤ 8) <;> cases decide (0 ≤ x.Now ∧ x.Now ≤ 100000) <;> cases x.Segments.all (fun s => decide (s.length ≤ 4)) <;> cases Qeu (okS x.Now) [] x.Segments.flatten <;> rfl
theorem Qacm {r : Qaj} (h : Qgx r = true) : r.Values.length = 3 := by
  unfold Qgx at h
  rw [Qnd (p := fun k => Qbt (gt r.Values k) 0 99) (r := false) (fun k _ => by
    unfold Qwe
    cases Qbt (gt r.Values k) 0 99 <;> rfl)] at h
  by_cases h1 : r.Values.length = 3
  · exact h1
  rw [beq_eq_false_iff_ne.2 (show ¬ ((r.Values.length : Nat) : Int) = 3 by omega)] at h
  revert h
  cases (List.range r.Values.length).all (fun k => Qbt (gt r.Values k) 0 99) <;> cases Qbt r.Id 0 999 <;> intro h <;> cases h
theorem Qacc {ok : List Qn → Qn → Bool} : ∀ (l seen : List Qn), Qeu ok seen l = true → ∀ v ∈ l, ∃ s, ok s v = true
  | [], _, _, v, hv => by cases hv
  | x :: l, seen, h, v, hv => by
    have h2 : (ok seen x && Qeu ok (seen ++ [x]) l) = true := h
    rw [Bool.and_eq_true] at h2
    rcases List.mem_cons.1 hv with rfl | hv
    · exact ⟨_, h2.1⟩
    exact Qacc l _ h2.2 v hv
theorem Qwk {x : Qx} (h : Qhd x = true) : (1 ≤ x.Segments.length ∧ x.Segments.length ≤ 8) ∧ (0 ≤ x.Now ∧ x.Now ≤ 100000) ∧ (∀ s ∈ x.Segments, s.length ≤ 4) ∧ ∀ s ∈ x.Segments, ∀ v ∈ s, Qho v x.Now = true := by
  rw [Qaco] at h
  unfold Qow at h
  simp only [Bool.and_eq_true, decide_eq_true_eq, List.all_eq_true] at h
  obtain ⟨⟨⟨h1, h2⟩, h3⟩, h4⟩ := h
  refine ⟨by omega, h2, h3, fun s hs v hv => ?_⟩
  obtain ⟨d, h5⟩ := Qacc _ _ h4 v (List.mem_flatten.2 ⟨s, hs, hv⟩)
  unfold okS at h5
  rw [Bool.and_eq_true] at h5
  exact h5.1
theorem Qacq {v : Qn} {now : Int} (h : Qho v now = true) : v.Values.length = 3 := by
  rw [Qte] at h
  simp only [Bool.and_eq_true] at h
  exact Qacm (r := ⟨v.Id, v.Values⟩) h.1.1
theorem Qacj {x : Qx} (h : Qhd x = true) (id : Int) : (Qw x id).1 < 0 ∨ (0 ≤ (Qw x id).1 ∧ (Qw x id).1.toNat < x.Segments.length ∧ 0 ≤ (Qw x id).2 ∧ (Qw x id).2.toNat < (gt x.Segments (Qw x id).1.toNat).length ∧ (gt (gt x.Segments (Qw x id).1.toNat) (Qw x id).2.toNat).Values.length = 3 ∧ (Qw x id).1 < (x.Segments.length : Int) ∧ (Qw x id).2 < ((gt x.Segments (Qw x id).1.toNat).length : Int)) := by
  have hv := (Qwk h).2.2.2
  have key : (∃ r, rng (R := Int × Int) (fun k (_ : Unit) => Qnm x id k) (x.Segments.length - 0) 0 () = .inl r ∧ (0 ≤ r.1 ∧ r.1.toNat < x.Segments.length ∧ 0 ≤ r.2 ∧ r.2.toNat < (gt x.Segments r.1.toNat).length ∧ (gt (gt x.Segments r.1.toNat) r.2.toNat).Values.length = 3)) ∨ rng (R := Int × Int) (fun k (_ : Unit) => Qnm x id k) (x.Segments.length - 0) 0 () = .inr () := by
    refine Qqh (n := x.Segments.length) (fun j hj => ?_) _ _ (by omega)
    show (∃ r, Qnm x id j = .inl r ∧ _) ∨ Qnm x id j = .inr ()
    unfold Qnm
    have k2 := Qqh (P := fun r : Int × Int => 0 ≤ r.1 ∧ r.1.toNat < x.Segments.length ∧ 0 ≤ r.2 ∧ r.2.toNat < (gt x.Segments r.1.toNat).length ∧ (gt (gt x.Segments r.1.toNat) r.2.toNat).Values.length = 3) (n := (gt x.Segments j).length) (b := fun k (_ : Unit) => Qou x id j k) (fun k hk => by
      show (∃ r, Qou x id j k = .inl r ∧ _) ∨ Qou x id j k = .inr ()
      unfold Qou
      cases (gt (gt x.Segments j) k).Id == id with
      | false => exact .inr rfl
      | true =>
        cases (gt (gt x.Segments j) k).Died == -1 with
        | false => exact .inr rfl
        | true =>
          refine .inl ⟨_, rfl, ?_⟩
          simp only [Int.toNat_natCast]
          exact ⟨by omega, hj, by omega, hk, Qacq (hv _ (Qbh hj) _ (Qbh hk))⟩) _ 0 rfl
    rcases k2 with ⟨r, e1, e2⟩ | e1
    · exact .inl ⟨r, by rw [Nat.sub_zero, e1]; rfl, e2⟩
    exact .inr (by rw [Nat.sub_zero, e1]; rfl)
  unfold Qw
  rcases key with ⟨r, e1, e2⟩ | e1
  · rw [e1]; obtain ⟨q1, q2, q3, q4, q5⟩ := e2; exact .inr ⟨q1, q2, q3, q4, q5, (by show r.1 < _; omega), (by show r.2 < ((gt x.Segments r.1.toNat).length : Int); omega)⟩
  rw [e1]; exact .inl (by decide)
theorem Qacp (x : Qx) : Qbq x < 0 ∨ (0 ≤ Qbq x ∧ (Qbq x).toNat < x.Segments.length ∧ (gt x.Segments (Qbq x).toNat).length < 4) := by
  unfold Qbq
  rcases Qqh (P := fun r : Int => 0 ≤ r ∧ r.toNat < x.Segments.length ∧ (gt x.Segments r.toNat).length < 4) (n := x.Segments.length) (b := fun k (_ : Unit) => Qhp x k) (fun j hj => by
    show (∃ r, Qhp x j = .inl r ∧ _) ∨ Qhp x j = .inr ()
    unfold Qhp
    by_cases h : ((gt x.Segments j).length : Int) < 4
    · rw [decide_eq_true h]
      refine .inl ⟨_, rfl, ?_⟩
      simp only [Int.toNat_natCast]
      omega
    rw [decide_eq_false h]; exact .inr rfl) (x.Segments.length - 0) 0 (by omega) with ⟨r, e1, e2⟩ | e1
  · rw [e1]; exact .inr e2
  rw [e1]; exact .inl (by decide)
theorem Qsj {u : Qci} (h : Qkv u = true) : (u.Kind = 1 ∨ u.Kind = 2 ∨ u.Kind = 3) ∧ (u.Kind = 3 → 0 ≤ u.Field ∧ u.Field ≤ 2) ∧ (u.Kind = 1 → u.Row.Values.length = 3) ∧ (u.Kind ≠ 1 → u.Row.Values.length = 0) := by
  unfold Qkv at h
  by_cases h1 : u.Kind = 1
  · rw [beq_iff_eq.2 h1, cond_true] at h
    cases h2 : Qgx u.Row with
    | true => have := Qacm h2; exact ⟨by omega, by omega, by omega, by omega⟩
    | false => rw [h2] at h; cases h
  rw [beq_eq_false_iff_ne.2 h1, cond_false] at h
  by_cases h0 : ((u.Row.Values.length : Nat) : Int) = 0
  · by_cases h2 : u.Kind = 2
    · exact ⟨by omega, by omega, by omega, by omega⟩
    rw [beq_eq_false_iff_ne.2 h2, cond_false] at h
    by_cases h3 : u.Kind = 3
    · rw [beq_iff_eq.2 h3, cond_true] at h
      cases h4 : Qbt u.Row.Id 0 999 with
      | false => rw [h4] at h; cases h
      | true =>
        rw [h4, cond_true, beq_iff_eq.2 h0, cond_true] at h
        cases h5 : Qbt u.Field 0 2 with
        | false => rw [h5] at h; cases h
        | true => have := Qev h5; exact ⟨by omega, by omega, by omega, by omega⟩
    rw [beq_eq_false_iff_ne.2 h3, cond_false] at h; cases h
  rw [beq_eq_false_iff_ne.2 h0] at h
  revert h
  cases (u.Kind == 2) <;> cases (u.Kind == 3) <;> cases Qbt u.Row.Id 0 999 <;> intro h <;> cases h
abbrev Qdp (x0 : Qx) (x1 : Qci) : (List Qn) :=
 ((gt x0.Segments (((Qw x0 x1.Row.Id).1).toNat)).set (((Qw x0 x1.Row.Id).2).toNat) (⟨(gt (gt x0.Segments (((Qw x0 x1.Row.Id).1).toNat)) (((Qw x0 x1.Row.Id).2).toNat)).Id, (gt (gt x0.Segments (((Qw x0 x1.Row.Id).1).toNat)) (((Qw x0 x1.Row.Id).2).toNat)).Values, (gt (gt x0.Segments (((Qw x0 x1.Row.Id).1).toNat)) (((Qw x0 x1.Row.Id).2).toNat)).Born, (IntKind.i64.wrap (x0.Now + 1))⟩ : Qn))
abbrev Qkt (x0 : Qx) (x1 : Qci) : (List Qn) :=
 ((gt (x0.Segments.set (((Qw x0 x1.Row.Id).1).toNat) (Qdp x0 x1)) ((Qbq x0).toNat)) ++ [(⟨x1.Row.Id, (((gt (gt x0.Segments (((Qw x0 x1.Row.Id).1).toNat)) (((Qw x0 x1.Row.Id).2).toNat)).Values).set (x1.Field.toNat) x1.Value), (IntKind.i64.wrap (x0.Now + 1)), (-1)⟩ : Qn)])
abbrev Qku (x0 : Qx) (x1 : Qci) : (List Qn) :=
 ((gt (x0.Segments.set (((Qw x0 x1.Row.Id).1).toNat) (Qdp x0 x1)) ((Qbq x0).toNat)) ++ [(⟨x1.Row.Id, (gt (gt x0.Segments (((Qw x0 x1.Row.Id).1).toNat)) (((Qw x0 x1.Row.Id).2).toNat)).Values, (IntKind.i64.wrap (x0.Now + 1)), (-1)⟩ : Qn)])
abbrev Qsc (x0 : Qx) (x1 : Qci) : (List (List Qn)) :=
 (x0.Segments.set ((Qbq x0).toNat) ((gt x0.Segments ((Qbq x0).toNat)) ++ [(⟨x1.Row.Id, (x1.Row.Values.set (x1.Field.toNat) x1.Value), (IntKind.i64.wrap (x0.Now + 1)), (-1)⟩ : Qn)]))
def Qea (x0 : Qx) (x1 : Qci) : (Qx × Bool) :=
 cond (Qhd x0) (cond (Qkv x1) (cond (decide (100000 ≤ x0.Now)) (x0, false) (cond ((x1.Kind == 1) != (decide (((Qw x0 x1.Row.Id).1) < 0))) (x0, false) (cond (x1.Kind != 2) (cond (decide ((Qbq x0) < 0)) (x0, false) (cond (decide (0 ≤ ((Qw x0 x1.Row.Id).1))) (cond (x1.Kind == 3) ((⟨((x0.Segments.set (((Qw x0 x1.Row.Id).1).toNat) (Qdp x0 x1)).set ((Qbq x0).toNat) (Qkt x0 x1)), (IntKind.i64.wrap (x0.Now + 1))⟩ : Qx), true) ((⟨((x0.Segments.set (((Qw x0 x1.Row.Id).1).toNat) (Qdp x0 x1)).set ((Qbq x0).toNat) (Qku x0 x1)), (IntKind.i64.wrap (x0.Now + 1))⟩ : Qx), true)) (cond (x1.Kind == 3) ((⟨(Qsc x0 x1), (IntKind.i64.wrap (x0.Now + 1))⟩ : Qx), true) ((⟨(x0.Segments.set ((Qbq x0).toNat) ((gt x0.Segments ((Qbq x0).toNat)) ++ [(⟨x1.Row.Id, x1.Row.Values, (IntKind.i64.wrap (x0.Now + 1)), (-1)⟩ : Qn)])), (IntKind.i64.wrap (x0.Now + 1))⟩ : Qx), true)))) (cond (decide (0 ≤ ((Qw x0 x1.Row.Id).1))) (cond (x1.Kind == 3) ((⟨(x0.Segments.set (((Qw x0 x1.Row.Id).1).toNat) (Qdp x0 x1)), (IntKind.i64.wrap (x0.Now + 1))⟩ : Qx), true) ((⟨(x0.Segments.set (((Qw x0 x1.Row.Id).1).toNat) (Qdp x0 x1)), (IntKind.i64.wrap (x0.Now + 1))⟩ : Qx), true)) (cond (x1.Kind == 3) ((⟨x0.Segments, (IntKind.i64.wrap (x0.Now + 1))⟩ : Qx), true) ((⟨x0.Segments, (IntKind.i64.wrap (x0.Now + 1))⟩ : Qx), true)))))) (x0, false)) (x0, false)
theorem Qafz : Cb Tryz.prog 134 := ⟨f134, _, func134, rfl, by decide⟩
theorem Qari (w : World) (z0 : List Value) (x0 : Qx) (z1 : List Value) (x1 : Qci) (r_0 : Qcz.rd w w.heap.size z0 x0) (r_1 : Qfi.rd w w.heap.size z1 x1) (s_0 : Qfl 68719476736 x0) (s_1 : Qja 68719476736 x1) :
  Calls Tryz.prog 134 #[.agg z0.toArray, .agg z1.toArray] w fun e w' => ∃ v : List Value, e = .returned (.tuple #[.agg v.toArray, .bool ((Qea x0 x1).2)]) ∧ Mem w.heap.size w [Qd Qcz v (Qea x0 x1).1] w' := by
 obtain ⟨v1, rfl, r2⟩ := Qgy r_0
 obtain ⟨m3, A4, c5, rfl, q6, r7⟩ := Qk r2
 obtain ⟨v8, rfl, r9⟩ := Qmo r_1
 obtain ⟨m10, A11, c12, rfl, q13, r14⟩ := Qk r9
 have l15 : x0.Segments.length ≤ 68719476736 := s_0.1
 have l16 : x1.Row.Values.length ≤ 68719476736 := s_1
 refine ce2 (L := [(0, .agg #[.slice A4 x0.Segments.length c5, .int .i64 x0.Now]), (1, .agg #[.int .i64 x1.Kind, .int .i64 x1.Row.Id, .slice A11 x1.Row.Values.length c12, .int .i64 x1.Field, .int .i64 x1.Value])]) (N := 118) func134 ?_
 refine sr ?_
 refine Qbj rfl (Qo rfl) (by decide) (fun p17 => ?_)
 refine Qbj rfl (Qo rfl) (by decide) (fun p18 => ?_)
 refine Qbo Qae rfl (Qo rfl) (by decide) (fun p19 => ?_)
 refine wa (nt' (sr ?_))
 refine wv (fun W hm => Qz (cs := [.slice A4 x0.Segments.length c5, .int .i64 x0.Now]) Qaf Qae rfl rfl (hm.boxCells (n := 2) rfl)) ?_
 refine wcs Qcz x0 (Qr Qms rfl) (fun W hm => Qnl W _ x0 (Qeg (x := x0) (hm.rdS0 r7)) s_0) (fun z20 => ?_)
 refine Qgd ?_
 rintro v21 rfl
 refine Qs (n := 0) rfl ?_
 rintro A22 c23 rfl m24
 refine Qbo Qae rfl (Qo rfl) (by decide) (fun p26 => ?_)
 let K1 : List Value := [.int .i64 x1.Kind, .int .i64 x1.Row.Id, .slice A11 x1.Row.Values.length c12, .int .i64 x1.Field, .int .i64 x1.Value]
 let I31 : It := Qd (tSl (tSl Qm 191) 131) [.slice A22 x0.Segments.length c23] x0.Segments
 let I32 : It := Qa p17 42 [.slice A4 x0.Segments.length c5, .int .i64 x0.Now]
 refine sb 0 [.slice A22 x0.Segments.length c23, .int .i64 x0.Now] [I31, Qa p19 42 [.slice none 0 0, .int .i64 0], Qa p18 75 K1, I32] (fun W hm => hm) Qae ?_
 refine nt' (Qf (sr ?_))
 refine wv (fun W hm => Qz (cs := [.slice A4 x0.Segments.length c5, .int .i64 x0.Now]) Qaf Qae rfl rfl (hm.boxCells (n := 4) rfl)) ?_
 refine wcv (Qr Qtj rfl) (fun W hm => Qwg W _ x0 (Qeg (x := x0) (hm.rdS0 r7)) s_0) ?_
 refine wv Qbr ?_
 refine wm ?_
 rcases Bool.eq_false_or_eq_true (Qhd x0) with g28 | g28
 ·
  have hst := g28
  refine wg (fun W hm => Qz (cs := K1) Qbs type75 rfl rfl (hm.boxCells (n := 3) rfl)) (nt g28) ?_
  refine Qdm (Qr Qahm rfl) (fun W hm => Qarq W _ x1 (Qhs (x := x1) (hm.rdS0 r14))) (Qcq rfl rfl rfl (bw (nt g28) rfl)) (by decide) ?_
  refine wg Qbr (nt g28) ?_
  refine wv (vpF (nt g28)) ?_
  refine wm ?_
  rcases Bool.eq_false_or_eq_true (Qkv x1) with g30 | g30
  ·
   obtain ⟨hu1, hu2, hu3, hu4⟩ := Qsj g30
   refine wg (vf Qaf rfl Qh) (nt g30) ?_
   refine wg (vl 4 1 Qt) (nt g30) ?_
   refine wg (fun W hm => Qii rfl rfl) (nt g30) ?_
   refine wv (vpF (nt g30)) ?_
   refine nt' ?_
   by_cases h31 : 100000 ≤ x0.Now
   ·have g32 := decide_eq_true h31
    refine Ql rfl g32 ?_
    refine sr ?_
    refine wv (fun W hm => Qz (cs := [.slice A22 x0.Segments.length c23, .int .i64 x0.Now]) Qaf Qae rfl rfl (hm.boxCells (n := 0) rfl)) ?_
    refine sb 0 [.slice A22 x0.Segments.length c23, .int .i64 x0.Now] [Qa p26 42 [.slice A22 x0.Segments.length c23, .int .i64 x0.Now], I31, Qa p18 75 K1, I32] (pk [2, 0, 1, 3, 4]) Qae ?_
    refine wa (nt' (Qj (Qe ?_)))
    have he33 := (show Qea x0 x1 = (x0, false) from Qb g28 (Qb g30 (Qb g32 (rfl))))
    refine Qdx rfl (Qcp (n := 0) rfl rfl Qaf Qae rfl) (Qcv rfl) (fun W hm => ⟨[.slice A22 x0.Segments.length c23, .int .i64 x0.Now], ?_, ?_⟩)
    ·first | rw [he33] | rfl
     try rfl
    rw [he33]; exact Mem.join (is := [I31]) (js := []) (fun _ _ hs => Qed (x := x0) hs) (hm.pick [2] (by decide))
   have g32 := decide_eq_false h31
   refine Qp rfl g32 ?_
   refine Qq (Qi (sr ?_))
   refine wv (fun W hm => Qz (cs := [.slice A4 x0.Segments.length c5, .int .i64 x0.Now]) Qaf Qae rfl rfl (hm.boxCells (n := 4) rfl)) ?_
   refine wv (vf Qbs rfl Qcc) ?_
   refine wv (fun W hm => Qdy (o := 1) Qde rfl Qh (by decide) rfl rfl) ?_
   refine wv (vl 3 1 Qt) ?_
   refine wcv (Qr Qahn rfl) (fun W hm => Qaso W _ x0 x1.Row.Id (Qeg (x := x0) (hm.rdS0 r7))) ?_
   have hf := Qacj (x := x0) hst x1.Row.Id
   refine wm ?_
   refine wv (fun W hm => Qes rfl rfl) ?_
   refine wv (fun W hm => Qes rfl rfl) ?_
   refine wa (wa (nt' (sr ?_)))
   refine wv (fun W hm => Qz (cs := [.slice A4 x0.Segments.length c5, .int .i64 x0.Now]) Qaf Qae rfl rfl (hm.boxCells (n := 4) rfl)) ?_
   refine wcv (Qr Qaho rfl) (fun W hm => Qasp W _ x0 (Qeg (x := x0) (hm.rdS0 r7))) ?_
   have hr := Qacp x0
   refine wa (nt' (Qf (sr ?_)))
   refine wv (vf Qbs rfl Qh) ?_
   refine wv (vl 3 0 Qt) ?_
   refine wv (fun W hm => Qdj rfl rfl) ?_
   refine wm ?_
   refine wv Qak ?_
   refine wv (fun W hm => Qrz underlying4 rfl rfl) ?_
   refine wm ?_
   rcases Bool.eq_false_or_eq_true ((x1.Kind == 1) != (decide (((Qw x0 x1.Row.Id).1) < 0))) with g35 | g35
   ·
    refine ws g35 ?_
    refine ws g35 ?_
    refine ws g35 ?_
    refine ws g35 ?_
    refine wu ?_
    refine wu ?_
    refine ws g35 ?_
    refine wv (vpT g35) ?_
    refine nt' ?_
    refine Ql rfl rfl ?_
    refine sr ?_
    refine wv (fun W hm => Qz (cs := [.slice A22 x0.Segments.length c23, .int .i64 x0.Now]) Qaf Qae rfl rfl (hm.boxCells (n := 0) rfl)) ?_
    refine sb 0 [.slice A22 x0.Segments.length c23, .int .i64 x0.Now] [Qa p26 42 [.slice A22 x0.Segments.length c23, .int .i64 x0.Now], I31, Qa p18 75 K1, I32] (pk [2, 0, 1, 3, 4]) Qae ?_
    refine wa (nt' (Qj (Qe ?_)))
    have he36 := (show Qea x0 x1 = (x0, false) from Qb g28 (Qb g30 (Qc g32 (Qb g35 (rfl)))))
    refine Qdx rfl (Qcp (n := 0) rfl rfl Qaf Qae rfl) (Qcv rfl) (fun W hm => ⟨[.slice A22 x0.Segments.length c23, .int .i64 x0.Now], ?_, ?_⟩)
    ·first | rw [he36] | rfl
     try rfl
    rw [he36]; exact Mem.join (is := [I31]) (js := []) (fun _ _ hs => Qed (x := x0) hs) (hm.pick [2] (by decide))
   have hne := Qafn g35
   refine wg (vf Qbs rfl Qh) g35 ?_
   refine wg (vl 3 0 Qt) g35 ?_
   refine wg Qcf g35 ?_
   refine wg vmv g35 ?_
   by_cases h37 : x1.Kind = 2
   ·have g38 : (x1.Kind != 2) = false := by rw [h37]; exact bne_self_eq_false _
    refine ws g38 ?_
    refine ws g38 ?_
    refine wg (vpF g38) g35 ?_
    refine wv (vpF g35) ?_
    refine nt' ?_
    refine Qp rfl rfl ?_
    refine Qq (Qi (sr ?_))
    refine wv (vf Qaf rfl Qh) ?_
    refine wv (vl 4 1 Qt) ?_
    refine wv Qdq ?_
    refine wv (vf Qaf rfl Qh) ?_
    let K2 : List Value := [.slice A22 x0.Segments.length c23, .int .i64 (IntKind.i64.wrap (x0.Now + 1))]
    refine sb 1 K2 [I31, Qa p19 42 [.slice none 0 0, .int .i64 0], Qa p18 75 K1, I32] (fun W hm => hm) Qh ?_
    refine nt' (Qf ?_)
    refine rd2 13 [12] (s := [Qa p26 42 K2, I31, Qa p19 42 [.slice none 0 0, .int .i64 0], Qa p18 75 K1, I32]) (s2 := [Qa p26 42 K2, I31, Qa p19 42 [.slice none 0 0, .int .i64 0], Qa p18 75 K1, I32]) (fun W hm => hm) (fun W hm => hm) ?_
    refine Qlh (σ := Option Addr × Nat × Nat) (fun s => [Qa p26 42 K2, I31, Qa p19 42 [.slice none 0 0, .int .i64 0], Qa p18 75 K1, I32]) 13 4095 1 (fun s => [(3, .pointer (some (⟨p18, 0, none⟩ : Addr))), (4, .pointer (some (⟨p19, 0, none⟩ : Addr))), (6, .pointer (some (⟨p26, 0, none⟩ : Addr))), (7, .int .i64 ((Qw x0 x1.Row.Id).1)), (8, .int .i64 ((Qw x0 x1.Row.Id).2)), (9, .int .i64 (Qbq x0)), (67, .agg #[.int .i64 x1.Row.Id, .slice s.1 x1.Row.Values.length s.2.1, .int .i64 (IntKind.i64.wrap (x0.Now + 1)), .int .i64 (-1)]), (10, .pointer (some (⟨s.2.2, 0, none⟩ : Addr)))]) (fun s => [Qa s.2.2 191 [.int .i64 0, .slice none 0 0, .int .i64 0, .int .i64 0], Qd (tSl Qg 3) [.slice s.1 x1.Row.Values.length s.2.1] x1.Row.Values, Qa p26 42 K2, I31, Qa p19 42 [.slice none 0 0, .int .i64 0], Qa p18 75 K1, I32]) ?_ (fun H => ?_)
    ·
     rintro ⟨A42, c43, p46⟩
     let I33 : It := Qd (tSl Qg 3) [.slice A42 x1.Row.Values.length c43] x1.Row.Values
     show QD _ _ _ _ _ _ _ _ [(3, .pointer (some (⟨p18, 0, none⟩ : Addr))), (4, .pointer (some (⟨p19, 0, none⟩ : Addr))), (6, .pointer (some (⟨p26, 0, none⟩ : Addr))), (7, .int .i64 ((Qw x0 x1.Row.Id).1)), (8, .int .i64 ((Qw x0 x1.Row.Id).2)), (9, .int .i64 (Qbq x0)), (67, .agg #[.int .i64 x1.Row.Id, .slice A42 x1.Row.Values.length c43, .int .i64 (IntKind.i64.wrap (x0.Now + 1)), .int .i64 (-1)]), (10, .pointer (some (⟨p46, 0, none⟩ : Addr)))] _ [Qa p26 42 K2, I31, Qa p19 42 [.slice none 0 0, .int .i64 0], Qa p18 75 K1, I32] _ [Qa p46 191 [.int .i64 0, .slice none 0 0, .int .i64 0, .int .i64 0], I33, Qa p26 42 K2, I31, Qa p19 42 [.slice none 0 0, .int .i64 0], Qa p18 75 K1, I32]
     refine Qej (n := 1) rfl ?_
     intro m47 m48
     refine qoD 13 12 8191 rfl ?_
     let K3 : List Value := [.int .i64 x1.Row.Id, .slice A42 x1.Row.Values.length c43, .int .i64 (IntKind.i64.wrap (x0.Now + 1)), .int .i64 (-1)]
     refine sb 0 K3 [I33, Qa p26 42 K2, I31, Qa p19 42 [.slice none 0 0, .int .i64 0], Qa p18 75 K1, I32] (fun W hm => hm) Qar ?_
     refine qxD (pk [2, 3, 4, 5, 6]) ?_
     refine Qef (by kernel_rfl) ?_
     refine Qi (Qf (sr (wm ?_)))
     refine wv (fun W hm => Qii rfl rfl) ?_
     refine nt' ?_
     by_cases h49 : 0 ≤ ((Qw x0 x1.Row.Id).1)
     ·have g50 := decide_eq_true h49
      refine Ql rfl g50 ?_
      refine sr ?_
      refine Qdb (E := Qg) Qv Qh (Qo rfl) (by decide) (fun p51 => ?_)
      refine wv (vf Qaf rfl Qcu) ?_
      refine wv (vl 3 0 Qas) ?_
      refine wm ?_
      refine Qfj (n := 4) rfl (by omega) ?_
      rintro g53 rfl
      refine wv (fun W hm => Qfg (sz := 1) (k := (Qw x0 x1.Row.Id).1) Qas Qda rfl rfl rfl (by omega) (by omega)) ?_
      let K4 : List Value := [.slice (some ⟨g53, 0, none⟩) x0.Segments.length c23, .int .i64 (IntKind.i64.wrap (x0.Now + 1))]
      refine Qgk (E := (tSl Qm 191)) (e := 131) (A := (some ⟨g53, 0, none⟩)) (n := x0.Segments.length) (c := c23) (xs := x0.Segments) (k := (((Qw x0 x1.Row.Id).1).toNat)) (js := [Qd (tSl Qg 3) [.slice (some ⟨p51, 0, none⟩) 0 0] [], Qa p46 191 K3, I33, Qa p26 42 K4, Qa p19 42 [.slice none 0 0, .int .i64 0], Qa p18 75 K1, I32]) (by omega) (pk [4, 0, 1, 2, 3, 5, 6, 7]) (fun ck54 => ?_)
      refine Qgp (γ := Value) (js := fun g => [Qd (tSl Qm 191) [g] (gt x0.Segments (((Qw x0 x1.Row.Id).1).toNat))]) (C := fun g => ck54 = [g]) (fun _ _ h => Qhy h) ?_
      rintro v55 rfl
      refine Qs (n := 0) rfl ?_
      rintro A56 c57 rfl m58
      refine wv (fun W hm => Qaw Qav rfl rfl (hm.focInt (i := 1) rfl rfl)) ?_
      refine wm ?_
      refine Qfj (n := 0) rfl (by omega) ?_
      rintro g60 rfl
      refine wv (fun W hm => Qfg (sz := 4) (k := (Qw x0 x1.Row.Id).2) Qav Qar rfl rfl rfl (by omega) (by omega)) ?_
      refine wv (vf Qbe rfl Qap) ?_
      let K5 : List Value := [.slice (some ⟨g60, 0, none⟩) (gt x0.Segments (((Qw x0 x1.Row.Id).1).toNat)).length c57]
      refine Qgk (E := Qm) (e := 191) (A := (some ⟨g60, 0, none⟩)) (n := (gt x0.Segments (((Qw x0 x1.Row.Id).1).toNat)).length) (c := c57) (xs := (gt x0.Segments (((Qw x0 x1.Row.Id).1).toNat))) (k := (((Qw x0 x1.Row.Id).2).toNat)) (js := [Qao (tSl Qm 191) 131 (some ⟨g53, 0, none⟩) x0.Segments.length c23 x0.Segments (((Qw x0 x1.Row.Id).1).toNat) K5, Qd (tSl Qg 3) [.slice (some ⟨p51, 0, none⟩) 0 0] [], Qa p46 191 K3, I33, Qa p26 42 K4, Qa p19 42 [.slice none 0 0, .int .i64 0], Qa p18 75 K1, I32]) (by omega) (fun W hm => hm) (fun ck61 => ?_)
      refine Qmp ?_
      rintro v62 rfl
      refine Qs (n := 0) rfl ?_
      rintro A63 c64 rfl m65
      refine wv (fun W hm => Qaw Qv rfl rfl (hm.focCells (i := 1) rfl rfl 1 _ rfl)) ?_
      let K6 : List Value := [.slice A63 ((gt (gt x0.Segments (((Qw x0 x1.Row.Id).1).toNat)) (((Qw x0 x1.Row.Id).2).toNat)).Values).length c64]
      let K7 : List Value := [.int .i64 ((gt (gt x0.Segments (((Qw x0 x1.Row.Id).1).toNat)) (((Qw x0 x1.Row.Id).2).toNat)).Id), .slice A63 ((gt (gt x0.Segments (((Qw x0 x1.Row.Id).1).toNat)) (((Qw x0 x1.Row.Id).2).toNat)).Values).length c64, .int .i64 ((gt (gt x0.Segments (((Qw x0 x1.Row.Id).1).toNat)) (((Qw x0 x1.Row.Id).2).toNat)).Born), .int .i64 ((gt (gt x0.Segments (((Qw x0 x1.Row.Id).1).toNat)) (((Qw x0 x1.Row.Id).2).toNat)).Died)]
      let I34 : It := Qd (tSl Qg 3) K6 ((gt (gt x0.Segments (((Qw x0 x1.Row.Id).1).toNat)) (((Qw x0 x1.Row.Id).2).toNat)).Values)
      refine apR Qg Qg 3 (.slice (some ⟨p51, 0, none⟩) 0 0) [] ((gt (gt x0.Segments (((Qw x0 x1.Row.Id).1).toNat)) (((Qw x0 x1.Row.Id).2).toNat)).Values) [I34, Qao Qm 191 (some ⟨g60, 0, none⟩) ((gt x0.Segments (((Qw x0 x1.Row.Id).1).toNat)).length) c57 (gt x0.Segments (((Qw x0 x1.Row.Id).1).toNat)) (((Qw x0 x1.Row.Id).2).toNat) K7, Qao (tSl Qm 191) 131 (some ⟨g53, 0, none⟩) x0.Segments.length c23 x0.Segments (((Qw x0 x1.Row.Id).1).toNat) K5, Qa p46 191 K3, I33, Qa p26 42 K4, Qa p19 42 [.slice none 0 0, .int .i64 0], Qa p18 75 K1, I32] (pk [3, 0, 1, 2, 4, 5, 6, 7, 8, 9]) (fun W hm => Qdk Qcw (hm.rdSI (n := 0) rfl)) Qv Qh (show (0 + ((gt (gt x0.Segments (((Qw x0 x1.Row.Id).1).toNat)) (((Qw x0 x1.Row.Id).2).toNat)).Values).length) * 8 ≤ 140737488355328 from by omega) (fun v67 => ?_)
      refine Qs (n := 0) rfl ?_
      rintro A68 c69 rfl m70
      refine wv (vf Qbe rfl Qap) ?_
      let K8 : List Value := [.int .i64 x1.Row.Id, .slice A68 ((gt (gt x0.Segments (((Qw x0 x1.Row.Id).1).toNat)) (((Qw x0 x1.Row.Id).2).toNat)).Values).length c69, .int .i64 (IntKind.i64.wrap (x0.Now + 1)), .int .i64 (-1)]
      let K9 : List Value := [.slice A68 ((gt (gt x0.Segments (((Qw x0 x1.Row.Id).1).toNat)) (((Qw x0 x1.Row.Id).2).toNat)).Values).length c69]
      let I35 : It := Qd (tSl Qg 3) K9 ((gt (gt x0.Segments (((Qw x0 x1.Row.Id).1).toNat)) (((Qw x0 x1.Row.Id).2).toNat)).Values)
      refine sb 1 K8 [I35, I34, Qao Qm 191 (some ⟨g60, 0, none⟩) ((gt x0.Segments (((Qw x0 x1.Row.Id).1).toNat)).length) c57 (gt x0.Segments (((Qw x0 x1.Row.Id).1).toNat)) (((Qw x0 x1.Row.Id).2).toNat) K7, Qao (tSl Qm 191) 131 (some ⟨g53, 0, none⟩) x0.Segments.length c23 x0.Segments (((Qw x0 x1.Row.Id).1).toNat) K5, I33, Qa p26 42 K4, Qa p19 42 [.slice none 0 0, .int .i64 0], Qa p18 75 K1, I32] (pk [4, 0, 1, 2, 3, 5, 6, 7, 8, 9]) Qap ?_
      refine nt' ?_
      refine rb 11 (s := [Qa p46 191 K8, I35, I34, Qao (tSl Qm 191) 131 (some ⟨g53, 0, none⟩) x0.Segments.length c23 x0.Segments (((Qw x0 x1.Row.Id).1).toNat) K5, I33, Qa p26 42 K4, Qa p19 42 [.slice none 0 0, .int .i64 0], Qa p18 75 K1, I32]) (pk [0, 1, 2, 4, 5, 6, 7, 8, 9]) ?_
      refine qt 11 0 1 rfl (vf Qaf rfl Qcu) ?_
      refine qt 11 1 3 rfl (vl 5 0 Qas) ?_
      refine qt 11 2 7 rfl vmv ?_
      refine qt 11 3 15 rfl (fun W hm => Qfg (sz := 1) (k := (Qw x0 x1.Row.Id).1) Qas Qda rfl rfl rfl (by omega) (by omega)) ?_
      refine qt 11 4 31 rfl (fun W hm => Qaw Qav rfl rfl (hm.focInt (i := 3) rfl rfl)) ?_
      refine qt 11 5 63 rfl vmv ?_
      refine qt 11 6 127 rfl (vf Qaf rfl Qh) ?_
      refine qt 11 7 255 rfl (vl 5 1 Qt) ?_
      refine qt 11 8 511 rfl (fun W hm => Qfg (sz := 4) (k := (Qw x0 x1.Row.Id).2) Qav Qar rfl rfl rfl (by omega) (by omega)) ?_
      refine qt 11 9 1023 rfl (vf Qbe rfl Qh) ?_
      refine qo 11 10 2047 rfl ?_
      let K10 : List Value := [.int .i64 ((gt (gt x0.Segments (((Qw x0 x1.Row.Id).1).toNat)) (((Qw x0 x1.Row.Id).2).toNat)).Id), .slice A63 ((gt (gt x0.Segments (((Qw x0 x1.Row.Id).1).toNat)) (((Qw x0 x1.Row.Id).2).toNat)).Values).length c64, .int .i64 ((gt (gt x0.Segments (((Qw x0 x1.Row.Id).1).toNat)) (((Qw x0 x1.Row.Id).2).toNat)).Born), .int .i64 (IntKind.i64.wrap (x0.Now + 1))]
      refine sf 3 4 K10 [Qa p46 191 K8, I35, I34, Qao (tSl Qm 191) 131 (some ⟨g53, 0, none⟩) x0.Segments.length c23 x0.Segments (((Qw x0 x1.Row.Id).1).toNat) K5, I33, Qa p26 42 K4, Qa p19 42 [.slice none 0 0, .int .i64 0], Qa p18 75 K1, I32] (pk [3, 0, 1, 2, 4, 5, 6, 7, 8, 9]) Qh ?_
      refine qn (pk [1, 2, 3, 4, 5, 6, 7, 8, 9]) ?_
      refine Qef (by kernel_rfl) ?_
      refine Qi (Qf (sr ?_))
      refine wv (vf Qbs rfl Qh) ?_
      refine wv (vl 8 0 Qt) ?_
      refine wv (fun W hm => Qdj rfl rfl) ?_
      refine nt' ?_
      by_cases h72 : x1.Kind = 3
      ·have g73 := beq_iff_eq.2 h72
       refine Ql rfl g73 ?_
       refine Qad ?_
       refine wv (vf Qbe rfl Qap) ?_
       refine wv (vl 1 1 Qv) ?_
       refine wv (vf Qbs rfl Qh) ?_
       refine wv (vl 8 3 Qt) ?_
       refine wv (vf Qbs rfl Qh) ?_
       refine wv (vl 8 4 Qt) ?_
       refine Qfj (n := 2) rfl (by omega) ?_
       rintro g74 rfl
       refine wv (fun W hm => Qfg (sz := 1) (k := x1.Field) Qv Qh rfl rfl rfl (by omega) (by omega)) ?_
       refine Qhh (E := Qg) (e := 3) (u := .int .i64 x1.Value) (k := (x1.Field.toNat)) (p := g74) (n := ((gt (gt x0.Segments (((Qw x0 x1.Row.Id).1).toNat)) (((Qw x0 x1.Row.Id).2).toNat)).Values).length) (xs := (gt (gt x0.Segments (((Qw x0 x1.Row.Id).1).toNat)) (((Qw x0 x1.Row.Id).2).toNat)).Values) (eis := []) (js := [Qao Qm 191 (some ⟨g60, 0, none⟩) ((gt x0.Segments (((Qw x0 x1.Row.Id).1).toNat)).length) c57 (gt x0.Segments (((Qw x0 x1.Row.Id).1).toNat)) (((Qw x0 x1.Row.Id).2).toNat) K10, Qa p46 191 [.int .i64 x1.Row.Id, .slice (some ⟨g74, 0, none⟩) ((gt (gt x0.Segments (((Qw x0 x1.Row.Id).1).toNat)) (((Qw x0 x1.Row.Id).2).toNat)).Values).length c69, .int .i64 (IntKind.i64.wrap (x0.Now + 1)), .int .i64 (-1)], I34, Qao (tSl Qm 191) 131 (some ⟨g53, 0, none⟩) x0.Segments.length c23 x0.Segments (((Qw x0 x1.Row.Id).1).toNat) K5, I33, Qa p26 42 K4, Qa p19 42 [.slice none 0 0, .int .i64 0], Qa p18 75 K1, I32]) (yv := x1.Value) (pk [2, 0, 1, 3, 4, 5, 6, 7, 8, 9]) (fun _ _ hs => (Sep.nil hs ▸ Qcy)) rfl Qh rfl (by omega) rfl rfl (Qo rfl) ?_
       refine nt' (Qf (sr ?_))
       refine wv (vf Qbs rfl Qh) ?_
       refine wv (vl 8 0 Qt) ?_
       refine wv Qcf ?_
       refine nt' ?_
       refine Qp rfl g38 ?_
       refine Qq (Qi (Qf ?_))
       refine Qdf (pk [1, 3, 4, 6, 7]) ?_
       refine Qad ?_
       refine wv (fun W hm => Qz (cs := K4) Qaf Qae rfl rfl (hm.boxCells (n := 3) rfl)) ?_
       refine sb 0 K4 [Qao Qm 191 (some ⟨g60, 0, none⟩) ((gt x0.Segments (((Qw x0 x1.Row.Id).1).toNat)).length) c57 (gt x0.Segments (((Qw x0 x1.Row.Id).1).toNat)) (((Qw x0 x1.Row.Id).2).toNat) K10, I34, Qao (tSl Qm 191) 131 (some ⟨g53, 0, none⟩) x0.Segments.length c23 x0.Segments (((Qw x0 x1.Row.Id).1).toNat) K5, Qa p26 42 K4] (pk [4, 0, 1, 2, 3]) Qae ?_
       refine wa (nt' (Qj ?_))
       refine Qdu (fun W hm => Mem.unfocus (Mem.join (is := [I34]) (js := (Qao Qm 191 (some ⟨g60, 0, none⟩) ((gt x0.Segments (((Qw x0 x1.Row.Id).1).toNat)).length) c57 (gt x0.Segments (((Qw x0 x1.Row.Id).1).toNat)) (((Qw x0 x1.Row.Id).2).toNat) K10 :: [Qa p19 42 K4, Qao (tSl Qm 191) 131 (some ⟨g53, 0, none⟩) x0.Segments.length c23 x0.Segments (((Qw x0 x1.Row.Id).1).toNat) K5, Qa p26 42 K4])) (fun _ _ hs => Qfs (x := (⟨(gt (gt x0.Segments (((Qw x0 x1.Row.Id).1).toNat)) (((Qw x0 x1.Row.Id).2).toNat)).Id, (gt (gt x0.Segments (((Qw x0 x1.Row.Id).1).toNat)) (((Qw x0 x1.Row.Id).2).toNat)).Values, (gt (gt x0.Segments (((Qw x0 x1.Row.Id).1).toNat)) (((Qw x0 x1.Row.Id).2).toNat)).Born, (IntKind.i64.wrap (x0.Now + 1))⟩ : Qn)) hs) (hm.pick [2, 1, 0, 3, 4] (by decide)))) ?_
       refine Qdu (fun W hm => Mem.unfocus (Mem.join (is := [Qd (tSl Qm 191) K5 (Qdp x0 x1)]) (js := (Qao (tSl Qm 191) 131 (some ⟨g53, 0, none⟩) x0.Segments.length c23 x0.Segments (((Qw x0 x1.Row.Id).1).toNat) K5 :: [Qa p19 42 K4, Qa p26 42 K4])) (fun _ _ hs => Sep.one hs) (hm.pick [0, 2, 1, 3] (by decide)))) ?_
       have he75 := (show Qea x0 x1 = ((⟨(x0.Segments.set (((Qw x0 x1.Row.Id).1).toNat) (Qdp x0 x1)), (IntKind.i64.wrap (x0.Now + 1))⟩ : Qx), true) from Qb g28 (Qb g30 (Qc g32 (Qc g35 (Qc g38 (Qb g50 (Qb g73 (rfl))))))))
       refine Qdx rfl (Qcp (n := 1) rfl rfl Qaf Qae rfl) (Qcv rfl) (fun W hm => ⟨K4, ?_, ?_⟩)
       ·first | rw [he75] | rfl
        try rfl
       rw [he75]; exact Mem.join (is := [Qd (tSl (tSl Qm 191) 131) [.slice (some ⟨g53, 0, none⟩) x0.Segments.length c23] (x0.Segments.set (((Qw x0 x1.Row.Id).1).toNat) (Qdp x0 x1))]) (js := []) (fun _ _ hs => Qed (x := (⟨(x0.Segments.set (((Qw x0 x1.Row.Id).1).toNat) (Qdp x0 x1)), (IntKind.i64.wrap (x0.Now + 1))⟩ : Qx)) hs) (hm.pick [0] (by decide))
      have g73 := beq_eq_false_iff_ne.2 h72
      refine Qp rfl g73 ?_
      refine Qq (Qi (Qf (sr ?_)))
      refine wv (vf Qbs rfl Qh) ?_
      refine wv (vl 8 0 Qt) ?_
      refine wv Qcf ?_
      refine nt' ?_
      refine Qp rfl g38 ?_
      refine Qq (Qi (Qf ?_))
      refine Qdf (pk [0, 3, 4, 6, 7]) ?_
      refine Qad ?_
      refine wv (fun W hm => Qz (cs := K4) Qaf Qae rfl rfl (hm.boxCells (n := 3) rfl)) ?_
      refine sb 0 K4 [Qao Qm 191 (some ⟨g60, 0, none⟩) ((gt x0.Segments (((Qw x0 x1.Row.Id).1).toNat)).length) c57 (gt x0.Segments (((Qw x0 x1.Row.Id).1).toNat)) (((Qw x0 x1.Row.Id).2).toNat) K10, I34, Qao (tSl Qm 191) 131 (some ⟨g53, 0, none⟩) x0.Segments.length c23 x0.Segments (((Qw x0 x1.Row.Id).1).toNat) K5, Qa p26 42 K4] (pk [4, 0, 1, 2, 3]) Qae ?_
      refine wa (nt' (Qj ?_))
      refine Qdu (fun W hm => Mem.unfocus (Mem.join (is := [I34]) (js := (Qao Qm 191 (some ⟨g60, 0, none⟩) ((gt x0.Segments (((Qw x0 x1.Row.Id).1).toNat)).length) c57 (gt x0.Segments (((Qw x0 x1.Row.Id).1).toNat)) (((Qw x0 x1.Row.Id).2).toNat) K10 :: [Qa p19 42 K4, Qao (tSl Qm 191) 131 (some ⟨g53, 0, none⟩) x0.Segments.length c23 x0.Segments (((Qw x0 x1.Row.Id).1).toNat) K5, Qa p26 42 K4])) (fun _ _ hs => Qfs (x := (⟨(gt (gt x0.Segments (((Qw x0 x1.Row.Id).1).toNat)) (((Qw x0 x1.Row.Id).2).toNat)).Id, (gt (gt x0.Segments (((Qw x0 x1.Row.Id).1).toNat)) (((Qw x0 x1.Row.Id).2).toNat)).Values, (gt (gt x0.Segments (((Qw x0 x1.Row.Id).1).toNat)) (((Qw x0 x1.Row.Id).2).toNat)).Born, (IntKind.i64.wrap (x0.Now + 1))⟩ : Qn)) hs) (hm.pick [2, 1, 0, 3, 4] (by decide)))) ?_
      refine Qdu (fun W hm => Mem.unfocus (Mem.join (is := [Qd (tSl Qm 191) K5 (Qdp x0 x1)]) (js := (Qao (tSl Qm 191) 131 (some ⟨g53, 0, none⟩) x0.Segments.length c23 x0.Segments (((Qw x0 x1.Row.Id).1).toNat) K5 :: [Qa p19 42 K4, Qa p26 42 K4])) (fun _ _ hs => Sep.one hs) (hm.pick [0, 2, 1, 3] (by decide)))) ?_
      have he76 := (show Qea x0 x1 = ((⟨(x0.Segments.set (((Qw x0 x1.Row.Id).1).toNat) (Qdp x0 x1)), (IntKind.i64.wrap (x0.Now + 1))⟩ : Qx), true) from Qb g28 (Qb g30 (Qc g32 (Qc g35 (Qc g38 (Qb g50 (Qc g73 (rfl))))))))
      refine Qdx rfl (Qcp (n := 1) rfl rfl Qaf Qae rfl) (Qcv rfl) (fun W hm => ⟨K4, ?_, ?_⟩)
      ·first | rw [he76] | rfl
       try rfl
      rw [he76]; exact Mem.join (is := [Qd (tSl (tSl Qm 191) 131) [.slice (some ⟨g53, 0, none⟩) x0.Segments.length c23] (x0.Segments.set (((Qw x0 x1.Row.Id).1).toNat) (Qdp x0 x1))]) (js := []) (fun _ _ hs => Qed (x := (⟨(x0.Segments.set (((Qw x0 x1.Row.Id).1).toNat) (Qdp x0 x1)), (IntKind.i64.wrap (x0.Now + 1))⟩ : Qx)) hs) (hm.pick [0] (by decide))
     have g50 := decide_eq_false h49
     refine Qp rfl g50 ?_
     refine Qq (Qi (Qf (sr ?_)))
     refine wv (vf Qbs rfl Qh) ?_
     refine wv (vl 5 0 Qt) ?_
     refine wv (fun W hm => Qdj rfl rfl) ?_
     refine nt' ?_
     by_cases h77 : x1.Kind = 3
     ·have g78 := beq_iff_eq.2 h77
      refine Ql rfl g78 ?_
      refine Qad ?_
      refine wv (vf Qbe rfl Qap) ?_
      refine wv (vl 0 1 Qv) ?_
      refine wv (vf Qbs rfl Qh) ?_
      refine wv (vl 5 3 Qt) ?_
      refine wv (vf Qbs rfl Qh) ?_
      refine wv (vl 5 4 Qt) ?_
      refine Qfj (n := 1) rfl (by omega) ?_
      rintro g79 rfl
      refine wv (fun W hm => Qfg (sz := 1) (k := x1.Field) Qv Qh rfl rfl rfl (by omega) (by omega)) ?_
      refine Qhh (E := Qg) (e := 3) (u := .int .i64 x1.Value) (k := (x1.Field.toNat)) (p := g79) (n := x1.Row.Values.length) (xs := x1.Row.Values) (eis := []) (js := [Qa p46 191 [.int .i64 x1.Row.Id, .slice (some ⟨g79, 0, none⟩) x1.Row.Values.length c43, .int .i64 (IntKind.i64.wrap (x0.Now + 1)), .int .i64 (-1)], Qa p26 42 K2, I31, Qa p19 42 [.slice none 0 0, .int .i64 0], Qa p18 75 K1, I32]) (yv := x1.Value) (pk [1, 0, 2, 3, 4, 5, 6]) (fun _ _ hs => (Sep.nil hs ▸ Qcy)) rfl Qh rfl (by omega) rfl rfl (Qo rfl) ?_
      refine nt' (Qf (sr ?_))
      refine wv (vf Qbs rfl Qh) ?_
      refine wv (vl 5 0 Qt) ?_
      refine wv Qcf ?_
      refine nt' ?_
      refine Qp rfl g38 ?_
      refine Qq (Qi (Qf ?_))
      refine Qdf (pk [2, 3, 4]) ?_
      refine Qad ?_
      refine wv (fun W hm => Qz (cs := K2) Qaf Qae rfl rfl (hm.boxCells (n := 0) rfl)) ?_
      refine sb 0 K2 [Qa p26 42 K2, I31] (pk [2, 0, 1]) Qae ?_
      refine wa (nt' (Qj ?_))
      have he80 := (show Qea x0 x1 = ((⟨x0.Segments, (IntKind.i64.wrap (x0.Now + 1))⟩ : Qx), true) from Qb g28 (Qb g30 (Qc g32 (Qc g35 (Qc g38 (Qc g50 (Qb g78 (rfl))))))))
      refine Qdx rfl (Qcp (n := 0) rfl rfl Qaf Qae rfl) (Qcv rfl) (fun W hm => ⟨K2, ?_, ?_⟩)
      ·first | rw [he80] | rfl
       try rfl
      rw [he80]; exact Mem.join (is := [I31]) (js := []) (fun _ _ hs => Qed (x := (⟨x0.Segments, (IntKind.i64.wrap (x0.Now + 1))⟩ : Qx)) hs) (hm.pick [2] (by decide))
     have g78 := beq_eq_false_iff_ne.2 h77
     refine Qp rfl g78 ?_
     refine Qq (Qi (Qf (sr ?_)))
     refine wv (vf Qbs rfl Qh) ?_
     refine wv (vl 5 0 Qt) ?_
     refine wv Qcf ?_
     refine nt' ?_
     refine Qp rfl g38 ?_
     refine Qq (Qi (Qf ?_))
     refine Qdf (pk [2, 3, 4]) ?_
     refine Qad ?_
     refine wv (fun W hm => Qz (cs := K2) Qaf Qae rfl rfl (hm.boxCells (n := 0) rfl)) ?_
     refine sb 0 K2 [Qa p26 42 K2, I31] (pk [2, 0, 1]) Qae ?_
     refine wa (nt' (Qj ?_))
     have he81 := (show Qea x0 x1 = ((⟨x0.Segments, (IntKind.i64.wrap (x0.Now + 1))⟩ : Qx), true) from Qb g28 (Qb g30 (Qc g32 (Qc g35 (Qc g38 (Qc g50 (Qc g78 (rfl))))))))
     refine Qdx rfl (Qcp (n := 0) rfl rfl Qaf Qae rfl) (Qcv rfl) (fun W hm => ⟨K2, ?_, ?_⟩)
     ·first | rw [he81] | rfl
      try rfl
     rw [he81]; exact Mem.join (is := [I31]) (js := []) (fun _ _ hs => Qed (x := (⟨x0.Segments, (IntKind.i64.wrap (x0.Now + 1))⟩ : Qx)) hs) (hm.pick [2] (by decide))
    refine qtD 13 0 1 rfl (vf Qbs rfl Qcc) ?_
    refine qtD 13 1 3 rfl (fun W hm => Qdy (o := 1) Qde rfl Qh (by decide) rfl rfl) ?_
    refine qtD 13 2 7 rfl (vl 3 1 Qt) ?_
    refine qtD 13 4 23 rfl (vf Qbs rfl Qcc) ?_
    refine qtD 13 5 55 rfl (fun W hm => Qdy (o := 2) Qde rfl Qap (by decide) rfl rfl) ?_
    refine qtD 13 6 119 rfl (vl 3 2 Qv) ?_
    refine qtD 13 8 375 rfl (vf Qaf rfl Qh) ?_
    refine qtD 13 9 887 rfl (vl 0 1 Qt) ?_
    refine qaD [3, 11] ?_
    refine qcD 13 895 rfl ?_ ?_
    ·
     refine Qdb (E := Qg) Qv Qh (Qo rfl) (by decide) (fun p82 => ?_)
     refine qnD (pk [1, 2, 3, 4, 5]) (pk [1, 2, 3, 4, 5]) ?_
     refine qaD [7, 11] ?_
     refine qcD 13 1023 rfl ?_ ?_
     ·
      refine apR Qg Qg 3 (.slice (some ⟨p82, 0, none⟩) 0 0) [] x1.Row.Values [Qa p26 42 K2, I31, Qa p19 42 [.slice none 0 0, .int .i64 0], Qa p18 75 K1, I32] (fun W hm => hm) (fun W hm => Qdk Qcw (hm.rdS0 r14)) Qv Qh (show (0 + x1.Row.Values.length) * 8 ≤ 140737488355328 from by omega) (fun v84 => ?_)
      refine Qs (n := 0) rfl ?_
      rintro A85 c86 rfl m87
      refine qnD (pk [1, 2, 3, 4, 5]) (pk [1, 2, 3, 4, 5]) ?_
      refine qtD 13 10 2047 rfl (fun W hm => Qeq (cs := [.int .i64 x1.Row.Id, .slice A85 x1.Row.Values.length c86, .int .i64 (IntKind.i64.wrap (x0.Now + 1)), .int .i64 (-1)]) rfl (by kernel_rfl)) ?_
      refine qoD 13 11 4095 rfl ?_
      refine Qbo Qar rfl (Qo rfl) (by decide) (fun p89 => ?_)
      refine qnD (pk [2, 3, 4, 5, 6]) (pk [2, 3, 4, 5, 6]) ?_
      exact Qdw sl8 (fun W hm => hm) (H (A85, c86, p89))
     refine qcD 13 2943 rfl ?_ ?_
     ·
      refine Qbo Qar rfl (Qo rfl) (by decide) (fun p90 => ?_)
      refine qnD (pk [2, 3, 4, 5, 6]) (pk [2, 3, 4, 5, 6]) ?_
      refine qoD 13 7 3071 rfl ?_
      refine apR Qg Qg 3 (.slice (some ⟨p82, 0, none⟩) 0 0) [] x1.Row.Values [Qa p90 191 [.int .i64 0, .slice none 0 0, .int .i64 0, .int .i64 0], Qa p26 42 K2, I31, Qa p19 42 [.slice none 0 0, .int .i64 0], Qa p18 75 K1, I32] (pk [1, 0, 2, 3, 4, 5, 6]) (fun W hm => Qdk Qcw (hm.rdS0 r14)) Qv Qh (show (0 + x1.Row.Values.length) * 8 ≤ 140737488355328 from by omega) (fun v91 => ?_)
      refine Qs (n := 0) rfl ?_
      rintro A92 c93 rfl m94
      refine qnD (pk [2, 3, 4, 5, 6]) (pk [2, 3, 4, 5, 6]) ?_
      refine qtD 13 10 4095 rfl (fun W hm => Qeq (cs := [.int .i64 x1.Row.Id, .slice A92 x1.Row.Values.length c93, .int .i64 (IntKind.i64.wrap (x0.Now + 1)), .int .i64 (-1)]) rfl (by kernel_rfl)) ?_
      exact Qdw sl8 (pk [1, 0, 2, 3, 4, 5, 6]) (H (A92, c93, p90))
     exact Qek
    refine qcD 13 2935 rfl ?_ ?_
    ·
     refine Qbo Qar rfl (Qo rfl) (by decide) (fun p96 => ?_)
     refine qnD (pk [1, 2, 3, 4, 5]) (pk [1, 2, 3, 4, 5]) ?_
     refine qoD 13 3 2943 rfl ?_
     refine Qdb (E := Qg) Qv Qh (Qo rfl) (by decide) (fun p97 => ?_)
     refine qnD (pk [2, 3, 4, 5, 6]) (pk [2, 3, 4, 5, 6]) ?_
     refine qoD 13 7 3071 rfl ?_
     refine apR Qg Qg 3 (.slice (some ⟨p97, 0, none⟩) 0 0) [] x1.Row.Values [Qa p96 191 [.int .i64 0, .slice none 0 0, .int .i64 0, .int .i64 0], Qa p26 42 K2, I31, Qa p19 42 [.slice none 0 0, .int .i64 0], Qa p18 75 K1, I32] (fun W hm => hm) (fun W hm => Qdk Qcw (hm.rdS0 r14)) Qv Qh (show (0 + x1.Row.Values.length) * 8 ≤ 140737488355328 from by omega) (fun v99 => ?_)
     refine Qs (n := 0) rfl ?_
     rintro A100 c101 rfl m102
     refine qnD (pk [2, 3, 4, 5, 6]) (pk [2, 3, 4, 5, 6]) ?_
     refine qtD 13 10 4095 rfl (fun W hm => Qeq (cs := [.int .i64 x1.Row.Id, .slice A100 x1.Row.Values.length c101, .int .i64 (IntKind.i64.wrap (x0.Now + 1)), .int .i64 (-1)]) rfl (by kernel_rfl)) ?_
     exact Qdw sl8 (pk [1, 0, 2, 3, 4, 5, 6]) (H (A100, c101, p96))
    exact Qek
   have g38 : (x1.Kind != 2) = true := bne_iff_ne.2 h37
   refine wg vmv g38 ?_
   refine wg Qak g38 ?_
   refine wg (vpT g38) g35 ?_
   refine wv (vpF g35) ?_
   refine nt' ?_
   by_cases h104 : (Qbq x0) < 0
   ·have g105 := decide_eq_true h104
    refine Ql rfl g105 ?_
    refine sr ?_
    refine wv (fun W hm => Qz (cs := [.slice A22 x0.Segments.length c23, .int .i64 x0.Now]) Qaf Qae rfl rfl (hm.boxCells (n := 0) rfl)) ?_
    refine sb 0 [.slice A22 x0.Segments.length c23, .int .i64 x0.Now] [Qa p26 42 [.slice A22 x0.Segments.length c23, .int .i64 x0.Now], I31, Qa p18 75 K1, I32] (pk [2, 0, 1, 3, 4]) Qae ?_
    refine wa (nt' (Qj (Qe ?_)))
    have he106 := (show Qea x0 x1 = (x0, false) from Qb g28 (Qb g30 (Qc g32 (Qc g35 (Qb g38 (Qb g105 (rfl)))))))
    refine Qdx rfl (Qcp (n := 0) rfl rfl Qaf Qae rfl) (Qcv rfl) (fun W hm => ⟨[.slice A22 x0.Segments.length c23, .int .i64 x0.Now], ?_, ?_⟩)
    ·first | rw [he106] | rfl
     try rfl
    rw [he106]; exact Mem.join (is := [I31]) (js := []) (fun _ _ hs => Qed (x := x0) hs) (hm.pick [2] (by decide))
   have g105 := decide_eq_false h104
   refine Qp rfl g105 ?_
   refine Qq (Qi (sr ?_))
   refine wv (vf Qaf rfl Qh) ?_
   refine wv (vl 4 1 Qt) ?_
   refine wv Qdq ?_
   refine wv (vf Qaf rfl Qh) ?_
   let K11 : List Value := [.slice A22 x0.Segments.length c23, .int .i64 (IntKind.i64.wrap (x0.Now + 1))]
   refine sb 1 K11 [I31, Qa p19 42 [.slice none 0 0, .int .i64 0], Qa p18 75 K1, I32] (fun W hm => hm) Qh ?_
   refine nt' (Qf ?_)
   refine rd2 13 [12] (s := [Qa p26 42 K11, I31, Qa p19 42 [.slice none 0 0, .int .i64 0], Qa p18 75 K1, I32]) (s2 := [Qa p26 42 K11, I31, Qa p19 42 [.slice none 0 0, .int .i64 0], Qa p18 75 K1, I32]) (fun W hm => hm) (fun W hm => hm) ?_
   refine Qlh (σ := Option Addr × Nat × Nat) (fun s => [Qa p26 42 K11, I31, Qa p19 42 [.slice none 0 0, .int .i64 0], Qa p18 75 K1, I32]) 13 4095 1 (fun s => [(3, .pointer (some (⟨p18, 0, none⟩ : Addr))), (4, .pointer (some (⟨p19, 0, none⟩ : Addr))), (6, .pointer (some (⟨p26, 0, none⟩ : Addr))), (7, .int .i64 ((Qw x0 x1.Row.Id).1)), (8, .int .i64 ((Qw x0 x1.Row.Id).2)), (9, .int .i64 (Qbq x0)), (67, .agg #[.int .i64 x1.Row.Id, .slice s.1 x1.Row.Values.length s.2.1, .int .i64 (IntKind.i64.wrap (x0.Now + 1)), .int .i64 (-1)]), (10, .pointer (some (⟨s.2.2, 0, none⟩ : Addr)))]) (fun s => [Qa s.2.2 191 [.int .i64 0, .slice none 0 0, .int .i64 0, .int .i64 0], Qd (tSl Qg 3) [.slice s.1 x1.Row.Values.length s.2.1] x1.Row.Values, Qa p26 42 K11, I31, Qa p19 42 [.slice none 0 0, .int .i64 0], Qa p18 75 K1, I32]) ?_ (fun H => ?_)
   ·
    rintro ⟨A110, c111, p114⟩
    let I36 : It := Qd (tSl Qg 3) [.slice A110 x1.Row.Values.length c111] x1.Row.Values
    show QD _ _ _ _ _ _ _ _ [(3, .pointer (some (⟨p18, 0, none⟩ : Addr))), (4, .pointer (some (⟨p19, 0, none⟩ : Addr))), (6, .pointer (some (⟨p26, 0, none⟩ : Addr))), (7, .int .i64 ((Qw x0 x1.Row.Id).1)), (8, .int .i64 ((Qw x0 x1.Row.Id).2)), (9, .int .i64 (Qbq x0)), (67, .agg #[.int .i64 x1.Row.Id, .slice A110 x1.Row.Values.length c111, .int .i64 (IntKind.i64.wrap (x0.Now + 1)), .int .i64 (-1)]), (10, .pointer (some (⟨p114, 0, none⟩ : Addr)))] _ [Qa p26 42 K11, I31, Qa p19 42 [.slice none 0 0, .int .i64 0], Qa p18 75 K1, I32] _ [Qa p114 191 [.int .i64 0, .slice none 0 0, .int .i64 0, .int .i64 0], I36, Qa p26 42 K11, I31, Qa p19 42 [.slice none 0 0, .int .i64 0], Qa p18 75 K1, I32]
    refine Qej (n := 1) rfl ?_
    intro m115 m116
    refine qoD 13 12 8191 rfl ?_
    let K12 : List Value := [.int .i64 x1.Row.Id, .slice A110 x1.Row.Values.length c111, .int .i64 (IntKind.i64.wrap (x0.Now + 1)), .int .i64 (-1)]
    refine sb 0 K12 [I36, Qa p26 42 K11, I31, Qa p19 42 [.slice none 0 0, .int .i64 0], Qa p18 75 K1, I32] (fun W hm => hm) Qar ?_
    refine qxD (pk [2, 3, 4, 5, 6]) ?_
    refine Qef (by kernel_rfl) ?_
    refine Qi (Qf (sr (wm ?_)))
    refine wv (fun W hm => Qii rfl rfl) ?_
    refine nt' ?_
    by_cases h117 : 0 ≤ ((Qw x0 x1.Row.Id).1)
    ·have g118 := decide_eq_true h117
     refine Ql rfl g118 ?_
     refine sr ?_
     refine Qdb (E := Qg) Qv Qh (Qo rfl) (by decide) (fun p119 => ?_)
     refine wv (vf Qaf rfl Qcu) ?_
     refine wv (vl 3 0 Qas) ?_
     refine wm ?_
     refine Qfj (n := 4) rfl (by omega) ?_
     rintro g121 rfl
     refine wv (fun W hm => Qfg (sz := 1) (k := (Qw x0 x1.Row.Id).1) Qas Qda rfl rfl rfl (by omega) (by omega)) ?_
     let K13 : List Value := [.slice (some ⟨g121, 0, none⟩) x0.Segments.length c23, .int .i64 (IntKind.i64.wrap (x0.Now + 1))]
     refine Qgk (E := (tSl Qm 191)) (e := 131) (A := (some ⟨g121, 0, none⟩)) (n := x0.Segments.length) (c := c23) (xs := x0.Segments) (k := (((Qw x0 x1.Row.Id).1).toNat)) (js := [Qd (tSl Qg 3) [.slice (some ⟨p119, 0, none⟩) 0 0] [], Qa p114 191 K12, I36, Qa p26 42 K13, Qa p19 42 [.slice none 0 0, .int .i64 0], Qa p18 75 K1, I32]) (by omega) (pk [4, 0, 1, 2, 3, 5, 6, 7]) (fun ck122 => ?_)
     refine Qgp (γ := Value) (js := fun g => [Qd (tSl Qm 191) [g] (gt x0.Segments (((Qw x0 x1.Row.Id).1).toNat))]) (C := fun g => ck122 = [g]) (fun _ _ h => Qhy h) ?_
     rintro v123 rfl
     refine Qs (n := 0) rfl ?_
     rintro A124 c125 rfl m126
     refine wv (fun W hm => Qaw Qav rfl rfl (hm.focInt (i := 1) rfl rfl)) ?_
     refine wm ?_
     refine Qfj (n := 0) rfl (by omega) ?_
     rintro g128 rfl
     refine wv (fun W hm => Qfg (sz := 4) (k := (Qw x0 x1.Row.Id).2) Qav Qar rfl rfl rfl (by omega) (by omega)) ?_
     refine wv (vf Qbe rfl Qap) ?_
     let K14 : List Value := [.slice (some ⟨g128, 0, none⟩) (gt x0.Segments (((Qw x0 x1.Row.Id).1).toNat)).length c125]
     refine Qgk (E := Qm) (e := 191) (A := (some ⟨g128, 0, none⟩)) (n := (gt x0.Segments (((Qw x0 x1.Row.Id).1).toNat)).length) (c := c125) (xs := (gt x0.Segments (((Qw x0 x1.Row.Id).1).toNat))) (k := (((Qw x0 x1.Row.Id).2).toNat)) (js := [Qao (tSl Qm 191) 131 (some ⟨g121, 0, none⟩) x0.Segments.length c23 x0.Segments (((Qw x0 x1.Row.Id).1).toNat) K14, Qd (tSl Qg 3) [.slice (some ⟨p119, 0, none⟩) 0 0] [], Qa p114 191 K12, I36, Qa p26 42 K13, Qa p19 42 [.slice none 0 0, .int .i64 0], Qa p18 75 K1, I32]) (by omega) (fun W hm => hm) (fun ck129 => ?_)
     refine Qmp ?_
     rintro v130 rfl
     refine Qs (n := 0) rfl ?_
     rintro A131 c132 rfl m133
     refine wv (fun W hm => Qaw Qv rfl rfl (hm.focCells (i := 1) rfl rfl 1 _ rfl)) ?_
     let K15 : List Value := [.slice A131 ((gt (gt x0.Segments (((Qw x0 x1.Row.Id).1).toNat)) (((Qw x0 x1.Row.Id).2).toNat)).Values).length c132]
     let K16 : List Value := [.int .i64 ((gt (gt x0.Segments (((Qw x0 x1.Row.Id).1).toNat)) (((Qw x0 x1.Row.Id).2).toNat)).Id), .slice A131 ((gt (gt x0.Segments (((Qw x0 x1.Row.Id).1).toNat)) (((Qw x0 x1.Row.Id).2).toNat)).Values).length c132, .int .i64 ((gt (gt x0.Segments (((Qw x0 x1.Row.Id).1).toNat)) (((Qw x0 x1.Row.Id).2).toNat)).Born), .int .i64 ((gt (gt x0.Segments (((Qw x0 x1.Row.Id).1).toNat)) (((Qw x0 x1.Row.Id).2).toNat)).Died)]
     let I37 : It := Qd (tSl Qg 3) K15 ((gt (gt x0.Segments (((Qw x0 x1.Row.Id).1).toNat)) (((Qw x0 x1.Row.Id).2).toNat)).Values)
     refine apR Qg Qg 3 (.slice (some ⟨p119, 0, none⟩) 0 0) [] ((gt (gt x0.Segments (((Qw x0 x1.Row.Id).1).toNat)) (((Qw x0 x1.Row.Id).2).toNat)).Values) [I37, Qao Qm 191 (some ⟨g128, 0, none⟩) ((gt x0.Segments (((Qw x0 x1.Row.Id).1).toNat)).length) c125 (gt x0.Segments (((Qw x0 x1.Row.Id).1).toNat)) (((Qw x0 x1.Row.Id).2).toNat) K16, Qao (tSl Qm 191) 131 (some ⟨g121, 0, none⟩) x0.Segments.length c23 x0.Segments (((Qw x0 x1.Row.Id).1).toNat) K14, Qa p114 191 K12, I36, Qa p26 42 K13, Qa p19 42 [.slice none 0 0, .int .i64 0], Qa p18 75 K1, I32] (pk [3, 0, 1, 2, 4, 5, 6, 7, 8, 9]) (fun W hm => Qdk Qcw (hm.rdSI (n := 0) rfl)) Qv Qh (show (0 + ((gt (gt x0.Segments (((Qw x0 x1.Row.Id).1).toNat)) (((Qw x0 x1.Row.Id).2).toNat)).Values).length) * 8 ≤ 140737488355328 from by omega) (fun v135 => ?_)
     refine Qs (n := 0) rfl ?_
     rintro A136 c137 rfl m138
     refine wv (vf Qbe rfl Qap) ?_
     let K17 : List Value := [.int .i64 x1.Row.Id, .slice A136 ((gt (gt x0.Segments (((Qw x0 x1.Row.Id).1).toNat)) (((Qw x0 x1.Row.Id).2).toNat)).Values).length c137, .int .i64 (IntKind.i64.wrap (x0.Now + 1)), .int .i64 (-1)]
     let K18 : List Value := [.slice A136 ((gt (gt x0.Segments (((Qw x0 x1.Row.Id).1).toNat)) (((Qw x0 x1.Row.Id).2).toNat)).Values).length c137]
     let I38 : It := Qd (tSl Qg 3) K18 ((gt (gt x0.Segments (((Qw x0 x1.Row.Id).1).toNat)) (((Qw x0 x1.Row.Id).2).toNat)).Values)
     refine sb 1 K17 [I38, I37, Qao Qm 191 (some ⟨g128, 0, none⟩) ((gt x0.Segments (((Qw x0 x1.Row.Id).1).toNat)).length) c125 (gt x0.Segments (((Qw x0 x1.Row.Id).1).toNat)) (((Qw x0 x1.Row.Id).2).toNat) K16, Qao (tSl Qm 191) 131 (some ⟨g121, 0, none⟩) x0.Segments.length c23 x0.Segments (((Qw x0 x1.Row.Id).1).toNat) K14, I36, Qa p26 42 K13, Qa p19 42 [.slice none 0 0, .int .i64 0], Qa p18 75 K1, I32] (pk [4, 0, 1, 2, 3, 5, 6, 7, 8, 9]) Qap ?_
     refine nt' ?_
     refine rb 11 (s := [Qa p114 191 K17, I38, I37, Qao (tSl Qm 191) 131 (some ⟨g121, 0, none⟩) x0.Segments.length c23 x0.Segments (((Qw x0 x1.Row.Id).1).toNat) K14, I36, Qa p26 42 K13, Qa p19 42 [.slice none 0 0, .int .i64 0], Qa p18 75 K1, I32]) (pk [0, 1, 2, 4, 5, 6, 7, 8, 9]) ?_
     refine qt 11 0 1 rfl (vf Qaf rfl Qcu) ?_
     refine qt 11 1 3 rfl (vl 5 0 Qas) ?_
     refine qt 11 2 7 rfl vmv ?_
     refine qt 11 3 15 rfl (fun W hm => Qfg (sz := 1) (k := (Qw x0 x1.Row.Id).1) Qas Qda rfl rfl rfl (by omega) (by omega)) ?_
     refine qt 11 4 31 rfl (fun W hm => Qaw Qav rfl rfl (hm.focInt (i := 3) rfl rfl)) ?_
     refine qt 11 5 63 rfl vmv ?_
     refine qt 11 6 127 rfl (vf Qaf rfl Qh) ?_
     refine qt 11 7 255 rfl (vl 5 1 Qt) ?_
     refine qt 11 8 511 rfl (fun W hm => Qfg (sz := 4) (k := (Qw x0 x1.Row.Id).2) Qav Qar rfl rfl rfl (by omega) (by omega)) ?_
     refine qt 11 9 1023 rfl (vf Qbe rfl Qh) ?_
     refine qo 11 10 2047 rfl ?_
     let K19 : List Value := [.int .i64 ((gt (gt x0.Segments (((Qw x0 x1.Row.Id).1).toNat)) (((Qw x0 x1.Row.Id).2).toNat)).Id), .slice A131 ((gt (gt x0.Segments (((Qw x0 x1.Row.Id).1).toNat)) (((Qw x0 x1.Row.Id).2).toNat)).Values).length c132, .int .i64 ((gt (gt x0.Segments (((Qw x0 x1.Row.Id).1).toNat)) (((Qw x0 x1.Row.Id).2).toNat)).Born), .int .i64 (IntKind.i64.wrap (x0.Now + 1))]
     refine sf 3 4 K19 [Qa p114 191 K17, I38, I37, Qao (tSl Qm 191) 131 (some ⟨g121, 0, none⟩) x0.Segments.length c23 x0.Segments (((Qw x0 x1.Row.Id).1).toNat) K14, I36, Qa p26 42 K13, Qa p19 42 [.slice none 0 0, .int .i64 0], Qa p18 75 K1, I32] (pk [3, 0, 1, 2, 4, 5, 6, 7, 8, 9]) Qh ?_
     refine qn (pk [1, 2, 3, 4, 5, 6, 7, 8, 9]) ?_
     refine Qef (by kernel_rfl) ?_
     refine Qi (Qf (sr ?_))
     refine wv (vf Qbs rfl Qh) ?_
     refine wv (vl 8 0 Qt) ?_
     refine wv (fun W hm => Qdj rfl rfl) ?_
     refine nt' ?_
     by_cases h140 : x1.Kind = 3
     ·have g141 := beq_iff_eq.2 h140
      refine Ql rfl g141 ?_
      refine Qad ?_
      refine wv (vf Qbe rfl Qap) ?_
      refine wv (vl 1 1 Qv) ?_
      refine wv (vf Qbs rfl Qh) ?_
      refine wv (vl 8 3 Qt) ?_
      refine wv (vf Qbs rfl Qh) ?_
      refine wv (vl 8 4 Qt) ?_
      refine Qfj (n := 2) rfl (by omega) ?_
      rintro g142 rfl
      refine wv (fun W hm => Qfg (sz := 1) (k := x1.Field) Qv Qh rfl rfl rfl (by omega) (by omega)) ?_
      let K20 : List Value := [.int .i64 x1.Row.Id, .slice (some ⟨g142, 0, none⟩) ((gt (gt x0.Segments (((Qw x0 x1.Row.Id).1).toNat)) (((Qw x0 x1.Row.Id).2).toNat)).Values).length c137, .int .i64 (IntKind.i64.wrap (x0.Now + 1)), .int .i64 (-1)]
      refine Qhh (E := Qg) (e := 3) (u := .int .i64 x1.Value) (k := (x1.Field.toNat)) (p := g142) (n := ((gt (gt x0.Segments (((Qw x0 x1.Row.Id).1).toNat)) (((Qw x0 x1.Row.Id).2).toNat)).Values).length) (xs := (gt (gt x0.Segments (((Qw x0 x1.Row.Id).1).toNat)) (((Qw x0 x1.Row.Id).2).toNat)).Values) (eis := []) (js := [Qao Qm 191 (some ⟨g128, 0, none⟩) ((gt x0.Segments (((Qw x0 x1.Row.Id).1).toNat)).length) c125 (gt x0.Segments (((Qw x0 x1.Row.Id).1).toNat)) (((Qw x0 x1.Row.Id).2).toNat) K19, Qa p114 191 K20, I37, Qao (tSl Qm 191) 131 (some ⟨g121, 0, none⟩) x0.Segments.length c23 x0.Segments (((Qw x0 x1.Row.Id).1).toNat) K14, I36, Qa p26 42 K13, Qa p19 42 [.slice none 0 0, .int .i64 0], Qa p18 75 K1, I32]) (yv := x1.Value) (pk [2, 0, 1, 3, 4, 5, 6, 7, 8, 9]) (fun _ _ hs => (Sep.nil hs ▸ Qcy)) rfl Qh rfl (by omega) rfl rfl (Qo rfl) ?_
      refine nt' (Qf (sr ?_))
      refine wv (vf Qbs rfl Qh) ?_
      refine wv (vl 8 0 Qt) ?_
      refine wv Qcf ?_
      refine nt' ?_
      refine Ql rfl g38 ?_
      refine Qdf (pk [0, 1, 2, 3, 4, 6, 7]) ?_
      let K21 : List Value := [.slice (some ⟨g142, 0, none⟩) ((gt (gt x0.Segments (((Qw x0 x1.Row.Id).1).toNat)) (((Qw x0 x1.Row.Id).2).toNat)).Values).length c137]
      let I39 : It := Qd (tSl Qg 3) K21 (((gt (gt x0.Segments (((Qw x0 x1.Row.Id).1).toNat)) (((Qw x0 x1.Row.Id).2).toNat)).Values).set (x1.Field.toNat) x1.Value)
      refine Qdf (fun W hm => Mem.unfocus (Mem.join (is := [I37]) (js := (Qao Qm 191 (some ⟨g128, 0, none⟩) ((gt x0.Segments (((Qw x0 x1.Row.Id).1).toNat)).length) c125 (gt x0.Segments (((Qw x0 x1.Row.Id).1).toNat)) (((Qw x0 x1.Row.Id).2).toNat) K19 :: [I39, Qa p114 191 K20, Qao (tSl Qm 191) 131 (some ⟨g121, 0, none⟩) x0.Segments.length c23 x0.Segments (((Qw x0 x1.Row.Id).1).toNat) K14, Qa p26 42 K13, Qa p19 42 [.slice none 0 0, .int .i64 0]])) (fun _ _ hs => Qfs (x := (⟨(gt (gt x0.Segments (((Qw x0 x1.Row.Id).1).toNat)) (((Qw x0 x1.Row.Id).2).toNat)).Id, (gt (gt x0.Segments (((Qw x0 x1.Row.Id).1).toNat)) (((Qw x0 x1.Row.Id).2).toNat)).Values, (gt (gt x0.Segments (((Qw x0 x1.Row.Id).1).toNat)) (((Qw x0 x1.Row.Id).2).toNat)).Born, (IntKind.i64.wrap (x0.Now + 1))⟩ : Qn)) hs) (hm.pick [3, 1, 0, 2, 4, 5, 6] (by decide)))) ?_
      refine Qdf (fun W hm => Mem.unfocus (Mem.join (is := [Qd (tSl Qm 191) K14 (Qdp x0 x1)]) (js := (Qao (tSl Qm 191) 131 (some ⟨g121, 0, none⟩) x0.Segments.length c23 x0.Segments (((Qw x0 x1.Row.Id).1).toNat) K14 :: [I39, Qa p114 191 K20, Qa p26 42 K13, Qa p19 42 [.slice none 0 0, .int .i64 0]])) (fun _ _ hs => Sep.one hs) (hm.pick [0, 3, 1, 2, 4, 5] (by decide)))) ?_
      refine Qoc (E := (tSl Qm 191)) (e := 131) (A := (some ⟨g121, 0, none⟩)) (n := x0.Segments.length) (c := c23) (xs := (x0.Segments.set (((Qw x0 x1.Row.Id).1).toNat) (Qdp x0 x1))) (k := ((Qbq x0).toNat)) (js := [I39, Qa p114 191 K20, Qa p26 42 K13, Qa p19 42 [.slice none 0 0, .int .i64 0]]) (by omega) (fun W hm => hm) (fun ck143 => ?_)
      refine Qiq (γ := Value) (js := fun g => [Qd (tSl Qm 191) [g] (gt (x0.Segments.set (((Qw x0 x1.Row.Id).1).toNat) (Qdp x0 x1)) ((Qbq x0).toNat))]) (C := fun g => ck143 = [g]) (fun _ _ h => Qhy h) ?_
      rintro v144 rfl
      refine Qel (n := 0) rfl ?_
      rintro A145 c146 rfl m147
      let K22 : List Value := [.slice A145 (gt (x0.Segments.set (((Qw x0 x1.Row.Id).1).toNat) (Qdp x0 x1)) ((Qbq x0).toNat)).length c146]
      refine rd2 13 [12] (s := [Qa p114 191 K20, Qa p26 42 K13, Qa p19 42 [.slice none 0 0, .int .i64 0]]) (s2 := [Qao (tSl Qm 191) 131 (some ⟨g121, 0, none⟩) x0.Segments.length c23 (x0.Segments.set (((Qw x0 x1.Row.Id).1).toNat) (Qdp x0 x1)) ((Qbq x0).toNat) K22, Qa p114 191 K20, Qa p26 42 K13, Qa p19 42 [.slice none 0 0, .int .i64 0]]) (pk [3, 4, 5]) (pk [1, 3, 4, 5]) ?_
      refine qtD 13 0 1 rfl (vf Qaf rfl Qcu) ?_
      refine qtD 13 1 3 rfl (vl 2 0 Qas) ?_
      refine qtD 13 2 7 rfl vmv ?_
      refine qtD 13 3 15 rfl (vf Qaf rfl Qcu) ?_
      refine qtD 13 4 31 rfl (vl 2 0 Qas) ?_
      refine qtD 13 5 63 rfl vmv ?_
      refine qtD 13 6 127 rfl (fun W hm => Qfg (sz := 1) (k := (Qbq x0)) Qas Qda rfl rfl rfl (by omega) (by omega)) ?_
      refine qtD 13 7 255 rfl (fun W hm => Qaw Qav rfl rfl (hm.focInt (i := 0) rfl rfl)) ?_
      refine qtD 13 8 511 rfl (fun W hm => Qz (cs := K20) Qbe Qar rfl rfl (hm.boxCells (n := 1) rfl)) ?_
      refine qoD 13 9 1023 rfl ?_
      refine Qfb (cs := K20) Qav Qar rfl (by decide) (by decide) rfl (by kernel_rfl) (Qo rfl) (by decide) (fun p149 => ?_)
      refine qnD (pk [4, 5, 6]) (pk [2, 4, 5, 6]) ?_
      refine qoD 13 10 2047 rfl ?_
      refine ap1 Qm 191 (.slice A145 (gt (x0.Segments.set (((Qw x0 x1.Row.Id).1).toNat) (Qdp x0 x1)) ((Qbq x0).toNat)).length c146) (gt (x0.Segments.set (((Qw x0 x1.Row.Id).1).toNat) (Qdp x0 x1)) ((Qbq x0).toNat)) (⟨x1.Row.Id, (((gt (gt x0.Segments (((Qw x0 x1.Row.Id).1).toNat)) (((Qw x0 x1.Row.Id).2).toNat)).Values).set (x1.Field.toNat) x1.Value), (IntKind.i64.wrap (x0.Now + 1)), (-1)⟩ : Qn) [I39] [Qao (tSl Qm 191) 131 (some ⟨g121, 0, none⟩) x0.Segments.length c23 (x0.Segments.set (((Qw x0 x1.Row.Id).1).toNat) (Qdp x0 x1)) ((Qbq x0).toNat) K22, Qa p114 191 K20, Qa p26 42 K13, Qa p19 42 [.slice none 0 0, .int .i64 0]] K20 (pk [0, 1, 3, 2, 4, 5, 6]) (fun _ _ hs => Els.single (Qfs (x := (⟨x1.Row.Id, (((gt (gt x0.Segments (((Qw x0 x1.Row.Id).1).toNat)) (((Qw x0 x1.Row.Id).2).toNat)).Values).set (x1.Field.toNat) x1.Value), (IntKind.i64.wrap (x0.Now + 1)), (-1)⟩ : Qn)) hs)) Qav Qar (show ((gt (x0.Segments.set (((Qw x0 x1.Row.Id).1).toNat) (Qdp x0 x1)) ((Qbq x0).toNat)).length + 1) * 48 ≤ 140737488355328 from by first | omega | (have hx := Qkm (xs := x0.Segments) (i := (Qw x0 x1.Row.Id).1.toNat) (y := Qdp x0 x1) List.length_set ((Qbq x0).toNat); omega)) (fun v150 => ?_)
      refine Qs (n := 0) rfl ?_
      rintro A151 c152 rfl m153
      refine qnD (pk [2, 3, 4]) (pk [1, 2, 3, 4]) ?_
      refine qtD 13 11 4095 rfl (fun W hm => Qfg (sz := 1) (k := (Qbq x0)) Qas Qda rfl rfl rfl (by omega) (by omega)) ?_
      refine qoD 13 12 8191 rfl ?_
      let I40 : It := Qd (tSl Qm 191) [.slice A151 (Qkt x0 x1).length c152] (Qkt x0 x1)
      refine sf 0 1 [.slice A151 (Qkt x0 x1).length c152] [I40, Qa p114 191 K20, Qa p26 42 K13, Qa p19 42 [.slice none 0 0, .int .i64 0]] (pk [1, 0, 2, 3, 4]) Qda ?_
      refine qxD (pk [2, 3, 4]) ?_
      refine Qef (by kernel_rfl) ?_
      refine Qi (sr ?_)
      refine wv (fun W hm => Qz (cs := K13) Qaf Qae rfl rfl (hm.boxCells (n := 3) rfl)) ?_
      refine sb 0 K13 [Qao (tSl Qm 191) 131 (some ⟨g121, 0, none⟩) x0.Segments.length c23 (x0.Segments.set (((Qw x0 x1.Row.Id).1).toNat) (Qdp x0 x1)) ((Qbq x0).toNat) [.slice A151 (Qkt x0 x1).length c152], I40, Qa p114 191 K20, Qa p26 42 K13] (pk [4, 0, 1, 2, 3]) Qae ?_
      refine wa (nt' (Qj ?_))
      refine Qdu (fun W hm => Mem.unfocus (Mem.join (is := [I40]) (js := (Qao (tSl Qm 191) 131 (some ⟨g121, 0, none⟩) x0.Segments.length c23 (x0.Segments.set (((Qw x0 x1.Row.Id).1).toNat) (Qdp x0 x1)) ((Qbq x0).toNat) [.slice A151 (Qkt x0 x1).length c152] :: [Qa p19 42 K13, Qa p114 191 K20, Qa p26 42 K13])) (fun _ _ hs => Sep.one hs) (hm.pick [2, 1, 0, 3, 4] (by decide)))) ?_
      have he155 := (show Qea x0 x1 = ((⟨((x0.Segments.set (((Qw x0 x1.Row.Id).1).toNat) (Qdp x0 x1)).set ((Qbq x0).toNat) (Qkt x0 x1)), (IntKind.i64.wrap (x0.Now + 1))⟩ : Qx), true) from Qb g28 (Qb g30 (Qc g32 (Qc g35 (Qb g38 (Qc g105 (Qb g118 (Qb g141 (rfl)))))))))
      refine Qdx rfl (Qcp (n := 1) rfl rfl Qaf Qae rfl) (Qcv rfl) (fun W hm => ⟨K13, ?_, ?_⟩)
      ·first | rw [he155] | rfl
       try rfl
      rw [he155]; exact Mem.join (is := [Qd (tSl (tSl Qm 191) 131) [.slice (some ⟨g121, 0, none⟩) x0.Segments.length c23] ((x0.Segments.set (((Qw x0 x1.Row.Id).1).toNat) (Qdp x0 x1)).set ((Qbq x0).toNat) (Qkt x0 x1))]) (js := []) (fun _ _ hs => Qed (x := (⟨((x0.Segments.set (((Qw x0 x1.Row.Id).1).toNat) (Qdp x0 x1)).set ((Qbq x0).toNat) (Qkt x0 x1)), (IntKind.i64.wrap (x0.Now + 1))⟩ : Qx)) hs) (hm.pick [0] (by decide))
     have g141 := beq_eq_false_iff_ne.2 h140
     refine Qp rfl g141 ?_
     refine Qq (Qi (Qf (sr ?_)))
     refine wv (vf Qbs rfl Qh) ?_
     refine wv (vl 8 0 Qt) ?_
     refine wv Qcf ?_
     refine nt' ?_
     refine Ql rfl g38 ?_
     refine Qdf (pk [0, 1, 2, 3, 4, 6, 7]) ?_
     refine Qdf (fun W hm => Mem.unfocus (Mem.join (is := [I37]) (js := (Qao Qm 191 (some ⟨g128, 0, none⟩) ((gt x0.Segments (((Qw x0 x1.Row.Id).1).toNat)).length) c125 (gt x0.Segments (((Qw x0 x1.Row.Id).1).toNat)) (((Qw x0 x1.Row.Id).2).toNat) K19 :: [Qa p114 191 K17, I38, Qao (tSl Qm 191) 131 (some ⟨g121, 0, none⟩) x0.Segments.length c23 x0.Segments (((Qw x0 x1.Row.Id).1).toNat) K14, Qa p26 42 K13, Qa p19 42 [.slice none 0 0, .int .i64 0]])) (fun _ _ hs => Qfs (x := (⟨(gt (gt x0.Segments (((Qw x0 x1.Row.Id).1).toNat)) (((Qw x0 x1.Row.Id).2).toNat)).Id, (gt (gt x0.Segments (((Qw x0 x1.Row.Id).1).toNat)) (((Qw x0 x1.Row.Id).2).toNat)).Values, (gt (gt x0.Segments (((Qw x0 x1.Row.Id).1).toNat)) (((Qw x0 x1.Row.Id).2).toNat)).Born, (IntKind.i64.wrap (x0.Now + 1))⟩ : Qn)) hs) (hm.pick [3, 0, 1, 2, 4, 5, 6] (by decide)))) ?_
     refine Qdf (fun W hm => Mem.unfocus (Mem.join (is := [Qd (tSl Qm 191) K14 (Qdp x0 x1)]) (js := (Qao (tSl Qm 191) 131 (some ⟨g121, 0, none⟩) x0.Segments.length c23 x0.Segments (((Qw x0 x1.Row.Id).1).toNat) K14 :: [Qa p114 191 K17, I38, Qa p26 42 K13, Qa p19 42 [.slice none 0 0, .int .i64 0]])) (fun _ _ hs => Sep.one hs) (hm.pick [0, 3, 1, 2, 4, 5] (by decide)))) ?_
     refine Qoc (E := (tSl Qm 191)) (e := 131) (A := (some ⟨g121, 0, none⟩)) (n := x0.Segments.length) (c := c23) (xs := (x0.Segments.set (((Qw x0 x1.Row.Id).1).toNat) (Qdp x0 x1))) (k := ((Qbq x0).toNat)) (js := [Qa p114 191 K17, I38, Qa p26 42 K13, Qa p19 42 [.slice none 0 0, .int .i64 0]]) (by omega) (fun W hm => hm) (fun ck156 => ?_)
     refine Qiq (γ := Value) (js := fun g => [Qd (tSl Qm 191) [g] (gt (x0.Segments.set (((Qw x0 x1.Row.Id).1).toNat) (Qdp x0 x1)) ((Qbq x0).toNat))]) (C := fun g => ck156 = [g]) (fun _ _ h => Qhy h) ?_
     rintro v157 rfl
     refine Qel (n := 0) rfl ?_
     rintro A158 c159 rfl m160
     let K23 : List Value := [.slice A158 (gt (x0.Segments.set (((Qw x0 x1.Row.Id).1).toNat) (Qdp x0 x1)) ((Qbq x0).toNat)).length c159]
     refine rd2 13 [12] (s := [Qa p114 191 K17, Qa p26 42 K13, Qa p19 42 [.slice none 0 0, .int .i64 0]]) (s2 := [Qao (tSl Qm 191) 131 (some ⟨g121, 0, none⟩) x0.Segments.length c23 (x0.Segments.set (((Qw x0 x1.Row.Id).1).toNat) (Qdp x0 x1)) ((Qbq x0).toNat) K23, Qa p114 191 K17, Qa p26 42 K13, Qa p19 42 [.slice none 0 0, .int .i64 0]]) (pk [2, 4, 5]) (pk [1, 2, 4, 5]) ?_
     refine qtD 13 0 1 rfl (vf Qaf rfl Qcu) ?_
     refine qtD 13 1 3 rfl (vl 2 0 Qas) ?_
     refine qtD 13 2 7 rfl vmv ?_
     refine qtD 13 3 15 rfl (vf Qaf rfl Qcu) ?_
     refine qtD 13 4 31 rfl (vl 2 0 Qas) ?_
     refine qtD 13 5 63 rfl vmv ?_
     refine qtD 13 6 127 rfl (fun W hm => Qfg (sz := 1) (k := (Qbq x0)) Qas Qda rfl rfl rfl (by omega) (by omega)) ?_
     refine qtD 13 7 255 rfl (fun W hm => Qaw Qav rfl rfl (hm.focInt (i := 0) rfl rfl)) ?_
     refine qtD 13 8 511 rfl (fun W hm => Qz (cs := K17) Qbe Qar rfl rfl (hm.boxCells (n := 1) rfl)) ?_
     refine qoD 13 9 1023 rfl ?_
     refine Qfb (cs := K17) Qav Qar rfl (by decide) (by decide) rfl (by kernel_rfl) (Qo rfl) (by decide) (fun p162 => ?_)
     refine qnD (pk [3, 5, 6]) (pk [2, 3, 5, 6]) ?_
     refine qoD 13 10 2047 rfl ?_
     refine ap1 Qm 191 (.slice A158 (gt (x0.Segments.set (((Qw x0 x1.Row.Id).1).toNat) (Qdp x0 x1)) ((Qbq x0).toNat)).length c159) (gt (x0.Segments.set (((Qw x0 x1.Row.Id).1).toNat) (Qdp x0 x1)) ((Qbq x0).toNat)) (⟨x1.Row.Id, (gt (gt x0.Segments (((Qw x0 x1.Row.Id).1).toNat)) (((Qw x0 x1.Row.Id).2).toNat)).Values, (IntKind.i64.wrap (x0.Now + 1)), (-1)⟩ : Qn) [I38] [Qao (tSl Qm 191) 131 (some ⟨g121, 0, none⟩) x0.Segments.length c23 (x0.Segments.set (((Qw x0 x1.Row.Id).1).toNat) (Qdp x0 x1)) ((Qbq x0).toNat) K23, Qa p114 191 K17, Qa p26 42 K13, Qa p19 42 [.slice none 0 0, .int .i64 0]] K17 (pk [0, 1, 4, 2, 3, 5, 6]) (fun _ _ hs => Els.single (Qfs (x := (⟨x1.Row.Id, (gt (gt x0.Segments (((Qw x0 x1.Row.Id).1).toNat)) (((Qw x0 x1.Row.Id).2).toNat)).Values, (IntKind.i64.wrap (x0.Now + 1)), (-1)⟩ : Qn)) hs)) Qav Qar (show ((gt (x0.Segments.set (((Qw x0 x1.Row.Id).1).toNat) (Qdp x0 x1)) ((Qbq x0).toNat)).length + 1) * 48 ≤ 140737488355328 from by first | omega | (have hx := Qkm (xs := x0.Segments) (i := (Qw x0 x1.Row.Id).1.toNat) (y := Qdp x0 x1) List.length_set ((Qbq x0).toNat); omega)) (fun v163 => ?_)
     refine Qs (n := 0) rfl ?_
     rintro A164 c165 rfl m166
     refine qnD (pk [2, 3, 4]) (pk [1, 2, 3, 4]) ?_
     refine qtD 13 11 4095 rfl (fun W hm => Qfg (sz := 1) (k := (Qbq x0)) Qas Qda rfl rfl rfl (by omega) (by omega)) ?_
     refine qoD 13 12 8191 rfl ?_
     let I41 : It := Qd (tSl Qm 191) [.slice A164 (Qku x0 x1).length c165] (Qku x0 x1)
     refine sf 0 1 [.slice A164 (Qku x0 x1).length c165] [I41, Qa p114 191 K17, Qa p26 42 K13, Qa p19 42 [.slice none 0 0, .int .i64 0]] (pk [1, 0, 2, 3, 4]) Qda ?_
     refine qxD (pk [2, 3, 4]) ?_
     refine Qef (by kernel_rfl) ?_
     refine Qi (sr ?_)
     refine wv (fun W hm => Qz (cs := K13) Qaf Qae rfl rfl (hm.boxCells (n := 3) rfl)) ?_
     refine sb 0 K13 [Qao (tSl Qm 191) 131 (some ⟨g121, 0, none⟩) x0.Segments.length c23 (x0.Segments.set (((Qw x0 x1.Row.Id).1).toNat) (Qdp x0 x1)) ((Qbq x0).toNat) [.slice A164 (Qku x0 x1).length c165], I41, Qa p114 191 K17, Qa p26 42 K13] (pk [4, 0, 1, 2, 3]) Qae ?_
     refine wa (nt' (Qj ?_))
     refine Qdu (fun W hm => Mem.unfocus (Mem.join (is := [I41]) (js := (Qao (tSl Qm 191) 131 (some ⟨g121, 0, none⟩) x0.Segments.length c23 (x0.Segments.set (((Qw x0 x1.Row.Id).1).toNat) (Qdp x0 x1)) ((Qbq x0).toNat) [.slice A164 (Qku x0 x1).length c165] :: [Qa p19 42 K13, Qa p114 191 K17, Qa p26 42 K13])) (fun _ _ hs => Sep.one hs) (hm.pick [2, 1, 0, 3, 4] (by decide)))) ?_
     have he168 := (show Qea x0 x1 = ((⟨((x0.Segments.set (((Qw x0 x1.Row.Id).1).toNat) (Qdp x0 x1)).set ((Qbq x0).toNat) (Qku x0 x1)), (IntKind.i64.wrap (x0.Now + 1))⟩ : Qx), true) from Qb g28 (Qb g30 (Qc g32 (Qc g35 (Qb g38 (Qc g105 (Qb g118 (Qc g141 (rfl)))))))))
     refine Qdx rfl (Qcp (n := 1) rfl rfl Qaf Qae rfl) (Qcv rfl) (fun W hm => ⟨K13, ?_, ?_⟩)
     ·first | rw [he168] | rfl
      try rfl
     rw [he168]; exact Mem.join (is := [Qd (tSl (tSl Qm 191) 131) [.slice (some ⟨g121, 0, none⟩) x0.Segments.length c23] ((x0.Segments.set (((Qw x0 x1.Row.Id).1).toNat) (Qdp x0 x1)).set ((Qbq x0).toNat) (Qku x0 x1))]) (js := []) (fun _ _ hs => Qed (x := (⟨((x0.Segments.set (((Qw x0 x1.Row.Id).1).toNat) (Qdp x0 x1)).set ((Qbq x0).toNat) (Qku x0 x1)), (IntKind.i64.wrap (x0.Now + 1))⟩ : Qx)) hs) (hm.pick [0] (by decide))
    have g118 := decide_eq_false h117
    refine Qp rfl g118 ?_
    refine Qq (Qi (Qf (sr ?_)))
    refine wv (vf Qbs rfl Qh) ?_
    refine wv (vl 5 0 Qt) ?_
    refine wv (fun W hm => Qdj rfl rfl) ?_
    refine nt' ?_
    by_cases h169 : x1.Kind = 3
    ·have g170 := beq_iff_eq.2 h169
     refine Ql rfl g170 ?_
     refine Qad ?_
     refine wv (vf Qbe rfl Qap) ?_
     refine wv (vl 0 1 Qv) ?_
     refine wv (vf Qbs rfl Qh) ?_
     refine wv (vl 5 3 Qt) ?_
     refine wv (vf Qbs rfl Qh) ?_
     refine wv (vl 5 4 Qt) ?_
     refine Qfj (n := 1) rfl (by omega) ?_
     rintro g171 rfl
     refine wv (fun W hm => Qfg (sz := 1) (k := x1.Field) Qv Qh rfl rfl rfl (by omega) (by omega)) ?_
     let K24 : List Value := [.int .i64 x1.Row.Id, .slice (some ⟨g171, 0, none⟩) x1.Row.Values.length c111, .int .i64 (IntKind.i64.wrap (x0.Now + 1)), .int .i64 (-1)]
     refine Qhh (E := Qg) (e := 3) (u := .int .i64 x1.Value) (k := (x1.Field.toNat)) (p := g171) (n := x1.Row.Values.length) (xs := x1.Row.Values) (eis := []) (js := [Qa p114 191 K24, Qa p26 42 K11, I31, Qa p19 42 [.slice none 0 0, .int .i64 0], Qa p18 75 K1, I32]) (yv := x1.Value) (pk [1, 0, 2, 3, 4, 5, 6]) (fun _ _ hs => (Sep.nil hs ▸ Qcy)) rfl Qh rfl (by omega) rfl rfl (Qo rfl) ?_
     refine nt' (Qf (sr ?_))
     refine wv (vf Qbs rfl Qh) ?_
     refine wv (vl 5 0 Qt) ?_
     refine wv Qcf ?_
     refine nt' ?_
     refine Ql rfl g38 ?_
     refine Qod (n := 3) rfl (by omega) ?_
     rintro g172 rfl
     let K25 : List Value := [.slice (some ⟨g172, 0, none⟩) x0.Segments.length c23, .int .i64 (IntKind.i64.wrap (x0.Now + 1))]
     let I42 : It := Qd (tSl Qg 3) [.slice (some ⟨g171, 0, none⟩) x1.Row.Values.length c111] (x1.Row.Values.set (x1.Field.toNat) x1.Value)
     refine Qoc (E := (tSl Qm 191)) (e := 131) (A := (some ⟨g172, 0, none⟩)) (n := x0.Segments.length) (c := c23) (xs := x0.Segments) (k := ((Qbq x0).toNat)) (js := [I42, Qa p114 191 K24, Qa p26 42 K25, Qa p19 42 [.slice none 0 0, .int .i64 0], Qa p18 75 K1, I32]) (by omega) (pk [3, 0, 1, 2, 4, 5, 6]) (fun ck173 => ?_)
     refine Qiq (γ := Value) (js := fun g => [Qd (tSl Qm 191) [g] (gt x0.Segments ((Qbq x0).toNat))]) (C := fun g => ck173 = [g]) (fun _ _ h => Qhy h) ?_
     rintro v174 rfl
     refine Qel (n := 0) rfl ?_
     rintro A175 c176 rfl m177
     let K26 : List Value := [.slice A175 (gt x0.Segments ((Qbq x0).toNat)).length c176]
     refine rd2 13 [12] (s := [Qa p114 191 K24, Qa p26 42 K25, Qa p19 42 [.slice none 0 0, .int .i64 0], Qa p18 75 K1, I32]) (s2 := [Qao (tSl Qm 191) 131 (some ⟨g172, 0, none⟩) x0.Segments.length c23 x0.Segments ((Qbq x0).toNat) K26, Qa p114 191 K24, Qa p26 42 K25, Qa p19 42 [.slice none 0 0, .int .i64 0], Qa p18 75 K1, I32]) (pk [3, 4, 5, 6, 7]) (pk [1, 3, 4, 5, 6, 7]) ?_
     refine qtD 13 0 1 rfl (vf Qaf rfl Qcu) ?_
     refine qtD 13 1 3 rfl (vl 2 0 Qas) ?_
     refine qtD 13 2 7 rfl vmv ?_
     refine qtD 13 3 15 rfl (vf Qaf rfl Qcu) ?_
     refine qtD 13 4 31 rfl (vl 2 0 Qas) ?_
     refine qtD 13 5 63 rfl vmv ?_
     refine qtD 13 6 127 rfl (fun W hm => Qfg (sz := 1) (k := (Qbq x0)) Qas Qda rfl rfl rfl (by omega) (by omega)) ?_
     refine qtD 13 7 255 rfl (fun W hm => Qaw Qav rfl rfl (hm.focInt (i := 0) rfl rfl)) ?_
     refine qtD 13 8 511 rfl (fun W hm => Qz (cs := K24) Qbe Qar rfl rfl (hm.boxCells (n := 1) rfl)) ?_
     refine qoD 13 9 1023 rfl ?_
     refine Qfb (cs := K24) Qav Qar rfl (by decide) (by decide) rfl (by kernel_rfl) (Qo rfl) (by decide) (fun p179 => ?_)
     refine qnD (pk [4, 5, 6, 7, 8]) (pk [2, 4, 5, 6, 7, 8]) ?_
     refine qoD 13 10 2047 rfl ?_
     refine ap1 Qm 191 (.slice A175 (gt x0.Segments ((Qbq x0).toNat)).length c176) (gt x0.Segments ((Qbq x0).toNat)) (⟨x1.Row.Id, (x1.Row.Values.set (x1.Field.toNat) x1.Value), (IntKind.i64.wrap (x0.Now + 1)), (-1)⟩ : Qn) [I42] [Qao (tSl Qm 191) 131 (some ⟨g172, 0, none⟩) x0.Segments.length c23 x0.Segments ((Qbq x0).toNat) K26, Qa p114 191 K24, Qa p26 42 K25, Qa p19 42 [.slice none 0 0, .int .i64 0], Qa p18 75 K1, I32] K24 (pk [0, 1, 3, 2, 4, 5, 6, 7, 8]) (fun _ _ hs => Els.single (Qfs (x := (⟨x1.Row.Id, (x1.Row.Values.set (x1.Field.toNat) x1.Value), (IntKind.i64.wrap (x0.Now + 1)), (-1)⟩ : Qn)) hs)) Qav Qar (show ((gt x0.Segments ((Qbq x0).toNat)).length + 1) * 48 ≤ 140737488355328 from by first | omega | (have hx := Qkm (xs := x0.Segments) (i := (Qw x0 x1.Row.Id).1.toNat) (y := Qdp x0 x1) List.length_set ((Qbq x0).toNat); omega)) (fun v180 => ?_)
     refine Qs (n := 0) rfl ?_
     rintro A181 c182 rfl m183
     refine qnD (pk [2, 3, 4, 5, 6]) (pk [1, 2, 3, 4, 5, 6]) ?_
     refine qtD 13 11 4095 rfl (fun W hm => Qfg (sz := 1) (k := (Qbq x0)) Qas Qda rfl rfl rfl (by omega) (by omega)) ?_
     refine qoD 13 12 8191 rfl ?_
     let K27 : List Value := [.slice A181 ((gt x0.Segments ((Qbq x0).toNat)) ++ [(⟨x1.Row.Id, (x1.Row.Values.set (x1.Field.toNat) x1.Value), (IntKind.i64.wrap (x0.Now + 1)), (-1)⟩ : Qn)]).length c182]
     let I43 : It := Qd (tSl Qm 191) K27 ((gt x0.Segments ((Qbq x0).toNat)) ++ [(⟨x1.Row.Id, (x1.Row.Values.set (x1.Field.toNat) x1.Value), (IntKind.i64.wrap (x0.Now + 1)), (-1)⟩ : Qn)])
     refine sf 0 1 K27 [I43, Qa p114 191 K24, Qa p26 42 K25, Qa p19 42 [.slice none 0 0, .int .i64 0], Qa p18 75 K1, I32] (pk [1, 0, 2, 3, 4, 5, 6]) Qda ?_
     refine qxD (pk [2, 3, 4, 5, 6]) ?_
     refine Qef (by kernel_rfl) ?_
     refine Qi (Qf ?_)
     refine Qdf (pk [0, 1, 3, 4]) ?_
     refine Qad ?_
     refine wv (fun W hm => Qz (cs := K25) Qaf Qae rfl rfl (hm.boxCells (n := 2) rfl)) ?_
     refine sb 0 K25 [Qao (tSl Qm 191) 131 (some ⟨g172, 0, none⟩) x0.Segments.length c23 x0.Segments ((Qbq x0).toNat) K27, I43, Qa p26 42 K25] (pk [3, 0, 1, 2]) Qae ?_
     refine wa (nt' (Qj ?_))
     refine Qdu (fun W hm => Mem.unfocus (Mem.join (is := [I43]) (js := (Qao (tSl Qm 191) 131 (some ⟨g172, 0, none⟩) x0.Segments.length c23 x0.Segments ((Qbq x0).toNat) K27 :: [Qa p19 42 K25, Qa p26 42 K25])) (fun _ _ hs => Sep.one hs) (hm.pick [2, 1, 0, 3] (by decide)))) ?_
     have he185 := (show Qea x0 x1 = ((⟨(Qsc x0 x1), (IntKind.i64.wrap (x0.Now + 1))⟩ : Qx), true) from Qb g28 (Qb g30 (Qc g32 (Qc g35 (Qb g38 (Qc g105 (Qc g118 (Qb g170 (rfl)))))))))
     refine Qdx rfl (Qcp (n := 1) rfl rfl Qaf Qae rfl) (Qcv rfl) (fun W hm => ⟨K25, ?_, ?_⟩)
     ·first | rw [he185] | rfl
      try rfl
     rw [he185]; exact Mem.join (is := [Qd (tSl (tSl Qm 191) 131) [.slice (some ⟨g172, 0, none⟩) x0.Segments.length c23] (Qsc x0 x1)]) (js := []) (fun _ _ hs => Qed (x := (⟨(Qsc x0 x1), (IntKind.i64.wrap (x0.Now + 1))⟩ : Qx)) hs) (hm.pick [0] (by decide))
    have g170 := beq_eq_false_iff_ne.2 h169
    refine Qp rfl g170 ?_
    refine Qq (Qi (Qf (sr ?_)))
    refine wv (vf Qbs rfl Qh) ?_
    refine wv (vl 5 0 Qt) ?_
    refine wv Qcf ?_
    refine nt' ?_
    refine Ql rfl g38 ?_
    refine Qod (n := 3) rfl (by omega) ?_
    rintro g186 rfl
    let K28 : List Value := [.slice (some ⟨g186, 0, none⟩) x0.Segments.length c23, .int .i64 (IntKind.i64.wrap (x0.Now + 1))]
    refine Qoc (E := (tSl Qm 191)) (e := 131) (A := (some ⟨g186, 0, none⟩)) (n := x0.Segments.length) (c := c23) (xs := x0.Segments) (k := ((Qbq x0).toNat)) (js := [Qa p114 191 K12, I36, Qa p26 42 K28, Qa p19 42 [.slice none 0 0, .int .i64 0], Qa p18 75 K1, I32]) (by omega) (pk [3, 0, 1, 2, 4, 5, 6]) (fun ck187 => ?_)
    refine Qiq (γ := Value) (js := fun g => [Qd (tSl Qm 191) [g] (gt x0.Segments ((Qbq x0).toNat))]) (C := fun g => ck187 = [g]) (fun _ _ h => Qhy h) ?_
    rintro v188 rfl
    refine Qel (n := 0) rfl ?_
    rintro A189 c190 rfl m191
    let K29 : List Value := [.slice A189 (gt x0.Segments ((Qbq x0).toNat)).length c190]
    refine rd2 13 [12] (s := [Qa p114 191 K12, Qa p26 42 K28, Qa p19 42 [.slice none 0 0, .int .i64 0], Qa p18 75 K1, I32]) (s2 := [Qao (tSl Qm 191) 131 (some ⟨g186, 0, none⟩) x0.Segments.length c23 x0.Segments ((Qbq x0).toNat) K29, Qa p114 191 K12, Qa p26 42 K28, Qa p19 42 [.slice none 0 0, .int .i64 0], Qa p18 75 K1, I32]) (pk [2, 4, 5, 6, 7]) (pk [1, 2, 4, 5, 6, 7]) ?_
    refine qtD 13 0 1 rfl (vf Qaf rfl Qcu) ?_
    refine qtD 13 1 3 rfl (vl 2 0 Qas) ?_
    refine qtD 13 2 7 rfl vmv ?_
    refine qtD 13 3 15 rfl (vf Qaf rfl Qcu) ?_
    refine qtD 13 4 31 rfl (vl 2 0 Qas) ?_
    refine qtD 13 5 63 rfl vmv ?_
    refine qtD 13 6 127 rfl (fun W hm => Qfg (sz := 1) (k := (Qbq x0)) Qas Qda rfl rfl rfl (by omega) (by omega)) ?_
    refine qtD 13 7 255 rfl (fun W hm => Qaw Qav rfl rfl (hm.focInt (i := 0) rfl rfl)) ?_
    refine qtD 13 8 511 rfl (fun W hm => Qz (cs := K12) Qbe Qar rfl rfl (hm.boxCells (n := 1) rfl)) ?_
    refine qoD 13 9 1023 rfl ?_
    refine Qfb (cs := K12) Qav Qar rfl (by decide) (by decide) rfl (by kernel_rfl) (Qo rfl) (by decide) (fun p193 => ?_)
    refine qnD (pk [3, 5, 6, 7, 8]) (pk [2, 3, 5, 6, 7, 8]) ?_
    refine qoD 13 10 2047 rfl ?_
    refine ap1 Qm 191 (.slice A189 (gt x0.Segments ((Qbq x0).toNat)).length c190) (gt x0.Segments ((Qbq x0).toNat)) (⟨x1.Row.Id, x1.Row.Values, (IntKind.i64.wrap (x0.Now + 1)), (-1)⟩ : Qn) [I36] [Qao (tSl Qm 191) 131 (some ⟨g186, 0, none⟩) x0.Segments.length c23 x0.Segments ((Qbq x0).toNat) K29, Qa p114 191 K12, Qa p26 42 K28, Qa p19 42 [.slice none 0 0, .int .i64 0], Qa p18 75 K1, I32] K12 (pk [0, 1, 4, 2, 3, 5, 6, 7, 8]) (fun _ _ hs => Els.single (Qfs (x := (⟨x1.Row.Id, x1.Row.Values, (IntKind.i64.wrap (x0.Now + 1)), (-1)⟩ : Qn)) hs)) Qav Qar (show ((gt x0.Segments ((Qbq x0).toNat)).length + 1) * 48 ≤ 140737488355328 from by first | omega | (have hx := Qkm (xs := x0.Segments) (i := (Qw x0 x1.Row.Id).1.toNat) (y := Qdp x0 x1) List.length_set ((Qbq x0).toNat); omega)) (fun v194 => ?_)
    refine Qs (n := 0) rfl ?_
    rintro A195 c196 rfl m197
    refine qnD (pk [2, 3, 4, 5, 6]) (pk [1, 2, 3, 4, 5, 6]) ?_
    refine qtD 13 11 4095 rfl (fun W hm => Qfg (sz := 1) (k := (Qbq x0)) Qas Qda rfl rfl rfl (by omega) (by omega)) ?_
    refine qoD 13 12 8191 rfl ?_
    let K30 : List Value := [.slice A195 ((gt x0.Segments ((Qbq x0).toNat)) ++ [(⟨x1.Row.Id, x1.Row.Values, (IntKind.i64.wrap (x0.Now + 1)), (-1)⟩ : Qn)]).length c196]
    let I44 : It := Qd (tSl Qm 191) K30 ((gt x0.Segments ((Qbq x0).toNat)) ++ [(⟨x1.Row.Id, x1.Row.Values, (IntKind.i64.wrap (x0.Now + 1)), (-1)⟩ : Qn)])
    refine sf 0 1 K30 [I44, Qa p114 191 K12, Qa p26 42 K28, Qa p19 42 [.slice none 0 0, .int .i64 0], Qa p18 75 K1, I32] (pk [1, 0, 2, 3, 4, 5, 6]) Qda ?_
    refine qxD (pk [2, 3, 4, 5, 6]) ?_
    refine Qef (by kernel_rfl) ?_
    refine Qi (Qf ?_)
    refine Qdf (pk [0, 1, 3, 4]) ?_
    refine Qad ?_
    refine wv (fun W hm => Qz (cs := K28) Qaf Qae rfl rfl (hm.boxCells (n := 2) rfl)) ?_
    refine sb 0 K28 [Qao (tSl Qm 191) 131 (some ⟨g186, 0, none⟩) x0.Segments.length c23 x0.Segments ((Qbq x0).toNat) K30, I44, Qa p26 42 K28] (pk [3, 0, 1, 2]) Qae ?_
    refine wa (nt' (Qj ?_))
    refine Qdu (fun W hm => Mem.unfocus (Mem.join (is := [I44]) (js := (Qao (tSl Qm 191) 131 (some ⟨g186, 0, none⟩) x0.Segments.length c23 x0.Segments ((Qbq x0).toNat) K30 :: [Qa p19 42 K28, Qa p26 42 K28])) (fun _ _ hs => Sep.one hs) (hm.pick [2, 1, 0, 3] (by decide)))) ?_
    have he199 := (show Qea x0 x1 = ((⟨(x0.Segments.set ((Qbq x0).toNat) ((gt x0.Segments ((Qbq x0).toNat)) ++ [(⟨x1.Row.Id, x1.Row.Values, (IntKind.i64.wrap (x0.Now + 1)), (-1)⟩ : Qn)])), (IntKind.i64.wrap (x0.Now + 1))⟩ : Qx), true) from Qb g28 (Qb g30 (Qc g32 (Qc g35 (Qb g38 (Qc g105 (Qc g118 (Qc g170 (rfl)))))))))
    refine Qdx rfl (Qcp (n := 1) rfl rfl Qaf Qae rfl) (Qcv rfl) (fun W hm => ⟨K28, ?_, ?_⟩)
    ·first | rw [he199] | rfl
     try rfl
    rw [he199]; exact Mem.join (is := [Qd (tSl (tSl Qm 191) 131) [.slice (some ⟨g186, 0, none⟩) x0.Segments.length c23] (x0.Segments.set ((Qbq x0).toNat) ((gt x0.Segments ((Qbq x0).toNat)) ++ [(⟨x1.Row.Id, x1.Row.Values, (IntKind.i64.wrap (x0.Now + 1)), (-1)⟩ : Qn)]))]) (js := []) (fun _ _ hs => Qed (x := (⟨(x0.Segments.set ((Qbq x0).toNat) ((gt x0.Segments ((Qbq x0).toNat)) ++ [(⟨x1.Row.Id, x1.Row.Values, (IntKind.i64.wrap (x0.Now + 1)), (-1)⟩ : Qn)])), (IntKind.i64.wrap (x0.Now + 1))⟩ : Qx)) hs) (hm.pick [0] (by decide))
   refine qtD 13 0 1 rfl (vf Qbs rfl Qcc) ?_
   refine qtD 13 1 3 rfl (fun W hm => Qdy (o := 1) Qde rfl Qh (by decide) rfl rfl) ?_
   refine qtD 13 2 7 rfl (vl 3 1 Qt) ?_
   refine qtD 13 4 23 rfl (vf Qbs rfl Qcc) ?_
   refine qtD 13 5 55 rfl (fun W hm => Qdy (o := 2) Qde rfl Qap (by decide) rfl rfl) ?_
   refine qtD 13 6 119 rfl (vl 3 2 Qv) ?_
   refine qtD 13 8 375 rfl (vf Qaf rfl Qh) ?_
   refine qtD 13 9 887 rfl (vl 0 1 Qt) ?_
   refine qaD [3, 11] ?_
   refine qcD 13 895 rfl ?_ ?_
   ·
    refine Qdb (E := Qg) Qv Qh (Qo rfl) (by decide) (fun p200 => ?_)
    refine qnD (pk [1, 2, 3, 4, 5]) (pk [1, 2, 3, 4, 5]) ?_
    refine qaD [7, 11] ?_
    refine qcD 13 1023 rfl ?_ ?_
    ·
     refine apR Qg Qg 3 (.slice (some ⟨p200, 0, none⟩) 0 0) [] x1.Row.Values [Qa p26 42 K11, I31, Qa p19 42 [.slice none 0 0, .int .i64 0], Qa p18 75 K1, I32] (fun W hm => hm) (fun W hm => Qdk Qcw (hm.rdS0 r14)) Qv Qh (show (0 + x1.Row.Values.length) * 8 ≤ 140737488355328 from by omega) (fun v202 => ?_)
     refine Qs (n := 0) rfl ?_
     rintro A203 c204 rfl m205
     refine qnD (pk [1, 2, 3, 4, 5]) (pk [1, 2, 3, 4, 5]) ?_
     refine qtD 13 10 2047 rfl (fun W hm => Qeq (cs := [.int .i64 x1.Row.Id, .slice A203 x1.Row.Values.length c204, .int .i64 (IntKind.i64.wrap (x0.Now + 1)), .int .i64 (-1)]) rfl (by kernel_rfl)) ?_
     refine qoD 13 11 4095 rfl ?_
     refine Qbo Qar rfl (Qo rfl) (by decide) (fun p207 => ?_)
     refine qnD (pk [2, 3, 4, 5, 6]) (pk [2, 3, 4, 5, 6]) ?_
     exact Qdw sl8 (fun W hm => hm) (H (A203, c204, p207))
    refine qcD 13 2943 rfl ?_ ?_
    ·
     refine Qbo Qar rfl (Qo rfl) (by decide) (fun p208 => ?_)
     refine qnD (pk [2, 3, 4, 5, 6]) (pk [2, 3, 4, 5, 6]) ?_
     refine qoD 13 7 3071 rfl ?_
     refine apR Qg Qg 3 (.slice (some ⟨p200, 0, none⟩) 0 0) [] x1.Row.Values [Qa p208 191 [.int .i64 0, .slice none 0 0, .int .i64 0, .int .i64 0], Qa p26 42 K11, I31, Qa p19 42 [.slice none 0 0, .int .i64 0], Qa p18 75 K1, I32] (pk [1, 0, 2, 3, 4, 5, 6]) (fun W hm => Qdk Qcw (hm.rdS0 r14)) Qv Qh (show (0 + x1.Row.Values.length) * 8 ≤ 140737488355328 from by omega) (fun v209 => ?_)
     refine Qs (n := 0) rfl ?_
     rintro A210 c211 rfl m212
     refine qnD (pk [2, 3, 4, 5, 6]) (pk [2, 3, 4, 5, 6]) ?_
     refine qtD 13 10 4095 rfl (fun W hm => Qeq (cs := [.int .i64 x1.Row.Id, .slice A210 x1.Row.Values.length c211, .int .i64 (IntKind.i64.wrap (x0.Now + 1)), .int .i64 (-1)]) rfl (by kernel_rfl)) ?_
     exact Qdw sl8 (pk [1, 0, 2, 3, 4, 5, 6]) (H (A210, c211, p208))
    exact Qek
   refine qcD 13 2935 rfl ?_ ?_
   ·
    refine Qbo Qar rfl (Qo rfl) (by decide) (fun p214 => ?_)
    refine qnD (pk [1, 2, 3, 4, 5]) (pk [1, 2, 3, 4, 5]) ?_
    refine qoD 13 3 2943 rfl ?_
    refine Qdb (E := Qg) Qv Qh (Qo rfl) (by decide) (fun p215 => ?_)
    refine qnD (pk [2, 3, 4, 5, 6]) (pk [2, 3, 4, 5, 6]) ?_
    refine qoD 13 7 3071 rfl ?_
    refine apR Qg Qg 3 (.slice (some ⟨p215, 0, none⟩) 0 0) [] x1.Row.Values [Qa p214 191 [.int .i64 0, .slice none 0 0, .int .i64 0, .int .i64 0], Qa p26 42 K11, I31, Qa p19 42 [.slice none 0 0, .int .i64 0], Qa p18 75 K1, I32] (fun W hm => hm) (fun W hm => Qdk Qcw (hm.rdS0 r14)) Qv Qh (show (0 + x1.Row.Values.length) * 8 ≤ 140737488355328 from by omega) (fun v217 => ?_)
    refine Qs (n := 0) rfl ?_
    rintro A218 c219 rfl m220
    refine qnD (pk [2, 3, 4, 5, 6]) (pk [2, 3, 4, 5, 6]) ?_
    refine qtD 13 10 4095 rfl (fun W hm => Qeq (cs := [.int .i64 x1.Row.Id, .slice A218 x1.Row.Values.length c219, .int .i64 (IntKind.i64.wrap (x0.Now + 1)), .int .i64 (-1)]) rfl (by kernel_rfl)) ?_
    exact Qdw sl8 (pk [1, 0, 2, 3, 4, 5, 6]) (H (A218, c219, p214))
   exact Qek
  refine ws (nf g30) ?_
  refine ws (nf g30) ?_
  refine ws (nf g30) ?_
  refine wv (vpT (nf g30)) ?_
  refine nt' ?_
  refine Ql rfl rfl ?_
  refine sr ?_
  refine wv (fun W hm => Qz (cs := [.slice A22 x0.Segments.length c23, .int .i64 x0.Now]) Qaf Qae rfl rfl (hm.boxCells (n := 0) rfl)) ?_
  refine sb 0 [.slice A22 x0.Segments.length c23, .int .i64 x0.Now] [Qa p26 42 [.slice A22 x0.Segments.length c23, .int .i64 x0.Now], I31, Qa p18 75 K1, I32] (pk [2, 0, 1, 3, 4]) Qae ?_
  refine wa (nt' (Qj (Qe ?_)))
  have he222 := (show Qea x0 x1 = (x0, false) from Qb g28 (Qc g30 (rfl)))
  refine Qdx rfl (Qcp (n := 0) rfl rfl Qaf Qae rfl) (Qcv rfl) (fun W hm => ⟨[.slice A22 x0.Segments.length c23, .int .i64 x0.Now], ?_, ?_⟩)
  ·first | rw [he222] | rfl
   try rfl
  rw [he222]; exact Mem.join (is := [I31]) (js := []) (fun _ _ hs => Qed (x := x0) hs) (hm.pick [2] (by decide))
 refine ws (nf g28) ?_
 refine ws (nf g28) ?_
 refine ws (nf g28) ?_
 refine wv (vpT (nf g28)) ?_
 refine wm ?_
 refine wk ?_
 refine wk ?_
 refine wk ?_
 refine wv (vpT rfl) ?_
 refine nt' ?_
 refine Ql rfl rfl ?_
 refine sr ?_
 refine wv (fun W hm => Qz (cs := [.slice A22 x0.Segments.length c23, .int .i64 x0.Now]) Qaf Qae rfl rfl (hm.boxCells (n := 0) rfl)) ?_
 refine sb 0 [.slice A22 x0.Segments.length c23, .int .i64 x0.Now] [Qa p26 42 [.slice A22 x0.Segments.length c23, .int .i64 x0.Now], I31, Qa p18 75 K1, I32] (pk [2, 0, 1, 3, 4]) Qae ?_
 refine wa (nt' (Qj (Qe ?_)))
 have he223 := (show Qea x0 x1 = (x0, false) from Qc g28 (rfl))
 refine Qdx rfl (Qcp (n := 0) rfl rfl Qaf Qae rfl) (Qcv rfl) (fun W hm => ⟨[.slice A22 x0.Segments.length c23, .int .i64 x0.Now], ?_, ?_⟩)
 ·first | rw [he223] | rfl
  try rfl
 rw [he223]; exact Mem.join (is := [I31]) (js := []) (fun _ _ hs => Qed (x := x0) hs) (hm.pick [2] (by decide))

def Qsh (x0 : Qn) (x1 : Int) : Bool :=
 cond (decide (x0.Born ≤ x1)) (cond (x0.Died == (-1)) true (decide (x1 < x0.Died))) false
theorem Qaif : Cb Tryz.prog 226 := ⟨f226, _, func226, rfl, by decide⟩
theorem Qarr (w : World) (z0 : List Value) (x0 : Qn) (x1 : Int) (r_0 : Qm.rd w w.heap.size z0 x0) :
  Calls Tryz.prog 226 #[.agg z0.toArray, .int .i64 x1] w fun e w' => e = .returned (.bool (Qsh x0 x1)) ∧ Below w.heap.size w w' := by
 obtain ⟨v1, rfl, r2⟩ := Qfm r_0
 obtain ⟨m3, A4, c5, rfl, q6, r7⟩ := Qk r2
 refine ce2 (L := [(0, .agg #[.int .i64 x0.Id, .slice A4 x0.Values.length c5, .int .i64 x0.Born, .int .i64 x0.Died]), (1, .int .i64 x1)]) (N := 20) func226 ?_
 refine sr ?_
 refine Qbj rfl (Qo rfl) (by decide) (fun p8 => ?_)
 refine wa (nt' (sr ?_))
 refine wv (vf Qbe rfl Qh) ?_
 refine wv (vl 0 2 Qt) ?_
 refine wm ?_
 refine wv (fun W hm => Qgv rfl rfl) ?_
 refine wm ?_
 by_cases h9 : x0.Born ≤ x1
 ·have g10 := decide_eq_true h9
  refine wg (vf Qbe rfl Qh) g10 ?_
  refine wg (vl 0 3 Qt) g10 ?_
  refine wg (fun W hm => Qdj rfl rfl) g10 ?_
  refine wg vmv g10 ?_
  by_cases h11 : x0.Died = (-1)
  ·have g12 := beq_iff_eq.2 h11
   refine ws g12 ?_
   refine ws g12 ?_
   refine ws g12 ?_
   refine ws g12 ?_
   refine wg (vpT g12) g10 ?_
   refine wv (vpT g10) ?_
   refine wa (nt' (Qj ?_))
   exact rtb (h := Qb g10 (Qb g12 (rfl)))
  have g12 := beq_eq_false_iff_ne.2 h11
  refine wg (vf Qbe rfl Qh) g12 ?_
  refine wg (vl 0 3 Qt) g12 ?_
  refine wg vmv g12 ?_
  refine wg (fun W hm => Qfy rfl rfl) g12 ?_
  refine wg (vpF g12) g10 ?_
  refine wv (vpT g10) ?_
  refine wa (nt' (Qj ?_))
  exact rtb (h := Qb g10 (Qc g12 (rfl)))
 have g10 := decide_eq_false h9
 refine ws g10 ?_
 refine ws g10 ?_
 refine ws g10 ?_
 refine ws g10 ?_
 refine wu ?_
 refine wu ?_
 refine wu ?_
 refine wu ?_
 refine ws g10 ?_
 refine wv (vpF g10) ?_
 refine wa (nt' (Qj ?_))
 exact rtb (h := Qc g10 (rfl))

def Qwi (x1 : (List Int)) (k26 : Nat) (d28 : (List (List Qn))) (k44 : Nat) (k63 : Nat) (s64 : Bool) : (Qx × Int) ⊕ (Bool) :=
 cond s64 (Sum.inr true) (Sum.inr (Qsh (gt (gt d28 k26) k44) (gt x1 k63)))
def Qwh (x1 : (List Int)) (k26 : Nat) (d28 : (List (List Qn))) (k44 : Nat) (s45 : Int) (d46 : (List Qn)) : (Qx × Int) ⊕ (Int × (List Qn)) :=
 Sum.elim Sum.inl (fun (s : Bool) => cond s (Sum.inr (s45, (d46 ++ [(gt (gt d28 k26) k44)]))) (Sum.inr ((IntKind.i64.wrap (s45 + 1)), d46))) (rng (R := (Qx × Int)) (fun k (s : Bool) => Qwi x1 k26 d28 k44 k s) (x1.length - 0) 0 (((gt (gt d28 k26) k44).Died) == (-1)))
def Qqn (x1 : (List Int)) (k26 : Nat) (s27 : Int) (d28 : (List (List Qn))) : (Qx × Int) ⊕ (Int × (List (List Qn))) :=
 Sum.elim Sum.inl (fun (s : Int × (List Qn)) => Sum.inr (s.1, (d28.set k26 s.2))) (rng (R := (Qx × Int)) (fun k (s : Int × (List Qn)) => Qwh x1 k26 d28 k s.1 s.2) ((gt d28 k26).length - 0) 0 (s27, []))
def Qgh (x0 : Qx) (x1 : (List Int)) : (Qx × Int) :=
 cond (Qhd x0) (Sum.elim id (fun (s : Int × (List (List Qn))) => ((⟨s.2, x0.Now⟩ : Qx), s.1)) (rng (R := (Qx × Int)) (fun k (s : Int × (List (List Qn))) => Qqn x1 k s.1 s.2) (x0.Segments.length - 0) 0 (0, x0.Segments))) (x0, 0)
theorem Qahj : Cb Tryz.prog 193 := ⟨f193, _, func193, rfl, by decide⟩
theorem Qars (w : World) (z0 : List Value) (x0 : Qx) (z1 : Value) (x1 : (List Int)) (r_0 : Qcz.rd w w.heap.size z0 x0) (r_1 : rdS Qg w w.heap.size z1 x1) (s_0 : Qfl 68719476736 x0) (s_1 : x1.length ≤ 68719476736) :
  Calls Tryz.prog 193 #[.agg z0.toArray, z1] w fun e w' => ∃ v : List Value, e = .returned (.tuple #[.agg v.toArray, .int .i64 ((Qgh x0 x1).2)]) ∧ Mem w.heap.size w [Qd Qcz v (Qgh x0 x1).1] w' := by
 obtain ⟨v1, rfl, r2⟩ := Qgy r_0
 obtain ⟨m3, A4, c5, rfl, q6, r7⟩ := Qk r2
 obtain ⟨m8, A9, c10, rfl, q11, r12⟩ := Qk r_1
 have l13 : x0.Segments.length ≤ 68719476736 := s_0.1
 have l14 : x1.length ≤ 68719476736 := s_1
 refine ce2 (L := [(0, .agg #[.slice A4 x0.Segments.length c5, .int .i64 x0.Now]), (1, .slice A9 x1.length c10)]) (N := 78) func193 ?_
 refine sr ?_
 refine Qbj rfl (Qo rfl) (by decide) (fun p15 => ?_)
 refine Qbo Qae rfl (Qo rfl) (by decide) (fun p16 => ?_)
 refine wa (nt' (sr ?_))
 refine wv (fun W hm => Qz (cs := [.slice A4 x0.Segments.length c5, .int .i64 x0.Now]) Qaf Qae rfl rfl (hm.boxCells (n := 1) rfl)) ?_
 refine wcs Qcz x0 (Qr Qms rfl) (fun W hm => Qnl W _ x0 (Qeg (x := x0) (hm.rdS0 r7)) s_0) (fun z17 => ?_)
 refine Qgd ?_
 rintro v18 rfl
 refine Qs (n := 0) rfl ?_
 rintro A19 c20 rfl m21
 refine Qbo Qae rfl (Qo rfl) (by decide) (fun p23 => ?_)
 let I9 : It := Qd (tSl (tSl Qm 191) 131) [.slice A19 x0.Segments.length c20] x0.Segments
 let I10 : It := Qa p15 42 [.slice A4 x0.Segments.length c5, .int .i64 x0.Now]
 refine sb 0 [.slice A19 x0.Segments.length c20, .int .i64 x0.Now] [I9, Qa p16 42 [.slice none 0 0, .int .i64 0], I10] (fun W hm => hm) Qae ?_
 refine nt' (Qf (sr ?_))
 refine wv (fun W hm => Qz (cs := [.slice A4 x0.Segments.length c5, .int .i64 x0.Now]) Qaf Qae rfl rfl (hm.boxCells (n := 3) rfl)) ?_
 refine wcv (Qr Qtj rfl) (fun W hm => Qwg W _ x0 (Qeg (x := x0) (hm.rdS0 r7)) s_0) ?_
 refine wv Qbr ?_
 refine nt' ?_
 rcases Bool.eq_false_or_eq_true (Qhd x0) with g25 | g25
 ·
  refine Qp rfl (nt g25) ?_
  refine Qq (Qi (sr (wa (nt' (Qf (sr (wa (nt' (Qab ?_)))))))))
  let F1 := fun k (s : Int × (List (List Qn))) => Qqn x1 k s.1 s.2
  let R4 := rng (R := (Qx × Int)) F1
  let I11 : It := Qa p23 42 [.slice A19 x0.Segments.length c20, .int .i64 x0.Now]
  refine Qbl (σ := Nat × (Int × (List (List Qn))) × (Unit)) (fun s => [(1, .slice A9 x1.length c10), (2, .pointer (some (⟨p15, 0, none⟩ : Addr))), (4, .pointer (some (⟨p16, 0, none⟩ : Addr))), (6, .pointer (some (⟨p23, 0, none⟩ : Addr))), (7, .int .i64 s.2.1.1), (8, .int .i64 ((s.1 : Nat) : Int))]) (fun s => [I11, Qd (tSl (tSl Qm 191) 131) [.slice A19 x0.Segments.length c20] s.2.1.2, Qa p16 42 [.slice none 0 0, .int .i64 0], I10]) (fun s => s.1 ≤ x0.Segments.length ∧ R4 (x0.Segments.length - s.1) s.1 s.2.1 = R4 (x0.Segments.length - 0) 0 (0, x0.Segments) ∧ ∀ j, s.1 ≤ j → gt s.2.1.2 j = gt x0.Segments j) (fun s => x0.Segments.length - s.1) (0, (0, x0.Segments), ()) sl6 (fun W hm => hm) ⟨(by omega), rfl, (fun _ _ => rfl)⟩ ?_
  rintro ⟨k26, ⟨s27, d28⟩, ⟨⟩⟩ H31
  obtain ⟨hk29, hF30, hi32⟩ : k26 ≤ x0.Segments.length ∧ R4 (x0.Segments.length - k26) k26 (s27, d28) = R4 (x0.Segments.length - 0) 0 (0, x0.Segments) ∧ ∀ j, k26 ≤ j → gt d28 j = gt x0.Segments j := H31
  let I12 : It := Qd (tSl (tSl Qm 191) 131) [.slice A19 x0.Segments.length c20] d28
  show CM Tryz.prog 78 _ _ _ _ [(1, .slice A9 x1.length c10), (2, .pointer (some (⟨p15, 0, none⟩ : Addr))), (4, .pointer (some (⟨p16, 0, none⟩ : Addr))), (6, .pointer (some (⟨p23, 0, none⟩ : Addr))), (7, .int .i64 s27), (8, .int .i64 ((k26 : Nat) : Int))] [I11, I12, Qa p16 42 [.slice none 0 0, .int .i64 0], I10]
  refine Qf (sr (wm ?_))
  refine wv (vf Qaf rfl Qcu) ?_
  refine wv (vl 3 0 Qas) ?_
  refine wv (Qai Qas) ?_
  refine wv Qak ?_
  refine nt' ?_
  by_cases hl33 : k26 < x0.Segments.length
  ·have g34 := dlT hl33
   have hq1 : (gt d28 k26).length ≤ 68719476736 := by rw [hi32 k26 (Nat.le_refl _)]; exact (s_0.2 _ (Qbh (by omega))).1
   refine Ql rfl g34 ?_
   refine Qq (Qi (Qf (Qab (sr ?_))))
   refine Qdb (E := Qm) Qav Qar (Qo rfl) (by decide) (fun p35 => ?_)
   refine wa (nt' (Qf (sr (wa (nt' (Qab ?_))))))
   refine Qod (n := 2) rfl (by omega) ?_
   rintro g37 rfl
   let K7 : List Value := [.slice (some ⟨g37, 0, none⟩) x0.Segments.length c20, .int .i64 x0.Now]
   refine Qoc (E := (tSl Qm 191)) (e := 131) (A := (some ⟨g37, 0, none⟩)) (n := x0.Segments.length) (c := c20) (xs := d28) (k := k26) (js := [Qd (tSl Qm 191) [.slice (some ⟨p35, 0, none⟩) 0 0] [], Qa p23 42 K7, Qa p16 42 [.slice none 0 0, .int .i64 0], I10]) (by omega) (pk [2, 0, 1, 3, 4]) (fun ck38 => ?_)
   refine Qiq (γ := Value) (js := fun g => [Qd (tSl Qm 191) [g] (gt d28 k26)]) (C := fun g => ck38 = [g]) (fun _ _ h => Qhy h) ?_
   rintro v39 rfl
   refine Qel (n := 0) rfl ?_
   rintro A40 c41 rfl m42
   refine Qdf (fun W hm => Mem.toRest hm) ?_
   let F2 := fun k (s : Int × (List Qn)) => Qwh x1 k26 d28 k s.1 s.2
   let R5 := rng (R := (Qx × Int)) F2
   refine Qbl (σ := Nat × (Int × (List Qn)) × (Option Addr × Nat)) (fun s => [(1, .slice A9 x1.length c10), (2, .pointer (some (⟨p15, 0, none⟩ : Addr))), (4, .pointer (some (⟨p16, 0, none⟩ : Addr))), (6, .pointer (some (⟨p23, 0, none⟩ : Addr))), (7, .int .i64 s.2.1.1), (8, .int .i64 ((k26 : Nat) : Int)), (9, .slice s.2.2.1 s.2.1.2.length s.2.2.2), (10, .int .i64 ((s.1 : Nat) : Int))]) (fun s => [Qhb Qm 191 A40 ((gt d28 k26).length) (gt d28 k26) s.1, Qao (tSl Qm 191) 131 (some ⟨g37, 0, none⟩) x0.Segments.length c20 d28 k26 [.slice A40 (gt d28 k26).length c41], Qd (tSl Qm 191) [.slice s.2.2.1 s.2.1.2.length s.2.2.2] s.2.1.2, Qa p23 42 K7, Qa p16 42 [.slice none 0 0, .int .i64 0], I10]) (fun s => s.1 ≤ (gt d28 k26).length ∧ R5 ((gt d28 k26).length - s.1) s.1 s.2.1 = R5 ((gt d28 k26).length - 0) 0 (s27, []) ∧ s.2.1.2.length ≤ 0 + s.1) (fun s => (gt d28 k26).length - s.1) (0, (s27, []), ((some ⟨p35, 0, none⟩), 0)) sl8 (fun W hm => hm) ⟨(by omega), rfl, Nat.le_refl _⟩ ?_
   rintro ⟨k44, ⟨s45, d46⟩, ⟨A47, c48⟩⟩ H51
   obtain ⟨hk49, hF50, hi52⟩ : k44 ≤ (gt d28 k26).length ∧ R5 ((gt d28 k26).length - k44) k44 (s45, d46) = R5 ((gt d28 k26).length - 0) 0 (s27, []) ∧ d46.length ≤ 0 + k44 := H51
   let I13 : It := Qd (tSl Qm 191) [.slice A47 d46.length c48] d46
   show CM Tryz.prog 78 _ _ _ _ [(1, .slice A9 x1.length c10), (2, .pointer (some (⟨p15, 0, none⟩ : Addr))), (4, .pointer (some (⟨p16, 0, none⟩ : Addr))), (6, .pointer (some (⟨p23, 0, none⟩ : Addr))), (7, .int .i64 s45), (8, .int .i64 ((k26 : Nat) : Int)), (9, .slice A47 d46.length c48), (10, .int .i64 ((k44 : Nat) : Int))] [Qhb Qm 191 A40 ((gt d28 k26).length) (gt d28 k26) k44, Qao (tSl Qm 191) 131 (some ⟨g37, 0, none⟩) x0.Segments.length c20 d28 k26 [.slice A40 (gt d28 k26).length c41], I13, Qa p23 42 K7, Qa p16 42 [.slice none 0 0, .int .i64 0], I10]
   refine Qf (sr (wm ?_))
   refine wv (vf Qaf rfl Qcu) ?_
   refine wv (vl 3 0 Qas) ?_
   refine wm ?_
   refine wv (vix 1 k26 Qas Qda) ?_
   refine wv (fun W hm => Qaw Qav rfl rfl (hm.focInt (i := 1) rfl rfl)) ?_
   refine wv (Qai Qav) ?_
   refine wv Qak ?_
   refine nt' ?_
   by_cases hl53 : k44 < (gt d28 k26).length
   ·have g54 := dlT hl53
    refine Ql rfl g54 ?_
    refine Qq (Qi (Qf (Qab (sr ?_))))
    refine wv (vf Qaf rfl Qcu) ?_
    refine wv (vl 3 0 Qas) ?_
    refine wm ?_
    refine wv (vix 1 k26 Qas Qda) ?_
    refine wv (fun W hm => Qaw Qav rfl rfl (hm.focInt (i := 1) rfl rfl)) ?_
    refine wm ?_
    refine Qxy (n := 0) rfl (by omega) ?_
    rintro g55 rfl
    refine wv (vix 4 k44 Qav Qar) ?_
    refine Qxz (E := Qm) (e := 191) (A := (some ⟨g55, 0, none⟩)) (n := (gt d28 k26).length) (xs := (gt d28 k26)) (k := k44) (js := [Qao (tSl Qm 191) 131 (some ⟨g37, 0, none⟩) x0.Segments.length c20 d28 k26 [.slice (some ⟨g55, 0, none⟩) (gt d28 k26).length c41], I13, Qa p23 42 K7, Qa p16 42 [.slice none 0 0, .int .i64 0], I10]) (by omega) (fun W hm => hm) (fun ck56 => ?_)
    refine Qmp ?_
    rintro v57 rfl
    refine Qs (n := 0) rfl ?_
    rintro A58 c59 rfl m60
    let K8 : List Value := [.int .i64 ((gt (gt d28 k26) k44).Id), .slice A58 ((gt (gt d28 k26) k44).Values).length c59, .int .i64 ((gt (gt d28 k26) k44).Born), .int .i64 ((gt (gt d28 k26) k44).Died)]
    refine wv (fun W hm => Qz (cs := K8) Qbe Qar rfl rfl (hm.restCells (i := 1) rfl rfl)) ?_
    refine Qbo Qar rfl (Qo rfl) (by decide) (fun p62 => ?_)
    let I14 : It := Qd (tSl Qg 3) [.slice A58 ((gt (gt d28 k26) k44).Values).length c59] ((gt (gt d28 k26) k44).Values)
    refine sb 0 K8 [I14, Qis Qm 191 (some ⟨g55, 0, none⟩) ((gt d28 k26).length) (gt d28 k26) k44 K8, Qao (tSl Qm 191) 131 (some ⟨g37, 0, none⟩) x0.Segments.length c20 d28 k26 [.slice (some ⟨g55, 0, none⟩) (gt d28 k26).length c41], I13, Qa p23 42 K7, Qa p16 42 [.slice none 0 0, .int .i64 0], I10] (fun W hm => hm) Qar ?_
    refine nt' (sr ?_)
    refine wv (vf Qbe rfl Qh) ?_
    refine wv (vl 0 3 Qt) ?_
    refine wv (fun W hm => Qdj rfl rfl) ?_
    refine wa (nt' (Qf (sr (wa (nt' (Qab ?_))))))
    let F3 := fun k (s : Bool) => Qwi x1 k26 d28 k44 k s
    let R6 := rng (R := (Qx × Int)) F3
    refine Qbl (σ := Nat × (Bool) × (Unit)) (fun s => [(1, .slice A9 x1.length c10), (2, .pointer (some (⟨p15, 0, none⟩ : Addr))), (4, .pointer (some (⟨p16, 0, none⟩ : Addr))), (6, .pointer (some (⟨p23, 0, none⟩ : Addr))), (7, .int .i64 s45), (8, .int .i64 ((k26 : Nat) : Int)), (9, .slice A47 d46.length c48), (10, .int .i64 ((k44 : Nat) : Int)), (11, .pointer (some (⟨p62, 0, none⟩ : Addr))), (12, .bool s.2.1), (13, .int .i64 ((s.1 : Nat) : Int))]) (fun s => [Qa p62 191 K8, I14, Qis Qm 191 (some ⟨g55, 0, none⟩) ((gt d28 k26).length) (gt d28 k26) k44 K8, Qao (tSl Qm 191) 131 (some ⟨g37, 0, none⟩) x0.Segments.length c20 d28 k26 [.slice (some ⟨g55, 0, none⟩) (gt d28 k26).length c41], I13, Qa p23 42 K7, Qa p16 42 [.slice none 0 0, .int .i64 0], I10]) (fun s => s.1 ≤ x1.length ∧ R6 (x1.length - s.1) s.1 s.2.1 = R6 (x1.length - 0) 0 (((gt (gt d28 k26) k44).Died) == (-1))) (fun s => x1.length - s.1) (0, (((gt (gt d28 k26) k44).Died) == (-1)), ()) Qwc (fun W hm => hm) ⟨(by omega), rfl⟩ ?_
    rintro ⟨k63, s64, ⟨⟩⟩ H67
    obtain ⟨hk65, hF66⟩ : k63 ≤ x1.length ∧ R6 (x1.length - k63) k63 s64 = R6 (x1.length - 0) 0 (((gt (gt d28 k26) k44).Died) == (-1)) := H67
    show CM Tryz.prog 78 _ _ _ _ [(1, .slice A9 x1.length c10), (2, .pointer (some (⟨p15, 0, none⟩ : Addr))), (4, .pointer (some (⟨p16, 0, none⟩ : Addr))), (6, .pointer (some (⟨p23, 0, none⟩ : Addr))), (7, .int .i64 s45), (8, .int .i64 ((k26 : Nat) : Int)), (9, .slice A47 d46.length c48), (10, .int .i64 ((k44 : Nat) : Int)), (11, .pointer (some (⟨p62, 0, none⟩ : Addr))), (12, .bool s64), (13, .int .i64 ((k63 : Nat) : Int))] [Qa p62 191 K8, I14, Qis Qm 191 (some ⟨g55, 0, none⟩) ((gt d28 k26).length) (gt d28 k26) k44 K8, Qao (tSl Qm 191) 131 (some ⟨g37, 0, none⟩) x0.Segments.length c20 d28 k26 [.slice (some ⟨g55, 0, none⟩) (gt d28 k26).length c41], I13, Qa p23 42 K7, Qa p16 42 [.slice none 0 0, .int .i64 0], I10]
    refine Qf (sr (wm (wm ?_)))
    refine wv (Qai Qv) ?_
    refine wv Qak ?_
    refine nt' ?_
    by_cases hl68 : k63 < x1.length
    ·have g69 := dlT hl68
     refine Ql rfl g69 ?_
     refine Qq (Qi (Qf (Qab ?_)))
     refine Qge (by kernel_rfl) (by kernel_rfl) ?_
     refine qm (qm ?_)
     rcases Bool.eq_false_or_eq_true s64 with g71 | g71
     ·
      refine qs g71 ?_
      refine qs g71 ?_
      refine qs g71 ?_
      refine qs g71 ?_
      refine qs g71 ?_
      refine qs g71 ?_
      refine qv (vpT g71) ?_
      refine qv (fun W hm => Qmk rfl) ?_
      refine Qtc (Qax (Qi (Qad (wm ?_))))
      refine wv (Qbd k63 1 (by omega)) ?_
      refine wa (Qal ?_)
      have hn72 := Qbb (R := (Qx × Int)) (body := F3) (k := k63) (s := s64) (s' := true) (show k63 < x1.length from by omega) (Qb g71 (rfl)) hF66
      exact Qaz (k63 + 1, true, ()) Qwc (fun W hm => hm) ⟨(by omega), hn72⟩ (rl (by omega))
     refine qg (fun W hm => Qz (cs := K8) Qbe Qar rfl rfl (hm.boxCells (n := 0) rfl)) g71 ?_
     refine qg vmv g71 ?_
     refine qg vmv g71 ?_
     obtain ⟨a73, rfl, hb74, he75⟩ := q11 (by omega)
     refine qg (vix 1 k63 Qv Qh) g71 ?_
     refine qg (fun W hm => Qaw Qt rfl rfl ((hm.cell0 (show (a73.add (k63 * 1)).block < w.heap.size from by rw [Qah]; exact hb74.1)).trans (Qex he75 k63 (by omega)))) g71 ?_
     refine Qfu (Qr Qaif rfl) (fun W hm => Qarr W _ (gt (gt d28 k26) k44) (gt x1 k63) (Qgz (x := (gt (gt d28 k26) k44)) (hm.rdSI (n := 1) rfl))) (Qcq rfl rfl rfl (bw g71 rfl)) (by decide) ?_
     refine qv (vpF g71) ?_
     refine qv (fun W hm => Qmk rfl) ?_
     refine Qtc (Qax (Qi (Qad (wm ?_))))
     refine wv (Qbd k63 1 (by omega)) ?_
     refine wa (Qal ?_)
     have hn76 := Qbb (R := (Qx × Int)) (body := F3) (k := k63) (s := s64) (s' := (Qsh (gt (gt d28 k26) k44) (gt x1 k63))) (show k63 < x1.length from by omega) (Qc g71 (rfl)) hF66
     exact Qaz (k63 + 1, (Qsh (gt (gt d28 k26) k44) (gt x1 k63)), ()) Qwc (fun W hm => hm) ⟨(by omega), hn76⟩ (rl (by omega))
    have g69 := dlF hl68
    refine Qp rfl g69 ?_
    refine Qbk (Qac (Qac ?_))
    have hE77 : R6 (x1.length - 0) 0 (((gt (gt d28 k26) k44).Died) == (-1)) = Sum.inr s64 := Qbn hl68 hF66
    refine Qbm (Qi (sr (wm (nt' ?_))))
    rcases Bool.eq_false_or_eq_true s64 with g79 | g79
    ·
     refine Ql rfl g79 ?_
     refine Qad (wm ?_)
     refine wv (fun W hm => Qz (cs := K8) Qbe Qar rfl rfl (hm.boxCells (n := 0) rfl)) ?_
     refine Qfb (cs := K8) Qav Qar rfl (by decide) (by decide) rfl (by kernel_rfl) (Qo rfl) (by decide) (fun p80 => ?_)
     refine ap1 Qm 191 (.slice A47 d46.length c48) d46 (gt (gt d28 k26) k44) [I14] [Qa p62 191 K8, Qis Qm 191 (some ⟨g55, 0, none⟩) ((gt d28 k26).length) (gt d28 k26) k44 K8, Qao (tSl Qm 191) 131 (some ⟨g37, 0, none⟩) x0.Segments.length c20 d28 k26 [.slice (some ⟨g55, 0, none⟩) (gt d28 k26).length c41], Qa p23 42 K7, Qa p16 42 [.slice none 0 0, .int .i64 0], I10] K8 (pk [0, 5, 2, 1, 3, 4, 6, 7, 8]) (fun _ _ hs => Els.single (Qfs (x := (gt (gt d28 k26) k44)) hs)) Qav Qar (show (d46.length + 1) * 48 ≤ 140737488355328 from by omega) (fun v81 => ?_)
     refine Qs (n := 0) rfl ?_
     rintro A82 c83 rfl m84
     refine wa (Qal (Qax (Qi (Qad (wm ?_)))))
     refine wv (Qbd k44 1 (by omega)) ?_
     refine wa (Qal ?_)
     refine Qdu (fun W hm => Mem.restNext (hm.pick [2, 0, 1, 3, 4, 5, 6] (by decide))) ?_
     have hn86 := Qbb (R := (Qx × Int)) (body := F2) (k := k44) (s := (s45, d46)) (s' := (s45, (d46 ++ [(gt (gt d28 k26) k44)]))) (show k44 < (gt d28 k26).length from by omega) (Qat hE77 (Qb g79 (rfl))) hF50
     exact Qaz (k44 + 1, (s45, (d46 ++ [(gt (gt d28 k26) k44)])), (A82, c83)) sl8 (pk [0, 3, 1, 4, 5, 6]) ⟨(by omega), hn86, (show (d46 ++ [(gt (gt d28 k26) k44)]).length ≤ 0 + (k44 + 1) from by first | omega | (simp only [List.length_append, List.length_cons, List.length_nil] at *; omega))⟩ (show (gt d28 k26).length - (k44 + 1) < (gt d28 k26).length - k44 from by omega)
    refine Qp rfl g79 ?_
    refine Qad (wm ?_)
    refine wv Qdq ?_
    refine wa (Qal (Qax (Qi (Qad (wm ?_)))))
    refine wv (Qbd k44 1 (by omega)) ?_
    refine wa (Qal ?_)
    refine Qdu (fun W hm => Mem.restNext (hm.pick [2, 0, 1, 3, 4, 5, 6, 7] (by decide))) ?_
    have hn87 := Qbb (R := (Qx × Int)) (body := F2) (k := k44) (s := (s45, d46)) (s' := ((IntKind.i64.wrap (s45 + 1)), d46)) (show k44 < (gt d28 k26).length from by omega) (Qat hE77 (Qc g79 (rfl))) hF50
    exact Qaz (k44 + 1, ((IntKind.i64.wrap (s45 + 1)), d46), (A47, c48)) sl8 (pk [0, 3, 4, 5, 6, 7]) ⟨(by omega), hn87, (show d46.length ≤ 0 + (k44 + 1) from by first | omega | (simp only [List.length_append, List.length_cons, List.length_nil] at *; omega))⟩ (show (gt d28 k26).length - (k44 + 1) < (gt d28 k26).length - k44 from by omega)
   have g54 := dlF hl53
   refine Qp rfl g54 ?_
   refine Qbk (Qac (Qac ?_))
   have hE88 : R5 ((gt d28 k26).length - 0) 0 (s27, []) = Sum.inr (s45, d46) := Qbn hl53 hF50
   refine Qbm (Qi (Qad ?_))
   refine wv (vf Qaf rfl Qcu) ?_
   refine wv (vl 3 0 Qas) ?_
   refine wm (wm ?_)
   refine wv (vix 1 k26 Qas Qda) ?_
   refine sf 0 1 [.slice A47 d46.length c48] [Qhb Qm 191 A40 ((gt d28 k26).length) (gt d28 k26) k44, I13, Qa p23 42 K7, Qa p16 42 [.slice none 0 0, .int .i64 0], I10] (pk [1, 0, 2, 3, 4, 5]) Qda ?_
   refine Qal (Qax (Qi (Qad (wm ?_))))
   refine wv (Qbd k26 1 (by omega)) ?_
   refine wa (Qal ?_)
   refine Qdu (fun W hm => Mem.unfocus (Mem.join (is := [I13]) (js := (Qao (tSl Qm 191) 131 (some ⟨g37, 0, none⟩) x0.Segments.length c20 d28 k26 [.slice A47 d46.length c48] :: [Qhb Qm 191 A40 ((gt d28 k26).length) (gt d28 k26) k44, Qa p23 42 K7, Qa p16 42 [.slice none 0 0, .int .i64 0], I10])) (fun _ _ hs => Sep.one hs) (hm.pick [2, 0, 1, 3, 4, 5] (by decide)))) ?_
   have hn89 := Qbb (R := (Qx × Int)) (body := F1) (k := k26) (s := (s27, d28)) (s' := (s45, (d28.set k26 d46))) (show k26 < x0.Segments.length from by omega) (Qat hE88 (rfl)) hF30
   exact Qaz (k26 + 1, (s45, (d28.set k26 d46)), ()) sl6 (pk [2, 0, 3, 4]) ⟨(by omega), hn89, (show ∀ j, (k26 + 1) ≤ j → gt (d28.set k26 d46) j = gt x0.Segments j from by intro j hj; rw [Qlr (by omega)]; exact hi32 j (by omega))⟩ (rl (by omega))
  have g34 := dlF hl33
  refine Qp rfl g34 ?_
  refine Qbk (Qac (Qac ?_))
  have hE90 : R4 (x0.Segments.length - 0) 0 (0, x0.Segments) = Sum.inr (s27, d28) := Qbn hl33 hF30
  refine Qbm (Qi (sr ?_))
  refine wv (fun W hm => Qz (cs := [.slice A19 x0.Segments.length c20, .int .i64 x0.Now]) Qaf Qae rfl rfl (hm.boxCells (n := 0) rfl)) ?_
  refine wm ?_
  refine sb 0 [.slice A19 x0.Segments.length c20, .int .i64 x0.Now] [I11, I12, I10] (pk [2, 0, 1, 3]) Qae ?_
  refine wa (nt' (Qj ?_))
  have he91 := (show Qgh x0 x1 = ((⟨d28, x0.Now⟩ : Qx), s27) from Qb g25 (Qat hE90 (rfl)))
  refine Qdx rfl (Qcp (n := 0) rfl rfl Qaf Qae rfl) (Qcv rfl) (fun W hm => ⟨[.slice A19 x0.Segments.length c20, .int .i64 x0.Now], ?_, ?_⟩)
  ·first | rw [he91] | rfl
   try rfl
  rw [he91]; exact Mem.join (is := [I12]) (js := []) (fun _ _ hs => Qed (x := (⟨d28, x0.Now⟩ : Qx)) hs) (hm.pick [2] (by decide))
 refine Ql rfl (nf g25) ?_
 refine sr ?_
 refine wv (fun W hm => Qz (cs := [.slice A19 x0.Segments.length c20, .int .i64 x0.Now]) Qaf Qae rfl rfl (hm.boxCells (n := 0) rfl)) ?_
 refine sb 0 [.slice A19 x0.Segments.length c20, .int .i64 x0.Now] [Qa p23 42 [.slice A19 x0.Segments.length c20, .int .i64 x0.Now], I9, I10] (pk [2, 0, 1, 3]) Qae ?_
 refine wa (nt' (Qj (Qe ?_)))
 have he92 := (show Qgh x0 x1 = (x0, 0) from Qc g25 (rfl))
 refine Qdx rfl (Qcp (n := 0) rfl rfl Qaf Qae rfl) (Qcv rfl) (fun W hm => ⟨[.slice A19 x0.Segments.length c20, .int .i64 x0.Now], ?_, ?_⟩)
 ·first | rw [he92] | rfl
  try rfl
 rw [he92]; exact Mem.join (is := [I9]) (js := []) (fun _ _ hs => Qed (x := x0) hs) (hm.pick [2] (by decide))

def Qww (x0 : Qag) (k33 : Nat) (d34 : (List Int)) : Qag ⊕ ((List Int)) :=
 Sum.inr (d34 ++ [(gt x0.Active k33).Time])
def Qno (x0 : Qag) : Qag :=
 Sum.elim id (fun (s : (List Int)) => (⟨((Qgh x0.Store s).1), x0.Cursor, x0.Order, x0.Active, x0.Done, x0.Ledger, x0.Steps⟩ : Qag)) (rng (R := Qag) (fun k (s : (List Int)) => Qww x0 k s) (x0.Active.length - 0) 0 [])
theorem Qafx : Cb Tryz.prog 131 := ⟨f131, _, func131, rfl, by decide⟩
theorem Qasu (B : Nat) (w0 : World) (is : List It) (w : World) (p : Nat) (z0 : List Value) (x0 : Qag) (s_0 : Qgf 68719476736 x0) (hm : Mem B w0 (Qa p 47 z0 :: Qd Qdd z0 x0 :: is) w) :
  Calls Tryz.prog 131 #[.pointer (some ⟨p, 0, none⟩)] w fun e w' => ∃ x : List Value, e = .returned (.tuple #[]) ∧ Mem B w0 (Qa p 47 x :: Qd Qdd x (Qno x0) :: is) w' := by
 refine Qhi (L := [(0, .pointer (some ⟨p, 0, none⟩))]) (N := 40) func131 rfl rfl (Nat.le_of_ble_eq_true rfl) (Qee rfl Qgl) hm ?_
 refine Qdf (js := (Qd Qdd z0 x0 :: Qa p 47 z0 :: is)) (fun W hm => (hm.front (n := 1) rfl)) ?_
 refine Qiq (γ := Value × Value × Value × Value × Value) (js := fun g => [Qd (tSl (tSl Qm 191) 131) [g.1] x0.Store.Segments, Qd (tSl Qg 3) [g.2.1] x0.Order, Qd (tSl Qbw 64) [g.2.2.1] x0.Active, Qd (tSl Qce 37) [g.2.2.2.1] x0.Done, Qd (tSl Qbx 133) [g.2.2.2.2] x0.Ledger]) (C := fun g => z0 = [g.1, .int .i64 x0.Store.Now, .int .i64 x0.Cursor, g.2.1, g.2.2.1, g.2.2.2.1, g.2.2.2.2, .int .i64 x0.Steps]) (fun _ _ h => Qss h) ?_
 rintro ⟨v1, v2, v3, v4, v5⟩ rfl
 refine Qel (n := 0) rfl ?_
 rintro A6 c7 rfl m8
 refine Qel (n := 1) rfl ?_
 rintro A10 c11 rfl m12
 refine Qel (n := 2) rfl ?_
 rintro A14 c15 rfl m16
 refine Qel (n := 3) rfl ?_
 rintro A18 c19 rfl m20
 refine Qel (n := 4) rfl ?_
 rintro A22 c23 rfl m24
 have l26 : x0.Store.Segments.length ≤ 68719476736 := s_0.1.1
 have l27 : x0.Order.length ≤ 68719476736 := s_0.2.1
 have l28 : x0.Active.length ≤ 68719476736 := s_0.2.2.1.1
 have l29 : x0.Done.length ≤ 68719476736 := s_0.2.2.2.1.1
 have l30 : x0.Ledger.length ≤ 68719476736 := s_0.2.2.2.2.1
 refine sr ?_
 refine Qdb (E := Qg) Qv Qh (Qo rfl) (by decide) (fun p31 => ?_)
 refine wa (nt' (Qf (sr (wa (nt' (Qab ?_))))))
 let F1 := fun k (s : (List Int)) => Qww x0 k s
 let R2 := rng (R := Qag) F1
 let K3 : List Value := [.slice A6 x0.Store.Segments.length c7, .int .i64 x0.Store.Now, .int .i64 x0.Cursor, .slice A10 x0.Order.length c11, .slice A14 x0.Active.length c15, .slice A18 x0.Done.length c19, .slice A22 x0.Ledger.length c23, .int .i64 x0.Steps]
 let I8 : It := Qd (tSl (tSl Qm 191) 131) [.slice A6 x0.Store.Segments.length c7] x0.Store.Segments
 let I9 : It := Qd (tSl Qg 3) [.slice A10 x0.Order.length c11] x0.Order
 let I10 : It := Qd (tSl Qbw 64) [.slice A14 x0.Active.length c15] x0.Active
 let I11 : It := Qd (tSl Qce 37) [.slice A18 x0.Done.length c19] x0.Done
 let I12 : It := Qd (tSl Qbx 133) [.slice A22 x0.Ledger.length c23] x0.Ledger
 refine Qbl (σ := Nat × ((List Int)) × (Option Addr × Nat)) (fun s => [(0, .pointer (some (⟨p, 0, none⟩ : Addr))), (2, .slice s.2.2.1 s.2.1.length s.2.2.2), (3, .int .i64 ((s.1 : Nat) : Int))]) (fun s => (Qd (tSl Qg 3) [.slice s.2.2.1 s.2.1.length s.2.2.2] s.2.1 :: I8 :: I9 :: I10 :: I11 :: I12 :: Qa p 47 K3 :: is)) (fun s => s.1 ≤ x0.Active.length ∧ R2 (x0.Active.length - s.1) s.1 s.2.1 = R2 (x0.Active.length - 0) 0 [] ∧ s.2.1.length ≤ 0 + s.1) (fun s => x0.Active.length - s.1) (0, [], ((some ⟨p31, 0, none⟩), 0)) sl3 (fun W hm => hm) ⟨(by omega), rfl, Nat.le_refl _⟩ ?_
 rintro ⟨k33, d34, ⟨A35, c36⟩⟩ H39
 obtain ⟨hk37, hF38, hi40⟩ : k33 ≤ x0.Active.length ∧ R2 (x0.Active.length - k33) k33 d34 = R2 (x0.Active.length - 0) 0 [] ∧ d34.length ≤ 0 + k33 := H39
 let I13 : It := Qd (tSl Qg 3) [.slice A35 d34.length c36] d34
 show CM Tryz.prog 40 _ _ _ _ [(0, .pointer (some (⟨p, 0, none⟩ : Addr))), (2, .slice A35 d34.length c36), (3, .int .i64 ((k33 : Nat) : Int))] (I13 :: I8 :: I9 :: I10 :: I11 :: I12 :: Qa p 47 K3 :: is)
 refine Qf (sr (wm (wm ?_)))
 refine wv (fun W hm => Qsa rfl) ?_
 refine wv (vf Qaq rfl Qfn) ?_
 refine wv (vl 6 4 Qcj) ?_
 refine wv (Qai Qcj) ?_
 refine wv Qak ?_
 refine nt' ?_
 by_cases hl41 : k33 < x0.Active.length
 ·have g42 := dlT hl41
  refine Ql rfl g42 ?_
  refine Qq (Qi (Qf (Qab (Qad (wm (wm ?_))))))
  refine wv (fun W hm => Qsa rfl) ?_
  refine wv (vf Qaq rfl Qfn) ?_
  refine wv (vl 6 4 Qcj) ?_
  refine wm ?_
  refine Qfj (n := 3) rfl (by omega) ?_
  rintro g43 rfl
  refine wv (vix 10 k33 Qcj Qcs) ?_
  refine wv (vf Qbu rfl Qh) ?_
  let K4 : List Value := [.slice A6 x0.Store.Segments.length c7, .int .i64 x0.Store.Now, .int .i64 x0.Cursor, .slice A10 x0.Order.length c11, .slice (some ⟨g43, 0, none⟩) x0.Active.length c15, .slice A18 x0.Done.length c19, .slice A22 x0.Ledger.length c23, .int .i64 x0.Steps]
  refine Qgk (E := Qbw) (e := 64) (A := (some ⟨g43, 0, none⟩)) (n := x0.Active.length) (c := c15) (xs := x0.Active) (k := k33) (js := (I13 :: I8 :: I9 :: I11 :: I12 :: Qa p 47 K4 :: is)) (by omega) (fun W hm => (hm.front (n := 3) rfl)) (fun ck44 => ?_)
  refine Qqv ?_
  rintro ⟨v45, v46, v47, v48⟩ rfl
  refine Qs (n := 0) rfl ?_
  rintro A49 c50 rfl m51
  refine Qs (n := 1) rfl ?_
  rintro A53 c54 rfl m55
  refine Qs (n := 2) rfl ?_
  rintro A57 c58 rfl m59
  refine Qs (n := 3) rfl ?_
  rintro A61 c62 rfl m63
  refine wv (fun W hm => Qaw Qt rfl rfl (hm.focCells (i := 4) rfl rfl 4 _ rfl)) ?_
  refine Qfb (cs := [.int .i64 ((gt x0.Active k33).Time)]) Qv Qh rfl (by decide) (by decide) rfl (by kernel_rfl) (Qo rfl) (by decide) (fun p65 => ?_)
  let K5 : List Value := [.int .i64 ((gt x0.Active k33).Query.Id), .int .i64 ((gt x0.Active k33).Query.Tenant), .slice A49 ((gt x0.Active k33).Query.Conds).length c50, .slice A53 ((gt x0.Active k33).Query.Out).length c54, .int .i64 ((gt x0.Active k33).Time), .slice A57 ((gt x0.Active k33).Todo).length c58, .int .i64 ((gt x0.Active k33).Age), .int .i64 ((gt x0.Active k33).Sent), .int .i64 ((gt x0.Active k33).Cap), .slice A61 ((gt x0.Active k33).Rows).length c62]
  let I14 : It := Qd (tSl Qbz 201) [.slice A49 ((gt x0.Active k33).Query.Conds).length c50] ((gt x0.Active k33).Query.Conds)
  let I15 : It := Qd (tSl Qg 3) [.slice A53 ((gt x0.Active k33).Query.Out).length c54] ((gt x0.Active k33).Query.Out)
  let I16 : It := Qd (tSl Qg 3) [.slice A57 ((gt x0.Active k33).Todo).length c58] ((gt x0.Active k33).Todo)
  let I17 : It := Qd (tSl Qbp 73) [.slice A61 ((gt x0.Active k33).Rows).length c62] ((gt x0.Active k33).Rows)
  refine ap1 Qg 3 (.slice A35 d34.length c36) d34 ((gt x0.Active k33).Time) [] (I14 :: I15 :: I16 :: I17 :: Qao Qbw 64 (some ⟨g43, 0, none⟩) x0.Active.length c15 x0.Active k33 K5 :: I8 :: I9 :: I11 :: I12 :: Qa p 47 K4 :: is) [.int .i64 ((gt x0.Active k33).Time)] (fun W hm => ((hm.front (n := 6) rfl).front (n := 1) rfl)) (fun _ _ hs => by cases (Sep.nil hs); exact (Qre Qcy Qrf)) Qv Qh (show (d34.length + 1) * 8 ≤ 140737488355328 from by omega) (fun v66 => ?_)
  refine Qs (n := 0) rfl ?_
  rintro A67 c68 rfl m69
  refine wa (Qal (Qax (Qi (Qad (wm ?_)))))
  refine wv (Qbd k33 1 (by omega)) ?_
  refine wa (Qal ?_)
  refine Qdu (fun W hm => Mem.unfocus0 (Mem.join (is := [I14, I15, I16, I17]) (js := (Qao Qbw 64 (some ⟨g43, 0, none⟩) x0.Active.length c15 x0.Active k33 K5 :: (Qd (tSl Qg 3) [.slice A67 (d34 ++ [(gt x0.Active k33).Time]).length c68] (d34 ++ [(gt x0.Active k33).Time]) :: I8 :: I9 :: I11 :: I12 :: Qa p 47 K4 :: is))) (fun _ _ hs => Qmm (x := (gt x0.Active k33)) hs) (((((hm.front (n := 5) rfl).front (n := 5) rfl).front (n := 5) rfl).front (n := 5) rfl).front (n := 5) rfl))) ?_
  have hn71 := Qbb (R := Qag) (body := F1) (k := k33) (s := d34) (s' := (d34 ++ [(gt x0.Active k33).Time])) (show k33 < x0.Active.length from by omega) (rfl) hF38
  exact Qaz (k33 + 1, (d34 ++ [(gt x0.Active k33).Time]), (A67, c68)) sl3 (fun W hm => (((((((hm.front (n := 6) rfl).front (n := 6) rfl).front (n := 6) rfl).front (n := 3) rfl).front (n := 6) rfl).front (n := 6) rfl).front (n := 6) rfl)) ⟨(by omega), hn71, (show (d34 ++ [(gt x0.Active k33).Time]).length ≤ 0 + (k33 + 1) from by first | omega | (simp only [List.length_append, List.length_cons, List.length_nil] at *; omega))⟩ (rl (by omega))
 have g42 := dlF hl41
 refine Qp rfl g42 ?_
 refine Qbk (Qac (Qac ?_))
 have hE72 : R2 (x0.Active.length - 0) 0 [] = Sum.inr d34 := Qbn hl41 hF38
 refine Qbm (Qi (sr (wm ?_)))
 refine wv (fun W hm => Qsa rfl) ?_
 refine wv (vf Qaq rfl Qae) ?_
 refine wv (fun W hm => Qz (cs := [.slice A6 x0.Store.Segments.length c7, .int .i64 x0.Store.Now]) Qaf Qae rfl rfl (hm.boxPart (n := 6) rfl rfl)) ?_
 refine wm ?_
 refine Qhg (χ := List Value) (val := fun x => .tuple #[.agg x.toArray, .int .i64 ((Qgh x0.Store d34).2)]) (js := fun x => [Qd Qcz x ((Qgh x0.Store d34).1)]) (Qr Qahj rfl) (fun W hm => Qars W _ x0.Store _ d34 (Qeg (x := x0.Store) (hm.rdSI (n := 1) rfl)) (hm.rdSI (n := 0) rfl) s_0.1 (show _ ≤ 68719476736 from by omega)) (Qo rfl) (by decide) (fun z73 => ?_)
 refine Qgd ?_
 rintro v74 rfl
 refine Qs (n := 0) rfl ?_
 rintro A75 c76 rfl m77
 refine wm ?_
 refine wv (fun W hm => Qes rfl rfl) ?_
 refine wv (fun W hm => Qes rfl rfl) ?_
 refine Qbo Qae rfl (Qo rfl) (by decide) (fun p79 => ?_)
 let K6 : List Value := [.slice A75 (((Qgh x0.Store d34).1).Segments).length c76, .int .i64 (((Qgh x0.Store d34).1).Now)]
 refine Qof (p := p79) (o := 0) (cs' := K6) (fun w hm => hm.front (n := 0) rfl) Qae rfl (Nat.le_of_ble_eq_true rfl) rfl rfl rfl rfl (Qo rfl) ?_
 refine wa (nt' (Qad (wm ?_)))
 refine wv (fun W hm => Qz (cs := K6) Qaf Qae rfl rfl (hm.boxCells (n := 0) rfl)) ?_
 refine wv (fun W hm => Qsa rfl) ?_
 refine wv (vf Qaq rfl Qae) ?_
 let K7 : List Value := [.slice A75 (((Qgh x0.Store d34).1).Segments).length c76, .int .i64 (((Qgh x0.Store d34).1).Now), .int .i64 x0.Cursor, .slice A10 x0.Order.length c11, .slice A14 x0.Active.length c15, .slice A18 x0.Done.length c19, .slice A22 x0.Ledger.length c23, .int .i64 x0.Steps]
 refine Qof (p := p) (o := 0) (cs' := K7) (fun w hm => hm.front (n := 8) rfl) Qae rfl (Nat.le_of_ble_eq_true rfl) rfl rfl rfl rfl (Qo rfl) ?_
 refine Qal ?_
 refine Qdu (js := (Qd Qdd K7 (⟨((Qgh x0.Store d34).1), x0.Cursor, x0.Order, x0.Active, x0.Done, x0.Ledger, x0.Steps⟩ : Qag) :: (Qa p 47 K7 :: Qa p79 42 K6 :: I13 :: I8 :: is))) (fun W hm => Mem.join (is := [Qd (tSl (tSl Qm 191) 131) [.slice A75 (((Qgh x0.Store d34).1).Segments).length c76] (((Qgh x0.Store d34).1).Segments), I9, I10, I11, I12]) (js := (Qa p 47 K7 :: Qa p79 42 K6 :: I13 :: I8 :: is)) (fun _ _ hs => Qhe (x := (⟨((Qgh x0.Store d34).1), x0.Cursor, x0.Order, x0.Active, x0.Done, x0.Ledger, x0.Steps⟩ : Qag)) hs) (((((hm.front (n := 8) rfl).front (n := 8) rfl).front (n := 8) rfl).front (n := 8) rfl).front (n := 6) rfl)) ?_
 have he80 := (show Qno x0 = (⟨((Qgh x0.Store d34).1), x0.Cursor, x0.Order, x0.Active, x0.Done, x0.Ledger, x0.Steps⟩ : Qag) from Qat hE72 (rfl))
 refine Qaew rfl (fun W hm => ⟨K7, ?_, ?_⟩)
 ·rfl
 rw [he80]; exact (((((hm.front (n := 0) rfl).front (n := 1) rfl).front (n := 2) rfl).tail.front (n := 2) rfl).tail.front (n := 2) rfl).tail

def smP (n : Nat) (z : List Qn) : Prop := z.length ≤ n ∧ ∀ v ∈ z, v.Values.length ≤ 3
theorem Qard {n : Nat} {z : List Qn} (h : smP n z) (k : Nat) {v : Qn} (hv : v.Values.length ≤ 3) : smP n (z.set k v) :=
  ⟨by rw [List.length_set]; exact h.1, fun y hy => (List.mem_or_eq_of_mem_set hy).elim (h.2 y) (fun e => e ▸ hv)⟩
theorem Qsb {n : Nat} {z : List Qn} (h : smP n z) {v : Qn} (hv : v.Values.length ≤ 3) : smP (n + 1) (z ++ [v]) :=
  ⟨by simp only [List.length_append, List.length_cons, List.length_nil]; have := h.1; omega, fun y hy => (List.mem_append.1 hy).elim (h.2 y) (fun e => by rw [List.mem_singleton.1 e]; exact hv)⟩
theorem Qne {n : Nat} {s : List (List Qn)} (h : ∀ z ∈ s, smP n z) (i : Nat) : smP n (gt s i) := by
  by_cases hi : i < s.length
  · exact h _ (Qbh hi)
  have : gt s i = [] := by unfold gt; rw [List.getD_eq_getElem?_getD, List.getElem?_eq_none (by omega)]; rfl
  rw [this]; exact ⟨Nat.zero_le _, fun v hv => by cases hv⟩
theorem Qacf {n : Nat} {z : List Qn} (h : smP n z) (k : Nat) : (gt z k).Values.length ≤ 3 := by
  by_cases hk : k < z.length
  · exact h.2 _ (Qbh hk)
  have : gt z k = default := by unfold gt; rw [List.getD_eq_getElem?_getD, List.getElem?_eq_none (by omega)]; rfl
  rw [this]; exact Nat.zero_le _
theorem Qace {n m : Nat} (h : n ≤ m) {z : List Qn} (hz : smP n z) : smP m z := ⟨Nat.le_trans hz.1 h, hz.2⟩
theorem Qor {n : Nat} {s : List (List Qn)} (h : ∀ z ∈ s, smP n z) (i : Nat) {y : List Qn} (hy : smP n y) : ∀ z ∈ s.set i y, smP n z := fun z hz => (List.mem_or_eq_of_mem_set hz).elim (h z) (fun e => e ▸ hy)
theorem Qare {s : List (List Qn)} {now : Int} (hl : s.length ≤ 8) (h : ∀ z ∈ s, smP 5 z) : Qfl 68719476736 ⟨s, now⟩ :=
  ⟨by show s.length ≤ _; omega, fun z hz => ⟨by have := (h z hz).1; omega, fun v hv => by have := (h z hz).2 v hv; show v.Values.length ≤ _; omega⟩⟩
theorem Qach (x : Qx) (u : Qci) : (Qea x u).1 = x ∨ ((Qea x u).1.Segments.length ≤ 8 ∧ ∀ z ∈ (Qea x u).1.Segments, smP 5 z) := by
  unfold Qea
  cases hs : Qhd x with
  | false => exact .inl rfl
  | true =>
  cases hu : Qkv u with
  | false => exact .inl rfl
  | true =>
    obtain ⟨⟨_, hl⟩, _, h4, hv⟩ := Qwk hs
    obtain ⟨_, _, u1, u2⟩ := Qsj hu
    have hp : ∀ z ∈ x.Segments, smP 4 z := fun z hz => ⟨h4 z hz, fun v hvz => by rw [Qacq (hv z hz v hvz)]; omega⟩
    have hp5 : ∀ z ∈ x.Segments, smP 5 z := fun z hz => Qace (by omega) (hp z hz)
    have hr : u.Row.Values.length ≤ 3 := by by_cases k : u.Kind = 1 <;> omega
    have hv1 : smP 4 (Qdp x u) := Qard (Qne hp _) _ (Qacf (Qne hp _) _)
    have hs1 := Qor hp (Qw x u.Row.Id).1.toNat hv1
    have hs5 := Qor hp5 (Qw x u.Row.Id).1.toNat (Qace (m := 5) (by omega) hv1)
    have hlv := Qacf (Qne hp (Qw x u.Row.Id).1.toNat) (Qw x u.Row.Id).2.toNat
    cases decide (100000 ≤ x.Now) with
    | true => exact .inl rfl
    | false =>
    cases ((u.Kind == 1) != decide ((Qw x u.Row.Id).1 < 0)) with
    | true => exact .inl rfl
    | false =>
    cases (u.Kind != 2) with
    | false =>
      cases decide (0 ≤ (Qw x u.Row.Id).1) <;> cases (u.Kind == 3) <;> first | exact (.inr ⟨hl, hp5⟩) | exact (.inr ⟨by show (List.set _ _ _).length ≤ 8; rw [List.length_set]; exact hl, hs5⟩)
    | true =>
    cases decide (Qbq x < 0) with
    | true => exact .inl rfl
    | false =>
      cases decide (0 ≤ (Qw x u.Row.Id).1) with
      | true =>
        cases (u.Kind == 3)
        · exact .inr ⟨(by first | (show (List.set (List.set _ _ _) _ _).length ≤ 8; simp only [List.length_set]; exact hl) | (show (List.set _ _ _).length ≤ 8; simp only [List.length_set]; exact hl)), (Qor hs5 _ (Qsb (Qne hs1 _) hlv))⟩
        exact .inr ⟨(by first | (show (List.set (List.set _ _ _) _ _).length ≤ 8; simp only [List.length_set]; exact hl) | (show (List.set _ _ _).length ≤ 8; simp only [List.length_set]; exact hl)), (Qor hs5 _ (Qsb (Qne hs1 _) (by rw [List.length_set]; exact hlv)))⟩
      | false =>
        cases (u.Kind == 3)
        · exact .inr ⟨(by first | (show (List.set (List.set _ _ _) _ _).length ≤ 8; simp only [List.length_set]; exact hl) | (show (List.set _ _ _).length ≤ 8; simp only [List.length_set]; exact hl)), (Qor hp5 _ (Qsb (Qne hp _) hr))⟩
        exact .inr ⟨(by first | (show (List.set (List.set _ _ _) _ _).length ≤ 8; simp only [List.length_set]; exact hl) | (show (List.set _ _ _).length ≤ 8; simp only [List.length_set]; exact hl)), (Qor hp5 _ (Qsb (Qne hp _) (by rw [List.length_set]; exact hr)))⟩
theorem Qaci {x : Qx} (h : Qfl 68719476736 x) (u : Qci) : Qfl 68719476736 (Qea x u).1 := by
  rcases Qach x u with e | ⟨e1, e2⟩
  · rw [e]; exact h
  exact Qare (now := (Qea x u).1.Now) e1 e2
theorem Qxq {B : Nat} {x : Qag} (h : Qgf B x) {s : Qx} (hs : Qfl B s) : Qgf B (⟨s, x.Cursor, x.Order, x.Active, x.Done, x.Ledger, x.Steps⟩ : Qag) := ⟨hs, h.2⟩
def Qgi (x0 : Qag) (x1 : Qci) : (Qag × Bool) :=
 cond (Qql x0) (cond ((Qea x0.Store x1).2) ((Qno (⟨((Qea x0.Store x1).1), x0.Cursor, x0.Order, x0.Active, x0.Done, x0.Ledger, x0.Steps⟩ : Qag)), true) (x0, false)) (x0, false)
theorem Qrc : Cb Tryz.prog 44 := ⟨f44, _, func44, rfl, by decide⟩
theorem Qsi (w : World) (z0 : List Value) (x0 : Qag) (z1 : List Value) (x1 : Qci) (r_0 : Qdd.rd w w.heap.size z0 x0) (r_1 : Qfi.rd w w.heap.size z1 x1) (s_0 : Qgf 68719476736 x0) (s_1 : Qja 68719476736 x1) :
  Calls Tryz.prog 44 #[.agg z0.toArray, .agg z1.toArray] w fun e w' => ∃ v : List Value, e = .returned (.tuple #[.agg v.toArray, .bool ((Qgi x0 x1).2)]) ∧ Mem w.heap.size w [Qd Qdd v (Qgi x0 x1).1] w' := by
 obtain ⟨v1, v3, v5, v7, v9, rfl, r2, r4, r6, r8, r10⟩ := Qki r_0
 obtain ⟨m11, A12, c13, rfl, q14, r15⟩ := Qk r2
 obtain ⟨m16, A17, c18, rfl, q19, r20⟩ := Qk r4
 obtain ⟨m21, A22, c23, rfl, q24, r25⟩ := Qk r6
 obtain ⟨m26, A27, c28, rfl, q29, r30⟩ := Qk r8
 obtain ⟨m31, A32, c33, rfl, q34, r35⟩ := Qk r10
 obtain ⟨v36, rfl, r37⟩ := Qmo r_1
 obtain ⟨m38, A39, c40, rfl, q41, r42⟩ := Qk r37
 have l43 : x0.Store.Segments.length ≤ 68719476736 := s_0.1.1
 have l44 : x0.Order.length ≤ 68719476736 := s_0.2.1
 have l45 : x0.Active.length ≤ 68719476736 := s_0.2.2.1.1
 have l46 : x0.Done.length ≤ 68719476736 := s_0.2.2.2.1.1
 have l47 : x0.Ledger.length ≤ 68719476736 := s_0.2.2.2.2.1
 have l48 : x1.Row.Values.length ≤ 68719476736 := s_1
 refine ce2 (L := [(0, .agg #[.slice A12 x0.Store.Segments.length c13, .int .i64 x0.Store.Now, .int .i64 x0.Cursor, .slice A17 x0.Order.length c18, .slice A22 x0.Active.length c23, .slice A27 x0.Done.length c28, .slice A32 x0.Ledger.length c33, .int .i64 x0.Steps]), (1, .agg #[.int .i64 x1.Kind, .int .i64 x1.Row.Id, .slice A39 x1.Row.Values.length c40, .int .i64 x1.Field, .int .i64 x1.Value])]) (N := 29) func44 ?_
 refine sr ?_
 refine Qbj rfl (Qo rfl) (by decide) (fun p49 => ?_)
 refine Qbj rfl (Qo rfl) (by decide) (fun p50 => ?_)
 refine Qbo Qbv rfl (Qo rfl) (by decide) (fun p51 => ?_)
 refine wa (nt' (sr ?_))
 let K1 : List Value := [.slice A12 x0.Store.Segments.length c13, .int .i64 x0.Store.Now, .int .i64 x0.Cursor, .slice A17 x0.Order.length c18, .slice A22 x0.Active.length c23, .slice A27 x0.Done.length c28, .slice A32 x0.Ledger.length c33, .int .i64 x0.Steps]
 refine wv (fun W hm => Qz (cs := K1) Qaq Qbv rfl rfl (hm.boxCells (n := 2) rfl)) ?_
 refine wcs Qdd x0 (Qr cb81 rfl) (fun W hm => Qass W _ x0 (Qfr (x := x0) (hm.rdS0 r15) (hm.rdS0 r20) (hm.rdS0 r25) (hm.rdS0 r30) (hm.rdS0 r35)) s_0) (fun z52 => ?_)
 refine Qgc ?_
 rintro ⟨v53, v54, v55, v56, v57⟩ rfl
 refine Qs (n := 0) rfl ?_
 rintro A58 c59 rfl m60
 refine Qs (n := 1) rfl ?_
 rintro A62 c63 rfl m64
 refine Qs (n := 2) rfl ?_
 rintro A66 c67 rfl m68
 refine Qs (n := 3) rfl ?_
 rintro A70 c71 rfl m72
 refine Qs (n := 4) rfl ?_
 rintro A74 c75 rfl m76
 refine Qbo Qbv rfl (Qo rfl) (by decide) (fun p78 => ?_)
 let K2 : List Value := [.slice A58 x0.Store.Segments.length c59, .int .i64 x0.Store.Now, .int .i64 x0.Cursor, .slice A62 x0.Order.length c63, .slice A66 x0.Active.length c67, .slice A70 x0.Done.length c71, .slice A74 x0.Ledger.length c75, .int .i64 x0.Steps]
 let K3 : List Value := [.slice none 0 0, .int .i64 0, .int .i64 0, .slice none 0 0, .slice none 0 0, .slice none 0 0, .slice none 0 0, .int .i64 0]
 let K4 : List Value := [.int .i64 x1.Kind, .int .i64 x1.Row.Id, .slice A39 x1.Row.Values.length c40, .int .i64 x1.Field, .int .i64 x1.Value]
 let I9 : It := Qd (tSl (tSl Qm 191) 131) [.slice A58 x0.Store.Segments.length c59] x0.Store.Segments
 let I10 : It := Qd (tSl Qg 3) [.slice A62 x0.Order.length c63] x0.Order
 let I11 : It := Qd (tSl Qbw 64) [.slice A66 x0.Active.length c67] x0.Active
 let I12 : It := Qd (tSl Qce 37) [.slice A70 x0.Done.length c71] x0.Done
 let I13 : It := Qd (tSl Qbx 133) [.slice A74 x0.Ledger.length c75] x0.Ledger
 refine sb 0 K2 [I9, I10, I11, I12, I13, Qa p51 47 K3, Qa p50 75 K4, Qa p49 47 K1] (fun W hm => hm) Qbv ?_
 refine nt' (Qf (sr ?_))
 refine wv (fun W hm => Qz (cs := K1) Qaq Qbv rfl rfl (hm.boxCells (n := 8) rfl)) ?_
 refine wcv (Qr cb65 rfl) (fun W hm => Qarn W _ x0 (Qfr (x := x0) (hm.rdS0 r15) (hm.rdS0 r20) (hm.rdS0 r25) (hm.rdS0 r30) (hm.rdS0 r35)) s_0) ?_
 refine wv Qbr ?_
 refine nt' ?_
 rcases Bool.eq_false_or_eq_true (Qql x0) with g80 | g80
 ·
  refine Qp rfl (nt g80) ?_
  refine Qq (Qi (sr ?_))
  refine wv (vf Qaq rfl Qae) ?_
  refine wv (fun W hm => Qz (cs := [.slice A12 x0.Store.Segments.length c13, .int .i64 x0.Store.Now]) Qaf Qae rfl rfl (hm.boxPart (n := 8) rfl rfl)) ?_
  refine wv (fun W hm => Qz (cs := K4) Qbs type75 rfl rfl (hm.boxCells (n := 7) rfl)) ?_
  refine Qhg (χ := List Value) (val := fun x => .tuple #[.agg x.toArray, .bool ((Qea x0.Store x1).2)]) (js := fun x => [Qd Qcz x ((Qea x0.Store x1).1)]) (Qr Qafz rfl) (fun W hm => Qari W _ x0.Store _ x1 (Qeg (x := x0.Store) (hm.rdS0 r15)) (Qhs (x := x1) (hm.rdS0 r42)) s_0.1 s_1) (Qo rfl) (by decide) (fun z81 => ?_)
  refine Qgd ?_
  rintro v82 rfl
  refine Qs (n := 0) rfl ?_
  rintro A83 c84 rfl m85
  refine wm ?_
  refine wv (fun W hm => Qes rfl rfl) ?_
  refine wv (fun W hm => Qes rfl rfl) ?_
  refine Qbo Qae rfl (Qo rfl) (by decide) (fun p87 => ?_)
  let K5 : List Value := [.slice A83 (((Qea x0.Store x1).1).Segments).length c84, .int .i64 (((Qea x0.Store x1).1).Now)]
  let K6 : List Value := [.slice A83 (((Qea x0.Store x1).1).Segments).length c84]
  let I14 : It := Qd (tSl (tSl Qm 191) 131) K6 (((Qea x0.Store x1).1).Segments)
  refine sb 0 K5 [I14, Qa p78 47 K2, I9, I10, I11, I12, I13, Qa p51 47 K3, Qa p50 75 K4, Qa p49 47 K1] (fun W hm => hm) Qae ?_
  refine wa (nt' (Qf (sr (wm ?_))))
  refine wv Qbr ?_
  refine nt' ?_
  rcases Bool.eq_false_or_eq_true ((Qea x0.Store x1).2) with g89 | g89
  ·
   refine Qp rfl (nt g89) ?_
   refine Qq (Qi (sr ?_))
   refine wv (fun W hm => Qz (cs := K5) Qaf Qae rfl rfl (hm.boxCells (n := 0) rfl)) ?_
   refine wv (vf Qaq rfl Qae) ?_
   let K7 : List Value := [.slice A83 (((Qea x0.Store x1).1).Segments).length c84, .int .i64 (((Qea x0.Store x1).1).Now), .int .i64 x0.Cursor, .slice A62 x0.Order.length c63, .slice A66 x0.Active.length c67, .slice A70 x0.Done.length c71, .slice A74 x0.Ledger.length c75, .int .i64 x0.Steps]
   refine sb 0 K7 [Qa p87 42 K5, I14, I9, I10, I11, I12, I13, Qa p51 47 K3, Qa p50 75 K4, Qa p49 47 K1] (pk [2, 0, 1, 3, 4, 5, 6, 7, 8, 9, 10]) Qae ?_
   refine nt' (Qf ?_)
   refine Qdf (pk [0, 2, 4, 5, 6, 7, 8]) ?_
   refine Qad ?_
   refine Qli (js := (Qd Qdd K7 (⟨((Qea x0.Store x1).1), x0.Cursor, x0.Order, x0.Active, x0.Done, x0.Ledger, x0.Steps⟩ : Qag) :: [Qa p78 47 K7, Qa p51 47 K3])) (fun W hm => Mem.join (is := [I14, I10, I11, I12, I13]) (js := [Qa p78 47 K7, Qa p51 47 K3]) (fun _ _ hs => Qhe (x := (⟨((Qea x0.Store x1).1), x0.Cursor, x0.Order, x0.Active, x0.Done, x0.Ledger, x0.Steps⟩ : Qag)) hs) (hm.pick [1, 2, 3, 4, 5, 0, 6] (by decide))) ?_
   refine Qqy (χ := List Value) (val := fun x => .tuple #[]) (js := fun x => (Qa p78 47 x :: Qd Qdd x (Qno (⟨((Qea x0.Store x1).1), x0.Cursor, x0.Order, x0.Active, x0.Done, x0.Ledger, x0.Steps⟩ : Qag)) :: [Qa p51 47 K3])) (Qr Qafx rfl) (fun W hm => Qasu w.heap.size w [Qa p51 47 K3] W p78 _ (⟨((Qea x0.Store x1).1), x0.Cursor, x0.Order, x0.Active, x0.Done, x0.Ledger, x0.Steps⟩ : Qag) (Qxq s_0 (Qaci s_0.1 x1)) (hm.pick [1, 0, 2] (by decide))) (Qo rfl) (by decide) (fun z90 => ?_)
   obtain ⟨G91, hG91⟩ : ∃ G, G = (Qno (⟨((Qea x0.Store x1).1), x0.Cursor, x0.Order, x0.Active, x0.Done, x0.Ledger, x0.Steps⟩ : Qag)) := ⟨_, rfl⟩
   rw [← hG91]
   refine Qli (js := [Qd Qdd z90 G91, Qa p78 47 z90, Qa p51 47 K3]) (pk [1, 0, 2]) ?_
   refine Qgc ?_
   rintro ⟨v92, v93, v94, v95, v96⟩ rfl
   refine Qs (n := 0) rfl ?_
   rintro A97 c98 rfl m99
   refine Qs (n := 1) rfl ?_
   rintro A101 c102 rfl m103
   refine Qs (n := 2) rfl ?_
   rintro A105 c106 rfl m107
   refine Qs (n := 3) rfl ?_
   rintro A109 c110 rfl m111
   refine Qs (n := 4) rfl ?_
   rintro A113 c114 rfl m115
   refine nt' (sr ?_)
   let K8 : List Value := [.slice A97 G91.Store.Segments.length c98, .int .i64 G91.Store.Now, .int .i64 G91.Cursor, .slice A101 G91.Order.length c102, .slice A105 G91.Active.length c106, .slice A109 G91.Done.length c110, .slice A113 G91.Ledger.length c114, .int .i64 G91.Steps]
   refine wv (fun W hm => Qz (cs := K8) Qaq Qbv rfl rfl (hm.boxCells (n := 5) rfl)) ?_
   let I15 : It := Qd (tSl (tSl Qm 191) 131) [.slice A97 G91.Store.Segments.length c98] G91.Store.Segments
   let I16 : It := Qd (tSl Qg 3) [.slice A101 G91.Order.length c102] G91.Order
   let I17 : It := Qd (tSl Qbw 64) [.slice A105 G91.Active.length c106] G91.Active
   let I18 : It := Qd (tSl Qce 37) [.slice A109 G91.Done.length c110] G91.Done
   let I19 : It := Qd (tSl Qbx 133) [.slice A113 G91.Ledger.length c114] G91.Ledger
   refine sb 0 K8 [I15, I16, I17, I18, I19, Qa p78 47 K8] (pk [6, 0, 1, 2, 3, 4, 5]) Qbv ?_
   refine wa (nt' (Qj ?_))
   have he117 := (show Qgi x0 x1 = (G91, true) from by subst hG91; exact Qb g80 (Qb g89 (rfl)))
   refine Qdx rfl (Qcp (n := 0) rfl rfl Qaq Qbv rfl) (Qcv rfl) (fun W hm => ⟨K8, ?_, ?_⟩)
   ·first | rw [he117] | rfl
    try rfl
   rw [he117]; exact Mem.join (is := [I15, I16, I17, I18, I19]) (js := []) (fun _ _ hs => Qhe (x := G91) hs) (hm.pick [1, 2, 3, 4, 5] (by decide))
  refine Ql rfl (nf g89) ?_
  refine Qf ?_
  refine Qdf (pk [2, 3, 4, 5, 6, 7, 8]) ?_
  refine Qad ?_
  refine wv (fun W hm => Qz (cs := K2) Qaq Qbv rfl rfl (hm.boxCells (n := 0) rfl)) ?_
  refine sb 0 K2 [Qa p78 47 K2, I9, I10, I11, I12, I13] (pk [6, 0, 1, 2, 3, 4, 5]) Qbv ?_
  refine wa (nt' (Qj (Qe ?_)))
  have he118 := (show Qgi x0 x1 = (x0, false) from Qb g80 (Qc g89 (rfl)))
  refine Qdx rfl (Qcp (n := 0) rfl rfl Qaq Qbv rfl) (Qcv rfl) (fun W hm => ⟨K2, ?_, ?_⟩)
  ·first | rw [he118] | rfl
   try rfl
  rw [he118]; exact Mem.join (is := [I9, I10, I11, I12, I13]) (js := []) (fun _ _ hs => Qhe (x := x0) hs) (hm.pick [2, 3, 4, 5, 6] (by decide))
 refine Ql rfl (nf g80) ?_
 refine sr ?_
 refine wv (fun W hm => Qz (cs := K2) Qaq Qbv rfl rfl (hm.boxCells (n := 0) rfl)) ?_
 refine sb 0 K2 [Qa p78 47 K2, I9, I10, I11, I12, I13, Qa p50 75 K4, Qa p49 47 K1] (pk [6, 0, 1, 2, 3, 4, 5, 7, 8]) Qbv ?_
 refine wa (nt' (Qj (Qe ?_)))
 have he119 := (show Qgi x0 x1 = (x0, false) from Qc g80 (rfl))
 refine Qdx rfl (Qcp (n := 0) rfl rfl Qaq Qbv rfl) (Qcv rfl) (fun W hm => ⟨K2, ?_, ?_⟩)
 ·first | rw [he119] | rfl
  try rfl
 rw [he119]; exact Mem.join (is := [I9, I10, I11, I12, I13]) (js := []) (fun _ _ hs => Qhe (x := x0) hs) (hm.pick [2, 3, 4, 5, 6] (by decide))

def Qui (x0 : (List Int)) : (List Int) :=
 x0
theorem Qia : Cb Tryz.prog 136 := ⟨f136, _, func136, rfl, by decide⟩
theorem Qakr (w : World) (z0 : Value) (x0 : (List Int)) (r_0 : rdS Qg w w.heap.size z0 x0) (s_0 : x0.length ≤ 68719476736) :
  Calls Tryz.prog 136 #[z0] w fun e w' => ∃ v : Value, e = .returned (v) ∧ Mem w.heap.size w [Qd (tSl Qg 3) [v] (Qui x0)] w' := by
 obtain ⟨m1, A2, c3, rfl, q4, r5⟩ := Qk r_0
 have l6 : x0.length ≤ 68719476736 := s_0
 refine ce1 (L := [(0, .slice A2 x0.length c3)]) (N := 6) func136 ?_
 refine sr (wa (nt' (sr ?_)))
 refine Qdb (E := Qg) Qv Qh (Qo rfl) (by decide) (fun p7 => ?_)
 refine wm ?_
 refine apR Qg Qg 3 (.slice (some ⟨p7, 0, none⟩) 0 0) [] x0 [] (fun W hm => hm) (fun W hm => Qdk Qcw (hm.rdS0 r5)) Qv Qh (show (0 + x0.length) * 8 ≤ 140737488355328 from by omega) (fun v9 => ?_)
 refine Qs (n := 0) rfl ?_
 rintro A10 c11 rfl m12
 refine wa (nt' (Qj ?_))
 have he14 := (show Qui x0 = x0 from rfl)
 refine Qec rfl (Qcv rfl) (fun W hm => ⟨.slice A10 x0.length c11, ?_, ?_⟩)
 ·first | rw [he14] | rfl
 rw [he14]; exact hm
theorem Qaks (x0 : (List Int)) : Qui x0 = x0 := by
 rfl
theorem Qid (w : World) (z0 : Value) (x0 : (List Int)) (r_0 : rdS Qg w w.heap.size z0 x0) (s_0 : x0.length ≤ 68719476736) :
  Calls Tryz.prog 136 #[z0] w fun e w' => ∃ v : Value, e = .returned (v) ∧ Mem w.heap.size w [Qd (tSl Qg 3) [v] x0] w' := by
 have h := Qakr w z0 x0 r_0 s_0
 rw [Qaks] at h
 exact h

def Qum (x0 : Qx) (k12 : Nat) (k39 : Nat) (d40 : (List Qn)) : Qx ⊕ ((List Qn)) :=
 Sum.inr (d40 ++ [(⟨(gt (gt x0.Segments k12) k39).Id, ((gt (gt x0.Segments k12) k39).Values), (gt (gt x0.Segments k12) k39).Born, (gt (gt x0.Segments k12) k39).Died⟩ : Qn)])
def Qrs (x0 : Qx) (k12 : Nat) (d15 : (List (List Qn))) : Qx ⊕ ((List (List Qn))) :=
 Sum.elim Sum.inl (fun (s : (List Qn)) => Sum.inr (d15 ++ [s])) (rng (R := Qx) (fun k (s : (List Qn)) => Qum x0 k12 k s) (((gt x0.Segments k12)).length - 0) 0 [])
def Qrt (x0 : Qx) : Qx :=
 Sum.elim id (fun (s : (List (List Qn))) => (⟨s, x0.Now⟩ : Qx)) (rng (R := Qx) (fun k (s : (List (List Qn))) => Qrs x0 k s) (x0.Segments.length - 0) 0 [])
theorem Qlk : Cb Tryz.prog 173 := ⟨f173, _, func173, rfl, by decide⟩
theorem Qala (w : World) (z0 : List Value) (x0 : Qx) (r_0 : Qcz.rd w w.heap.size z0 x0) (s_0 : Qfl 68719476736 x0) :
  Calls Tryz.prog 173 #[.agg z0.toArray] w fun e w' => ∃ v : List Value, e = .returned (.agg v.toArray) ∧ Mem w.heap.size w [Qd Qcz v (Qrt x0)] w' := by
 obtain ⟨v1, rfl, r2⟩ := Qgy r_0
 obtain ⟨m3, A4, c5, rfl, q6, r7⟩ := Qk r2
 have l8 : x0.Segments.length ≤ 68719476736 := s_0.1
 refine ce1 (L := [(0, .agg #[.slice A4 x0.Segments.length c5, .int .i64 x0.Now])]) (N := 48) func173 ?_
 refine sr ?_
 refine Qbj rfl (Qo rfl) (by decide) (fun p9 => ?_)
 refine Qbo Qae rfl (Qo rfl) (by decide) (fun p10 => ?_)
 refine nt' (sr ?_)
 refine wv (vf Qaf rfl Qh) ?_
 refine wv (vl 1 1 Qt) ?_
 refine wv (fun W hm => Qeq (cs := [.slice none 0 0, .int .i64 x0.Now]) rfl (by kernel_rfl)) ?_
 refine Qbo Qae rfl (Qo rfl) (by decide) (fun p11 => ?_)
 let I7 : It := Qa p9 42 [.slice A4 x0.Segments.length c5, .int .i64 x0.Now]
 refine sb 0 [.slice none 0 0, .int .i64 x0.Now] [Qa p10 42 [.slice none 0 0, .int .i64 0], I7] (fun W hm => hm) Qae ?_
 refine nt' (Qf (sr ?_))
 refine wv (vf Qaf rfl Qcu) ?_
 refine wv (vl 2 0 Qas) ?_
 refine wv (Qai Qas) ?_
 refine wm (nt' (Qab ?_))
 refine Qdf (fun W hm => (hm.addNil (E := (tSl Qm 191)) (e := 131)).last) ?_
 let F1 := fun k (s : (List (List Qn))) => Qrs x0 k s
 let R3 := rng (R := Qx) F1
 refine Qbl (σ := Nat × ((List (List Qn))) × (Option Addr × Nat)) (fun s => [(2, .pointer (some (⟨p10, 0, none⟩ : Addr))), (3, .pointer (some (⟨p11, 0, none⟩ : Addr))), (13, .slice A4 x0.Segments.length c5), (14, .int .i64 ((x0.Segments.length : Nat) : Int)), (15, .int .i64 ((s.1 : Nat) : Int))]) (fun s => [Qa p11 42 [.slice s.2.2.1 s.2.1.length s.2.2.2, .int .i64 x0.Now], Qa p10 42 [.slice none 0 0, .int .i64 0], I7, Qd (tSl (tSl Qm 191) 131) [.slice s.2.2.1 s.2.1.length s.2.2.2] s.2.1]) (fun s => s.1 ≤ x0.Segments.length ∧ R3 (x0.Segments.length - s.1) s.1 s.2.1 = R3 (x0.Segments.length - 0) 0 [] ∧ s.2.1.length ≤ 0 + s.1) (fun s => x0.Segments.length - s.1) (0, [], (none, 0)) sl5 (fun W hm => hm) ⟨(by omega), rfl, Nat.le_refl _⟩ ?_
 rintro ⟨k12, d15, ⟨A16, c17⟩⟩ H20
 obtain ⟨hk18, hF19, hi21⟩ : k12 ≤ x0.Segments.length ∧ R3 (x0.Segments.length - k12) k12 d15 = R3 (x0.Segments.length - 0) 0 [] ∧ d15.length ≤ 0 + k12 := H20
 let I8 : It := Qa p11 42 [.slice A16 d15.length c17, .int .i64 x0.Now]
 let I9 : It := Qd (tSl (tSl Qm 191) 131) [.slice A16 d15.length c17] d15
 show CM Tryz.prog 48 _ _ _ _ [(2, .pointer (some (⟨p10, 0, none⟩ : Addr))), (3, .pointer (some (⟨p11, 0, none⟩ : Addr))), (13, .slice A4 x0.Segments.length c5), (14, .int .i64 ((x0.Segments.length : Nat) : Int)), (15, .int .i64 ((k12 : Nat) : Int))] [I8, Qa p10 42 [.slice none 0 0, .int .i64 0], I7, I9]
 refine sr ?_
 refine wv Qak ?_
 refine nt' (Qf ?_)
 by_cases hl22 : k12 < x0.Segments.length
 ·have g23 := dlT hl22
  refine Ql rfl g23 ?_
  refine Qq (Qi (Qf (Qab (sr ?_))))
  obtain ⟨a24, rfl, hb25, he26⟩ := q6 (by omega)
  refine wv (vix 1 k12 Qas Qda) ?_
  obtain ⟨_, e28, hc27⟩ := he26 k12 _ (Qca (show k12 < x0.Segments.length from by omega))
  have l29 : (gt x0.Segments k12).length ≤ 68719476736 := (s_0.2 _ (Qbh (show k12 < x0.Segments.length from by omega))).1
  obtain ⟨v30, rfl, r31⟩ := e28
  obtain ⟨m32, A33, c34, rfl, q35, r36⟩ := Qk r31
  refine wv (fun W hm => Qaw Qav rfl rfl ((hm.cell0 (show (a24.add (k12 * 1)).block < w.heap.size from by rw [Qah]; exact hb25.1)).trans (hc27 0 _ rfl))) ?_
  refine wa (nt' (sr ?_))
  refine Qdb (E := Qm) Qav Qar (Qo rfl) (by decide) (fun p37 => ?_)
  refine wa (nt' (Qf (sr (wm ?_))))
  refine wv (Qai Qav) ?_
  refine wm (nt' (Qab ?_))
  let F2 := fun k (s : (List Qn)) => Qum x0 k12 k s
  let R4 := rng (R := Qx) F2
  let I10 : It := Qa p9 42 [.slice (some a24) x0.Segments.length c5, .int .i64 x0.Now]
  refine Qbl (σ := Nat × ((List Qn)) × (Option Addr × Nat)) (fun s => [(2, .pointer (some (⟨p10, 0, none⟩ : Addr))), (3, .pointer (some (⟨p11, 0, none⟩ : Addr))), (6, .slice s.2.2.1 s.2.1.length s.2.2.2), (13, .slice (some a24) x0.Segments.length c5), (14, .int .i64 ((x0.Segments.length : Nat) : Int)), (15, .int .i64 ((k12 : Nat) : Int)), (20, .slice A33 ((gt x0.Segments k12)).length c34), (21, .int .i64 ((((gt x0.Segments k12)).length : Nat) : Int)), (22, .int .i64 ((s.1 : Nat) : Int))]) (fun s => [Qd (tSl Qm 191) [.slice s.2.2.1 s.2.1.length s.2.2.2] s.2.1, I8, Qa p10 42 [.slice none 0 0, .int .i64 0], I10, I9]) (fun s => s.1 ≤ ((gt x0.Segments k12)).length ∧ R4 (((gt x0.Segments k12)).length - s.1) s.1 s.2.1 = R4 (((gt x0.Segments k12)).length - 0) 0 [] ∧ s.2.1.length ≤ 0 + s.1) (fun s => ((gt x0.Segments k12)).length - s.1) (0, [], ((some ⟨p37, 0, none⟩), 0)) sl9 (fun W hm => hm) ⟨(by omega), rfl, Nat.le_refl _⟩ ?_
  rintro ⟨k39, d40, ⟨A41, c42⟩⟩ H45
  obtain ⟨hk43, hF44, hi46⟩ : k39 ≤ ((gt x0.Segments k12)).length ∧ R4 (((gt x0.Segments k12)).length - k39) k39 d40 = R4 (((gt x0.Segments k12)).length - 0) 0 [] ∧ d40.length ≤ 0 + k39 := H45
  let I11 : It := Qd (tSl Qm 191) [.slice A41 d40.length c42] d40
  show CM Tryz.prog 48 _ _ _ _ [(2, .pointer (some (⟨p10, 0, none⟩ : Addr))), (3, .pointer (some (⟨p11, 0, none⟩ : Addr))), (6, .slice A41 d40.length c42), (13, .slice (some a24) x0.Segments.length c5), (14, .int .i64 ((x0.Segments.length : Nat) : Int)), (15, .int .i64 ((k12 : Nat) : Int)), (20, .slice A33 ((gt x0.Segments k12)).length c34), (21, .int .i64 ((((gt x0.Segments k12)).length : Nat) : Int)), (22, .int .i64 ((k39 : Nat) : Int))] [I11, I8, Qa p10 42 [.slice none 0 0, .int .i64 0], I10, I9]
  refine sr ?_
  refine wv Qak ?_
  refine nt' (Qf ?_)
  by_cases hl47 : k39 < ((gt x0.Segments k12)).length
  ·have g48 := dlT hl47
   refine Ql rfl g48 ?_
   refine Qq (Qi (Qf (Qab (sr ?_))))
   obtain ⟨a49, rfl, hb50, he51⟩ := q35 (by omega)
   refine wv (vix 4 k39 Qav Qar) ?_
   obtain ⟨_, e55, hc52⟩ := he51 k39 _ (Qca (show k39 < ((gt x0.Segments k12)).length from by omega))
   obtain ⟨v53, rfl, r54⟩ := Qfm e55
   have l56 : ((gt (gt x0.Segments k12) k39).Values).length ≤ 68719476736 := ((s_0.2 _ (Qbh (show k12 < x0.Segments.length from by omega))).2 _ (Qbh (show k39 < ((gt x0.Segments k12)).length from by omega)))
   obtain ⟨m57, A58, c59, rfl, q60, r61⟩ := Qk r54
   let K5 : List Value := [.int .i64 ((gt (gt x0.Segments k12) k39).Id), .slice A58 ((gt (gt x0.Segments k12) k39).Values).length c59, .int .i64 ((gt (gt x0.Segments k12) k39).Born), .int .i64 ((gt (gt x0.Segments k12) k39).Died)]
   refine wv (fun W hm => Qz (cs := K5) Qbe Qar rfl rfl (hm.elCells (show (a49.add (k39 * 4)).block < w.heap.size from by rw [Qah]; exact hb50.1) hc52)) ?_
   refine Qbo Qar rfl (Qo rfl) (by decide) (fun p62 => ?_)
   refine sb 0 K5 [I11, I8, Qa p10 42 [.slice none 0 0, .int .i64 0], I10, I9] (fun W hm => hm) Qar ?_
   refine nt' ?_
   refine rb 14 (s := [Qa p62 191 K5, I8, Qa p10 42 [.slice none 0 0, .int .i64 0], I10, I9]) (pk [0, 2, 3, 4, 5]) ?_
   refine qt 14 0 1 rfl vmv ?_
   refine qt 14 1 3 rfl (vf Qbe rfl Qh) ?_
   refine qt 14 2 7 rfl (vl 0 0 Qt) ?_
   refine qt 14 3 15 rfl (vf Qbe rfl Qap) ?_
   refine qt 14 4 31 rfl (vl 0 1 Qv) ?_
   refine qt 14 6 95 rfl (vf Qbe rfl Qh) ?_
   refine qt 14 7 223 rfl (vl 0 2 Qt) ?_
   refine qt 14 8 479 rfl (vf Qbe rfl Qh) ?_
   refine qt 14 9 991 rfl (vl 0 3 Qt) ?_
   refine qo 14 5 1023 rfl ?_
   refine wcl (tSl Qg 3) ((gt (gt x0.Segments k12) k39).Values) (Qr Qia rfl) (fun W hm => Qid W _ ((gt (gt x0.Segments k12) k39).Values) (hm.rdS0 r61) ((s_0.2 _ (Qbh (show k12 < x0.Segments.length from by omega))).2 _ (Qbh (show k39 < ((gt x0.Segments k12)).length from by omega)))) (fun z63 => ?_)
   refine Qs (n := 0) rfl ?_
   rintro A64 c65 rfl m66
   refine qn (pk [1, 3, 4, 5, 6]) ?_
   let K6 : List Value := [.int .i64 ((gt (gt x0.Segments k12) k39).Id), .slice A64 ((gt (gt x0.Segments k12) k39).Values).length c65, .int .i64 ((gt (gt x0.Segments k12) k39).Born), .int .i64 ((gt (gt x0.Segments k12) k39).Died)]
   refine qt 14 10 2047 rfl (fun W hm => Qeq (cs := K6) rfl (by kernel_rfl)) ?_
   refine qo 14 11 4095 rfl ?_
   refine Qfb (cs := K6) Qav Qar rfl (by decide) (by decide) rfl (by kernel_rfl) (Qo rfl) (by decide) (fun p68 => ?_)
   refine qn (pk [2, 4, 5, 6, 7]) ?_
   refine qo 14 12 8191 rfl ?_
   refine ap1 Qm 191 (.slice A41 d40.length c42) d40 (⟨(gt (gt x0.Segments k12) k39).Id, ((gt (gt x0.Segments k12) k39).Values), (gt (gt x0.Segments k12) k39).Born, (gt (gt x0.Segments k12) k39).Died⟩ : Qn) [Qd (tSl Qg 3) [.slice A64 ((gt (gt x0.Segments k12) k39).Values).length c65] ((gt (gt x0.Segments k12) k39).Values)] [Qa p62 191 K5, I8, Qa p10 42 [.slice none 0 0, .int .i64 0], I10, I9] K6 (pk [0, 3, 1, 2, 4, 5, 6, 7]) (fun _ _ hs => Els.single (Qfs (x := (⟨(gt (gt x0.Segments k12) k39).Id, ((gt (gt x0.Segments k12) k39).Values), (gt (gt x0.Segments k12) k39).Born, (gt (gt x0.Segments k12) k39).Died⟩ : Qn)) hs)) Qav Qar (show (d40.length + 1) * 48 ≤ 140737488355328 from by omega) (fun v69 => ?_)
   refine Qs (n := 0) rfl ?_
   rintro A70 c71 rfl m72
   refine qn (pk [1, 2, 3, 4, 5]) ?_
   refine qt 14 13 16383 rfl (fun W hm => Qmk rfl) ?_
   refine Qef (by kernel_rfl) ?_
   refine Qax (Qi (Qad ?_))
   refine wv (Qbd k39 1 (by omega)) ?_
   refine wm (Qal ?_)
   have hn74 := Qbb (R := Qx) (body := F2) (k := k39) (s := d40) (s' := (d40 ++ [(⟨(gt (gt x0.Segments k12) k39).Id, ((gt (gt x0.Segments k12) k39).Values), (gt (gt x0.Segments k12) k39).Born, (gt (gt x0.Segments k12) k39).Died⟩ : Qn)])) (show k39 < ((gt x0.Segments k12)).length from by omega) (rfl) hF44
   exact Qaz (k39 + 1, (d40 ++ [(⟨(gt (gt x0.Segments k12) k39).Id, ((gt (gt x0.Segments k12) k39).Values), (gt (gt x0.Segments k12) k39).Born, (gt (gt x0.Segments k12) k39).Died⟩ : Qn)]), (A70, c71)) sl9 (pk [0, 2, 3, 4, 5]) ⟨(by omega), hn74, (show (d40 ++ [(⟨(gt (gt x0.Segments k12) k39).Id, ((gt (gt x0.Segments k12) k39).Values), (gt (gt x0.Segments k12) k39).Born, (gt (gt x0.Segments k12) k39).Died⟩ : Qn)]).length ≤ 0 + (k39 + 1) from by first | omega | (simp only [List.length_append, List.length_cons, List.length_nil] at *; omega))⟩ (show ((gt x0.Segments k12)).length - (k39 + 1) < ((gt x0.Segments k12)).length - k39 from by omega)
  have g48 := dlF hl47
  refine Qp rfl g48 ?_
  refine Qbk (Qac (Qac ?_))
  have hE75 : R4 (((gt x0.Segments k12)).length - 0) 0 [] = Sum.inr d40 := Qbn hl47 hF44
  refine Qbm (Qi (Qad ?_))
  refine wv (vf Qaf rfl Qcu) ?_
  refine wv (vl 1 0 Qas) ?_
  refine wm ?_
  refine Qfb (cs := [.slice A41 d40.length c42]) Qas Qda rfl (by decide) (by decide) rfl (by kernel_rfl) (Qo rfl) (by decide) (fun p76 => ?_)
  refine ap1 (tSl Qm 191) 131 (.slice A16 d15.length c17) d15 d40 [I11] [I8, Qa p10 42 [.slice none 0 0, .int .i64 0], I10] [.slice A41 d40.length c42] (pk [0, 5, 1, 2, 3, 4]) (fun _ _ hs => Els.single (Sep.one hs)) Qas Qda (show (d15.length + 1) * 24 ≤ 140737488355328 from by omega) (fun v77 => ?_)
  refine Qs (n := 0) rfl ?_
  rintro A78 c79 rfl m80
  refine wv (vf Qaf rfl Qcu) ?_
  refine sb 0 [.slice A78 (d15 ++ [d40]).length c79, .int .i64 x0.Now] [Qd (tSl (tSl Qm 191) 131) [.slice A78 (d15 ++ [d40]).length c79] (d15 ++ [d40]), Qa p10 42 [.slice none 0 0, .int .i64 0], I10] (pk [1, 0, 2, 3]) Qcu ?_
  refine Qal (Qax (Qi (Qad ?_)))
  refine wv (Qbd k12 1 (by omega)) ?_
  refine wm (Qal ?_)
  have hn82 := Qbb (R := Qx) (body := F1) (k := k12) (s := d15) (s' := (d15 ++ [d40])) (show k12 < x0.Segments.length from by omega) (Qat hE75 (rfl)) hF19
  exact Qaz (k12 + 1, (d15 ++ [d40]), (A78, c79)) sl5 (pk [0, 2, 3, 1]) ⟨(by omega), hn82, (show (d15 ++ [d40]).length ≤ 0 + (k12 + 1) from by first | omega | (simp only [List.length_append, List.length_cons, List.length_nil] at *; omega))⟩ (rl (by omega))
 have g23 := dlF hl22
 refine Qp rfl g23 ?_
 refine Qbk (Qac (Qac ?_))
 have hE83 : R3 (x0.Segments.length - 0) 0 [] = Sum.inr d15 := Qbn hl22 hF19
 refine Qbm (Qi (sr ?_))
 refine wv (fun W hm => Qz (cs := [.slice A16 d15.length c17, .int .i64 x0.Now]) Qaf Qae rfl rfl (hm.boxCells (n := 0) rfl)) ?_
 refine sb 0 [.slice A16 d15.length c17, .int .i64 x0.Now] [I8, I7, I9] (pk [1, 0, 2, 3]) Qae ?_
 refine nt' (Qj ?_)
 have he84 := (show Qrt x0 = (⟨d15, x0.Now⟩ : Qx) from Qat hE83 (rfl))
 refine Qec rfl (Qcp (n := 0) rfl rfl Qaf Qae rfl) (fun W hm => ⟨[.slice A16 d15.length c17, .int .i64 x0.Now], ?_, ?_⟩)
 ·first | rw [he84] | rfl
 rw [he84]; exact Mem.join (is := [I9]) (js := []) (fun _ _ hs => Qed (x := (⟨d15, x0.Now⟩ : Qx)) hs) (hm.pick [3] (by decide))
theorem Qalb (x0 : Qx) : Qrt x0 = x0 := by
 unfold Qrt; rw [Qix (xs := x0.Segments) (b := fun k s => Qrs x0 k s) (fun j s => by unfold Qrs; rw [Qix (xs := gt x0.Segments j) (b := fun k s => Qum x0 j k s) (fun _ _ => rfl)]; rfl)]; rfl
theorem Qls (w : World) (z0 : List Value) (x0 : Qx) (r_0 : Qcz.rd w w.heap.size z0 x0) (s_0 : Qfl 68719476736 x0) :
  Calls Tryz.prog 173 #[.agg z0.toArray] w fun e w' => ∃ v : List Value, e = .returned (.agg v.toArray) ∧ Mem w.heap.size w [Qd Qcz v x0] w' := by
 have h := Qala w z0 x0 r_0 s_0
 rw [Qalb] at h
 exact h

def Quj (x0 : Qcg) : Qcg :=
 x0
theorem Qyi : Cb Tryz.prog 126 := ⟨f126, _, func126, rfl, by decide⟩
theorem Qakt (w : World) (z0 : List Value) (x0 : Qcg) (r_0 : Qez.rd w w.heap.size z0 x0) (s_0 : Qij 68719476736 x0) :
  Calls Tryz.prog 126 #[.agg z0.toArray] w fun e w' => ∃ v : List Value, e = .returned (.agg v.toArray) ∧ Mem w.heap.size w [Qd Qez v (Quj x0)] w' := by
 obtain ⟨v1, v3, rfl, r2, r4⟩ := Qpa r_0
 obtain ⟨m5, A6, c7, rfl, q8, r9⟩ := Qk r2
 obtain ⟨m10, A11, c12, rfl, q13, r14⟩ := Qk r4
 have l15 : x0.Conds.length ≤ 68719476736 := s_0.1
 have l16 : x0.Out.length ≤ 68719476736 := s_0.2
 refine ce1 (L := [(0, .agg #[.int .i64 x0.Id, .int .i64 x0.Tenant, .slice A6 x0.Conds.length c7, .slice A11 x0.Out.length c12])]) (N := 13) func126 ?_
 refine sr ?_
 refine Qbj rfl (Qo rfl) (by decide) (fun p17 => ?_)
 refine Qbo Qcl rfl (Qo rfl) (by decide) (fun p18 => ?_)
 refine nt' (sr ?_)
 refine Qdb (E := Qbz) Qds Qeh (Qo rfl) (by decide) (fun p19 => ?_)
 refine wv (vf Qch rfl type32) ?_
 refine wv (vl 2 2 Qds) ?_
 let K1 : List Value := [.int .i64 0, .int .i64 0, .slice none 0 0, .slice none 0 0]
 refine apR Qbz Qbz 201 (.slice (some ⟨p19, 0, none⟩) 0 0) [] x0.Conds [Qa p18 34 K1, Qa p17 34 [.int .i64 x0.Id, .int .i64 x0.Tenant, .slice A6 x0.Conds.length c7, .slice A11 x0.Out.length c12]] (fun W hm => hm) (fun W hm => Qdk (Qrg (Qlq Qcw (Qlq Qcw Qcw))) (hm.rdS0 r9)) Qds Qeh (show (0 + x0.Conds.length) * 24 ≤ 140737488355328 from by omega) (fun v21 => ?_)
 refine Qs (n := 0) rfl ?_
 rintro A22 c23 rfl m24
 refine wv (vf Qch rfl type32) ?_
 let I3 : It := Qd (tSl Qbz 201) [.slice A22 x0.Conds.length c23] x0.Conds
 refine sb 2 [.int .i64 x0.Id, .int .i64 x0.Tenant, .slice A22 x0.Conds.length c23, .slice A11 x0.Out.length c12] [I3, Qa p18 34 K1] (pk [2, 0, 1]) type32 ?_
 refine nt' (sr ?_)
 refine wv (vf Qch rfl Qap) ?_
 refine wv (vl 0 3 Qv) ?_
 refine wcl (tSl Qg 3) x0.Out (Qr Qia rfl) (fun W hm => Qid W _ x0.Out (hm.rdS0 r14) s_0.2) (fun z26 => ?_)
 refine Qs (n := 0) rfl ?_
 rintro A27 c28 rfl m29
 refine wv (vf Qch rfl Qap) ?_
 let K2 : List Value := [.int .i64 x0.Id, .int .i64 x0.Tenant, .slice A22 x0.Conds.length c23, .slice A27 x0.Out.length c28]
 let I4 : It := Qd (tSl Qg 3) [.slice A27 x0.Out.length c28] x0.Out
 refine sb 3 K2 [I4, I3, Qa p18 34 K1] (pk [1, 0, 2, 3]) Qap ?_
 refine nt' (sr ?_)
 refine wv (fun W hm => Qz (cs := K2) Qch Qcl rfl rfl (hm.boxCells (n := 0) rfl)) ?_
 refine sb 0 K2 [Qa p17 34 K2, I4, I3] (pk [3, 0, 1, 2]) Qcl ?_
 refine nt' (Qj ?_)
 have he31 := (show Quj x0 = x0 from rfl)
 refine Qec rfl (Qcp (n := 0) rfl rfl Qch Qcl rfl) (fun W hm => ⟨K2, ?_, ?_⟩)
 ·first | rw [he31] | rfl
 rw [he31]; exact Mem.join (is := [I3, I4]) (js := []) (fun _ _ hs => Qxg (x := x0) hs) (hm.pick [3, 2] (by decide))
theorem Qaku (x0 : Qcg) : Quj x0 = x0 := by
 rfl
theorem Qzw (w : World) (z0 : List Value) (x0 : Qcg) (r_0 : Qez.rd w w.heap.size z0 x0) (s_0 : Qij 68719476736 x0) :
  Calls Tryz.prog 126 #[.agg z0.toArray] w fun e w' => ∃ v : List Value, e = .returned (.agg v.toArray) ∧ Mem w.heap.size w [Qd Qez v x0] w' := by
 have h := Qakt w z0 x0 r_0 s_0
 rw [Qaku] at h
 exact h

def Quk (x0 : Qaj) : Qaj :=
 x0
theorem Qaib : Cb Tryz.prog 217 := ⟨f217, _, func217, rfl, by decide⟩
theorem Qakv (w : World) (z0 : List Value) (x0 : Qaj) (r_0 : Qbp.rd w w.heap.size z0 x0) (s_0 : Qgg 68719476736 x0) :
  Calls Tryz.prog 217 #[.agg z0.toArray] w fun e w' => ∃ v : List Value, e = .returned (.agg v.toArray) ∧ Mem w.heap.size w [Qd Qbp v (Quk x0)] w' := by
 obtain ⟨v1, rfl, r2⟩ := Qin r_0
 obtain ⟨m3, A4, c5, rfl, q6, r7⟩ := Qk r2
 have l8 : x0.Values.length ≤ 68719476736 := s_0
 refine ce1 (L := [(0, .agg #[.int .i64 x0.Id, .slice A4 x0.Values.length c5])]) (N := 9) func217 ?_
 refine sr ?_
 refine Qbj rfl (Qo rfl) (by decide) (fun p9 => ?_)
 refine Qbo Qcc rfl (Qo rfl) (by decide) (fun p10 => ?_)
 refine nt' (Qf ?_)
 let I1 : It := Qa p9 73 [.int .i64 x0.Id, .slice A4 x0.Values.length c5]
 refine rd2 7 [6] (s := [I1]) (s2 := [Qa p10 73 [.int .i64 0, .slice none 0 0], I1]) (pk [1]) (fun W hm => hm) ?_
 refine qtD 7 0 1 rfl (vf Qde rfl Qh) ?_
 refine qtD 7 1 3 rfl (vl 1 0 Qt) ?_
 refine qtD 7 2 7 rfl (vf Qde rfl Qap) ?_
 refine qtD 7 3 15 rfl (vl 1 1 Qv) ?_
 refine qoD 7 4 31 rfl ?_
 refine wcl (tSl Qg 3) x0.Values (Qr Qia rfl) (fun W hm => Qid W _ x0.Values (hm.rdS0 r7) s_0) (fun z11 => ?_)
 refine Qs (n := 0) rfl ?_
 rintro A12 c13 rfl m14
 refine qnD (pk [2]) (pk [1, 2]) ?_
 refine qtD 7 5 63 rfl (fun W hm => Qeq (cs := [.int .i64 x0.Id, .slice A12 x0.Values.length c13]) rfl (by kernel_rfl)) ?_
 refine qoD 7 6 127 rfl ?_
 let I2 : It := Qd (tSl Qg 3) [.slice A12 x0.Values.length c13] x0.Values
 refine sb 0 [.int .i64 x0.Id, .slice A12 x0.Values.length c13] [I2, I1] (pk [1, 0, 2]) Qcc ?_
 refine qxD (pk [2]) ?_
 refine Qef (by kernel_rfl) ?_
 refine Qi (Qj ?_)
 have he16 := (show Quk x0 = x0 from rfl)
 refine Qec rfl (Qcp (n := 0) rfl rfl Qde Qcc rfl) (fun W hm => ⟨[.int .i64 x0.Id, .slice A12 x0.Values.length c13], ?_, ?_⟩)
 ·first | rw [he16] | rfl
 rw [he16]; exact Mem.join (is := [I2]) (js := []) (fun _ _ hs => Qkk (x := x0) hs) (hm.pick [1] (by decide))
theorem Qakx (x0 : Qaj) : Quk x0 = x0 := by
 rfl
theorem Qakw (w : World) (z0 : List Value) (x0 : Qaj) (r_0 : Qbp.rd w w.heap.size z0 x0) (s_0 : Qgg 68719476736 x0) :
  Calls Tryz.prog 217 #[.agg z0.toArray] w fun e w' => ∃ v : List Value, e = .returned (.agg v.toArray) ∧ Mem w.heap.size w [Qd Qbp v x0] w' := by
 have h := Qakv w z0 x0 r_0 s_0
 rw [Qakx] at h
 exact h

def Qul (x0 : (List Qaj)) (k9 : Nat) (d10 : (List Qaj)) : (List Qaj) ⊕ ((List Qaj)) :=
 Sum.inr (d10 ++ [(gt x0 k9)])
def Qrr (x0 : (List Qaj)) : (List Qaj) :=
 Sum.elim id (fun (s : (List Qaj)) => s) (rng (R := (List Qaj)) (fun k (s : (List Qaj)) => Qul x0 k s) (x0.length - 0) 0 [])
theorem Qyr : Cb Tryz.prog 166 := ⟨f166, _, func166, rfl, by decide⟩
theorem Qaky (w : World) (z0 : Value) (x0 : (List Qaj)) (r_0 : rdS Qbp w w.heap.size z0 x0) (s_0 : (x0.length ≤ 68719476736 ∧ ∀ y ∈ x0, Qgg 68719476736 y)) :
  Calls Tryz.prog 166 #[z0] w fun e w' => ∃ v : Value, e = .returned (v) ∧ Mem w.heap.size w [Qd (tSl Qbp 73) [v] (Qrr x0)] w' := by
 obtain ⟨m1, A2, c3, rfl, q4, r5⟩ := Qk r_0
 have l6 : x0.length ≤ 68719476736 := s_0.1
 refine ce1 (L := [(0, .slice A2 x0.length c3)]) (N := 20) func166 ?_
 refine sr (wa (nt' (sr ?_)))
 refine Qdb (E := Qbp) Qdv Qcc (Qo rfl) (by decide) (fun p7 => ?_)
 refine wa (nt' (Qf (sr (wm ?_))))
 refine wv (Qai Qdv) ?_
 refine wm (nt' (Qab ?_))
 let F1 := fun k (s : (List Qaj)) => Qul x0 k s
 let R2 := rng (R := (List Qaj)) F1
 refine Qbl (σ := Nat × ((List Qaj)) × (Option Addr × Nat)) (fun s => [(3, .slice s.2.2.1 s.2.1.length s.2.2.2), (7, .slice A2 x0.length c3), (8, .int .i64 ((x0.length : Nat) : Int)), (9, .int .i64 ((s.1 : Nat) : Int))]) (fun s => [Qd (tSl Qbp 73) [.slice s.2.2.1 s.2.1.length s.2.2.2] s.2.1]) (fun s => s.1 ≤ x0.length ∧ R2 (x0.length - s.1) s.1 s.2.1 = R2 (x0.length - 0) 0 [] ∧ s.2.1.length ≤ 0 + s.1) (fun s => x0.length - s.1) (0, [], ((some ⟨p7, 0, none⟩), 0)) sl4 (fun W hm => hm) ⟨(by omega), rfl, Nat.le_refl _⟩ ?_
 rintro ⟨k9, d10, ⟨A11, c12⟩⟩ H15
 obtain ⟨hk13, hF14, hi16⟩ : k9 ≤ x0.length ∧ R2 (x0.length - k9) k9 d10 = R2 (x0.length - 0) 0 [] ∧ d10.length ≤ 0 + k9 := H15
 let I5 : It := Qd (tSl Qbp 73) [.slice A11 d10.length c12] d10
 show CM Tryz.prog 20 _ _ _ _ [(3, .slice A11 d10.length c12), (7, .slice A2 x0.length c3), (8, .int .i64 ((x0.length : Nat) : Int)), (9, .int .i64 ((k9 : Nat) : Int))] [I5]
 refine sr ?_
 refine wv Qak ?_
 refine nt' (Qf ?_)
 by_cases hl17 : k9 < x0.length
 ·have g18 := dlT hl17
  refine Ql rfl g18 ?_
  refine Qq (Qi (Qf (Qab (sr ?_))))
  obtain ⟨a19, rfl, hb20, he21⟩ := q4 (by omega)
  refine wv (vix 2 k9 Qdv Qcc) ?_
  obtain ⟨_, e25, hc22⟩ := he21 k9 _ (Qca (show k9 < x0.length from by omega))
  obtain ⟨v23, rfl, r24⟩ := Qin e25
  have l26 : ((gt x0 k9).Values).length ≤ 68719476736 := (s_0.2 _ (Qbh (show k9 < x0.length from by omega)))
  obtain ⟨m27, A28, c29, rfl, q30, r31⟩ := Qk r24
  let K3 : List Value := [.int .i64 ((gt x0 k9).Id), .slice A28 ((gt x0 k9).Values).length c29]
  refine wv (fun W hm => Qz (cs := K3) Qde Qcc rfl rfl (hm.elCells (show (a19.add (k9 * 2)).block < w.heap.size from by rw [Qah]; exact hb20.1) hc22)) ?_
  refine Qbo Qcc rfl (Qo rfl) (by decide) (fun p32 => ?_)
  refine sb 0 K3 [I5] (fun W hm => hm) Qcc ?_
  refine nt' (Qad (wm ?_))
  refine wv (fun W hm => Qz (cs := K3) Qde Qcc rfl rfl (hm.boxCells (n := 0) rfl)) ?_
  refine wcs Qbp (gt x0 k9) (Qr Qaib rfl) (fun W hm => Qakw W _ (gt x0 k9) (Qim (x := (gt x0 k9)) (hm.rdS0 r31)) (s_0.2 _ (Qbh (show k9 < x0.length from by omega)))) (fun z33 => ?_)
  refine Qnu ?_
  rintro v34 rfl
  refine Qs (n := 0) rfl ?_
  rintro A35 c36 rfl m37
  let K4 : List Value := [.int .i64 ((gt x0 k9).Id), .slice A35 ((gt x0 k9).Values).length c36]
  refine Qfb (cs := K4) Qdv Qcc rfl (by decide) (by decide) rfl (by kernel_rfl) (Qo rfl) (by decide) (fun p39 => ?_)
  refine ap1 Qbp 73 (.slice A11 d10.length c12) d10 (gt x0 k9) [Qd (tSl Qg 3) [.slice A35 ((gt x0 k9).Values).length c36] ((gt x0 k9).Values)] [Qa p32 73 K3] K4 (pk [0, 3, 1, 2]) (fun _ _ hs => Els.single (Qkk (x := (gt x0 k9)) hs)) Qdv Qcc (show (d10.length + 1) * 32 ≤ 140737488355328 from by omega) (fun v40 => ?_)
  refine Qs (n := 0) rfl ?_
  rintro A41 c42 rfl m43
  refine wa (Qal (Qax (Qi (Qad ?_))))
  refine wv (Qbd k9 1 (by omega)) ?_
  refine wm (Qal ?_)
  have hn45 := Qbb (R := (List Qaj)) (body := F1) (k := k9) (s := d10) (s' := (d10 ++ [(gt x0 k9)])) (show k9 < x0.length from by omega) (rfl) hF14
  exact Qaz (k9 + 1, (d10 ++ [(gt x0 k9)]), (A41, c42)) sl4 (pk [0]) ⟨(by omega), hn45, (show (d10 ++ [(gt x0 k9)]).length ≤ 0 + (k9 + 1) from by first | omega | (simp only [List.length_append, List.length_cons, List.length_nil] at *; omega))⟩ (rl (by omega))
 have g18 := dlF hl17
 refine Qp rfl g18 ?_
 refine Qbk (Qac (Qac ?_))
 have hE46 : R2 (x0.length - 0) 0 [] = Sum.inr d10 := Qbn hl17 hF14
 refine Qbm (Qi (sr (wm (wa (nt' (Qj ?_))))))
 have he47 := (show Qrr x0 = d10 from Qat hE46 (rfl))
 refine Qec rfl (Qcv rfl) (fun W hm => ⟨.slice A11 d10.length c12, ?_, ?_⟩)
 ·first | rw [he47] | rfl
 rw [he47]; exact hm
theorem Qakz (x0 : (List Qaj)) : Qrr x0 = x0 := by
 unfold Qrr; rw [Qix (xs := x0) (b := fun k s => Qul x0 k s) (fun _ _ => rfl)]; rfl
theorem Qzx (w : World) (z0 : Value) (x0 : (List Qaj)) (r_0 : rdS Qbp w w.heap.size z0 x0) (s_0 : (x0.length ≤ 68719476736 ∧ ∀ y ∈ x0, Qgg 68719476736 y)) :
  Calls Tryz.prog 166 #[z0] w fun e w' => ∃ v : Value, e = .returned (v) ∧ Mem w.heap.size w [Qd (tSl Qbp 73) [v] x0] w' := by
 have h := Qaky w z0 x0 r_0 s_0
 rw [Qakz] at h
 exact h

def Quc (x0 : Qbf) : Qbf :=
 x0
theorem Qagz : Cb Tryz.prog 174 := ⟨f174, _, func174, rfl, by decide⟩
theorem Qakf (w : World) (z0 : List Value) (x0 : Qbf) (r_0 : Qbw.rd w w.heap.size z0 x0) (s_0 : Qiy 68719476736 x0) :
  Calls Tryz.prog 174 #[.agg z0.toArray] w fun e w' => ∃ v : List Value, e = .returned (.agg v.toArray) ∧ Mem w.heap.size w [Qd Qbw v (Quc x0)] w' := by
 obtain ⟨v1, v3, v5, v7, rfl, r2, r4, r6, r8⟩ := Qhz r_0
 obtain ⟨m9, A10, c11, rfl, q12, r13⟩ := Qk r2
 obtain ⟨m14, A15, c16, rfl, q17, r18⟩ := Qk r4
 obtain ⟨m19, A20, c21, rfl, q22, r23⟩ := Qk r6
 obtain ⟨m24, A25, c26, rfl, q27, r28⟩ := Qk r8
 have l29 : x0.Query.Conds.length ≤ 68719476736 := s_0.1.1
 have l30 : x0.Query.Out.length ≤ 68719476736 := s_0.1.2
 have l31 : x0.Todo.length ≤ 68719476736 := s_0.2.1
 have l32 : x0.Rows.length ≤ 68719476736 := s_0.2.2.1
 refine ce1 (L := [(0, .agg #[.int .i64 x0.Query.Id, .int .i64 x0.Query.Tenant, .slice A10 x0.Query.Conds.length c11, .slice A15 x0.Query.Out.length c16, .int .i64 x0.Time, .slice A20 x0.Todo.length c21, .int .i64 x0.Age, .int .i64 x0.Sent, .int .i64 x0.Cap, .slice A25 x0.Rows.length c26])]) (N := 16) func174 ?_
 refine sr ?_
 refine Qbj rfl (Qo rfl) (by decide) (fun p33 => ?_)
 refine Qbo Qcs rfl (Qo rfl) (by decide) (fun p34 => ?_)
 refine nt' (Qf ?_)
 let K1 : List Value := [.int .i64 0, .int .i64 0, .slice none 0 0, .slice none 0 0, .int .i64 0, .slice none 0 0, .int .i64 0, .int .i64 0, .int .i64 0, .slice none 0 0]
 refine rd2 15 [10, 12, 14] (s := [Qa p34 64 K1]) (s2 := [Qa p34 64 K1, Qa p33 64 [.int .i64 x0.Query.Id, .int .i64 x0.Query.Tenant, .slice A10 x0.Query.Conds.length c11, .slice A15 x0.Query.Out.length c16, .int .i64 x0.Time, .slice A20 x0.Todo.length c21, .int .i64 x0.Age, .int .i64 x0.Sent, .int .i64 x0.Cap, .slice A25 x0.Rows.length c26]]) (pk [0]) (fun W hm => hm) ?_
 refine qtD 15 0 1 rfl (vf Qbu rfl Qcl) ?_
 refine qtD 15 1 3 rfl (fun W hm => Qz (cs := [.int .i64 x0.Query.Id, .int .i64 x0.Query.Tenant, .slice A10 x0.Query.Conds.length c11, .slice A15 x0.Query.Out.length c16]) Qch Qcl rfl rfl (hm.boxPart (n := 1) rfl rfl)) ?_
 refine qtD 15 3 11 rfl (vf Qbu rfl Qap) ?_
 refine qtD 15 4 27 rfl (vl 1 5 Qv) ?_
 refine qtD 15 6 91 rfl (vf Qbu rfl Qfa) ?_
 refine qtD 15 7 219 rfl (vl 1 9 Qdv) ?_
 refine qoD 15 2 223 rfl ?_
 refine wcs Qez x0.Query (Qr Qyi rfl) (fun W hm => Qzw W _ x0.Query (Qjb (x := x0.Query) (hm.rdS0 r13) (hm.rdS0 r18)) s_0.1) (fun z35 => ?_)
 refine Qpb ?_
 rintro ⟨v36, v37⟩ rfl
 refine Qs (n := 0) rfl ?_
 rintro A38 c39 rfl m40
 refine Qs (n := 1) rfl ?_
 rintro A42 c43 rfl m44
 refine qnD (pk [2]) (pk [2, 3]) ?_
 refine qtD 15 9 735 rfl (vf Qbu rfl Qcl) ?_
 refine qoD 15 5 767 rfl ?_
 refine wcl (tSl Qg 3) x0.Todo (Qr Qia rfl) (fun W hm => Qid W _ x0.Todo (hm.rdS0 r23) s_0.2.1) (fun z46 => ?_)
 refine Qs (n := 0) rfl ?_
 rintro A47 c48 rfl m49
 refine qnD (pk [3]) (pk [3, 4]) ?_
 refine qoD 15 8 1023 rfl ?_
 refine wcl (tSl Qbp 73) x0.Rows (Qr Qyr rfl) (fun W hm => Qzx W _ x0.Rows (hm.rdS0 r28) s_0.2.2) (fun z51 => ?_)
 refine Qs (n := 0) rfl ?_
 rintro A52 c53 rfl m54
 refine qnD (pk [4]) (pk [4, 5]) ?_
 refine qoD 15 10 2047 rfl ?_
 let I3 : It := Qd (tSl Qbp 73) [.slice A52 x0.Rows.length c53] x0.Rows
 let I4 : It := Qd (tSl Qg 3) [.slice A47 x0.Todo.length c48] x0.Todo
 let I5 : It := Qd (tSl Qbz 201) [.slice A38 x0.Query.Conds.length c39] x0.Query.Conds
 let I6 : It := Qd (tSl Qg 3) [.slice A42 x0.Query.Out.length c43] x0.Query.Out
 refine sb 0 [.int .i64 x0.Query.Id, .int .i64 x0.Query.Tenant, .slice A38 x0.Query.Conds.length c39, .slice A42 x0.Query.Out.length c43, .int .i64 x0.Time, .slice A20 x0.Todo.length c21, .int .i64 x0.Age, .int .i64 x0.Sent, .int .i64 x0.Cap, .slice A25 x0.Rows.length c26] [I3, I4, I5, I6, Qa p34 64 K1] (pk [5, 0, 1, 2, 3, 4]) Qcl ?_
 refine qxD (pk [5]) ?_
 refine qt 15 11 4095 rfl (vf Qbu rfl Qap) ?_
 refine qo 15 12 8191 rfl ?_
 refine sb 5 [.int .i64 x0.Query.Id, .int .i64 x0.Query.Tenant, .slice A38 x0.Query.Conds.length c39, .slice A42 x0.Query.Out.length c43, .int .i64 x0.Time, .slice A47 x0.Todo.length c48, .int .i64 x0.Age, .int .i64 x0.Sent, .int .i64 x0.Cap, .slice A25 x0.Rows.length c26] [I3, I4, I5, I6, Qa p34 64 K1] (fun W hm => hm) Qap ?_
 refine qn (pk [5]) ?_
 refine qt 15 13 16383 rfl (vf Qbu rfl Qfa) ?_
 refine qo 15 14 32767 rfl ?_
 let K2 : List Value := [.int .i64 x0.Query.Id, .int .i64 x0.Query.Tenant, .slice A38 x0.Query.Conds.length c39, .slice A42 x0.Query.Out.length c43, .int .i64 x0.Time, .slice A47 x0.Todo.length c48, .int .i64 x0.Age, .int .i64 x0.Sent, .int .i64 x0.Cap, .slice A52 x0.Rows.length c53]
 refine sb 9 K2 [I3, I4, I5, I6, Qa p34 64 K1] (fun W hm => hm) Qfa ?_
 refine qn (pk [5]) ?_
 refine Qef (by kernel_rfl) ?_
 refine Qi (sr ?_)
 refine wv (fun W hm => Qz (cs := K2) Qbu Qcs rfl rfl (hm.boxCells (n := 0) rfl)) ?_
 refine sb 0 K2 [Qa p33 64 K2, I3, I4, I5, I6] (pk [5, 0, 1, 2, 3, 4]) Qcs ?_
 refine nt' (Qj ?_)
 have he56 := (show Quc x0 = x0 from rfl)
 refine Qec rfl (Qcp (n := 0) rfl rfl Qbu Qcs rfl) (fun W hm => ⟨K2, ?_, ?_⟩)
 ·first | rw [he56] | rfl
 rw [he56]; exact Mem.join (is := [I5, I6, I4, I3]) (js := []) (fun _ _ hs => Qmm (x := x0) hs) (hm.pick [4, 5, 3, 2] (by decide))
theorem Qakh (x0 : Qbf) : Quc x0 = x0 := by
 rfl
theorem Qakg (w : World) (z0 : List Value) (x0 : Qbf) (r_0 : Qbw.rd w w.heap.size z0 x0) (s_0 : Qiy 68719476736 x0) :
  Calls Tryz.prog 174 #[.agg z0.toArray] w fun e w' => ∃ v : List Value, e = .returned (.agg v.toArray) ∧ Mem w.heap.size w [Qd Qbw v x0] w' := by
 have h := Qakf w z0 x0 r_0 s_0
 rw [Qakh] at h
 exact h

def Quh (x0 : Qbg) : Qbg :=
 x0
theorem cb86 : Cb Tryz.prog 86 := ⟨f86, _, func86, rfl, by decide⟩
theorem Qako (w : World) (z0 : List Value) (x0 : Qbg) (r_0 : Qce.rd w w.heap.size z0 x0) (s_0 : Qiz 68719476736 x0) :
  Calls Tryz.prog 86 #[.agg z0.toArray] w fun e w' => ∃ v : List Value, e = .returned (.agg v.toArray) ∧ Mem w.heap.size w [Qd Qce v (Quh x0)] w' := by
 obtain ⟨v1, v3, v5, rfl, r2, r4, r6⟩ := Qkj r_0
 obtain ⟨m7, A8, c9, rfl, q10, r11⟩ := Qk r2
 obtain ⟨m12, A13, c14, rfl, q15, r16⟩ := Qk r4
 obtain ⟨m17, A18, c19, rfl, q20, r21⟩ := Qk r6
 have l22 : x0.Query.Conds.length ≤ 68719476736 := s_0.1.1
 have l23 : x0.Query.Out.length ≤ 68719476736 := s_0.1.2
 have l24 : x0.Rows.length ≤ 68719476736 := s_0.2.1
 refine ce1 (L := [(0, .agg #[.int .i64 x0.Query.Id, .int .i64 x0.Query.Tenant, .slice A8 x0.Query.Conds.length c9, .slice A13 x0.Query.Out.length c14, .int .i64 x0.Time, .int .i64 x0.Steps, .slice A18 x0.Rows.length c19])]) (N := 12) func86 ?_
 refine sr ?_
 refine Qbj rfl (Qo rfl) (by decide) (fun p25 => ?_)
 refine Qbo Qdl rfl (Qo rfl) (by decide) (fun p26 => ?_)
 refine nt' (Qf ?_)
 let K1 : List Value := [.int .i64 0, .int .i64 0, .slice none 0 0, .slice none 0 0, .int .i64 0, .int .i64 0, .slice none 0 0]
 refine rd2 10 [7, 9] (s := [Qa p26 37 K1]) (s2 := [Qa p26 37 K1, Qa p25 37 [.int .i64 x0.Query.Id, .int .i64 x0.Query.Tenant, .slice A8 x0.Query.Conds.length c9, .slice A13 x0.Query.Out.length c14, .int .i64 x0.Time, .int .i64 x0.Steps, .slice A18 x0.Rows.length c19]]) (pk [0]) (fun W hm => hm) ?_
 refine qtD 10 0 1 rfl (vf Qdh rfl Qcl) ?_
 refine qtD 10 1 3 rfl (fun W hm => Qz (cs := [.int .i64 x0.Query.Id, .int .i64 x0.Query.Tenant, .slice A8 x0.Query.Conds.length c9, .slice A13 x0.Query.Out.length c14]) Qch Qcl rfl rfl (hm.boxPart (n := 1) rfl rfl)) ?_
 refine qtD 10 3 11 rfl (vf Qdh rfl Qfa) ?_
 refine qtD 10 4 27 rfl (vl 1 6 Qdv) ?_
 refine qoD 10 2 31 rfl ?_
 refine wcs Qez x0.Query (Qr Qyi rfl) (fun W hm => Qzw W _ x0.Query (Qjb (x := x0.Query) (hm.rdS0 r11) (hm.rdS0 r16)) s_0.1) (fun z27 => ?_)
 refine Qpb ?_
 rintro ⟨v28, v29⟩ rfl
 refine Qs (n := 0) rfl ?_
 rintro A30 c31 rfl m32
 refine Qs (n := 1) rfl ?_
 rintro A34 c35 rfl m36
 refine qnD (pk [2]) (pk [2, 3]) ?_
 refine qtD 10 6 95 rfl (vf Qdh rfl Qcl) ?_
 refine qoD 10 5 127 rfl ?_
 refine wcl (tSl Qbp 73) x0.Rows (Qr Qyr rfl) (fun W hm => Qzx W _ x0.Rows (hm.rdS0 r21) s_0.2) (fun z38 => ?_)
 refine Qs (n := 0) rfl ?_
 rintro A39 c40 rfl m41
 refine qnD (pk [3]) (pk [3, 4]) ?_
 refine qoD 10 7 255 rfl ?_
 let I3 : It := Qd (tSl Qbp 73) [.slice A39 x0.Rows.length c40] x0.Rows
 let I4 : It := Qd (tSl Qbz 201) [.slice A30 x0.Query.Conds.length c31] x0.Query.Conds
 let I5 : It := Qd (tSl Qg 3) [.slice A34 x0.Query.Out.length c35] x0.Query.Out
 refine sb 0 [.int .i64 x0.Query.Id, .int .i64 x0.Query.Tenant, .slice A30 x0.Query.Conds.length c31, .slice A34 x0.Query.Out.length c35, .int .i64 x0.Time, .int .i64 x0.Steps, .slice A18 x0.Rows.length c19] [I3, I4, I5, Qa p26 37 K1] (pk [4, 0, 1, 2, 3]) Qcl ?_
 refine qxD (pk [4]) ?_
 refine qt 10 8 511 rfl (vf Qdh rfl Qfa) ?_
 refine qo 10 9 1023 rfl ?_
 let K2 : List Value := [.int .i64 x0.Query.Id, .int .i64 x0.Query.Tenant, .slice A30 x0.Query.Conds.length c31, .slice A34 x0.Query.Out.length c35, .int .i64 x0.Time, .int .i64 x0.Steps, .slice A39 x0.Rows.length c40]
 refine sb 6 K2 [I3, I4, I5, Qa p26 37 K1] (fun W hm => hm) Qfa ?_
 refine qn (pk [4]) ?_
 refine Qef (by kernel_rfl) ?_
 refine Qi (sr ?_)
 refine wv (fun W hm => Qz (cs := K2) Qdh Qdl rfl rfl (hm.boxCells (n := 0) rfl)) ?_
 refine sb 0 K2 [Qa p25 37 K2, I3, I4, I5] (pk [4, 0, 1, 2, 3]) Qdl ?_
 refine nt' (Qj ?_)
 have he43 := (show Quh x0 = x0 from rfl)
 refine Qec rfl (Qcp (n := 0) rfl rfl Qdh Qdl rfl) (fun W hm => ⟨K2, ?_, ?_⟩)
 ·first | rw [he43] | rfl
 rw [he43]; exact Mem.join (is := [I4, I5, I3]) (js := []) (fun _ _ hs => Qoz (x := x0) hs) (hm.pick [3, 4, 2] (by decide))
theorem Qakq (x0 : Qbg) : Quh x0 = x0 := by
 rfl
theorem Qakp (w : World) (z0 : List Value) (x0 : Qbg) (r_0 : Qce.rd w w.heap.size z0 x0) (s_0 : Qiz 68719476736 x0) :
  Calls Tryz.prog 86 #[.agg z0.toArray] w fun e w' => ∃ v : List Value, e = .returned (.agg v.toArray) ∧ Mem w.heap.size w [Qd Qce v x0] w' := by
 have h := Qako w z0 x0 r_0 s_0
 rw [Qakq] at h
 exact h

def Qud (x0 : Qay) : Qay :=
 x0
theorem Qaha : Cb Tryz.prog 175 := ⟨f175, _, func175, rfl, by decide⟩
theorem Qaki (w : World) (z0 : List Value) (x0 : Qay) (r_0 : Qbx.rd w w.heap.size z0 x0) (s_0 : Qhx 68719476736 x0) :
  Calls Tryz.prog 175 #[.agg z0.toArray] w fun e w' => ∃ v : List Value, e = .returned (.agg v.toArray) ∧ Mem w.heap.size w [Qd Qbx v (Qud x0)] w' := by
 obtain ⟨v1, v3, v5, rfl, r2, r4, r6⟩ := Qik r_0
 obtain ⟨m7, A8, c9, rfl, q10, r11⟩ := Qk r2
 obtain ⟨m12, A13, c14, rfl, q15, r16⟩ := Qk r4
 obtain ⟨m17, A18, c19, rfl, q20, r21⟩ := Qk r6
 have l22 : x0.Ids.length ≤ 68719476736 := s_0.1
 have l23 : x0.Tenants.length ≤ 68719476736 := s_0.2.1
 have l24 : x0.Rows.length ≤ 68719476736 := s_0.2.2
 refine ce1 (L := [(0, .agg #[.int .i64 x0.Segment, .int .i64 x0.Base, .slice A8 x0.Ids.length c9, .slice A13 x0.Tenants.length c14, .slice A18 x0.Rows.length c19])]) (N := 16) func175 ?_
 refine sr ?_
 refine Qbj rfl (Qo rfl) (by decide) (fun p25 => ?_)
 refine Qbo Qdr rfl (Qo rfl) (by decide) (fun p26 => ?_)
 refine nt' (Qf ?_)
 let K1 : List Value := [.int .i64 0, .int .i64 0, .slice none 0 0, .slice none 0 0, .slice none 0 0]
 refine rd2 15 [10, 12, 14] (s := [Qa p26 133 K1]) (s2 := [Qa p26 133 K1, Qa p25 133 [.int .i64 x0.Segment, .int .i64 x0.Base, .slice A8 x0.Ids.length c9, .slice A13 x0.Tenants.length c14, .slice A18 x0.Rows.length c19]]) (pk [0]) (fun W hm => hm) ?_
 refine qtD 15 0 1 rfl (vf Qcm rfl Qap) ?_
 refine qtD 15 1 3 rfl (vl 1 2 Qv) ?_
 refine qtD 15 3 11 rfl (vf Qcm rfl Qap) ?_
 refine qtD 15 4 27 rfl (vl 1 3 Qv) ?_
 refine qtD 15 6 91 rfl (vf Qcm rfl Qap) ?_
 refine qtD 15 7 219 rfl (vl 1 4 Qv) ?_
 refine qoD 15 2 223 rfl ?_
 refine wcl (tSl Qg 3) x0.Ids (Qr Qia rfl) (fun W hm => Qid W _ x0.Ids (hm.rdS0 r11) s_0.1) (fun z27 => ?_)
 refine Qs (n := 0) rfl ?_
 rintro A28 c29 rfl m30
 refine qnD (pk [1]) (pk [1, 2]) ?_
 refine qtD 15 9 735 rfl (vf Qcm rfl Qap) ?_
 refine qoD 15 5 767 rfl ?_
 refine wcl (tSl Qg 3) x0.Tenants (Qr Qia rfl) (fun W hm => Qid W _ x0.Tenants (hm.rdS0 r16) s_0.2.1) (fun z32 => ?_)
 refine Qs (n := 0) rfl ?_
 rintro A33 c34 rfl m35
 refine qnD (pk [2]) (pk [2, 3]) ?_
 refine qoD 15 8 1023 rfl ?_
 refine wcl (tSl Qg 3) x0.Rows (Qr Qia rfl) (fun W hm => Qid W _ x0.Rows (hm.rdS0 r21) s_0.2.2) (fun z37 => ?_)
 refine Qs (n := 0) rfl ?_
 rintro A38 c39 rfl m40
 refine qnD (pk [3]) (pk [3, 4]) ?_
 refine qoD 15 10 2047 rfl ?_
 let I3 : It := Qd (tSl Qg 3) [.slice A38 x0.Rows.length c39] x0.Rows
 let I4 : It := Qd (tSl Qg 3) [.slice A33 x0.Tenants.length c34] x0.Tenants
 let I5 : It := Qd (tSl Qg 3) [.slice A28 x0.Ids.length c29] x0.Ids
 refine sb 2 [.int .i64 x0.Segment, .int .i64 x0.Base, .slice A28 x0.Ids.length c29, .slice A13 x0.Tenants.length c14, .slice A18 x0.Rows.length c19] [I3, I4, I5, Qa p26 133 K1] (pk [4, 0, 1, 2, 3]) Qap ?_
 refine qxD (pk [4]) ?_
 refine qt 15 11 4095 rfl (vf Qcm rfl Qap) ?_
 refine qo 15 12 8191 rfl ?_
 refine sb 3 [.int .i64 x0.Segment, .int .i64 x0.Base, .slice A28 x0.Ids.length c29, .slice A33 x0.Tenants.length c34, .slice A18 x0.Rows.length c19] [I3, I4, I5, Qa p26 133 K1] (fun W hm => hm) Qap ?_
 refine qn (pk [4]) ?_
 refine qt 15 13 16383 rfl (vf Qcm rfl Qap) ?_
 refine qo 15 14 32767 rfl ?_
 let K2 : List Value := [.int .i64 x0.Segment, .int .i64 x0.Base, .slice A28 x0.Ids.length c29, .slice A33 x0.Tenants.length c34, .slice A38 x0.Rows.length c39]
 refine sb 4 K2 [I3, I4, I5, Qa p26 133 K1] (fun W hm => hm) Qap ?_
 refine qn (pk [4]) ?_
 refine Qef (by kernel_rfl) ?_
 refine Qi (sr ?_)
 refine wv (fun W hm => Qz (cs := K2) Qcm Qdr rfl rfl (hm.boxCells (n := 0) rfl)) ?_
 refine sb 0 K2 [Qa p25 133 K2, I3, I4, I5] (pk [4, 0, 1, 2, 3]) Qdr ?_
 refine nt' (Qj ?_)
 have he42 := (show Qud x0 = x0 from rfl)
 refine Qec rfl (Qcp (n := 0) rfl rfl Qcm Qdr rfl) (fun W hm => ⟨K2, ?_, ?_⟩)
 ·first | rw [he42] | rfl
 rw [he42]; exact Mem.join (is := [I5, I4, I3]) (js := []) (fun _ _ hs => Qnp (x := x0) hs) (hm.pick [4, 3, 2] (by decide))
theorem Qakk (x0 : Qay) : Qud x0 = x0 := by
 rfl
theorem Qakj (w : World) (z0 : List Value) (x0 : Qay) (r_0 : Qbx.rd w w.heap.size z0 x0) (s_0 : Qhx 68719476736 x0) :
  Calls Tryz.prog 175 #[.agg z0.toArray] w fun e w' => ∃ v : List Value, e = .returned (.agg v.toArray) ∧ Mem w.heap.size w [Qd Qbx v x0] w' := by
 have h := Qaki w z0 x0 r_0 s_0
 rw [Qakk] at h
 exact h

end Go.Proofs.YtmikmbmdibabmaaGreat
