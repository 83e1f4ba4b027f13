/-
  The program and the reference compute the same: plain laws over what the walks showed.
-/
import Derived.Test.YtmikmbmdibabmaaGreatL9Law
namespace Go.Proofs.YtmikmbmdibabmaaGreat
open Go.RowKit
theorem Qabt {n : Nat} {b : Nat → Unit → Bool ⊕ Unit} (h : ∀ j, b j () = .inr () ∨ b j () = .inl false) : ∀ m k, rng b m k () = .inr () ∨ rng b m k () = .inl false
  | 0, _ => .inl rfl
  | m + 1, k => by
    rcases h k with h1 | h1
    · rw [rng, h1]; exact Qabt (n := n) h m (k + 1)
    · right; rw [rng, h1]; rfl
theorem Qaeo (x : List Int) (k : Nat) : Qrm x k = Qsf x k := by
  unfold Qrm Qsf Qbt
  by_cases h1 : gt x k < 0
  · have h2 : ¬ 0 ≤ gt x k := by omega
    simp only [decide_eq_true h1, decide_eq_false h2, cond_true, cond_false]
  · have h2 : 0 ≤ gt x k := by omega
    by_cases h3 : 24 ≤ gt x k
    · have h4 : ¬ gt x k ≤ 23 := by omega
      simp only [decide_eq_false h1, decide_eq_true h2, decide_eq_true h3, decide_eq_false h4, cond_true, cond_false]
    · have h4 : gt x k ≤ 23 := by omega
      simp only [decide_eq_false h1, decide_eq_true h2, decide_eq_false h3, decide_eq_true h4, cond_true, cond_false]
theorem Qaep (x : List Int) : Qoj x = Qnk x := by
  unfold Qoj Qnk
  simp only [Qaeo]
theorem Qaei (x : Qay) (k : Nat) : Qtt x k = Qng x k := rfl
theorem Qaej (x : Qay) (k : Nat) : Qng x k = .inr () ∨ Qng x k = .inl false := by
  unfold Qng
  cases Qbt (gt x.Tenants k) 0 3 <;> cases Qbt (gt x.Rows k) 0 x.Base <;> simp
theorem Qaek (x : Qay) : Qmu x = Qnh x := by
  unfold Qmu Qnh
  rw [Qaep]
  simp only [Qaei, Qxj]
  have h8 : Qbt ((x.Ids.length : Nat) : Int) 1 8 = cond (((x.Ids.length : Nat) : Int) == 0) false (cond (decide (8 < ((x.Ids.length : Nat) : Int))) false true) := by
    unfold Qbt
    by_cases h1 : ((x.Ids.length : Nat) : Int) = 0
    · rw [beq_iff_eq.2 h1, decide_eq_false (show ¬ 1 ≤ ((x.Ids.length : Nat) : Int) by omega)]; rfl
    · rw [beq_eq_false_iff_ne.2 h1, decide_eq_true (show 1 ≤ ((x.Ids.length : Nat) : Int) by omega)]
      by_cases h2 : 8 < ((x.Ids.length : Nat) : Int)
      · rw [decide_eq_true h2, decide_eq_false (show ¬ ((x.Ids.length : Nat) : Int) ≤ 8 by omega)]; rfl
      · rw [decide_eq_false h2, decide_eq_true (show ((x.Ids.length : Nat) : Int) ≤ 8 by omega)]; rfl
  rw [h8]
  have hr := Qabt (n := 0) (b := fun k (_ : Unit) => Qng x k) (Qaej x) (x.Ids.length - 0) 0
  rcases hr with hr | hr <;> rw [hr] <;> cases Qnk x.Ids <;> cases (((x.Ids.length : Nat) : Int) == 0) <;> cases (decide (8 < ((x.Ids.length : Nat) : Int))) <;>
    cases (((x.Tenants.length : Nat) : Int) != ((x.Ids.length : Nat) : Int)) <;> cases (((x.Rows.length : Nat) : Int) != ((x.Ids.length : Nat) : Int)) <;> cases Qbt x.Segment 0 7 <;> cases Qbt x.Base 0 4 <;> rfl
def Qff (x : List Int) (v : Qn) : Bool := x.any (fun t => Qic v t) || v.Died == -1
theorem Qali (v : Qn) (x : List Int) : Qpm v x = Qff x v := by
  unfold Qpm Qff
  rw [Qvz (p := fun t => Qic v t) (r := true) (fun j _ => by unfold Quo; rfl)]
  cases x.any (fun t => Qic v t) <;> rfl
theorem Qzl {α : Type} (p : α → Bool) : ∀ (xs : List α) (s : Bool), xs.foldl (fun s t => cond s true (p t)) s = (s || xs.any p)
  | [], s => by simp
  | x :: xs, s => by
    rw [List.foldl_cons, Qzl p xs]
    cases s <;> simp
theorem Qajy (x : List Int) (k : Nat) (d : List (List Qn)) : Qrp x k d = .inr (d.set k ((gt d k).filter (Qff x))) := by
  unfold Qrp
  rw [Qmj (xs := gt d k) (f := fun e v => cond (Qff x v) (e ++ [v]) e) (fun j s _ => by unfold Qty; rw [Qali]; cases Qff x (gt (gt d k) j) <;> rfl)]
  show Sum.inr (d.set k _) = _
  rw [Qajm]
  rfl
def Qeb (s : Int) (n : Nat) : Int := IntKind.i64.wrap (s + n)
theorem Qlp (s : Int) (m n : Nat) : Qeb (Qeb s m) n = Qeb s (m + n) := by
  unfold Qeb
  simp only [IntKind.wrap_i64]
  omega
theorem Qwj (x : List Int) : ∀ (l : List Qn) (s : Int) (e : List Qn), l.foldl (fun (s : Int × List Qn) v => cond (Qff x v) (s.1, s.2 ++ [v]) (IntKind.i64.wrap (s.1 + 1), s.2)) (Qeb s 0, e) = (Qeb s (l.length - (l.filter (Qff x)).length), e ++ l.filter (Qff x))
  | [], s, e => by simp
  | v :: l, s, e => by
    rw [List.foldl_cons]
    have hl := List.length_filter_le (Qff x) l
    cases h : Qff x v with
    | true =>
      rw [cond_true, Qwj x l s (e ++ [v])]
      simp [h]
    | false =>
      have e1 : (IntKind.i64.wrap (Qeb s 0 + 1)) = Qeb (Qeb s 1) 0 := by
        unfold Qeb
        simp only [IntKind.wrap_i64]
        omega
      rw [cond_false]
      dsimp only
      rw [e1, Qwj x l (Qeb s 1) e, Qlp]
      simp only [List.filter_cons, h, List.length_cons]
      congr 2
      simp only [Bool.false_eq_true, if_false]
      omega
theorem Qart (x : List Int) (k : Nat) (s : Int) (d : List (List Qn)) : Qqn x k (Qeb s 0) d = .inr (Qeb s ((gt d k).length - ((gt d k).filter (Qff x)).length), d.set k ((gt d k).filter (Qff x))) := by
  unfold Qqn
  rw [Qmj (xs := gt d k) (f := fun (s : Int × List Qn) v => cond (Qff x v) (s.1, s.2 ++ [v]) (IntKind.i64.wrap (s.1 + 1), s.2)) (fun j s _ => by
    unfold Qwh
    rw [Qmj (xs := x) (f := fun s t => cond s true (Qic (gt (gt d k) j) t)) (fun i s _ => by unfold Qwi; cases s <;> rfl), Qzl]
    have : ((gt (gt d k) j).Died == -1 || x.any fun t => Qic (gt (gt d k) j) t) = Qff x (gt (gt d k) j) := by unfold Qff; rw [Bool.or_comm]
    rw [this]
    show cond (Qff x (gt (gt d k) j)) _ _ = _
    cases Qff x (gt (gt d k) j) <;> rfl), Qwj]
  rfl
theorem Qaqj {R : Type} (xs : List (List Qn)) (b : Nat → Int → R ⊕ Int) (hb : ∀ j s, b j s = .inr (IntKind.i64.wrap (s + ((gt xs j).length : Nat)))) : rng b (xs.length - 0) 0 0 = .inr (Qeb 0 (xs.map List.length).sum) := by
  have h : ∀ (l : List (List Qn)) (s : Int), l.foldl (fun (s : Int) v => IntKind.i64.wrap (s + (v.length : Nat))) (Qeb s 0) = Qeb s (l.map List.length).sum := by
    intro l
    induction l with
    | nil => intro s; rfl
    | cons v l ih =>
      intro s
      have e1 : IntKind.i64.wrap (Qeb s 0 + (v.length : Nat)) = Qeb (Qeb s v.length) 0 := by
        unfold Qeb
        simp only [IntKind.wrap_i64]
        omega
      rw [List.foldl_cons, e1, ih, Qlp]
      simp
  rw [Qmj (xs := xs) (f := fun (s : Int) v => IntKind.i64.wrap (s + (v.length : Nat))) (fun j s _ => hb j s)]
  exact congrArg Sum.inr (h xs 0)
theorem Qxn (x : Qx) : Qmt x = Qeb 0 (x.Segments.map List.length).sum := by
  unfold Qmt
  rw [Qaqj x.Segments _ (fun j s => by unfold Qts; rfl)]
  rfl
def Qfx (x : List Int) (d : List (List Qn)) : List (List Qn) := d.map fun l => l.filter (Qff x)
theorem Qvx (x : List Int) : ∀ d : List (List Qn), ((Qfx x d).map List.length).sum ≤ (d.map List.length).sum ∧ ∀ s : Int, d.foldl (fun (s : Int) l => Qeb s (l.length - (l.filter (Qff x)).length)) (Qeb s 0) = Qeb s ((d.map List.length).sum - ((Qfx x d).map List.length).sum)
  | [] => ⟨by simp [Qfx], fun s => rfl⟩
  | l :: d => by
    obtain ⟨h1, h2⟩ := Qvx x d
    have h3 := List.length_filter_le (Qff x) l
    have e1 : ((Qfx x (l :: d)).map List.length).sum = (l.filter (Qff x)).length + ((Qfx x d).map List.length).sum := by simp [Qfx]
    have e2 : ((l :: d).map List.length).sum = l.length + (d.map List.length).sum := by simp
    refine ⟨by omega, fun s => ?_⟩
    rw [List.foldl_cons]
    have e3 : Qeb (Qeb s 0) (l.length - (l.filter (Qff x)).length) = Qeb (Qeb s (l.length - (l.filter (Qff x)).length)) 0 := by
      rw [Qlp, Qlp, Nat.zero_add, Nat.add_zero]
    rw [e3, h2, Qlp]
    congr 1
    omega
theorem Qzv (x : Qx) (y : List Int) (h : Qib x = true) : Qgb x y = (⟨Qfx y x.Segments, x.Now⟩, Qeb 0 ((x.Segments.map List.length).sum - ((Qfx y x.Segments).map List.length).sum)) := by
  unfold Qgb
  rw [h, cond_true, Qaqi (xs := x.Segments) (f := fun l => l.filter (Qff y)) (fun j s _ he => by rw [Qajy, he])]
  show ((⟨Qfx y x.Segments, x.Now⟩ : Qx), _) = _
  congr 1
  rw [Qxn, Qxn]
  have := (Qvx y x.Segments).1
  show IntKind.i64.wrap (Qeb 0 (x.Segments.map List.length).sum - Qeb 0 ((Qfx y x.Segments).map List.length).sum) = _
  unfold Qeb
  simp only [IntKind.wrap_i64]
  omega
theorem Qaru (x : Qx) (y : List Int) (h : Qhd x = true) : Qgh x y = (⟨Qfx y x.Segments, x.Now⟩, Qeb 0 ((x.Segments.map List.length).sum - ((Qfx y x.Segments).map List.length).sum)) := by
  unfold Qgh
  rw [h, cond_true]
  have h0 : (0 : Int) = Qeb 0 0 := rfl
  rw [h0]
  have key : ∀ (m k : Nat) (s : Int), m + k = x.Segments.length → rng (R := Qx × Int) (fun k (s : Int × List (List Qn)) => Qqn y k s.1 s.2) m k (Qeb s 0, Qfx y (x.Segments.take k) ++ x.Segments.drop k) = .inr ((x.Segments.drop k).foldl (fun (s : Int) l => Qeb s (l.length - (l.filter (Qff y)).length)) (Qeb s 0), Qfx y x.Segments) := by
    intro m
    induction m with
    | zero => intro k s hk; rw [rng, List.drop_of_length_le (by omega), List.take_of_length_le (by omega)]; simp
    | succ m ih =>
      intro k s hk
      have hlt : k < x.Segments.length := by omega
      have hd : x.Segments.drop k = gt x.Segments k :: x.Segments.drop (k + 1) := by rw [List.drop_eq_getElem_cons hlt, Qhk hlt]
      have hl : (Qfx y (x.Segments.take k)).length = k := by simp [Qfx]; omega
      have hg : gt (Qfx y (x.Segments.take k) ++ x.Segments.drop k) k = gt x.Segments k := by
        rw [hd]
        exact Qzo hl
      rw [rng, Qart, hg]
      show rng _ m (k + 1) _ = _
      have hs : (Qfx y (x.Segments.take k) ++ x.Segments.drop k).set k ((gt x.Segments k).filter (Qff y)) = Qfx y (x.Segments.take (k + 1)) ++ x.Segments.drop (k + 1) := by
        rw [hd, List.set_append_right _ _ (by omega), hl, Nat.sub_self, List.set_cons_zero, List.take_add_one, List.getElem?_eq_getElem hlt, ← Qhk hlt]
        simp [Qfx]
      have e3 : ∀ n, Qeb s n = Qeb (Qeb s n) 0 := fun n => by rw [Qlp, Nat.add_zero]
      rw [hs, e3, ih (k + 1) _ (by omega), hd, List.foldl_cons]
      congr 2
      rw [Qlp, Qlp, Nat.zero_add, Nat.add_zero]
  have h1 := key (x.Segments.length - 0) 0 0 (by omega)
  rw [List.take_zero, List.drop_zero] at h1
  have h2 : Qfx y [] ++ x.Segments = x.Segments := rfl
  rw [h2] at h1
  rw [h1, (Qvx y x.Segments).2]
  rfl
theorem Qafa (x : Qx) (y : List Int) : Qgb x y = Qgh x y := by
  cases h : Qhd x with
  | true => rw [Qzv x y (by rw [Qpe]; exact h), Qaru x y h]
  | false =>
    unfold Qgb Qgh
    rw [Qpe, h]
    rfl
theorem Qaqa (y : List Int) (d : List (List Qn)) : wtS (wtS Qfo) (Qfx y d) ≤ wtS (wtS Qfo) d := Qads (wtS Qfo) (wtS Qfo) _ (fun l => Qadr _ _ _) d
theorem Qafb (x : Qx) (y : List Int) : Qjc (Qgb x y).1 ≤ Qjc x := by
  cases h : Qib x with
  | true =>
    rw [Qzv x y h]
    exact Qaqa y x.Segments
  | false =>
    unfold Qgb
    rw [h]
    exact Nat.le_refl _
theorem Qxk : Qdg = Qbt := rfl
theorem Qael (x : Qby) : Qpi x = Qos x := by
  unfold Qpi Qos
  rw [Qaae, Qqo x.Low]
  simp only [Qoh, Bool.decide_and, Bool.and_assoc]
theorem Qxr (x : Qcg) : Qmv x = Qnj x := by
  unfold Qmv Qnj Qwn
  have h1 : (fun k (_ : Unit) => Qrk x k) = fun k (_ : Unit) => Qni x k := by
    funext k u; unfold Qrk Qni; rw [Qael]
  have h2 : (fun k (_ : Unit) => Qtu x k) = fun k (_ : Unit) => Qot x.Out k := rfl
  rw [h1, h2]
  rw [Qnd (b := fun k (_ : Unit) => Qni x k) (p := fun k => Qni x k == .inr ()) (r := false) (fun k _ => by
    unfold Qni
    cases Qos (gt x.Conds k) <;> cases decide (0 < ((k : Nat) : Int)) <;> cases decide ((gt x.Conds k).Field ≤ (gt x.Conds (k - 1)).Field) <;> rfl)]
  rw [Qnd (b := fun k (_ : Unit) => Qot x.Out k) (p := fun k => Qot x.Out k == .inr ()) (r := false) (fun k _ => by
    unfold Qot
    cases Qbt (gt x.Out k) 0 2 <;> rfl)]
  simp only [Qxk, Qrd, Qoh, Qtn, Qaji, Bool.not_not]
  ac_rfl
theorem Qyc (x : List Qaj) : Qol x = Qov x := by
  unfold Qol Qov Qub
  have h1 : (fun k (_ : Unit) => Qua x k) = fun k (_ : Unit) => Qqr x k := rfl
  rw [h1, Qnd (p := fun k => Qqr x k == .inr ()) (r := false) (fun k _ => by
    unfold Qqr
    cases Qgx (gt x k) <;> rfl)]
  simp only [Qrd, Qoh, Bool.and_true]
  ac_rfl
theorem Qafk (e : Qag) (x : Qbf) : Qpl e.Store x = Qqq e x := by
  unfold Qpl Qqq Qso
  have h1 : (fun k (_ : Unit) => Qtz e.Store x k) = fun k (_ : Unit) => Qqs x.Todo ((e.Store.Segments.length : Nat) : Int) k := rfl
  rw [h1, Qnd (p := fun k => Qqs x.Todo ((e.Store.Segments.length : Nat) : Int) k == .inr ()) (r := false) (fun k _ => by
    unfold Qqs
    cases Qbt (gt x.Todo k) 0 (IntKind.i64.wrap (((e.Store.Segments.length : Nat) : Int) - 1)) <;> cases decide (0 < ((k : Nat) : Int)) <;> cases decide (gt x.Todo k ≤ gt x.Todo (k - 1)) <;> rfl)]
  rw [Qxr, Qyc]
  simp only [Qxk, Qrd, Qoh]
  ac_rfl
theorem Qzp (x : List Int) (i : Int) : Qmw x i = x.any fun y => y == i := by
  unfold Qmw
  rw [Qvz (p := fun y => y == i) (r := true) (fun j _ => rfl)]
  cases x.any fun y => y == i <;> rfl
theorem Qalk (x a b : Int) : Qbt x a b = (decide (a ≤ x) && decide (x ≤ b)) := by
  unfold Qbt
  rw [Qoh]
theorem Qalj (x : List Int) : Qpn x = Qqp x := by
  unfold Qpn Qqp
  rw [Qnd (n := 3) (p := fun k => Qmw x k) (r := false) (fun k _ => rfl)]
  rw [Qnd (p := fun k => Qbt (gt x k) 0 2 && !Qqj (List.take k x) (gt x k)) (r := false) (fun k _ => by
    unfold Qwo
    cases Qbt (gt x k) 0 2 <;> cases Qqj (List.take k x) (gt x k) <;> rfl)]
  have hm : ∀ (y : List Int) (i : Int), Qqj y i = y.any fun z => z == i := Qzp
  by_cases h : x.length = 3
  · match x, h with
    | [a, b, c], _ =>
      simp only [Qzp, hm, Qalk]
      have h3 : List.range 3 = [0, 1, 2] := rfl
      have h8 : [a, b, c].length = 3 := rfl
      have e0 : gt [a, b, c] 0 = a := rfl
      have e1 : gt [a, b, c] 1 = b := rfl
      have e2 : gt [a, b, c] 2 = c := rfl
      rw [h8, h3]
      simp only [List.all_cons, List.all_nil]
      rw [e0, e1, e2]
      simp only [List.any_cons, List.any_nil, List.take]
      simp only [Qrd, Qtn, Bool.and_true, Bool.or_false, Bool.not_false]
      rw [Bool.eq_iff_iff]
      simp only [Bool.and_eq_true, Bool.or_eq_true, beq_iff_eq, decide_eq_true_eq, Bool.not_eq_true', Bool.or_eq_false_iff, beq_eq_false_iff_ne, bne, ne_eq]
      have h4 : ((3 : Nat) : Int) = 3 := rfl
      have h5 : ((0 : Nat) : Int) = 0 := rfl
      have h6 : ((1 : Nat) : Int) = 1 := rfl
      have h7 : ((2 : Nat) : Int) = 2 := rfl
      simp only [h4, h5, h6, h7, beq_self_eq_true, Bool.not_true, and_true, true_and]
      constructor <;> intro h <;> omega
  · have h1 : (((x.length : Nat) : Int) == 3) = false := beq_eq_false_iff_ne.2 (by omega)
    have h2 : (((x.length : Nat) : Int) != 3) = true := bne_iff_ne.2 (by omega)
    rw [h1, h2]
    cases (List.range 3).all fun k => Qmw x k <;> rfl
theorem Qaem (x : Qag) : Qoi x = Qql x := by
  unfold Qoi Qql
  have h1 : (fun k (_ : Unit) => Qrh x k) = fun k (_ : Unit) => Qqk x k := by
    funext k u; unfold Qrh Qqk; rw [Qafk]
  have h2 : (fun k (_ : Unit) => Qri x k) = fun k (_ : Unit) => Qsd x k := by
    funext k u; unfold Qri Qsd; rw [Qxr, Qyc]; rfl
  have h3 : (fun k (_ : Unit) => Qrj x k) = fun k (_ : Unit) => Qse x k := by
    funext k u; unfold Qrj Qse; rw [Qaek]
  rw [h1, h2, h3, Qpe, Qalj]
  generalize Sum.elim id _ (rng (R := Bool) (fun k (_ : Unit) => Qqk x k) (x.Active.length - 0) 0 ()) = t
  simp only [Qxk, Qoh, Qtn]
  ac_rfl
theorem Qarf {s : List (List Qn)} (hl : s.length ≤ 8) (h : ∀ z ∈ s, smP 5 z) : wtS (wtS Qfo) s ≤ 168 := by
  have h1 : ∀ z ∈ s, wtS Qfo z ≤ 20 := fun z hz => by
    obtain ⟨a, b⟩ := h z hz
    have := Qwy (w := Qfo) (c := 3) (xs := z) (fun j hj => b _ (Qbh hj))
    have e : wtS Qfo z = z.length + (z.map Qfo).sum := rfl
    omega
  have := Qwy (w := wtS Qfo) (c := 20) (xs := s) (fun j hj => h1 _ (Qbh hj))
  have e : wtS (wtS Qfo) s = s.length + (s.map (wtS Qfo)).sum := rfl
  omega
theorem Qarj (x : Qx) (u : Qci) : Qjc (Qea x u).1 ≤ Qjc x ∨ Qjc (Qea x u).1 ≤ 168 := by
  rcases Qach x u with e | ⟨e1, e2⟩
  · rw [e]; exact .inl (Nat.le_refl _)
  · exact .inr (Qarf e1 e2)
theorem Qaqb (e : Qag) : Qew e = Qno e := by
  unfold Qew Qno
  rw [Qmj (R := Qag) (xs := e.Active) (f := fun d a => d ++ [a.Time]) (b := fun k s => Qru e k s) (fun _ _ _ => rfl), Qmj (R := Qag) (xs := e.Active) (f := fun d a => d ++ [a.Time]) (b := fun k s => Qww e k s) (fun _ _ _ => rfl)]
  show (⟨(Qgb e.Store _).1, _, _, _, _, _, _⟩ : Qag) = _
  rw [Qafa]
  rfl
theorem Qaqc (e : Qag) : Qio (Qew e) ≤ Qio e := by
  unfold Qew
  rw [Qmj (R := Qag) (xs := e.Active) (f := fun d a => d ++ [a.Time]) (b := fun k s => Qru e k s) (fun _ _ _ => rfl)]
  have h := Qafb e.Store (e.Active.foldl (fun d a => d ++ [a.Time]) [])
  show Qio (⟨(Qgb e.Store _).1, e.Cursor, e.Order, e.Active, e.Done, e.Ledger, e.Steps⟩ : Qag) ≤ _
  unfold Qio
  dsimp only
  omega
theorem Qafd (x : Qag) (u : Qci) : Qdi x u = Qgi x u := by
  unfold Qdi Qgi
  rw [Qaem, Qta, Qaqb]
theorem Qafe (x : Qag) (u : Qci) : Qio (Qdi x u).1 ≤ Qio x + 168 := by
  unfold Qdi
  cases Qoi x with
  | false => exact Nat.le_add_right _ _
  | true =>
    cases (Qdc x.Store u).2 with
    | false => exact Nat.le_add_right _ _
    | true =>
      refine Nat.le_trans (Qaqc _) ?_
      have h := Qarj x.Store u
      rw [← Qta] at h
      unfold Qio
      dsimp only
      omega
theorem Qaln (x : Qag) (u : Qci) (ok : Qgf 9223372036854775807 x) (hy : Qja 9223372036854775807 u) : Qup x u = true := by
  unfold Qup
  rw [Qkc, Qkd, ← Qafd, Qaaf, bne_self_eq_false, Qaaf, Qamj]
  cases hs : decide (Qkb x 1048576 < 0) with
  | true => rfl
  | false =>
  cases hk : decide (Qon u (Qkb x 1048576) < 0) with
  | true => rfl
  | false =>
    obtain ⟨h1, h1b, h1c⟩ := Qsp Qaax ok (by omega) (by omega) hs
    obtain ⟨h2, _, _⟩ := Qsp Qabg hy (by omega) (by omega) hk
    have hi := Qafe x u
    have e5 : Qob u = u.Row.Values.length := rfl
    have q1 := Qaas.go x 1 (by omega) (by omega)
    have q3 := Qann.go u (Qcb x 1).1 (by omega) (by omega)
    obtain ⟨p2, _, r2⟩ := Qaas.go (Qdi x u).1 1 (by omega) (by omega)
    have r3 : Qjy (⟨(⟨(Qcb (Qdi x u).1 1).2.Store.Segments, (Qdi x u).1.Store.Now⟩ : Qx), (Qdi x u).1.Cursor, (Qcb (Qdi x u).1 1).2.Order, (Qcb (Qdi x u).1 1).2.Active, (Qcb (Qdi x u).1 1).2.Done, (Qcb (Qdi x u).1 1).2.Ledger, (Qdi x u).1.Steps⟩ : Qag) 1 = (Qcb (Qdi x u).1 1).1 := r2
    rw [r3, decide_eq_false (by omega), decide_eq_false (by omega), bne_self_eq_false]
    rfl

end Go.Proofs.YtmikmbmdibabmaaGreat
