/-
  The program and the reference compute the same: plain laws over what the walks showed.
-/
import Derived.Test.YtdlminfjdodjoaaGreatL3Law
namespace Go.Proofs.YtdlminfjdodjoaaGreat
open Go.RowKit
def Qfd (x : List Int) (v : Qt) : Bool := x.any (fun t => Qfy v t) || v.Died == -1
theorem Qash (v : Qt) (x : List Int) : Qrp v x = Qfd x v := by
  unfold Qrp Qfd
  rw [Quu (p := fun t => Qfy v t) (r := true) (fun j _ => by unfold Qyl; rfl)]
  cases x.any (fun t => Qfy v t) <;> rfl
theorem Qaej {α : Type} (p : α → Bool) : ∀ (xs : List α) (s : Bool), xs.foldl (fun s t => cond s true (p t)) s = (s || xs.any p)
  | [], s => by simp
  | x :: xs, s => by
    rw [List.foldl_cons, Qaej p xs]
    cases s <;> simp
theorem Qaqw (x : List Int) (k : Nat) (d : List (List Qt)) : Qud x k d = .inr (d.set k ((gt d k).filter (Qfd x))) := by
  unfold Qud
  rw [Qhb (xs := gt d k) (f := fun e v => cond (Qfd x v) (e ++ [v]) e) (fun j s _ => by unfold Qxv; rw [Qash]; cases Qfd x (gt (gt d k) j) <;> rfl)]
  show Sum.inr (d.set k _) = _
  rw [Qaeg]
  rfl
def Qdx (s : Int) (n : Nat) : Int := IntKind.i64.wrap (s + n)
theorem Qnk (s : Int) (m n : Nat) : Qdx (Qdx s m) n = Qdx s (m + n) := by
  unfold Qdx
  simp only [IntKind.wrap_i64]
  omega
theorem Qaap (x : List Int) : ∀ (l : List Qt) (s : Int) (e : List Qt), l.foldl (fun (s : Int × List Qt) v => cond (Qfd x v) (s.1, s.2 ++ [v]) (IntKind.i64.wrap (s.1 + 1), s.2)) (Qdx s 0, e) = (Qdx s (l.length - (l.filter (Qfd x)).length), e ++ l.filter (Qfd x))
  | [], s, e => by simp
  | v :: l, s, e => by
    rw [List.foldl_cons]
    have hl := List.length_filter_le (Qfd x) l
    cases h : Qfd x v with
    | true =>
      rw [cond_true, Qaap x l s (e ++ [v])]
      simp [h]
    | false =>
      have e1 : (IntKind.i64.wrap (Qdx s 0 + 1)) = Qdx (Qdx s 1) 0 := by
        unfold Qdx
        simp only [IntKind.wrap_i64]
        omega
      rw [cond_false]
      dsimp only
      rw [e1, Qaap x l (Qdx s 1) e, Qnk]
      simp only [List.filter_cons, h, List.length_cons]
      congr 2
      simp only [Bool.false_eq_true, if_false]
      omega
theorem Qazb (x : List Int) (k : Nat) (s : Int) (d : List (List Qt)) : Qsr x k (Qdx s 0) d = .inr (Qdx s ((gt d k).length - ((gt d k).filter (Qfd x)).length), d.set k ((gt d k).filter (Qfd x))) := by
  unfold Qsr
  rw [Qhb (xs := gt d k) (f := fun (s : Int × List Qt) v => cond (Qfd x v) (s.1, s.2 ++ [v]) (IntKind.i64.wrap (s.1 + 1), s.2)) (fun j s _ => by
    unfold Qaan
    rw [Qhb (xs := x) (f := fun s t => cond s true (Qfy (gt (gt d k) j) t)) (fun i s _ => by unfold Qaao; cases s <;> rfl), Qaej]
    have : ((gt (gt d k) j).Died == -1 || x.any fun t => Qfy (gt (gt d k) j) t) = Qfd x (gt (gt d k) j) := by unfold Qfd; rw [Bool.or_comm]
    rw [this]
    show cond (Qfd x (gt (gt d k) j)) _ _ = _
    cases Qfd x (gt (gt d k) j) <;> rfl), Qaap]
  rfl
theorem Qaxn {R : Type} (xs : List (List Qt)) (b : Nat → Int → R ⊕ Int) (hb : ∀ j s, b j s = .inr (IntKind.i64.wrap (s + ((gt xs j).length : Nat)))) : rng b (xs.length - 0) 0 0 = .inr (Qdx 0 (xs.map List.length).sum) := by
  have h : ∀ (l : List (List Qt)) (s : Int), l.foldl (fun (s : Int) v => IntKind.i64.wrap (s + (v.length : Nat))) (Qdx s 0) = Qdx s (l.map List.length).sum := by
    intro l
    induction l with
    | nil => intro s; rfl
    | cons v l ih =>
      intro s
      have e1 : IntKind.i64.wrap (Qdx s 0 + (v.length : Nat)) = Qdx (Qdx s v.length) 0 := by
        unfold Qdx
        simp only [IntKind.wrap_i64]
        omega
      rw [List.foldl_cons, e1, ih, Qnk]
      simp
  rw [Qhb (xs := xs) (f := fun (s : Int) v => IntKind.i64.wrap (s + (v.length : Nat))) (fun j s _ => hb j s)]
  exact congrArg Sum.inr (h xs 0)
theorem Qabt (x : Qas) : Qoh x = Qdx 0 (x.Segments.map List.length).sum := by
  unfold Qoh
  rw [Qaxn x.Segments _ (fun j s => by unfold Qxo; rfl)]
  rfl
def Qgb (x : List Int) (d : List (List Qt)) : List (List Qt) := d.map fun l => l.filter (Qfd x)
theorem Qzu (x : List Int) : ∀ d : List (List Qt), ((Qgb x d).map List.length).sum ≤ (d.map List.length).sum ∧ ∀ s : Int, d.foldl (fun (s : Int) l => Qdx s (l.length - (l.filter (Qfd x)).length)) (Qdx s 0) = Qdx s ((d.map List.length).sum - ((Qgb x d).map List.length).sum)
  | [] => ⟨by simp [Qgb], fun s => rfl⟩
  | l :: d => by
    obtain ⟨h1, h2⟩ := Qzu x d
    have h3 := List.length_filter_le (Qfd x) l
    have e1 : ((Qgb x (l :: d)).map List.length).sum = (l.filter (Qfd x)).length + ((Qgb x d).map List.length).sum := by simp [Qgb]
    have e2 : ((l :: d).map List.length).sum = l.length + (d.map List.length).sum := by simp
    refine ⟨by omega, fun s => ?_⟩
    rw [List.foldl_cons]
    have e3 : Qdx (Qdx s 0) (l.length - (l.filter (Qfd x)).length) = Qdx (Qdx s (l.length - (l.filter (Qfd x)).length)) 0 := by
      rw [Qnk, Qnk, Nat.zero_add, Nat.add_zero]
    rw [e3, h2, Qnk]
    congr 1
    omega
theorem Qaev (x : Qas) (y : List Int) (h : Qln x = true) : Qgn x y = (⟨Qgb y x.Segments, x.Now⟩, Qdx 0 ((x.Segments.map List.length).sum - ((Qgb y x.Segments).map List.length).sum)) := by
  unfold Qgn
  rw [h, cond_true, Qaxm (xs := x.Segments) (f := fun l => l.filter (Qfd y)) (fun j s _ he => by rw [Qaqw, he])]
  show ((⟨Qgb y x.Segments, x.Now⟩ : Qas), _) = _
  congr 1
  rw [Qabt, Qabt]
  have := (Qzu y x.Segments).1
  show IntKind.i64.wrap (Qdx 0 (x.Segments.map List.length).sum - Qdx 0 ((Qgb y x.Segments).map List.length).sum) = _
  unfold Qdx
  simp only [IntKind.wrap_i64]
  omega
theorem Qazc (x : Qas) (y : List Int) (h : Qka x = true) : Qhc x y = (⟨Qgb y x.Segments, x.Now⟩, Qdx 0 ((x.Segments.map List.length).sum - ((Qgb y x.Segments).map List.length).sum)) := by
  unfold Qhc
  rw [h, cond_true]
  have h0 : (0 : Int) = Qdx 0 0 := rfl
  rw [h0]
  have key : ∀ (m k : Nat) (s : Int), m + k = x.Segments.length → rng (R := Qas × Int) (fun k (s : Int × List (List Qt)) => Qsr y k s.1 s.2) m k (Qdx s 0, Qgb y (x.Segments.take k) ++ x.Segments.drop k) = .inr ((x.Segments.drop k).foldl (fun (s : Int) l => Qdx s (l.length - (l.filter (Qfd y)).length)) (Qdx s 0), Qgb y x.Segments) := by
    intro m
    induction m with
    | zero => intro k s hk; rw [rng, List.drop_of_length_le (by omega), List.take_of_length_le (by omega)]; simp
    | succ m ih =>
      intro k s hk
      have hlt : k < x.Segments.length := by omega
      have hd : x.Segments.drop k = gt x.Segments k :: x.Segments.drop (k + 1) := by rw [List.drop_eq_getElem_cons hlt, Qdo hlt]
      have hl : (Qgb y (x.Segments.take k)).length = k := by simp [Qgb]; omega
      have hg : gt (Qgb y (x.Segments.take k) ++ x.Segments.drop k) k = gt x.Segments k := by
        rw [hd]
        exact Qaem hl
      rw [rng, Qazb, hg]
      show rng _ m (k + 1) _ = _
      have hs : (Qgb y (x.Segments.take k) ++ x.Segments.drop k).set k ((gt x.Segments k).filter (Qfd y)) = Qgb y (x.Segments.take (k + 1)) ++ x.Segments.drop (k + 1) := by
        rw [hd, List.set_append_right _ _ (by omega), hl, Nat.sub_self, List.set_cons_zero, List.take_add_one, List.getElem?_eq_getElem hlt, ← Qdo hlt]
        simp [Qgb]
      have e3 : ∀ n, Qdx s n = Qdx (Qdx s n) 0 := fun n => by rw [Qnk, Nat.add_zero]
      rw [hs, e3, ih (k + 1) _ (by omega), hd, List.foldl_cons]
      congr 2
      rw [Qnk, Qnk, Nat.zero_add, Nat.add_zero]
  have h1 := key (x.Segments.length - 0) 0 0 (by omega)
  rw [List.take_zero, List.drop_zero] at h1
  have h2 : Qgb y [] ++ x.Segments = x.Segments := rfl
  rw [h2] at h1
  rw [h1, (Qzu y x.Segments).2]
  rfl
theorem Qakz (x : Qas) (y : List Int) : Qgn x y = Qhc x y := by
  cases h : Qka x with
  | true => rw [Qaev x y (by rw [Qwi]; exact h), Qazc x y h]
  | false =>
    unfold Qgn Qhc
    rw [Qwi, h]
    rfl
theorem Qaxc (y : List Int) (d : List (List Qt)) : wtS (wtS Qhr) (Qgb y d) ≤ wtS (wtS Qhr) d := Qaiz (wtS Qhr) (wtS Qhr) _ (fun l => Qaiy _ _ _) d
theorem Qala (x : Qas) (y : List Int) : Qmx (Qgn x y).1 ≤ Qmx x := by
  cases h : Qln x with
  | true =>
    rw [Qaev x y h]
    exact Qaxc y x.Segments
  | false =>
    unfold Qgn
    rw [h]
    exact Nat.le_refl _
theorem Qagr (e : Qr) : Qfr e = Qmn e := by
  unfold Qfr Qmn
  rw [Qhb (R := Qr) (xs := e.Active) (f := fun d a => d ++ [a.Time]) (b := fun k s => Qul e k s) (fun _ _ _ => rfl), Qhb (R := Qr) (xs := e.Active) (f := fun d a => d ++ [a.Time]) (b := fun k s => Qabf e k s) (fun _ _ _ => rfl)]
  show (⟨(Qgn e.Store _).1, _, _, _, _, _, _⟩ : Qr) = _
  rw [Qakz]
  rfl
theorem Qaxd (e : Qr) : Qjp (Qfr e) ≤ Qjp e := by
  unfold Qfr
  rw [Qhb (R := Qr) (xs := e.Active) (f := fun d a => d ++ [a.Time]) (b := fun k s => Qul e k s) (fun _ _ _ => rfl)]
  have h := Qala e.Store (e.Active.foldl (fun d a => d ++ [a.Time]) [])
  show Qjp (⟨(Qgn e.Store _).1, e.Cursor, e.Order, e.Active, e.Done, e.Ledger, e.Steps⟩ : Qr) ≤ _
  unfold Qjp
  dsimp only
  omega
theorem Qaqt {q : Qar} {r : Qaa} (hq : Qfb q = true) (hr : Qgh r = true) : Qrm q r = Qhx r 3 q := by
  unfold Qrm
  rw [Qwh, hq, show Qmf r = Qgh r from rfl, hr, ((Qpn r).1 hr).2.2]
  rw [Qix (p := fun k => Qne q ((k : Nat) : Int) (gt r.Values k)) (r := false) (fun k _ => by
    unfold Qxu
    rw [show Qug q ((k : Nat) : Int) (gt r.Values k) = Qjd q ((k : Nat) : Int) (gt r.Values k) from rfl, Qabo])]
  unfold Qhx
  cases (List.range 3).all fun k => Qne q ((k : Nat) : Int) (gt r.Values k) <;> rfl
theorem Qxi {α : Type} (p : α → Bool) : ∀ (L : List α) (n : Nat) (d : List α), n + L.length ≤ 1000 → L.foldl (fun (s : Int × List α) r => cond (p r) (IntKind.i64.wrap (s.1 + 1), s.2 ++ [r]) s) (((n : Nat) : Int), d) = (((n + (L.filter p).length : Nat) : Int), d ++ L.filter p)
  | [], n, d, _ => by simp
  | r :: L, n, d, h => by
    rw [List.length_cons] at h
    rw [List.foldl_cons]
    cases hp : p r with
    | true =>
      have e : IntKind.i64.wrap (((n : Nat) : Int) + 1) = (((n + 1 : Nat)) : Int) := by rw [Qer (by omega) (by omega)]; omega
      rw [cond_true, e, Qxi p L (n + 1) _ (by omega), List.filter_cons_of_pos hp, List.length_cons, List.append_assoc]
      rw [show n + 1 + (L.filter p).length = n + ((L.filter p).length + 1) by omega]
      rfl
    | false =>
      rw [cond_false, Qxi p L n d (by omega), List.filter_cons_of_neg (by rw [hp]; exact Bool.false_ne_true)]
theorem Qayh (p : Qt → Bool) (r : Qaa → Bool) (l : List Qt) : (Qhq p l).filter r = Qhq (fun v => r (⟨v.Id, v.Values⟩ : Qaa) && p v) l := by
  unfold Qhq
  rw [List.filter_map, List.filter_filter]
  rfl
theorem Qaxr {x : Qr} (h : Eng x) (a : Qw) : (Qjv x a).length ≤ 4 := Nat.le_trans (Qaad _ _) (Qwq h)
def Qia (a : Qw) : Bool := ((a.Todo.length : Nat) : Int) == 0
def Qnf (n : Int) (a : Qw) : Qw := ⟨a.Query, a.Time, a.Todo, IntKind.i64.wrap (a.Age + 1), cond ((Int.tmod (IntKind.i64.wrap (a.Age + 1)) n) == 0) 0 a.Sent, a.Cap, a.Rows⟩
def Qkk (a : Qw) : Qat := ⟨a.Query, a.Time, IntKind.i64.wrap (a.Age + 1), a.Rows⟩
theorem Qzv (n : Int) : ∀ (L : List Qw) (r : List Qw) (d : List Qat), L.foldl (fun (s : (List Qw) × (List Qat)) a => cond (Qia a) (s.1, s.2 ++ [Qkk a]) (s.1 ++ [Qnf n a], s.2)) (r, d) = (r ++ (L.filter (fun a => !Qia a)).map (Qnf n), d ++ (L.filter Qia).map Qkk)
  | [], r, d => by simp
  | a :: L, r, d => by
    rw [List.foldl_cons]
    cases h : Qia a with
    | true => rw [cond_true, Qzv n L]; simp [h]
    | false => rw [cond_false, Qzv n L]; simp [h]
theorem Qags {R : Type} {L : List Qw} {n : Int} {b : Nat → (List Qw) × (List Qat) → R ⊕ ((List Qw) × (List Qat))} (hb : ∀ k s, k < L.length → b k s = .inr (cond (Qia (gt L k)) (s.1, s.2 ++ [Qkk (gt L k)]) (s.1 ++ [Qnf n (gt L k)], s.2))) (D : List Qat) : rng b (L.length - 0) 0 ([], D) = .inr ((L.filter (fun a => !Qia a)).map (Qnf n), D ++ (L.filter Qia).map Qkk) := by
  rw [Qhb (xs := L) (f := fun s a => cond (Qia a) (s.1, s.2 ++ [Qkk a]) (s.1 ++ [Qnf n a], s.2)) hb, Qzv]
  rfl
def Qsk (x : Qr) (L : List Qw) : List Qw := (L.filter (fun a => !Qia a)).map (Qnf ((x.Store.Segments.length : Nat) : Int))
def Qxj (x : Qr) (L : List Qw) : List Qat := x.Done ++ (L.filter Qia).map Qkk
def Qmk (x : Qr) : List Qbb := cond (decide (0 < (((Qbc x).length : Nat) : Int))) (x.Ledger ++ [Qnj x]) x.Ledger
def Qsw (x : Qr) : Qr := ⟨x.Store, Int.tmod (IntKind.i64.wrap (x.Cursor + 1)) ((x.Store.Segments.length : Nat) : Int), x.Order, Qsk x (Qen x (Qbc x)), Qxj x (Qen x (Qbc x)), Qmk x, IntKind.i64.wrap (x.Steps + 1)⟩
theorem Qafi {x : Qr} (h : Eng x) : Qfv x = Qmn (Qsw x) := by
  have hj : Qqq x = .inr (⟨x.Store, x.Cursor, x.Order, Qen x (Qbc x), x.Done, Qmk x, x.Steps⟩ : Qr) := by
    unfold Qqq Qmk
    cases hp : decide (0 < (((Qbc x).length : Nat) : Int)) with
    | true => rw [cond_true, cond_true, Qre h]
    | false =>
      have h0 := of_decide_eq_false hp
      have hn : Qbc x = [] := List.eq_nil_of_length_eq_zero (by omega)
      rw [cond_false, cond_false, hn, Qww]
  unfold Qfv Qsw Qsk Qxj
  rw [hj]
  show Sum.elim id _ (rng (R := Qr) (fun k (s : (List Qw) × (List Qat)) => Qss (⟨x.Store, x.Cursor, x.Order, Qen x (Qbc x), x.Done, Qmk x, x.Steps⟩ : Qr) k s.1 s.2) ((Qen x (Qbc x)).length - 0) 0 ([], x.Done)) = _
  rw [Qags (n := ((x.Store.Segments.length : Nat) : Int)) (b := fun k (s : (List Qw) × (List Qat)) => Qss (⟨x.Store, x.Cursor, x.Order, Qen x (Qbc x), x.Done, Qmk x, x.Steps⟩ : Qr) k s.1 s.2) (fun k s hk => by
      unfold Qss Qia Qnf Qkk Qvg Qvh
      dsimp only
      cases ((Int.tmod (IntKind.i64.wrap (((gt (Qen x (Qbc x)) k).Age) + 1)) ((x.Store.Segments.length : Nat) : Int)) == 0) <;> cases ((((gt (Qen x (Qbc x)) k).Todo).length : Nat) : Int) == 0 <;> rfl)]
  rfl
theorem Qalm {x : Qr} (h : Eng x) {k : Nat} {d : List Qw} (hq : (gt d (Qei x (gt (Qcd x) k)).toNat) ∈ x.Active) :
    rng (R := (Qr × Bool)) (fun j (s : Int × (List Qaa)) => Qpx x k d j s.1 s.2) ((Qdl x.Store x.Cursor ((gt d ((Qei x (gt (Qcd x) k)).toNat)).Time)).length - 0) 0 (0, (gt d ((Qei x (gt (Qcd x) k)).toNat)).Rows)
      = .inr ((((Qjv x (gt d (Qei x (gt (Qcd x) k)).toNat)).length : Nat) : Int), (gt d ((Qei x (gt (Qcd x) k)).toNat)).Rows ++ Qjv x (gt d (Qei x (gt (Qcd x) k)).toNat)) := by
  have hc := h.cur
  have hseg : ∀ t, Qdl x.Store x.Cursor t = Qhq (fun v => Qfy v t) (Qfm x) := fun t => by
    have := Qahe x.Store x.Cursor.toNat t
    rw [Int.toNat_of_nonneg hc.1] at this
    exact this
  have h4 := Qahd h (gt d ((Qei x (gt (Qcd x) k)).toNat)).Time
  rw [Qhb (xs := Qdl x.Store x.Cursor ((gt d ((Qei x (gt (Qcd x) k)).toNat)).Time)) (f := fun (s : Int × List Qaa) r => cond (Qhx r 3 (gt d ((Qei x (gt (Qcd x) k)).toNat)).Query) (IntKind.i64.wrap (s.1 + 1), s.2 ++ [r]) s) (b := fun j (s : Int × (List Qaa)) => Qpx x k d j s.1 s.2) (fun j s hj => by
    show Qpx x k d j s.1 s.2 = _
    unfold Qpx
    have hr : Qgh (gt (Qdl x.Store x.Cursor ((gt d ((Qei x (gt (Qcd x) k)).toNat)).Time)) j) = true := by
      have hm := Qak hj
      rw [hseg] at hm ⊢
      obtain ⟨v, hv, he⟩ := List.mem_map.1 hm
      rw [← he]
      exact Qaae h (List.mem_filter.1 hv).1
    rw [Qaqt (h.act _ hq).1 hr]
    cases Qhx (gt (Qdl x.Store x.Cursor ((gt d ((Qei x (gt (Qcd x) k)).toNat)).Time)) j) 3 (gt d ((Qei x (gt (Qcd x) k)).toNat)).Query <;> rfl)]
  have e := Qxi (fun r => Qhx r 3 (gt d ((Qei x (gt (Qcd x) k)).toNat)).Query) (Qdl x.Store x.Cursor ((gt d ((Qei x (gt (Qcd x) k)).toNat)).Time)) 0 ((gt d ((Qei x (gt (Qcd x) k)).toNat)).Rows) (by omega)
  have e2 : (Qdl x.Store x.Cursor ((gt d ((Qei x (gt (Qcd x) k)).toNat)).Time)).filter (fun r => Qhx r 3 (gt d ((Qei x (gt (Qcd x) k)).toNat)).Query) = Qjv x (gt d ((Qei x (gt (Qcd x) k)).toNat)) := by
    rw [hseg, Qayh]
    rfl
  rw [e2, Nat.zero_add] at e
  exact congrArg Sum.inr e
theorem Qalo {x : Qr} (h : Eng x) : rng (R := (Qr × Bool)) (fun k (s : (List Int) × (List Int) × (List Int) × (List Qw)) => Qpw x k s.1 s.2.1 s.2.2.1 s.2.2.2) ((Qcd x).length - 0) 0 ([], [], [], x.Active) = .inr (Qbc x, Qmo x (Qbc x), Qmc x (Qbc x), Qen x (Qbc x)) := by
  have hps := Qabx x (Qabv h)
  have h8 := Qrf h
  obtain ⟨s, e2, h0, h1, h2, h3⟩ := Qkx (R := (Qr × Bool)) (body := fun k (s : (List Int) × (List Int) × (List Int) × (List Qw)) => Qpw x k s.1 s.2.1 s.2.2.1 s.2.2.2) (n := (Qcd x).length)
    (fun k s => s.1 = (Qbc x).take k ∧ s.2.1 = Qmo x ((Qbc x).take k) ∧ s.2.2.1 = Qmc x ((Qbc x).take k) ∧ s.2.2.2 = Qen x ((Qbc x).take k)) (fun k s hk hs => by
      obtain ⟨s0, s1, s2, s3⟩ := s
      obtain ⟨h0, h1, h2, h3⟩ := hs
      dsimp only at h0 h1 h2 h3
      subst h3
      have hk' : k < (Qbc x).length := by rw [← hps]; exact hk
      show ∃ s', Qpw x k s0 s1 s2 _ = _ ∧ _
      unfold Qpw
      have hcur : gt (Qen x ((Qbc x).take k)) (Qei x (gt (Qcd x) k)).toNat = atI x (gt (Qbc x) k) := by
        rw [hps, Qwf]; exact Qwv h hk'
      obtain ⟨i, hi, he, hf, hpb⟩ := Qrb h (Qak hk')
      have hmem : atI x (gt (Qbc x) k) ∈ x.Active := by unfold atI; rw [hf, Int.toNat_natCast]; exact Qak hi
      rw [Qalm h (by rw [hcur]; exact hmem), hcur]
      refine ⟨_, rfl, ?_, ?_, ?_, ?_⟩
      · show s0 ++ [_] = _
        rw [h0, hps, List.take_add_one, Qbr hk']
        rfl
      · show s1 ++ [_] = _
        unfold Qmo at h1 ⊢
        rw [Qus _ hk', h1]
      · show s2 ++ [_] = _
        unfold Qmc at h2 ⊢
        rw [Qus _ hk', h2]
      · rw [← Qacp h hk']
        unfold Qpy
        dsimp only
        rw [hcur, Qaiu, hps, Qwf]
        rfl) ((Qcd x).length - 0) 0 ([], [], [], x.Active) (by omega) ⟨rfl, rfl, rfl, by rw [List.take_zero, Qww]⟩
  rw [e2]
  obtain ⟨s0, s1, s2, s3⟩ := s
  dsimp only at h0 h1 h2 h3
  rw [hps, List.take_length] at h0 h1 h2 h3
  rw [h0, h1, h2, h3]
theorem Qacg (x : Qr) : Qdj x = Qhj x := by
  unfold Qdj Qhj
  rw [Qtf]
  cases hE : Qig x with
  | false => rfl
  | true =>
    have h := (Qpm x).1 hE
    have hs := h.stp; have hl := h.ll
    rw [cond_true, cond_true]
    have c1 : (x.Steps == 100000) = decide (100000 ≤ x.Steps) := by
      by_cases hx : x.Steps = 100000
      · rw [beq_iff_eq.2 hx, decide_eq_true (by omega)]
      · rw [beq_eq_false_iff_ne.2 hx, decide_eq_false (by omega)]
    have c2 : (((x.Ledger.length : Nat) : Int) == 1000) = decide (1000 ≤ ((x.Ledger.length : Nat) : Int)) := by
      by_cases hx : ((x.Ledger.length : Nat) : Int) = 1000
      · rw [beq_iff_eq.2 hx, decide_eq_true (by omega)]
      · rw [beq_eq_false_iff_ne.2 hx, decide_eq_false (by omega)]
    rw [c1, c2]
    cases decide (100000 ≤ x.Steps) with
    | true => rfl
    | false =>
    cases decide (1000 ≤ ((x.Ledger.length : Nat) : Int)) with
    | true => rfl
    | false =>
    cases decide (1000 < ((x.Done.length + x.Active.length : Nat) : Int)) with
    | true => rfl
    | false =>
      rw [cond_false, cond_false, cond_false, cond_false, cond_false, cond_false, Qafi h, Qalo h]
      have hj : Qoj x (Qbc x) (Qmo x (Qbc x)) (Qmc x (Qbc x)) = .inr (Qmk x) := by
        unfold Qoj Qmk Qpz
        cases decide (0 < (((Qbc x).length : Nat) : Int)) <;> rfl
      show Sum.elim id _ (Qoj x (Qbc x) (Qmo x (Qbc x)) (Qmc x (Qbc x))) = _
      rw [hj]
      show Sum.elim id _ (rng (R := (Qr × Bool)) (fun k (s : (List Qw) × (List Qat)) => Qrn x (Qen x (Qbc x)) k s.1 s.2) (x.Active.length - 0) 0 ([], x.Done)) = _
      rw [← Qnd x (Qbc x), Qags (n := ((x.Store.Segments.length : Nat) : Int)) (b := fun k (s : (List Qw) × (List Qat)) => Qrn x (Qen x (Qbc x)) k s.1 s.2) (fun k s hk => by
          unfold Qrn Qia Qnf Qkk Qkm Que Quf
          cases ((Int.tmod (IntKind.i64.wrap (((gt (Qen x (Qbc x)) k).Age) + 1)) ((x.Store.Segments.length : Nat) : Int)) == 0) <;> cases ((((gt (Qen x (Qbc x)) k).Todo).length : Nat) : Int) == 0 <;> rfl)]
      exact congrArg (fun z => (z, true)) (Qagr _)
def Qra (a : Qw) : Prop := QOk a.Query ∧ a.Todo.length ≤ 8 ∧ a.Rows.length ≤ 1004 ∧ ∀ r ∈ a.Rows, r.Values.length = 3
theorem Qaxs {x : Qr} (h : Eng x) (a : Qw) : ∀ r ∈ Qjv x a, Qgh r = true := fun r hr => by
  obtain ⟨v, hv, rfl⟩ := List.mem_map.1 hr
  exact Qaae h (List.mem_filter.1 hv).1
theorem Qalw {x : Qr} (h : Eng x) (ids : List Int) : ∀ a ∈ Qen x ids, Qra a := fun a ha => by
  obtain ⟨b, hb, rfl⟩ := List.mem_map.1 ha
  have hs := ((Qkg _).1 h.st).1
  obtain ⟨h1, _, h3, _, _, _, h7, h8⟩ := h.act b hb
  have ht := Qaci h3
  cases decide (b.Query.Id ∈ ids) with
  | false => exact ⟨Qwg h1, by show b.Todo.length ≤ 8; omega, by show b.Rows.length ≤ 1004; omega, fun r hr => ((Qpn r).1 (h7 r hr)).2.2⟩
  | true =>
    refine ⟨Qwg h1, ?_, ?_, fun r hr => ?_⟩
    · show (b.Todo.filter _).length ≤ 8
      exact Nat.le_trans (List.length_filter_le _ _) (by omega)
    · show (b.Rows ++ Qjv x b).length ≤ 1004
      have := Qaxr h b
      rw [List.length_append]; omega
    · rcases List.mem_append.1 (show r ∈ b.Rows ++ Qjv x b from hr) with hr | hr
      · exact ((Qpn r).1 (h7 r hr)).2.2
      · exact ((Qpn r).1 (Qaxs h b r hr)).2.2
theorem Qaxe {x : Qr} {L : List Qw} (h : ∀ a ∈ L, Qra a) : (Qsk x L).length ≤ L.length ∧ ∀ a ∈ Qsk x L, Qra a := by
  unfold Qsk
  refine ⟨by rw [List.length_map]; exact List.length_filter_le _ _, fun a ha => ?_⟩
  obtain ⟨b, hb, rfl⟩ := List.mem_map.1 ha
  exact h b (List.mem_filter.1 hb).1
def BigF (f : Qat) : Prop := QOk f.Query ∧ f.Rows.length ≤ 1004 ∧ ∀ r ∈ f.Rows, r.Values.length = 3
theorem Qaqi {L : List Qw} (h : ∀ a ∈ L, Qra a) : ((L.filter Qia).map Qkk).length ≤ L.length ∧ ∀ f ∈ (L.filter Qia).map Qkk, BigF f := by
  refine ⟨by rw [List.length_map]; exact List.length_filter_le _ _, fun f hf => ?_⟩
  obtain ⟨b, hb, rfl⟩ := List.mem_map.1 hf
  obtain ⟨h1, _, h3, h4⟩ := h b (List.mem_filter.1 hb).1
  exact ⟨h1, h3, h4⟩
theorem Qaqf {x : Qr} (h : Eng x) : (Qnj x).Ids.length ≤ 8 ∧ (Qnj x).Tenants.length ≤ 8 ∧ (Qnj x).Rows.length ≤ 8 := by
  have := Qrf h
  unfold Qnj Qmo Qmc
  dsimp only
  rw [List.length_map, List.length_map]
  omega
def Qri (x : Qr) : Bool := Qig x && !decide (100000 ≤ x.Steps) && !decide (1000 ≤ ((x.Ledger.length : Nat) : Int)) && !decide (1000 < ((x.Done.length + x.Active.length : Nat) : Int))
theorem Qaln (x : Qr) : Qhj x = cond (Qri x) (Qmn (Qsw x), true) (x, false) := by
  unfold Qhj Qri
  cases hE : Qig x with
  | false => rfl
  | true =>
    rw [Qafi ((Qpm x).1 hE)]
    cases decide (100000 ≤ x.Steps) <;> cases decide (1000 ≤ ((x.Ledger.length : Nat) : Int)) <;> cases decide (1000 < ((x.Done.length + x.Active.length : Nat) : Int)) <;> rfl
theorem Qamd {x : Qr} (h : Qri x = true) : Eng x ∧ x.Steps < 100000 ∧ x.Ledger.length < 1000 ∧ x.Done.length + x.Active.length ≤ 1000 := by
  unfold Qri at h
  simp only [Bool.and_eq_true, Bool.not_eq_true', decide_eq_false_iff_not] at h
  exact ⟨(Qpm x).1 h.1.1.1, by omega, by omega, by omega⟩
theorem Qtc {α : Type} {w : α → Nat} {c : Nat} : ∀ {L : List α}, (∀ a ∈ L, w a ≤ c) → wtS w L ≤ L.length * (c + 1)
  | [], _ => Nat.zero_le _
  | a :: L, h => by
    have ih := Qtc (w := w) (c := c) (L := L) fun b hb => h b (List.mem_cons_of_mem _ hb)
    have h1 := h a (List.mem_cons_self ..)
    unfold wtS at ih ⊢
    rw [List.length_cons, List.map_cons, List.sum_cons, Nat.add_mul]
    omega
theorem Qaix {α : Type} (w : α → Nat) (L M : List α) : wtS w (L ++ M) = wtS w L + wtS w M := by
  unfold wtS
  rw [List.length_append, List.map_append, List.sum_append]
  omega
theorem Qajb {l : List Qaa} {n : Nat} (h1 : l.length ≤ n) (h : ∀ r ∈ l, r.Values.length = 3) : wtS Qkf l ≤ n * 4 := by
  have := Qtc (w := Qkf) (c := 3) (L := l) fun r hr => by have := h r hr; show r.Values.length ≤ 3; omega
  omega
theorem Qaje {a : Qw} (h : Qra a) : Qke a ≤ 4030 := by
  obtain ⟨⟨_, _, _, _, c1, _, _, c2⟩, h2, h3, h4⟩ := h
  have := Qajb h3 h4
  unfold Qke Qlv
  omega
theorem Qajf {f : Qat} (h : BigF f) : Qik f ≤ 4022 := by
  obtain ⟨⟨_, _, _, _, c1, _, _, c2⟩, h3, h4⟩ := h
  have := Qajb h3 h4
  unfold Qik Qlv
  omega
theorem Qalp (x : Qr) : Qjp (Qdj x).1 ≤ Qjp x + 100000 := by
  rw [Qacg, Qaln]
  cases hc : Qri x with
  | false => exact Nat.le_add_right _ _
  | true =>
    obtain ⟨hE, _, h3, h4⟩ := Qamd hc
    have hb := Qalw hE (Qbc x)
    have hl := Qnd x (Qbc x)
    obtain ⟨r1, r2⟩ := Qaxe (x := x) hb
    obtain ⟨f1, f2⟩ := Qaqi hb
    have h8 := hE.al
    rw [cond_true]
    have hrw := Qaxd (Qsw x)
    rw [Qagr] at hrw
    refine Nat.le_trans hrw ?_
    have w1 := Qtc (w := Qke) (c := 4030) fun a ha => Qaje (r2 a ha)
    have w2 := Qtc (w := Qik) (c := 4022) fun a ha => Qajf (f2 a ha)
    have w3 : wtS Qjo (Qmk x) ≤ wtS Qjo x.Ledger + 25 := by
      unfold Qmk
      cases decide (0 < (((Qbc x).length : Nat) : Int)) with
      | false => exact Nat.le_add_right _ _
      | true =>
        obtain ⟨a, b, c⟩ := Qaqf hE
        have := Qtc (w := Qjo) (c := 24) (L := [Qnj x]) fun y hy => by rw [List.mem_singleton.1 hy]; unfold Qjo; omega
        rw [cond_true, Qaix]
        have e1 : [Qnj x].length = 1 := rfl
        omega
    have w4 : wtS Qik (Qxj x (Qen x (Qbc x))) = wtS Qik x.Done + wtS Qik (((Qen x (Qbc x)).filter Qia).map Qkk) := Qaix _ _ _
    unfold Qjp Qsw
    dsimp only
    omega
theorem Qasm (x : Qr) (ok : Qgc 9223372036854775807 x) : Qym x = true := by
  unfold Qym
  rw [Qur, ← Qacg, Qafj, bne_self_eq_false, Qafj]
  cases hs : decide (Qqe x 1048576 < 0) with
  | true => rfl
  | false =>
    obtain ⟨h1, h1b, h1c⟩ := Qahy Qafz ok (by omega) (by omega) hs
    have hi := Qalp x
    have q1 := Qafu.go x 1 (by omega) (by omega)
    obtain ⟨p2, _, r2⟩ := Qafu.go (Qdj x).1 1 (by omega) (by omega)
    have r3 : Qnp (⟨(⟨(Qcn (Qdj x).1 1).2.Store.Segments, (Qdj x).1.Store.Now⟩ : Qas), (Qdj x).1.Cursor, (Qcn (Qdj x).1 1).2.Order, (Qcn (Qdj x).1 1).2.Active, (Qcn (Qdj x).1 1).2.Done, (Qcn (Qdj x).1 1).2.Ledger, (Qdj x).1.Steps⟩ : Qr) 1 = (Qcn (Qdj x).1 1).1 := r2
    rw [r3, decide_eq_false (by omega), decide_eq_false (by omega), bne_self_eq_false]
    rfl

end Go.Proofs.YtdlminfjdodjoaaGreat
