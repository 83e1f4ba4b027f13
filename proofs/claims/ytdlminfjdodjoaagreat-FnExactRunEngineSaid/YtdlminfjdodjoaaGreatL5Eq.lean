/-
  The program and the reference compute the same: plain laws over what the walks showed.
-/
import Derived.Test.YtdlminfjdodjoaaGreatL5Law
namespace Go.Proofs.YtdlminfjdodjoaaGreat
open Go.RowKit
theorem Qaxv (y : List Int) (d : List (List Qt)) : wtS (wtS Qhv) (Qfp y d) ≤ wtS (wtS Qhv) d := Qajp (wtS Qhv) (wtS Qhv) _ (fun l => Qajo _ _ _) d
theorem Qalt (x : Qau) (y : List Int) : Qnb (Qgs x y).1 ≤ Qnb x := by
  cases h : Qlr x with
  | true =>
    rw [Qafg x y h]
    exact Qaxv y x.Segments
  | false =>
    unfold Qgs
    rw [h]
    exact Nat.le_refl _
theorem Qaxw (e : Qo) : Qhh (Qfw e) ≤ Qhh e := by
  unfold Qfw
  rw [Qgv (R := Qo) (xs := e.Active) (f := fun d a => d ++ [a.Time]) (b := fun k s => Qup e k s) (fun _ _ _ => rfl)]
  have h := Qalt e.Store (e.Active.foldl (fun d a => d ++ [a.Time]) [])
  show Qhh (⟨(Qgs e.Store _).1, e.Cursor, e.Order, e.Active, e.Done, e.Ledger, e.Steps⟩ : Qo) ≤ _
  unfold Qhh
  dsimp only
  omega
theorem Qtf {α : Type} {w : α → Nat} {c : Nat} : ∀ {L : List α}, (∀ a ∈ L, w a ≤ c) → wtS w L ≤ L.length * (c + 1)
  | [], _ => Nat.zero_le _
  | a :: L, h => by
    have ih := Qtf (w := w) (c := c) (L := L) fun b hb => h b (List.mem_cons_of_mem _ hb)
    have h1 := h a (List.mem_cons_self ..)
    unfold wtS at ih ⊢
    rw [List.length_cons, List.map_cons, List.sum_cons, Nat.add_mul]
    omega
theorem Qajn {α : Type} (w : α → Nat) (L M : List α) : wtS w (L ++ M) = wtS w L + wtS w M := by
  unfold wtS
  rw [List.length_append, List.map_append, List.sum_append]
  omega
theorem Qajr {l : List Qab} {n : Nat} (h1 : l.length ≤ n) (h : ∀ r ∈ l, r.Values.length = 3) : wtS Qkg l ≤ n * 4 := by
  have := Qtf (w := Qkg) (c := 3) (L := l) fun r hr => by have := h r hr; show r.Values.length ≤ 3; omega
  omega
theorem Qajv {a : Qw} (h : Qpn a) : Qkf a ≤ 4030 := by
  obtain ⟨⟨_, _, _, _, c1, _, _, c2⟩, h2, h3, h4⟩ := h
  have := Qajr h3 h4
  unfold Qkf Qma
  omega
theorem Qajx {f : Qav} (h : Qwm f) : Qio f ≤ 4022 := by
  obtain ⟨⟨_, _, _, _, c1, _, _, c2⟩, h3, h4⟩ := h
  have := Qajr h3 h4
  unfold Qio Qma
  omega
theorem Qaml (x : Qo) : Qhh (Qez x).1 ≤ Qhh x + 100000 := by
  rw [Qxa, Qacl]
  cases hc : Qpw x with
  | false => exact Nat.le_add_right _ _
  | true =>
    obtain ⟨hE, _, h3, h4⟩ := Qada hc
    have hb := Qact hE (Qba x)
    have hl := Qmf x (Qba x)
    obtain ⟨r1, r2⟩ := Qahe (x := x) hb
    obtain ⟨f1, f2⟩ := Qaep hb
    have h8 := hE.al
    rw [cond_true]
    have hrw := Qaxw (Qsz x)
    rw [Qahd] at hrw
    refine Nat.le_trans hrw ?_
    have w1 := Qtf (w := Qkf) (c := 4030) fun a ha => Qajv (r2 a ha)
    have w2 := Qtf (w := Qio) (c := 4022) fun a ha => Qajx (f2 a ha)
    have w3 : wtS Qju (Qiz x) ≤ wtS Qju x.Ledger + 25 := by
      unfold Qiz
      cases decide (0 < (((Qba x).length : Nat) : Int)) with
      | false => exact Nat.le_add_right _ _
      | true =>
        obtain ⟨a, b, c⟩ := Qaej hE
        have := Qtf (w := Qju) (c := 24) (L := [Qmi x]) fun y hy => by rw [List.mem_singleton.1 hy]; unfold Qju; omega
        rw [cond_true, Qajn]
        have e1 : [Qmi x].length = 1 := rfl
        omega
    have w4 : wtS Qio (Qxs x (Qeo x (Qba x))) = wtS Qio x.Done + wtS Qio (((Qeo x (Qba x)).filter Qif).map Qkl) := Qajn _ _ _
    unfold Qhh Qsz
    dsimp only
    omega
theorem Qalv (x : Qo) (n : Int) : Qdy x n = Qoc x n := by
  unfold Qdy Qoc
  have h : (fun k (s : Nat × Qo) => Qnn n k s.1 s.2) = fun k (s : Nat × Qo) => Qvl n k s.1 s.2 := by
    funext k s
    unfold Qnn Qvl
    rw [Qxa]
  rw [h]
theorem wt_add {a b c k : Nat} (h1 : a ≤ b + 100000) (h2 : b ≤ c + 100000 * k) : a ≤ c + 100000 * (k + 1) := by
  rw [Nat.mul_add, Nat.mul_one, ← Nat.add_assoc]
  exact Nat.le_trans h1 (Nat.add_le_add_right h2 _)
theorem wt_lim {b c k : Nat} (hk : k ≤ 201) (h2 : b ≤ c + 100000 * k) : b ≤ c + 20100000 := Nat.le_trans h2 (Nat.add_le_add_left (Nat.le_trans (Nat.mul_le_mul_left 100000 hk) (Nat.le_of_ble_eq_true rfl)) c)
theorem Qalw (x : Qo) (n : Int) : Qhh (Qdy x n) ≤ Qhh x + 20100000 := by
  unfold Qdy
  obtain ⟨s', e, h⟩ := Qva (R := Qo) (b := fun k (s : Nat × Qo) => Qnn n k s.1 s.2) (n := 201) (P := fun k s => Qhh s.2 ≤ Qhh x + 100000 * k) (Q := fun s => Qhh s.2 ≤ Qhh x + 20100000) (fun k s hk hs => by
    obtain ⟨i, y⟩ := s
    dsimp only at hs
    have hw := Qaml y
    show (∃ s', Qnn n k i y = _ ∧ _) ∨ ∃ s', Qnn n k i y = _ ∧ _
    unfold Qnn
    cases decide (((i : Nat) : Int) < n) with
    | false => exact .inr ⟨_, rfl, wt_lim (Nat.le_of_lt hk) hs⟩
    | true =>
    cases decide (((i : Nat) : Int) < 200) with
    | false => exact .inr ⟨_, rfl, wt_lim (Nat.le_of_lt hk) hs⟩
    | true => exact .inl ⟨_, rfl, wt_add hw hs⟩) (201 - 0) 0 (0, x) (by omega) (by dsimp only; omega)
  rw [e]
  exact h.elim id id
theorem Qate (x : Qo) (i : Int) (ok : Qem 9223372036854775807 x) : Qyv x i = true := by
  unfold Qyv
  rw [Quv, ← Qalv, Qafv, Qafv]
  cases hs : decide (Qqj x 1048576 < 0) with
  | true => rfl
  | false =>
    obtain ⟨h1, h1b, h1c⟩ := Qaio Qagl ok (by omega) (by omega) hs
    have hi := Qalw x i
    have q1 := Qagg.go x 1 (by omega) (by omega)
    obtain ⟨p2, _, r2⟩ := Qagg.go (Qdy x i) 1 (by omega) (by omega)
    have r3 : Qnq (⟨(⟨(Qcn (Qdy x i) 1).2.Store.Segments, (Qdy x i).Store.Now⟩ : Qau), (Qdy x i).Cursor, (Qcn (Qdy x i) 1).2.Order, (Qcn (Qdy x i) 1).2.Active, (Qcn (Qdy x i) 1).2.Done, (Qcn (Qdy x i) 1).2.Ledger, (Qdy x i).Steps⟩ : Qo) 1 = (Qcn (Qdy x i) 1).1 := r2
    rw [r3, decide_eq_false (by omega), decide_eq_false (by omega), bne_self_eq_false]
    rfl

end Go.Proofs.YtdlminfjdodjoaaGreat
