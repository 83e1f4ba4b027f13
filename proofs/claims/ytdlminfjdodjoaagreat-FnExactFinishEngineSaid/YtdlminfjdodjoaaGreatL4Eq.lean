/-
  The program and the reference compute the same: plain laws over what the walks showed.
-/
import Derived.Test.YtdlminfjdodjoaaGreatL4Law
namespace Go.Proofs.YtdlminfjdodjoaaGreat
open Go.RowKit
theorem Qaze (y : List Int) (d : List (List Qt)) : wtS (wtS Qhw) (Qfq y d) ≤ wtS (wtS Qhw) d := Qajq (wtS Qhw) (wtS Qhw) _ (fun l => Qajp _ _ _) d
theorem Qalw (x : Qau) (y : List Int) : Qnb (Qgs x y).1 ≤ Qnb x := by
  cases h : Qlr x with
  | true =>
    rw [Qafi x y h]
    exact Qaze y x.Segments
  | false =>
    unfold Qgs
    rw [h]
    exact Nat.le_refl _
theorem Qazf (e : Qo) : Qhh (Qfw e) ≤ Qhh e := by
  unfold Qfw
  rw [Qgv (R := Qo) (xs := e.Active) (f := fun d a => d ++ [a.Time]) (b := fun k s => Quq e k s) (fun _ _ _ => rfl)]
  have h := Qalw e.Store (e.Active.foldl (fun d a => d ++ [a.Time]) [])
  show Qhh (⟨(Qgs e.Store _).1, e.Cursor, e.Order, e.Active, e.Done, e.Ledger, e.Steps⟩ : Qo) ≤ _
  unfold Qhh
  dsimp only
  omega
theorem Qtg {α : Type} {w : α → Nat} {c : Nat} : ∀ {L : List α}, (∀ a ∈ L, w a ≤ c) → wtS w L ≤ L.length * (c + 1)
  | [], _ => Nat.zero_le _
  | a :: L, h => by
    have ih := Qtg (w := w) (c := c) (L := L) fun b hb => h b (List.mem_cons_of_mem _ hb)
    have h1 := h a (List.mem_cons_self ..)
    unfold wtS at ih ⊢
    rw [List.length_cons, List.map_cons, List.sum_cons, Nat.add_mul]
    omega
theorem Qajo {α : Type} (w : α → Nat) (L M : List α) : wtS w (L ++ M) = wtS w L + wtS w M := by
  unfold wtS
  rw [List.length_append, List.map_append, List.sum_append]
  omega
theorem Qajs {l : List Qab} {n : Nat} (h1 : l.length ≤ n) (h : ∀ r ∈ l, r.Values.length = 3) : wtS Qkh l ≤ n * 4 := by
  have := Qtg (w := Qkh) (c := 3) (L := l) fun r hr => by have := h r hr; show r.Values.length ≤ 3; omega
  omega
theorem Qajw {a : Qw} (h : Qpn a) : Qkg a ≤ 4030 := by
  obtain ⟨⟨_, _, _, _, c1, _, _, c2⟩, h2, h3, h4⟩ := h
  have := Qajs h3 h4
  unfold Qkg Qma
  omega
theorem Qajy {f : Qav} (h : Qwo f) : Qio f ≤ 4022 := by
  obtain ⟨⟨_, _, _, _, c1, _, _, c2⟩, h3, h4⟩ := h
  have := Qajs h3 h4
  unfold Qio Qma
  omega
theorem Qamm (x : Qo) : Qhh (Qez x).1 ≤ Qhh x + 100000 := by
  rw [Qxc, Qaco]
  cases hc : Qpw x with
  | false => exact Nat.le_add_right _ _
  | true =>
    obtain ⟨hE, _, h3, h4⟩ := Qadd hc
    have hb := Qacw hE (Qba x)
    have hl := Qmf x (Qba x)
    obtain ⟨r1, r2⟩ := Qahf (x := x) hb
    obtain ⟨f1, f2⟩ := Qaer hb
    have h8 := hE.al
    rw [cond_true]
    have hrw := Qazf (Qta x)
    rw [Qahe] at hrw
    refine Nat.le_trans hrw ?_
    have w1 := Qtg (w := Qkg) (c := 4030) fun a ha => Qajw (r2 a ha)
    have w2 := Qtg (w := Qio) (c := 4022) fun a ha => Qajy (f2 a ha)
    have w3 : wtS Qjv (Qja x) ≤ wtS Qjv x.Ledger + 25 := by
      unfold Qja
      cases decide (0 < (((Qba x).length : Nat) : Int)) with
      | false => exact Nat.le_add_right _ _
      | true =>
        obtain ⟨a, b, c⟩ := Qael hE
        have := Qtg (w := Qjv) (c := 24) (L := [Qmi x]) fun y hy => by rw [List.mem_singleton.1 hy]; unfold Qjv; omega
        rw [cond_true, Qajo]
        have e1 : [Qmi x].length = 1 := rfl
        omega
    have w4 : wtS Qio (Qxu x (Qeq x (Qba x))) = wtS Qio x.Done + wtS Qio (((Qeq x (Qba x)).filter Qig).map Qkm) := Qajo _ _ _
    unfold Qhh Qta
    dsimp only
    omega
theorem Qaku (x : Qo) : Qdy x = Qob x := by
  unfold Qdy Qob
  have h : (fun k (s : Nat × Qo) => Qnm k s.1 s.2) = fun k (s : Nat × Qo) => Qvh k s.1 s.2 := by
    funext k s
    unfold Qnm Qvh
    rw [Qxc, Qrg]
  rw [h]
theorem Qbed {a b c k : Nat} (h1 : a ≤ b + 100000) (h2 : b ≤ c + 100000 * k) : a ≤ c + 100000 * (k + 1) := by
  rw [Nat.mul_add, Nat.mul_one, ← Nat.add_assoc]
  exact Nat.le_trans h1 (Nat.add_le_add_right h2 _)
theorem Qabv {b c k : Nat} (hk : k ≤ 201) (h2 : b ≤ c + 100000 * k) : b ≤ c + 20100000 := Nat.le_trans h2 (Nat.add_le_add_left (Nat.le_trans (Nat.mul_le_mul_left 100000 hk) (Nat.le_of_ble_eq_true rfl)) c)
theorem Qakv (x : Qo) : Qhh (Qdy x) ≤ Qhh x + 20100000 := by
  unfold Qdy
  obtain ⟨s', e, h⟩ := Qvb (R := Qo) (b := fun k (s : Nat × Qo) => Qnm k s.1 s.2) (n := 201) (P := fun k s => Qhh s.2 ≤ Qhh x + 100000 * k) (Q := fun s => Qhh s.2 ≤ Qhh x + 20100000) (fun k s hk hs => by
    obtain ⟨i, y⟩ := s
    dsimp only at hs
    have hw := Qamm y
    show (∃ s', Qnm k i y = _ ∧ _) ∨ ∃ s', Qnm k i y = _ ∧ _
    unfold Qnm
    cases decide (((i : Nat) : Int) < 200) with
    | false => exact .inr ⟨_, rfl, Qabv (Nat.le_of_lt hk) hs⟩
    | true =>
    cases Qiq y with
    | false => exact .inr ⟨_, rfl, Qabv (Nat.le_of_lt hk) hs⟩
    | true =>
    cases decide (0 < ((y.Active.length : Nat) : Int)) with
    | false => exact .inr ⟨_, rfl, Qabv (Nat.le_of_lt hk) hs⟩
    | true => exact .inl ⟨_, rfl, Qbed hw hs⟩) (201 - 0) 0 (0, x) (by omega) (by dsimp only; omega)
  rw [e]
  exact h.elim id id
theorem Qaun (x : Qo) (ok : Qen 9223372036854775807 x) : Qyy x = true := by
  unfold Qyy
  rw [Quw, ← Qaku, Qafw, Qafw]
  cases hs : decide (Qqj x 1048576 < 0) with
  | true => rfl
  | false =>
    obtain ⟨h1, h1b, h1c⟩ := Qaip Qagm ok (by omega) (by omega) hs
    have hi := Qakv x
    have q1 := Qagh.go x 1 (by omega) (by omega)
    generalize Qdy x = y at hi ⊢
    obtain ⟨p2, _, r2⟩ := Qagh.go y 1 (by omega) (by omega)
    have r3 : Qnq (⟨(⟨(Qcn y 1).2.Store.Segments, y.Store.Now⟩ : Qau), y.Cursor, (Qcn y 1).2.Order, (Qcn y 1).2.Active, (Qcn y 1).2.Done, (Qcn y 1).2.Ledger, y.Steps⟩ : Qo) 1 = (Qcn y 1).1 := r2
    rw [r3, decide_eq_false (by omega), decide_eq_false (by omega), bne_self_eq_false]
    rfl

end Go.Proofs.YtdlminfjdodjoaaGreat
