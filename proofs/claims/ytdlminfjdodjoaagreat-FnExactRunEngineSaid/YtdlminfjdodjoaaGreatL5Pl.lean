/-
  Plain laws of the functions that the law runs over its arguments.
-/
import Derived.Test.YtdlminfjdodjoaaGreatL5F6
import Derived.Test.YtdlminfjdodjoaaGreatVcP
namespace Go.Proofs.YtdlminfjdodjoaaGreat
open Go.RowKit
theorem Qnw : Qgr Qdj List.length (fun x => x.length ≤ 9223372036854775807) := Qain (fun _ _ => rfl)
def Qhv (x : Qt) : Nat := x.Values.length
theorem Qbaq {B : Nat} {x : Qt} (h : Qhv x ≤ B) : Qhu B x := by
  unfold Qhv at h
  unfold Qhu
  exact (by omega)
theorem Qbdp {w : World} {B : Nat} {cs : List Value} {x : Qt} (h : Qim.rd w B cs x) : Qhu 9223372036854775807 x := by
  obtain ⟨_, _, _, _, ⟨_, _, _, ⟨_, _, h1⟩, ⟨_, _, _, _, _⟩⟩⟩ := h
  unfold Qhu
  exact h1.1
theorem Qawf : Qgr Qot Qhv (fun x => Qhu 9223372036854775807 x) := ⟨fun x k hx h0 h1 => by
  unfold Qot Qhv
  unfold Qhu at hx
  refine Qhn (Qnw.go _ _ hx h0 h1) (by omega) (by omega) fun a0 b0 c0 => ?_
  right; omega⟩
theorem Qawd : Qgr Qqk (wtS Qhv) (fun x => (x.length ≤ 9223372036854775807 ∧ ∀ y ∈ x, Qhu 9223372036854775807 y)) := Qra Qawf (fun _ _ => rfl)
theorem Qawb : Qgr Qsk (wtS (wtS Qhv)) (fun x => (x.length ≤ 9223372036854775807 ∧ ∀ y ∈ x, (y.length ≤ 9223372036854775807 ∧ ∀ y1 ∈ y, Qhu 9223372036854775807 y1))) := Qra Qawd (fun _ _ => rfl)
def Qnb (x : Qau) : Nat := wtS (wtS Qhv) x.Segments
theorem Qbap {B : Nat} {x : Qau} (h : Qnb x ≤ B) : Qgh B x := by
  unfold Qnb at h
  unfold Qgh
  exact (Qox (w := wtS Qhv) (by omega) fun y h => (Qox (h) fun y h => (Qbaq (h))))
theorem Qbdn {w : World} {B : Nat} {cs : List Value} {x : Qau} (h : Qpe.rd w B cs x) : Qgh 9223372036854775807 x := by
  obtain ⟨_, _, _, ⟨_, _, h0⟩, _⟩ := h
  unfold Qgh
  exact (Qov h0 fun _ _ h => (by obtain ⟨_, _, h⟩ := h; exact (Qov h fun _ _ h => (Qbdp h))))
theorem Qavz : Qgr Qhl Qnb (fun x => Qgh 9223372036854775807 x) := ⟨fun x k hx h0 h1 => by
  unfold Qhl Qnb
  unfold Qgh at hx
  refine Qhn (Qawb.go _ _ hx h0 h1) (by omega) (by omega) fun a0 b0 c0 => ?_
  right; omega⟩
theorem Qavq : Qgr Qnt List.length (fun x => x.length ≤ 9223372036854775807) := Qain (fun _ _ => rfl)
def Qma (x : Qat) : Nat := x.Conds.length + x.Out.length
theorem Qahs {B : Nat} {x : Qat} (h : Qma x ≤ B) : Qfy B x := by
  unfold Qma at h
  unfold Qfy
  exact ⟨(by omega), (by omega)⟩
theorem Qaiz {w : World} {B : Nat} {cs : List Value} {x : Qat} (h : Qog.rd w B cs x) : Qfy 9223372036854775807 x := by
  obtain ⟨_, _, _, _, ⟨_, _, _, _, ⟨_, _, _, ⟨_, _, h2⟩, ⟨_, _, h3⟩⟩⟩⟩ := h
  unfold Qfy
  exact ⟨h2.1, h3.1⟩
theorem Qago : Qgr Qhk Qma (fun x => Qfy 9223372036854775807 x) := ⟨fun x k hx h0 h1 => by
  unfold Qhk Qma
  unfold Qfy at hx
  refine Qhn (Qavq.go _ _ hx.1 h0 h1) (by omega) (by omega) fun a0 b0 c0 => ?_
  refine Qhn (Qnw.go _ _ hx.2 a0 b0) (by omega) (by omega) fun a1 b1 c1 => ?_
  right; omega⟩
def Qkg (x : Qab) : Nat := x.Values.length
theorem Qaht {B : Nat} {x : Qab} (h : Qkg x ≤ B) : Qgm B x := by
  unfold Qkg at h
  unfold Qgm
  exact (by omega)
theorem Qajc {w : World} {B : Nat} {cs : List Value} {x : Qab} (h : Qit.rd w B cs x) : Qgm 9223372036854775807 x := by
  obtain ⟨_, _, _, _, ⟨_, _, h1⟩⟩ := h
  unfold Qgm
  exact h1.1
theorem Qavx : Qgr Qos Qkg (fun x => Qgm 9223372036854775807 x) := ⟨fun x k hx h0 h1 => by
  unfold Qos Qkg
  unfold Qgm at hx
  refine Qhn (Qnw.go _ _ hx h0 h1) (by omega) (by omega) fun a0 b0 c0 => ?_
  right; omega⟩
theorem Qagr : Qgr Qnx (wtS Qkg) (fun x => (x.length ≤ 9223372036854775807 ∧ ∀ y ∈ x, Qgm 9223372036854775807 y)) := Qra Qavx (fun _ _ => rfl)
def Qkf (x : Qw) : Nat := Qma x.Query + x.Todo.length + wtS Qkg x.Rows
theorem Qbam {B : Nat} {x : Qw} (h : Qkf x ≤ B) : Qje B x := by
  unfold Qkf at h
  unfold Qje
  exact ⟨(Qahs (by omega)), (by omega), (Qox (by omega) fun y h => (Qaht (h)))⟩
theorem Qbde {w : World} {B : Nat} {cs : List Value} {x : Qw} (h : Qle.rd w B cs x) : Qje 9223372036854775807 x := by
  obtain ⟨_, _, _, h0, ⟨_, _, _, _, ⟨_, _, _, ⟨_, _, h2⟩, ⟨_, _, _, _, ⟨_, _, _, _, ⟨_, _, _, _, ⟨_, _, h6⟩⟩⟩⟩⟩⟩⟩ := h
  unfold Qje
  exact ⟨(Qaiz h0), h2.1, (Qov h6 fun _ _ h => (Qajc h))⟩
theorem Qavk : Qgr Qop Qkf (fun x => Qje 9223372036854775807 x) := ⟨fun x k hx h0 h1 => by
  unfold Qop Qkf
  unfold Qje at hx
  refine Qhn (Qago.go _ _ hx.1 h0 h1) (by omega) (by omega) fun a0 b0 c0 => ?_
  refine Qhn (Qnw.go _ _ hx.2.1 a0 b0) (by omega) (by omega) fun a1 b1 c1 => ?_
  refine Qhn (Qagr.go _ _ hx.2.2 a1 b1) (by omega) (by omega) fun a2 b2 c2 => ?_
  right; omega⟩
theorem Qavi : Qgr Qks (wtS Qkf) (fun x => (x.length ≤ 9223372036854775807 ∧ ∀ y ∈ x, Qje 9223372036854775807 y)) := Qra Qavk (fun _ _ => rfl)
def Qio (x : Qav) : Nat := Qma x.Query + wtS Qkg x.Rows
theorem Qbao {B : Nat} {x : Qav} (h : Qio x ≤ B) : Qjf B x := by
  unfold Qio at h
  unfold Qjf
  exact ⟨(Qahs (by omega)), (Qox (by omega) fun y h => (Qaht (h)))⟩
theorem Qbdl {w : World} {B : Nat} {cs : List Value} {x : Qav} (h : Qlg.rd w B cs x) : Qjf 9223372036854775807 x := by
  obtain ⟨_, _, _, h0, ⟨_, _, _, _, ⟨_, _, _, _, ⟨_, _, h3⟩⟩⟩⟩ := h
  unfold Qjf
  exact ⟨(Qaiz h0), (Qov h3 fun _ _ h => (Qajc h))⟩
theorem Qavv : Qgr Qor Qio (fun x => Qjf 9223372036854775807 x) := ⟨fun x k hx h0 h1 => by
  unfold Qor Qio
  unfold Qjf at hx
  refine Qhn (Qago.go _ _ hx.1 h0 h1) (by omega) (by omega) fun a0 b0 c0 => ?_
  refine Qhn (Qagr.go _ _ hx.2 a0 b0) (by omega) (by omega) fun a1 b1 c1 => ?_
  right; omega⟩
theorem Qavt : Qgr Qnu (wtS Qio) (fun x => (x.length ≤ 9223372036854775807 ∧ ∀ y ∈ x, Qjf 9223372036854775807 y)) := Qra Qavv (fun _ _ => rfl)
def Qju (x : Qbc) : Nat := x.Ids.length + x.Tenants.length + x.Rows.length
theorem Qban {B : Nat} {x : Qbc} (h : Qju x ≤ B) : Qik B x := by
  unfold Qju at h
  unfold Qik
  exact ⟨(by omega), (by omega), (by omega)⟩
theorem Qbdg {w : World} {B : Nat} {cs : List Value} {x : Qbc} (h : Qlf.rd w B cs x) : Qik 9223372036854775807 x := by
  obtain ⟨_, _, _, _, ⟨_, _, _, _, ⟨_, _, _, ⟨_, _, h2⟩, ⟨_, _, _, ⟨_, _, h3⟩, ⟨_, _, h4⟩⟩⟩⟩⟩ := h
  unfold Qik
  exact ⟨h2.1, h3.1, h4.1⟩
theorem Qavo : Qgr Qoq Qju (fun x => Qik 9223372036854775807 x) := ⟨fun x k hx h0 h1 => by
  unfold Qoq Qju
  unfold Qik at hx
  refine Qhn (Qnw.go _ _ hx.1 h0 h1) (by omega) (by omega) fun a0 b0 c0 => ?_
  refine Qhn (Qnw.go _ _ hx.2.1 a0 b0) (by omega) (by omega) fun a1 b1 c1 => ?_
  refine Qhn (Qnw.go _ _ hx.2.2 a1 b1) (by omega) (by omega) fun a2 b2 c2 => ?_
  right; omega⟩
theorem Qavm : Qgr Qsj (wtS Qju) (fun x => (x.length ≤ 9223372036854775807 ∧ ∀ y ∈ x, Qik 9223372036854775807 y)) := Qra Qavo (fun _ _ => rfl)
def Qhh (x : Qo) : Nat := Qnb x.Store + x.Order.length + wtS Qkf x.Active + wtS Qio x.Done + wtS Qju x.Ledger
theorem Qow {B : Nat} {x : Qo} (h : Qhh x ≤ B) : Qem B x := by
  unfold Qhh at h
  unfold Qem
  exact ⟨(Qbap (by omega)), (by omega), (Qox (by omega) fun y h => (Qbam (h))), (Qox (by omega) fun y h => (Qbao (h))), (Qox (by omega) fun y h => (Qban (h)))⟩
theorem Qaiv {w : World} {B : Nat} {cs : List Value} {x : Qo} (h : Qpd.rd w B cs x) : Qem 9223372036854775807 x := by
  obtain ⟨_, _, _, h0, ⟨_, _, _, _, ⟨_, _, _, ⟨_, _, h2⟩, ⟨_, _, _, ⟨_, _, h3⟩, ⟨_, _, _, ⟨_, _, h4⟩, ⟨_, _, _, ⟨_, _, h5⟩, _⟩⟩⟩⟩⟩⟩ := h
  unfold Qem
  exact ⟨(Qbdn h0), h2.1, (Qov h3 fun _ _ h => (Qbde h)), (Qov h4 fun _ _ h => (Qbdl h)), (Qov h5 fun _ _ h => (Qbdg h))⟩
theorem Qagl : Qgr Qqj Qhh (fun x => Qem 9223372036854775807 x) := ⟨fun x k hx h0 h1 => by
  unfold Qqj Qhh
  unfold Qem at hx
  refine Qhn (Qavz.go _ _ hx.1 h0 h1) (by omega) (by omega) fun a0 b0 c0 => ?_
  refine Qhn (Qnw.go _ _ hx.2.1 a0 b0) (by omega) (by omega) fun a1 b1 c1 => ?_
  refine Qhn (Qavi.go _ _ hx.2.2.1 a1 b1) (by omega) (by omega) fun a2 b2 c2 => ?_
  refine Qhn (Qavt.go _ _ hx.2.2.2.1 a2 b2) (by omega) (by omega) fun a3 b3 c3 => ?_
  refine Qhn (Qavm.go _ _ hx.2.2.2.2 a3 b3) (by omega) (by omega) fun a4 b4 c4 => ?_
  right; omega⟩
theorem Qql (x : (List Int)) : Qbx x = x := by
  unfold Qbx
  rw [Qoa (b := fun k s => Qzy x k s) (xs := x) (by simp) (fun j s _ => rfl)]
  rfl
theorem Qaxf (x : Qt) : Qii x = x := by
  unfold Qii
  simp only [Qql]
theorem Qaxd (x : (List Qt)) : Qkw x = x := by
  unfold Qkw
  rw [Qoa (b := fun k s => Qaab x k s) (xs := x) (by simp) (fun j s _ => by
    show Sum.inr (s.set j (Qii (gt x j))) = _
    rw [Qaxf])]
  rfl
theorem Qaxb (x : (List (List Qt))) : Qkv x = x := by
  unfold Qkv
  rw [Qoa (b := fun k s => Qaaa x k s) (xs := x) (by simp) (fun j s _ => by
    show Sum.inr (s.set j (Qkw (gt x j))) = _
    rw [Qaxd])]
  rfl
theorem Qawz (x : Qau) : Qfx x = x := by
  unfold Qfx
  simp only [Qaxb]
theorem Qawr (x : Qcd) : Qjy x = x := rfl
theorem Qawp (x : (List Qcd)) : Qku x = x := by
  unfold Qku
  rw [Qoa (b := fun k s => Qzw x k s) (xs := x) (by simp) (fun j s _ => by
    show Sum.inr (s.set j (Qjy (gt x j))) = _
    rw [Qawr])]
  rfl
theorem Qagv (x : Qat) : Qco x = x := by
  unfold Qco
  simp only [Qawp, Qql]
theorem Qawx (x : Qab) : Qiy x = x := by
  unfold Qiy
  simp only [Qql]
theorem Qagx (x : (List Qab)) : Qgu x = x := by
  unfold Qgu
  rw [Qoa (b := fun k s => Qzz x k s) (xs := x) (by simp) (fun j s _ => by
    show Sum.inr (s.set j (Qiy (gt x j))) = _
    rw [Qawx])]
  rfl
theorem Qawj (x : Qw) : Qfr x = x := by
  unfold Qfr
  simp only [Qagv, Qql, Qagx]
theorem Qawh (x : (List Qw)) : Qix x = x := by
  unfold Qix
  rw [Qoa (b := fun k s => Qzu x k s) (xs := x) (by simp) (fun j s _ => by
    show Sum.inr (s.set j (Qfr (gt x j))) = _
    rw [Qawj])]
  rfl
theorem Qawv (x : Qav) : Qgt x = x := by
  unfold Qgt
  simp only [Qagv, Qagx]
theorem Qawt (x : (List Qav)) : Qjz x = x := by
  unfold Qjz
  rw [Qoa (b := fun k s => Qzx x k s) (xs := x) (by simp) (fun j s _ => by
    show Sum.inr (s.set j (Qgt (gt x j))) = _
    rw [Qawv])]
  rfl
theorem Qawn (x : Qbc) : Qhm x = x := by
  unfold Qhm
  simp only [Qql]
theorem Qawl (x : (List Qbc)) : Qkt x = x := by
  unfold Qkt
  rw [Qoa (b := fun k s => Qzv x k s) (xs := x) (by simp) (fun j s _ => by
    show Sum.inr (s.set j (Qhm (gt x j))) = _
    rw [Qawn])]
  rfl
theorem Quv (x : Qo) : Qca x = x := by
  unfold Qca
  simp only [Qawz, Qql, Qawh, Qawt, Qawl]
theorem Qqi (x : (List Int)) : Qhd x x = true := by
  unfold Qhd
  rw [bne_self_eq_false, cond_false, Qmq (fun j _ => by simp only [Qza, bne_self_eq_false, cond_false])]
  rfl
theorem Qaug (x : Qt) : Qsg x x = true := by
  simp only [Qsg, bne_self_eq_false, cond_false, cond_true, Qqi]
theorem Qaue (x : (List Qt)) : Qsf x x = true := by
  unfold Qsf
  rw [bne_self_eq_false, cond_false, Qmq (fun j _ => by simp only [Qzd, cond_true, Qaug])]
  rfl
theorem Qauc (x : (List (List Qt))) : Qse x x = true := by
  unfold Qse
  rw [bne_self_eq_false, cond_false, Qmq (fun j _ => by simp only [Qzc, cond_true, Qaue])]
  rfl
theorem Qaua (x : Qau) : Qsd x x = true := by
  simp only [Qsd, bne_self_eq_false, cond_false, cond_true, Qauc]
theorem Qats (x : Qcd) : Qrz x x = true := by
  simp only [Qrz, bne_self_eq_false, cond_false]
theorem Qatq (x : (List Qcd)) : Qry x x = true := by
  unfold Qry
  rw [bne_self_eq_false, cond_false, Qmq (fun j _ => by simp only [Qyy, cond_true, Qats])]
  rfl
theorem Qafx (x : Qat) : Qon x x = true := by
  simp only [Qon, bne_self_eq_false, cond_false, cond_true, Qatq, Qqi]
theorem Qaty (x : Qab) : Qsc x x = true := by
  simp only [Qsc, bne_self_eq_false, cond_false, cond_true, Qqi]
theorem Qafz (x : (List Qab)) : Qoo x x = true := by
  unfold Qoo
  rw [bne_self_eq_false, cond_false, Qmq (fun j _ => by simp only [Qzb, cond_true, Qaty])]
  rfl
theorem Qatk (x : Qw) : Qrv x x = true := by
  simp only [Qrv, bne_self_eq_false, cond_false, cond_true, Qqi, Qafx, Qafz]
theorem Qati (x : (List Qw)) : Qru x x = true := by
  unfold Qru
  rw [bne_self_eq_false, cond_false, Qmq (fun j _ => by simp only [Qyw, cond_true, Qatk])]
  rfl
theorem Qatw (x : Qav) : Qsb x x = true := by
  simp only [Qsb, bne_self_eq_false, cond_false, cond_true, Qafx, Qafz]
theorem Qatu (x : (List Qav)) : Qsa x x = true := by
  unfold Qsa
  rw [bne_self_eq_false, cond_false, Qmq (fun j _ => by simp only [Qyz, cond_true, Qatw])]
  rfl
theorem Qato (x : Qbc) : Qrx x x = true := by
  simp only [Qrx, bne_self_eq_false, cond_false, cond_true, Qqi]
theorem Qatm (x : (List Qbc)) : Qrw x x = true := by
  unfold Qrw
  rw [bne_self_eq_false, cond_false, Qmq (fun j _ => by simp only [Qyx, cond_true, Qato])]
  rfl
theorem Qafv (x : Qo) : Qmm x x = true := by
  simp only [Qmm, bne_self_eq_false, cond_false, cond_true, Qati, Qatm, Qatu, Qqi, Qaua]
theorem Qaux : Qlk (fun (_ : Int) (k : Int) => ((IntKind.i64.wrap (k + 1)), (k : Int))) (fun (x : Int) (k : Int) => (cond ((x) != k) (Sum.inl (-1)) (Sum.inr (IntKind.i64.wrap (k + 1))) : Int ⊕ Int)) (fun _ => 0) := ⟨fun x k h0 h1 => by
  have w1 : IntKind.i64.wrap (k + 1) = k + 1 := Qes (by omega) (by omega)
  simp only [w1]
  exact ⟨by omega, by omega, by simp only [bne_self_eq_false, cond_false]⟩⟩
theorem Qmp : MkF Qv Qbb List.length := Qnc Qaux (b := fun _ k s => Qzq k s.1 s.2) (hb := fun x k s => Qzi x k s) (fun x => Qajq x) (fun _ _ => rfl) (fun _ _ => rfl) (fun _ _ _ => rfl) (fun _ _ _ => rfl)
theorem Qavf : Qlk (fun (x : Qt) (k : Int) => ((IntKind.i64.wrap ((IntKind.i64.wrap (((Qv ((x).Values) (IntKind.i64.wrap (k + 1))).1) + 1)) + 1)), ((⟨k, (Qv ((x).Values) (IntKind.i64.wrap (k + 1))).2, (Qv ((x).Values) (IntKind.i64.wrap (k + 1))).1, (IntKind.i64.wrap (((Qv ((x).Values) (IntKind.i64.wrap (k + 1))).1) + 1))⟩ : Qt) : Qt))) (fun (x : Qt) (k : Int) => (cond (((x).Id) != k) (Sum.inl (-1)) (cond (decide ((Qbb ((x).Values) (IntKind.i64.wrap (k + 1))) < 0)) (Sum.inl (-1)) (cond (((x).Born) != (Qbb ((x).Values) (IntKind.i64.wrap (k + 1)))) (Sum.inl (-1)) (cond (((x).Died) != (IntKind.i64.wrap ((Qbb ((x).Values) (IntKind.i64.wrap (k + 1))) + 1))) (Sum.inl (-1)) (Sum.inr (IntKind.i64.wrap ((IntKind.i64.wrap ((Qbb ((x).Values) (IntKind.i64.wrap (k + 1))) + 1)) + 1)))))) : Int ⊕ Int)) Qhv := ⟨fun x k h0 h1 => by
  unfold Qhv at h1 ⊢
  have w1 : IntKind.i64.wrap (k + 1) = k + 1 := Qes (by omega) (by omega)
  obtain ⟨p2, q2, r2⟩ := Qmp.go x.Values (k + 1) (by omega) (by omega)
  have d2 : decide ((Qv x.Values (k + 1)).1 < 0) = false := decide_eq_false (by omega)
  have w3 : IntKind.i64.wrap ((Qv x.Values (k + 1)).1 + 1) = (Qv x.Values (k + 1)).1 + 1 := Qes (by omega) (by omega)
  have w4 : IntKind.i64.wrap ((Qv x.Values (k + 1)).1 + 1 + 1) = (Qv x.Values (k + 1)).1 + 1 + 1 := Qes (by omega) (by omega)
  simp only [w1, w3, w4]
  exact ⟨by omega, by omega, by simp only [bne_self_eq_false, r2, d2, cond_false, w1, w3, w4]⟩⟩
theorem Qavg : MkF Qjx Qns (wtS Qhv) := Qnc Qavf (b := fun _ k s => Qzt k s.1 s.2) (hb := fun x k s => Qzl x k s) (fun x => rfl) (fun _ _ => rfl) (fun _ _ => rfl) (fun _ _ _ => rfl) (fun _ _ _ => rfl)
theorem Qavc : Qlk (fun (x : (List Qt)) (k : Int) => ((Qjx (x) k).1, (((Qjx (x) k).2) : (List Qt)))) (fun (x : (List Qt)) (k : Int) => (cond (decide ((Qns (x) k) < 0)) (Sum.inl (-1)) (Sum.inr (Qns (x) k)) : Int ⊕ Int)) (wtS Qhv) := ⟨fun x k h0 h1 => by
  obtain ⟨p1, q1, r1⟩ := Qavg.go x k (by omega) (by omega)
  have d1 : decide ((Qjx x k).1 < 0) = false := decide_eq_false (by omega)
  exact ⟨by omega, by omega, by simp only [r1, d1, cond_false]⟩⟩
theorem Qavd : MkF Qkr Qsi (wtS (wtS Qhv)) := Qnc Qavc (b := fun _ k s => Qzs k s.1 s.2) (hb := fun x k s => Qzk x k s) (fun x => rfl) (fun _ _ => rfl) (fun _ _ => rfl) (fun _ _ _ => rfl) (fun _ _ _ => rfl)
theorem Qava : MkF Qdq Qhe Qnb := ⟨fun x k h0 h1 => by
  unfold Qnb at h1 ⊢
  obtain ⟨p1, q1, r1⟩ := Qavd.go x.Segments k (by omega) (by omega)
  have d1 : decide ((Qkr x.Segments k).1 < 0) = false := decide_eq_false (by omega)
  unfold Qdq
  exact ⟨by dsimp only; omega, by dsimp only; omega, by simp only [Qhe, r1, d1, cond_false]⟩⟩
theorem Qaut : Qlk (fun (_ : Qcd) (k : Int) => ((IntKind.i64.wrap ((IntKind.i64.wrap ((IntKind.i64.wrap (k + 1)) + 1)) + 1)), ((⟨k, (IntKind.i64.wrap (k + 1)), (IntKind.i64.wrap ((IntKind.i64.wrap (k + 1)) + 1))⟩ : Qcd) : Qcd))) (fun (x : Qcd) (k : Int) => (cond (((x).Field) != k) (Sum.inl (-1)) (cond (((x).Low) != (IntKind.i64.wrap (k + 1))) (Sum.inl (-1)) (cond (((x).High) != (IntKind.i64.wrap ((IntKind.i64.wrap (k + 1)) + 1))) (Sum.inl (-1)) (Sum.inr (IntKind.i64.wrap ((IntKind.i64.wrap ((IntKind.i64.wrap (k + 1)) + 1)) + 1))))) : Int ⊕ Int)) (fun _ => 0) := ⟨fun x k h0 h1 => by
  have w1 : IntKind.i64.wrap (k + 1) = k + 1 := Qes (by omega) (by omega)
  have w2 : IntKind.i64.wrap (k + 1 + 1) = k + 1 + 1 := Qes (by omega) (by omega)
  have w3 : IntKind.i64.wrap (k + 1 + 1 + 1) = k + 1 + 1 + 1 := Qes (by omega) (by omega)
  simp only [w1, w2, w3]
  exact ⟨by omega, by omega, by simp only [bne_self_eq_false, cond_false]⟩⟩
theorem Qage : MkF Qbi Qdb List.length := Qnc Qaut (b := fun _ k s => Qzo k s.1 s.2) (hb := fun x k s => Qzg x k s) (fun x => Qajq x) (fun _ _ => rfl) (fun _ _ => rfl) (fun _ _ _ => rfl) (fun _ _ _ => rfl)
theorem Qauy : Qlk (fun (x : Qab) (k : Int) => ((Qv ((x).Values) (IntKind.i64.wrap (k + 1))).1, ((⟨k, (Qv ((x).Values) (IntKind.i64.wrap (k + 1))).2⟩ : Qab) : Qab))) (fun (x : Qab) (k : Int) => (cond (((x).Id) != k) (Sum.inl (-1)) (cond (decide ((Qbb ((x).Values) (IntKind.i64.wrap (k + 1))) < 0)) (Sum.inl (-1)) (Sum.inr (Qbb ((x).Values) (IntKind.i64.wrap (k + 1))))) : Int ⊕ Int)) Qkg := ⟨fun x k h0 h1 => by
  unfold Qkg at h1 ⊢
  have w1 : IntKind.i64.wrap (k + 1) = k + 1 := Qes (by omega) (by omega)
  obtain ⟨p2, q2, r2⟩ := Qmp.go x.Values (k + 1) (by omega) (by omega)
  have d2 : decide ((Qv x.Values (k + 1)).1 < 0) = false := decide_eq_false (by omega)
  simp only [w1]
  exact ⟨by omega, by omega, by simp only [bne_self_eq_false, r2, d2, cond_false, w1]⟩⟩
theorem Qagi : MkF Qgg Qiq (wtS Qkg) := Qnc Qauy (b := fun _ k s => Qzr k s.1 s.2) (hb := fun x k s => Qzj x k s) (fun x => rfl) (fun _ _ => rfl) (fun _ _ => rfl) (fun _ _ _ => rfl) (fun _ _ _ => rfl)
theorem Qauo : Qlk (fun (x : Qw) (k : Int) => ((Qgg ((x).Rows) (IntKind.i64.wrap ((IntKind.i64.wrap ((IntKind.i64.wrap (((Qv ((x).Todo) (IntKind.i64.wrap (((Qv ((x).Query.Out) ((Qbi ((x).Query.Conds) (IntKind.i64.wrap ((IntKind.i64.wrap (k + 1)) + 1))).1)).1) + 1))).1) + 1)) + 1)) + 1))).1, ((⟨(⟨k, (IntKind.i64.wrap (k + 1)), (Qbi ((x).Query.Conds) (IntKind.i64.wrap ((IntKind.i64.wrap (k + 1)) + 1))).2, (Qv ((x).Query.Out) ((Qbi ((x).Query.Conds) (IntKind.i64.wrap ((IntKind.i64.wrap (k + 1)) + 1))).1)).2⟩ : Qat), (Qv ((x).Query.Out) ((Qbi ((x).Query.Conds) (IntKind.i64.wrap ((IntKind.i64.wrap (k + 1)) + 1))).1)).1, (Qv ((x).Todo) (IntKind.i64.wrap (((Qv ((x).Query.Out) ((Qbi ((x).Query.Conds) (IntKind.i64.wrap ((IntKind.i64.wrap (k + 1)) + 1))).1)).1) + 1))).2, (Qv ((x).Todo) (IntKind.i64.wrap (((Qv ((x).Query.Out) ((Qbi ((x).Query.Conds) (IntKind.i64.wrap ((IntKind.i64.wrap (k + 1)) + 1))).1)).1) + 1))).1, (IntKind.i64.wrap (((Qv ((x).Todo) (IntKind.i64.wrap (((Qv ((x).Query.Out) ((Qbi ((x).Query.Conds) (IntKind.i64.wrap ((IntKind.i64.wrap (k + 1)) + 1))).1)).1) + 1))).1) + 1)), (IntKind.i64.wrap ((IntKind.i64.wrap (((Qv ((x).Todo) (IntKind.i64.wrap (((Qv ((x).Query.Out) ((Qbi ((x).Query.Conds) (IntKind.i64.wrap ((IntKind.i64.wrap (k + 1)) + 1))).1)).1) + 1))).1) + 1)) + 1)), (Qgg ((x).Rows) (IntKind.i64.wrap ((IntKind.i64.wrap ((IntKind.i64.wrap (((Qv ((x).Todo) (IntKind.i64.wrap (((Qv ((x).Query.Out) ((Qbi ((x).Query.Conds) (IntKind.i64.wrap ((IntKind.i64.wrap (k + 1)) + 1))).1)).1) + 1))).1) + 1)) + 1)) + 1))).2⟩ : Qw) : Qw))) (fun (x : Qw) (k : Int) => (cond (((x).Query.Id) != k) (Sum.inl (-1)) (cond (((x).Query.Tenant) != (IntKind.i64.wrap (k + 1))) (Sum.inl (-1)) (cond (decide ((Qdb ((x).Query.Conds) (IntKind.i64.wrap ((IntKind.i64.wrap (k + 1)) + 1))) < 0)) (Sum.inl (-1)) (cond (decide ((Qbb ((x).Query.Out) (Qdb ((x).Query.Conds) (IntKind.i64.wrap ((IntKind.i64.wrap (k + 1)) + 1)))) < 0)) (Sum.inl (-1)) (cond (((x).Time) != (Qbb ((x).Query.Out) (Qdb ((x).Query.Conds) (IntKind.i64.wrap ((IntKind.i64.wrap (k + 1)) + 1))))) (Sum.inl (-1)) (cond (decide ((Qbb ((x).Todo) (IntKind.i64.wrap ((Qbb ((x).Query.Out) (Qdb ((x).Query.Conds) (IntKind.i64.wrap ((IntKind.i64.wrap (k + 1)) + 1)))) + 1))) < 0)) (Sum.inl (-1)) (cond (((x).Age) != (Qbb ((x).Todo) (IntKind.i64.wrap ((Qbb ((x).Query.Out) (Qdb ((x).Query.Conds) (IntKind.i64.wrap ((IntKind.i64.wrap (k + 1)) + 1)))) + 1)))) (Sum.inl (-1)) (cond (((x).Sent) != (IntKind.i64.wrap ((Qbb ((x).Todo) (IntKind.i64.wrap ((Qbb ((x).Query.Out) (Qdb ((x).Query.Conds) (IntKind.i64.wrap ((IntKind.i64.wrap (k + 1)) + 1)))) + 1))) + 1))) (Sum.inl (-1)) (cond (((x).Cap) != (IntKind.i64.wrap ((IntKind.i64.wrap ((Qbb ((x).Todo) (IntKind.i64.wrap ((Qbb ((x).Query.Out) (Qdb ((x).Query.Conds) (IntKind.i64.wrap ((IntKind.i64.wrap (k + 1)) + 1)))) + 1))) + 1)) + 1))) (Sum.inl (-1)) (cond (decide ((Qiq ((x).Rows) (IntKind.i64.wrap ((IntKind.i64.wrap ((IntKind.i64.wrap ((Qbb ((x).Todo) (IntKind.i64.wrap ((Qbb ((x).Query.Out) (Qdb ((x).Query.Conds) (IntKind.i64.wrap ((IntKind.i64.wrap (k + 1)) + 1)))) + 1))) + 1)) + 1)) + 1))) < 0)) (Sum.inl (-1)) (Sum.inr (Qiq ((x).Rows) (IntKind.i64.wrap ((IntKind.i64.wrap ((IntKind.i64.wrap ((Qbb ((x).Todo) (IntKind.i64.wrap ((Qbb ((x).Query.Out) (Qdb ((x).Query.Conds) (IntKind.i64.wrap ((IntKind.i64.wrap (k + 1)) + 1)))) + 1))) + 1)) + 1)) + 1))))))))))))) : Int ⊕ Int)) Qkf := ⟨fun x k h0 h1 => by
  unfold Qkf Qma at h1 ⊢
  have w1 : IntKind.i64.wrap (k + 1) = k + 1 := Qes (by omega) (by omega)
  have w2 : IntKind.i64.wrap (k + 1 + 1) = k + 1 + 1 := Qes (by omega) (by omega)
  obtain ⟨p3, q3, r3⟩ := Qage.go x.Query.Conds (k + 1 + 1) (by omega) (by omega)
  have d3 : decide ((Qbi x.Query.Conds (k + 1 + 1)).1 < 0) = false := decide_eq_false (by omega)
  obtain ⟨p4, q4, r4⟩ := Qmp.go x.Query.Out ((Qbi x.Query.Conds (k + 1 + 1)).1) (by omega) (by omega)
  have d4 : decide ((Qv x.Query.Out ((Qbi x.Query.Conds (k + 1 + 1)).1)).1 < 0) = false := decide_eq_false (by omega)
  have w5 : IntKind.i64.wrap ((Qv x.Query.Out ((Qbi x.Query.Conds (k + 1 + 1)).1)).1 + 1) = (Qv x.Query.Out ((Qbi x.Query.Conds (k + 1 + 1)).1)).1 + 1 := Qes (by omega) (by omega)
  obtain ⟨p6, q6, r6⟩ := Qmp.go x.Todo ((Qv x.Query.Out ((Qbi x.Query.Conds (k + 1 + 1)).1)).1 + 1) (by omega) (by omega)
  have d6 : decide ((Qv x.Todo ((Qv x.Query.Out ((Qbi x.Query.Conds (k + 1 + 1)).1)).1 + 1)).1 < 0) = false := decide_eq_false (by omega)
  have w7 : IntKind.i64.wrap ((Qv x.Todo ((Qv x.Query.Out ((Qbi x.Query.Conds (k + 1 + 1)).1)).1 + 1)).1 + 1) = (Qv x.Todo ((Qv x.Query.Out ((Qbi x.Query.Conds (k + 1 + 1)).1)).1 + 1)).1 + 1 := Qes (by omega) (by omega)
  have w8 : IntKind.i64.wrap ((Qv x.Todo ((Qv x.Query.Out ((Qbi x.Query.Conds (k + 1 + 1)).1)).1 + 1)).1 + 1 + 1) = (Qv x.Todo ((Qv x.Query.Out ((Qbi x.Query.Conds (k + 1 + 1)).1)).1 + 1)).1 + 1 + 1 := Qes (by omega) (by omega)
  have w9 : IntKind.i64.wrap ((Qv x.Todo ((Qv x.Query.Out ((Qbi x.Query.Conds (k + 1 + 1)).1)).1 + 1)).1 + 1 + 1 + 1) = (Qv x.Todo ((Qv x.Query.Out ((Qbi x.Query.Conds (k + 1 + 1)).1)).1 + 1)).1 + 1 + 1 + 1 := Qes (by omega) (by omega)
  obtain ⟨p10, q10, r10⟩ := Qagi.go x.Rows ((Qv x.Todo ((Qv x.Query.Out ((Qbi x.Query.Conds (k + 1 + 1)).1)).1 + 1)).1 + 1 + 1 + 1) (by omega) (by omega)
  have d10 : decide ((Qgg x.Rows ((Qv x.Todo ((Qv x.Query.Out ((Qbi x.Query.Conds (k + 1 + 1)).1)).1 + 1)).1 + 1 + 1 + 1)).1 < 0) = false := decide_eq_false (by omega)
  simp only [w1, w2, w5, w7, w8, w9]
  exact ⟨by omega, by omega, by simp only [bne_self_eq_false, r3, d3, r4, d4, r6, d6, r10, d10, cond_false, w1, w2, w5, w7, w8, w9]⟩⟩
theorem Qaup : MkF Qfo Qkp (wtS Qkf) := Qnc Qauo (b := fun _ k s => Qzm k s.1 s.2) (hb := fun x k s => Qze x k s) (fun x => rfl) (fun _ _ => rfl) (fun _ _ => rfl) (fun _ _ _ => rfl) (fun _ _ _ => rfl)
theorem Qauv : Qlk (fun (x : Qav) (k : Int) => ((Qgg ((x).Rows) (IntKind.i64.wrap ((IntKind.i64.wrap (((Qv ((x).Query.Out) ((Qbi ((x).Query.Conds) (IntKind.i64.wrap ((IntKind.i64.wrap (k + 1)) + 1))).1)).1) + 1)) + 1))).1, ((⟨(⟨k, (IntKind.i64.wrap (k + 1)), (Qbi ((x).Query.Conds) (IntKind.i64.wrap ((IntKind.i64.wrap (k + 1)) + 1))).2, (Qv ((x).Query.Out) ((Qbi ((x).Query.Conds) (IntKind.i64.wrap ((IntKind.i64.wrap (k + 1)) + 1))).1)).2⟩ : Qat), (Qv ((x).Query.Out) ((Qbi ((x).Query.Conds) (IntKind.i64.wrap ((IntKind.i64.wrap (k + 1)) + 1))).1)).1, (IntKind.i64.wrap (((Qv ((x).Query.Out) ((Qbi ((x).Query.Conds) (IntKind.i64.wrap ((IntKind.i64.wrap (k + 1)) + 1))).1)).1) + 1)), (Qgg ((x).Rows) (IntKind.i64.wrap ((IntKind.i64.wrap (((Qv ((x).Query.Out) ((Qbi ((x).Query.Conds) (IntKind.i64.wrap ((IntKind.i64.wrap (k + 1)) + 1))).1)).1) + 1)) + 1))).2⟩ : Qav) : Qav))) (fun (x : Qav) (k : Int) => (cond (((x).Query.Id) != k) (Sum.inl (-1)) (cond (((x).Query.Tenant) != (IntKind.i64.wrap (k + 1))) (Sum.inl (-1)) (cond (decide ((Qdb ((x).Query.Conds) (IntKind.i64.wrap ((IntKind.i64.wrap (k + 1)) + 1))) < 0)) (Sum.inl (-1)) (cond (decide ((Qbb ((x).Query.Out) (Qdb ((x).Query.Conds) (IntKind.i64.wrap ((IntKind.i64.wrap (k + 1)) + 1)))) < 0)) (Sum.inl (-1)) (cond (((x).Time) != (Qbb ((x).Query.Out) (Qdb ((x).Query.Conds) (IntKind.i64.wrap ((IntKind.i64.wrap (k + 1)) + 1))))) (Sum.inl (-1)) (cond (((x).Steps) != (IntKind.i64.wrap ((Qbb ((x).Query.Out) (Qdb ((x).Query.Conds) (IntKind.i64.wrap ((IntKind.i64.wrap (k + 1)) + 1)))) + 1))) (Sum.inl (-1)) (cond (decide ((Qiq ((x).Rows) (IntKind.i64.wrap ((IntKind.i64.wrap ((Qbb ((x).Query.Out) (Qdb ((x).Query.Conds) (IntKind.i64.wrap ((IntKind.i64.wrap (k + 1)) + 1)))) + 1)) + 1))) < 0)) (Sum.inl (-1)) (Sum.inr (Qiq ((x).Rows) (IntKind.i64.wrap ((IntKind.i64.wrap ((Qbb ((x).Query.Out) (Qdb ((x).Query.Conds) (IntKind.i64.wrap ((IntKind.i64.wrap (k + 1)) + 1)))) + 1)) + 1)))))))))) : Int ⊕ Int)) Qio := ⟨fun x k h0 h1 => by
  unfold Qio Qma at h1 ⊢
  have w1 : IntKind.i64.wrap (k + 1) = k + 1 := Qes (by omega) (by omega)
  have w2 : IntKind.i64.wrap (k + 1 + 1) = k + 1 + 1 := Qes (by omega) (by omega)
  obtain ⟨p3, q3, r3⟩ := Qage.go x.Query.Conds (k + 1 + 1) (by omega) (by omega)
  have d3 : decide ((Qbi x.Query.Conds (k + 1 + 1)).1 < 0) = false := decide_eq_false (by omega)
  obtain ⟨p4, q4, r4⟩ := Qmp.go x.Query.Out ((Qbi x.Query.Conds (k + 1 + 1)).1) (by omega) (by omega)
  have d4 : decide ((Qv x.Query.Out ((Qbi x.Query.Conds (k + 1 + 1)).1)).1 < 0) = false := decide_eq_false (by omega)
  have w5 : IntKind.i64.wrap ((Qv x.Query.Out ((Qbi x.Query.Conds (k + 1 + 1)).1)).1 + 1) = (Qv x.Query.Out ((Qbi x.Query.Conds (k + 1 + 1)).1)).1 + 1 := Qes (by omega) (by omega)
  have w6 : IntKind.i64.wrap ((Qv x.Query.Out ((Qbi x.Query.Conds (k + 1 + 1)).1)).1 + 1 + 1) = (Qv x.Query.Out ((Qbi x.Query.Conds (k + 1 + 1)).1)).1 + 1 + 1 := Qes (by omega) (by omega)
  obtain ⟨p7, q7, r7⟩ := Qagi.go x.Rows ((Qv x.Query.Out ((Qbi x.Query.Conds (k + 1 + 1)).1)).1 + 1 + 1) (by omega) (by omega)
  have d7 : decide ((Qgg x.Rows ((Qv x.Query.Out ((Qbi x.Query.Conds (k + 1 + 1)).1)).1 + 1 + 1)).1 < 0) = false := decide_eq_false (by omega)
  simp only [w1, w2, w5, w6]
  exact ⟨by omega, by omega, by simp only [bne_self_eq_false, r3, d3, r4, d4, r7, d7, cond_false, w1, w2, w5, w6]⟩⟩
theorem Qauw : MkF Qhj Qnr (wtS Qio) := Qnc Qauv (b := fun _ k s => Qzp k s.1 s.2) (hb := fun x k s => Qzh x k s) (fun x => rfl) (fun _ _ => rfl) (fun _ _ => rfl) (fun _ _ _ => rfl) (fun _ _ _ => rfl)
theorem Qaur : Qlk (fun (x : Qbc) (k : Int) => ((Qv ((x).Rows) ((Qv ((x).Tenants) ((Qv ((x).Ids) (IntKind.i64.wrap ((IntKind.i64.wrap (k + 1)) + 1))).1)).1)).1, ((⟨k, (IntKind.i64.wrap (k + 1)), (Qv ((x).Ids) (IntKind.i64.wrap ((IntKind.i64.wrap (k + 1)) + 1))).2, (Qv ((x).Tenants) ((Qv ((x).Ids) (IntKind.i64.wrap ((IntKind.i64.wrap (k + 1)) + 1))).1)).2, (Qv ((x).Rows) ((Qv ((x).Tenants) ((Qv ((x).Ids) (IntKind.i64.wrap ((IntKind.i64.wrap (k + 1)) + 1))).1)).1)).2⟩ : Qbc) : Qbc))) (fun (x : Qbc) (k : Int) => (cond (((x).Segment) != k) (Sum.inl (-1)) (cond (((x).Base) != (IntKind.i64.wrap (k + 1))) (Sum.inl (-1)) (cond (decide ((Qbb ((x).Ids) (IntKind.i64.wrap ((IntKind.i64.wrap (k + 1)) + 1))) < 0)) (Sum.inl (-1)) (cond (decide ((Qbb ((x).Tenants) (Qbb ((x).Ids) (IntKind.i64.wrap ((IntKind.i64.wrap (k + 1)) + 1)))) < 0)) (Sum.inl (-1)) (cond (decide ((Qbb ((x).Rows) (Qbb ((x).Tenants) (Qbb ((x).Ids) (IntKind.i64.wrap ((IntKind.i64.wrap (k + 1)) + 1))))) < 0)) (Sum.inl (-1)) (Sum.inr (Qbb ((x).Rows) (Qbb ((x).Tenants) (Qbb ((x).Ids) (IntKind.i64.wrap ((IntKind.i64.wrap (k + 1)) + 1)))))))))) : Int ⊕ Int)) Qju := ⟨fun x k h0 h1 => by
  unfold Qju at h1 ⊢
  have w1 : IntKind.i64.wrap (k + 1) = k + 1 := Qes (by omega) (by omega)
  have w2 : IntKind.i64.wrap (k + 1 + 1) = k + 1 + 1 := Qes (by omega) (by omega)
  obtain ⟨p3, q3, r3⟩ := Qmp.go x.Ids (k + 1 + 1) (by omega) (by omega)
  have d3 : decide ((Qv x.Ids (k + 1 + 1)).1 < 0) = false := decide_eq_false (by omega)
  obtain ⟨p4, q4, r4⟩ := Qmp.go x.Tenants ((Qv x.Ids (k + 1 + 1)).1) (by omega) (by omega)
  have d4 : decide ((Qv x.Tenants ((Qv x.Ids (k + 1 + 1)).1)).1 < 0) = false := decide_eq_false (by omega)
  obtain ⟨p5, q5, r5⟩ := Qmp.go x.Rows ((Qv x.Tenants ((Qv x.Ids (k + 1 + 1)).1)).1) (by omega) (by omega)
  have d5 : decide ((Qv x.Rows ((Qv x.Tenants ((Qv x.Ids (k + 1 + 1)).1)).1)).1 < 0) = false := decide_eq_false (by omega)
  simp only [w1, w2]
  exact ⟨by omega, by omega, by simp only [bne_self_eq_false, r3, d3, r4, d4, r5, d5, cond_false, w1, w2]⟩⟩
theorem Qaus : MkF Qkq Qsh (wtS Qju) := Qnc Qaur (b := fun _ k s => Qzn k s.1 s.2) (hb := fun x k s => Qzf x k s) (fun x => rfl) (fun _ _ => rfl) (fun _ _ => rfl) (fun _ _ _ => rfl) (fun _ _ _ => rfl)
theorem Qagg : MkF Qcn Qnq Qhh := ⟨fun x k h0 h1 => by
  unfold Qhh at h1 ⊢
  obtain ⟨p1, q1, r1⟩ := Qava.go x.Store k (by omega) (by omega)
  have d1 : decide ((Qdq x.Store k).1 < 0) = false := decide_eq_false (by omega)
  have r1 : Qhe (⟨(Qdq x.Store k).2.Segments, x.Store.Now⟩ : Qau) k = (Qdq x.Store k).1 := r1
  obtain ⟨p2, q2, r2⟩ := Qmp.go x.Order ((Qdq x.Store k).1) (by omega) (by omega)
  have d2 : decide ((Qv x.Order ((Qdq x.Store k).1)).1 < 0) = false := decide_eq_false (by omega)
  obtain ⟨p3, q3, r3⟩ := Qaup.go x.Active ((Qv x.Order ((Qdq x.Store k).1)).1) (by omega) (by omega)
  have d3 : decide ((Qfo x.Active ((Qv x.Order ((Qdq x.Store k).1)).1)).1 < 0) = false := decide_eq_false (by omega)
  obtain ⟨p4, q4, r4⟩ := Qauw.go x.Done ((Qfo x.Active ((Qv x.Order ((Qdq x.Store k).1)).1)).1) (by omega) (by omega)
  have d4 : decide ((Qhj x.Done ((Qfo x.Active ((Qv x.Order ((Qdq x.Store k).1)).1)).1)).1 < 0) = false := decide_eq_false (by omega)
  obtain ⟨p5, q5, r5⟩ := Qaus.go x.Ledger ((Qhj x.Done ((Qfo x.Active ((Qv x.Order ((Qdq x.Store k).1)).1)).1)).1) (by omega) (by omega)
  have d5 : decide ((Qkq x.Ledger ((Qhj x.Done ((Qfo x.Active ((Qv x.Order ((Qdq x.Store k).1)).1)).1)).1)).1 < 0) = false := decide_eq_false (by omega)
  unfold Qcn
  exact ⟨by dsimp only; omega, by dsimp only; omega, by simp only [Qnq, r1, d1, r2, d2, r3, d3, r4, d4, r5, d5, cond_false]⟩⟩
end Go.Proofs.YtdlminfjdodjoaaGreat

