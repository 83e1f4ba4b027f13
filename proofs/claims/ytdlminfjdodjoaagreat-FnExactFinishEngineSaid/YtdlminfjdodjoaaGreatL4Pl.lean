/-
  Plain laws of the functions that the law runs over its arguments.
-/
import Derived.Test.YtdlminfjdodjoaaGreatL4F6
import Derived.Test.YtdlminfjdodjoaaGreatVcP
namespace Go.Proofs.YtdlminfjdodjoaaGreat
open Go.RowKit
theorem Qnw : Qgr Qdj List.length (fun x => x.length ≤ 9223372036854775807) := Qaio (fun _ _ => rfl)
def Qhw (x : Qt) : Nat := x.Values.length
theorem Qbar {B : Nat} {x : Qt} (h : Qhw x ≤ B) : Qhu B x := by
  unfold Qhw at h
  unfold Qhu
  exact (by omega)
theorem Qbdq {w : World} {B : Nat} {cs : List Value} {x : Qt} (h : Qim.rd w B cs x) : Qhu 9223372036854775807 x := by
  obtain ⟨_, _, _, _, ⟨_, _, _, ⟨_, _, h1⟩, ⟨_, _, _, _, _⟩⟩⟩ := h
  unfold Qhu
  exact h1.1
theorem Qaxo : Qgr Qot Qhw (fun x => Qhu 9223372036854775807 x) := ⟨fun x k hx h0 h1 => by
  unfold Qot Qhw
  unfold Qhu at hx
  refine Qhn (Qnw.go _ _ hx h0 h1) (by omega) (by omega) fun a0 b0 c0 => ?_
  right; omega⟩
theorem Qaxm : Qgr Qqk (wtS Qhw) (fun x => (x.length ≤ 9223372036854775807 ∧ ∀ y ∈ x, Qhu 9223372036854775807 y)) := Qra Qaxo (fun _ _ => rfl)
theorem Qaxk : Qgr Qsl (wtS (wtS Qhw)) (fun x => (x.length ≤ 9223372036854775807 ∧ ∀ y ∈ x, (y.length ≤ 9223372036854775807 ∧ ∀ y1 ∈ y, Qhu 9223372036854775807 y1))) := Qra Qaxm (fun _ _ => rfl)
def Qnb (x : Qau) : Nat := wtS (wtS Qhw) x.Segments
theorem Qbaq {B : Nat} {x : Qau} (h : Qnb x ≤ B) : Qgh B x := by
  unfold Qnb at h
  unfold Qgh
  exact (Qox (w := wtS Qhw) (by omega) fun y h => (Qox (h) fun y h => (Qbar (h))))
theorem Qbdo {w : World} {B : Nat} {cs : List Value} {x : Qau} (h : Qpe.rd w B cs x) : Qgh 9223372036854775807 x := by
  obtain ⟨_, _, _, ⟨_, _, h0⟩, _⟩ := h
  unfold Qgh
  exact (Qov h0 fun _ _ h => (by obtain ⟨_, _, h⟩ := h; exact (Qov h fun _ _ h => (Qbdq h))))
theorem Qaxi : Qgr Qhl Qnb (fun x => Qgh 9223372036854775807 x) := ⟨fun x k hx h0 h1 => by
  unfold Qhl Qnb
  unfold Qgh at hx
  refine Qhn (Qaxk.go _ _ hx h0 h1) (by omega) (by omega) fun a0 b0 c0 => ?_
  right; omega⟩
theorem Qawz : Qgr Qnt List.length (fun x => x.length ≤ 9223372036854775807) := Qaio (fun _ _ => rfl)
def Qma (x : Qat) : Nat := x.Conds.length + x.Out.length
theorem Qaht {B : Nat} {x : Qat} (h : Qma x ≤ B) : Qfy B x := by
  unfold Qma at h
  unfold Qfy
  exact ⟨(by omega), (by omega)⟩
theorem Qaja {w : World} {B : Nat} {cs : List Value} {x : Qat} (h : Qog.rd w B cs x) : Qfy 9223372036854775807 x := by
  obtain ⟨_, _, _, _, ⟨_, _, _, _, ⟨_, _, _, ⟨_, _, h2⟩, ⟨_, _, h3⟩⟩⟩⟩ := h
  unfold Qfy
  exact ⟨h2.1, h3.1⟩
theorem Qagp : Qgr Qhk Qma (fun x => Qfy 9223372036854775807 x) := ⟨fun x k hx h0 h1 => by
  unfold Qhk Qma
  unfold Qfy at hx
  refine Qhn (Qawz.go _ _ hx.1 h0 h1) (by omega) (by omega) fun a0 b0 c0 => ?_
  refine Qhn (Qnw.go _ _ hx.2 a0 b0) (by omega) (by omega) fun a1 b1 c1 => ?_
  right; omega⟩
def Qkh (x : Qab) : Nat := x.Values.length
theorem Qahu {B : Nat} {x : Qab} (h : Qkh x ≤ B) : Qgm B x := by
  unfold Qkh at h
  unfold Qgm
  exact (by omega)
theorem Qajd {w : World} {B : Nat} {cs : List Value} {x : Qab} (h : Qiu.rd w B cs x) : Qgm 9223372036854775807 x := by
  obtain ⟨_, _, _, _, ⟨_, _, h1⟩⟩ := h
  unfold Qgm
  exact h1.1
theorem Qaxg : Qgr Qos Qkh (fun x => Qgm 9223372036854775807 x) := ⟨fun x k hx h0 h1 => by
  unfold Qos Qkh
  unfold Qgm at hx
  refine Qhn (Qnw.go _ _ hx h0 h1) (by omega) (by omega) fun a0 b0 c0 => ?_
  right; omega⟩
theorem Qags : Qgr Qnx (wtS Qkh) (fun x => (x.length ≤ 9223372036854775807 ∧ ∀ y ∈ x, Qgm 9223372036854775807 y)) := Qra Qaxg (fun _ _ => rfl)
def Qkg (x : Qw) : Nat := Qma x.Query + x.Todo.length + wtS Qkh x.Rows
theorem Qban {B : Nat} {x : Qw} (h : Qkg x ≤ B) : Qjf B x := by
  unfold Qkg at h
  unfold Qjf
  exact ⟨(Qaht (by omega)), (by omega), (Qox (by omega) fun y h => (Qahu (h)))⟩
theorem Qbdf {w : World} {B : Nat} {cs : List Value} {x : Qw} (h : Qle.rd w B cs x) : Qjf 9223372036854775807 x := by
  obtain ⟨_, _, _, h0, ⟨_, _, _, _, ⟨_, _, _, ⟨_, _, h2⟩, ⟨_, _, _, _, ⟨_, _, _, _, ⟨_, _, _, _, ⟨_, _, h6⟩⟩⟩⟩⟩⟩⟩ := h
  unfold Qjf
  exact ⟨(Qaja h0), h2.1, (Qov h6 fun _ _ h => (Qajd h))⟩
theorem Qawt : Qgr Qop Qkg (fun x => Qjf 9223372036854775807 x) := ⟨fun x k hx h0 h1 => by
  unfold Qop Qkg
  unfold Qjf at hx
  refine Qhn (Qagp.go _ _ hx.1 h0 h1) (by omega) (by omega) fun a0 b0 c0 => ?_
  refine Qhn (Qnw.go _ _ hx.2.1 a0 b0) (by omega) (by omega) fun a1 b1 c1 => ?_
  refine Qhn (Qags.go _ _ hx.2.2 a1 b1) (by omega) (by omega) fun a2 b2 c2 => ?_
  right; omega⟩
theorem Qawr : Qgr Qks (wtS Qkg) (fun x => (x.length ≤ 9223372036854775807 ∧ ∀ y ∈ x, Qjf 9223372036854775807 y)) := Qra Qawt (fun _ _ => rfl)
def Qio (x : Qav) : Nat := Qma x.Query + wtS Qkh x.Rows
theorem Qbap {B : Nat} {x : Qav} (h : Qio x ≤ B) : Qjg B x := by
  unfold Qio at h
  unfold Qjg
  exact ⟨(Qaht (by omega)), (Qox (by omega) fun y h => (Qahu (h)))⟩
theorem Qbdm {w : World} {B : Nat} {cs : List Value} {x : Qav} (h : Qlg.rd w B cs x) : Qjg 9223372036854775807 x := by
  obtain ⟨_, _, _, h0, ⟨_, _, _, _, ⟨_, _, _, _, ⟨_, _, h3⟩⟩⟩⟩ := h
  unfold Qjg
  exact ⟨(Qaja h0), (Qov h3 fun _ _ h => (Qajd h))⟩
theorem Qaxe : Qgr Qor Qio (fun x => Qjg 9223372036854775807 x) := ⟨fun x k hx h0 h1 => by
  unfold Qor Qio
  unfold Qjg at hx
  refine Qhn (Qagp.go _ _ hx.1 h0 h1) (by omega) (by omega) fun a0 b0 c0 => ?_
  refine Qhn (Qags.go _ _ hx.2 a0 b0) (by omega) (by omega) fun a1 b1 c1 => ?_
  right; omega⟩
theorem Qaxc : Qgr Qnu (wtS Qio) (fun x => (x.length ≤ 9223372036854775807 ∧ ∀ y ∈ x, Qjg 9223372036854775807 y)) := Qra Qaxe (fun _ _ => rfl)
def Qjv (x : Qbc) : Nat := x.Ids.length + x.Tenants.length + x.Rows.length
theorem Qbao {B : Nat} {x : Qbc} (h : Qjv x ≤ B) : Qil B x := by
  unfold Qjv at h
  unfold Qil
  exact ⟨(by omega), (by omega), (by omega)⟩
theorem Qbdh {w : World} {B : Nat} {cs : List Value} {x : Qbc} (h : Qlf.rd w B cs x) : Qil 9223372036854775807 x := by
  obtain ⟨_, _, _, _, ⟨_, _, _, _, ⟨_, _, _, ⟨_, _, h2⟩, ⟨_, _, _, ⟨_, _, h3⟩, ⟨_, _, h4⟩⟩⟩⟩⟩ := h
  unfold Qil
  exact ⟨h2.1, h3.1, h4.1⟩
theorem Qawx : Qgr Qoq Qjv (fun x => Qil 9223372036854775807 x) := ⟨fun x k hx h0 h1 => by
  unfold Qoq Qjv
  unfold Qil at hx
  refine Qhn (Qnw.go _ _ hx.1 h0 h1) (by omega) (by omega) fun a0 b0 c0 => ?_
  refine Qhn (Qnw.go _ _ hx.2.1 a0 b0) (by omega) (by omega) fun a1 b1 c1 => ?_
  refine Qhn (Qnw.go _ _ hx.2.2 a1 b1) (by omega) (by omega) fun a2 b2 c2 => ?_
  right; omega⟩
theorem Qawv : Qgr Qsk (wtS Qjv) (fun x => (x.length ≤ 9223372036854775807 ∧ ∀ y ∈ x, Qil 9223372036854775807 y)) := Qra Qawx (fun _ _ => rfl)
def Qhh (x : Qo) : Nat := Qnb x.Store + x.Order.length + wtS Qkg x.Active + wtS Qio x.Done + wtS Qjv x.Ledger
theorem Qow {B : Nat} {x : Qo} (h : Qhh x ≤ B) : Qen B x := by
  unfold Qhh at h
  unfold Qen
  exact ⟨(Qbaq (by omega)), (by omega), (Qox (by omega) fun y h => (Qban (h))), (Qox (by omega) fun y h => (Qbap (h))), (Qox (by omega) fun y h => (Qbao (h)))⟩
theorem Qaiw {w : World} {B : Nat} {cs : List Value} {x : Qo} (h : Qpd.rd w B cs x) : Qen 9223372036854775807 x := by
  obtain ⟨_, _, _, h0, ⟨_, _, _, _, ⟨_, _, _, ⟨_, _, h2⟩, ⟨_, _, _, ⟨_, _, h3⟩, ⟨_, _, _, ⟨_, _, h4⟩, ⟨_, _, _, ⟨_, _, h5⟩, _⟩⟩⟩⟩⟩⟩ := h
  unfold Qen
  exact ⟨(Qbdo h0), h2.1, (Qov h3 fun _ _ h => (Qbdf h)), (Qov h4 fun _ _ h => (Qbdm h)), (Qov h5 fun _ _ h => (Qbdh h))⟩
theorem Qagm : Qgr Qqj Qhh (fun x => Qen 9223372036854775807 x) := ⟨fun x k hx h0 h1 => by
  unfold Qqj Qhh
  unfold Qen at hx
  refine Qhn (Qaxi.go _ _ hx.1 h0 h1) (by omega) (by omega) fun a0 b0 c0 => ?_
  refine Qhn (Qnw.go _ _ hx.2.1 a0 b0) (by omega) (by omega) fun a1 b1 c1 => ?_
  refine Qhn (Qawr.go _ _ hx.2.2.1 a1 b1) (by omega) (by omega) fun a2 b2 c2 => ?_
  refine Qhn (Qaxc.go _ _ hx.2.2.2.1 a2 b2) (by omega) (by omega) fun a3 b3 c3 => ?_
  refine Qhn (Qawv.go _ _ hx.2.2.2.2 a3 b3) (by omega) (by omega) fun a4 b4 c4 => ?_
  right; omega⟩
theorem Qql (x : (List Int)) : Qbx x = x := by
  unfold Qbx
  rw [Qoa (b := fun k s => Qaab x k s) (xs := x) (by simp) (fun j s _ => rfl)]
  rfl
theorem Qayo (x : Qt) : Qij x = x := by
  unfold Qij
  simp only [Qql]
theorem Qaym (x : (List Qt)) : Qkw x = x := by
  unfold Qkw
  rw [Qoa (b := fun k s => Qaae x k s) (xs := x) (by simp) (fun j s _ => by
    show Sum.inr (s.set j (Qij (gt x j))) = _
    rw [Qayo])]
  rfl
theorem Qayk (x : (List (List Qt))) : Qkv x = x := by
  unfold Qkv
  rw [Qoa (b := fun k s => Qaad x k s) (xs := x) (by simp) (fun j s _ => by
    show Sum.inr (s.set j (Qkw (gt x j))) = _
    rw [Qaym])]
  rfl
theorem Qayi (x : Qau) : Qfx x = x := by
  unfold Qfx
  simp only [Qayk]
theorem Qaya (x : Qcd) : Qjz x = x := rfl
theorem Qaxy (x : (List Qcd)) : Qku x = x := by
  unfold Qku
  rw [Qoa (b := fun k s => Qzz x k s) (xs := x) (by simp) (fun j s _ => by
    show Sum.inr (s.set j (Qjz (gt x j))) = _
    rw [Qaya])]
  rfl
theorem Qagw (x : Qat) : Qco x = x := by
  unfold Qco
  simp only [Qaxy, Qql]
theorem Qayg (x : Qab) : Qiz x = x := by
  unfold Qiz
  simp only [Qql]
theorem Qagy (x : (List Qab)) : Qgu x = x := by
  unfold Qgu
  rw [Qoa (b := fun k s => Qaac x k s) (xs := x) (by simp) (fun j s _ => by
    show Sum.inr (s.set j (Qiz (gt x j))) = _
    rw [Qayg])]
  rfl
theorem Qaxs (x : Qw) : Qfr x = x := by
  unfold Qfr
  simp only [Qagw, Qql, Qagy]
theorem Qaxq (x : (List Qw)) : Qiy x = x := by
  unfold Qiy
  rw [Qoa (b := fun k s => Qzx x k s) (xs := x) (by simp) (fun j s _ => by
    show Sum.inr (s.set j (Qfr (gt x j))) = _
    rw [Qaxs])]
  rfl
theorem Qaye (x : Qav) : Qgt x = x := by
  unfold Qgt
  simp only [Qagw, Qagy]
theorem Qayc (x : (List Qav)) : Qka x = x := by
  unfold Qka
  rw [Qoa (b := fun k s => Qaaa x k s) (xs := x) (by simp) (fun j s _ => by
    show Sum.inr (s.set j (Qgt (gt x j))) = _
    rw [Qaye])]
  rfl
theorem Qaxw (x : Qbc) : Qhm x = x := by
  unfold Qhm
  simp only [Qql]
theorem Qaxu (x : (List Qbc)) : Qkt x = x := by
  unfold Qkt
  rw [Qoa (b := fun k s => Qzy x k s) (xs := x) (by simp) (fun j s _ => by
    show Sum.inr (s.set j (Qhm (gt x j))) = _
    rw [Qaxw])]
  rfl
theorem Quw (x : Qo) : Qca x = x := by
  unfold Qca
  simp only [Qayi, Qql, Qaxq, Qayc, Qaxu]
theorem Qqi (x : (List Int)) : Qhd x x = true := by
  unfold Qhd
  rw [bne_self_eq_false, cond_false, Qmq (fun j _ => by simp only [Qzd, bne_self_eq_false, cond_false])]
  rfl
theorem Qavp (x : Qt) : Qsh x x = true := by
  simp only [Qsh, bne_self_eq_false, cond_false, cond_true, Qqi]
theorem Qavn (x : (List Qt)) : Qsg x x = true := by
  unfold Qsg
  rw [bne_self_eq_false, cond_false, Qmq (fun j _ => by simp only [Qzg, cond_true, Qavp])]
  rfl
theorem Qavl (x : (List (List Qt))) : Qsf x x = true := by
  unfold Qsf
  rw [bne_self_eq_false, cond_false, Qmq (fun j _ => by simp only [Qzf, cond_true, Qavn])]
  rfl
theorem Qavj (x : Qau) : Qse x x = true := by
  simp only [Qse, bne_self_eq_false, cond_false, cond_true, Qavl]
theorem Qavb (x : Qcd) : Qsa x x = true := by
  simp only [Qsa, bne_self_eq_false, cond_false]
theorem Qauz (x : (List Qcd)) : Qrz x x = true := by
  unfold Qrz
  rw [bne_self_eq_false, cond_false, Qmq (fun j _ => by simp only [Qzb, cond_true, Qavb])]
  rfl
theorem Qafy (x : Qat) : Qon x x = true := by
  simp only [Qon, bne_self_eq_false, cond_false, cond_true, Qauz, Qqi]
theorem Qavh (x : Qab) : Qsd x x = true := by
  simp only [Qsd, bne_self_eq_false, cond_false, cond_true, Qqi]
theorem Qaga (x : (List Qab)) : Qoo x x = true := by
  unfold Qoo
  rw [bne_self_eq_false, cond_false, Qmq (fun j _ => by simp only [Qze, cond_true, Qavh])]
  rfl
theorem Qaut (x : Qw) : Qrw x x = true := by
  simp only [Qrw, bne_self_eq_false, cond_false, cond_true, Qqi, Qafy, Qaga]
theorem Qaur (x : (List Qw)) : Qrv x x = true := by
  unfold Qrv
  rw [bne_self_eq_false, cond_false, Qmq (fun j _ => by simp only [Qyz, cond_true, Qaut])]
  rfl
theorem Qavf (x : Qav) : Qsc x x = true := by
  simp only [Qsc, bne_self_eq_false, cond_false, cond_true, Qafy, Qaga]
theorem Qavd (x : (List Qav)) : Qsb x x = true := by
  unfold Qsb
  rw [bne_self_eq_false, cond_false, Qmq (fun j _ => by simp only [Qzc, cond_true, Qavf])]
  rfl
theorem Qaux (x : Qbc) : Qry x x = true := by
  simp only [Qry, bne_self_eq_false, cond_false, cond_true, Qqi]
theorem Qauv (x : (List Qbc)) : Qrx x x = true := by
  unfold Qrx
  rw [bne_self_eq_false, cond_false, Qmq (fun j _ => by simp only [Qza, cond_true, Qaux])]
  rfl
theorem Qafw (x : Qo) : Qmm x x = true := by
  simp only [Qmm, bne_self_eq_false, cond_false, cond_true, Qaur, Qauv, Qavd, Qqi, Qavj]
theorem Qawg : Qlk (fun (_ : Int) (k : Int) => ((IntKind.i64.wrap (k + 1)), (k : Int))) (fun (x : Int) (k : Int) => (cond ((x) != k) (Sum.inl (-1)) (Sum.inr (IntKind.i64.wrap (k + 1))) : Int ⊕ Int)) (fun _ => 0) := ⟨fun x k h0 h1 => by
  have w1 : IntKind.i64.wrap (k + 1) = k + 1 := Qeu (by omega) (by omega)
  simp only [w1]
  exact ⟨by omega, by omega, by simp only [bne_self_eq_false, cond_false]⟩⟩
theorem Qmp : MkF Qv Qbb List.length := Qnc Qawg (b := fun _ k s => Qzt k s.1 s.2) (hb := fun x k s => Qzl x k s) (fun x => Qajr x) (fun _ _ => rfl) (fun _ _ => rfl) (fun _ _ _ => rfl) (fun _ _ _ => rfl)
theorem Qawo : Qlk (fun (x : Qt) (k : Int) => ((IntKind.i64.wrap ((IntKind.i64.wrap (((Qv ((x).Values) (IntKind.i64.wrap (k + 1))).1) + 1)) + 1)), ((⟨k, (Qv ((x).Values) (IntKind.i64.wrap (k + 1))).2, (Qv ((x).Values) (IntKind.i64.wrap (k + 1))).1, (IntKind.i64.wrap (((Qv ((x).Values) (IntKind.i64.wrap (k + 1))).1) + 1))⟩ : Qt) : Qt))) (fun (x : Qt) (k : Int) => (cond (((x).Id) != k) (Sum.inl (-1)) (cond (decide ((Qbb ((x).Values) (IntKind.i64.wrap (k + 1))) < 0)) (Sum.inl (-1)) (cond (((x).Born) != (Qbb ((x).Values) (IntKind.i64.wrap (k + 1)))) (Sum.inl (-1)) (cond (((x).Died) != (IntKind.i64.wrap ((Qbb ((x).Values) (IntKind.i64.wrap (k + 1))) + 1))) (Sum.inl (-1)) (Sum.inr (IntKind.i64.wrap ((IntKind.i64.wrap ((Qbb ((x).Values) (IntKind.i64.wrap (k + 1))) + 1)) + 1)))))) : Int ⊕ Int)) Qhw := ⟨fun x k h0 h1 => by
  unfold Qhw at h1 ⊢
  have w1 : IntKind.i64.wrap (k + 1) = k + 1 := Qeu (by omega) (by omega)
  obtain ⟨p2, q2, r2⟩ := Qmp.go x.Values (k + 1) (by omega) (by omega)
  have d2 : decide ((Qv x.Values (k + 1)).1 < 0) = false := decide_eq_false (by omega)
  have w3 : IntKind.i64.wrap ((Qv x.Values (k + 1)).1 + 1) = (Qv x.Values (k + 1)).1 + 1 := Qeu (by omega) (by omega)
  have w4 : IntKind.i64.wrap ((Qv x.Values (k + 1)).1 + 1 + 1) = (Qv x.Values (k + 1)).1 + 1 + 1 := Qeu (by omega) (by omega)
  simp only [w1, w3, w4]
  exact ⟨by omega, by omega, by simp only [bne_self_eq_false, r2, d2, cond_false, w1, w3, w4]⟩⟩
theorem Qawp : MkF Qjy Qns (wtS Qhw) := Qnc Qawo (b := fun _ k s => Qzw k s.1 s.2) (hb := fun x k s => Qzo x k s) (fun x => rfl) (fun _ _ => rfl) (fun _ _ => rfl) (fun _ _ _ => rfl) (fun _ _ _ => rfl)
theorem Qawl : Qlk (fun (x : (List Qt)) (k : Int) => ((Qjy (x) k).1, (((Qjy (x) k).2) : (List Qt)))) (fun (x : (List Qt)) (k : Int) => (cond (decide ((Qns (x) k) < 0)) (Sum.inl (-1)) (Sum.inr (Qns (x) k)) : Int ⊕ Int)) (wtS Qhw) := ⟨fun x k h0 h1 => by
  obtain ⟨p1, q1, r1⟩ := Qawp.go x k (by omega) (by omega)
  have d1 : decide ((Qjy x k).1 < 0) = false := decide_eq_false (by omega)
  exact ⟨by omega, by omega, by simp only [r1, d1, cond_false]⟩⟩
theorem Qawm : MkF Qkr Qsj (wtS (wtS Qhw)) := Qnc Qawl (b := fun _ k s => Qzv k s.1 s.2) (hb := fun x k s => Qzn x k s) (fun x => rfl) (fun _ _ => rfl) (fun _ _ => rfl) (fun _ _ _ => rfl) (fun _ _ _ => rfl)
theorem Qawj : MkF Qdq Qhe Qnb := ⟨fun x k h0 h1 => by
  unfold Qnb at h1 ⊢
  obtain ⟨p1, q1, r1⟩ := Qawm.go x.Segments k (by omega) (by omega)
  have d1 : decide ((Qkr x.Segments k).1 < 0) = false := decide_eq_false (by omega)
  unfold Qdq
  exact ⟨by dsimp only; omega, by dsimp only; omega, by simp only [Qhe, r1, d1, cond_false]⟩⟩
theorem Qawc : Qlk (fun (_ : Qcd) (k : Int) => ((IntKind.i64.wrap ((IntKind.i64.wrap ((IntKind.i64.wrap (k + 1)) + 1)) + 1)), ((⟨k, (IntKind.i64.wrap (k + 1)), (IntKind.i64.wrap ((IntKind.i64.wrap (k + 1)) + 1))⟩ : Qcd) : Qcd))) (fun (x : Qcd) (k : Int) => (cond (((x).Field) != k) (Sum.inl (-1)) (cond (((x).Low) != (IntKind.i64.wrap (k + 1))) (Sum.inl (-1)) (cond (((x).High) != (IntKind.i64.wrap ((IntKind.i64.wrap (k + 1)) + 1))) (Sum.inl (-1)) (Sum.inr (IntKind.i64.wrap ((IntKind.i64.wrap ((IntKind.i64.wrap (k + 1)) + 1)) + 1))))) : Int ⊕ Int)) (fun _ => 0) := ⟨fun x k h0 h1 => by
  have w1 : IntKind.i64.wrap (k + 1) = k + 1 := Qeu (by omega) (by omega)
  have w2 : IntKind.i64.wrap (k + 1 + 1) = k + 1 + 1 := Qeu (by omega) (by omega)
  have w3 : IntKind.i64.wrap (k + 1 + 1 + 1) = k + 1 + 1 + 1 := Qeu (by omega) (by omega)
  simp only [w1, w2, w3]
  exact ⟨by omega, by omega, by simp only [bne_self_eq_false, cond_false]⟩⟩
theorem Qagf : MkF Qbi Qdb List.length := Qnc Qawc (b := fun _ k s => Qzr k s.1 s.2) (hb := fun x k s => Qzj x k s) (fun x => Qajr x) (fun _ _ => rfl) (fun _ _ => rfl) (fun _ _ _ => rfl) (fun _ _ _ => rfl)
theorem Qawh : Qlk (fun (x : Qab) (k : Int) => ((Qv ((x).Values) (IntKind.i64.wrap (k + 1))).1, ((⟨k, (Qv ((x).Values) (IntKind.i64.wrap (k + 1))).2⟩ : Qab) : Qab))) (fun (x : Qab) (k : Int) => (cond (((x).Id) != k) (Sum.inl (-1)) (cond (decide ((Qbb ((x).Values) (IntKind.i64.wrap (k + 1))) < 0)) (Sum.inl (-1)) (Sum.inr (Qbb ((x).Values) (IntKind.i64.wrap (k + 1))))) : Int ⊕ Int)) Qkh := ⟨fun x k h0 h1 => by
  unfold Qkh at h1 ⊢
  have w1 : IntKind.i64.wrap (k + 1) = k + 1 := Qeu (by omega) (by omega)
  obtain ⟨p2, q2, r2⟩ := Qmp.go x.Values (k + 1) (by omega) (by omega)
  have d2 : decide ((Qv x.Values (k + 1)).1 < 0) = false := decide_eq_false (by omega)
  simp only [w1]
  exact ⟨by omega, by omega, by simp only [bne_self_eq_false, r2, d2, cond_false, w1]⟩⟩
theorem Qagj : MkF Qgg Qir (wtS Qkh) := Qnc Qawh (b := fun _ k s => Qzu k s.1 s.2) (hb := fun x k s => Qzm x k s) (fun x => rfl) (fun _ _ => rfl) (fun _ _ => rfl) (fun _ _ _ => rfl) (fun _ _ _ => rfl)
theorem Qavx : Qlk (fun (x : Qw) (k : Int) => ((Qgg ((x).Rows) (IntKind.i64.wrap ((IntKind.i64.wrap ((IntKind.i64.wrap (((Qv ((x).Todo) (IntKind.i64.wrap (((Qv ((x).Query.Out) ((Qbi ((x).Query.Conds) (IntKind.i64.wrap ((IntKind.i64.wrap (k + 1)) + 1))).1)).1) + 1))).1) + 1)) + 1)) + 1))).1, ((⟨(⟨k, (IntKind.i64.wrap (k + 1)), (Qbi ((x).Query.Conds) (IntKind.i64.wrap ((IntKind.i64.wrap (k + 1)) + 1))).2, (Qv ((x).Query.Out) ((Qbi ((x).Query.Conds) (IntKind.i64.wrap ((IntKind.i64.wrap (k + 1)) + 1))).1)).2⟩ : Qat), (Qv ((x).Query.Out) ((Qbi ((x).Query.Conds) (IntKind.i64.wrap ((IntKind.i64.wrap (k + 1)) + 1))).1)).1, (Qv ((x).Todo) (IntKind.i64.wrap (((Qv ((x).Query.Out) ((Qbi ((x).Query.Conds) (IntKind.i64.wrap ((IntKind.i64.wrap (k + 1)) + 1))).1)).1) + 1))).2, (Qv ((x).Todo) (IntKind.i64.wrap (((Qv ((x).Query.Out) ((Qbi ((x).Query.Conds) (IntKind.i64.wrap ((IntKind.i64.wrap (k + 1)) + 1))).1)).1) + 1))).1, (IntKind.i64.wrap (((Qv ((x).Todo) (IntKind.i64.wrap (((Qv ((x).Query.Out) ((Qbi ((x).Query.Conds) (IntKind.i64.wrap ((IntKind.i64.wrap (k + 1)) + 1))).1)).1) + 1))).1) + 1)), (IntKind.i64.wrap ((IntKind.i64.wrap (((Qv ((x).Todo) (IntKind.i64.wrap (((Qv ((x).Query.Out) ((Qbi ((x).Query.Conds) (IntKind.i64.wrap ((IntKind.i64.wrap (k + 1)) + 1))).1)).1) + 1))).1) + 1)) + 1)), (Qgg ((x).Rows) (IntKind.i64.wrap ((IntKind.i64.wrap ((IntKind.i64.wrap (((Qv ((x).Todo) (IntKind.i64.wrap (((Qv ((x).Query.Out) ((Qbi ((x).Query.Conds) (IntKind.i64.wrap ((IntKind.i64.wrap (k + 1)) + 1))).1)).1) + 1))).1) + 1)) + 1)) + 1))).2⟩ : Qw) : Qw))) (fun (x : Qw) (k : Int) => (cond (((x).Query.Id) != k) (Sum.inl (-1)) (cond (((x).Query.Tenant) != (IntKind.i64.wrap (k + 1))) (Sum.inl (-1)) (cond (decide ((Qdb ((x).Query.Conds) (IntKind.i64.wrap ((IntKind.i64.wrap (k + 1)) + 1))) < 0)) (Sum.inl (-1)) (cond (decide ((Qbb ((x).Query.Out) (Qdb ((x).Query.Conds) (IntKind.i64.wrap ((IntKind.i64.wrap (k + 1)) + 1)))) < 0)) (Sum.inl (-1)) (cond (((x).Time) != (Qbb ((x).Query.Out) (Qdb ((x).Query.Conds) (IntKind.i64.wrap ((IntKind.i64.wrap (k + 1)) + 1))))) (Sum.inl (-1)) (cond (decide ((Qbb ((x).Todo) (IntKind.i64.wrap ((Qbb ((x).Query.Out) (Qdb ((x).Query.Conds) (IntKind.i64.wrap ((IntKind.i64.wrap (k + 1)) + 1)))) + 1))) < 0)) (Sum.inl (-1)) (cond (((x).Age) != (Qbb ((x).Todo) (IntKind.i64.wrap ((Qbb ((x).Query.Out) (Qdb ((x).Query.Conds) (IntKind.i64.wrap ((IntKind.i64.wrap (k + 1)) + 1)))) + 1)))) (Sum.inl (-1)) (cond (((x).Sent) != (IntKind.i64.wrap ((Qbb ((x).Todo) (IntKind.i64.wrap ((Qbb ((x).Query.Out) (Qdb ((x).Query.Conds) (IntKind.i64.wrap ((IntKind.i64.wrap (k + 1)) + 1)))) + 1))) + 1))) (Sum.inl (-1)) (cond (((x).Cap) != (IntKind.i64.wrap ((IntKind.i64.wrap ((Qbb ((x).Todo) (IntKind.i64.wrap ((Qbb ((x).Query.Out) (Qdb ((x).Query.Conds) (IntKind.i64.wrap ((IntKind.i64.wrap (k + 1)) + 1)))) + 1))) + 1)) + 1))) (Sum.inl (-1)) (cond (decide ((Qir ((x).Rows) (IntKind.i64.wrap ((IntKind.i64.wrap ((IntKind.i64.wrap ((Qbb ((x).Todo) (IntKind.i64.wrap ((Qbb ((x).Query.Out) (Qdb ((x).Query.Conds) (IntKind.i64.wrap ((IntKind.i64.wrap (k + 1)) + 1)))) + 1))) + 1)) + 1)) + 1))) < 0)) (Sum.inl (-1)) (Sum.inr (Qir ((x).Rows) (IntKind.i64.wrap ((IntKind.i64.wrap ((IntKind.i64.wrap ((Qbb ((x).Todo) (IntKind.i64.wrap ((Qbb ((x).Query.Out) (Qdb ((x).Query.Conds) (IntKind.i64.wrap ((IntKind.i64.wrap (k + 1)) + 1)))) + 1))) + 1)) + 1)) + 1))))))))))))) : Int ⊕ Int)) Qkg := ⟨fun x k h0 h1 => by
  unfold Qkg Qma at h1 ⊢
  have w1 : IntKind.i64.wrap (k + 1) = k + 1 := Qeu (by omega) (by omega)
  have w2 : IntKind.i64.wrap (k + 1 + 1) = k + 1 + 1 := Qeu (by omega) (by omega)
  obtain ⟨p3, q3, r3⟩ := Qagf.go x.Query.Conds (k + 1 + 1) (by omega) (by omega)
  have d3 : decide ((Qbi x.Query.Conds (k + 1 + 1)).1 < 0) = false := decide_eq_false (by omega)
  obtain ⟨p4, q4, r4⟩ := Qmp.go x.Query.Out ((Qbi x.Query.Conds (k + 1 + 1)).1) (by omega) (by omega)
  have d4 : decide ((Qv x.Query.Out ((Qbi x.Query.Conds (k + 1 + 1)).1)).1 < 0) = false := decide_eq_false (by omega)
  have w5 : IntKind.i64.wrap ((Qv x.Query.Out ((Qbi x.Query.Conds (k + 1 + 1)).1)).1 + 1) = (Qv x.Query.Out ((Qbi x.Query.Conds (k + 1 + 1)).1)).1 + 1 := Qeu (by omega) (by omega)
  obtain ⟨p6, q6, r6⟩ := Qmp.go x.Todo ((Qv x.Query.Out ((Qbi x.Query.Conds (k + 1 + 1)).1)).1 + 1) (by omega) (by omega)
  have d6 : decide ((Qv x.Todo ((Qv x.Query.Out ((Qbi x.Query.Conds (k + 1 + 1)).1)).1 + 1)).1 < 0) = false := decide_eq_false (by omega)
  have w7 : IntKind.i64.wrap ((Qv x.Todo ((Qv x.Query.Out ((Qbi x.Query.Conds (k + 1 + 1)).1)).1 + 1)).1 + 1) = (Qv x.Todo ((Qv x.Query.Out ((Qbi x.Query.Conds (k + 1 + 1)).1)).1 + 1)).1 + 1 := Qeu (by omega) (by omega)
  have w8 : IntKind.i64.wrap ((Qv x.Todo ((Qv x.Query.Out ((Qbi x.Query.Conds (k + 1 + 1)).1)).1 + 1)).1 + 1 + 1) = (Qv x.Todo ((Qv x.Query.Out ((Qbi x.Query.Conds (k + 1 + 1)).1)).1 + 1)).1 + 1 + 1 := Qeu (by omega) (by omega)
  have w9 : IntKind.i64.wrap ((Qv x.Todo ((Qv x.Query.Out ((Qbi x.Query.Conds (k + 1 + 1)).1)).1 + 1)).1 + 1 + 1 + 1) = (Qv x.Todo ((Qv x.Query.Out ((Qbi x.Query.Conds (k + 1 + 1)).1)).1 + 1)).1 + 1 + 1 + 1 := Qeu (by omega) (by omega)
  obtain ⟨p10, q10, r10⟩ := Qagj.go x.Rows ((Qv x.Todo ((Qv x.Query.Out ((Qbi x.Query.Conds (k + 1 + 1)).1)).1 + 1)).1 + 1 + 1 + 1) (by omega) (by omega)
  have d10 : decide ((Qgg x.Rows ((Qv x.Todo ((Qv x.Query.Out ((Qbi x.Query.Conds (k + 1 + 1)).1)).1 + 1)).1 + 1 + 1 + 1)).1 < 0) = false := decide_eq_false (by omega)
  simp only [w1, w2, w5, w7, w8, w9]
  exact ⟨by omega, by omega, by simp only [bne_self_eq_false, r3, d3, r4, d4, r6, d6, r10, d10, cond_false, w1, w2, w5, w7, w8, w9]⟩⟩
theorem Qavy : MkF Qfp Qkp (wtS Qkg) := Qnc Qavx (b := fun _ k s => Qzp k s.1 s.2) (hb := fun x k s => Qzh x k s) (fun x => rfl) (fun _ _ => rfl) (fun _ _ => rfl) (fun _ _ _ => rfl) (fun _ _ _ => rfl)
theorem Qawe : Qlk (fun (x : Qav) (k : Int) => ((Qgg ((x).Rows) (IntKind.i64.wrap ((IntKind.i64.wrap (((Qv ((x).Query.Out) ((Qbi ((x).Query.Conds) (IntKind.i64.wrap ((IntKind.i64.wrap (k + 1)) + 1))).1)).1) + 1)) + 1))).1, ((⟨(⟨k, (IntKind.i64.wrap (k + 1)), (Qbi ((x).Query.Conds) (IntKind.i64.wrap ((IntKind.i64.wrap (k + 1)) + 1))).2, (Qv ((x).Query.Out) ((Qbi ((x).Query.Conds) (IntKind.i64.wrap ((IntKind.i64.wrap (k + 1)) + 1))).1)).2⟩ : Qat), (Qv ((x).Query.Out) ((Qbi ((x).Query.Conds) (IntKind.i64.wrap ((IntKind.i64.wrap (k + 1)) + 1))).1)).1, (IntKind.i64.wrap (((Qv ((x).Query.Out) ((Qbi ((x).Query.Conds) (IntKind.i64.wrap ((IntKind.i64.wrap (k + 1)) + 1))).1)).1) + 1)), (Qgg ((x).Rows) (IntKind.i64.wrap ((IntKind.i64.wrap (((Qv ((x).Query.Out) ((Qbi ((x).Query.Conds) (IntKind.i64.wrap ((IntKind.i64.wrap (k + 1)) + 1))).1)).1) + 1)) + 1))).2⟩ : Qav) : Qav))) (fun (x : Qav) (k : Int) => (cond (((x).Query.Id) != k) (Sum.inl (-1)) (cond (((x).Query.Tenant) != (IntKind.i64.wrap (k + 1))) (Sum.inl (-1)) (cond (decide ((Qdb ((x).Query.Conds) (IntKind.i64.wrap ((IntKind.i64.wrap (k + 1)) + 1))) < 0)) (Sum.inl (-1)) (cond (decide ((Qbb ((x).Query.Out) (Qdb ((x).Query.Conds) (IntKind.i64.wrap ((IntKind.i64.wrap (k + 1)) + 1)))) < 0)) (Sum.inl (-1)) (cond (((x).Time) != (Qbb ((x).Query.Out) (Qdb ((x).Query.Conds) (IntKind.i64.wrap ((IntKind.i64.wrap (k + 1)) + 1))))) (Sum.inl (-1)) (cond (((x).Steps) != (IntKind.i64.wrap ((Qbb ((x).Query.Out) (Qdb ((x).Query.Conds) (IntKind.i64.wrap ((IntKind.i64.wrap (k + 1)) + 1)))) + 1))) (Sum.inl (-1)) (cond (decide ((Qir ((x).Rows) (IntKind.i64.wrap ((IntKind.i64.wrap ((Qbb ((x).Query.Out) (Qdb ((x).Query.Conds) (IntKind.i64.wrap ((IntKind.i64.wrap (k + 1)) + 1)))) + 1)) + 1))) < 0)) (Sum.inl (-1)) (Sum.inr (Qir ((x).Rows) (IntKind.i64.wrap ((IntKind.i64.wrap ((Qbb ((x).Query.Out) (Qdb ((x).Query.Conds) (IntKind.i64.wrap ((IntKind.i64.wrap (k + 1)) + 1)))) + 1)) + 1)))))))))) : Int ⊕ Int)) Qio := ⟨fun x k h0 h1 => by
  unfold Qio Qma at h1 ⊢
  have w1 : IntKind.i64.wrap (k + 1) = k + 1 := Qeu (by omega) (by omega)
  have w2 : IntKind.i64.wrap (k + 1 + 1) = k + 1 + 1 := Qeu (by omega) (by omega)
  obtain ⟨p3, q3, r3⟩ := Qagf.go x.Query.Conds (k + 1 + 1) (by omega) (by omega)
  have d3 : decide ((Qbi x.Query.Conds (k + 1 + 1)).1 < 0) = false := decide_eq_false (by omega)
  obtain ⟨p4, q4, r4⟩ := Qmp.go x.Query.Out ((Qbi x.Query.Conds (k + 1 + 1)).1) (by omega) (by omega)
  have d4 : decide ((Qv x.Query.Out ((Qbi x.Query.Conds (k + 1 + 1)).1)).1 < 0) = false := decide_eq_false (by omega)
  have w5 : IntKind.i64.wrap ((Qv x.Query.Out ((Qbi x.Query.Conds (k + 1 + 1)).1)).1 + 1) = (Qv x.Query.Out ((Qbi x.Query.Conds (k + 1 + 1)).1)).1 + 1 := Qeu (by omega) (by omega)
  have w6 : IntKind.i64.wrap ((Qv x.Query.Out ((Qbi x.Query.Conds (k + 1 + 1)).1)).1 + 1 + 1) = (Qv x.Query.Out ((Qbi x.Query.Conds (k + 1 + 1)).1)).1 + 1 + 1 := Qeu (by omega) (by omega)
  obtain ⟨p7, q7, r7⟩ := Qagj.go x.Rows ((Qv x.Query.Out ((Qbi x.Query.Conds (k + 1 + 1)).1)).1 + 1 + 1) (by omega) (by omega)
  have d7 : decide ((Qgg x.Rows ((Qv x.Query.Out ((Qbi x.Query.Conds (k + 1 + 1)).1)).1 + 1 + 1)).1 < 0) = false := decide_eq_false (by omega)
  simp only [w1, w2, w5, w6]
  exact ⟨by omega, by omega, by simp only [bne_self_eq_false, r3, d3, r4, d4, r7, d7, cond_false, w1, w2, w5, w6]⟩⟩
theorem Qawf : MkF Qhj Qnr (wtS Qio) := Qnc Qawe (b := fun _ k s => Qzs k s.1 s.2) (hb := fun x k s => Qzk x k s) (fun x => rfl) (fun _ _ => rfl) (fun _ _ => rfl) (fun _ _ _ => rfl) (fun _ _ _ => rfl)
theorem Qawa : Qlk (fun (x : Qbc) (k : Int) => ((Qv ((x).Rows) ((Qv ((x).Tenants) ((Qv ((x).Ids) (IntKind.i64.wrap ((IntKind.i64.wrap (k + 1)) + 1))).1)).1)).1, ((⟨k, (IntKind.i64.wrap (k + 1)), (Qv ((x).Ids) (IntKind.i64.wrap ((IntKind.i64.wrap (k + 1)) + 1))).2, (Qv ((x).Tenants) ((Qv ((x).Ids) (IntKind.i64.wrap ((IntKind.i64.wrap (k + 1)) + 1))).1)).2, (Qv ((x).Rows) ((Qv ((x).Tenants) ((Qv ((x).Ids) (IntKind.i64.wrap ((IntKind.i64.wrap (k + 1)) + 1))).1)).1)).2⟩ : Qbc) : Qbc))) (fun (x : Qbc) (k : Int) => (cond (((x).Segment) != k) (Sum.inl (-1)) (cond (((x).Base) != (IntKind.i64.wrap (k + 1))) (Sum.inl (-1)) (cond (decide ((Qbb ((x).Ids) (IntKind.i64.wrap ((IntKind.i64.wrap (k + 1)) + 1))) < 0)) (Sum.inl (-1)) (cond (decide ((Qbb ((x).Tenants) (Qbb ((x).Ids) (IntKind.i64.wrap ((IntKind.i64.wrap (k + 1)) + 1)))) < 0)) (Sum.inl (-1)) (cond (decide ((Qbb ((x).Rows) (Qbb ((x).Tenants) (Qbb ((x).Ids) (IntKind.i64.wrap ((IntKind.i64.wrap (k + 1)) + 1))))) < 0)) (Sum.inl (-1)) (Sum.inr (Qbb ((x).Rows) (Qbb ((x).Tenants) (Qbb ((x).Ids) (IntKind.i64.wrap ((IntKind.i64.wrap (k + 1)) + 1)))))))))) : Int ⊕ Int)) Qjv := ⟨fun x k h0 h1 => by
  unfold Qjv at h1 ⊢
  have w1 : IntKind.i64.wrap (k + 1) = k + 1 := Qeu (by omega) (by omega)
  have w2 : IntKind.i64.wrap (k + 1 + 1) = k + 1 + 1 := Qeu (by omega) (by omega)
  obtain ⟨p3, q3, r3⟩ := Qmp.go x.Ids (k + 1 + 1) (by omega) (by omega)
  have d3 : decide ((Qv x.Ids (k + 1 + 1)).1 < 0) = false := decide_eq_false (by omega)
  obtain ⟨p4, q4, r4⟩ := Qmp.go x.Tenants ((Qv x.Ids (k + 1 + 1)).1) (by omega) (by omega)
  have d4 : decide ((Qv x.Tenants ((Qv x.Ids (k + 1 + 1)).1)).1 < 0) = false := decide_eq_false (by omega)
  obtain ⟨p5, q5, r5⟩ := Qmp.go x.Rows ((Qv x.Tenants ((Qv x.Ids (k + 1 + 1)).1)).1) (by omega) (by omega)
  have d5 : decide ((Qv x.Rows ((Qv x.Tenants ((Qv x.Ids (k + 1 + 1)).1)).1)).1 < 0) = false := decide_eq_false (by omega)
  simp only [w1, w2]
  exact ⟨by omega, by omega, by simp only [bne_self_eq_false, r3, d3, r4, d4, r5, d5, cond_false, w1, w2]⟩⟩
theorem Qawb : MkF Qkq Qsi (wtS Qjv) := Qnc Qawa (b := fun _ k s => Qzq k s.1 s.2) (hb := fun x k s => Qzi x k s) (fun x => rfl) (fun _ _ => rfl) (fun _ _ => rfl) (fun _ _ _ => rfl) (fun _ _ _ => rfl)
theorem Qagh : MkF Qcn Qnq Qhh := ⟨fun x k h0 h1 => by
  unfold Qhh at h1 ⊢
  obtain ⟨p1, q1, r1⟩ := Qawj.go x.Store k (by omega) (by omega)
  have d1 : decide ((Qdq x.Store k).1 < 0) = false := decide_eq_false (by omega)
  have r1 : Qhe (⟨(Qdq x.Store k).2.Segments, x.Store.Now⟩ : Qau) k = (Qdq x.Store k).1 := r1
  obtain ⟨p2, q2, r2⟩ := Qmp.go x.Order ((Qdq x.Store k).1) (by omega) (by omega)
  have d2 : decide ((Qv x.Order ((Qdq x.Store k).1)).1 < 0) = false := decide_eq_false (by omega)
  obtain ⟨p3, q3, r3⟩ := Qavy.go x.Active ((Qv x.Order ((Qdq x.Store k).1)).1) (by omega) (by omega)
  have d3 : decide ((Qfp x.Active ((Qv x.Order ((Qdq x.Store k).1)).1)).1 < 0) = false := decide_eq_false (by omega)
  obtain ⟨p4, q4, r4⟩ := Qawf.go x.Done ((Qfp x.Active ((Qv x.Order ((Qdq x.Store k).1)).1)).1) (by omega) (by omega)
  have d4 : decide ((Qhj x.Done ((Qfp x.Active ((Qv x.Order ((Qdq x.Store k).1)).1)).1)).1 < 0) = false := decide_eq_false (by omega)
  obtain ⟨p5, q5, r5⟩ := Qawb.go x.Ledger ((Qhj x.Done ((Qfp x.Active ((Qv x.Order ((Qdq x.Store k).1)).1)).1)).1) (by omega) (by omega)
  have d5 : decide ((Qkq x.Ledger ((Qhj x.Done ((Qfp x.Active ((Qv x.Order ((Qdq x.Store k).1)).1)).1)).1)).1 < 0) = false := decide_eq_false (by omega)
  unfold Qcn
  exact ⟨by dsimp only; omega, by dsimp only; omega, by simp only [Qnq, r1, d1, r2, d2, r3, d3, r4, d4, r5, d5, cond_false]⟩⟩
end Go.Proofs.YtdlminfjdodjoaaGreat

