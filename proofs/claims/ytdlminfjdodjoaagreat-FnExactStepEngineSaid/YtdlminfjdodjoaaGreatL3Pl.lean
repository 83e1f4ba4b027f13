/-
  Plain laws of the functions that the law runs over its arguments.
-/
import Derived.Test.YtdlminfjdodjoaaGreatL3F6
import Derived.Test.YtdlminfjdodjoaaGreatVcP
namespace Go.Proofs.YtdlminfjdodjoaaGreat
open Go.RowKit
theorem Qnv : Qgm Qdk List.length (fun x => x.length ≤ 9223372036854775807) := Qahx (fun _ _ => rfl)
def Qhr (x : Qt) : Nat := x.Values.length
theorem Qayq {B : Nat} {x : Qt} (h : Qhr x ≤ B) : Qif B x := by
  unfold Qhr at h
  unfold Qif
  exact (by omega)
theorem Qbcy {w : World} {B : Nat} {cs : List Value} {x : Qt} (h : Qii.rd w B cs x) : Qif 9223372036854775807 x := by
  obtain ⟨_, _, _, _, ⟨_, _, _, ⟨_, _, h1⟩, ⟨_, _, _, _, _⟩⟩⟩ := h
  unfold Qif
  exact h1.1
theorem Qavn : Qgm Qoq Qhr (fun x => Qif 9223372036854775807 x) := ⟨fun x k hx h0 h1 => by
  unfold Qoq Qhr
  unfold Qif at hx
  refine Qhk (Qnv.go _ _ hx h0 h1) (by omega) (by omega) fun a0 b0 c0 => ?_
  right; omega⟩
theorem Qavl : Qgm Qqf (wtS Qhr) (fun x => (x.length ≤ 9223372036854775807 ∧ ∀ y ∈ x, Qif 9223372036854775807 y)) := Qqu Qavn (fun _ _ => rfl)
theorem Qavj : Qgm Qsg (wtS (wtS Qhr)) (fun x => (x.length ≤ 9223372036854775807 ∧ ∀ y ∈ x, (y.length ≤ 9223372036854775807 ∧ ∀ y1 ∈ y, Qif 9223372036854775807 y1))) := Qqu Qavl (fun _ _ => rfl)
def Qmx (x : Qas) : Nat := wtS (wtS Qhr) x.Segments
theorem Qayp {B : Nat} {x : Qas} (h : Qmx x ≤ B) : Qgs B x := by
  unfold Qmx at h
  unfold Qgs
  exact (Qou (w := wtS Qhr) (by omega) fun y h => (Qou (h) fun y h => (Qayq (h))))
theorem Qbcw {w : World} {B : Nat} {cs : List Value} {x : Qas} (h : Qpb.rd w B cs x) : Qgs 9223372036854775807 x := by
  obtain ⟨_, _, _, ⟨_, _, h0⟩, _⟩ := h
  unfold Qgs
  exact (Qos h0 fun _ _ h => (by obtain ⟨_, _, h⟩ := h; exact (Qos h fun _ _ h => (Qbcy h))))
theorem Qavh : Qgm Qhh Qmx (fun x => Qgs 9223372036854775807 x) := ⟨fun x k hx h0 h1 => by
  unfold Qhh Qmx
  unfold Qgs at hx
  refine Qhk (Qavj.go _ _ hx h0 h1) (by omega) (by omega) fun a0 b0 c0 => ?_
  right; omega⟩
theorem Qauy : Qgm Qns List.length (fun x => x.length ≤ 9223372036854775807) := Qahx (fun _ _ => rfl)
def Qlv (x : Qar) : Nat := x.Conds.length + x.Out.length
theorem Qahf {B : Nat} {x : Qar} (h : Qlv x ≤ B) : Qft B x := by
  unfold Qlv at h
  unfold Qft
  exact ⟨(by omega), (by omega)⟩
theorem Qaij {w : World} {B : Nat} {cs : List Value} {x : Qar} (h : Qoe.rd w B cs x) : Qft 9223372036854775807 x := by
  obtain ⟨_, _, _, _, ⟨_, _, _, _, ⟨_, _, _, ⟨_, _, h2⟩, ⟨_, _, h3⟩⟩⟩⟩ := h
  unfold Qft
  exact ⟨h2.1, h3.1⟩
theorem Qagc : Qgm Qhg Qlv (fun x => Qft 9223372036854775807 x) := ⟨fun x k hx h0 h1 => by
  unfold Qhg Qlv
  unfold Qft at hx
  refine Qhk (Qauy.go _ _ hx.1 h0 h1) (by omega) (by omega) fun a0 b0 c0 => ?_
  refine Qhk (Qnv.go _ _ hx.2 a0 b0) (by omega) (by omega) fun a1 b1 c1 => ?_
  right; omega⟩
def Qkf (x : Qaa) : Nat := x.Values.length
theorem Qahg {B : Nat} {x : Qaa} (h : Qkf x ≤ B) : Qgr B x := by
  unfold Qkf at h
  unfold Qgr
  exact (by omega)
theorem Qaim {w : World} {B : Nat} {cs : List Value} {x : Qaa} (h : Qir.rd w B cs x) : Qgr 9223372036854775807 x := by
  obtain ⟨_, _, _, _, ⟨_, _, h1⟩⟩ := h
  unfold Qgr
  exact h1.1
theorem Qavf : Qgm Qop Qkf (fun x => Qgr 9223372036854775807 x) := ⟨fun x k hx h0 h1 => by
  unfold Qop Qkf
  unfold Qgr at hx
  refine Qhk (Qnv.go _ _ hx h0 h1) (by omega) (by omega) fun a0 b0 c0 => ?_
  right; omega⟩
theorem Qagf : Qgm Qnw (wtS Qkf) (fun x => (x.length ≤ 9223372036854775807 ∧ ∀ y ∈ x, Qgr 9223372036854775807 y)) := Qqu Qavf (fun _ _ => rfl)
def Qke (x : Qw) : Nat := Qlv x.Query + x.Todo.length + wtS Qkf x.Rows
theorem Qaym {B : Nat} {x : Qw} (h : Qke x ≤ B) : Qjy B x := by
  unfold Qke at h
  unfold Qjy
  exact ⟨(Qahf (by omega)), (by omega), (Qou (by omega) fun y h => (Qahg (h)))⟩
theorem Qbcn {w : World} {B : Nat} {cs : List Value} {x : Qw} (h : Qlc.rd w B cs x) : Qjy 9223372036854775807 x := by
  obtain ⟨_, _, _, h0, ⟨_, _, _, _, ⟨_, _, _, ⟨_, _, h2⟩, ⟨_, _, _, _, ⟨_, _, _, _, ⟨_, _, _, _, ⟨_, _, h6⟩⟩⟩⟩⟩⟩⟩ := h
  unfold Qjy
  exact ⟨(Qaij h0), h2.1, (Qos h6 fun _ _ h => (Qaim h))⟩
theorem Qaus : Qgm Qom Qke (fun x => Qjy 9223372036854775807 x) := ⟨fun x k hx h0 h1 => by
  unfold Qom Qke
  unfold Qjy at hx
  refine Qhk (Qagc.go _ _ hx.1 h0 h1) (by omega) (by omega) fun a0 b0 c0 => ?_
  refine Qhk (Qnv.go _ _ hx.2.1 a0 b0) (by omega) (by omega) fun a1 b1 c1 => ?_
  refine Qhk (Qagf.go _ _ hx.2.2 a1 b1) (by omega) (by omega) fun a2 b2 c2 => ?_
  right; omega⟩
theorem Qauq : Qgm Qkr (wtS Qke) (fun x => (x.length ≤ 9223372036854775807 ∧ ∀ y ∈ x, Qjy 9223372036854775807 y)) := Qqu Qaus (fun _ _ => rfl)
def Qik (x : Qat) : Nat := Qlv x.Query + wtS Qkf x.Rows
theorem Qayo {B : Nat} {x : Qat} (h : Qik x ≤ B) : Qjz B x := by
  unfold Qik at h
  unfold Qjz
  exact ⟨(Qahf (by omega)), (Qou (by omega) fun y h => (Qahg (h)))⟩
theorem Qbcu {w : World} {B : Nat} {cs : List Value} {x : Qat} (h : Qle.rd w B cs x) : Qjz 9223372036854775807 x := by
  obtain ⟨_, _, _, h0, ⟨_, _, _, _, ⟨_, _, _, _, ⟨_, _, h3⟩⟩⟩⟩ := h
  unfold Qjz
  exact ⟨(Qaij h0), (Qos h3 fun _ _ h => (Qaim h))⟩
theorem Qavd : Qgm Qoo Qik (fun x => Qjz 9223372036854775807 x) := ⟨fun x k hx h0 h1 => by
  unfold Qoo Qik
  unfold Qjz at hx
  refine Qhk (Qagc.go _ _ hx.1 h0 h1) (by omega) (by omega) fun a0 b0 c0 => ?_
  refine Qhk (Qagf.go _ _ hx.2 a0 b0) (by omega) (by omega) fun a1 b1 c1 => ?_
  right; omega⟩
theorem Qavb : Qgm Qnt (wtS Qik) (fun x => (x.length ≤ 9223372036854775807 ∧ ∀ y ∈ x, Qjz 9223372036854775807 y)) := Qqu Qavd (fun _ _ => rfl)
def Qjo (x : Qbb) : Nat := x.Ids.length + x.Tenants.length + x.Rows.length
theorem Qayn {B : Nat} {x : Qbb} (h : Qjo x ≤ B) : Qip B x := by
  unfold Qjo at h
  unfold Qip
  exact ⟨(by omega), (by omega), (by omega)⟩
theorem Qbcp {w : World} {B : Nat} {cs : List Value} {x : Qbb} (h : Qld.rd w B cs x) : Qip 9223372036854775807 x := by
  obtain ⟨_, _, _, _, ⟨_, _, _, _, ⟨_, _, _, ⟨_, _, h2⟩, ⟨_, _, _, ⟨_, _, h3⟩, ⟨_, _, h4⟩⟩⟩⟩⟩ := h
  unfold Qip
  exact ⟨h2.1, h3.1, h4.1⟩
theorem Qauw : Qgm Qon Qjo (fun x => Qip 9223372036854775807 x) := ⟨fun x k hx h0 h1 => by
  unfold Qon Qjo
  unfold Qip at hx
  refine Qhk (Qnv.go _ _ hx.1 h0 h1) (by omega) (by omega) fun a0 b0 c0 => ?_
  refine Qhk (Qnv.go _ _ hx.2.1 a0 b0) (by omega) (by omega) fun a1 b1 c1 => ?_
  refine Qhk (Qnv.go _ _ hx.2.2 a1 b1) (by omega) (by omega) fun a2 b2 c2 => ?_
  right; omega⟩
theorem Qauu : Qgm Qsf (wtS Qjo) (fun x => (x.length ≤ 9223372036854775807 ∧ ∀ y ∈ x, Qip 9223372036854775807 y)) := Qqu Qauw (fun _ _ => rfl)
def Qjp (x : Qr) : Nat := Qmx x.Store + x.Order.length + wtS Qke x.Active + wtS Qik x.Done + wtS Qjo x.Ledger
theorem Qot {B : Nat} {x : Qr} (h : Qjp x ≤ B) : Qgc B x := by
  unfold Qjp at h
  unfold Qgc
  exact ⟨(Qayp (by omega)), (by omega), (Qou (by omega) fun y h => (Qaym (h))), (Qou (by omega) fun y h => (Qayo (h))), (Qou (by omega) fun y h => (Qayn (h)))⟩
theorem Qaif {w : World} {B : Nat} {cs : List Value} {x : Qr} (h : Qpa.rd w B cs x) : Qgc 9223372036854775807 x := by
  obtain ⟨_, _, _, h0, ⟨_, _, _, _, ⟨_, _, _, ⟨_, _, h2⟩, ⟨_, _, _, ⟨_, _, h3⟩, ⟨_, _, _, ⟨_, _, h4⟩, ⟨_, _, _, ⟨_, _, h5⟩, _⟩⟩⟩⟩⟩⟩ := h
  unfold Qgc
  exact ⟨(Qbcw h0), h2.1, (Qos h3 fun _ _ h => (Qbcn h)), (Qos h4 fun _ _ h => (Qbcu h)), (Qos h5 fun _ _ h => (Qbcp h))⟩
theorem Qafz : Qgm Qqe Qjp (fun x => Qgc 9223372036854775807 x) := ⟨fun x k hx h0 h1 => by
  unfold Qqe Qjp
  unfold Qgc at hx
  refine Qhk (Qavh.go _ _ hx.1 h0 h1) (by omega) (by omega) fun a0 b0 c0 => ?_
  refine Qhk (Qnv.go _ _ hx.2.1 a0 b0) (by omega) (by omega) fun a1 b1 c1 => ?_
  refine Qhk (Qauq.go _ _ hx.2.2.1 a1 b1) (by omega) (by omega) fun a2 b2 c2 => ?_
  refine Qhk (Qavb.go _ _ hx.2.2.2.1 a2 b2) (by omega) (by omega) fun a3 b3 c3 => ?_
  refine Qhk (Qauu.go _ _ hx.2.2.2.2 a3 b3) (by omega) (by omega) fun a4 b4 c4 => ?_
  right; omega⟩
theorem Qqg (x : (List Int)) : Qby x = x := by
  unfold Qby
  rw [Qnz (b := fun k s => Qzp x k s) (xs := x) (by simp) (fun j s _ => rfl)]
  rfl
theorem Qawn (x : Qt) : Qid x = x := by
  unfold Qid
  simp only [Qqg]
theorem Qawl (x : (List Qt)) : Qkv x = x := by
  unfold Qkv
  rw [Qnz (b := fun k s => Qzs x k s) (xs := x) (by simp) (fun j s _ => by
    show Sum.inr (s.set j (Qid (gt x j))) = _
    rw [Qawn])]
  rfl
theorem Qawj (x : (List (List Qt))) : Qku x = x := by
  unfold Qku
  rw [Qnz (b := fun k s => Qzr x k s) (xs := x) (by simp) (fun j s _ => by
    show Sum.inr (s.set j (Qkv (gt x j))) = _
    rw [Qawl])]
  rfl
theorem Qawh (x : Qas) : Qfs x = x := by
  unfold Qfs
  simp only [Qawj]
theorem Qavz (x : Qcc) : Qjt x = x := rfl
theorem Qavx (x : (List Qcc)) : Qkt x = x := by
  unfold Qkt
  rw [Qnz (b := fun k s => Qzn x k s) (xs := x) (by simp) (fun j s _ => by
    show Sum.inr (s.set j (Qjt (gt x j))) = _
    rw [Qavz])]
  rfl
theorem Qagj (x : Qar) : Qco x = x := by
  unfold Qco
  simp only [Qavx, Qqg]
theorem Qawf (x : Qaa) : Qiw x = x := by
  unfold Qiw
  simp only [Qqg]
theorem Qagl (x : (List Qaa)) : Qgp x = x := by
  unfold Qgp
  rw [Qnz (b := fun k s => Qzq x k s) (xs := x) (by simp) (fun j s _ => by
    show Sum.inr (s.set j (Qiw (gt x j))) = _
    rw [Qawf])]
  rfl
theorem Qavr (x : Qw) : Qfl x = x := by
  unfold Qfl
  simp only [Qagj, Qqg, Qagl]
theorem Qavp (x : (List Qw)) : Qiv x = x := by
  unfold Qiv
  rw [Qnz (b := fun k s => Qzl x k s) (xs := x) (by simp) (fun j s _ => by
    show Sum.inr (s.set j (Qfl (gt x j))) = _
    rw [Qavr])]
  rfl
theorem Qawd (x : Qat) : Qgo x = x := by
  unfold Qgo
  simp only [Qagj, Qagl]
theorem Qawb (x : (List Qat)) : Qju x = x := by
  unfold Qju
  rw [Qnz (b := fun k s => Qzo x k s) (xs := x) (by simp) (fun j s _ => by
    show Sum.inr (s.set j (Qgo (gt x j))) = _
    rw [Qawd])]
  rfl
theorem Qavv (x : Qbb) : Qhi x = x := by
  unfold Qhi
  simp only [Qqg]
theorem Qavt (x : (List Qbb)) : Qks x = x := by
  unfold Qks
  rw [Qnz (b := fun k s => Qzm x k s) (xs := x) (by simp) (fun j s _ => by
    show Sum.inr (s.set j (Qhi (gt x j))) = _
    rw [Qavv])]
  rfl
theorem Qur (x : Qr) : Qbu x = x := by
  unfold Qbu
  simp only [Qawh, Qqg, Qavp, Qawb, Qavt]
theorem Qqd (x : (List Int)) : Qgz x x = true := by
  unfold Qgz
  rw [bne_self_eq_false, cond_false, Qml (fun j _ => by simp only [Qyr, bne_self_eq_false, cond_false])]
  rfl
theorem Qato (x : Qt) : Qsc x x = true := by
  simp only [Qsc, bne_self_eq_false, cond_false, cond_true, Qqd]
theorem Qatm (x : (List Qt)) : Qsb x x = true := by
  unfold Qsb
  rw [bne_self_eq_false, cond_false, Qml (fun j _ => by simp only [Qyu, cond_true, Qato])]
  rfl
theorem Qatk (x : (List (List Qt))) : Qsa x x = true := by
  unfold Qsa
  rw [bne_self_eq_false, cond_false, Qml (fun j _ => by simp only [Qyt, cond_true, Qatm])]
  rfl
theorem Qati (x : Qas) : Qrz x x = true := by
  simp only [Qrz, bne_self_eq_false, cond_false, cond_true, Qatk]
theorem Qata (x : Qcc) : Qrv x x = true := by
  simp only [Qrv, bne_self_eq_false, cond_false]
theorem Qasy (x : (List Qcc)) : Qru x x = true := by
  unfold Qru
  rw [bne_self_eq_false, cond_false, Qml (fun j _ => by simp only [Qyp, cond_true, Qata])]
  rfl
theorem Qafl (x : Qar) : Qok x x = true := by
  simp only [Qok, bne_self_eq_false, cond_false, cond_true, Qasy, Qqd]
theorem Qatg (x : Qaa) : Qry x x = true := by
  simp only [Qry, bne_self_eq_false, cond_false, cond_true, Qqd]
theorem Qafn (x : (List Qaa)) : Qol x x = true := by
  unfold Qol
  rw [bne_self_eq_false, cond_false, Qml (fun j _ => by simp only [Qys, cond_true, Qatg])]
  rfl
theorem Qass (x : Qw) : Qrr x x = true := by
  simp only [Qrr, bne_self_eq_false, cond_false, cond_true, Qqd, Qafl, Qafn]
theorem Qasq (x : (List Qw)) : Qrq x x = true := by
  unfold Qrq
  rw [bne_self_eq_false, cond_false, Qml (fun j _ => by simp only [Qyn, cond_true, Qass])]
  rfl
theorem Qate (x : Qat) : Qrx x x = true := by
  simp only [Qrx, bne_self_eq_false, cond_false, cond_true, Qafl, Qafn]
theorem Qatc (x : (List Qat)) : Qrw x x = true := by
  unfold Qrw
  rw [bne_self_eq_false, cond_false, Qml (fun j _ => by simp only [Qyq, cond_true, Qate])]
  rfl
theorem Qasw (x : Qbb) : Qrt x x = true := by
  simp only [Qrt, bne_self_eq_false, cond_false, cond_true, Qqd]
theorem Qasu (x : (List Qbb)) : Qrs x x = true := by
  unfold Qrs
  rw [bne_self_eq_false, cond_false, Qml (fun j _ => by simp only [Qyo, cond_true, Qasw])]
  rfl
theorem Qafj (x : Qr) : Qmg x x = true := by
  simp only [Qmg, bne_self_eq_false, cond_false, cond_true, Qasq, Qasu, Qatc, Qqd, Qati]
theorem Qauf : Qlh (fun (_ : Int) (k : Int) => ((IntKind.i64.wrap (k + 1)), (k : Int))) (fun (x : Int) (k : Int) => (cond ((x) != k) (Sum.inl (-1)) (Sum.inr (IntKind.i64.wrap (k + 1))) : Int ⊕ Int)) (fun _ => 0) := ⟨fun x k h0 h1 => by
  have w1 : IntKind.i64.wrap (k + 1) = k + 1 := Qer (by omega) (by omega)
  simp only [w1]
  exact ⟨by omega, by omega, by simp only [bne_self_eq_false, cond_false]⟩⟩
theorem Qmj : MkF Qv Qba List.length := Qmz Qauf (b := fun _ k s => Qzh k s.1 s.2) (hb := fun x k s => Qyz x k s) (fun x => Qaja x) (fun _ _ => rfl) (fun _ _ => rfl) (fun _ _ _ => rfl) (fun _ _ _ => rfl)
theorem Qaun : Qlh (fun (x : Qt) (k : Int) => ((IntKind.i64.wrap ((IntKind.i64.wrap (((Qv ((x).Values) (IntKind.i64.wrap (k + 1))).1) + 1)) + 1)), ((⟨k, (Qv ((x).Values) (IntKind.i64.wrap (k + 1))).2, (Qv ((x).Values) (IntKind.i64.wrap (k + 1))).1, (IntKind.i64.wrap (((Qv ((x).Values) (IntKind.i64.wrap (k + 1))).1) + 1))⟩ : Qt) : Qt))) (fun (x : Qt) (k : Int) => (cond (((x).Id) != k) (Sum.inl (-1)) (cond (decide ((Qba ((x).Values) (IntKind.i64.wrap (k + 1))) < 0)) (Sum.inl (-1)) (cond (((x).Born) != (Qba ((x).Values) (IntKind.i64.wrap (k + 1)))) (Sum.inl (-1)) (cond (((x).Died) != (IntKind.i64.wrap ((Qba ((x).Values) (IntKind.i64.wrap (k + 1))) + 1))) (Sum.inl (-1)) (Sum.inr (IntKind.i64.wrap ((IntKind.i64.wrap ((Qba ((x).Values) (IntKind.i64.wrap (k + 1))) + 1)) + 1)))))) : Int ⊕ Int)) Qhr := ⟨fun x k h0 h1 => by
  unfold Qhr at h1 ⊢
  have w1 : IntKind.i64.wrap (k + 1) = k + 1 := Qer (by omega) (by omega)
  obtain ⟨p2, q2, r2⟩ := Qmj.go x.Values (k + 1) (by omega) (by omega)
  have d2 : decide ((Qv x.Values (k + 1)).1 < 0) = false := decide_eq_false (by omega)
  have w3 : IntKind.i64.wrap ((Qv x.Values (k + 1)).1 + 1) = (Qv x.Values (k + 1)).1 + 1 := Qer (by omega) (by omega)
  have w4 : IntKind.i64.wrap ((Qv x.Values (k + 1)).1 + 1 + 1) = (Qv x.Values (k + 1)).1 + 1 + 1 := Qer (by omega) (by omega)
  simp only [w1, w3, w4]
  exact ⟨by omega, by omega, by simp only [bne_self_eq_false, r2, d2, cond_false, w1, w3, w4]⟩⟩
theorem Qauo : MkF Qjs Qnr (wtS Qhr) := Qmz Qaun (b := fun _ k s => Qzk k s.1 s.2) (hb := fun x k s => Qzc x k s) (fun x => rfl) (fun _ _ => rfl) (fun _ _ => rfl) (fun _ _ _ => rfl) (fun _ _ _ => rfl)
theorem Qauk : Qlh (fun (x : (List Qt)) (k : Int) => ((Qjs (x) k).1, (((Qjs (x) k).2) : (List Qt)))) (fun (x : (List Qt)) (k : Int) => (cond (decide ((Qnr (x) k) < 0)) (Sum.inl (-1)) (Sum.inr (Qnr (x) k)) : Int ⊕ Int)) (wtS Qhr) := ⟨fun x k h0 h1 => by
  obtain ⟨p1, q1, r1⟩ := Qauo.go x k (by omega) (by omega)
  have d1 : decide ((Qjs x k).1 < 0) = false := decide_eq_false (by omega)
  exact ⟨by omega, by omega, by simp only [r1, d1, cond_false]⟩⟩
theorem Qaul : MkF Qkq Qse (wtS (wtS Qhr)) := Qmz Qauk (b := fun _ k s => Qzj k s.1 s.2) (hb := fun x k s => Qzb x k s) (fun x => rfl) (fun _ _ => rfl) (fun _ _ => rfl) (fun _ _ _ => rfl) (fun _ _ _ => rfl)
theorem Qaui : MkF Qdq Qha Qmx := ⟨fun x k h0 h1 => by
  unfold Qmx at h1 ⊢
  obtain ⟨p1, q1, r1⟩ := Qaul.go x.Segments k (by omega) (by omega)
  have d1 : decide ((Qkq x.Segments k).1 < 0) = false := decide_eq_false (by omega)
  unfold Qdq
  exact ⟨by dsimp only; omega, by dsimp only; omega, by simp only [Qha, r1, d1, cond_false]⟩⟩
theorem Qaub : Qlh (fun (_ : Qcc) (k : Int) => ((IntKind.i64.wrap ((IntKind.i64.wrap ((IntKind.i64.wrap (k + 1)) + 1)) + 1)), ((⟨k, (IntKind.i64.wrap (k + 1)), (IntKind.i64.wrap ((IntKind.i64.wrap (k + 1)) + 1))⟩ : Qcc) : Qcc))) (fun (x : Qcc) (k : Int) => (cond (((x).Field) != k) (Sum.inl (-1)) (cond (((x).Low) != (IntKind.i64.wrap (k + 1))) (Sum.inl (-1)) (cond (((x).High) != (IntKind.i64.wrap ((IntKind.i64.wrap (k + 1)) + 1))) (Sum.inl (-1)) (Sum.inr (IntKind.i64.wrap ((IntKind.i64.wrap ((IntKind.i64.wrap (k + 1)) + 1)) + 1))))) : Int ⊕ Int)) (fun _ => 0) := ⟨fun x k h0 h1 => by
  have w1 : IntKind.i64.wrap (k + 1) = k + 1 := Qer (by omega) (by omega)
  have w2 : IntKind.i64.wrap (k + 1 + 1) = k + 1 + 1 := Qer (by omega) (by omega)
  have w3 : IntKind.i64.wrap (k + 1 + 1 + 1) = k + 1 + 1 + 1 := Qer (by omega) (by omega)
  simp only [w1, w2, w3]
  exact ⟨by omega, by omega, by simp only [bne_self_eq_false, cond_false]⟩⟩
theorem Qafs : MkF Qbh Qdb List.length := Qmz Qaub (b := fun _ k s => Qzf k s.1 s.2) (hb := fun x k s => Qyx x k s) (fun x => Qaja x) (fun _ _ => rfl) (fun _ _ => rfl) (fun _ _ _ => rfl) (fun _ _ _ => rfl)
theorem Qaug : Qlh (fun (x : Qaa) (k : Int) => ((Qv ((x).Values) (IntKind.i64.wrap (k + 1))).1, ((⟨k, (Qv ((x).Values) (IntKind.i64.wrap (k + 1))).2⟩ : Qaa) : Qaa))) (fun (x : Qaa) (k : Int) => (cond (((x).Id) != k) (Sum.inl (-1)) (cond (decide ((Qba ((x).Values) (IntKind.i64.wrap (k + 1))) < 0)) (Sum.inl (-1)) (Sum.inr (Qba ((x).Values) (IntKind.i64.wrap (k + 1))))) : Int ⊕ Int)) Qkf := ⟨fun x k h0 h1 => by
  unfold Qkf at h1 ⊢
  have w1 : IntKind.i64.wrap (k + 1) = k + 1 := Qer (by omega) (by omega)
  obtain ⟨p2, q2, r2⟩ := Qmj.go x.Values (k + 1) (by omega) (by omega)
  have d2 : decide ((Qv x.Values (k + 1)).1 < 0) = false := decide_eq_false (by omega)
  simp only [w1]
  exact ⟨by omega, by omega, by simp only [bne_self_eq_false, r2, d2, cond_false, w1]⟩⟩
theorem Qafw : MkF Qga Qim (wtS Qkf) := Qmz Qaug (b := fun _ k s => Qzi k s.1 s.2) (hb := fun x k s => Qza x k s) (fun x => rfl) (fun _ _ => rfl) (fun _ _ => rfl) (fun _ _ _ => rfl) (fun _ _ _ => rfl)
theorem Qatw : Qlh (fun (x : Qw) (k : Int) => ((Qga ((x).Rows) (IntKind.i64.wrap ((IntKind.i64.wrap ((IntKind.i64.wrap (((Qv ((x).Todo) (IntKind.i64.wrap (((Qv ((x).Query.Out) ((Qbh ((x).Query.Conds) (IntKind.i64.wrap ((IntKind.i64.wrap (k + 1)) + 1))).1)).1) + 1))).1) + 1)) + 1)) + 1))).1, ((⟨(⟨k, (IntKind.i64.wrap (k + 1)), (Qbh ((x).Query.Conds) (IntKind.i64.wrap ((IntKind.i64.wrap (k + 1)) + 1))).2, (Qv ((x).Query.Out) ((Qbh ((x).Query.Conds) (IntKind.i64.wrap ((IntKind.i64.wrap (k + 1)) + 1))).1)).2⟩ : Qar), (Qv ((x).Query.Out) ((Qbh ((x).Query.Conds) (IntKind.i64.wrap ((IntKind.i64.wrap (k + 1)) + 1))).1)).1, (Qv ((x).Todo) (IntKind.i64.wrap (((Qv ((x).Query.Out) ((Qbh ((x).Query.Conds) (IntKind.i64.wrap ((IntKind.i64.wrap (k + 1)) + 1))).1)).1) + 1))).2, (Qv ((x).Todo) (IntKind.i64.wrap (((Qv ((x).Query.Out) ((Qbh ((x).Query.Conds) (IntKind.i64.wrap ((IntKind.i64.wrap (k + 1)) + 1))).1)).1) + 1))).1, (IntKind.i64.wrap (((Qv ((x).Todo) (IntKind.i64.wrap (((Qv ((x).Query.Out) ((Qbh ((x).Query.Conds) (IntKind.i64.wrap ((IntKind.i64.wrap (k + 1)) + 1))).1)).1) + 1))).1) + 1)), (IntKind.i64.wrap ((IntKind.i64.wrap (((Qv ((x).Todo) (IntKind.i64.wrap (((Qv ((x).Query.Out) ((Qbh ((x).Query.Conds) (IntKind.i64.wrap ((IntKind.i64.wrap (k + 1)) + 1))).1)).1) + 1))).1) + 1)) + 1)), (Qga ((x).Rows) (IntKind.i64.wrap ((IntKind.i64.wrap ((IntKind.i64.wrap (((Qv ((x).Todo) (IntKind.i64.wrap (((Qv ((x).Query.Out) ((Qbh ((x).Query.Conds) (IntKind.i64.wrap ((IntKind.i64.wrap (k + 1)) + 1))).1)).1) + 1))).1) + 1)) + 1)) + 1))).2⟩ : Qw) : Qw))) (fun (x : Qw) (k : Int) => (cond (((x).Query.Id) != k) (Sum.inl (-1)) (cond (((x).Query.Tenant) != (IntKind.i64.wrap (k + 1))) (Sum.inl (-1)) (cond (decide ((Qdb ((x).Query.Conds) (IntKind.i64.wrap ((IntKind.i64.wrap (k + 1)) + 1))) < 0)) (Sum.inl (-1)) (cond (decide ((Qba ((x).Query.Out) (Qdb ((x).Query.Conds) (IntKind.i64.wrap ((IntKind.i64.wrap (k + 1)) + 1)))) < 0)) (Sum.inl (-1)) (cond (((x).Time) != (Qba ((x).Query.Out) (Qdb ((x).Query.Conds) (IntKind.i64.wrap ((IntKind.i64.wrap (k + 1)) + 1))))) (Sum.inl (-1)) (cond (decide ((Qba ((x).Todo) (IntKind.i64.wrap ((Qba ((x).Query.Out) (Qdb ((x).Query.Conds) (IntKind.i64.wrap ((IntKind.i64.wrap (k + 1)) + 1)))) + 1))) < 0)) (Sum.inl (-1)) (cond (((x).Age) != (Qba ((x).Todo) (IntKind.i64.wrap ((Qba ((x).Query.Out) (Qdb ((x).Query.Conds) (IntKind.i64.wrap ((IntKind.i64.wrap (k + 1)) + 1)))) + 1)))) (Sum.inl (-1)) (cond (((x).Sent) != (IntKind.i64.wrap ((Qba ((x).Todo) (IntKind.i64.wrap ((Qba ((x).Query.Out) (Qdb ((x).Query.Conds) (IntKind.i64.wrap ((IntKind.i64.wrap (k + 1)) + 1)))) + 1))) + 1))) (Sum.inl (-1)) (cond (((x).Cap) != (IntKind.i64.wrap ((IntKind.i64.wrap ((Qba ((x).Todo) (IntKind.i64.wrap ((Qba ((x).Query.Out) (Qdb ((x).Query.Conds) (IntKind.i64.wrap ((IntKind.i64.wrap (k + 1)) + 1)))) + 1))) + 1)) + 1))) (Sum.inl (-1)) (cond (decide ((Qim ((x).Rows) (IntKind.i64.wrap ((IntKind.i64.wrap ((IntKind.i64.wrap ((Qba ((x).Todo) (IntKind.i64.wrap ((Qba ((x).Query.Out) (Qdb ((x).Query.Conds) (IntKind.i64.wrap ((IntKind.i64.wrap (k + 1)) + 1)))) + 1))) + 1)) + 1)) + 1))) < 0)) (Sum.inl (-1)) (Sum.inr (Qim ((x).Rows) (IntKind.i64.wrap ((IntKind.i64.wrap ((IntKind.i64.wrap ((Qba ((x).Todo) (IntKind.i64.wrap ((Qba ((x).Query.Out) (Qdb ((x).Query.Conds) (IntKind.i64.wrap ((IntKind.i64.wrap (k + 1)) + 1)))) + 1))) + 1)) + 1)) + 1))))))))))))) : Int ⊕ Int)) Qke := ⟨fun x k h0 h1 => by
  unfold Qke Qlv at h1 ⊢
  have w1 : IntKind.i64.wrap (k + 1) = k + 1 := Qer (by omega) (by omega)
  have w2 : IntKind.i64.wrap (k + 1 + 1) = k + 1 + 1 := Qer (by omega) (by omega)
  obtain ⟨p3, q3, r3⟩ := Qafs.go x.Query.Conds (k + 1 + 1) (by omega) (by omega)
  have d3 : decide ((Qbh x.Query.Conds (k + 1 + 1)).1 < 0) = false := decide_eq_false (by omega)
  obtain ⟨p4, q4, r4⟩ := Qmj.go x.Query.Out ((Qbh x.Query.Conds (k + 1 + 1)).1) (by omega) (by omega)
  have d4 : decide ((Qv x.Query.Out ((Qbh x.Query.Conds (k + 1 + 1)).1)).1 < 0) = false := decide_eq_false (by omega)
  have w5 : IntKind.i64.wrap ((Qv x.Query.Out ((Qbh x.Query.Conds (k + 1 + 1)).1)).1 + 1) = (Qv x.Query.Out ((Qbh x.Query.Conds (k + 1 + 1)).1)).1 + 1 := Qer (by omega) (by omega)
  obtain ⟨p6, q6, r6⟩ := Qmj.go x.Todo ((Qv x.Query.Out ((Qbh x.Query.Conds (k + 1 + 1)).1)).1 + 1) (by omega) (by omega)
  have d6 : decide ((Qv x.Todo ((Qv x.Query.Out ((Qbh x.Query.Conds (k + 1 + 1)).1)).1 + 1)).1 < 0) = false := decide_eq_false (by omega)
  have w7 : IntKind.i64.wrap ((Qv x.Todo ((Qv x.Query.Out ((Qbh x.Query.Conds (k + 1 + 1)).1)).1 + 1)).1 + 1) = (Qv x.Todo ((Qv x.Query.Out ((Qbh x.Query.Conds (k + 1 + 1)).1)).1 + 1)).1 + 1 := Qer (by omega) (by omega)
  have w8 : IntKind.i64.wrap ((Qv x.Todo ((Qv x.Query.Out ((Qbh x.Query.Conds (k + 1 + 1)).1)).1 + 1)).1 + 1 + 1) = (Qv x.Todo ((Qv x.Query.Out ((Qbh x.Query.Conds (k + 1 + 1)).1)).1 + 1)).1 + 1 + 1 := Qer (by omega) (by omega)
  have w9 : IntKind.i64.wrap ((Qv x.Todo ((Qv x.Query.Out ((Qbh x.Query.Conds (k + 1 + 1)).1)).1 + 1)).1 + 1 + 1 + 1) = (Qv x.Todo ((Qv x.Query.Out ((Qbh x.Query.Conds (k + 1 + 1)).1)).1 + 1)).1 + 1 + 1 + 1 := Qer (by omega) (by omega)
  obtain ⟨p10, q10, r10⟩ := Qafw.go x.Rows ((Qv x.Todo ((Qv x.Query.Out ((Qbh x.Query.Conds (k + 1 + 1)).1)).1 + 1)).1 + 1 + 1 + 1) (by omega) (by omega)
  have d10 : decide ((Qga x.Rows ((Qv x.Todo ((Qv x.Query.Out ((Qbh x.Query.Conds (k + 1 + 1)).1)).1 + 1)).1 + 1 + 1 + 1)).1 < 0) = false := decide_eq_false (by omega)
  simp only [w1, w2, w5, w7, w8, w9]
  exact ⟨by omega, by omega, by simp only [bne_self_eq_false, r3, d3, r4, d4, r6, d6, r10, d10, cond_false, w1, w2, w5, w7, w8, w9]⟩⟩
theorem Qatx : MkF Qfk Qko (wtS Qke) := Qmz Qatw (b := fun _ k s => Qzd k s.1 s.2) (hb := fun x k s => Qyv x k s) (fun x => rfl) (fun _ _ => rfl) (fun _ _ => rfl) (fun _ _ _ => rfl) (fun _ _ _ => rfl)
theorem Qaud : Qlh (fun (x : Qat) (k : Int) => ((Qga ((x).Rows) (IntKind.i64.wrap ((IntKind.i64.wrap (((Qv ((x).Query.Out) ((Qbh ((x).Query.Conds) (IntKind.i64.wrap ((IntKind.i64.wrap (k + 1)) + 1))).1)).1) + 1)) + 1))).1, ((⟨(⟨k, (IntKind.i64.wrap (k + 1)), (Qbh ((x).Query.Conds) (IntKind.i64.wrap ((IntKind.i64.wrap (k + 1)) + 1))).2, (Qv ((x).Query.Out) ((Qbh ((x).Query.Conds) (IntKind.i64.wrap ((IntKind.i64.wrap (k + 1)) + 1))).1)).2⟩ : Qar), (Qv ((x).Query.Out) ((Qbh ((x).Query.Conds) (IntKind.i64.wrap ((IntKind.i64.wrap (k + 1)) + 1))).1)).1, (IntKind.i64.wrap (((Qv ((x).Query.Out) ((Qbh ((x).Query.Conds) (IntKind.i64.wrap ((IntKind.i64.wrap (k + 1)) + 1))).1)).1) + 1)), (Qga ((x).Rows) (IntKind.i64.wrap ((IntKind.i64.wrap (((Qv ((x).Query.Out) ((Qbh ((x).Query.Conds) (IntKind.i64.wrap ((IntKind.i64.wrap (k + 1)) + 1))).1)).1) + 1)) + 1))).2⟩ : Qat) : Qat))) (fun (x : Qat) (k : Int) => (cond (((x).Query.Id) != k) (Sum.inl (-1)) (cond (((x).Query.Tenant) != (IntKind.i64.wrap (k + 1))) (Sum.inl (-1)) (cond (decide ((Qdb ((x).Query.Conds) (IntKind.i64.wrap ((IntKind.i64.wrap (k + 1)) + 1))) < 0)) (Sum.inl (-1)) (cond (decide ((Qba ((x).Query.Out) (Qdb ((x).Query.Conds) (IntKind.i64.wrap ((IntKind.i64.wrap (k + 1)) + 1)))) < 0)) (Sum.inl (-1)) (cond (((x).Time) != (Qba ((x).Query.Out) (Qdb ((x).Query.Conds) (IntKind.i64.wrap ((IntKind.i64.wrap (k + 1)) + 1))))) (Sum.inl (-1)) (cond (((x).Steps) != (IntKind.i64.wrap ((Qba ((x).Query.Out) (Qdb ((x).Query.Conds) (IntKind.i64.wrap ((IntKind.i64.wrap (k + 1)) + 1)))) + 1))) (Sum.inl (-1)) (cond (decide ((Qim ((x).Rows) (IntKind.i64.wrap ((IntKind.i64.wrap ((Qba ((x).Query.Out) (Qdb ((x).Query.Conds) (IntKind.i64.wrap ((IntKind.i64.wrap (k + 1)) + 1)))) + 1)) + 1))) < 0)) (Sum.inl (-1)) (Sum.inr (Qim ((x).Rows) (IntKind.i64.wrap ((IntKind.i64.wrap ((Qba ((x).Query.Out) (Qdb ((x).Query.Conds) (IntKind.i64.wrap ((IntKind.i64.wrap (k + 1)) + 1)))) + 1)) + 1)))))))))) : Int ⊕ Int)) Qik := ⟨fun x k h0 h1 => by
  unfold Qik Qlv at h1 ⊢
  have w1 : IntKind.i64.wrap (k + 1) = k + 1 := Qer (by omega) (by omega)
  have w2 : IntKind.i64.wrap (k + 1 + 1) = k + 1 + 1 := Qer (by omega) (by omega)
  obtain ⟨p3, q3, r3⟩ := Qafs.go x.Query.Conds (k + 1 + 1) (by omega) (by omega)
  have d3 : decide ((Qbh x.Query.Conds (k + 1 + 1)).1 < 0) = false := decide_eq_false (by omega)
  obtain ⟨p4, q4, r4⟩ := Qmj.go x.Query.Out ((Qbh x.Query.Conds (k + 1 + 1)).1) (by omega) (by omega)
  have d4 : decide ((Qv x.Query.Out ((Qbh x.Query.Conds (k + 1 + 1)).1)).1 < 0) = false := decide_eq_false (by omega)
  have w5 : IntKind.i64.wrap ((Qv x.Query.Out ((Qbh x.Query.Conds (k + 1 + 1)).1)).1 + 1) = (Qv x.Query.Out ((Qbh x.Query.Conds (k + 1 + 1)).1)).1 + 1 := Qer (by omega) (by omega)
  have w6 : IntKind.i64.wrap ((Qv x.Query.Out ((Qbh x.Query.Conds (k + 1 + 1)).1)).1 + 1 + 1) = (Qv x.Query.Out ((Qbh x.Query.Conds (k + 1 + 1)).1)).1 + 1 + 1 := Qer (by omega) (by omega)
  obtain ⟨p7, q7, r7⟩ := Qafw.go x.Rows ((Qv x.Query.Out ((Qbh x.Query.Conds (k + 1 + 1)).1)).1 + 1 + 1) (by omega) (by omega)
  have d7 : decide ((Qga x.Rows ((Qv x.Query.Out ((Qbh x.Query.Conds (k + 1 + 1)).1)).1 + 1 + 1)).1 < 0) = false := decide_eq_false (by omega)
  simp only [w1, w2, w5, w6]
  exact ⟨by omega, by omega, by simp only [bne_self_eq_false, r3, d3, r4, d4, r7, d7, cond_false, w1, w2, w5, w6]⟩⟩
theorem Qaue : MkF Qhf Qnq (wtS Qik) := Qmz Qaud (b := fun _ k s => Qzg k s.1 s.2) (hb := fun x k s => Qyy x k s) (fun x => rfl) (fun _ _ => rfl) (fun _ _ => rfl) (fun _ _ _ => rfl) (fun _ _ _ => rfl)
theorem Qatz : Qlh (fun (x : Qbb) (k : Int) => ((Qv ((x).Rows) ((Qv ((x).Tenants) ((Qv ((x).Ids) (IntKind.i64.wrap ((IntKind.i64.wrap (k + 1)) + 1))).1)).1)).1, ((⟨k, (IntKind.i64.wrap (k + 1)), (Qv ((x).Ids) (IntKind.i64.wrap ((IntKind.i64.wrap (k + 1)) + 1))).2, (Qv ((x).Tenants) ((Qv ((x).Ids) (IntKind.i64.wrap ((IntKind.i64.wrap (k + 1)) + 1))).1)).2, (Qv ((x).Rows) ((Qv ((x).Tenants) ((Qv ((x).Ids) (IntKind.i64.wrap ((IntKind.i64.wrap (k + 1)) + 1))).1)).1)).2⟩ : Qbb) : Qbb))) (fun (x : Qbb) (k : Int) => (cond (((x).Segment) != k) (Sum.inl (-1)) (cond (((x).Base) != (IntKind.i64.wrap (k + 1))) (Sum.inl (-1)) (cond (decide ((Qba ((x).Ids) (IntKind.i64.wrap ((IntKind.i64.wrap (k + 1)) + 1))) < 0)) (Sum.inl (-1)) (cond (decide ((Qba ((x).Tenants) (Qba ((x).Ids) (IntKind.i64.wrap ((IntKind.i64.wrap (k + 1)) + 1)))) < 0)) (Sum.inl (-1)) (cond (decide ((Qba ((x).Rows) (Qba ((x).Tenants) (Qba ((x).Ids) (IntKind.i64.wrap ((IntKind.i64.wrap (k + 1)) + 1))))) < 0)) (Sum.inl (-1)) (Sum.inr (Qba ((x).Rows) (Qba ((x).Tenants) (Qba ((x).Ids) (IntKind.i64.wrap ((IntKind.i64.wrap (k + 1)) + 1)))))))))) : Int ⊕ Int)) Qjo := ⟨fun x k h0 h1 => by
  unfold Qjo at h1 ⊢
  have w1 : IntKind.i64.wrap (k + 1) = k + 1 := Qer (by omega) (by omega)
  have w2 : IntKind.i64.wrap (k + 1 + 1) = k + 1 + 1 := Qer (by omega) (by omega)
  obtain ⟨p3, q3, r3⟩ := Qmj.go x.Ids (k + 1 + 1) (by omega) (by omega)
  have d3 : decide ((Qv x.Ids (k + 1 + 1)).1 < 0) = false := decide_eq_false (by omega)
  obtain ⟨p4, q4, r4⟩ := Qmj.go x.Tenants ((Qv x.Ids (k + 1 + 1)).1) (by omega) (by omega)
  have d4 : decide ((Qv x.Tenants ((Qv x.Ids (k + 1 + 1)).1)).1 < 0) = false := decide_eq_false (by omega)
  obtain ⟨p5, q5, r5⟩ := Qmj.go x.Rows ((Qv x.Tenants ((Qv x.Ids (k + 1 + 1)).1)).1) (by omega) (by omega)
  have d5 : decide ((Qv x.Rows ((Qv x.Tenants ((Qv x.Ids (k + 1 + 1)).1)).1)).1 < 0) = false := decide_eq_false (by omega)
  simp only [w1, w2]
  exact ⟨by omega, by omega, by simp only [bne_self_eq_false, r3, d3, r4, d4, r5, d5, cond_false, w1, w2]⟩⟩
theorem Qaua : MkF Qkp Qsd (wtS Qjo) := Qmz Qatz (b := fun _ k s => Qze k s.1 s.2) (hb := fun x k s => Qyw x k s) (fun x => rfl) (fun _ _ => rfl) (fun _ _ => rfl) (fun _ _ _ => rfl) (fun _ _ _ => rfl)
theorem Qafu : MkF Qcn Qnp Qjp := ⟨fun x k h0 h1 => by
  unfold Qjp at h1 ⊢
  obtain ⟨p1, q1, r1⟩ := Qaui.go x.Store k (by omega) (by omega)
  have d1 : decide ((Qdq x.Store k).1 < 0) = false := decide_eq_false (by omega)
  have r1 : Qha (⟨(Qdq x.Store k).2.Segments, x.Store.Now⟩ : Qas) k = (Qdq x.Store k).1 := r1
  obtain ⟨p2, q2, r2⟩ := Qmj.go x.Order ((Qdq x.Store k).1) (by omega) (by omega)
  have d2 : decide ((Qv x.Order ((Qdq x.Store k).1)).1 < 0) = false := decide_eq_false (by omega)
  obtain ⟨p3, q3, r3⟩ := Qatx.go x.Active ((Qv x.Order ((Qdq x.Store k).1)).1) (by omega) (by omega)
  have d3 : decide ((Qfk x.Active ((Qv x.Order ((Qdq x.Store k).1)).1)).1 < 0) = false := decide_eq_false (by omega)
  obtain ⟨p4, q4, r4⟩ := Qaue.go x.Done ((Qfk x.Active ((Qv x.Order ((Qdq x.Store k).1)).1)).1) (by omega) (by omega)
  have d4 : decide ((Qhf x.Done ((Qfk x.Active ((Qv x.Order ((Qdq x.Store k).1)).1)).1)).1 < 0) = false := decide_eq_false (by omega)
  obtain ⟨p5, q5, r5⟩ := Qaua.go x.Ledger ((Qhf x.Done ((Qfk x.Active ((Qv x.Order ((Qdq x.Store k).1)).1)).1)).1) (by omega) (by omega)
  have d5 : decide ((Qkp x.Ledger ((Qhf x.Done ((Qfk x.Active ((Qv x.Order ((Qdq x.Store k).1)).1)).1)).1)).1 < 0) = false := decide_eq_false (by omega)
  unfold Qcn
  exact ⟨by dsimp only; omega, by dsimp only; omega, by simp only [Qnp, r1, d1, r2, d2, r3, d3, r4, d4, r5, d5, cond_false]⟩⟩
end Go.Proofs.YtdlminfjdodjoaaGreat

