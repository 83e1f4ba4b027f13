/-
  Plain laws of the functions that the law runs over its arguments.
-/
import Derived.Test.YtmikmbmdibabmaaGreatL9F6
import Derived.Test.YtmikmbmdibabmaaGreatVcP
namespace Go.Proofs.YtmikmbmdibabmaaGreat
open Go.RowKit
theorem Qmc : Qga Qdo List.length (fun x => x.length ≤ 9223372036854775807) := Qacw (fun _ _ => rfl)
def Qfo (x : Qn) : Nat := x.Values.length
theorem Qarh {B : Nat} {x : Qn} (h : Qfo x ≤ B) : Qhm B x := by
  unfold Qfo at h
  unfold Qhm
  exact (by omega)
theorem Qatu {w : World} {B : Nat} {cs : List Value} {x : Qn} (h : Qhr.rd w B cs x) : Qhm 9223372036854775807 x := by
  obtain ⟨_, _, _, _, ⟨_, _, _, ⟨_, _, h1⟩, ⟨_, _, _, _, _⟩⟩⟩ := h
  unfold Qhm
  exact h1.1
theorem Qaor : Qga Qme Qfo (fun x => Qhm 9223372036854775807 x) := ⟨fun x k hx h0 h1 => by
  unfold Qme Qfo
  unfold Qhm at hx
  refine Qgo (Qmc.go _ _ hx h0 h1) (by omega) (by omega) fun a0 b0 c0 => ?_
  right; omega⟩
theorem Qaop : Qga Qnb (wtS Qfo) (fun x => (x.length ≤ 9223372036854775807 ∧ ∀ y ∈ x, Qhm 9223372036854775807 y)) := Qox Qaor (fun _ _ => rfl)
theorem Qaon : Qga Qqe (wtS (wtS Qfo)) (fun x => (x.length ≤ 9223372036854775807 ∧ ∀ y ∈ x, (y.length ≤ 9223372036854775807 ∧ ∀ y1 ∈ y, Qhm 9223372036854775807 y1))) := Qox Qaop (fun _ _ => rfl)
def Qjc (x : Qx) : Nat := wtS (wtS Qfo) x.Segments
theorem Qarg {B : Nat} {x : Qx} (h : Qjc x ≤ B) : Qfl B x := by
  unfold Qjc at h
  unfold Qfl
  exact (Qnf (w := wtS Qfo) (by omega) fun y h => (Qnf (h) fun y h => (Qarh (h))))
theorem Qatr {w : World} {B : Nat} {cs : List Value} {x : Qx} (h : Qns.rd w B cs x) : Qfl 9223372036854775807 x := by
  obtain ⟨_, _, _, ⟨_, _, h0⟩, _⟩ := h
  unfold Qfl
  exact (Qnc h0 fun _ _ h => (by obtain ⟨_, _, h⟩ := h; exact (Qnc h fun _ _ h => (Qatu h))))
theorem Qaok : Qga Qgs Qjc (fun x => Qfl 9223372036854775807 x) := ⟨fun x k hx h0 h1 => by
  unfold Qgs Qjc
  unfold Qfl at hx
  refine Qgo (Qaon.go _ _ hx h0 h1) (by omega) (by omega) fun a0 b0 c0 => ?_
  right; omega⟩
theorem Qaod : Qga Qly List.length (fun x => x.length ≤ 9223372036854775807) := Qacw (fun _ _ => rfl)
def Qmq (x : Qcg) : Nat := x.Conds.length + x.Out.length
theorem Qacg {B : Nat} {x : Qcg} (h : Qmq x ≤ B) : Qij B x := by
  unfold Qmq at h
  unfold Qij
  exact ⟨(by omega), (by omega)⟩
theorem Qadg {w : World} {B : Nat} {cs : List Value} {x : Qcg} (h : Qmn.rd w B cs x) : Qij 9223372036854775807 x := by
  obtain ⟨_, _, _, _, ⟨_, _, _, _, ⟨_, _, _, ⟨_, _, h2⟩, ⟨_, _, h3⟩⟩⟩⟩ := h
  unfold Qij
  exact ⟨h2.1, h3.1⟩
theorem Qaba : Qga Qgr Qmq (fun x => Qij 9223372036854775807 x) := ⟨fun x k hx h0 h1 => by
  unfold Qgr Qmq
  unfold Qij at hx
  refine Qgo (Qaod.go _ _ hx.1 h0 h1) (by omega) (by omega) fun a0 b0 c0 => ?_
  refine Qgo (Qmc.go _ _ hx.2 a0 b0) (by omega) (by omega) fun a1 b1 c1 => ?_
  right; omega⟩
def Qip (x : Qaj) : Nat := x.Values.length
theorem Qwd {B : Nat} {x : Qaj} (h : Qip x ≤ B) : Qgg B x := by
  unfold Qip at h
  unfold Qgg
  exact (by omega)
theorem Qxe {w : World} {B : Nat} {cs : List Value} {x : Qaj} (h : Qhq.rd w B cs x) : Qgg 9223372036854775807 x := by
  obtain ⟨_, _, _, _, ⟨_, _, h1⟩⟩ := h
  unfold Qgg
  exact h1.1
theorem Qabf : Qga Qjj Qip (fun x => Qgg 9223372036854775807 x) := ⟨fun x k hx h0 h1 => by
  unfold Qjj Qip
  unfold Qgg at hx
  refine Qgo (Qmc.go _ _ hx h0 h1) (by omega) (by omega) fun a0 b0 c0 => ?_
  right; omega⟩
theorem Qabd : Qga Qmd (wtS Qip) (fun x => (x.length ≤ 9223372036854775807 ∧ ∀ y ∈ x, Qgg 9223372036854775807 y)) := Qox Qabf (fun _ _ => rfl)
def Qld (x : Qbf) : Nat := Qmq x.Query + x.Todo.length + wtS Qip x.Rows
theorem Qara {B : Nat} {x : Qbf} (h : Qld x ≤ B) : Qiy B x := by
  unfold Qld at h
  unfold Qiy
  exact ⟨(Qacg (by omega)), (by omega), (Qnf (by omega) fun y h => (Qwd (h)))⟩
theorem Qati {w : World} {B : Nat} {cs : List Value} {x : Qbf} (h : Qjl.rd w B cs x) : Qiy 9223372036854775807 x := by
  obtain ⟨_, _, _, h0, ⟨_, _, _, _, ⟨_, _, _, ⟨_, _, h2⟩, ⟨_, _, _, _, ⟨_, _, _, _, ⟨_, _, _, _, ⟨_, _, h6⟩⟩⟩⟩⟩⟩⟩ := h
  unfold Qiy
  exact ⟨(Qadg h0), h2.1, (Qnc h6 fun _ _ h => (Qxe h))⟩
theorem Qanx : Qga Qlw Qld (fun x => Qiy 9223372036854775807 x) := ⟨fun x k hx h0 h1 => by
  unfold Qlw Qld
  unfold Qiy at hx
  refine Qgo (Qaba.go _ _ hx.1 h0 h1) (by omega) (by omega) fun a0 b0 c0 => ?_
  refine Qgo (Qmc.go _ _ hx.2.1 a0 b0) (by omega) (by omega) fun a1 b1 c1 => ?_
  refine Qgo (Qabd.go _ _ hx.2.2 a1 b1) (by omega) (by omega) fun a2 b2 c2 => ?_
  right; omega⟩
theorem Qanv : Qga Qji (wtS Qld) (fun x => (x.length ≤ 9223372036854775807 ∧ ∀ y ∈ x, Qiy 9223372036854775807 y)) := Qox Qanx (fun _ _ => rfl)
def Qlf (x : Qbg) : Nat := Qmq x.Query + wtS Qip x.Rows
theorem Qarc {B : Nat} {x : Qbg} (h : Qlf x ≤ B) : Qiz B x := by
  unfold Qlf at h
  unfold Qiz
  exact ⟨(Qacg (by omega)), (Qnf (by omega) fun y h => (Qwd (h)))⟩
theorem Qatp {w : World} {B : Nat} {cs : List Value} {x : Qbg} (h : Qjn.rd w B cs x) : Qiz 9223372036854775807 x := by
  obtain ⟨_, _, _, h0, ⟨_, _, _, _, ⟨_, _, _, _, ⟨_, _, h3⟩⟩⟩⟩ := h
  unfold Qiz
  exact ⟨(Qadg h0), (Qnc h3 fun _ _ h => (Qxe h))⟩
theorem Qaoi : Qga Qma Qlf (fun x => Qiz 9223372036854775807 x) := ⟨fun x k hx h0 h1 => by
  unfold Qma Qlf
  unfold Qiz at hx
  refine Qgo (Qaba.go _ _ hx.1 h0 h1) (by omega) (by omega) fun a0 b0 c0 => ?_
  refine Qgo (Qabd.go _ _ hx.2 a0 b0) (by omega) (by omega) fun a1 b1 c1 => ?_
  right; omega⟩
theorem Qaog : Qga Qlz (wtS Qlf) (fun x => (x.length ≤ 9223372036854775807 ∧ ∀ y ∈ x, Qiz 9223372036854775807 y)) := Qox Qaoi (fun _ _ => rfl)
def Qle (x : Qay) : Nat := x.Ids.length + x.Tenants.length + x.Rows.length
theorem Qarb {B : Nat} {x : Qay} (h : Qle x ≤ B) : Qhx B x := by
  unfold Qle at h
  unfold Qhx
  exact ⟨(by omega), (by omega), (by omega)⟩
theorem Qatk {w : World} {B : Nat} {cs : List Value} {x : Qay} (h : Qjm.rd w B cs x) : Qhx 9223372036854775807 x := by
  obtain ⟨_, _, _, _, ⟨_, _, _, _, ⟨_, _, _, ⟨_, _, h2⟩, ⟨_, _, _, ⟨_, _, h3⟩, ⟨_, _, h4⟩⟩⟩⟩⟩ := h
  unfold Qhx
  exact ⟨h2.1, h3.1, h4.1⟩
theorem Qaob : Qga Qlx Qle (fun x => Qhx 9223372036854775807 x) := ⟨fun x k hx h0 h1 => by
  unfold Qlx Qle
  unfold Qhx at hx
  refine Qgo (Qmc.go _ _ hx.1 h0 h1) (by omega) (by omega) fun a0 b0 c0 => ?_
  refine Qgo (Qmc.go _ _ hx.2.1 a0 b0) (by omega) (by omega) fun a1 b1 c1 => ?_
  refine Qgo (Qmc.go _ _ hx.2.2 a1 b1) (by omega) (by omega) fun a2 b2 c2 => ?_
  right; omega⟩
theorem Qanz : Qga Qqd (wtS Qle) (fun x => (x.length ≤ 9223372036854775807 ∧ ∀ y ∈ x, Qhx 9223372036854775807 y)) := Qox Qaob (fun _ _ => rfl)
def Qio (x : Qag) : Nat := Qjc x.Store + x.Order.length + wtS Qld x.Active + wtS Qlf x.Done + wtS Qle x.Ledger
theorem Qhl {B : Nat} {x : Qag} (h : Qio x ≤ B) : Qgf B x := by
  unfold Qio at h
  unfold Qgf
  exact ⟨(Qarg (by omega)), (by omega), (Qnf (by omega) fun y h => (Qara (h))), (Qnf (by omega) fun y h => (Qarc (h))), (Qnf (by omega) fun y h => (Qarb (h)))⟩
theorem Qadc {w : World} {B : Nat} {cs : List Value} {x : Qag} (h : Qnq.rd w B cs x) : Qgf 9223372036854775807 x := by
  obtain ⟨_, _, _, h0, ⟨_, _, _, _, ⟨_, _, _, ⟨_, _, h2⟩, ⟨_, _, _, ⟨_, _, h3⟩, ⟨_, _, _, ⟨_, _, h4⟩, ⟨_, _, _, ⟨_, _, h5⟩, _⟩⟩⟩⟩⟩⟩ := h
  unfold Qgf
  exact ⟨(Qatr h0), h2.1, (Qnc h3 fun _ _ h => (Qati h)), (Qnc h4 fun _ _ h => (Qatp h)), (Qnc h5 fun _ _ h => (Qatk h))⟩
theorem Qaax : Qga Qkb Qio (fun x => Qgf 9223372036854775807 x) := ⟨fun x k hx h0 h1 => by
  unfold Qkb Qio
  unfold Qgf at hx
  refine Qgo (Qaok.go _ _ hx.1 h0 h1) (by omega) (by omega) fun a0 b0 c0 => ?_
  refine Qgo (Qmc.go _ _ hx.2.1 a0 b0) (by omega) (by omega) fun a1 b1 c1 => ?_
  refine Qgo (Qanv.go _ _ hx.2.2.1 a1 b1) (by omega) (by omega) fun a2 b2 c2 => ?_
  refine Qgo (Qaog.go _ _ hx.2.2.2.1 a2 b2) (by omega) (by omega) fun a3 b3 c3 => ?_
  refine Qgo (Qanz.go _ _ hx.2.2.2.2 a3 b3) (by omega) (by omega) fun a4 b4 c4 => ?_
  right; omega⟩
def Qob (x : Qci) : Nat := Qip x.Row
theorem Qgw {B : Nat} {x : Qci} (h : Qob x ≤ B) : Qja B x := by
  unfold Qob at h
  unfold Qja
  exact (Qwd (by omega))
theorem Qadj {w : World} {B : Nat} {cs : List Value} {x : Qci} (h : Qnt.rd w B cs x) : Qja 9223372036854775807 x := by
  obtain ⟨_, _, _, _, ⟨_, _, _, h1, ⟨_, _, _, _, _⟩⟩⟩ := h
  unfold Qja
  exact (Qxe h1)
theorem Qabg : Qga Qon Qob (fun x => Qja 9223372036854775807 x) := ⟨fun x k hx h0 h1 => by
  unfold Qon Qob
  unfold Qja at hx
  refine Qgo (Qabf.go _ _ hx h0 h1) (by omega) (by omega) fun a0 b0 c0 => ?_
  right; omega⟩
theorem Qop (x : (List Int)) : Qcd x = x := by
  unfold Qcd
  rw [Qmi (b := fun k s => Qvs x k s) (xs := x) (by simp) (fun j s _ => rfl)]
  rfl
theorem Qapp (x : Qn) : Qgu x = x := by
  unfold Qgu
  simp only [Qop]
theorem Qapn (x : (List Qn)) : Qih x = x := by
  unfold Qih
  rw [Qmi (b := fun k s => Qvv x k s) (xs := x) (by simp) (fun j s _ => by
    show Sum.inr (s.set j (Qgu (gt x j))) = _
    rw [Qapp])]
  rfl
theorem Qapl (x : (List (List Qn))) : Qiw x = x := by
  unfold Qiw
  rw [Qmi (b := fun k s => Qvu x k s) (xs := x) (by simp) (fun j s _ => by
    show Sum.inr (s.set j (Qih (gt x j))) = _
    rw [Qapn])]
  rfl
theorem Qapj (x : Qx) : Qfq x = x := by
  unfold Qfq
  simp only [Qapl]
theorem Qapd (x : Qby) : Qif x = x := rfl
theorem Qapb (x : (List Qby)) : Qiv x = x := by
  unfold Qiv
  rw [Qmi (b := fun k s => Qvq x k s) (xs := x) (by simp) (fun j s _ => by
    show Sum.inr (s.set j (Qif (gt x j))) = _
    rw [Qapd])]
  rfl
theorem Qabk (x : Qcg) : Qcr x = x := by
  unfold Qcr
  simp only [Qapb, Qop]
theorem Qabo (x : Qaj) : Qey x = x := by
  unfold Qey
  simp only [Qop]
theorem Qabm (x : (List Qaj)) : Qgt x = x := by
  unfold Qgt
  rw [Qmi (b := fun k s => Qvt x k s) (xs := x) (by simp) (fun j s _ => by
    show Sum.inr (s.set j (Qey (gt x j))) = _
    rw [Qabo])]
  rfl
theorem Qaov (x : Qbf) : Qet x = x := by
  unfold Qet
  simp only [Qabk, Qop, Qabm]
theorem Qaot (x : (List Qbf)) : Qhu x = x := by
  unfold Qhu
  rw [Qmi (b := fun k s => Qvo x k s) (xs := x) (by simp) (fun j s _ => by
    show Sum.inr (s.set j (Qet (gt x j))) = _
    rw [Qaov])]
  rfl
theorem Qaph (x : Qbg) : Qfp x = x := by
  unfold Qfp
  simp only [Qabk, Qabm]
theorem Qapf (x : (List Qbg)) : Qig x = x := by
  unfold Qig
  rw [Qmi (b := fun k s => Qvr x k s) (xs := x) (by simp) (fun j s _ => by
    show Sum.inr (s.set j (Qfp (gt x j))) = _
    rw [Qaph])]
  rfl
theorem Qaoz (x : Qay) : Qfw x = x := by
  unfold Qfw
  simp only [Qop]
theorem Qaox (x : (List Qay)) : Qiu x = x := by
  unfold Qiu
  rw [Qmi (b := fun k s => Qvp x k s) (xs := x) (by simp) (fun j s _ => by
    show Sum.inr (s.set j (Qfw (gt x j))) = _
    rw [Qaoz])]
  rfl
theorem Qkc (x : Qag) : Qan x = x := by
  unfold Qan
  simp only [Qapj, Qop, Qaot, Qapf, Qaox]
theorem Qkd (x : Qci) : Qbi x = x := by
  unfold Qbi
  simp only [Qabo]
theorem Qom (x : (List Int)) : Qgm x x = true := by
  unfold Qgm
  rw [bne_self_eq_false, cond_false, Qmh (fun j _ => by simp only [Quu, bne_self_eq_false, cond_false])]
  rfl
theorem Qamp (x : Qn) : Qqa x x = true := by
  simp only [Qqa, bne_self_eq_false, cond_false, cond_true, Qom]
theorem Qamn (x : (List Qn)) : Qpz x x = true := by
  unfold Qpz
  rw [bne_self_eq_false, cond_false, Qmh (fun j _ => by simp only [Qux, cond_true, Qamp])]
  rfl
theorem Qaml (x : (List (List Qn))) : Qpy x x = true := by
  unfold Qpy
  rw [bne_self_eq_false, cond_false, Qmh (fun j _ => by simp only [Quw, cond_true, Qamn])]
  rfl
theorem Qamh (x : Qx) : Qpw x x = true := by
  simp only [Qpw, bne_self_eq_false, cond_false, cond_true, Qaml]
theorem Qamb (x : Qby) : Qpt x x = true := by
  simp only [Qpt, bne_self_eq_false, cond_false]
theorem Qalz (x : (List Qby)) : Qps x x = true := by
  unfold Qps
  rw [bne_self_eq_false, cond_false, Qmh (fun j _ => by simp only [Qus, cond_true, Qamb])]
  rfl
theorem Qaah (x : Qcg) : Qmx x x = true := by
  simp only [Qmx, bne_self_eq_false, cond_false, cond_true, Qalz, Qom]
theorem Qaal (x : Qaj) : Qmz x x = true := by
  simp only [Qmz, bne_self_eq_false, cond_false, cond_true, Qom]
theorem Qaaj (x : (List Qaj)) : Qmy x x = true := by
  unfold Qmy
  rw [bne_self_eq_false, cond_false, Qmh (fun j _ => by simp only [Quv, cond_true, Qaal])]
  rfl
theorem Qalt (x : Qbf) : Qpp x x = true := by
  simp only [Qpp, bne_self_eq_false, cond_false, cond_true, Qom, Qaah, Qaaj]
theorem Qalr (x : (List Qbf)) : Qpo x x = true := by
  unfold Qpo
  rw [bne_self_eq_false, cond_false, Qmh (fun j _ => by simp only [Quq, cond_true, Qalt])]
  rfl
theorem Qamf (x : Qbg) : Qpv x x = true := by
  simp only [Qpv, bne_self_eq_false, cond_false, cond_true, Qaah, Qaaj]
theorem Qamd (x : (List Qbg)) : Qpu x x = true := by
  unfold Qpu
  rw [bne_self_eq_false, cond_false, Qmh (fun j _ => by simp only [Qut, cond_true, Qamf])]
  rfl
theorem Qalx (x : Qay) : Qpr x x = true := by
  simp only [Qpr, bne_self_eq_false, cond_false, cond_true, Qom]
theorem Qalv (x : (List Qay)) : Qpq x x = true := by
  unfold Qpq
  rw [bne_self_eq_false, cond_false, Qmh (fun j _ => by simp only [Qur, cond_true, Qalx])]
  rfl
theorem Qaaf (x : Qag) : Qkp x x = true := by
  simp only [Qkp, bne_self_eq_false, cond_false, cond_true, Qalr, Qalv, Qamd, Qom, Qamh]
theorem Qamj (x : Qci) : Qpx x x = true := by
  simp only [Qpx, bne_self_eq_false, cond_false, cond_true, Qaal]
theorem Qang : Qjq (fun (_ : Int) (k : Int) => ((IntKind.i64.wrap (k + 1)), (k : Int))) (fun (x : Int) (k : Int) => (cond ((x) != k) (Sum.inl (-1)) (Sum.inr (IntKind.i64.wrap (k + 1))) : Int ⊕ Int)) (fun _ => 0) := ⟨fun x k h0 h1 => by
  have w1 : IntKind.i64.wrap (k + 1) = k + 1 := Qft (by omega) (by omega)
  simp only [w1]
  exact ⟨by omega, by omega, by simp only [bne_self_eq_false, cond_false]⟩⟩
theorem Qka : MkF Qu Qam List.length := Qlg Qang (b := fun _ k s => Qvk k s.1 s.2) (hb := fun x k s => Qvc x k s) (fun x => Qadt x) (fun _ _ => rfl) (fun _ _ => rfl) (fun _ _ _ => rfl) (fun _ _ _ => rfl)
theorem Qans : Qjq (fun (x : Qn) (k : Int) => ((IntKind.i64.wrap ((IntKind.i64.wrap (((Qu ((x).Values) (IntKind.i64.wrap (k + 1))).1) + 1)) + 1)), ((⟨k, (Qu ((x).Values) (IntKind.i64.wrap (k + 1))).2, (Qu ((x).Values) (IntKind.i64.wrap (k + 1))).1, (IntKind.i64.wrap (((Qu ((x).Values) (IntKind.i64.wrap (k + 1))).1) + 1))⟩ : Qn) : Qn))) (fun (x : Qn) (k : Int) => (cond (((x).Id) != k) (Sum.inl (-1)) (cond (decide ((Qam ((x).Values) (IntKind.i64.wrap (k + 1))) < 0)) (Sum.inl (-1)) (cond (((x).Born) != (Qam ((x).Values) (IntKind.i64.wrap (k + 1)))) (Sum.inl (-1)) (cond (((x).Died) != (IntKind.i64.wrap ((Qam ((x).Values) (IntKind.i64.wrap (k + 1))) + 1))) (Sum.inl (-1)) (Sum.inr (IntKind.i64.wrap ((IntKind.i64.wrap ((Qam ((x).Values) (IntKind.i64.wrap (k + 1))) + 1)) + 1)))))) : Int ⊕ Int)) Qfo := ⟨fun x k h0 h1 => by
  unfold Qfo at h1 ⊢
  have w1 : IntKind.i64.wrap (k + 1) = k + 1 := Qft (by omega) (by omega)
  obtain ⟨p2, q2, r2⟩ := Qka.go x.Values (k + 1) (by omega) (by omega)
  have d2 : decide ((Qu x.Values (k + 1)).1 < 0) = false := decide_eq_false (by omega)
  have w3 : IntKind.i64.wrap ((Qu x.Values (k + 1)).1 + 1) = (Qu x.Values (k + 1)).1 + 1 := Qft (by omega) (by omega)
  have w4 : IntKind.i64.wrap ((Qu x.Values (k + 1)).1 + 1 + 1) = (Qu x.Values (k + 1)).1 + 1 + 1 := Qft (by omega) (by omega)
  simp only [w1, w3, w4]
  exact ⟨by omega, by omega, by simp only [bne_self_eq_false, r2, d2, cond_false, w1, w3, w4]⟩⟩
theorem Qant : MkF Qht Qkr (wtS Qfo) := Qlg Qans (b := fun _ k s => Qvn k s.1 s.2) (hb := fun x k s => Qvf x k s) (fun x => rfl) (fun _ _ => rfl) (fun _ _ => rfl) (fun _ _ _ => rfl) (fun _ _ _ => rfl)
theorem Qanp : Qjq (fun (x : (List Qn)) (k : Int) => ((Qht (x) k).1, (((Qht (x) k).2) : (List Qn)))) (fun (x : (List Qn)) (k : Int) => (cond (decide ((Qkr (x) k) < 0)) (Sum.inl (-1)) (Sum.inr (Qkr (x) k)) : Int ⊕ Int)) (wtS Qfo) := ⟨fun x k h0 h1 => by
  obtain ⟨p1, q1, r1⟩ := Qant.go x k (by omega) (by omega)
  have d1 : decide ((Qht x k).1 < 0) = false := decide_eq_false (by omega)
  exact ⟨by omega, by omega, by simp only [r1, d1, cond_false]⟩⟩
theorem Qanq : MkF Qjh Qqc (wtS (wtS Qfo)) := Qlg Qanp (b := fun _ k s => Qvm k s.1 s.2) (hb := fun x k s => Qve x k s) (fun x => rfl) (fun _ _ => rfl) (fun _ _ => rfl) (fun _ _ _ => rfl) (fun _ _ _ => rfl)
theorem Qanl : MkF Qdz Qgn Qjc := ⟨fun x k h0 h1 => by
  unfold Qjc at h1 ⊢
  obtain ⟨p1, q1, r1⟩ := Qanq.go x.Segments k (by omega) (by omega)
  have d1 : decide ((Qjh x.Segments k).1 < 0) = false := decide_eq_false (by omega)
  unfold Qdz
  exact ⟨by dsimp only; omega, by dsimp only; omega, by simp only [Qgn, r1, d1, cond_false]⟩⟩
theorem Qanc : Qjq (fun (_ : Qby) (k : Int) => ((IntKind.i64.wrap ((IntKind.i64.wrap ((IntKind.i64.wrap (k + 1)) + 1)) + 1)), ((⟨k, (IntKind.i64.wrap (k + 1)), (IntKind.i64.wrap ((IntKind.i64.wrap (k + 1)) + 1))⟩ : Qby) : Qby))) (fun (x : Qby) (k : Int) => (cond (((x).Field) != k) (Sum.inl (-1)) (cond (((x).Low) != (IntKind.i64.wrap (k + 1))) (Sum.inl (-1)) (cond (((x).High) != (IntKind.i64.wrap ((IntKind.i64.wrap (k + 1)) + 1))) (Sum.inl (-1)) (Sum.inr (IntKind.i64.wrap ((IntKind.i64.wrap ((IntKind.i64.wrap (k + 1)) + 1)) + 1))))) : Int ⊕ Int)) (fun _ => 0) := ⟨fun x k h0 h1 => by
  have w1 : IntKind.i64.wrap (k + 1) = k + 1 := Qft (by omega) (by omega)
  have w2 : IntKind.i64.wrap (k + 1 + 1) = k + 1 + 1 := Qft (by omega) (by omega)
  have w3 : IntKind.i64.wrap (k + 1 + 1 + 1) = k + 1 + 1 + 1 := Qft (by omega) (by omega)
  simp only [w1, w2, w3]
  exact ⟨by omega, by omega, by simp only [bne_self_eq_false, cond_false]⟩⟩
theorem Qaaq : MkF Qau Qcn List.length := Qlg Qanc (b := fun _ k s => Qvi k s.1 s.2) (hb := fun x k s => Qva x k s) (fun x => Qadt x) (fun _ _ => rfl) (fun _ _ => rfl) (fun _ _ _ => rfl) (fun _ _ _ => rfl)
theorem Qanh : Qjq (fun (x : Qaj) (k : Int) => ((Qu ((x).Values) (IntKind.i64.wrap (k + 1))).1, ((⟨k, (Qu ((x).Values) (IntKind.i64.wrap (k + 1))).2⟩ : Qaj) : Qaj))) (fun (x : Qaj) (k : Int) => (cond (((x).Id) != k) (Sum.inl (-1)) (cond (decide ((Qam ((x).Values) (IntKind.i64.wrap (k + 1))) < 0)) (Sum.inl (-1)) (Sum.inr (Qam ((x).Values) (IntKind.i64.wrap (k + 1))))) : Int ⊕ Int)) Qip := ⟨fun x k h0 h1 => by
  unfold Qip at h1 ⊢
  have w1 : IntKind.i64.wrap (k + 1) = k + 1 := Qft (by omega) (by omega)
  obtain ⟨p2, q2, r2⟩ := Qka.go x.Values (k + 1) (by omega) (by omega)
  have d2 : decide ((Qu x.Values (k + 1)).1 < 0) = false := decide_eq_false (by omega)
  simp only [w1]
  exact ⟨by omega, by omega, by simp only [bne_self_eq_false, r2, d2, cond_false, w1]⟩⟩
theorem Qaau : MkF Qfe Qhc (wtS Qip) := Qlg Qanh (b := fun _ k s => Qvl k s.1 s.2) (hb := fun x k s => Qvd x k s) (fun x => rfl) (fun _ _ => rfl) (fun _ _ => rfl) (fun _ _ _ => rfl) (fun _ _ _ => rfl)
theorem Qamx : Qjq (fun (x : Qbf) (k : Int) => ((Qfe ((x).Rows) (IntKind.i64.wrap ((IntKind.i64.wrap ((IntKind.i64.wrap (((Qu ((x).Todo) (IntKind.i64.wrap (((Qu ((x).Query.Out) ((Qau ((x).Query.Conds) (IntKind.i64.wrap ((IntKind.i64.wrap (k + 1)) + 1))).1)).1) + 1))).1) + 1)) + 1)) + 1))).1, ((⟨(⟨k, (IntKind.i64.wrap (k + 1)), (Qau ((x).Query.Conds) (IntKind.i64.wrap ((IntKind.i64.wrap (k + 1)) + 1))).2, (Qu ((x).Query.Out) ((Qau ((x).Query.Conds) (IntKind.i64.wrap ((IntKind.i64.wrap (k + 1)) + 1))).1)).2⟩ : Qcg), (Qu ((x).Query.Out) ((Qau ((x).Query.Conds) (IntKind.i64.wrap ((IntKind.i64.wrap (k + 1)) + 1))).1)).1, (Qu ((x).Todo) (IntKind.i64.wrap (((Qu ((x).Query.Out) ((Qau ((x).Query.Conds) (IntKind.i64.wrap ((IntKind.i64.wrap (k + 1)) + 1))).1)).1) + 1))).2, (Qu ((x).Todo) (IntKind.i64.wrap (((Qu ((x).Query.Out) ((Qau ((x).Query.Conds) (IntKind.i64.wrap ((IntKind.i64.wrap (k + 1)) + 1))).1)).1) + 1))).1, (IntKind.i64.wrap (((Qu ((x).Todo) (IntKind.i64.wrap (((Qu ((x).Query.Out) ((Qau ((x).Query.Conds) (IntKind.i64.wrap ((IntKind.i64.wrap (k + 1)) + 1))).1)).1) + 1))).1) + 1)), (IntKind.i64.wrap ((IntKind.i64.wrap (((Qu ((x).Todo) (IntKind.i64.wrap (((Qu ((x).Query.Out) ((Qau ((x).Query.Conds) (IntKind.i64.wrap ((IntKind.i64.wrap (k + 1)) + 1))).1)).1) + 1))).1) + 1)) + 1)), (Qfe ((x).Rows) (IntKind.i64.wrap ((IntKind.i64.wrap ((IntKind.i64.wrap (((Qu ((x).Todo) (IntKind.i64.wrap (((Qu ((x).Query.Out) ((Qau ((x).Query.Conds) (IntKind.i64.wrap ((IntKind.i64.wrap (k + 1)) + 1))).1)).1) + 1))).1) + 1)) + 1)) + 1))).2⟩ : Qbf) : Qbf))) (fun (x : Qbf) (k : Int) => (cond (((x).Query.Id) != k) (Sum.inl (-1)) (cond (((x).Query.Tenant) != (IntKind.i64.wrap (k + 1))) (Sum.inl (-1)) (cond (decide ((Qcn ((x).Query.Conds) (IntKind.i64.wrap ((IntKind.i64.wrap (k + 1)) + 1))) < 0)) (Sum.inl (-1)) (cond (decide ((Qam ((x).Query.Out) (Qcn ((x).Query.Conds) (IntKind.i64.wrap ((IntKind.i64.wrap (k + 1)) + 1)))) < 0)) (Sum.inl (-1)) (cond (((x).Time) != (Qam ((x).Query.Out) (Qcn ((x).Query.Conds) (IntKind.i64.wrap ((IntKind.i64.wrap (k + 1)) + 1))))) (Sum.inl (-1)) (cond (decide ((Qam ((x).Todo) (IntKind.i64.wrap ((Qam ((x).Query.Out) (Qcn ((x).Query.Conds) (IntKind.i64.wrap ((IntKind.i64.wrap (k + 1)) + 1)))) + 1))) < 0)) (Sum.inl (-1)) (cond (((x).Age) != (Qam ((x).Todo) (IntKind.i64.wrap ((Qam ((x).Query.Out) (Qcn ((x).Query.Conds) (IntKind.i64.wrap ((IntKind.i64.wrap (k + 1)) + 1)))) + 1)))) (Sum.inl (-1)) (cond (((x).Sent) != (IntKind.i64.wrap ((Qam ((x).Todo) (IntKind.i64.wrap ((Qam ((x).Query.Out) (Qcn ((x).Query.Conds) (IntKind.i64.wrap ((IntKind.i64.wrap (k + 1)) + 1)))) + 1))) + 1))) (Sum.inl (-1)) (cond (((x).Cap) != (IntKind.i64.wrap ((IntKind.i64.wrap ((Qam ((x).Todo) (IntKind.i64.wrap ((Qam ((x).Query.Out) (Qcn ((x).Query.Conds) (IntKind.i64.wrap ((IntKind.i64.wrap (k + 1)) + 1)))) + 1))) + 1)) + 1))) (Sum.inl (-1)) (cond (decide ((Qhc ((x).Rows) (IntKind.i64.wrap ((IntKind.i64.wrap ((IntKind.i64.wrap ((Qam ((x).Todo) (IntKind.i64.wrap ((Qam ((x).Query.Out) (Qcn ((x).Query.Conds) (IntKind.i64.wrap ((IntKind.i64.wrap (k + 1)) + 1)))) + 1))) + 1)) + 1)) + 1))) < 0)) (Sum.inl (-1)) (Sum.inr (Qhc ((x).Rows) (IntKind.i64.wrap ((IntKind.i64.wrap ((IntKind.i64.wrap ((Qam ((x).Todo) (IntKind.i64.wrap ((Qam ((x).Query.Out) (Qcn ((x).Query.Conds) (IntKind.i64.wrap ((IntKind.i64.wrap (k + 1)) + 1)))) + 1))) + 1)) + 1)) + 1))))))))))))) : Int ⊕ Int)) Qld := ⟨fun x k h0 h1 => by
  unfold Qld Qmq at h1 ⊢
  have w1 : IntKind.i64.wrap (k + 1) = k + 1 := Qft (by omega) (by omega)
  have w2 : IntKind.i64.wrap (k + 1 + 1) = k + 1 + 1 := Qft (by omega) (by omega)
  obtain ⟨p3, q3, r3⟩ := Qaaq.go x.Query.Conds (k + 1 + 1) (by omega) (by omega)
  have d3 : decide ((Qau x.Query.Conds (k + 1 + 1)).1 < 0) = false := decide_eq_false (by omega)
  obtain ⟨p4, q4, r4⟩ := Qka.go x.Query.Out ((Qau x.Query.Conds (k + 1 + 1)).1) (by omega) (by omega)
  have d4 : decide ((Qu x.Query.Out ((Qau x.Query.Conds (k + 1 + 1)).1)).1 < 0) = false := decide_eq_false (by omega)
  have w5 : IntKind.i64.wrap ((Qu x.Query.Out ((Qau x.Query.Conds (k + 1 + 1)).1)).1 + 1) = (Qu x.Query.Out ((Qau x.Query.Conds (k + 1 + 1)).1)).1 + 1 := Qft (by omega) (by omega)
  obtain ⟨p6, q6, r6⟩ := Qka.go x.Todo ((Qu x.Query.Out ((Qau x.Query.Conds (k + 1 + 1)).1)).1 + 1) (by omega) (by omega)
  have d6 : decide ((Qu x.Todo ((Qu x.Query.Out ((Qau x.Query.Conds (k + 1 + 1)).1)).1 + 1)).1 < 0) = false := decide_eq_false (by omega)
  have w7 : IntKind.i64.wrap ((Qu x.Todo ((Qu x.Query.Out ((Qau x.Query.Conds (k + 1 + 1)).1)).1 + 1)).1 + 1) = (Qu x.Todo ((Qu x.Query.Out ((Qau x.Query.Conds (k + 1 + 1)).1)).1 + 1)).1 + 1 := Qft (by omega) (by omega)
  have w8 : IntKind.i64.wrap ((Qu x.Todo ((Qu x.Query.Out ((Qau x.Query.Conds (k + 1 + 1)).1)).1 + 1)).1 + 1 + 1) = (Qu x.Todo ((Qu x.Query.Out ((Qau x.Query.Conds (k + 1 + 1)).1)).1 + 1)).1 + 1 + 1 := Qft (by omega) (by omega)
  have w9 : IntKind.i64.wrap ((Qu x.Todo ((Qu x.Query.Out ((Qau x.Query.Conds (k + 1 + 1)).1)).1 + 1)).1 + 1 + 1 + 1) = (Qu x.Todo ((Qu x.Query.Out ((Qau x.Query.Conds (k + 1 + 1)).1)).1 + 1)).1 + 1 + 1 + 1 := Qft (by omega) (by omega)
  obtain ⟨p10, q10, r10⟩ := Qaau.go x.Rows ((Qu x.Todo ((Qu x.Query.Out ((Qau x.Query.Conds (k + 1 + 1)).1)).1 + 1)).1 + 1 + 1 + 1) (by omega) (by omega)
  have d10 : decide ((Qfe x.Rows ((Qu x.Todo ((Qu x.Query.Out ((Qau x.Query.Conds (k + 1 + 1)).1)).1 + 1)).1 + 1 + 1 + 1)).1 < 0) = false := decide_eq_false (by omega)
  simp only [w1, w2, w5, w7, w8, w9]
  exact ⟨by omega, by omega, by simp only [bne_self_eq_false, r3, d3, r4, d4, r6, d6, r10, d10, cond_false, w1, w2, w5, w7, w8, w9]⟩⟩
theorem Qamy : MkF Qfk Qje (wtS Qld) := Qlg Qamx (b := fun _ k s => Qvg k s.1 s.2) (hb := fun x k s => Quy x k s) (fun x => rfl) (fun _ _ => rfl) (fun _ _ => rfl) (fun _ _ _ => rfl) (fun _ _ _ => rfl)
theorem Qane : Qjq (fun (x : Qbg) (k : Int) => ((Qfe ((x).Rows) (IntKind.i64.wrap ((IntKind.i64.wrap (((Qu ((x).Query.Out) ((Qau ((x).Query.Conds) (IntKind.i64.wrap ((IntKind.i64.wrap (k + 1)) + 1))).1)).1) + 1)) + 1))).1, ((⟨(⟨k, (IntKind.i64.wrap (k + 1)), (Qau ((x).Query.Conds) (IntKind.i64.wrap ((IntKind.i64.wrap (k + 1)) + 1))).2, (Qu ((x).Query.Out) ((Qau ((x).Query.Conds) (IntKind.i64.wrap ((IntKind.i64.wrap (k + 1)) + 1))).1)).2⟩ : Qcg), (Qu ((x).Query.Out) ((Qau ((x).Query.Conds) (IntKind.i64.wrap ((IntKind.i64.wrap (k + 1)) + 1))).1)).1, (IntKind.i64.wrap (((Qu ((x).Query.Out) ((Qau ((x).Query.Conds) (IntKind.i64.wrap ((IntKind.i64.wrap (k + 1)) + 1))).1)).1) + 1)), (Qfe ((x).Rows) (IntKind.i64.wrap ((IntKind.i64.wrap (((Qu ((x).Query.Out) ((Qau ((x).Query.Conds) (IntKind.i64.wrap ((IntKind.i64.wrap (k + 1)) + 1))).1)).1) + 1)) + 1))).2⟩ : Qbg) : Qbg))) (fun (x : Qbg) (k : Int) => (cond (((x).Query.Id) != k) (Sum.inl (-1)) (cond (((x).Query.Tenant) != (IntKind.i64.wrap (k + 1))) (Sum.inl (-1)) (cond (decide ((Qcn ((x).Query.Conds) (IntKind.i64.wrap ((IntKind.i64.wrap (k + 1)) + 1))) < 0)) (Sum.inl (-1)) (cond (decide ((Qam ((x).Query.Out) (Qcn ((x).Query.Conds) (IntKind.i64.wrap ((IntKind.i64.wrap (k + 1)) + 1)))) < 0)) (Sum.inl (-1)) (cond (((x).Time) != (Qam ((x).Query.Out) (Qcn ((x).Query.Conds) (IntKind.i64.wrap ((IntKind.i64.wrap (k + 1)) + 1))))) (Sum.inl (-1)) (cond (((x).Steps) != (IntKind.i64.wrap ((Qam ((x).Query.Out) (Qcn ((x).Query.Conds) (IntKind.i64.wrap ((IntKind.i64.wrap (k + 1)) + 1)))) + 1))) (Sum.inl (-1)) (cond (decide ((Qhc ((x).Rows) (IntKind.i64.wrap ((IntKind.i64.wrap ((Qam ((x).Query.Out) (Qcn ((x).Query.Conds) (IntKind.i64.wrap ((IntKind.i64.wrap (k + 1)) + 1)))) + 1)) + 1))) < 0)) (Sum.inl (-1)) (Sum.inr (Qhc ((x).Rows) (IntKind.i64.wrap ((IntKind.i64.wrap ((Qam ((x).Query.Out) (Qcn ((x).Query.Conds) (IntKind.i64.wrap ((IntKind.i64.wrap (k + 1)) + 1)))) + 1)) + 1)))))))))) : Int ⊕ Int)) Qlf := ⟨fun x k h0 h1 => by
  unfold Qlf Qmq at h1 ⊢
  have w1 : IntKind.i64.wrap (k + 1) = k + 1 := Qft (by omega) (by omega)
  have w2 : IntKind.i64.wrap (k + 1 + 1) = k + 1 + 1 := Qft (by omega) (by omega)
  obtain ⟨p3, q3, r3⟩ := Qaaq.go x.Query.Conds (k + 1 + 1) (by omega) (by omega)
  have d3 : decide ((Qau x.Query.Conds (k + 1 + 1)).1 < 0) = false := decide_eq_false (by omega)
  obtain ⟨p4, q4, r4⟩ := Qka.go x.Query.Out ((Qau x.Query.Conds (k + 1 + 1)).1) (by omega) (by omega)
  have d4 : decide ((Qu x.Query.Out ((Qau x.Query.Conds (k + 1 + 1)).1)).1 < 0) = false := decide_eq_false (by omega)
  have w5 : IntKind.i64.wrap ((Qu x.Query.Out ((Qau x.Query.Conds (k + 1 + 1)).1)).1 + 1) = (Qu x.Query.Out ((Qau x.Query.Conds (k + 1 + 1)).1)).1 + 1 := Qft (by omega) (by omega)
  have w6 : IntKind.i64.wrap ((Qu x.Query.Out ((Qau x.Query.Conds (k + 1 + 1)).1)).1 + 1 + 1) = (Qu x.Query.Out ((Qau x.Query.Conds (k + 1 + 1)).1)).1 + 1 + 1 := Qft (by omega) (by omega)
  obtain ⟨p7, q7, r7⟩ := Qaau.go x.Rows ((Qu x.Query.Out ((Qau x.Query.Conds (k + 1 + 1)).1)).1 + 1 + 1) (by omega) (by omega)
  have d7 : decide ((Qfe x.Rows ((Qu x.Query.Out ((Qau x.Query.Conds (k + 1 + 1)).1)).1 + 1 + 1)).1 < 0) = false := decide_eq_false (by omega)
  simp only [w1, w2, w5, w6]
  exact ⟨by omega, by omega, by simp only [bne_self_eq_false, r3, d3, r4, d4, r7, d7, cond_false, w1, w2, w5, w6]⟩⟩
theorem Qanf : MkF Qgq Qlv (wtS Qlf) := Qlg Qane (b := fun _ k s => Qvj k s.1 s.2) (hb := fun x k s => Qvb x k s) (fun x => rfl) (fun _ _ => rfl) (fun _ _ => rfl) (fun _ _ _ => rfl) (fun _ _ _ => rfl)
theorem Qana : Qjq (fun (x : Qay) (k : Int) => ((Qu ((x).Rows) ((Qu ((x).Tenants) ((Qu ((x).Ids) (IntKind.i64.wrap ((IntKind.i64.wrap (k + 1)) + 1))).1)).1)).1, ((⟨k, (IntKind.i64.wrap (k + 1)), (Qu ((x).Ids) (IntKind.i64.wrap ((IntKind.i64.wrap (k + 1)) + 1))).2, (Qu ((x).Tenants) ((Qu ((x).Ids) (IntKind.i64.wrap ((IntKind.i64.wrap (k + 1)) + 1))).1)).2, (Qu ((x).Rows) ((Qu ((x).Tenants) ((Qu ((x).Ids) (IntKind.i64.wrap ((IntKind.i64.wrap (k + 1)) + 1))).1)).1)).2⟩ : Qay) : Qay))) (fun (x : Qay) (k : Int) => (cond (((x).Segment) != k) (Sum.inl (-1)) (cond (((x).Base) != (IntKind.i64.wrap (k + 1))) (Sum.inl (-1)) (cond (decide ((Qam ((x).Ids) (IntKind.i64.wrap ((IntKind.i64.wrap (k + 1)) + 1))) < 0)) (Sum.inl (-1)) (cond (decide ((Qam ((x).Tenants) (Qam ((x).Ids) (IntKind.i64.wrap ((IntKind.i64.wrap (k + 1)) + 1)))) < 0)) (Sum.inl (-1)) (cond (decide ((Qam ((x).Rows) (Qam ((x).Tenants) (Qam ((x).Ids) (IntKind.i64.wrap ((IntKind.i64.wrap (k + 1)) + 1))))) < 0)) (Sum.inl (-1)) (Sum.inr (Qam ((x).Rows) (Qam ((x).Tenants) (Qam ((x).Ids) (IntKind.i64.wrap ((IntKind.i64.wrap (k + 1)) + 1)))))))))) : Int ⊕ Int)) Qle := ⟨fun x k h0 h1 => by
  unfold Qle at h1 ⊢
  have w1 : IntKind.i64.wrap (k + 1) = k + 1 := Qft (by omega) (by omega)
  have w2 : IntKind.i64.wrap (k + 1 + 1) = k + 1 + 1 := Qft (by omega) (by omega)
  obtain ⟨p3, q3, r3⟩ := Qka.go x.Ids (k + 1 + 1) (by omega) (by omega)
  have d3 : decide ((Qu x.Ids (k + 1 + 1)).1 < 0) = false := decide_eq_false (by omega)
  obtain ⟨p4, q4, r4⟩ := Qka.go x.Tenants ((Qu x.Ids (k + 1 + 1)).1) (by omega) (by omega)
  have d4 : decide ((Qu x.Tenants ((Qu x.Ids (k + 1 + 1)).1)).1 < 0) = false := decide_eq_false (by omega)
  obtain ⟨p5, q5, r5⟩ := Qka.go x.Rows ((Qu x.Tenants ((Qu x.Ids (k + 1 + 1)).1)).1) (by omega) (by omega)
  have d5 : decide ((Qu x.Rows ((Qu x.Tenants ((Qu x.Ids (k + 1 + 1)).1)).1)).1 < 0) = false := decide_eq_false (by omega)
  simp only [w1, w2]
  exact ⟨by omega, by omega, by simp only [bne_self_eq_false, r3, d3, r4, d4, r5, d5, cond_false, w1, w2]⟩⟩
theorem Qanb : MkF Qjf Qqb (wtS Qle) := Qlg Qana (b := fun _ k s => Qvh k s.1 s.2) (hb := fun x k s => Quz x k s) (fun x => rfl) (fun _ _ => rfl) (fun _ _ => rfl) (fun _ _ _ => rfl) (fun _ _ _ => rfl)
theorem Qaas : MkF Qcb Qjy Qio := ⟨fun x k h0 h1 => by
  unfold Qio at h1 ⊢
  obtain ⟨p1, q1, r1⟩ := Qanl.go x.Store k (by omega) (by omega)
  have d1 : decide ((Qdz x.Store k).1 < 0) = false := decide_eq_false (by omega)
  have r1 : Qgn (⟨(Qdz x.Store k).2.Segments, x.Store.Now⟩ : Qx) k = (Qdz x.Store k).1 := r1
  obtain ⟨p2, q2, r2⟩ := Qka.go x.Order ((Qdz x.Store k).1) (by omega) (by omega)
  have d2 : decide ((Qu x.Order ((Qdz x.Store k).1)).1 < 0) = false := decide_eq_false (by omega)
  obtain ⟨p3, q3, r3⟩ := Qamy.go x.Active ((Qu x.Order ((Qdz x.Store k).1)).1) (by omega) (by omega)
  have d3 : decide ((Qfk x.Active ((Qu x.Order ((Qdz x.Store k).1)).1)).1 < 0) = false := decide_eq_false (by omega)
  obtain ⟨p4, q4, r4⟩ := Qanf.go x.Done ((Qfk x.Active ((Qu x.Order ((Qdz x.Store k).1)).1)).1) (by omega) (by omega)
  have d4 : decide ((Qgq x.Done ((Qfk x.Active ((Qu x.Order ((Qdz x.Store k).1)).1)).1)).1 < 0) = false := decide_eq_false (by omega)
  obtain ⟨p5, q5, r5⟩ := Qanb.go x.Ledger ((Qgq x.Done ((Qfk x.Active ((Qu x.Order ((Qdz x.Store k).1)).1)).1)).1) (by omega) (by omega)
  have d5 : decide ((Qjf x.Ledger ((Qgq x.Done ((Qfk x.Active ((Qu x.Order ((Qdz x.Store k).1)).1)).1)).1)).1 < 0) = false := decide_eq_false (by omega)
  unfold Qcb
  exact ⟨by dsimp only; omega, by dsimp only; omega, by simp only [Qjy, r1, d1, r2, d2, r3, d3, r4, d4, r5, d5, cond_false]⟩⟩
theorem Qanj : MkB Qjg Qip := ⟨fun x k h0 h1 => by
  unfold Qip at h1 ⊢
  obtain ⟨p1, q1⟩ := Qka.b.go x.Values k (by omega) (by omega)
  unfold Qjg
  exact ⟨by dsimp only; omega, by dsimp only; omega⟩⟩
theorem Qann : MkB Qna Qob := ⟨fun x k h0 h1 => by
  unfold Qob at h1 ⊢
  obtain ⟨p1, q1⟩ := Qanj.go x.Row k (by omega) (by omega)
  unfold Qna
  exact ⟨by dsimp only; omega, by dsimp only; omega⟩⟩
end Go.Proofs.YtmikmbmdibabmaaGreat

