/-
  Contracts of functions, printed by a program of ours.
-/
import Derived.Test.YtmikmbmdibabmaaGreatL9F4
namespace Go.Proofs.YtmikmbmdibabmaaGreat
open Go.RowKit
set_option maxRecDepth 100000
set_option maxHeartbeats 4000000
open _root_.Go.Proofs.Tryz
def Qtz (x0 : Qx) (x1 : Qbf) (k38 : Nat) : Bool ⊕ (Unit) :=
 cond (Qdg (gt x1.Todo k38) 0 (IntKind.i64.wrap (((x0.Segments.length : Nat) : Int) - 1))) (cond (decide (0 < ((k38 : Nat) : Int))) (cond (decide ((gt x1.Todo k38) ≤ (gt x1.Todo (k38 - 1)))) (Sum.inl false) (Sum.inr ())) (Sum.inr ())) (Sum.inl false)
def Qpl (x0 : Qx) (x1 : Qbf) : Bool :=
 Sum.elim id (fun (s : Unit) => cond (decide (0 < ((x1.Todo.length : Nat) : Int))) (cond (Qmv x1.Query) (cond (Qdg x1.Time 0 x0.Now) (cond (Qdg x1.Age 0 100000) (cond (Qdg x1.Sent 0 1000) (cond (Qdg x1.Cap 0 32) (Qol x1.Rows) false) false) false) false) false) false) (rng (R := Bool) (fun k (_ : Unit) => Qtz x0 x1 k) (x1.Todo.length - 0) 0 ())
theorem Qafv : Cb Tryz.prog 120 := ⟨f120, _, func120, rfl, by decide⟩
theorem Qakd (w : World) (z0 : List Value) (x0 : Qx) (z1 : List Value) (x1 : Qbf) (r_0 : Qcz.rd w w.heap.size z0 x0) (r_1 : Qbw.rd w w.heap.size z1 x1) :
  Calls Tryz.prog 120 #[.agg z0.toArray, .agg z1.toArray] w fun e w' => e = .returned (.bool (Qpl x0 x1)) ∧ Below w.heap.size w w' := by
 obtain ⟨v1, rfl, r2⟩ := Qgy r_0
 obtain ⟨m3, A4, c5, rfl, q6, r7⟩ := Qk r2
 obtain ⟨v8, v10, v12, v14, rfl, r9, r11, r13, r15⟩ := Qhz r_1
 obtain ⟨m16, A17, c18, rfl, q19, r20⟩ := Qk r9
 obtain ⟨m21, A22, c23, rfl, q24, r25⟩ := Qk r11
 obtain ⟨m26, A27, c28, rfl, q29, r30⟩ := Qk r13
 obtain ⟨m31, A32, c33, rfl, q34, r35⟩ := Qk r15
 refine ce2 (L := [(0, .agg #[.slice A4 x0.Segments.length c5, .int .i64 x0.Now]), (1, .agg #[.int .i64 x1.Query.Id, .int .i64 x1.Query.Tenant, .slice A17 x1.Query.Conds.length c18, .slice A22 x1.Query.Out.length c23, .int .i64 x1.Time, .slice A27 x1.Todo.length c28, .int .i64 x1.Age, .int .i64 x1.Sent, .int .i64 x1.Cap, .slice A32 x1.Rows.length c33])]) (N := 73) func120 ?_
 refine sr ?_
 refine Qbj rfl (Qo rfl) (by decide) (fun p36 => ?_)
 refine Qbj rfl (Qo rfl) (by decide) (fun p37 => ?_)
 refine wa (nt' (Qf (sr ?_)))
 refine wv (vf Qbu rfl Qap) ?_
 refine wv (vl 0 5 Qv) ?_
 refine wv (Qai Qv) ?_
 refine wm (nt' (Qab ?_))
 let F1 := fun k (_ : Unit) => Qtz x0 x1 k
 let R2 := rng (R := Bool) F1
 let K3 : List Value := [.int .i64 x1.Query.Id, .int .i64 x1.Query.Tenant, .slice A17 x1.Query.Conds.length c18, .slice A22 x1.Query.Out.length c23, .int .i64 x1.Time, .slice A27 x1.Todo.length c28, .int .i64 x1.Age, .int .i64 x1.Sent, .int .i64 x1.Cap, .slice A32 x1.Rows.length c33]
 let I4 : It := Qa p36 42 [.slice A4 x0.Segments.length c5, .int .i64 x0.Now]
 refine Qbl (σ := Nat × (Unit) × (Unit)) (fun s => [(2, .pointer (some (⟨p36, 0, none⟩ : Addr))), (3, .pointer (some (⟨p37, 0, none⟩ : Addr))), (8, .slice A27 x1.Todo.length c28), (9, .int .i64 ((x1.Todo.length : Nat) : Int)), (10, .int .i64 ((s.1 : Nat) : Int))]) (fun s => [Qa p37 64 K3, I4]) (fun s => s.1 ≤ x1.Todo.length ∧ R2 (x1.Todo.length - s.1) s.1 s.2.1 = R2 (x1.Todo.length - 0) 0 ()) (fun s => x1.Todo.length - s.1) (0, (), ()) sl5 (fun W hm => hm) ⟨(by omega), rfl⟩ ?_
 rintro ⟨k38, ⟨⟩, ⟨⟩⟩ H41
 obtain ⟨hk39, hF40⟩ : k38 ≤ x1.Todo.length ∧ R2 (x1.Todo.length - k38) k38 () = R2 (x1.Todo.length - 0) 0 () := H41
 show CM Tryz.prog 73 _ _ _ _ [(2, .pointer (some (⟨p36, 0, none⟩ : Addr))), (3, .pointer (some (⟨p37, 0, none⟩ : Addr))), (8, .slice A27 x1.Todo.length c28), (9, .int .i64 ((x1.Todo.length : Nat) : Int)), (10, .int .i64 ((k38 : Nat) : Int))] [Qa p37 64 K3, I4]
 refine sr ?_
 refine wv Qak ?_
 refine nt' (Qf ?_)
 by_cases hl42 : k38 < x1.Todo.length
 ·have g43 := dlT hl42
  refine Ql rfl g43 ?_
  refine Qq (Qi (Qf (Qab (sr (wm ?_)))))
  obtain ⟨a44, rfl, hb45, he46⟩ := q29 (by omega)
  refine wv (vix 1 k38 Qv Qh) ?_
  refine wv (fun W hm => Qaw Qt rfl rfl ((hm.cell0 (show (a44.add (k38 * 1)).block < w.heap.size from by rw [Qah]; exact hb45.1)).trans (Qex he46 k38 (by omega)))) ?_
  refine wa (wa (nt' (sr (wm ?_))))
  refine wv (vf Qaf rfl Qcu) ?_
  refine wv (vl 1 0 Qas) ?_
  refine wv (Qai Qas) ?_
  refine wv (fun W hm => Qhw rfl rfl) ?_
  refine wcv (Qr Qfc rfl) (fun W hm => Qfd W (gt x1.Todo k38) 0 (IntKind.i64.wrap (((x0.Segments.length : Nat) : Int) - 1))) ?_
  refine wv Qbr ?_
  refine wm ?_
  rcases Bool.eq_false_or_eq_true (Qdg (gt x1.Todo k38) 0 (IntKind.i64.wrap (((x0.Segments.length : Nat) : Int) - 1))) with g48 | g48
  ·
   have hw := Qfv g48
   rw [Qxl (by omega)] at hw
   refine wg vmv (nt g48) ?_
   refine wg (fun W hm => Qfy rfl rfl) (nt g48) ?_
   refine wg vmv (nt g48) ?_
   by_cases h49 : 0 < ((k38 : Nat) : Int)
   ·have g50 := decide_eq_true h49
    refine wg (vf Qbu rfl Qap) g50 ?_
    refine wg (vl 0 5 Qv) g50 ?_
    refine wg vmv g50 ?_
    refine wg (fun W hm => Qml (p := k38) (q := 1) rfl rfl (by omega) (by omega)) g50 ?_
    refine wg (fun W hm => Qkf (sz := 1) (k := k38 - 1) Qv Qh rfl rfl rfl (by omega)) g50 ?_
    refine wg (fun W hm => Qaw Qt rfl rfl ((hm.cell0 (show (a44.add ((k38 - 1) * 1)).block < w.heap.size from by rw [Qah]; exact hb45.1)).trans (Qex he46 (k38 - 1) (by omega)))) g50 ?_
    refine wg vmv g50 ?_
    refine wg (fun W hm => Qii rfl rfl) g50 ?_
    refine wg (vpT g50) (nt g48) ?_
    refine wv (vpF (nt g48)) ?_
    refine nt' ?_
    by_cases h51 : (gt x1.Todo k38) ≤ (gt x1.Todo (k38 - 1))
    ·have g52 := decide_eq_true h51
     refine Ql rfl g52 ?_
     refine sr (wa (nt' (Qj (Qy (Qe (Qe (Qy (Qe ?_))))))))
     exact rtb (h := Qba (Qbc (body := F1) (k := k38) (s := ()) (show k38 < x1.Todo.length from by omega) (Qb g48 (Qb g50 (Qb g52 (rfl)))) hF40) rfl)
    have g52 := decide_eq_false h51
    refine Qp rfl g52 ?_
    refine Qq (Qax (Qi (Qad ?_)))
    refine wv (Qbd k38 1 (by omega)) ?_
    refine wm (Qal ?_)
    have hn53 := Qbb (R := Bool) (body := F1) (k := k38) (s := ()) (s' := ()) (show k38 < x1.Todo.length from by omega) (Qb g48 (Qb g50 (Qc g52 (rfl)))) hF40
    exact Qaz (k38 + 1, (), ()) sl5 (fun W hm => hm) ⟨(by omega), hn53⟩ (rl (by omega))
   have g50 := decide_eq_false h49
   refine ws g50 ?_
   refine ws g50 ?_
   refine ws g50 ?_
   refine ws g50 ?_
   refine ws g50 ?_
   refine ws g50 ?_
   refine ws g50 ?_
   refine ws g50 ?_
   refine wg (vpF g50) (nt g48) ?_
   refine wv (vpF (nt g48)) ?_
   refine nt' ?_
   refine Qp rfl rfl ?_
   refine Qq (Qax (Qi (Qad ?_)))
   refine wv (Qbd k38 1 (by omega)) ?_
   refine wm (Qal ?_)
   have hn54 := Qbb (R := Bool) (body := F1) (k := k38) (s := ()) (s' := ()) (show k38 < x1.Todo.length from by omega) (Qb g48 (Qc g50 (rfl))) hF40
   exact Qaz (k38 + 1, (), ()) sl5 (fun W hm => hm) ⟨(by omega), hn54⟩ (rl (by omega))
  refine ws (nf g48) ?_
  refine ws (nf g48) ?_
  refine ws (nf g48) ?_
  refine wu ?_
  refine wu ?_
  refine wu ?_
  refine wu ?_
  refine wu ?_
  refine wu ?_
  refine wu ?_
  refine wu ?_
  refine ws (nf g48) ?_
  refine wv (vpT (nf g48)) ?_
  refine nt' ?_
  refine Ql rfl rfl ?_
  refine sr (wa (nt' (Qj (Qy (Qe (Qe (Qy (Qe ?_))))))))
  exact rtb (h := Qba (Qbc (body := F1) (k := k38) (s := ()) (show k38 < x1.Todo.length from by omega) (Qc g48 (rfl)) hF40) rfl)
 have g43 := dlF hl42
 refine Qp rfl g43 ?_
 refine Qbk (Qac (Qac ?_))
 have hE55 : R2 (x1.Todo.length - 0) 0 () = Sum.inr () := Qbn hl42 hF40
 refine Qbm (Qi (sr ?_))
 refine wv (vf Qbu rfl Qap) ?_
 refine wv (vl 0 5 Qv) ?_
 refine wv (Qai Qv) ?_
 refine wv (fun W hm => Qfy rfl rfl) ?_
 refine wm ?_
 by_cases h56 : 0 < ((x1.Todo.length : Nat) : Int)
 ·have g57 := decide_eq_true h56
  refine wg (vf Qbu rfl Qcl) g57 ?_
  refine wg (fun W hm => Qz (cs := [.int .i64 x1.Query.Id, .int .i64 x1.Query.Tenant, .slice A17 x1.Query.Conds.length c18, .slice A22 x1.Query.Out.length c23]) Qch Qcl rfl rfl (hm.boxPart (n := 0) rfl rfl)) g57 ?_
  refine Qdm (Qr Qyg rfl) (fun W hm => Qzt W _ x1.Query (Qjb (x := x1.Query) (hm.rdS0 r20) (hm.rdS0 r25))) (Qcq rfl rfl rfl (bw g57 rfl)) (by decide) ?_
  refine wv (vpT g57) ?_
  refine wm ?_
  rcases Bool.eq_false_or_eq_true (Qmv x1.Query) with g59 | g59
  ·
   refine wg (vf Qbu rfl Qh) g59 ?_
   refine wg (vl 0 4 Qt) g59 ?_
   refine wg (vf Qaf rfl Qh) g59 ?_
   refine wg (vl 1 1 Qt) g59 ?_
   refine Qdm (Qr Qfc rfl) (fun W hm => Qfd W x1.Time 0 x0.Now) (Qcq rfl rfl rfl (bw g59 rfl)) (by decide) ?_
   refine wv (vpT g59) ?_
   refine wm ?_
   rcases Bool.eq_false_or_eq_true (Qdg x1.Time 0 x0.Now) with g61 | g61
   ·
    have hw := Qfv g61
    refine wg (vf Qbu rfl Qh) g61 ?_
    refine wg (vl 0 6 Qt) g61 ?_
    refine Qdm (Qr Qfc rfl) (fun W hm => Qfd W x1.Age 0 100000) (Qcq rfl rfl rfl (bw g61 rfl)) (by decide) ?_
    refine wv (vpT g61) ?_
    refine wm ?_
    rcases Bool.eq_false_or_eq_true (Qdg x1.Age 0 100000) with g63 | g63
    ·
     have hw := Qfv g63
     refine wg (vf Qbu rfl Qh) g63 ?_
     refine wg (vl 0 7 Qt) g63 ?_
     refine Qdm (Qr Qfc rfl) (fun W hm => Qfd W x1.Sent 0 1000) (Qcq rfl rfl rfl (bw g63 rfl)) (by decide) ?_
     refine wv (vpT g63) ?_
     refine wm ?_
     rcases Bool.eq_false_or_eq_true (Qdg x1.Sent 0 1000) with g65 | g65
     ·
      have hw := Qfv g65
      refine wg (vf Qbu rfl Qh) g65 ?_
      refine wg (vl 0 8 Qt) g65 ?_
      refine Qdm (Qr Qfc rfl) (fun W hm => Qfd W x1.Cap 0 32) (Qcq rfl rfl rfl (bw g65 rfl)) (by decide) ?_
      refine wv (vpT g65) ?_
      refine wm ?_
      rcases Bool.eq_false_or_eq_true (Qdg x1.Cap 0 32) with g67 | g67
      ·
       have hw := Qfv g67
       refine wg (vf Qbu rfl Qfa) g67 ?_
       refine wg (vl 0 9 Qdv) g67 ?_
       refine Qdm (Qr Qyh rfl) (fun W hm => Qaad W _ x1.Rows (hm.rdS0 r35)) (Qcq rfl rfl rfl (bw g67 rfl)) (by decide) ?_
       refine wv (vpT g67) ?_
       refine wa (nt' (Qj ?_))
       exact rtb (h := Qat hE55 (Qb g57 (Qb g59 (Qb g61 (Qb g63 (Qb g65 (Qb g67 (rfl))))))))
      refine ws g67 ?_
      refine ws g67 ?_
      refine ws g67 ?_
      refine wv (vpF g67) ?_
      refine wa (nt' (Qj ?_))
      exact rtb (h := Qat hE55 (Qb g57 (Qb g59 (Qb g61 (Qb g63 (Qb g65 (Qc g67 (rfl))))))))
     refine ws g65 ?_
     refine ws g65 ?_
     refine ws g65 ?_
     refine wv (vpF g65) ?_
     refine wm ?_
     refine wk ?_
     refine wk ?_
     refine wk ?_
     refine wv (vpF rfl) ?_
     refine wa (nt' (Qj ?_))
     exact rtb (h := Qat hE55 (Qb g57 (Qb g59 (Qb g61 (Qb g63 (Qc g65 (rfl)))))))
    refine ws g63 ?_
    refine ws g63 ?_
    refine ws g63 ?_
    refine wv (vpF g63) ?_
    refine wm ?_
    refine wk ?_
    refine wk ?_
    refine wk ?_
    refine wv (vpF rfl) ?_
    refine wm ?_
    refine wk ?_
    refine wk ?_
    refine wk ?_
    refine wv (vpF rfl) ?_
    refine wa (nt' (Qj ?_))
    exact rtb (h := Qat hE55 (Qb g57 (Qb g59 (Qb g61 (Qc g63 (rfl))))))
   refine ws g61 ?_
   refine ws g61 ?_
   refine ws g61 ?_
   refine wv (vpF g61) ?_
   refine wm ?_
   refine wk ?_
   refine wk ?_
   refine wk ?_
   refine wv (vpF rfl) ?_
   refine wm ?_
   refine wk ?_
   refine wk ?_
   refine wk ?_
   refine wv (vpF rfl) ?_
   refine wm ?_
   refine wk ?_
   refine wk ?_
   refine wk ?_
   refine wv (vpF rfl) ?_
   refine wa (nt' (Qj ?_))
   exact rtb (h := Qat hE55 (Qb g57 (Qb g59 (Qc g61 (rfl)))))
  refine ws g59 ?_
  refine ws g59 ?_
  refine ws g59 ?_
  refine ws g59 ?_
  refine ws g59 ?_
  refine wv (vpF g59) ?_
  refine wm ?_
  refine wk ?_
  refine wk ?_
  refine wk ?_
  refine wv (vpF rfl) ?_
  refine wm ?_
  refine wk ?_
  refine wk ?_
  refine wk ?_
  refine wv (vpF rfl) ?_
  refine wm ?_
  refine wk ?_
  refine wk ?_
  refine wk ?_
  refine wv (vpF rfl) ?_
  refine wm ?_
  refine wk ?_
  refine wk ?_
  refine wk ?_
  refine wv (vpF rfl) ?_
  refine wa (nt' (Qj ?_))
  exact rtb (h := Qat hE55 (Qb g57 (Qc g59 (rfl))))
 have g57 := decide_eq_false h56
 refine ws g57 ?_
 refine ws g57 ?_
 refine ws g57 ?_
 refine wv (vpF g57) ?_
 refine wm ?_
 refine wk ?_
 refine wk ?_
 refine wk ?_
 refine wk ?_
 refine wk ?_
 refine wv (vpF rfl) ?_
 refine wm ?_
 refine wk ?_
 refine wk ?_
 refine wk ?_
 refine wv (vpF rfl) ?_
 refine wm ?_
 refine wk ?_
 refine wk ?_
 refine wk ?_
 refine wv (vpF rfl) ?_
 refine wm ?_
 refine wk ?_
 refine wk ?_
 refine wk ?_
 refine wv (vpF rfl) ?_
 refine wm ?_
 refine wk ?_
 refine wk ?_
 refine wk ?_
 refine wv (vpF rfl) ?_
 refine wa (nt' (Qj ?_))
 exact rtb (h := Qat hE55 (Qc g57 (rfl)))

def Qrm (x0 : (List Int)) (k6 : Nat) : Bool ⊕ (Unit) :=
 cond (decide ((gt x0 k6) < 0)) (Sum.inl false) (cond (decide (24 ≤ (gt x0 k6))) (Sum.inl false) (cond (decide (0 < ((k6 : Nat) : Int))) (cond (decide ((gt x0 k6) ≤ (gt x0 (k6 - 1)))) (Sum.inl false) (Sum.inr ())) (Sum.inr ())))
def Qoj (x0 : (List Int)) : Bool :=
 Sum.elim id (fun (s : Unit) => true) (rng (R := Bool) (fun k (_ : Unit) => Qrm x0 k) (x0.length - 0) 0 ())
theorem Qahg : Cb Tryz.prog 188 := ⟨f188, _, func188, rfl, by decide⟩
theorem Qaju (w : World) (z0 : Value) (x0 : (List Int)) (r_0 : rdS Qg w w.heap.size z0 x0) :
  Calls Tryz.prog 188 #[z0] w fun e w' => e = .returned (.bool (Qoj x0)) ∧ Below w.heap.size w w' := by
 obtain ⟨m1, A2, c3, rfl, q4, r5⟩ := Qk r_0
 refine ce1 (L := [(0, .slice A2 x0.length c3)]) (N := 32) func188 ?_
 refine sr (wa (nt' (Qf (sr (wm ?_)))))
 refine wv (Qai Qv) ?_
 refine wm (nt' (Qab ?_))
 let F1 := fun k (_ : Unit) => Qrm x0 k
 let R2 := rng (R := Bool) F1
 refine Qbl (σ := Nat × (Unit) × (Unit)) (fun s => [(0, .slice A2 x0.length c3), (5, .slice A2 x0.length c3), (6, .int .i64 ((x0.length : Nat) : Int)), (7, .int .i64 ((s.1 : Nat) : Int))]) (fun s => []) (fun s => s.1 ≤ x0.length ∧ R2 (x0.length - s.1) s.1 s.2.1 = R2 (x0.length - 0) 0 ()) (fun s => x0.length - s.1) (0, (), ()) sl4 (fun W hm => hm) ⟨(by omega), rfl⟩ ?_
 rintro ⟨k6, ⟨⟩, ⟨⟩⟩ H9
 obtain ⟨hk7, hF8⟩ : k6 ≤ x0.length ∧ R2 (x0.length - k6) k6 () = R2 (x0.length - 0) 0 () := H9
 show CM Tryz.prog 32 _ _ _ _ [(0, .slice A2 x0.length c3), (5, .slice A2 x0.length c3), (6, .int .i64 ((x0.length : Nat) : Int)), (7, .int .i64 ((k6 : Nat) : Int))] []
 refine sr ?_
 refine wv Qak ?_
 refine nt' (Qf ?_)
 by_cases hl10 : k6 < x0.length
 ·have g11 := dlT hl10
  refine Ql rfl g11 ?_
  refine Qq (Qi (Qf (Qab (sr (wm ?_)))))
  obtain ⟨a12, rfl, hb13, he14⟩ := q4 (by omega)
  refine wv (vix 1 k6 Qv Qh) ?_
  refine wv (fun W hm => Qaw Qt rfl rfl ((hm.cell0 (show (a12.add (k6 * 1)).block < w.heap.size from by rw [Qah]; exact hb13.1)).trans (Qex he14 k6 (by omega)))) ?_
  refine wa (wa (nt' (sr (wm ?_))))
  refine wv Qak ?_
  refine wm ?_
  by_cases h15 : (gt x0 k6) < 0
  ·have g16 := decide_eq_true h15
   refine ws g16 ?_
   refine ws g16 ?_
   refine wv (vpT g16) ?_
   refine wm ?_
   refine wk ?_
   refine wk ?_
   refine wk ?_
   refine wu ?_
   refine wu ?_
   refine wu ?_
   refine wu ?_
   refine wu ?_
   refine wu ?_
   refine wu ?_
   refine wk ?_
   refine wv (vpT rfl) ?_
   refine nt' ?_
   refine Ql rfl rfl ?_
   refine sr (wa (nt' (Qj (Qy (Qe (Qe (Qy (Qe ?_))))))))
   exact rtb (h := Qba (Qbc (body := F1) (k := k6) (s := ()) (show k6 < x0.length from by omega) (Qb g16 (rfl)) hF8) rfl)
  have g16 := decide_eq_false h15
  refine wg vmv g16 ?_
  refine wg (fun W hm => Qii rfl rfl) g16 ?_
  refine wv (vpF g16) ?_
  refine wm ?_
  by_cases h17 : 24 ≤ (gt x0 k6)
  ·have g18 := decide_eq_true h17
   refine ws g18 ?_
   refine ws g18 ?_
   refine ws g18 ?_
   refine wu ?_
   refine wu ?_
   refine wu ?_
   refine wu ?_
   refine wu ?_
   refine wu ?_
   refine wu ?_
   refine ws g18 ?_
   refine wv (vpT g18) ?_
   refine nt' ?_
   refine Ql rfl rfl ?_
   refine sr (wa (nt' (Qj (Qy (Qe (Qe (Qy (Qe ?_))))))))
   exact rtb (h := Qba (Qbc (body := F1) (k := k6) (s := ()) (show k6 < x0.length from by omega) (Qc g16 (Qb g18 (rfl))) hF8) rfl)
  have g18 := decide_eq_false h17
  refine wg vmv g18 ?_
  refine wg (fun W hm => Qfy rfl rfl) g18 ?_
  refine wg vmv g18 ?_
  by_cases h19 : 0 < ((k6 : Nat) : Int)
  ·have g20 := decide_eq_true h19
   refine wg vmv g20 ?_
   refine wg vmv g20 ?_
   refine wg (fun W hm => Qml (p := k6) (q := 1) rfl rfl (by omega) (by omega)) g20 ?_
   refine wg (fun W hm => Qkf (sz := 1) (k := k6 - 1) Qv Qh rfl rfl rfl (by omega)) g20 ?_
   refine wg (fun W hm => Qaw Qt rfl rfl ((hm.cell0 (show (a12.add ((k6 - 1) * 1)).block < w.heap.size from by rw [Qah]; exact hb13.1)).trans (Qex he14 (k6 - 1) (by omega)))) g20 ?_
   refine wg vmv g20 ?_
   refine wg (fun W hm => Qii rfl rfl) g20 ?_
   refine wg (vpT g20) g18 ?_
   refine wv (vpF g18) ?_
   refine nt' ?_
   by_cases h21 : (gt x0 k6) ≤ (gt x0 (k6 - 1))
   ·have g22 := decide_eq_true h21
    refine Ql rfl g22 ?_
    refine sr (wa (nt' (Qj (Qy (Qe (Qe (Qy (Qe ?_))))))))
    exact rtb (h := Qba (Qbc (body := F1) (k := k6) (s := ()) (show k6 < x0.length from by omega) (Qc g16 (Qc g18 (Qb g20 (Qb g22 (rfl))))) hF8) rfl)
   have g22 := decide_eq_false h21
   refine Qp rfl g22 ?_
   refine Qq (Qax (Qi (Qad ?_)))
   refine wv (Qbd k6 1 (by omega)) ?_
   refine wm (Qal ?_)
   have hn23 := Qbb (R := Bool) (body := F1) (k := k6) (s := ()) (s' := ()) (show k6 < x0.length from by omega) (Qc g16 (Qc g18 (Qb g20 (Qc g22 (rfl))))) hF8
   exact Qaz (k6 + 1, (), ()) sl4 (fun W hm => hm) ⟨(by omega), hn23⟩ (rl (by omega))
  have g20 := decide_eq_false h19
  refine ws g20 ?_
  refine ws g20 ?_
  refine ws g20 ?_
  refine ws g20 ?_
  refine ws g20 ?_
  refine ws g20 ?_
  refine ws g20 ?_
  refine wg (vpF g20) g18 ?_
  refine wv (vpF g18) ?_
  refine nt' ?_
  refine Qp rfl rfl ?_
  refine Qq (Qax (Qi (Qad ?_)))
  refine wv (Qbd k6 1 (by omega)) ?_
  refine wm (Qal ?_)
  have hn24 := Qbb (R := Bool) (body := F1) (k := k6) (s := ()) (s' := ()) (show k6 < x0.length from by omega) (Qc g16 (Qc g18 (Qc g20 (rfl)))) hF8
  exact Qaz (k6 + 1, (), ()) sl4 (fun W hm => hm) ⟨(by omega), hn24⟩ (rl (by omega))
 have g11 := dlF hl10
 refine Qp rfl g11 ?_
 refine Qbk (Qac (Qac ?_))
 have hE25 : R2 (x0.length - 0) 0 () = Sum.inr () := Qbn hl10 hF8
 refine Qbm (Qi (sr (wa (nt' (Qj ?_)))))
 exact rtb (h := Qat hE25 (rfl))

def Qtt (x0 : Qay) (k31 : Nat) : Bool ⊕ (Unit) :=
 cond (Qdg (gt x0.Tenants k31) 0 3) (cond (Qdg (gt x0.Rows k31) 0 x0.Base) (Sum.inr ()) (Sum.inl false)) (Sum.inl false)
def Qmu (x0 : Qay) : Bool :=
 cond (Qoj x0.Ids) (cond (Qdg ((x0.Ids.length : Nat) : Int) 1 8) (cond (((x0.Tenants.length : Nat) : Int) != ((x0.Ids.length : Nat) : Int)) false (cond (((x0.Rows.length : Nat) : Int) != ((x0.Ids.length : Nat) : Int)) false (Sum.elim id (fun (s : Unit) => cond (Qdg x0.Segment 0 7) (Qdg x0.Base 0 4) false) (rng (R := Bool) (fun k (_ : Unit) => Qtt x0 k) (x0.Ids.length - 0) 0 ())))) false) false
theorem Qafw : Cb Tryz.prog 123 := ⟨f123, _, func123, rfl, by decide⟩
theorem Qajr (w : World) (z0 : List Value) (x0 : Qay) (r_0 : Qbx.rd w w.heap.size z0 x0) :
  Calls Tryz.prog 123 #[.agg z0.toArray] w fun e w' => e = .returned (.bool (Qmu x0)) ∧ Below w.heap.size w w' := by
 obtain ⟨v1, v3, v5, rfl, r2, r4, r6⟩ := Qik r_0
 obtain ⟨m7, A8, c9, rfl, q10, r11⟩ := Qk r2
 obtain ⟨m12, A13, c14, rfl, q15, r16⟩ := Qk r4
 obtain ⟨m17, A18, c19, rfl, q20, r21⟩ := Qk r6
 refine ce1 (L := [(0, .agg #[.int .i64 x0.Segment, .int .i64 x0.Base, .slice A8 x0.Ids.length c9, .slice A13 x0.Tenants.length c14, .slice A18 x0.Rows.length c19])]) (N := 64) func123 ?_
 refine sr ?_
 refine Qbj rfl (Qo rfl) (by decide) (fun p22 => ?_)
 refine wa (nt' (sr ?_))
 refine wv (vf Qcm rfl Qap) ?_
 refine wv (vl 0 2 Qv) ?_
 refine wv (Qai Qv) ?_
 refine wa (nt' (Qf (sr ?_)))
 refine wv (vf Qcm rfl Qap) ?_
 refine wv (vl 0 2 Qv) ?_
 refine wcv (Qr Qahg rfl) (fun W hm => Qaju W _ x0.Ids (hm.rdS0 r11)) ?_
 refine wv Qbr ?_
 refine wm ?_
 rcases Bool.eq_false_or_eq_true (Qoj x0.Ids) with g24 | g24
 ·
  refine wg vmv (nt g24) ?_
  refine Qdm (Qr Qfc rfl) (fun W hm => Qfd W ((x0.Ids.length : Nat) : Int) 1 8) (Qcq rfl rfl rfl (bw (nt g24) rfl)) (by decide) ?_
  refine wg Qbr (nt g24) ?_
  refine wv (vpF (nt g24)) ?_
  refine wm ?_
  rcases Bool.eq_false_or_eq_true (Qdg ((x0.Ids.length : Nat) : Int) 1 8) with g26 | g26
  ·
   have hw := Qfv g26
   refine wg (vf Qcm rfl Qap) (nt g26) ?_
   refine wg (vl 0 3 Qv) (nt g26) ?_
   refine wg (Qai Qv) (nt g26) ?_
   refine wg vmv (nt g26) ?_
   refine wg Qcf (nt g26) ?_
   refine wv (vpF (nt g26)) ?_
   refine wm ?_
   by_cases h27 : ((x0.Tenants.length : Nat) : Int) = ((x0.Ids.length : Nat) : Int)
   ·have g28 : (((x0.Tenants.length : Nat) : Int) != ((x0.Ids.length : Nat) : Int)) = false := by rw [h27]; exact bne_self_eq_false _
    refine wg (vf Qcm rfl Qap) g28 ?_
    refine wg (vl 0 4 Qv) g28 ?_
    refine wg (Qai Qv) g28 ?_
    refine wg vmv g28 ?_
    refine wg Qcf g28 ?_
    refine wv (vpF g28) ?_
    refine nt' ?_
    by_cases h29 : ((x0.Rows.length : Nat) : Int) = ((x0.Ids.length : Nat) : Int)
    ·have g30 : (((x0.Rows.length : Nat) : Int) != ((x0.Ids.length : Nat) : Int)) = false := by rw [h29]; exact bne_self_eq_false _
     refine Qp rfl g30 ?_
     refine Qq (Qi (Qf (sr ?_)))
     refine wv (vf Qcm rfl Qap) ?_
     refine wv (vl 0 2 Qv) ?_
     refine wv (Qai Qv) ?_
     refine wm (nt' (Qab ?_))
     let F1 := fun k (_ : Unit) => Qtt x0 k
     let R2 := rng (R := Bool) F1
     let K3 : List Value := [.int .i64 x0.Segment, .int .i64 x0.Base, .slice A8 x0.Ids.length c9, .slice A13 x0.Tenants.length c14, .slice A18 x0.Rows.length c19]
     refine Qbl (σ := Nat × (Unit) × (Unit)) (fun s => [(1, .pointer (some (⟨p22, 0, none⟩ : Addr))), (33, .int .i64 ((x0.Ids.length : Nat) : Int)), (34, .int .i64 ((s.1 : Nat) : Int))]) (fun s => [Qa p22 133 K3]) (fun s => s.1 ≤ x0.Ids.length ∧ R2 (x0.Ids.length - s.1) s.1 s.2.1 = R2 (x0.Ids.length - 0) 0 ()) (fun s => x0.Ids.length - s.1) (0, (), ()) sl3 (fun W hm => hm) ⟨(by omega), rfl⟩ ?_
     rintro ⟨k31, ⟨⟩, ⟨⟩⟩ H34
     obtain ⟨hk32, hF33⟩ : k31 ≤ x0.Ids.length ∧ R2 (x0.Ids.length - k31) k31 () = R2 (x0.Ids.length - 0) 0 () := H34
     show CM Tryz.prog 64 _ _ _ _ [(1, .pointer (some (⟨p22, 0, none⟩ : Addr))), (33, .int .i64 ((x0.Ids.length : Nat) : Int)), (34, .int .i64 ((k31 : Nat) : Int))] [Qa p22 133 K3]
     refine sr ?_
     refine wv Qak ?_
     refine nt' (Qf ?_)
     by_cases hl35 : k31 < x0.Ids.length
     ·have g36 := dlT hl35
      refine Ql rfl g36 ?_
      refine Qq (Qi (Qf (Qab (sr (wm (wa (nt' (Qf ?_))))))))
      refine Qge (by kernel_rfl) (by kernel_rfl) ?_
      refine qv (vf Qcm rfl Qap) ?_
      refine qv (vl 0 3 Qv) ?_
      refine qm ?_
      obtain ⟨a37, rfl, hb38, he39⟩ := q15 (by omega)
      refine qv (vix 1 k31 Qv Qh) ?_
      refine qv (fun W hm => Qaw Qt rfl rfl ((hm.cell0 (show (a37.add (k31 * 1)).block < w.heap.size from by rw [Qah]; exact hb38.1)).trans (Qex he39 k31 (by omega)))) ?_
      refine Qfu (Qr Qfc rfl) (fun W hm => Qfd W (gt x0.Tenants k31) 0 3) (Qo rfl) (by decide) ?_
      refine qv Qbr ?_
      refine qm ?_
      rcases Bool.eq_false_or_eq_true (Qdg (gt x0.Tenants k31) 0 3) with g41 | g41
      ·
       have hw := Qfv g41
       refine qg (vf Qcm rfl Qap) (nt g41) ?_
       refine qg (vl 0 4 Qv) (nt g41) ?_
       refine qg vmv (nt g41) ?_
       obtain ⟨a42, rfl, hb43, he44⟩ := q20 (by omega)
       refine qg (vix 1 k31 Qv Qh) (nt g41) ?_
       refine qg (fun W hm => Qaw Qt rfl rfl ((hm.cell0 (show (a42.add (k31 * 1)).block < w.heap.size from by rw [Qah]; exact hb43.1)).trans (Qex he44 k31 (by omega)))) (nt g41) ?_
       refine qg (vf Qcm rfl Qh) (nt g41) ?_
       refine qg (vl 0 1 Qt) (nt g41) ?_
       refine Qfu (Qr Qfc rfl) (fun W hm => Qfd W (gt x0.Rows k31) 0 x0.Base) (Qcq rfl rfl rfl (bw (nt g41) rfl)) (by decide) ?_
       refine qg Qbr (nt g41) ?_
       refine qv (vpF (nt g41)) ?_
       refine nq' ?_
       rcases Bool.eq_false_or_eq_true (Qdg (gt x0.Rows k31) 0 x0.Base) with g46 | g46
       ·
        have hw := Qfv g46
        refine Qp rfl (nt g46) ?_
        refine Qq (Qax (Qi (Qad ?_)))
        refine wv (Qbd k31 1 (by omega)) ?_
        refine wm (Qal ?_)
        have hn47 := Qbb (R := Bool) (body := F1) (k := k31) (s := ()) (s' := ()) (show k31 < x0.Ids.length from by omega) (Qb g41 (Qb g46 (rfl))) hF33
        exact Qaz (k31 + 1, (), ()) sl3 (fun W hm => hm) ⟨(by omega), hn47⟩ (rl (by omega))
       refine Ql rfl (nf g46) ?_
       refine sr (wa (nt' (Qj (Qy (Qe (Qe (Qy (Qe ?_))))))))
       exact rtb (h := Qb g24 (Qb g26 (Qc g28 (Qc g30 (Qba (Qbc (body := F1) (k := k31) (s := ()) (show k31 < x0.Ids.length from by omega) (Qb g41 (Qc g46 (rfl))) hF33) rfl)))))
      refine qs (nf g41) ?_
      refine qs (nf g41) ?_
      refine qs (nf g41) ?_
      refine qs (nf g41) ?_
      refine qs (nf g41) ?_
      refine qs (nf g41) ?_
      refine qs (nf g41) ?_
      refine qs (nf g41) ?_
      refine qs (nf g41) ?_
      refine qv (vpT (nf g41)) ?_
      refine nq' ?_
      refine Ql rfl rfl ?_
      refine sr (wa (nt' (Qj (Qy (Qe (Qe (Qy (Qe ?_))))))))
      exact rtb (h := Qb g24 (Qb g26 (Qc g28 (Qc g30 (Qba (Qbc (body := F1) (k := k31) (s := ()) (show k31 < x0.Ids.length from by omega) (Qc g41 (rfl)) hF33) rfl)))))
     have g36 := dlF hl35
     refine Qp rfl g36 ?_
     refine Qbk (Qac (Qac ?_))
     have hE48 : R2 (x0.Ids.length - 0) 0 () = Sum.inr () := Qbn hl35 hF33
     refine Qbm (Qi (sr ?_))
     refine wv (vf Qcm rfl Qh) ?_
     refine wv (vl 0 0 Qt) ?_
     refine wcv (Qr Qfc rfl) (fun W hm => Qfd W x0.Segment 0 7) ?_
     refine wm ?_
     rcases Bool.eq_false_or_eq_true (Qdg x0.Segment 0 7) with g50 | g50
     ·
      have hw := Qfv g50
      refine wg (vf Qcm rfl Qh) g50 ?_
      refine wg (vl 0 1 Qt) g50 ?_
      refine Qdm (Qr Qfc rfl) (fun W hm => Qfd W x0.Base 0 4) (Qcq rfl rfl rfl (bw g50 rfl)) (by decide) ?_
      refine wv (vpT g50) ?_
      refine wa (nt' (Qj ?_))
      exact rtb (h := Qb g24 (Qb g26 (Qc g28 (Qc g30 (Qat hE48 (Qb g50 (rfl)))))))
     refine ws g50 ?_
     refine ws g50 ?_
     refine ws g50 ?_
     refine wv (vpF g50) ?_
     refine wa (nt' (Qj ?_))
     exact rtb (h := Qb g24 (Qb g26 (Qc g28 (Qc g30 (Qat hE48 (Qc g50 (rfl)))))))
    have g30 : (((x0.Rows.length : Nat) : Int) != ((x0.Ids.length : Nat) : Int)) = true := bne_iff_ne.2 h29
    refine Ql rfl g30 ?_
    refine sr (wa (nt' (Qj (Qe ?_))))
    exact rtb (h := Qb g24 (Qb g26 (Qc g28 (Qb g30 (rfl)))))
   have g28 : (((x0.Tenants.length : Nat) : Int) != ((x0.Ids.length : Nat) : Int)) = true := bne_iff_ne.2 h27
   refine ws g28 ?_
   refine ws g28 ?_
   refine ws g28 ?_
   refine ws g28 ?_
   refine ws g28 ?_
   refine wv (vpT g28) ?_
   refine nt' ?_
   refine Ql rfl rfl ?_
   refine sr (wa (nt' (Qj (Qe ?_))))
   exact rtb (h := Qb g24 (Qb g26 (Qb g28 (rfl))))
  refine ws (nf g26) ?_
  refine ws (nf g26) ?_
  refine ws (nf g26) ?_
  refine ws (nf g26) ?_
  refine ws (nf g26) ?_
  refine wv (vpT (nf g26)) ?_
  refine wm ?_
  refine wk ?_
  refine wk ?_
  refine wk ?_
  refine wk ?_
  refine wk ?_
  refine wv (vpT rfl) ?_
  refine nt' ?_
  refine Ql rfl rfl ?_
  refine sr (wa (nt' (Qj (Qe ?_))))
  exact rtb (h := Qb g24 (Qc g26 (rfl)))
 refine ws (nf g24) ?_
 refine ws (nf g24) ?_
 refine ws (nf g24) ?_
 refine wv (vpT (nf g24)) ?_
 refine wm ?_
 refine wk ?_
 refine wk ?_
 refine wk ?_
 refine wk ?_
 refine wk ?_
 refine wv (vpT rfl) ?_
 refine wm ?_
 refine wk ?_
 refine wk ?_
 refine wk ?_
 refine wk ?_
 refine wk ?_
 refine wv (vpT rfl) ?_
 refine nt' ?_
 refine Ql rfl rfl ?_
 refine sr (wa (nt' (Qj (Qe ?_))))
 exact rtb (h := Qc g24 (rfl))

theorem Qavk {x : Qay} (h : Qmu x = true) : 1 ≤ x.Ids.length ∧ x.Tenants.length = x.Ids.length ∧ x.Rows.length = x.Ids.length := by
  unfold Qmu Qdg at h
  cases h1 : Qoj x.Ids <;> rw [h1] at h
  · cases h
  by_cases h2 : 1 ≤ ((x.Ids.length : Nat) : Int)
  · by_cases h3 : ((x.Tenants.length : Nat) : Int) = ((x.Ids.length : Nat) : Int)
    · by_cases h4 : ((x.Rows.length : Nat) : Int) = ((x.Ids.length : Nat) : Int)
      · omega
      rw [bne_iff_ne.2 h4] at h
      revert h
      cases decide (1 ≤ ((x.Ids.length : Nat) : Int)) <;> cases decide (((x.Ids.length : Nat) : Int) ≤ 8) <;> cases (((x.Tenants.length : Nat) : Int) != ((x.Ids.length : Nat) : Int)) <;> intro h <;> cases h
    rw [bne_iff_ne.2 h3] at h
    revert h
    cases decide (1 ≤ ((x.Ids.length : Nat) : Int)) <;> cases decide (((x.Ids.length : Nat) : Int) ≤ 8) <;> intro h <;> cases h
  rw [decide_eq_false h2] at h
  cases h

def Qrj (x0 : Qag) (k189 : Nat) : Bool ⊕ (Unit) :=
 cond (Qmu (gt x0.Ledger k189)) (Sum.inr ()) (Sum.inl false)
def Qri (x0 : Qag) (k143 : Nat) : Bool ⊕ (Unit) :=
 cond (Qmv ((gt x0.Done k143).Query)) (cond (Qdg ((gt x0.Done k143).Time) 0 x0.Store.Now) (cond (Qdg ((gt x0.Done k143).Steps) 0 100000) (cond (Qol ((gt x0.Done k143).Rows)) (Sum.inr ()) (Sum.inl false)) (Sum.inl false)) (Sum.inl false)) (Sum.inl false)
def Qrh (x0 : Qag) (k56 : Nat) : Bool ⊕ (Unit) :=
 cond (Qpl x0.Store (gt x0.Active k56)) (cond (decide (0 < ((k56 : Nat) : Int))) (cond (decide (((gt x0.Active k56).Query.Id) ≤ ((gt x0.Active (k56 - 1)).Query.Id))) (Sum.inl false) (Sum.inr ())) (Sum.inr ())) (Sum.inl false)
def Qoi (x0 : Qag) : Bool :=
 cond (Qib x0.Store) (cond (Qdg x0.Cursor 0 (IntKind.i64.wrap (((x0.Store.Segments.length : Nat) : Int) - 1))) (cond (Qpn x0.Order) (cond (Qdg x0.Steps 0 100000) (cond (decide (8 < ((x0.Active.length : Nat) : Int))) false (cond (decide (1000 < ((x0.Done.length : Nat) : Int))) false (cond (decide (1000 < ((x0.Ledger.length : Nat) : Int))) false (Sum.elim id (fun (s1_ : Unit) => Sum.elim id (fun (s2_ : Unit) => Sum.elim id (fun (s : Unit) => true) (rng (R := Bool) (fun k (_ : Unit) => Qrj x0 k) (x0.Ledger.length - 0) 0 ())) (rng (R := Bool) (fun k (_ : Unit) => Qri x0 k) (x0.Done.length - 0) 0 ())) (rng (R := Bool) (fun k (_ : Unit) => Qrh x0 k) (x0.Active.length - 0) 0 ()))))) false) false) false) false
theorem cb32 : Cb Tryz.prog 32 := ⟨f32, _, func32, rfl, by decide⟩
theorem Qajt (w : World) (z0 : List Value) (x0 : Qag) (r_0 : Qdd.rd w w.heap.size z0 x0) (s_0 : Qgf 68719476736 x0) :
  Calls Tryz.prog 32 #[.agg z0.toArray] w fun e w' => e = .returned (.bool (Qoi x0)) ∧ Below w.heap.size w w' := by
 obtain ⟨v1, v3, v5, v7, v9, rfl, r2, r4, r6, r8, r10⟩ := Qki r_0
 obtain ⟨m11, A12, c13, rfl, q14, r15⟩ := Qk r2
 obtain ⟨m16, A17, c18, rfl, q19, r20⟩ := Qk r4
 obtain ⟨m21, A22, c23, rfl, q24, r25⟩ := Qk r6
 obtain ⟨m26, A27, c28, rfl, q29, r30⟩ := Qk r8
 obtain ⟨m31, A32, c33, rfl, q34, r35⟩ := Qk r10
 have l36 : x0.Store.Segments.length ≤ 68719476736 := s_0.1.1
 have l37 : x0.Order.length ≤ 68719476736 := s_0.2.1
 have l38 : x0.Active.length ≤ 68719476736 := s_0.2.2.1.1
 have l39 : x0.Done.length ≤ 68719476736 := s_0.2.2.2.1.1
 have l40 : x0.Ledger.length ≤ 68719476736 := s_0.2.2.2.2.1
 refine ce1 (L := [(0, .agg #[.slice A12 x0.Store.Segments.length c13, .int .i64 x0.Store.Now, .int .i64 x0.Cursor, .slice A17 x0.Order.length c18, .slice A22 x0.Active.length c23, .slice A27 x0.Done.length c28, .slice A32 x0.Ledger.length c33, .int .i64 x0.Steps])]) (N := 128) func32 ?_
 refine sr ?_
 refine Qbj rfl (Qo rfl) (by decide) (fun p41 => ?_)
 refine wa (nt' (Qf (sr ?_)))
 refine wv (vf Qaq rfl Qae) ?_
 let K7 : List Value := [.slice A12 x0.Store.Segments.length c13, .int .i64 x0.Store.Now]
 refine wv (fun W hm => Qz (cs := K7) Qaf Qae rfl rfl (hm.boxPart (n := 0) rfl rfl)) ?_
 refine wcv (Qr Qti rfl) (fun W hm => Qtw W _ x0.Store (Qeg (x := x0.Store) (hm.rdS0 r15)) s_0.1) ?_
 refine wv Qbr ?_
 refine wm ?_
 rcases Bool.eq_false_or_eq_true (Qib x0.Store) with g43 | g43
 ·
  refine wg (vf Qaq rfl Qh) (nt g43) ?_
  refine wg (vl 0 2 Qt) (nt g43) ?_
  refine wg (vf Qaq rfl Qae) (nt g43) ?_
  refine wg (fun W hm => Qdy (o := 0) Qaf rfl Qcu (by decide) rfl rfl) (nt g43) ?_
  refine wg (vl 0 0 Qas) (nt g43) ?_
  refine wg (Qai Qas) (nt g43) ?_
  refine wg (fun W hm => Qhw rfl rfl) (nt g43) ?_
  refine Qdm (Qr Qfc rfl) (fun W hm => Qfd W x0.Cursor 0 (IntKind.i64.wrap (((x0.Store.Segments.length : Nat) : Int) - 1))) (Qcq rfl rfl rfl (bw (nt g43) rfl)) (by decide) ?_
  refine wg Qbr (nt g43) ?_
  refine wv (vpF (nt g43)) ?_
  refine wm ?_
  rcases Bool.eq_false_or_eq_true (Qdg x0.Cursor 0 (IntKind.i64.wrap (((x0.Store.Segments.length : Nat) : Int) - 1))) with g45 | g45
  ·
   have hw := Qfv g45
   rw [Qxl (by omega)] at hw
   refine wg (vf Qaq rfl Qap) (nt g45) ?_
   refine wg (vl 0 3 Qv) (nt g45) ?_
   refine Qdm (Qr Qafu rfl) (fun W hm => Qalf W _ x0.Order (hm.rdS0 r20)) (Qcq rfl rfl rfl (bw (nt g45) rfl)) (by decide) ?_
   refine wg Qbr (nt g45) ?_
   refine wv (vpF (nt g45)) ?_
   refine wm ?_
   rcases Bool.eq_false_or_eq_true (Qpn x0.Order) with g47 | g47
   ·
    refine wg (vf Qaq rfl Qh) (nt g47) ?_
    refine wg (vl 0 7 Qt) (nt g47) ?_
    refine Qdm (Qr Qfc rfl) (fun W hm => Qfd W x0.Steps 0 100000) (Qcq rfl rfl rfl (bw (nt g47) rfl)) (by decide) ?_
    refine wg Qbr (nt g47) ?_
    refine wv (vpF (nt g47)) ?_
    refine nt' ?_
    rcases Bool.eq_false_or_eq_true (Qdg x0.Steps 0 100000) with g49 | g49
    ·
     have hw := Qfv g49
     refine Qp rfl (nt g49) ?_
     refine Qq (Qi (Qf (sr ?_)))
     refine wv (vf Qaq rfl Qfn) ?_
     refine wv (vl 0 4 Qcj) ?_
     refine wv (Qai Qcj) ?_
     refine wv (fun W hm => Qfy rfl rfl) ?_
     refine wm ?_
     by_cases h50 : 8 < ((x0.Active.length : Nat) : Int)
     ·have g51 := decide_eq_true h50
      refine ws g51 ?_
      refine ws g51 ?_
      refine ws g51 ?_
      refine ws g51 ?_
      refine wv (vpT g51) ?_
      refine wm ?_
      refine wk ?_
      refine wk ?_
      refine wk ?_
      refine wk ?_
      refine wv (vpT rfl) ?_
      refine nt' ?_
      refine Ql rfl rfl ?_
      refine sr (wa (nt' (Qj (Qe ?_))))
      exact rtb (h := Qb g43 (Qb g45 (Qb g47 (Qb g49 (Qb g51 (rfl))))))
     have g51 := decide_eq_false h50
     refine wg (vf Qaq rfl type44) g51 ?_
     refine wg (vl 0 5 Qdn) g51 ?_
     refine wg (Qai Qdn) g51 ?_
     refine wg (fun W hm => Qfy rfl rfl) g51 ?_
     refine wv (vpF g51) ?_
     refine wm ?_
     by_cases h52 : 1000 < ((x0.Done.length : Nat) : Int)
     ·have g53 := decide_eq_true h52
      refine ws g53 ?_
      refine ws g53 ?_
      refine ws g53 ?_
      refine ws g53 ?_
      refine wv (vpT g53) ?_
      refine nt' ?_
      refine Ql rfl rfl ?_
      refine sr (wa (nt' (Qj (Qe ?_))))
      exact rtb (h := Qb g43 (Qb g45 (Qb g47 (Qb g49 (Qc g51 (Qb g53 (rfl)))))))
     have g53 := decide_eq_false h52
     refine wg (vf Qaq rfl type45) g53 ?_
     refine wg (vl 0 6 Qdt) g53 ?_
     refine wg (Qai Qdt) g53 ?_
     refine wg (fun W hm => Qfy rfl rfl) g53 ?_
     refine wv (vpF g53) ?_
     refine nt' ?_
     by_cases h54 : 1000 < ((x0.Ledger.length : Nat) : Int)
     ·have g55 := decide_eq_true h54
      refine Ql rfl g55 ?_
      refine sr (wa (nt' (Qj (Qe ?_))))
      exact rtb (h := Qb g43 (Qb g45 (Qb g47 (Qb g49 (Qc g51 (Qc g53 (Qb g55 (rfl))))))))
     have g55 := decide_eq_false h54
     refine Qp rfl g55 ?_
     refine Qq (Qi (Qf (sr ?_)))
     refine wv (vf Qaq rfl Qfn) ?_
     refine wv (vl 0 4 Qcj) ?_
     refine wv (Qai Qcj) ?_
     refine wm (nt' (Qab ?_))
     let F1 := fun k (_ : Unit) => Qrh x0 k
     let R4 := rng (R := Bool) F1
     let K8 : List Value := [.slice A12 x0.Store.Segments.length c13, .int .i64 x0.Store.Now, .int .i64 x0.Cursor, .slice A17 x0.Order.length c18, .slice A22 x0.Active.length c23, .slice A27 x0.Done.length c28, .slice A32 x0.Ledger.length c33, .int .i64 x0.Steps]
     refine Qbl (σ := Nat × (Unit) × (Unit)) (fun s => [(1, .pointer (some (⟨p41, 0, none⟩ : Addr))), (53, .slice A22 x0.Active.length c23), (54, .int .i64 ((x0.Active.length : Nat) : Int)), (55, .int .i64 ((s.1 : Nat) : Int))]) (fun s => [Qa p41 47 K8]) (fun s => s.1 ≤ x0.Active.length ∧ R4 (x0.Active.length - s.1) s.1 s.2.1 = R4 (x0.Active.length - 0) 0 ()) (fun s => x0.Active.length - s.1) (0, (), ()) sl4 (fun W hm => hm) ⟨(by omega), rfl⟩ ?_
     rintro ⟨k56, ⟨⟩, ⟨⟩⟩ H59
     obtain ⟨hk57, hF58⟩ : k56 ≤ x0.Active.length ∧ R4 (x0.Active.length - k56) k56 () = R4 (x0.Active.length - 0) 0 () := H59
     show CM Tryz.prog 128 _ _ _ _ [(1, .pointer (some (⟨p41, 0, none⟩ : Addr))), (53, .slice A22 x0.Active.length c23), (54, .int .i64 ((x0.Active.length : Nat) : Int)), (55, .int .i64 ((k56 : Nat) : Int))] [Qa p41 47 K8]
     refine sr ?_
     refine wv Qak ?_
     refine nt' (Qf ?_)
     by_cases hl60 : k56 < x0.Active.length
     ·have g61 := dlT hl60
      refine Ql rfl g61 ?_
      refine Qq (Qi (Qf (Qab (sr (wm ?_)))))
      obtain ⟨a62, rfl, hb63, he64⟩ := q24 (by omega)
      refine wv (vix 10 k56 Qcj Qcs) ?_
      obtain ⟨_, e74, hc65⟩ := he64 k56 _ (Qca (show k56 < x0.Active.length from by omega))
      obtain ⟨v66, v68, v70, v72, rfl, r67, r69, r71, r73⟩ := Qhz e74
      have l75 : ((gt x0.Active k56).Query.Conds).length ≤ 68719476736 := (s_0.2.2.1.2 _ (Qbh (show k56 < x0.Active.length from by omega))).1.1
      have l76 : ((gt x0.Active k56).Query.Out).length ≤ 68719476736 := (s_0.2.2.1.2 _ (Qbh (show k56 < x0.Active.length from by omega))).1.2
      have l77 : ((gt x0.Active k56).Todo).length ≤ 68719476736 := (s_0.2.2.1.2 _ (Qbh (show k56 < x0.Active.length from by omega))).2.1
      have l78 : ((gt x0.Active k56).Rows).length ≤ 68719476736 := (s_0.2.2.1.2 _ (Qbh (show k56 < x0.Active.length from by omega))).2.2.1
      obtain ⟨m79, A80, c81, rfl, q82, r83⟩ := Qk r67
      obtain ⟨m84, A85, c86, rfl, q87, r88⟩ := Qk r69
      obtain ⟨m89, A90, c91, rfl, q92, r93⟩ := Qk r71
      obtain ⟨m94, A95, c96, rfl, q97, r98⟩ := Qk r73
      let K9 : List Value := [.int .i64 ((gt x0.Active k56).Query.Id), .int .i64 ((gt x0.Active k56).Query.Tenant), .slice A80 ((gt x0.Active k56).Query.Conds).length c81, .slice A85 ((gt x0.Active k56).Query.Out).length c86, .int .i64 ((gt x0.Active k56).Time), .slice A90 ((gt x0.Active k56).Todo).length c91, .int .i64 ((gt x0.Active k56).Age), .int .i64 ((gt x0.Active k56).Sent), .int .i64 ((gt x0.Active k56).Cap), .slice A95 ((gt x0.Active k56).Rows).length c96]
      refine wv (fun W hm => Qz (cs := K9) Qbu Qcs rfl rfl (hm.elCells (show (a62.add (k56 * 10)).block < w.heap.size from by rw [Qah]; exact hb63.1) hc65)) ?_
      refine Qbo Qcs rfl (Qo rfl) (by decide) (fun p99 => ?_)
      refine wa ?_
      refine sb 0 K9 [Qa p41 47 [.slice A12 x0.Store.Segments.length c13, .int .i64 x0.Store.Now, .int .i64 x0.Cursor, .slice A17 x0.Order.length c18, .slice (some a62) x0.Active.length c23, .slice A27 x0.Done.length c28, .slice A32 x0.Ledger.length c33, .int .i64 x0.Steps]] (fun W hm => hm) Qcs ?_
      refine nt' (Qf ?_)
      refine Qge (by kernel_rfl) (by kernel_rfl) ?_
      refine qv (vf Qaq rfl Qae) ?_
      refine qv (fun W hm => Qz (cs := K7) Qaf Qae rfl rfl (hm.boxPart (n := 1) rfl rfl)) ?_
      refine qv (fun W hm => Qz (cs := K9) Qbu Qcs rfl rfl (hm.boxCells (n := 0) rfl)) ?_
      refine Qfu (Qr Qafv rfl) (fun W hm => Qakd W _ x0.Store _ (gt x0.Active k56) (Qeg (x := x0.Store) (hm.rdS0 r15)) (Qqu (x := (gt x0.Active k56)) (hm.rdS0 r83) (hm.rdS0 r88) (hm.rdS0 r93) (hm.rdS0 r98))) (Qo rfl) (by decide) ?_
      refine qv Qbr ?_
      refine qm ?_
      rcases Bool.eq_false_or_eq_true (Qpl x0.Store (gt x0.Active k56)) with g101 | g101
      ·
       refine qg vmv (nt g101) ?_
       refine qg (fun W hm => Qfy rfl rfl) (nt g101) ?_
       refine qg vmv (nt g101) ?_
       by_cases h102 : 0 < ((k56 : Nat) : Int)
       ·have g103 := decide_eq_true h102
        refine qg (vf Qaq rfl Qfn) g103 ?_
        refine qg (vl 1 4 Qcj) g103 ?_
        refine qg vmv g103 ?_
        refine qg (fun W hm => Qml (p := k56) (q := 1) rfl rfl (by omega) (by omega)) g103 ?_
        refine qg (fun W hm => Qkf (sz := 10) (k := k56 - 1) Qcj Qcs rfl rfl rfl (by omega)) g103 ?_
        refine qg (vf Qbu rfl Qcl) g103 ?_
        refine qg (fun W hm => Qdy (o := 0) Qch rfl Qh (by decide) rfl rfl) g103 ?_
        obtain ⟨_, e113, hc104⟩ := he64 (k56 - 1) _ (Qca (show (k56 - 1) < x0.Active.length from by omega))
        obtain ⟨v105, v107, v109, v111, rfl, r106, r108, r110, r112⟩ := Qhz e113
        have l114 : ((gt x0.Active (k56 - 1)).Query.Conds).length ≤ 68719476736 := (s_0.2.2.1.2 _ (Qbh (show (k56 - 1) < x0.Active.length from by omega))).1.1
        have l115 : ((gt x0.Active (k56 - 1)).Query.Out).length ≤ 68719476736 := (s_0.2.2.1.2 _ (Qbh (show (k56 - 1) < x0.Active.length from by omega))).1.2
        have l116 : ((gt x0.Active (k56 - 1)).Todo).length ≤ 68719476736 := (s_0.2.2.1.2 _ (Qbh (show (k56 - 1) < x0.Active.length from by omega))).2.1
        have l117 : ((gt x0.Active (k56 - 1)).Rows).length ≤ 68719476736 := (s_0.2.2.1.2 _ (Qbh (show (k56 - 1) < x0.Active.length from by omega))).2.2.1
        obtain ⟨m118, A119, c120, rfl, q121, r122⟩ := Qk r106
        obtain ⟨m123, A124, c125, rfl, q126, r127⟩ := Qk r108
        obtain ⟨m128, A129, c130, rfl, q131, r132⟩ := Qk r110
        obtain ⟨m133, A134, c135, rfl, q136, r137⟩ := Qk r112
        refine qg (fun W hm => Qaw Qt rfl rfl ((hm.cell0 (show ((a62.add ((k56 - 1) * 10)).add 0).block < w.heap.size from by rw [Qah, Qah]; exact hb63.1)).trans (hc104 0 _ rfl))) g103 ?_
        refine qg (vf Qbu rfl Qcl) g103 ?_
        refine qg (fun W hm => Qdy (o := 0) Qch rfl Qh (by decide) rfl rfl) g103 ?_
        refine qg (vl 0 0 Qt) g103 ?_
        refine qg (fun W hm => Qii rfl rfl) g103 ?_
        refine qg (vpT g103) (nt g101) ?_
        refine qv (vpF (nt g101)) ?_
        refine nq' ?_
        by_cases h138 : ((gt x0.Active k56).Query.Id) ≤ ((gt x0.Active (k56 - 1)).Query.Id)
        ·have g139 := decide_eq_true h138
         refine Ql rfl g139 ?_
         refine sr (wa (nt' (Qj (Qy (Qe (Qe (Qy (Qe ?_))))))))
         exact rtb (h := Qb g43 (Qb g45 (Qb g47 (Qb g49 (Qc g51 (Qc g53 (Qc g55 (Qba (Qbc (body := F1) (k := k56) (s := ()) (show k56 < x0.Active.length from by omega) (Qb g101 (Qb g103 (Qb g139 (rfl)))) hF58) rfl))))))))
        have g139 := decide_eq_false h138
        refine Qp rfl g139 ?_
        refine Qq (Qax (Qi (Qad ?_)))
        refine wv (Qbd k56 1 (by omega)) ?_
        refine wm (Qal ?_)
        have hn140 := Qbb (R := Bool) (body := F1) (k := k56) (s := ()) (s' := ()) (show k56 < x0.Active.length from by omega) (Qb g101 (Qb g103 (Qc g139 (rfl)))) hF58
        exact Qaz (k56 + 1, (), ()) sl4 (pk [1]) ⟨(by omega), hn140⟩ (rl (by omega))
       have g103 := decide_eq_false h102
       refine qs g103 ?_
       refine qs g103 ?_
       refine qs g103 ?_
       refine qs g103 ?_
       refine qs g103 ?_
       refine qs g103 ?_
       refine qs g103 ?_
       refine qs g103 ?_
       refine qs g103 ?_
       refine qs g103 ?_
       refine qs g103 ?_
       refine qs g103 ?_
       refine qg (vpF g103) (nt g101) ?_
       refine qv (vpF (nt g101)) ?_
       refine nq' ?_
       refine Qp rfl rfl ?_
       refine Qq (Qax (Qi (Qad ?_)))
       refine wv (Qbd k56 1 (by omega)) ?_
       refine wm (Qal ?_)
       have hn141 := Qbb (R := Bool) (body := F1) (k := k56) (s := ()) (s' := ()) (show k56 < x0.Active.length from by omega) (Qb g101 (Qc g103 (rfl))) hF58
       exact Qaz (k56 + 1, (), ()) sl4 (pk [1]) ⟨(by omega), hn141⟩ (rl (by omega))
      refine qs (nf g101) ?_
      refine qs (nf g101) ?_
      refine qs (nf g101) ?_
      refine qu ?_
      refine qu ?_
      refine qu ?_
      refine qu ?_
      refine qu ?_
      refine qu ?_
      refine qu ?_
      refine qu ?_
      refine qu ?_
      refine qu ?_
      refine qu ?_
      refine qu ?_
      refine qs (nf g101) ?_
      refine qv (vpT (nf g101)) ?_
      refine nq' ?_
      refine Ql rfl rfl ?_
      refine sr (wa (nt' (Qj (Qy (Qe (Qe (Qy (Qe ?_))))))))
      exact rtb (h := Qb g43 (Qb g45 (Qb g47 (Qb g49 (Qc g51 (Qc g53 (Qc g55 (Qba (Qbc (body := F1) (k := k56) (s := ()) (show k56 < x0.Active.length from by omega) (Qc g101 (rfl)) hF58) rfl))))))))
     have g61 := dlF hl60
     refine Qp rfl g61 ?_
     refine Qbk (Qac (Qac ?_))
     have hE142 : R4 (x0.Active.length - 0) 0 () = Sum.inr () := Qbn hl60 hF58
     refine Qbm (Qi (Qf (sr ?_)))
     refine wv (vf Qaq rfl type44) ?_
     refine wv (vl 0 5 Qdn) ?_
     refine wv (Qai Qdn) ?_
     refine wm (nt' (Qab ?_))
     let F2 := fun k (_ : Unit) => Qri x0 k
     let R5 := rng (R := Bool) F2
     refine Qbl (σ := Nat × (Unit) × (Unit)) (fun s => [(1, .pointer (some (⟨p41, 0, none⟩ : Addr))), (85, .slice A27 x0.Done.length c28), (86, .int .i64 ((x0.Done.length : Nat) : Int)), (87, .int .i64 ((s.1 : Nat) : Int))]) (fun s => [Qa p41 47 K8]) (fun s => s.1 ≤ x0.Done.length ∧ R5 (x0.Done.length - s.1) s.1 s.2.1 = R5 (x0.Done.length - 0) 0 ()) (fun s => x0.Done.length - s.1) (0, (), ()) sl4 (fun W hm => hm) ⟨(by omega), rfl⟩ ?_
     rintro ⟨k143, ⟨⟩, ⟨⟩⟩ H146
     obtain ⟨hk144, hF145⟩ : k143 ≤ x0.Done.length ∧ R5 (x0.Done.length - k143) k143 () = R5 (x0.Done.length - 0) 0 () := H146
     show CM Tryz.prog 128 _ _ _ _ [(1, .pointer (some (⟨p41, 0, none⟩ : Addr))), (85, .slice A27 x0.Done.length c28), (86, .int .i64 ((x0.Done.length : Nat) : Int)), (87, .int .i64 ((k143 : Nat) : Int))] [Qa p41 47 K8]
     refine sr ?_
     refine wv Qak ?_
     refine nt' (Qf ?_)
     by_cases hl147 : k143 < x0.Done.length
     ·have g148 := dlT hl147
      refine Ql rfl g148 ?_
      refine Qq (Qi (Qf (Qab (sr ?_))))
      obtain ⟨a149, rfl, hb150, he151⟩ := q29 (by omega)
      refine wv (vix 7 k143 Qdn Qdl) ?_
      obtain ⟨_, e159, hc152⟩ := he151 k143 _ (Qca (show k143 < x0.Done.length from by omega))
      obtain ⟨v153, v155, v157, rfl, r154, r156, r158⟩ := Qkj e159
      have l160 : ((gt x0.Done k143).Query.Conds).length ≤ 68719476736 := (s_0.2.2.2.1.2 _ (Qbh (show k143 < x0.Done.length from by omega))).1.1
      have l161 : ((gt x0.Done k143).Query.Out).length ≤ 68719476736 := (s_0.2.2.2.1.2 _ (Qbh (show k143 < x0.Done.length from by omega))).1.2
      have l162 : ((gt x0.Done k143).Rows).length ≤ 68719476736 := (s_0.2.2.2.1.2 _ (Qbh (show k143 < x0.Done.length from by omega))).2.1
      obtain ⟨m163, A164, c165, rfl, q166, r167⟩ := Qk r154
      obtain ⟨m168, A169, c170, rfl, q171, r172⟩ := Qk r156
      obtain ⟨m173, A174, c175, rfl, q176, r177⟩ := Qk r158
      let K10 : List Value := [.int .i64 ((gt x0.Done k143).Query.Id), .int .i64 ((gt x0.Done k143).Query.Tenant), .slice A164 ((gt x0.Done k143).Query.Conds).length c165, .slice A169 ((gt x0.Done k143).Query.Out).length c170, .int .i64 ((gt x0.Done k143).Time), .int .i64 ((gt x0.Done k143).Steps), .slice A174 ((gt x0.Done k143).Rows).length c175]
      refine wv (fun W hm => Qz (cs := K10) Qdh Qdl rfl rfl (hm.elCells (show (a149.add (k143 * 7)).block < w.heap.size from by rw [Qah]; exact hb150.1) hc152)) ?_
      refine Qbo Qdl rfl (Qo rfl) (by decide) (fun p178 => ?_)
      refine sb 0 K10 [Qa p41 47 [.slice A12 x0.Store.Segments.length c13, .int .i64 x0.Store.Now, .int .i64 x0.Cursor, .slice A17 x0.Order.length c18, .slice A22 x0.Active.length c23, .slice (some a149) x0.Done.length c28, .slice A32 x0.Ledger.length c33, .int .i64 x0.Steps]] (fun W hm => hm) Qdl ?_
      refine nt' (sr ?_)
      refine wv (vf Qdh rfl Qcl) ?_
      refine wv (fun W hm => Qz (cs := [.int .i64 ((gt x0.Done k143).Query.Id), .int .i64 ((gt x0.Done k143).Query.Tenant), .slice A164 ((gt x0.Done k143).Query.Conds).length c165, .slice A169 ((gt x0.Done k143).Query.Out).length c170]) Qch Qcl rfl rfl (hm.boxPart (n := 0) rfl rfl)) ?_
      refine wcv (Qr Qyg rfl) (fun W hm => Qzt W _ ((gt x0.Done k143).Query) (Qjb (x := ((gt x0.Done k143).Query)) (hm.rdS0 r167) (hm.rdS0 r172))) ?_
      refine wv Qbr ?_
      refine wm ?_
      rcases Bool.eq_false_or_eq_true (Qmv ((gt x0.Done k143).Query)) with g180 | g180
      ·
       refine wg (vf Qdh rfl Qh) (nt g180) ?_
       refine wg (vl 0 4 Qt) (nt g180) ?_
       refine wg (vf Qaq rfl Qae) (nt g180) ?_
       refine wg (fun W hm => Qdy (o := 1) Qaf rfl Qh (by decide) rfl rfl) (nt g180) ?_
       refine wg (vl 1 1 Qt) (nt g180) ?_
       refine Qdm (Qr Qfc rfl) (fun W hm => Qfd W ((gt x0.Done k143).Time) 0 x0.Store.Now) (Qcq rfl rfl rfl (bw (nt g180) rfl)) (by decide) ?_
       refine wg Qbr (nt g180) ?_
       refine wv (vpF (nt g180)) ?_
       refine wm ?_
       rcases Bool.eq_false_or_eq_true (Qdg ((gt x0.Done k143).Time) 0 x0.Store.Now) with g182 | g182
       ·
        have hw := Qfv g182
        refine wg (vf Qdh rfl Qh) (nt g182) ?_
        refine wg (vl 0 5 Qt) (nt g182) ?_
        refine Qdm (Qr Qfc rfl) (fun W hm => Qfd W ((gt x0.Done k143).Steps) 0 100000) (Qcq rfl rfl rfl (bw (nt g182) rfl)) (by decide) ?_
        refine wg Qbr (nt g182) ?_
        refine wv (vpF (nt g182)) ?_
        refine wm ?_
        rcases Bool.eq_false_or_eq_true (Qdg ((gt x0.Done k143).Steps) 0 100000) with g184 | g184
        ·
         have hw := Qfv g184
         refine wg (vf Qdh rfl Qfa) (nt g184) ?_
         refine wg (vl 0 6 Qdv) (nt g184) ?_
         refine Qdm (Qr Qyh rfl) (fun W hm => Qaad W _ ((gt x0.Done k143).Rows) (hm.rdS0 r177)) (Qcq rfl rfl rfl (bw (nt g184) rfl)) (by decide) ?_
         refine wg Qbr (nt g184) ?_
         refine wv (vpF (nt g184)) ?_
         refine nt' ?_
         rcases Bool.eq_false_or_eq_true (Qol ((gt x0.Done k143).Rows)) with g186 | g186
         ·
          refine Qp rfl (nt g186) ?_
          refine Qq (Qax (Qi (Qad ?_)))
          refine wv (Qbd k143 1 (by omega)) ?_
          refine wm (Qal ?_)
          have hn187 := Qbb (R := Bool) (body := F2) (k := k143) (s := ()) (s' := ()) (show k143 < x0.Done.length from by omega) (Qb g180 (Qb g182 (Qb g184 (Qb g186 (rfl))))) hF145
          exact Qaz (k143 + 1, (), ()) sl4 (pk [1]) ⟨(by omega), hn187⟩ (rl (by omega))
         refine Ql rfl (nf g186) ?_
         refine sr (wa (nt' (Qj (Qy (Qe (Qe (Qy (Qe ?_))))))))
         exact rtb (h := Qb g43 (Qb g45 (Qb g47 (Qb g49 (Qc g51 (Qc g53 (Qc g55 (Qat hE142 (Qba (Qbc (body := F2) (k := k143) (s := ()) (show k143 < x0.Done.length from by omega) (Qb g180 (Qb g182 (Qb g184 (Qc g186 (rfl))))) hF145) rfl)))))))))
        refine ws (nf g184) ?_
        refine ws (nf g184) ?_
        refine ws (nf g184) ?_
        refine ws (nf g184) ?_
        refine wv (vpT (nf g184)) ?_
        refine nt' ?_
        refine Ql rfl rfl ?_
        refine sr (wa (nt' (Qj (Qy (Qe (Qe (Qy (Qe ?_))))))))
        exact rtb (h := Qb g43 (Qb g45 (Qb g47 (Qb g49 (Qc g51 (Qc g53 (Qc g55 (Qat hE142 (Qba (Qbc (body := F2) (k := k143) (s := ()) (show k143 < x0.Done.length from by omega) (Qb g180 (Qb g182 (Qc g184 (rfl)))) hF145) rfl)))))))))
       refine ws (nf g182) ?_
       refine ws (nf g182) ?_
       refine ws (nf g182) ?_
       refine ws (nf g182) ?_
       refine wv (vpT (nf g182)) ?_
       refine wm ?_
       refine wk ?_
       refine wk ?_
       refine wk ?_
       refine wk ?_
       refine wv (vpT rfl) ?_
       refine nt' ?_
       refine Ql rfl rfl ?_
       refine sr (wa (nt' (Qj (Qy (Qe (Qe (Qy (Qe ?_))))))))
       exact rtb (h := Qb g43 (Qb g45 (Qb g47 (Qb g49 (Qc g51 (Qc g53 (Qc g55 (Qat hE142 (Qba (Qbc (body := F2) (k := k143) (s := ()) (show k143 < x0.Done.length from by omega) (Qb g180 (Qc g182 (rfl))) hF145) rfl)))))))))
      refine ws (nf g180) ?_
      refine ws (nf g180) ?_
      refine ws (nf g180) ?_
      refine ws (nf g180) ?_
      refine ws (nf g180) ?_
      refine ws (nf g180) ?_
      refine ws (nf g180) ?_
      refine wv (vpT (nf g180)) ?_
      refine wm ?_
      refine wk ?_
      refine wk ?_
      refine wk ?_
      refine wk ?_
      refine wv (vpT rfl) ?_
      refine wm ?_
      refine wk ?_
      refine wk ?_
      refine wk ?_
      refine wk ?_
      refine wv (vpT rfl) ?_
      refine nt' ?_
      refine Ql rfl rfl ?_
      refine sr (wa (nt' (Qj (Qy (Qe (Qe (Qy (Qe ?_))))))))
      exact rtb (h := Qb g43 (Qb g45 (Qb g47 (Qb g49 (Qc g51 (Qc g53 (Qc g55 (Qat hE142 (Qba (Qbc (body := F2) (k := k143) (s := ()) (show k143 < x0.Done.length from by omega) (Qc g180 (rfl)) hF145) rfl)))))))))
     have g148 := dlF hl147
     refine Qp rfl g148 ?_
     refine Qbk (Qac (Qac ?_))
     have hE188 : R5 (x0.Done.length - 0) 0 () = Sum.inr () := Qbn hl147 hF145
     refine Qbm (Qi (Qf (sr ?_)))
     refine wv (vf Qaq rfl type45) ?_
     refine wv (vl 0 6 Qdt) ?_
     refine wv (Qai Qdt) ?_
     refine wm (nt' (Qab ?_))
     let F3 := fun k (_ : Unit) => Qrj x0 k
     let R6 := rng (R := Bool) F3
     refine Qbl (σ := Nat × (Unit) × (Unit)) (fun s => [(118, .slice A32 x0.Ledger.length c33), (119, .int .i64 ((x0.Ledger.length : Nat) : Int)), (120, .int .i64 ((s.1 : Nat) : Int))]) (fun s => [Qa p41 47 K8]) (fun s => s.1 ≤ x0.Ledger.length ∧ R6 (x0.Ledger.length - s.1) s.1 s.2.1 = R6 (x0.Ledger.length - 0) 0 ()) (fun s => x0.Ledger.length - s.1) (0, (), ()) sl3 (fun W hm => hm) ⟨(by omega), rfl⟩ ?_
     rintro ⟨k189, ⟨⟩, ⟨⟩⟩ H192
     obtain ⟨hk190, hF191⟩ : k189 ≤ x0.Ledger.length ∧ R6 (x0.Ledger.length - k189) k189 () = R6 (x0.Ledger.length - 0) 0 () := H192
     show CM Tryz.prog 128 _ _ _ _ [(118, .slice A32 x0.Ledger.length c33), (119, .int .i64 ((x0.Ledger.length : Nat) : Int)), (120, .int .i64 ((k189 : Nat) : Int))] [Qa p41 47 K8]
     refine sr ?_
     refine wv Qak ?_
     refine nt' (Qf ?_)
     by_cases hl193 : k189 < x0.Ledger.length
     ·have g194 := dlT hl193
      refine Ql rfl g194 ?_
      refine Qq (Qi (Qf (Qab (sr ?_))))
      obtain ⟨a195, rfl, hb196, he197⟩ := q34 (by omega)
      refine wv (vix 5 k189 Qdt Qdr) ?_
      obtain ⟨_, e205, hc198⟩ := he197 k189 _ (Qca (show k189 < x0.Ledger.length from by omega))
      obtain ⟨v199, v201, v203, rfl, r200, r202, r204⟩ := Qik e205
      have l206 : ((gt x0.Ledger k189).Ids).length ≤ 68719476736 := (s_0.2.2.2.2.2 _ (Qbh (show k189 < x0.Ledger.length from by omega))).1
      have l207 : ((gt x0.Ledger k189).Tenants).length ≤ 68719476736 := (s_0.2.2.2.2.2 _ (Qbh (show k189 < x0.Ledger.length from by omega))).2.1
      have l208 : ((gt x0.Ledger k189).Rows).length ≤ 68719476736 := (s_0.2.2.2.2.2 _ (Qbh (show k189 < x0.Ledger.length from by omega))).2.2
      obtain ⟨m209, A210, c211, rfl, q212, r213⟩ := Qk r200
      obtain ⟨m214, A215, c216, rfl, q217, r218⟩ := Qk r202
      obtain ⟨m219, A220, c221, rfl, q222, r223⟩ := Qk r204
      let K11 : List Value := [.int .i64 ((gt x0.Ledger k189).Segment), .int .i64 ((gt x0.Ledger k189).Base), .slice A210 ((gt x0.Ledger k189).Ids).length c211, .slice A215 ((gt x0.Ledger k189).Tenants).length c216, .slice A220 ((gt x0.Ledger k189).Rows).length c221]
      refine wv (fun W hm => Qz (cs := K11) Qcm Qdr rfl rfl (hm.elCells (show (a195.add (k189 * 5)).block < w.heap.size from by rw [Qah]; exact hb196.1) hc198)) ?_
      refine Qbo Qdr rfl (Qo rfl) (by decide) (fun p224 => ?_)
      refine sb 0 K11 [Qa p41 47 [.slice A12 x0.Store.Segments.length c13, .int .i64 x0.Store.Now, .int .i64 x0.Cursor, .slice A17 x0.Order.length c18, .slice A22 x0.Active.length c23, .slice A27 x0.Done.length c28, .slice (some a195) x0.Ledger.length c33, .int .i64 x0.Steps]] (fun W hm => hm) Qdr ?_
      refine nt' (sr ?_)
      refine wv (fun W hm => Qz (cs := K11) Qcm Qdr rfl rfl (hm.boxCells (n := 0) rfl)) ?_
      refine wcv (Qr Qafw rfl) (fun W hm => Qajr W _ (gt x0.Ledger k189) (Qoy (x := (gt x0.Ledger k189)) (hm.rdS0 r213) (hm.rdS0 r218) (hm.rdS0 r223))) ?_
      refine wv Qbr ?_
      refine nt' ?_
      rcases Bool.eq_false_or_eq_true (Qmu (gt x0.Ledger k189)) with g226 | g226
      ·
       refine Qp rfl (nt g226) ?_
       refine Qq (Qax (Qi (Qad ?_)))
       refine wv (Qbd k189 1 (by omega)) ?_
       refine wm (Qal ?_)
       have hn227 := Qbb (R := Bool) (body := F3) (k := k189) (s := ()) (s' := ()) (show k189 < x0.Ledger.length from by omega) (Qb g226 (rfl)) hF191
       exact Qaz (k189 + 1, (), ()) sl3 (pk [1]) ⟨(by omega), hn227⟩ (rl (by omega))
      refine Ql rfl (nf g226) ?_
      refine sr (wa (nt' (Qj (Qy (Qe (Qe (Qy (Qe ?_))))))))
      exact rtb (h := Qb g43 (Qb g45 (Qb g47 (Qb g49 (Qc g51 (Qc g53 (Qc g55 (Qat hE142 (Qat hE188 (Qba (Qbc (body := F3) (k := k189) (s := ()) (show k189 < x0.Ledger.length from by omega) (Qc g226 (rfl)) hF191) rfl))))))))))
     have g194 := dlF hl193
     refine Qp rfl g194 ?_
     refine Qbk (Qac (Qac ?_))
     have hE228 : R6 (x0.Ledger.length - 0) 0 () = Sum.inr () := Qbn hl193 hF191
     refine Qbm (Qi (sr (wa (nt' (Qj ?_)))))
     exact rtb (h := Qb g43 (Qb g45 (Qb g47 (Qb g49 (Qc g51 (Qc g53 (Qc g55 (Qat hE142 (Qat hE188 (Qat hE228 (rfl)))))))))))
    refine Ql rfl (nf g49) ?_
    refine sr (wa (nt' (Qj (Qe ?_))))
    exact rtb (h := Qb g43 (Qb g45 (Qb g47 (Qc g49 (rfl)))))
   refine ws (nf g47) ?_
   refine ws (nf g47) ?_
   refine ws (nf g47) ?_
   refine ws (nf g47) ?_
   refine wv (vpT (nf g47)) ?_
   refine nt' ?_
   refine Ql rfl rfl ?_
   refine sr (wa (nt' (Qj (Qe ?_))))
   exact rtb (h := Qb g43 (Qb g45 (Qc g47 (rfl))))
  refine ws (nf g45) ?_
  refine ws (nf g45) ?_
  refine ws (nf g45) ?_
  refine ws (nf g45) ?_
  refine wv (vpT (nf g45)) ?_
  refine wm ?_
  refine wk ?_
  refine wk ?_
  refine wk ?_
  refine wk ?_
  refine wv (vpT rfl) ?_
  refine nt' ?_
  refine Ql rfl rfl ?_
  refine sr (wa (nt' (Qj (Qe ?_))))
  exact rtb (h := Qb g43 (Qc g45 (rfl)))
 refine ws (nf g43) ?_
 refine ws (nf g43) ?_
 refine ws (nf g43) ?_
 refine ws (nf g43) ?_
 refine ws (nf g43) ?_
 refine ws (nf g43) ?_
 refine ws (nf g43) ?_
 refine ws (nf g43) ?_
 refine ws (nf g43) ?_
 refine wv (vpT (nf g43)) ?_
 refine wm ?_
 refine wk ?_
 refine wk ?_
 refine wk ?_
 refine wk ?_
 refine wv (vpT rfl) ?_
 refine wm ?_
 refine wk ?_
 refine wk ?_
 refine wk ?_
 refine wk ?_
 refine wv (vpT rfl) ?_
 refine nt' ?_
 refine Ql rfl rfl ?_
 refine sr (wa (nt' (Qj (Qe ?_))))
 exact rtb (h := Qc g43 (rfl))

def Quo (x0 : Qn) (x1 : (List Int)) (k14 : Nat) : Bool ⊕ (Unit) :=
 cond (Qic x0 (gt x1 k14)) (Sum.inl true) (Sum.inr ())
def Qpm (x0 : Qn) (x1 : (List Int)) : Bool :=
 Sum.elim id (fun (s : Unit) => (x0.Died == (-1))) (rng (R := Bool) (fun k (_ : Unit) => Quo x0 x1 k) (x1.length - 0) 0 ())
theorem Qaie : Cb Tryz.prog 222 := ⟨f222, _, func222, rfl, by decide⟩
theorem Qale (w : World) (z0 : List Value) (x0 : Qn) (z1 : Value) (x1 : (List Int)) (r_0 : Qm.rd w w.heap.size z0 x0) (r_1 : rdS Qg w w.heap.size z1 x1) :
  Calls Tryz.prog 222 #[.agg z0.toArray, z1] w fun e w' => e = .returned (.bool (Qpm x0 x1)) ∧ Below w.heap.size w w' := by
 obtain ⟨v1, rfl, r2⟩ := Qfm r_0
 obtain ⟨m3, A4, c5, rfl, q6, r7⟩ := Qk r2
 obtain ⟨m8, A9, c10, rfl, q11, r12⟩ := Qk r_1
 refine ce2 (L := [(0, .agg #[.int .i64 x0.Id, .slice A4 x0.Values.length c5, .int .i64 x0.Born, .int .i64 x0.Died]), (1, .slice A9 x1.length c10)]) (N := 20) func222 ?_
 refine sr ?_
 refine Qbj rfl (Qo rfl) (by decide) (fun p13 => ?_)
 refine wa (nt' (Qf (sr (wm ?_))))
 refine wv (Qai Qv) ?_
 refine wm (nt' (Qab ?_))
 let F1 := fun k (_ : Unit) => Quo x0 x1 k
 let R2 := rng (R := Bool) F1
 let K3 : List Value := [.int .i64 x0.Id, .slice A4 x0.Values.length c5, .int .i64 x0.Born, .int .i64 x0.Died]
 refine Qbl (σ := Nat × (Unit) × (Unit)) (fun s => [(2, .pointer (some (⟨p13, 0, none⟩ : Addr))), (7, .slice A9 x1.length c10), (8, .int .i64 ((x1.length : Nat) : Int)), (9, .int .i64 ((s.1 : Nat) : Int))]) (fun s => [Qa p13 191 K3]) (fun s => s.1 ≤ x1.length ∧ R2 (x1.length - s.1) s.1 s.2.1 = R2 (x1.length - 0) 0 ()) (fun s => x1.length - s.1) (0, (), ()) sl4 (fun W hm => hm) ⟨(by omega), rfl⟩ ?_
 rintro ⟨k14, ⟨⟩, ⟨⟩⟩ H17
 obtain ⟨hk15, hF16⟩ : k14 ≤ x1.length ∧ R2 (x1.length - k14) k14 () = R2 (x1.length - 0) 0 () := H17
 show CM Tryz.prog 20 _ _ _ _ [(2, .pointer (some (⟨p13, 0, none⟩ : Addr))), (7, .slice A9 x1.length c10), (8, .int .i64 ((x1.length : Nat) : Int)), (9, .int .i64 ((k14 : Nat) : Int))] [Qa p13 191 K3]
 refine sr ?_
 refine wv Qak ?_
 refine nt' (Qf ?_)
 by_cases hl18 : k14 < x1.length
 ·have g19 := dlT hl18
  refine Ql rfl g19 ?_
  refine Qq (Qi (Qf (Qab (sr ?_))))
  obtain ⟨a20, rfl, hb21, he22⟩ := q11 (by omega)
  refine wv (vix 1 k14 Qv Qh) ?_
  refine wv (fun W hm => Qaw Qt rfl rfl ((hm.cell0 (show (a20.add (k14 * 1)).block < w.heap.size from by rw [Qah]; exact hb21.1)).trans (Qex he22 k14 (by omega)))) ?_
  refine wa (nt' (sr ?_))
  refine wv (fun W hm => Qz (cs := K3) Qbe Qar rfl rfl (hm.boxCells (n := 0) rfl)) ?_
  refine wm ?_
  refine wcv (Qr Qtk rfl) (fun W hm => Qtx W _ x0 (gt x1 k14) (Qgz (x := x0) (hm.rdS0 r7))) ?_
  refine nt' ?_
  rcases Bool.eq_false_or_eq_true (Qic x0 (gt x1 k14)) with g24 | g24
  ·
   refine Ql rfl g24 ?_
   refine sr (wa (nt' (Qj (Qy (Qe (Qe (Qy (Qe ?_))))))))
   exact rtb (h := Qba (Qbc (body := F1) (k := k14) (s := ()) (show k14 < x1.length from by omega) (Qb g24 (rfl)) hF16) rfl)
  refine Qp rfl g24 ?_
  refine Qq (Qax (Qi (Qad ?_)))
  refine wv (Qbd k14 1 (by omega)) ?_
  refine wm (Qal ?_)
  have hn25 := Qbb (R := Bool) (body := F1) (k := k14) (s := ()) (s' := ()) (show k14 < x1.length from by omega) (Qc g24 (rfl)) hF16
  exact Qaz (k14 + 1, (), ()) sl4 (fun W hm => hm) ⟨(by omega), hn25⟩ (rl (by omega))
 have g19 := dlF hl18
 refine Qp rfl g19 ?_
 refine Qbk (Qac (Qac ?_))
 have hE26 : R2 (x1.length - 0) 0 () = Sum.inr () := Qbn hl18 hF16
 refine Qbm (Qi (sr ?_))
 refine wv (vf Qbe rfl Qh) ?_
 refine wv (vl 0 3 Qt) ?_
 refine wv (fun W hm => Qdj rfl rfl) ?_
 refine wa (nt' (Qj ?_))
 exact rtb (h := Qat hE26 (rfl))

def Qts (x0 : Qx) (k9 : Nat) (s10 : Int) : Int ⊕ (Int) :=
 Sum.inr (IntKind.i64.wrap (s10 + ((((gt x0.Segments k9)).length : Nat) : Int)))
def Qmt (x0 : Qx) : Int :=
 Sum.elim id (fun (s : Int) => s) (rng (R := Int) (fun k (s : Int) => Qts x0 k s) (x0.Segments.length - 0) 0 0)
theorem Qyx : Cb Tryz.prog 223 := ⟨f223, _, func223, rfl, by decide⟩
theorem Qzs (w : World) (z0 : List Value) (x0 : Qx) (r_0 : Qcz.rd w w.heap.size z0 x0) :
  Calls Tryz.prog 223 #[.agg z0.toArray] w fun e w' => e = .returned (.int .i64 (Qmt x0)) ∧ Below w.heap.size w w' := by
 obtain ⟨v1, rfl, r2⟩ := Qgy r_0
 obtain ⟨m3, A4, c5, rfl, q6, r7⟩ := Qk r2
 refine ce1 (L := [(0, .agg #[.slice A4 x0.Segments.length c5, .int .i64 x0.Now])]) (N := 19) func223 ?_
 refine sr ?_
 refine Qbj rfl (Qo rfl) (by decide) (fun p8 => ?_)
 refine wa (nt' (sr (wa (nt' (Qf (sr ?_))))))
 refine wv (vf Qaf rfl Qcu) ?_
 refine wv (vl 0 0 Qas) ?_
 refine wv (Qai Qas) ?_
 refine wm (nt' (Qab ?_))
 let F1 := fun k (s : Int) => Qts x0 k s
 let R2 := rng (R := Int) F1
 let I3 : It := Qa p8 42 [.slice A4 x0.Segments.length c5, .int .i64 x0.Now]
 refine Qbl (σ := Nat × (Int) × (Unit)) (fun s => [(3, .int .i64 s.2.1), (7, .slice A4 x0.Segments.length c5), (8, .int .i64 ((x0.Segments.length : Nat) : Int)), (9, .int .i64 ((s.1 : Nat) : Int))]) (fun s => [I3]) (fun s => s.1 ≤ x0.Segments.length ∧ R2 (x0.Segments.length - s.1) s.1 s.2.1 = R2 (x0.Segments.length - 0) 0 0) (fun s => x0.Segments.length - s.1) (0, 0, ()) sl4 (fun W hm => hm) ⟨(by omega), rfl⟩ ?_
 rintro ⟨k9, s10, ⟨⟩⟩ H13
 obtain ⟨hk11, hF12⟩ : k9 ≤ x0.Segments.length ∧ R2 (x0.Segments.length - k9) k9 s10 = R2 (x0.Segments.length - 0) 0 0 := H13
 show CM Tryz.prog 19 _ _ _ _ [(3, .int .i64 s10), (7, .slice A4 x0.Segments.length c5), (8, .int .i64 ((x0.Segments.length : Nat) : Int)), (9, .int .i64 ((k9 : Nat) : Int))] [I3]
 refine sr ?_
 refine wv Qak ?_
 refine nt' (Qf ?_)
 by_cases hl14 : k9 < x0.Segments.length
 ·have g15 := dlT hl14
  refine Ql rfl g15 ?_
  refine Qq (Qi (Qf (Qab (sr ?_))))
  obtain ⟨a16, rfl, hb17, he18⟩ := q6 (by omega)
  refine wv (vix 1 k9 Qas Qda) ?_
  obtain ⟨_, e20, hc19⟩ := he18 k9 _ (Qca (show k9 < x0.Segments.length from by omega))
  obtain ⟨v21, rfl, r22⟩ := e20
  obtain ⟨m23, A24, c25, rfl, q26, r27⟩ := Qk r22
  refine wv (fun W hm => Qaw Qav rfl rfl ((hm.cell0 (show (a16.add (k9 * 1)).block < w.heap.size from by rw [Qah]; exact hb17.1)).trans (hc19 0 _ rfl))) ?_
  refine wa (nt' (Qad (wm (wm ?_))))
  refine wv (Qai Qav) ?_
  refine wv Qdq ?_
  refine wa (Qal (Qax (Qi (Qad ?_))))
  refine wv (Qbd k9 1 (by omega)) ?_
  refine wm (Qal ?_)
  have hn28 := Qbb (R := Int) (body := F1) (k := k9) (s := s10) (s' := (IntKind.i64.wrap (s10 + ((((gt x0.Segments k9)).length : Nat) : Int)))) (show k9 < x0.Segments.length from by omega) (rfl) hF12
  exact Qaz (k9 + 1, (IntKind.i64.wrap (s10 + ((((gt x0.Segments k9)).length : Nat) : Int))), ()) sl4 (fun W hm => hm) ⟨(by omega), hn28⟩ (rl (by omega))
 have g15 := dlF hl14
 refine Qp rfl g15 ?_
 refine Qbk (Qac (Qac ?_))
 have hE29 : R2 (x0.Segments.length - 0) 0 0 = Sum.inr s10 := Qbn hl14 hF12
 refine Qbm (Qi (sr (wm (wa (nt' (Qj ?_))))))
 exact rti (h := Qat hE29 (rfl))

def Qty (x1 : (List Int)) (k26 : Nat) (d27 : (List (List Qn))) (k43 : Nat) (d44 : (List Qn)) : (Qx × Int) ⊕ ((List Qn)) :=
 cond (Qpm (gt (gt d27 k26) k43) x1) (Sum.inr (d44 ++ [(gt (gt d27 k26) k43)])) (Sum.inr d44)
def Qrp (x1 : (List Int)) (k26 : Nat) (d27 : (List (List Qn))) : (Qx × Int) ⊕ ((List (List Qn))) :=
 Sum.elim Sum.inl (fun (s : (List Qn)) => Sum.inr (d27.set k26 s)) (rng (R := (Qx × Int)) (fun k (s : (List Qn)) => Qty x1 k26 d27 k s) ((gt d27 k26).length - 0) 0 [])
def Qgb (x0 : Qx) (x1 : (List Int)) : (Qx × Int) :=
 cond (Qib x0) (Sum.elim id (fun (s : (List (List Qn))) => ((⟨s, x0.Now⟩ : Qx), (IntKind.i64.wrap ((Qmt x0) - (Qmt (⟨s, x0.Now⟩ : Qx)))))) (rng (R := (Qx × Int)) (fun k (s : (List (List Qn))) => Qrp x1 k s) (x0.Segments.length - 0) 0 x0.Segments)) (x0, 0)
theorem Qahd : Cb Tryz.prog 180 := ⟨f180, _, func180, rfl, by decide⟩
theorem Qajx (w : World) (z0 : List Value) (x0 : Qx) (z1 : Value) (x1 : (List Int)) (r_0 : Qcz.rd w w.heap.size z0 x0) (r_1 : rdS Qg w w.heap.size z1 x1) (s_0 : Qfl 68719476736 x0) (s_1 : x1.length ≤ 68719476736) :
  Calls Tryz.prog 180 #[.agg z0.toArray, z1] w fun e w' => ∃ v : List Value, e = .returned (.tuple #[.agg v.toArray, .int .i64 ((Qgb x0 x1).2)]) ∧ Mem w.heap.size w [Qd Qcz v (Qgb x0 x1).1] w' := by
 obtain ⟨v1, rfl, r2⟩ := Qgy r_0
 obtain ⟨m3, A4, c5, rfl, q6, r7⟩ := Qk r2
 obtain ⟨m8, A9, c10, rfl, q11, r12⟩ := Qk r_1
 have l13 : x0.Segments.length ≤ 68719476736 := s_0.1
 have l14 : x1.length ≤ 68719476736 := s_1
 refine ce2 (L := [(0, .agg #[.slice A4 x0.Segments.length c5, .int .i64 x0.Now]), (1, .slice A9 x1.length c10)]) (N := 53) func180 ?_
 refine sr ?_
 refine Qbj rfl (Qo rfl) (by decide) (fun p15 => ?_)
 refine Qbo Qae rfl (Qo rfl) (by decide) (fun p16 => ?_)
 refine wa (nt' (sr ?_))
 refine wv (fun W hm => Qz (cs := [.slice A4 x0.Segments.length c5, .int .i64 x0.Now]) Qaf Qae rfl rfl (hm.boxCells (n := 1) rfl)) ?_
 refine wcs Qcz x0 (Qr Qlk rfl) (fun W hm => Qls W _ x0 (Qeg (x := x0) (hm.rdS0 r7)) s_0) (fun z17 => ?_)
 refine Qgd ?_
 rintro v18 rfl
 refine Qs (n := 0) rfl ?_
 rintro A19 c20 rfl m21
 refine Qbo Qae rfl (Qo rfl) (by decide) (fun p23 => ?_)
 let I7 : It := Qd (tSl (tSl Qm 191) 131) [.slice A19 x0.Segments.length c20] x0.Segments
 let I8 : It := Qa p15 42 [.slice A4 x0.Segments.length c5, .int .i64 x0.Now]
 refine sb 0 [.slice A19 x0.Segments.length c20, .int .i64 x0.Now] [I7, Qa p16 42 [.slice none 0 0, .int .i64 0], I8] (fun W hm => hm) Qae ?_
 refine nt' (Qf (sr ?_))
 refine wv (fun W hm => Qz (cs := [.slice A4 x0.Segments.length c5, .int .i64 x0.Now]) Qaf Qae rfl rfl (hm.boxCells (n := 3) rfl)) ?_
 refine wcv (Qr Qti rfl) (fun W hm => Qtw W _ x0 (Qeg (x := x0) (hm.rdS0 r7)) s_0) ?_
 refine wv Qbr ?_
 refine nt' ?_
 rcases Bool.eq_false_or_eq_true (Qib x0) with g25 | g25
 ·
  refine Qp rfl (nt g25) ?_
  refine Qq (Qi (Qf (sr ?_)))
  refine wv (vf Qaf rfl Qcu) ?_
  refine wv (vl 0 0 Qas) ?_
  refine wv (Qai Qas) ?_
  refine wm (nt' (Qab ?_))
  let F1 := fun k (s : (List (List Qn))) => Qrp x1 k s
  let R3 := rng (R := (Qx × Int)) F1
  let I9 : It := Qa p23 42 [.slice A19 x0.Segments.length c20, .int .i64 x0.Now]
  refine Qbl (σ := Nat × ((List (List Qn))) × (Unit)) (fun s => [(1, .slice A9 x1.length c10), (2, .pointer (some (⟨p15, 0, none⟩ : Addr))), (4, .pointer (some (⟨p16, 0, none⟩ : Addr))), (6, .pointer (some (⟨p23, 0, none⟩ : Addr))), (19, .slice A19 x0.Segments.length c20), (20, .int .i64 ((x0.Segments.length : Nat) : Int)), (21, .int .i64 ((s.1 : Nat) : Int))]) (fun s => [I9, Qd (tSl (tSl Qm 191) 131) [.slice A19 x0.Segments.length c20] s.2.1, Qa p16 42 [.slice none 0 0, .int .i64 0], I8]) (fun s => s.1 ≤ x0.Segments.length ∧ R3 (x0.Segments.length - s.1) s.1 s.2.1 = R3 (x0.Segments.length - 0) 0 x0.Segments ∧ ∀ j, s.1 ≤ j → gt s.2.1 j = gt x0.Segments j) (fun s => x0.Segments.length - s.1) (0, x0.Segments, ()) sl7 (fun W hm => hm) ⟨(by omega), rfl, (fun _ _ => rfl)⟩ ?_
  rintro ⟨k26, d27, ⟨⟩⟩ H30
  obtain ⟨hk28, hF29, hi31⟩ : k26 ≤ x0.Segments.length ∧ R3 (x0.Segments.length - k26) k26 d27 = R3 (x0.Segments.length - 0) 0 x0.Segments ∧ ∀ j, k26 ≤ j → gt d27 j = gt x0.Segments j := H30
  let I10 : It := Qd (tSl (tSl Qm 191) 131) [.slice A19 x0.Segments.length c20] d27
  show CM Tryz.prog 53 _ _ _ _ [(1, .slice A9 x1.length c10), (2, .pointer (some (⟨p15, 0, none⟩ : Addr))), (4, .pointer (some (⟨p16, 0, none⟩ : Addr))), (6, .pointer (some (⟨p23, 0, none⟩ : Addr))), (19, .slice A19 x0.Segments.length c20), (20, .int .i64 ((x0.Segments.length : Nat) : Int)), (21, .int .i64 ((k26 : Nat) : Int))] [I9, I10, Qa p16 42 [.slice none 0 0, .int .i64 0], I8]
  refine sr ?_
  refine wv Qak ?_
  refine nt' (Qf ?_)
  by_cases hl32 : k26 < x0.Segments.length
  ·have g33 := dlT hl32
   have hq1 : (gt d27 k26).length ≤ 68719476736 := by rw [hi31 k26 (Nat.le_refl _)]; exact (s_0.2 _ (Qbh (by omega))).1
   refine Ql rfl g33 ?_
   refine Qq (Qi (Qf (Qab (sr (wm ?_)))))
   refine Qfj (n := 1) rfl (by omega) ?_
   rintro g34 rfl
   refine wv (vix 1 k26 Qas Qda) ?_
   let K5 : List Value := [.slice (some ⟨g34, 0, none⟩) x0.Segments.length c20, .int .i64 x0.Now]
   refine Qgk (E := (tSl Qm 191)) (e := 131) (A := (some ⟨g34, 0, none⟩)) (n := x0.Segments.length) (c := c20) (xs := d27) (k := k26) (js := [Qa p23 42 K5, Qa p16 42 [.slice none 0 0, .int .i64 0], I8]) (by omega) (pk [1, 0, 2, 3]) (fun ck35 => ?_)
   refine Qgp (γ := Value) (js := fun g => [Qd (tSl Qm 191) [g] (gt d27 k26)]) (C := fun g => ck35 = [g]) (fun _ _ h => Qhy h) ?_
   rintro v36 rfl
   refine Qs (n := 0) rfl ?_
   rintro A37 c38 rfl m39
   refine wv (fun W hm => Qaw Qav rfl rfl (hm.focInt (i := 1) rfl rfl)) ?_
   refine wa (wa (nt' (sr ?_)))
   refine Qdb (E := Qm) Qav Qar (Qo rfl) (by decide) (fun p41 => ?_)
   refine wa (nt' (Qf (sr (wm ?_))))
   refine wv (Qai Qav) ?_
   refine wm (nt' (Qab ?_))
   refine Qdf (fun W hm => Mem.toRest (hm.pick [1, 0, 2, 3, 4, 5] (by decide))) ?_
   let F2 := fun k (s : (List Qn)) => Qty x1 k26 d27 k s
   let R4 := rng (R := (Qx × Int)) F2
   refine Qbl (σ := Nat × ((List Qn)) × (Option Addr × Nat)) (fun s => [(1, .slice A9 x1.length c10), (2, .pointer (some (⟨p15, 0, none⟩ : Addr))), (4, .pointer (some (⟨p16, 0, none⟩ : Addr))), (6, .pointer (some (⟨p23, 0, none⟩ : Addr))), (7, .int .i64 ((k26 : Nat) : Int)), (9, .slice s.2.2.1 s.2.1.length s.2.2.2), (19, .slice (some ⟨g34, 0, none⟩) x0.Segments.length c20), (20, .int .i64 ((x0.Segments.length : Nat) : Int)), (21, .int .i64 ((k26 : Nat) : Int)), (27, .slice A37 (gt d27 k26).length c38), (28, .int .i64 (((gt d27 k26).length : Nat) : Int)), (29, .int .i64 ((s.1 : Nat) : Int))]) (fun s => [Qhb Qm 191 A37 ((gt d27 k26).length) (gt d27 k26) s.1, Qd (tSl Qm 191) [.slice s.2.2.1 s.2.1.length s.2.2.2] s.2.1, Qao (tSl Qm 191) 131 (some ⟨g34, 0, none⟩) x0.Segments.length c20 d27 k26 [.slice A37 (gt d27 k26).length c38], Qa p23 42 K5, Qa p16 42 [.slice none 0 0, .int .i64 0], I8]) (fun s => s.1 ≤ (gt d27 k26).length ∧ R4 ((gt d27 k26).length - s.1) s.1 s.2.1 = R4 ((gt d27 k26).length - 0) 0 [] ∧ s.2.1.length ≤ 0 + s.1) (fun s => (gt d27 k26).length - s.1) (0, [], ((some ⟨p41, 0, none⟩), 0)) Qks (fun W hm => hm) ⟨(by omega), rfl, Nat.le_refl _⟩ ?_
   rintro ⟨k43, d44, ⟨A45, c46⟩⟩ H49
   obtain ⟨hk47, hF48, hi50⟩ : k43 ≤ (gt d27 k26).length ∧ R4 ((gt d27 k26).length - k43) k43 d44 = R4 ((gt d27 k26).length - 0) 0 [] ∧ d44.length ≤ 0 + k43 := H49
   let I11 : It := Qd (tSl Qm 191) [.slice A45 d44.length c46] d44
   show CM Tryz.prog 53 _ _ _ _ [(1, .slice A9 x1.length c10), (2, .pointer (some (⟨p15, 0, none⟩ : Addr))), (4, .pointer (some (⟨p16, 0, none⟩ : Addr))), (6, .pointer (some (⟨p23, 0, none⟩ : Addr))), (7, .int .i64 ((k26 : Nat) : Int)), (9, .slice A45 d44.length c46), (19, .slice (some ⟨g34, 0, none⟩) x0.Segments.length c20), (20, .int .i64 ((x0.Segments.length : Nat) : Int)), (21, .int .i64 ((k26 : Nat) : Int)), (27, .slice A37 (gt d27 k26).length c38), (28, .int .i64 (((gt d27 k26).length : Nat) : Int)), (29, .int .i64 ((k43 : Nat) : Int))] [Qhb Qm 191 A37 ((gt d27 k26).length) (gt d27 k26) k43, I11, Qao (tSl Qm 191) 131 (some ⟨g34, 0, none⟩) x0.Segments.length c20 d27 k26 [.slice A37 (gt d27 k26).length c38], Qa p23 42 K5, Qa p16 42 [.slice none 0 0, .int .i64 0], I8]
   refine sr ?_
   refine wv Qak ?_
   refine nt' (Qf ?_)
   by_cases hl51 : k43 < (gt d27 k26).length
   ·have g52 := dlT hl51
    refine Ql rfl g52 ?_
    refine Qq (Qi (Qf (Qab (sr ?_))))
    refine Qxy (n := 0) rfl (by omega) ?_
    rintro g53 rfl
    refine wv (vix 4 k43 Qav Qar) ?_
    refine Qxz (E := Qm) (e := 191) (A := (some ⟨g53, 0, none⟩)) (n := (gt d27 k26).length) (xs := (gt d27 k26)) (k := k43) (js := [I11, Qao (tSl Qm 191) 131 (some ⟨g34, 0, none⟩) x0.Segments.length c20 d27 k26 [.slice (some ⟨g53, 0, none⟩) (gt d27 k26).length c38], Qa p23 42 K5, Qa p16 42 [.slice none 0 0, .int .i64 0], I8]) (by omega) (fun W hm => hm) (fun ck54 => ?_)
    refine Qmp ?_
    rintro v55 rfl
    refine Qs (n := 0) rfl ?_
    rintro A56 c57 rfl m58
    let K6 : List Value := [.int .i64 ((gt (gt d27 k26) k43).Id), .slice A56 ((gt (gt d27 k26) k43).Values).length c57, .int .i64 ((gt (gt d27 k26) k43).Born), .int .i64 ((gt (gt d27 k26) k43).Died)]
    refine wv (fun W hm => Qz (cs := K6) Qbe Qar rfl rfl (hm.restCells (i := 1) rfl rfl)) ?_
    refine Qbo Qar rfl (Qo rfl) (by decide) (fun p60 => ?_)
    let I12 : It := Qd (tSl Qg 3) [.slice A56 ((gt (gt d27 k26) k43).Values).length c57] ((gt (gt d27 k26) k43).Values)
    refine sb 0 K6 [I12, Qis Qm 191 (some ⟨g53, 0, none⟩) ((gt d27 k26).length) (gt d27 k26) k43 K6, I11, Qao (tSl Qm 191) 131 (some ⟨g34, 0, none⟩) x0.Segments.length c20 d27 k26 [.slice (some ⟨g53, 0, none⟩) (gt d27 k26).length c38], Qa p23 42 K5, Qa p16 42 [.slice none 0 0, .int .i64 0], I8] (fun W hm => hm) Qar ?_
    refine nt' (sr ?_)
    refine wv (fun W hm => Qz (cs := K6) Qbe Qar rfl rfl (hm.boxCells (n := 0) rfl)) ?_
    refine wm ?_
    refine wcv (Qr Qaie rfl) (fun W hm => Qale W _ (gt (gt d27 k26) k43) _ x1 (Qgz (x := (gt (gt d27 k26) k43)) (hm.rdSI (n := 1) rfl)) (hm.rdS0 r12)) ?_
    refine nt' ?_
    rcases Bool.eq_false_or_eq_true (Qpm (gt (gt d27 k26) k43) x1) with g62 | g62
    ·
     refine Ql rfl g62 ?_
     refine Qad (wm ?_)
     refine wv (fun W hm => Qz (cs := K6) Qbe Qar rfl rfl (hm.boxCells (n := 0) rfl)) ?_
     refine Qfb (cs := K6) Qav Qar rfl (by decide) (by decide) rfl (by kernel_rfl) (Qo rfl) (by decide) (fun p63 => ?_)
     refine ap1 Qm 191 (.slice A45 d44.length c46) d44 (gt (gt d27 k26) k43) [I12] [Qa p60 191 K6, Qis Qm 191 (some ⟨g53, 0, none⟩) ((gt d27 k26).length) (gt d27 k26) k43 K6, Qao (tSl Qm 191) 131 (some ⟨g34, 0, none⟩) x0.Segments.length c20 d27 k26 [.slice (some ⟨g53, 0, none⟩) (gt d27 k26).length c38], Qa p23 42 K5, Qa p16 42 [.slice none 0 0, .int .i64 0], I8] K6 (pk [0, 4, 2, 1, 3, 5, 6, 7, 8]) (fun _ _ hs => Els.single (Qfs (x := (gt (gt d27 k26) k43)) hs)) Qav Qar (show (d44.length + 1) * 48 ≤ 140737488355328 from by omega) (fun v64 => ?_)
     refine Qs (n := 0) rfl ?_
     rintro A65 c66 rfl m67
     refine wa (Qal (Qax (Qi (Qad ?_))))
     refine wv (Qbd k43 1 (by omega)) ?_
     refine wm (Qal ?_)
     refine Qdu (fun W hm => Mem.restNext (hm.pick [2, 0, 1, 3, 4, 5, 6] (by decide))) ?_
     have hn69 := Qbb (R := (Qx × Int)) (body := F2) (k := k43) (s := d44) (s' := (d44 ++ [(gt (gt d27 k26) k43)])) (show k43 < (gt d27 k26).length from by omega) (Qb g62 (rfl)) hF48
     exact Qaz (k43 + 1, (d44 ++ [(gt (gt d27 k26) k43)]), (A65, c66)) Qks (pk [0, 1, 3, 4, 5, 6]) ⟨(by omega), hn69, (show (d44 ++ [(gt (gt d27 k26) k43)]).length ≤ 0 + (k43 + 1) from by first | omega | (simp only [List.length_append, List.length_cons, List.length_nil] at *; omega))⟩ (show (gt d27 k26).length - (k43 + 1) < (gt d27 k26).length - k43 from by omega)
    refine Qp rfl g62 ?_
    refine Qq (Qax (Qi (Qad ?_)))
    refine wv (Qbd k43 1 (by omega)) ?_
    refine wm (Qal ?_)
    refine Qdu (fun W hm => Mem.restNext (hm.pick [2, 0, 1, 3, 4, 5, 6, 7] (by decide))) ?_
    have hn70 := Qbb (R := (Qx × Int)) (body := F2) (k := k43) (s := d44) (s' := d44) (show k43 < (gt d27 k26).length from by omega) (Qc g62 (rfl)) hF48
    exact Qaz (k43 + 1, d44, (A45, c46)) Qks (pk [0, 3, 4, 5, 6, 7]) ⟨(by omega), hn70, (show d44.length ≤ 0 + (k43 + 1) from by first | omega | (simp only [List.length_append, List.length_cons, List.length_nil] at *; omega))⟩ (show (gt d27 k26).length - (k43 + 1) < (gt d27 k26).length - k43 from by omega)
   have g52 := dlF hl51
   refine Qp rfl g52 ?_
   refine Qbk (Qac (Qac ?_))
   have hE71 : R4 ((gt d27 k26).length - 0) 0 [] = Sum.inr d44 := Qbn hl51 hF48
   refine Qbm (Qi (Qad ?_))
   refine wv (vf Qaf rfl Qcu) ?_
   refine wv (vl 3 0 Qas) ?_
   refine wm (wm ?_)
   refine wv (vix 1 k26 Qas Qda) ?_
   refine sf 0 1 [.slice A45 d44.length c46] [Qhb Qm 191 A37 ((gt d27 k26).length) (gt d27 k26) k43, I11, Qa p23 42 K5, Qa p16 42 [.slice none 0 0, .int .i64 0], I8] (pk [2, 0, 1, 3, 4, 5]) Qda ?_
   refine Qal (Qax (Qi (Qad ?_)))
   refine wv (Qbd k26 1 (by omega)) ?_
   refine wm (Qal ?_)
   refine Qdu (fun W hm => Mem.unfocus (Mem.join (is := [I11]) (js := (Qao (tSl Qm 191) 131 (some ⟨g34, 0, none⟩) x0.Segments.length c20 d27 k26 [.slice A45 d44.length c46] :: [Qhb Qm 191 A37 ((gt d27 k26).length) (gt d27 k26) k43, Qa p23 42 K5, Qa p16 42 [.slice none 0 0, .int .i64 0], I8])) (fun _ _ hs => Sep.one hs) (hm.pick [2, 0, 1, 3, 4, 5] (by decide)))) ?_
   have hn72 := Qbb (R := (Qx × Int)) (body := F1) (k := k26) (s := d27) (s' := (d27.set k26 d44)) (show k26 < x0.Segments.length from by omega) (Qat hE71 (rfl)) hF29
   exact Qaz (k26 + 1, (d27.set k26 d44), ()) sl7 (pk [2, 0, 3, 4]) ⟨(by omega), hn72, (show ∀ j, (k26 + 1) ≤ j → gt (d27.set k26 d44) j = gt x0.Segments j from by intro j hj; rw [Qlr (by omega)]; exact hi31 j (by omega))⟩ (rl (by omega))
  have g33 := dlF hl32
  refine Qp rfl g33 ?_
  refine Qbk (Qac (Qac ?_))
  have hE73 : R3 (x0.Segments.length - 0) 0 x0.Segments = Sum.inr d27 := Qbn hl32 hF29
  refine Qbm (Qi (Qf ?_))
  refine rb 8 (s := [I9, I10, I8]) (pk [0, 1, 3]) ?_
  refine qt 8 0 1 rfl (fun W hm => Qz (cs := [.slice A19 x0.Segments.length c20, .int .i64 x0.Now]) Qaf Qae rfl rfl (hm.boxCells (n := 0) rfl)) ?_
  refine qt 8 1 3 rfl (fun W hm => Qz (cs := [.slice A4 x0.Segments.length c5, .int .i64 x0.Now]) Qaf Qae rfl rfl (hm.boxCells (n := 2) rfl)) ?_
  refine qt 8 3 11 rfl (fun W hm => Qz (cs := [.slice A19 x0.Segments.length c20, .int .i64 x0.Now]) Qaf Qae rfl rfl (hm.boxCells (n := 0) rfl)) ?_
  refine qo 8 2 15 rfl ?_
  refine wcv (Qr Qyx rfl) (fun W hm => Qzs W _ x0 (Qeg (x := x0) (hm.rdS0 r7))) ?_
  refine qn (pk [0, 1, 3]) ?_
  refine qo 8 4 31 rfl ?_
  refine wcv (Qr Qyx rfl) (fun W hm => Qzs W _ (⟨d27, x0.Now⟩ : Qx) (Qeg (x := (⟨d27, x0.Now⟩ : Qx)) (hm.rdSI (n := 1) rfl))) ?_
  refine qn (pk [0, 1, 3]) ?_
  refine qt 8 5 63 rfl (fun W hm => Qhw rfl rfl) ?_
  refine qo 8 6 127 rfl ?_
  refine sb 0 [.slice A19 x0.Segments.length c20, .int .i64 x0.Now] [I9, I10, I8] (pk [2, 0, 1, 3]) Qae ?_
  refine qn (pk [1, 2, 3]) ?_
  refine qt 8 7 255 rfl (fun W hm => Qmk rfl) ?_
  refine Qef (by kernel_rfl) ?_
  refine Qi (Qj ?_)
  have he74 := (show Qgb x0 x1 = ((⟨d27, x0.Now⟩ : Qx), (IntKind.i64.wrap ((Qmt x0) - (Qmt (⟨d27, x0.Now⟩ : Qx))))) from Qb g25 (Qat hE73 (rfl)))
  refine Qdx rfl (Qcp (n := 0) rfl rfl Qaf Qae rfl) (Qcv rfl) (fun W hm => ⟨[.slice A19 x0.Segments.length c20, .int .i64 x0.Now], ?_, ?_⟩)
  ·first | rw [he74] | rfl
   try rfl
  rw [he74]; exact Mem.join (is := [I10]) (js := []) (fun _ _ hs => Qed (x := (⟨d27, x0.Now⟩ : Qx)) hs) (hm.pick [2] (by decide))
 refine Ql rfl (nf g25) ?_
 refine sr ?_
 refine wv (fun W hm => Qz (cs := [.slice A19 x0.Segments.length c20, .int .i64 x0.Now]) Qaf Qae rfl rfl (hm.boxCells (n := 0) rfl)) ?_
 refine sb 0 [.slice A19 x0.Segments.length c20, .int .i64 x0.Now] [Qa p23 42 [.slice A19 x0.Segments.length c20, .int .i64 x0.Now], I7, I8] (pk [2, 0, 1, 3]) Qae ?_
 refine wa (nt' (Qj (Qe ?_)))
 have he75 := (show Qgb x0 x1 = (x0, 0) from Qc g25 (rfl))
 refine Qdx rfl (Qcp (n := 0) rfl rfl Qaf Qae rfl) (Qcv rfl) (fun W hm => ⟨[.slice A19 x0.Segments.length c20, .int .i64 x0.Now], ?_, ?_⟩)
 ·first | rw [he75] | rfl
  try rfl
 rw [he75]; exact Mem.join (is := [I7]) (js := []) (fun _ _ hs => Qed (x := x0) hs) (hm.pick [2] (by decide))

def Qru (x0 : Qag) (k35 : Nat) (d36 : (List Int)) : Qag ⊕ ((List Int)) :=
 Sum.inr (d36 ++ [(gt x0.Active k35).Time])
def Qew (x0 : Qag) : Qag :=
 Sum.elim id (fun (s : (List Int)) => (⟨((Qgb x0.Store s).1), x0.Cursor, x0.Order, x0.Active, x0.Done, x0.Ledger, x0.Steps⟩ : Qag)) (rng (R := Qag) (fun k (s : (List Int)) => Qru x0 k s) (x0.Active.length - 0) 0 [])
theorem Qafr : Cb Tryz.prog 105 := ⟨f105, _, func105, rfl, by decide⟩
theorem Qalg (B : Nat) (w0 : World) (is : List It) (w : World) (z0 : List Value) (x0 : Qag) (s_0 : Qgf 68719476736 x0) (hm : Mem B w0 (Qd Qdd z0 x0 :: is) w) :
  Calls Tryz.prog 105 #[.agg z0.toArray] w fun e w' => ∃ v : List Value, e = .returned (.agg v.toArray) ∧ Mem B w0 (Qd Qdd v (Qew x0) :: is) w' := by
 refine Qhi (L := [(0, .agg z0.toArray)]) (N := 29) func105 rfl rfl (Nat.le_of_ble_eq_true rfl) (Qee rfl Qgl) hm ?_
 refine Qiq (γ := Value × Value × Value × Value × Value) (js := fun g => [Qd (tSl (tSl Qm 191) 131) [g.1] x0.Store.Segments, Qd (tSl Qg 3) [g.2.1] x0.Order, Qd (tSl Qbw 64) [g.2.2.1] x0.Active, Qd (tSl Qce 37) [g.2.2.2.1] x0.Done, Qd (tSl Qbx 133) [g.2.2.2.2] x0.Ledger]) (C := fun g => z0 = [g.1, .int .i64 x0.Store.Now, .int .i64 x0.Cursor, g.2.1, g.2.2.1, g.2.2.2.1, g.2.2.2.2, .int .i64 x0.Steps]) (fun _ _ h => Qss h) ?_
 rintro ⟨v1, v2, v3, v4, v5⟩ rfl
 refine Qel (n := 0) rfl ?_
 rintro A6 c7 rfl m8
 refine Qel (n := 1) rfl ?_
 rintro A10 c11 rfl m12
 refine Qel (n := 2) rfl ?_
 rintro A14 c15 rfl m16
 refine Qel (n := 3) rfl ?_
 rintro A18 c19 rfl m20
 refine Qel (n := 4) rfl ?_
 rintro A22 c23 rfl m24
 have l26 : x0.Store.Segments.length ≤ 68719476736 := s_0.1.1
 have l27 : x0.Order.length ≤ 68719476736 := s_0.2.1
 have l28 : x0.Active.length ≤ 68719476736 := s_0.2.2.1.1
 have l29 : x0.Done.length ≤ 68719476736 := s_0.2.2.2.1.1
 have l30 : x0.Ledger.length ≤ 68719476736 := s_0.2.2.2.2.1
 refine sr ?_
 refine Qbj rfl (Qo rfl) (by decide) (fun p31 => ?_)
 refine Qbo Qbv rfl (Qo rfl) (by decide) (fun p32 => ?_)
 refine nt' (sr ?_)
 refine Qdb (E := Qg) Qv Qh (Qo rfl) (by decide) (fun p33 => ?_)
 refine wa (nt' (Qf (sr ?_)))
 refine wv (vf Qaq rfl Qfn) ?_
 refine wv (vl 2 4 Qcj) ?_
 refine wv (Qai Qcj) ?_
 refine wm (nt' (Qab ?_))
 let F1 := fun k (s : (List Int)) => Qru x0 k s
 let R2 := rng (R := Qag) F1
 let K3 : List Value := [.slice none 0 0, .int .i64 0, .int .i64 0, .slice none 0 0, .slice none 0 0, .slice none 0 0, .slice none 0 0, .int .i64 0]
 let K4 : List Value := [.slice A6 x0.Store.Segments.length c7, .int .i64 x0.Store.Now, .int .i64 x0.Cursor, .slice A10 x0.Order.length c11, .slice A14 x0.Active.length c15, .slice A18 x0.Done.length c19, .slice A22 x0.Ledger.length c23, .int .i64 x0.Steps]
 let I8 : It := Qd (tSl (tSl Qm 191) 131) [.slice A6 x0.Store.Segments.length c7] x0.Store.Segments
 let I9 : It := Qd (tSl Qg 3) [.slice A10 x0.Order.length c11] x0.Order
 let I10 : It := Qd (tSl Qbw 64) [.slice A14 x0.Active.length c15] x0.Active
 let I11 : It := Qd (tSl Qce 37) [.slice A18 x0.Done.length c19] x0.Done
 let I12 : It := Qd (tSl Qbx 133) [.slice A22 x0.Ledger.length c23] x0.Ledger
 refine Qbl (σ := Nat × ((List Int)) × (Option Addr × Nat)) (fun s => [(1, .pointer (some (⟨p31, 0, none⟩ : Addr))), (2, .pointer (some (⟨p32, 0, none⟩ : Addr))), (3, .slice s.2.2.1 s.2.1.length s.2.2.2), (8, .slice A14 x0.Active.length c15), (9, .int .i64 ((x0.Active.length : Nat) : Int)), (10, .int .i64 ((s.1 : Nat) : Int))]) (fun s => (Qd (tSl Qg 3) [.slice s.2.2.1 s.2.1.length s.2.2.2] s.2.1 :: Qa p32 47 K3 :: Qa p31 47 K4 :: I8 :: I9 :: I10 :: I11 :: I12 :: is)) (fun s => s.1 ≤ x0.Active.length ∧ R2 (x0.Active.length - s.1) s.1 s.2.1 = R2 (x0.Active.length - 0) 0 [] ∧ s.2.1.length ≤ 0 + s.1) (fun s => x0.Active.length - s.1) (0, [], ((some ⟨p33, 0, none⟩), 0)) sl6 (fun W hm => hm) ⟨(by omega), rfl, Nat.le_refl _⟩ ?_
 rintro ⟨k35, d36, ⟨A37, c38⟩⟩ H41
 obtain ⟨hk39, hF40, hi42⟩ : k35 ≤ x0.Active.length ∧ R2 (x0.Active.length - k35) k35 d36 = R2 (x0.Active.length - 0) 0 [] ∧ d36.length ≤ 0 + k35 := H41
 let I13 : It := Qd (tSl Qg 3) [.slice A37 d36.length c38] d36
 show CM Tryz.prog 29 _ _ _ _ [(1, .pointer (some (⟨p31, 0, none⟩ : Addr))), (2, .pointer (some (⟨p32, 0, none⟩ : Addr))), (3, .slice A37 d36.length c38), (8, .slice A14 x0.Active.length c15), (9, .int .i64 ((x0.Active.length : Nat) : Int)), (10, .int .i64 ((k35 : Nat) : Int))] (I13 :: Qa p32 47 K3 :: Qa p31 47 K4 :: I8 :: I9 :: I10 :: I11 :: I12 :: is)
 refine sr ?_
 refine wv Qak ?_
 refine nt' (Qf ?_)
 by_cases hl43 : k35 < x0.Active.length
 ·have g44 := dlT hl43
  refine Ql rfl g44 ?_
  refine Qq (Qi (Qf (Qab (sr ?_))))
  refine Qfj (n := 5) rfl (by omega) ?_
  rintro g45 rfl
  refine wv (vix 10 k35 Qcj Qcs) ?_
  let K5 : List Value := [.slice A6 x0.Store.Segments.length c7, .int .i64 x0.Store.Now, .int .i64 x0.Cursor, .slice A10 x0.Order.length c11, .slice (some ⟨g45, 0, none⟩) x0.Active.length c15, .slice A18 x0.Done.length c19, .slice A22 x0.Ledger.length c23, .int .i64 x0.Steps]
  refine Qgk (E := Qbw) (e := 64) (A := (some ⟨g45, 0, none⟩)) (n := x0.Active.length) (c := c15) (xs := x0.Active) (k := k35) (js := (I13 :: Qa p32 47 K3 :: Qa p31 47 K5 :: I8 :: I9 :: I11 :: I12 :: is)) (by omega) (fun W hm => (hm.front (n := 5) rfl)) (fun ck46 => ?_)
  refine Qqv ?_
  rintro ⟨v47, v48, v49, v50⟩ rfl
  refine Qs (n := 0) rfl ?_
  rintro A51 c52 rfl m53
  refine Qs (n := 1) rfl ?_
  rintro A55 c56 rfl m57
  refine Qs (n := 2) rfl ?_
  rintro A59 c60 rfl m61
  refine Qs (n := 3) rfl ?_
  rintro A63 c64 rfl m65
  let K6 : List Value := [.int .i64 ((gt x0.Active k35).Query.Id), .int .i64 ((gt x0.Active k35).Query.Tenant), .slice A51 ((gt x0.Active k35).Query.Conds).length c52, .slice A55 ((gt x0.Active k35).Query.Out).length c56, .int .i64 ((gt x0.Active k35).Time), .slice A59 ((gt x0.Active k35).Todo).length c60, .int .i64 ((gt x0.Active k35).Age), .int .i64 ((gt x0.Active k35).Sent), .int .i64 ((gt x0.Active k35).Cap), .slice A63 ((gt x0.Active k35).Rows).length c64]
  refine wv (fun W hm => Qz (cs := K6) Qbu Qcs rfl rfl (hm.focCells (i := 4) rfl rfl)) ?_
  refine Qbo Qcs rfl (Qo rfl) (by decide) (fun p67 => ?_)
  refine Qof (p := p67) (o := 0) (cs' := K6) (fun w hm => hm.front (n := 0) rfl) Qcs rfl (Nat.le_of_ble_eq_true rfl) rfl rfl rfl rfl (Qo rfl) ?_
  refine nt' (Qad (wm ?_))
  refine wv (vf Qbu rfl Qh) ?_
  refine wv (vl 0 4 Qt) ?_
  refine Qfb (cs := [.int .i64 ((gt x0.Active k35).Time)]) Qv Qh rfl (by decide) (by decide) rfl (by kernel_rfl) (Qo rfl) (by decide) (fun p68 => ?_)
  let I14 : It := Qd (tSl Qbz 201) [.slice A51 ((gt x0.Active k35).Query.Conds).length c52] ((gt x0.Active k35).Query.Conds)
  let I15 : It := Qd (tSl Qg 3) [.slice A55 ((gt x0.Active k35).Query.Out).length c56] ((gt x0.Active k35).Query.Out)
  let I16 : It := Qd (tSl Qg 3) [.slice A59 ((gt x0.Active k35).Todo).length c60] ((gt x0.Active k35).Todo)
  let I17 : It := Qd (tSl Qbp 73) [.slice A63 ((gt x0.Active k35).Rows).length c64] ((gt x0.Active k35).Rows)
  refine ap1 Qg 3 (.slice A37 d36.length c38) d36 ((gt x0.Active k35).Time) [] (Qa p67 64 K6 :: I14 :: I15 :: I16 :: I17 :: Qao Qbw 64 (some ⟨g45, 0, none⟩) x0.Active.length c15 x0.Active k35 K6 :: Qa p32 47 K3 :: Qa p31 47 K5 :: I8 :: I9 :: I11 :: I12 :: is) [.int .i64 ((gt x0.Active k35).Time)] (fun W hm => ((hm.front (n := 7) rfl).front (n := 1) rfl)) (fun _ _ hs => by cases (Sep.nil hs); exact (Qre Qcy Qrf)) Qv Qh (show (d36.length + 1) * 8 ≤ 140737488355328 from by omega) (fun v69 => ?_)
  refine Qs (n := 0) rfl ?_
  rintro A70 c71 rfl m72
  refine wa (Qal (Qax (Qi (Qad ?_))))
  refine wv (Qbd k35 1 (by omega)) ?_
  refine wm (Qal ?_)
  refine Qdu (fun W hm => Mem.unfocus0 (Mem.join (is := [I14, I15, I16, I17]) (js := (Qao Qbw 64 (some ⟨g45, 0, none⟩) x0.Active.length c15 x0.Active k35 K6 :: (Qd (tSl Qg 3) [.slice A70 (d36 ++ [(gt x0.Active k35).Time]).length c71] (d36 ++ [(gt x0.Active k35).Time]) :: Qa p67 64 K6 :: Qa p32 47 K3 :: Qa p31 47 K5 :: I8 :: I9 :: I11 :: I12 :: is))) (fun _ _ hs => Qmm (x := (gt x0.Active k35)) hs) (((((hm.front (n := 6) rfl).front (n := 6) rfl).front (n := 6) rfl).front (n := 6) rfl).front (n := 6) rfl))) ?_
  have hn74 := Qbb (R := Qag) (body := F1) (k := k35) (s := d36) (s' := (d36 ++ [(gt x0.Active k35).Time])) (show k35 < x0.Active.length from by omega) (rfl) hF40
  exact Qaz (k35 + 1, (d36 ++ [(gt x0.Active k35).Time]), (A70, c71)) sl6 (fun W hm => (((((((((hm.front (n := 8) rfl).front (n := 8) rfl).front (n := 2) rfl).front (n := 8) rfl).front (n := 8) rfl).front (n := 8) rfl).front (n := 8) rfl).front (n := 7) rfl).front (n := 8) rfl).tail) ⟨(by omega), hn74, (show (d36 ++ [(gt x0.Active k35).Time]).length ≤ 0 + (k35 + 1) from by first | omega | (simp only [List.length_append, List.length_cons, List.length_nil] at *; omega))⟩ (rl (by omega))
 have g44 := dlF hl43
 refine Qp rfl g44 ?_
 refine Qbk (Qac (Qac ?_))
 have hE75 : R2 (x0.Active.length - 0) 0 [] = Sum.inr d36 := Qbn hl43 hF40
 refine Qbm (Qi (sr ?_))
 refine wv (vf Qaq rfl Qae) ?_
 refine wv (fun W hm => Qz (cs := [.slice A6 x0.Store.Segments.length c7, .int .i64 x0.Store.Now]) Qaf Qae rfl rfl (hm.boxPart (n := 2) rfl rfl)) ?_
 refine wm ?_
 refine Qhg (χ := List Value) (val := fun x => .tuple #[.agg x.toArray, .int .i64 ((Qgb x0.Store d36).2)]) (js := fun x => [Qd Qcz x ((Qgb x0.Store d36).1)]) (Qr Qahd rfl) (fun W hm => Qajx W _ x0.Store _ d36 (Qeg (x := x0.Store) (hm.rdSI (n := 3) rfl)) (hm.rdSI (n := 0) rfl) s_0.1 (show _ ≤ 68719476736 from by omega)) (Qo rfl) (by decide) (fun z76 => ?_)
 refine Qgd ?_
 rintro v77 rfl
 refine Qs (n := 0) rfl ?_
 rintro A78 c79 rfl m80
 refine wm ?_
 refine wv (fun W hm => Qes rfl rfl) ?_
 refine wv (fun W hm => Qes rfl rfl) ?_
 refine wv (vf Qaq rfl Qae) ?_
 let K7 : List Value := [.slice A78 (((Qgb x0.Store d36).1).Segments).length c79, .int .i64 (((Qgb x0.Store d36).1).Now), .int .i64 x0.Cursor, .slice A10 x0.Order.length c11, .slice A14 x0.Active.length c15, .slice A18 x0.Done.length c19, .slice A22 x0.Ledger.length c23, .int .i64 x0.Steps]
 refine Qof (p := p31) (o := 0) (cs' := K7) (fun w hm => hm.front (n := 3) rfl) Qae rfl (Nat.le_of_ble_eq_true rfl) rfl rfl rfl rfl (Qo rfl) ?_
 refine nt' (sr ?_)
 refine wv (fun W hm => Qz (cs := K7) Qaq Qbv rfl rfl (hm.boxCells (n := 0) rfl)) ?_
 refine Qof (p := p32) (o := 0) (cs' := K7) (fun w hm => hm.front (n := 3) rfl) Qbv rfl (Nat.le_of_ble_eq_true rfl) rfl rfl rfl rfl (Qo rfl) ?_
 refine nt' (Qj ?_)
 have he82 := (show Qew x0 = (⟨((Qgb x0.Store d36).1), x0.Cursor, x0.Order, x0.Active, x0.Done, x0.Ledger, x0.Steps⟩ : Qag) from Qat hE75 (rfl))
 refine Qec rfl (Qcp (n := 0) rfl rfl Qaq Qbv rfl) (fun W hm => ⟨K7, ?_, ?_⟩)
 ·first | rw [he82] | rfl
 rw [he82]; exact Mem.join (is := [Qd (tSl (tSl Qm 191) 131) [.slice A78 (((Qgb x0.Store d36).1).Segments).length c79] (((Qgb x0.Store d36).1).Segments), I9, I10, I11, I12]) (js := is) (fun _ _ hs => Qhe (x := (⟨((Qgb x0.Store d36).1), x0.Cursor, x0.Order, x0.Active, x0.Done, x0.Ledger, x0.Steps⟩ : Qag)) hs) (((((((((hm.front (n := 8) rfl).front (n := 8) rfl).front (n := 8) rfl).front (n := 8) rfl).front (n := 6) rfl).front (n := 5) rfl).tail.front (n := 5) rfl).tail.front (n := 5) rfl).tail.front (n := 5) rfl).tail

theorem Qafc (x : Qx) : (rng (R := Int) (fun k (_ : Unit) => Qhp x k) (x.Segments.length - 0) 0 () = .inr () ∧ Qbq x < 0) ∨ (rng (R := Int) (fun k (_ : Unit) => Qhp x k) (x.Segments.length - 0) 0 () = .inl (Qbq x) ∧ ¬ Qbq x < 0) := by
  have hr := Qacp x
  unfold Qbq at hr ⊢
  cases h : rng (R := Int) (fun k (_ : Unit) => Qhp x k) (x.Segments.length - 0) 0 () with
  | inr s => exact .inl ⟨rfl, by show (-1 : Int) < 0; decide⟩
  | inl r =>
    refine .inr ⟨rfl, ?_⟩
    rw [h] at hr
    have hr' : r < 0 ∨ (0 ≤ r ∧ r.toNat < x.Segments.length ∧ (gt x.Segments r.toNat).length < 4) := hr
    show ¬ r < 0
    rcases hr' with h1 | h1
    · exfalso
      rcases Qqh (P := fun r : Int => 0 ≤ r) (n := x.Segments.length) (b := fun k (_ : Unit) => Qhp x k) (fun j hj => by
        show (∃ r, Qhp x j = .inl r ∧ _) ∨ Qhp x j = .inr ()
        unfold Qhp
        cases decide (((gt x.Segments j).length : Int) < 4) with
        | true => exact .inl ⟨_, rfl, by omega⟩
        | false => exact .inr rfl) (x.Segments.length - 0) 0 (by omega) with ⟨q, e1, e2⟩ | e1
      · rw [h] at e1; cases e1; omega
      rw [h] at e1; cases e1
    omega
theorem Qxu (x : Qx) {segs : List (List Qn)} (hl : ∀ j, (gt segs j).length = (gt x.Segments j).length) {F : Nat → Qx × Bool} {b : Nat → Unit → (Qx × Bool) ⊕ Unit} (hb : ∀ j, b j () = cond (decide ((((gt segs j).length : Nat) : Int) < 4)) (.inl (F j)) (.inr ())) {y : Qx × Bool} :
    Sum.elim id (fun (_ : Unit) => y) (rng b (x.Segments.length - 0) 0 ()) = cond (decide (Qbq x < 0)) y (F (Qbq x).toNat) := by
  rw [Qabv (c := fun j => decide ((((gt segs j).length : Nat) : Int) < 4)) (F := F) (b' := fun k (_ : Unit) => Qhp x k) hb (fun j => by unfold Qhp; rw [hl])]
  rcases Qafc x with ⟨h1, h2⟩ | ⟨h1, h2⟩
  · rw [h1, decide_eq_true h2]; rfl
  rw [h1, decide_eq_false h2]; rfl
theorem Qta (x : Qx) (u : Qci) : Qdc x u = Qea x u := by
  unfold Qdc Qea
  rw [Qpe, Qxs]
  cases hs : Qhd x with
  | false => rfl
  | true =>
  cases hu : Qkv u with
  | false => rfl
  | true =>
    obtain ⟨_, hn, _, _⟩ := Qwk hs
    obtain ⟨hk, _, _, _⟩ := Qsj hu
    have e0 : Qaa x u.Row.Id = Qw x u.Row.Id := rfl
    have e1 : (x.Now == 100000) = decide (100000 ≤ x.Now) := by
      by_cases h : x.Now = 100000
      · rw [beq_iff_eq.2 h, decide_eq_true (by omega)]
      rw [beq_eq_false_iff_ne.2 h, decide_eq_false (by omega)]
    rw [e0, e1]
    cases decide (100000 ≤ x.Now) with
    | true => rfl
    | false =>
    by_cases hr : (Qw x u.Row.Id).1 < 0
    · rw [decide_eq_true hr, decide_eq_false (show ¬ 0 ≤ (Qw x u.Row.Id).1 by omega)]
      by_cases k1 : u.Kind = 1
      · rw [beq_iff_eq.2 k1, beq_eq_false_iff_ne.2 (show ¬ u.Kind = 3 by omega), beq_eq_false_iff_ne.2 (show ¬ u.Kind = 2 by omega), bne_iff_ne.2 (show u.Kind ≠ 2 by omega)]
        exact Qxu x (segs := x.Segments) (fun _ => rfl) (b := fun k (_ : Unit) => Qtr x u k) (fun j => rfl)
      rw [beq_eq_false_iff_ne.2 k1]; rfl
    rw [decide_eq_false hr, decide_eq_true (show 0 ≤ (Qw x u.Row.Id).1 by omega)]
    have hl : ∀ j, (gt (x.Segments.set (Qaa x u.Row.Id).1.toNat (Qcx x u)) j).length = (gt x.Segments j).length := fun j => Qkm List.length_set j
    rcases hk with k1 | k2 | k3
    · rw [beq_iff_eq.2 k1]; rfl
    · rw [beq_iff_eq.2 k2, beq_eq_false_iff_ne.2 (show ¬ u.Kind = 1 by omega), beq_eq_false_iff_ne.2 (show ¬ u.Kind = 3 by omega), show (u.Kind != 2) = false from by rw [k2]; rfl]
      rfl
    rw [beq_iff_eq.2 k3, beq_eq_false_iff_ne.2 (show ¬ u.Kind = 1 by omega), beq_eq_false_iff_ne.2 (show ¬ u.Kind = 2 by omega), bne_iff_ne.2 (show u.Kind ≠ 2 by omega)]
    exact Qxu x hl (b := fun k (_ : Unit) => Qtq x u k) (fun j => rfl)
theorem Qajp {x : Qx} (h : Qfl 68719476736 x) (u : Qci) : Qfl 68719476736 (Qdc x u).1 := by
  rw [Qta]; exact Qaci h u
def Qdi (x0 : Qag) (x1 : Qci) : (Qag × Bool) :=
 cond (Qoi x0) (cond ((Qdc x0.Store x1).2) ((Qew (⟨((Qdc x0.Store x1).1), x0.Cursor, x0.Order, x0.Active, x0.Done, x0.Ledger, x0.Steps⟩ : Qag)), true) (x0, false)) (x0, false)
theorem Qpf : Cb Tryz.prog 43 := ⟨f43, _, func43, rfl, by decide⟩
theorem Qpk (w : World) (z0 : List Value) (x0 : Qag) (z1 : List Value) (x1 : Qci) (r_0 : Qdd.rd w w.heap.size z0 x0) (r_1 : Qfi.rd w w.heap.size z1 x1) (s_0 : Qgf 68719476736 x0) (s_1 : Qja 68719476736 x1) :
  Calls Tryz.prog 43 #[.agg z0.toArray, .agg z1.toArray] w fun e w' => ∃ v : List Value, e = .returned (.tuple #[.agg v.toArray, .bool ((Qdi x0 x1).2)]) ∧ Mem w.heap.size w [Qd Qdd v (Qdi x0 x1).1] w' := by
 obtain ⟨v1, v3, v5, v7, v9, rfl, r2, r4, r6, r8, r10⟩ := Qki r_0
 obtain ⟨m11, A12, c13, rfl, q14, r15⟩ := Qk r2
 obtain ⟨m16, A17, c18, rfl, q19, r20⟩ := Qk r4
 obtain ⟨m21, A22, c23, rfl, q24, r25⟩ := Qk r6
 obtain ⟨m26, A27, c28, rfl, q29, r30⟩ := Qk r8
 obtain ⟨m31, A32, c33, rfl, q34, r35⟩ := Qk r10
 obtain ⟨v36, rfl, r37⟩ := Qmo r_1
 obtain ⟨m38, A39, c40, rfl, q41, r42⟩ := Qk r37
 have l43 : x0.Store.Segments.length ≤ 68719476736 := s_0.1.1
 have l44 : x0.Order.length ≤ 68719476736 := s_0.2.1
 have l45 : x0.Active.length ≤ 68719476736 := s_0.2.2.1.1
 have l46 : x0.Done.length ≤ 68719476736 := s_0.2.2.2.1.1
 have l47 : x0.Ledger.length ≤ 68719476736 := s_0.2.2.2.2.1
 have l48 : x1.Row.Values.length ≤ 68719476736 := s_1
 refine ce2 (L := [(0, .agg #[.slice A12 x0.Store.Segments.length c13, .int .i64 x0.Store.Now, .int .i64 x0.Cursor, .slice A17 x0.Order.length c18, .slice A22 x0.Active.length c23, .slice A27 x0.Done.length c28, .slice A32 x0.Ledger.length c33, .int .i64 x0.Steps]), (1, .agg #[.int .i64 x1.Kind, .int .i64 x1.Row.Id, .slice A39 x1.Row.Values.length c40, .int .i64 x1.Field, .int .i64 x1.Value])]) (N := 30) func43 ?_
 refine sr ?_
 refine Qbj rfl (Qo rfl) (by decide) (fun p49 => ?_)
 refine Qbj rfl (Qo rfl) (by decide) (fun p50 => ?_)
 refine Qbo Qbv rfl (Qo rfl) (by decide) (fun p51 => ?_)
 refine wa (nt' (sr ?_))
 let K1 : List Value := [.slice A12 x0.Store.Segments.length c13, .int .i64 x0.Store.Now, .int .i64 x0.Cursor, .slice A17 x0.Order.length c18, .slice A22 x0.Active.length c23, .slice A27 x0.Done.length c28, .slice A32 x0.Ledger.length c33, .int .i64 x0.Steps]
 refine wv (fun W hm => Qz (cs := K1) Qaq Qbv rfl rfl (hm.boxCells (n := 2) rfl)) ?_
 refine wcs Qdd x0 (Qr Qafq rfl) (fun W hm => Qakm W _ x0 (Qfr (x := x0) (hm.rdS0 r15) (hm.rdS0 r20) (hm.rdS0 r25) (hm.rdS0 r30) (hm.rdS0 r35)) s_0) (fun z52 => ?_)
 refine Qgc ?_
 rintro ⟨v53, v54, v55, v56, v57⟩ rfl
 refine Qs (n := 0) rfl ?_
 rintro A58 c59 rfl m60
 refine Qs (n := 1) rfl ?_
 rintro A62 c63 rfl m64
 refine Qs (n := 2) rfl ?_
 rintro A66 c67 rfl m68
 refine Qs (n := 3) rfl ?_
 rintro A70 c71 rfl m72
 refine Qs (n := 4) rfl ?_
 rintro A74 c75 rfl m76
 refine Qbo Qbv rfl (Qo rfl) (by decide) (fun p78 => ?_)
 let K2 : List Value := [.slice A58 x0.Store.Segments.length c59, .int .i64 x0.Store.Now, .int .i64 x0.Cursor, .slice A62 x0.Order.length c63, .slice A66 x0.Active.length c67, .slice A70 x0.Done.length c71, .slice A74 x0.Ledger.length c75, .int .i64 x0.Steps]
 let K3 : List Value := [.slice none 0 0, .int .i64 0, .int .i64 0, .slice none 0 0, .slice none 0 0, .slice none 0 0, .slice none 0 0, .int .i64 0]
 let K4 : List Value := [.int .i64 x1.Kind, .int .i64 x1.Row.Id, .slice A39 x1.Row.Values.length c40, .int .i64 x1.Field, .int .i64 x1.Value]
 let I14 : It := Qd (tSl (tSl Qm 191) 131) [.slice A58 x0.Store.Segments.length c59] x0.Store.Segments
 let I15 : It := Qd (tSl Qg 3) [.slice A62 x0.Order.length c63] x0.Order
 let I16 : It := Qd (tSl Qbw 64) [.slice A66 x0.Active.length c67] x0.Active
 let I17 : It := Qd (tSl Qce 37) [.slice A70 x0.Done.length c71] x0.Done
 let I18 : It := Qd (tSl Qbx 133) [.slice A74 x0.Ledger.length c75] x0.Ledger
 refine sb 0 K2 [I14, I15, I16, I17, I18, Qa p51 47 K3, Qa p50 75 K4, Qa p49 47 K1] (fun W hm => hm) Qbv ?_
 refine nt' (sr ?_)
 refine wv (vf Qaq rfl Qae) ?_
 refine wv (fun W hm => Qz (cs := [.slice A12 x0.Store.Segments.length c13, .int .i64 x0.Store.Now]) Qaf Qae rfl rfl (hm.boxPart (n := 8) rfl rfl)) ?_
 refine wv (fun W hm => Qz (cs := K4) Qbs type75 rfl rfl (hm.boxCells (n := 7) rfl)) ?_
 refine Qhg (χ := List Value) (val := fun x => .tuple #[.agg x.toArray, .bool ((Qdc x0.Store x1).2)]) (js := fun x => [Qd Qcz x ((Qdc x0.Store x1).1)]) (Qr Qafy rfl) (fun W hm => Qajo W _ x0.Store _ x1 (Qeg (x := x0.Store) (hm.rdS0 r15)) (Qhs (x := x1) (hm.rdS0 r42)) s_0.1 s_1) (Qo rfl) (by decide) (fun z79 => ?_)
 refine Qgd ?_
 rintro v80 rfl
 refine Qs (n := 0) rfl ?_
 rintro A81 c82 rfl m83
 refine wm ?_
 refine wv (fun W hm => Qes rfl rfl) ?_
 refine wv (fun W hm => Qes rfl rfl) ?_
 refine Qbo Qae rfl (Qo rfl) (by decide) (fun p85 => ?_)
 let K5 : List Value := [.slice A81 (((Qdc x0.Store x1).1).Segments).length c82, .int .i64 (((Qdc x0.Store x1).1).Now)]
 let K6 : List Value := [.slice A81 (((Qdc x0.Store x1).1).Segments).length c82]
 let I19 : It := Qd (tSl (tSl Qm 191) 131) K6 (((Qdc x0.Store x1).1).Segments)
 refine sb 0 K5 [I19, Qa p78 47 K2, I14, I15, I16, I17, I18, Qa p51 47 K3, Qa p50 75 K4, Qa p49 47 K1] (fun W hm => hm) Qae ?_
 refine wa (nt' (Qf (sr ?_)))
 refine wv (fun W hm => Qz (cs := K1) Qaq Qbv rfl rfl (hm.boxCells (n := 10) rfl)) ?_
 refine wcv (Qr cb32 rfl) (fun W hm => Qajt W _ x0 (Qfr (x := x0) (hm.rdS0 r15) (hm.rdS0 r20) (hm.rdS0 r25) (hm.rdS0 r30) (hm.rdS0 r35)) s_0) ?_
 refine wv Qbr ?_
 refine wm ?_
 rcases Bool.eq_false_or_eq_true (Qoi x0) with g87 | g87
 ·
  refine wg vmv (nt g87) ?_
  refine wg Qbr (nt g87) ?_
  refine wv (vpF (nt g87)) ?_
  refine nt' ?_
  rcases Bool.eq_false_or_eq_true ((Qdc x0.Store x1).2) with g89 | g89
  ·
   refine Qp rfl (nt g89) ?_
   refine Qq (Qi (sr ?_))
   refine wv (fun W hm => Qz (cs := K5) Qaf Qae rfl rfl (hm.boxCells (n := 0) rfl)) ?_
   refine wv (vf Qaq rfl Qae) ?_
   let K7 : List Value := [.slice A81 (((Qdc x0.Store x1).1).Segments).length c82, .int .i64 (((Qdc x0.Store x1).1).Now), .int .i64 x0.Cursor, .slice A62 x0.Order.length c63, .slice A66 x0.Active.length c67, .slice A70 x0.Done.length c71, .slice A74 x0.Ledger.length c75, .int .i64 x0.Steps]
   refine sb 0 K7 [Qa p85 42 K5, I19, I14, I15, I16, I17, I18, Qa p51 47 K3, Qa p50 75 K4, Qa p49 47 K1] (pk [2, 0, 1, 3, 4, 5, 6, 7, 8, 9, 10]) Qae ?_
   refine nt' (Qf ?_)
   refine Qdf (pk [0, 2, 4, 5, 6, 7, 8]) ?_
   refine Qad ?_
   refine wv (fun W hm => Qz (cs := K7) Qaq Qbv rfl rfl (hm.boxCells (n := 0) rfl)) ?_
   refine Qli (js := (Qd Qdd K7 (⟨((Qdc x0.Store x1).1), x0.Cursor, x0.Order, x0.Active, x0.Done, x0.Ledger, x0.Steps⟩ : Qag) :: [Qa p78 47 K7, Qa p51 47 K3])) (fun W hm => Mem.join (is := [I19, I15, I16, I17, I18]) (js := [Qa p78 47 K7, Qa p51 47 K3]) (fun _ _ hs => Qhe (x := (⟨((Qdc x0.Store x1).1), x0.Cursor, x0.Order, x0.Active, x0.Done, x0.Ledger, x0.Steps⟩ : Qag)) hs) (hm.pick [1, 2, 3, 4, 5, 0, 6] (by decide))) ?_
   refine Qqy (χ := List Value) (val := fun x => .agg x.toArray) (js := fun x => (Qd Qdd x (Qew (⟨((Qdc x0.Store x1).1), x0.Cursor, x0.Order, x0.Active, x0.Done, x0.Ledger, x0.Steps⟩ : Qag)) :: [Qa p78 47 K7, Qa p51 47 K3])) (Qr Qafr rfl) (fun W hm => Qalg w.heap.size w [Qa p78 47 K7, Qa p51 47 K3] W K7 (⟨((Qdc x0.Store x1).1), x0.Cursor, x0.Order, x0.Active, x0.Done, x0.Ledger, x0.Steps⟩ : Qag)  (Qxq s_0 (Qajp s_0.1 x1)) hm) (Qo rfl) (by decide) (fun z90 => ?_)
   refine Qgc ?_
   rintro ⟨v91, v92, v93, v94, v95⟩ rfl
   refine Qs (n := 0) rfl ?_
   rintro A96 c97 rfl m98
   refine Qs (n := 1) rfl ?_
   rintro A100 c101 rfl m102
   refine Qs (n := 2) rfl ?_
   rintro A104 c105 rfl m106
   refine Qs (n := 3) rfl ?_
   rintro A108 c109 rfl m110
   refine Qs (n := 4) rfl ?_
   rintro A112 c113 rfl m114
   let K8 : List Value := [.slice A96 ((Qew (⟨((Qdc x0.Store x1).1), x0.Cursor, x0.Order, x0.Active, x0.Done, x0.Ledger, x0.Steps⟩ : Qag)).Store.Segments).length c97, .int .i64 ((Qew (⟨((Qdc x0.Store x1).1), x0.Cursor, x0.Order, x0.Active, x0.Done, x0.Ledger, x0.Steps⟩ : Qag)).Store.Now), .int .i64 ((Qew (⟨((Qdc x0.Store x1).1), x0.Cursor, x0.Order, x0.Active, x0.Done, x0.Ledger, x0.Steps⟩ : Qag)).Cursor), .slice A100 ((Qew (⟨((Qdc x0.Store x1).1), x0.Cursor, x0.Order, x0.Active, x0.Done, x0.Ledger, x0.Steps⟩ : Qag)).Order).length c101, .slice A104 ((Qew (⟨((Qdc x0.Store x1).1), x0.Cursor, x0.Order, x0.Active, x0.Done, x0.Ledger, x0.Steps⟩ : Qag)).Active).length c105, .slice A108 ((Qew (⟨((Qdc x0.Store x1).1), x0.Cursor, x0.Order, x0.Active, x0.Done, x0.Ledger, x0.Steps⟩ : Qag)).Done).length c109, .slice A112 ((Qew (⟨((Qdc x0.Store x1).1), x0.Cursor, x0.Order, x0.Active, x0.Done, x0.Ledger, x0.Steps⟩ : Qag)).Ledger).length c113, .int .i64 ((Qew (⟨((Qdc x0.Store x1).1), x0.Cursor, x0.Order, x0.Active, x0.Done, x0.Ledger, x0.Steps⟩ : Qag)).Steps)]
   let K9 : List Value := [.slice A96 ((Qew (⟨((Qdc x0.Store x1).1), x0.Cursor, x0.Order, x0.Active, x0.Done, x0.Ledger, x0.Steps⟩ : Qag)).Store.Segments).length c97]
   let K10 : List Value := [.slice A100 ((Qew (⟨((Qdc x0.Store x1).1), x0.Cursor, x0.Order, x0.Active, x0.Done, x0.Ledger, x0.Steps⟩ : Qag)).Order).length c101]
   let K11 : List Value := [.slice A104 ((Qew (⟨((Qdc x0.Store x1).1), x0.Cursor, x0.Order, x0.Active, x0.Done, x0.Ledger, x0.Steps⟩ : Qag)).Active).length c105]
   let K12 : List Value := [.slice A108 ((Qew (⟨((Qdc x0.Store x1).1), x0.Cursor, x0.Order, x0.Active, x0.Done, x0.Ledger, x0.Steps⟩ : Qag)).Done).length c109]
   let K13 : List Value := [.slice A112 ((Qew (⟨((Qdc x0.Store x1).1), x0.Cursor, x0.Order, x0.Active, x0.Done, x0.Ledger, x0.Steps⟩ : Qag)).Ledger).length c113]
   let I20 : It := Qd (tSl (tSl Qm 191) 131) K9 ((Qew (⟨((Qdc x0.Store x1).1), x0.Cursor, x0.Order, x0.Active, x0.Done, x0.Ledger, x0.Steps⟩ : Qag)).Store.Segments)
   let I21 : It := Qd (tSl Qg 3) K10 ((Qew (⟨((Qdc x0.Store x1).1), x0.Cursor, x0.Order, x0.Active, x0.Done, x0.Ledger, x0.Steps⟩ : Qag)).Order)
   let I22 : It := Qd (tSl Qbw 64) K11 ((Qew (⟨((Qdc x0.Store x1).1), x0.Cursor, x0.Order, x0.Active, x0.Done, x0.Ledger, x0.Steps⟩ : Qag)).Active)
   let I23 : It := Qd (tSl Qce 37) K12 ((Qew (⟨((Qdc x0.Store x1).1), x0.Cursor, x0.Order, x0.Active, x0.Done, x0.Ledger, x0.Steps⟩ : Qag)).Done)
   let I24 : It := Qd (tSl Qbx 133) K13 ((Qew (⟨((Qdc x0.Store x1).1), x0.Cursor, x0.Order, x0.Active, x0.Done, x0.Ledger, x0.Steps⟩ : Qag)).Ledger)
   refine sb 0 K8 [I20, I21, I22, I23, I24, Qa p78 47 K7] (pk [6, 0, 1, 2, 3, 4, 5]) Qbv ?_
   refine wa (nt' (Qj ?_))
   have he116 := (show Qdi x0 x1 = ((Qew (⟨((Qdc x0.Store x1).1), x0.Cursor, x0.Order, x0.Active, x0.Done, x0.Ledger, x0.Steps⟩ : Qag)), true) from Qb g87 (Qb g89 (rfl)))
   refine Qdx rfl (Qcp (n := 0) rfl rfl Qaq Qbv rfl) (Qcv rfl) (fun W hm => ⟨K8, ?_, ?_⟩)
   ·first | rw [he116] | rfl
    try rfl
   rw [he116]; exact Mem.join (is := [I20, I21, I22, I23, I24]) (js := []) (fun _ _ hs => Qhe (x := (Qew (⟨((Qdc x0.Store x1).1), x0.Cursor, x0.Order, x0.Active, x0.Done, x0.Ledger, x0.Steps⟩ : Qag))) hs) (hm.pick [1, 2, 3, 4, 5] (by decide))
  refine Ql rfl (nf g89) ?_
  refine Qf ?_
  refine Qdf (pk [2, 3, 4, 5, 6, 7, 8]) ?_
  refine Qad ?_
  refine wv (fun W hm => Qz (cs := K2) Qaq Qbv rfl rfl (hm.boxCells (n := 0) rfl)) ?_
  refine sb 0 K2 [Qa p78 47 K2, I14, I15, I16, I17, I18] (pk [6, 0, 1, 2, 3, 4, 5]) Qbv ?_
  refine wa (nt' (Qj (Qe ?_)))
  have he117 := (show Qdi x0 x1 = (x0, false) from Qb g87 (Qc g89 (rfl)))
  refine Qdx rfl (Qcp (n := 0) rfl rfl Qaq Qbv rfl) (Qcv rfl) (fun W hm => ⟨K2, ?_, ?_⟩)
  ·first | rw [he117] | rfl
   try rfl
  rw [he117]; exact Mem.join (is := [I14, I15, I16, I17, I18]) (js := []) (fun _ _ hs => Qhe (x := x0) hs) (hm.pick [2, 3, 4, 5, 6] (by decide))
 refine ws (nf g87) ?_
 refine ws (nf g87) ?_
 refine wv (vpT (nf g87)) ?_
 refine nt' ?_
 refine Ql rfl rfl ?_
 refine Qf ?_
 refine Qdf (pk [2, 3, 4, 5, 6, 7, 8]) ?_
 refine Qad ?_
 refine wv (fun W hm => Qz (cs := K2) Qaq Qbv rfl rfl (hm.boxCells (n := 0) rfl)) ?_
 refine sb 0 K2 [Qa p78 47 K2, I14, I15, I16, I17, I18] (pk [6, 0, 1, 2, 3, 4, 5]) Qbv ?_
 refine wa (nt' (Qj (Qe ?_)))
 have he118 := (show Qdi x0 x1 = (x0, false) from Qc g87 (rfl))
 refine Qdx rfl (Qcp (n := 0) rfl rfl Qaq Qbv rfl) (Qcv rfl) (fun W hm => ⟨K2, ?_, ?_⟩)
 ·first | rw [he118] | rfl
  try rfl
 rw [he118]; exact Mem.join (is := [I14, I15, I16, I17, I18]) (js := []) (fun _ _ hs => Qhe (x := x0) hs) (hm.pick [2, 3, 4, 5, 6] (by decide))

def Quu (x0 : (List Int)) (x1 : (List Int)) (k13 : Nat) : Bool ⊕ (Unit) :=
 cond ((gt x0 k13) != (gt x1 k13)) (Sum.inl false) (Sum.inr ())
def Qgm (x0 : (List Int)) (x1 : (List Int)) : Bool :=
 cond (((x0.length : Nat) : Int) != ((x1.length : Nat) : Int)) false (Sum.elim id (fun (s : Unit) => true) (rng (R := Bool) (fun k (_ : Unit) => Quu x0 x1 k) (x0.length - 0) 0 ()))
theorem Qlm : Cb Tryz.prog 49 := ⟨f49, _, func49, rfl, by decide⟩
theorem Qlu (w : World) (z0 : Value) (x0 : (List Int)) (z1 : Value) (x1 : (List Int)) (r_0 : rdS Qg w w.heap.size z0 x0) (r_1 : rdS Qg w w.heap.size z1 x1) :
  Calls Tryz.prog 49 #[z0, z1] w fun e w' => e = .returned (.bool (Qgm x0 x1)) ∧ Below w.heap.size w w' := by
 obtain ⟨m1, A2, c3, rfl, q4, r5⟩ := Qk r_0
 obtain ⟨m6, A7, c8, rfl, q9, r10⟩ := Qk r_1
 refine ce2 (L := [(0, .slice A2 x0.length c3), (1, .slice A7 x1.length c8)]) (N := 26) func49 ?_
 refine sr (wa (nt' (Qf (sr (wm ?_)))))
 refine wv (Qai Qv) ?_
 refine wm ?_
 refine wv (Qai Qv) ?_
 refine wv Qcf ?_
 refine nt' ?_
 by_cases h11 : ((x0.length : Nat) : Int) = ((x1.length : Nat) : Int)
 ·have g12 : (((x0.length : Nat) : Int) != ((x1.length : Nat) : Int)) = false := by rw [h11]; exact bne_self_eq_false _
  refine Qp rfl g12 ?_
  refine Qq (Qi (Qf (sr (wa (nt' (Qab ?_))))))
  let F1 := fun k (_ : Unit) => Quu x0 x1 k
  let R2 := rng (R := Bool) F1
  refine Qbl (σ := Nat × (Unit) × (Unit)) (fun s => [(0, .slice A2 x0.length c3), (1, .slice A7 x1.length c8), (5, .int .i64 ((s.1 : Nat) : Int))]) (fun s => []) (fun s => s.1 ≤ x0.length ∧ R2 (x0.length - s.1) s.1 s.2.1 = R2 (x0.length - 0) 0 ()) (fun s => x0.length - s.1) (0, (), ()) sl3 (fun W hm => hm) ⟨(by omega), rfl⟩ ?_
  rintro ⟨k13, ⟨⟩, ⟨⟩⟩ H16
  obtain ⟨hk14, hF15⟩ : k13 ≤ x0.length ∧ R2 (x0.length - k13) k13 () = R2 (x0.length - 0) 0 () := H16
  show CM Tryz.prog 26 _ _ _ _ [(0, .slice A2 x0.length c3), (1, .slice A7 x1.length c8), (5, .int .i64 ((k13 : Nat) : Int))] []
  refine Qf (sr (wm (wm ?_)))
  refine wv (Qai Qv) ?_
  refine wv Qak ?_
  refine nt' ?_
  by_cases hl17 : k13 < x0.length
  ·have g18 := dlT hl17
   refine Ql rfl g18 ?_
   refine Qq (Qi (Qf (Qab (Qf ?_))))
   refine Qge (by kernel_rfl) (by kernel_rfl) ?_
   refine qm (qm ?_)
   obtain ⟨a19, rfl, hb20, he21⟩ := q4 (by omega)
   refine qv (vix 1 k13 Qv Qh) ?_
   refine qv (fun W hm => Qaw Qt rfl rfl ((hm.cell0 (show (a19.add (k13 * 1)).block < w.heap.size from by rw [Qah]; exact hb20.1)).trans (Qex he21 k13 (by omega)))) ?_
   refine qm (qm ?_)
   obtain ⟨a22, rfl, hb23, he24⟩ := q9 (by omega)
   refine qv (vix 1 k13 Qv Qh) ?_
   refine qv (fun W hm => Qaw Qt rfl rfl ((hm.cell0 (show (a22.add (k13 * 1)).block < w.heap.size from by rw [Qah]; exact hb23.1)).trans (Qex he24 k13 (by omega)))) ?_
   refine qv Qcf ?_
   refine nq' ?_
   by_cases h25 : (gt x0 k13) = (gt x1 k13)
   ·have g26 : ((gt x0 k13) != (gt x1 k13)) = false := by rw [h25]; exact bne_self_eq_false _
    refine Qp rfl g26 ?_
    refine Qq (Qax (Qi (Qad (wm ?_))))
    refine wv (Qbd k13 1 (by omega)) ?_
    refine wa (Qal ?_)
    have hn27 := Qbb (R := Bool) (body := F1) (k := k13) (s := ()) (s' := ()) (show k13 < x0.length from by omega) (Qc g26 (rfl)) hF15
    exact Qaz (k13 + 1, (), ()) sl3 (fun W hm => hm) ⟨(by omega), hn27⟩ (rl (by omega))
   have g26 : ((gt x0 k13) != (gt x1 k13)) = true := bne_iff_ne.2 h25
   refine Ql rfl g26 ?_
   refine sr (wa (nt' (Qj (Qy (Qe (Qe (Qy (Qe ?_))))))))
   exact rtb (h := Qc g12 (Qba (Qbc (body := F1) (k := k13) (s := ()) (show k13 < x0.length from by omega) (Qb g26 (rfl)) hF15) rfl))
  have g18 := dlF hl17
  refine Qp rfl g18 ?_
  refine Qbk (Qac (Qac ?_))
  have hE28 : R2 (x0.length - 0) 0 () = Sum.inr () := Qbn hl17 hF15
  refine Qbm (Qi (sr (wa (nt' (Qj ?_)))))
  exact rtb (h := Qc g12 (Qat hE28 (rfl)))
 have g12 : (((x0.length : Nat) : Int) != ((x1.length : Nat) : Int)) = true := bne_iff_ne.2 h11
 refine Ql rfl g12 ?_
 refine sr (wa (nt' (Qj (Qe ?_))))
 exact rtb (h := Qb g12 (rfl))

def Qqa (x0 : Qn) (x1 : Qn) : Bool :=
 cond (x0.Id != x1.Id) false (cond (Qgm x0.Values x1.Values) (cond (x0.Born != x1.Born) false (cond (x0.Died != x1.Died) false true)) false)
theorem Qaik : Cb Tryz.prog 233 := ⟨f233, _, func233, rfl, by decide⟩
theorem Qamo (w : World) (z0 : List Value) (x0 : Qn) (z1 : List Value) (x1 : Qn) (r_0 : Qm.rd w w.heap.size z0 x0) (r_1 : Qm.rd w w.heap.size z1 x1) :
  Calls Tryz.prog 233 #[.agg z0.toArray, .agg z1.toArray] w fun e w' => e = .returned (.bool (Qqa x0 x1)) ∧ Below w.heap.size w w' := by
 obtain ⟨v1, rfl, r2⟩ := Qfm r_0
 obtain ⟨m3, A4, c5, rfl, q6, r7⟩ := Qk r2
 obtain ⟨v8, rfl, r9⟩ := Qfm r_1
 obtain ⟨m10, A11, c12, rfl, q13, r14⟩ := Qk r9
 refine ce2 (L := [(0, .agg #[.int .i64 x0.Id, .slice A4 x0.Values.length c5, .int .i64 x0.Born, .int .i64 x0.Died]), (1, .agg #[.int .i64 x1.Id, .slice A11 x1.Values.length c12, .int .i64 x1.Born, .int .i64 x1.Died])]) (N := 26) func233 ?_
 refine sr ?_
 refine Qbj rfl (Qo rfl) (by decide) (fun p15 => ?_)
 refine Qbj rfl (Qo rfl) (by decide) (fun p16 => ?_)
 refine wa (nt' (Qf (sr ?_)))
 refine wv (vf Qbe rfl Qh) ?_
 refine wv (vl 1 0 Qt) ?_
 refine wv (vf Qbe rfl Qh) ?_
 refine wv (vl 0 0 Qt) ?_
 refine wv Qcf ?_
 refine nt' ?_
 by_cases h17 : x0.Id = x1.Id
 ·have g18 : (x0.Id != x1.Id) = false := by rw [h17]; exact bne_self_eq_false _
  refine Qp rfl g18 ?_
  refine Qq (Qi (Qf (sr ?_)))
  refine wv (vf Qbe rfl Qap) ?_
  refine wv (vl 1 1 Qv) ?_
  refine wv (vf Qbe rfl Qap) ?_
  refine wv (vl 0 1 Qv) ?_
  refine wcv (Qr Qlm rfl) (fun W hm => Qlu W _ x0.Values _ x1.Values (hm.rdS0 r7) (hm.rdS0 r14)) ?_
  refine wv Qbr ?_
  refine nt' ?_
  rcases Bool.eq_false_or_eq_true (Qgm x0.Values x1.Values) with g20 | g20
  ·
   refine Qp rfl (nt g20) ?_
   refine Qq (Qi (Qf (sr ?_)))
   refine wv (vf Qbe rfl Qh) ?_
   refine wv (vl 1 2 Qt) ?_
   refine wv (vf Qbe rfl Qh) ?_
   refine wv (vl 0 2 Qt) ?_
   refine wv Qcf ?_
   refine nt' ?_
   by_cases h21 : x0.Born = x1.Born
   ·have g22 : (x0.Born != x1.Born) = false := by rw [h21]; exact bne_self_eq_false _
    refine Qp rfl g22 ?_
    refine Qq (Qi (Qf (sr ?_)))
    refine wv (vf Qbe rfl Qh) ?_
    refine wv (vl 1 3 Qt) ?_
    refine wv (vf Qbe rfl Qh) ?_
    refine wv (vl 0 3 Qt) ?_
    refine wv Qcf ?_
    refine nt' ?_
    by_cases h23 : x0.Died = x1.Died
    ·have g24 : (x0.Died != x1.Died) = false := by rw [h23]; exact bne_self_eq_false _
     refine Qp rfl g24 ?_
     refine Qq (Qi (sr (wa (nt' (Qj ?_)))))
     exact rtb (h := Qc g18 (Qb g20 (Qc g22 (Qc g24 (rfl)))))
    have g24 : (x0.Died != x1.Died) = true := bne_iff_ne.2 h23
    refine Ql rfl g24 ?_
    refine sr (wa (nt' (Qj (Qe ?_))))
    exact rtb (h := Qc g18 (Qb g20 (Qc g22 (Qb g24 (rfl)))))
   have g22 : (x0.Born != x1.Born) = true := bne_iff_ne.2 h21
   refine Ql rfl g22 ?_
   refine sr (wa (nt' (Qj (Qe ?_))))
   exact rtb (h := Qc g18 (Qb g20 (Qb g22 (rfl))))
  refine Ql rfl (nf g20) ?_
  refine sr (wa (nt' (Qj (Qe ?_))))
  exact rtb (h := Qc g18 (Qc g20 (rfl)))
 have g18 : (x0.Id != x1.Id) = true := bne_iff_ne.2 h17
 refine Ql rfl g18 ?_
 refine sr (wa (nt' (Qj (Qe ?_))))
 exact rtb (h := Qb g18 (rfl))

def Qux (x0 : (List Qn)) (x1 : (List Qn)) (k13 : Nat) : Bool ⊕ (Unit) :=
 cond (Qqa (gt x0 k13) (gt x1 k13)) (Sum.inr ()) (Sum.inl false)
def Qpz (x0 : (List Qn)) (x1 : (List Qn)) : Bool :=
 cond (((x0.length : Nat) : Int) != ((x1.length : Nat) : Int)) false (Sum.elim id (fun (s : Unit) => true) (rng (R := Bool) (fun k (_ : Unit) => Qux x0 x1 k) (x0.length - 0) 0 ()))
theorem Qaic : Cb Tryz.prog 218 := ⟨f218, _, func218, rfl, by decide⟩
theorem Qamm (w : World) (z0 : Value) (x0 : (List Qn)) (z1 : Value) (x1 : (List Qn)) (r_0 : rdS Qm w w.heap.size z0 x0) (r_1 : rdS Qm w w.heap.size z1 x1) :
  Calls Tryz.prog 218 #[z0, z1] w fun e w' => e = .returned (.bool (Qpz x0 x1)) ∧ Below w.heap.size w w' := by
 obtain ⟨m1, A2, c3, rfl, q4, r5⟩ := Qk r_0
 obtain ⟨m6, A7, c8, rfl, q9, r10⟩ := Qk r_1
 refine ce2 (L := [(0, .slice A2 x0.length c3), (1, .slice A7 x1.length c8)]) (N := 27) func218 ?_
 refine sr (wa (nt' (Qf (sr (wm ?_)))))
 refine wv (Qai Qav) ?_
 refine wm ?_
 refine wv (Qai Qav) ?_
 refine wv Qcf ?_
 refine nt' ?_
 by_cases h11 : ((x0.length : Nat) : Int) = ((x1.length : Nat) : Int)
 ·have g12 : (((x0.length : Nat) : Int) != ((x1.length : Nat) : Int)) = false := by rw [h11]; exact bne_self_eq_false _
  refine Qp rfl g12 ?_
  refine Qq (Qi (Qf (sr (wa (nt' (Qab ?_))))))
  let F1 := fun k (_ : Unit) => Qux x0 x1 k
  let R2 := rng (R := Bool) F1
  refine Qbl (σ := Nat × (Unit) × (Unit)) (fun s => [(0, .slice A2 x0.length c3), (1, .slice A7 x1.length c8), (5, .int .i64 ((s.1 : Nat) : Int))]) (fun s => []) (fun s => s.1 ≤ x0.length ∧ R2 (x0.length - s.1) s.1 s.2.1 = R2 (x0.length - 0) 0 ()) (fun s => x0.length - s.1) (0, (), ()) sl3 (fun W hm => hm) ⟨(by omega), rfl⟩ ?_
  rintro ⟨k13, ⟨⟩, ⟨⟩⟩ H16
  obtain ⟨hk14, hF15⟩ : k13 ≤ x0.length ∧ R2 (x0.length - k13) k13 () = R2 (x0.length - 0) 0 () := H16
  show CM Tryz.prog 27 _ _ _ _ [(0, .slice A2 x0.length c3), (1, .slice A7 x1.length c8), (5, .int .i64 ((k13 : Nat) : Int))] []
  refine Qf (sr (wm (wm ?_)))
  refine wv (Qai Qav) ?_
  refine wv Qak ?_
  refine nt' ?_
  by_cases hl17 : k13 < x0.length
  ·have g18 := dlT hl17
   refine Ql rfl g18 ?_
   refine Qq (Qi (Qf (Qab (Qf ?_))))
   refine Qge (by kernel_rfl) (by kernel_rfl) ?_
   refine qm (qm ?_)
   obtain ⟨a19, rfl, hb20, he21⟩ := q4 (by omega)
   refine qv (vix 4 k13 Qav Qar) ?_
   obtain ⟨_, e25, hc22⟩ := he21 k13 _ (Qca (show k13 < x0.length from by omega))
   obtain ⟨v23, rfl, r24⟩ := Qfm e25
   obtain ⟨m26, A27, c28, rfl, q29, r30⟩ := Qk r24
   refine qv (fun W hm => Qz (cs := [.int .i64 ((gt x0 k13).Id), .slice A27 ((gt x0 k13).Values).length c28, .int .i64 ((gt x0 k13).Born), .int .i64 ((gt x0 k13).Died)]) Qbe Qar rfl rfl (hm.elCells (show (a19.add (k13 * 4)).block < w.heap.size from by rw [Qah]; exact hb20.1) hc22)) ?_
   refine qm (qm ?_)
   obtain ⟨a31, rfl, hb32, he33⟩ := q9 (by omega)
   refine qv (vix 4 k13 Qav Qar) ?_
   obtain ⟨_, e37, hc34⟩ := he33 k13 _ (Qca (show k13 < x1.length from by omega))
   obtain ⟨v35, rfl, r36⟩ := Qfm e37
   obtain ⟨m38, A39, c40, rfl, q41, r42⟩ := Qk r36
   refine qv (fun W hm => Qz (cs := [.int .i64 ((gt x1 k13).Id), .slice A39 ((gt x1 k13).Values).length c40, .int .i64 ((gt x1 k13).Born), .int .i64 ((gt x1 k13).Died)]) Qbe Qar rfl rfl (hm.elCells (show (a31.add (k13 * 4)).block < w.heap.size from by rw [Qah]; exact hb32.1) hc34)) ?_
   refine Qfu (Qr Qaik rfl) (fun W hm => Qamo W _ (gt x0 k13) _ (gt x1 k13) (Qgz (x := (gt x0 k13)) (hm.rdS0 r30)) (Qgz (x := (gt x1 k13)) (hm.rdS0 r42))) (Qo rfl) (by decide) ?_
   refine qv Qbr ?_
   refine nq' ?_
   rcases Bool.eq_false_or_eq_true (Qqa (gt x0 k13) (gt x1 k13)) with g44 | g44
   ·
    refine Qp rfl (nt g44) ?_
    refine Qq (Qax (Qi (Qad (wm ?_))))
    refine wv (Qbd k13 1 (by omega)) ?_
    refine wa (Qal ?_)
    have hn45 := Qbb (R := Bool) (body := F1) (k := k13) (s := ()) (s' := ()) (show k13 < x0.length from by omega) (Qb g44 (rfl)) hF15
    exact Qaz (k13 + 1, (), ()) sl3 (fun W hm => hm) ⟨(by omega), hn45⟩ (rl (by omega))
   refine Ql rfl (nf g44) ?_
   refine sr (wa (nt' (Qj (Qy (Qe (Qe (Qy (Qe ?_))))))))
   exact rtb (h := Qc g12 (Qba (Qbc (body := F1) (k := k13) (s := ()) (show k13 < x0.length from by omega) (Qc g44 (rfl)) hF15) rfl))
  have g18 := dlF hl17
  refine Qp rfl g18 ?_
  refine Qbk (Qac (Qac ?_))
  have hE46 : R2 (x0.length - 0) 0 () = Sum.inr () := Qbn hl17 hF15
  refine Qbm (Qi (sr (wa (nt' (Qj ?_)))))
  exact rtb (h := Qc g12 (Qat hE46 (rfl)))
 have g12 : (((x0.length : Nat) : Int) != ((x1.length : Nat) : Int)) = true := bne_iff_ne.2 h11
 refine Ql rfl g12 ?_
 refine sr (wa (nt' (Qj (Qe ?_))))
 exact rtb (h := Qb g12 (rfl))

def Quw (x0 : (List (List Qn))) (x1 : (List (List Qn))) (k13 : Nat) : Bool ⊕ (Unit) :=
 cond (Qpz (gt x0 k13) (gt x1 k13)) (Sum.inr ()) (Sum.inl false)
def Qpy (x0 : (List (List Qn))) (x1 : (List (List Qn))) : Bool :=
 cond (((x0.length : Nat) : Int) != ((x1.length : Nat) : Int)) false (Sum.elim id (fun (s : Unit) => true) (rng (R := Bool) (fun k (_ : Unit) => Quw x0 x1 k) (x0.length - 0) 0 ()))
theorem Qagv : Cb Tryz.prog 167 := ⟨f167, _, func167, rfl, by decide⟩
theorem Qamk (w : World) (z0 : Value) (x0 : (List (List Qn))) (z1 : Value) (x1 : (List (List Qn))) (r_0 : rdS (tSl Qm 191) w w.heap.size z0 x0) (r_1 : rdS (tSl Qm 191) w w.heap.size z1 x1) :
  Calls Tryz.prog 167 #[z0, z1] w fun e w' => e = .returned (.bool (Qpy x0 x1)) ∧ Below w.heap.size w w' := by
 obtain ⟨m1, A2, c3, rfl, q4, r5⟩ := Qk r_0
 obtain ⟨m6, A7, c8, rfl, q9, r10⟩ := Qk r_1
 refine ce2 (L := [(0, .slice A2 x0.length c3), (1, .slice A7 x1.length c8)]) (N := 27) func167 ?_
 refine sr (wa (nt' (Qf (sr (wm ?_)))))
 refine wv (Qai Qas) ?_
 refine wm ?_
 refine wv (Qai Qas) ?_
 refine wv Qcf ?_
 refine nt' ?_
 by_cases h11 : ((x0.length : Nat) : Int) = ((x1.length : Nat) : Int)
 ·have g12 : (((x0.length : Nat) : Int) != ((x1.length : Nat) : Int)) = false := by rw [h11]; exact bne_self_eq_false _
  refine Qp rfl g12 ?_
  refine Qq (Qi (Qf (sr (wa (nt' (Qab ?_))))))
  let F1 := fun k (_ : Unit) => Quw x0 x1 k
  let R2 := rng (R := Bool) F1
  refine Qbl (σ := Nat × (Unit) × (Unit)) (fun s => [(0, .slice A2 x0.length c3), (1, .slice A7 x1.length c8), (5, .int .i64 ((s.1 : Nat) : Int))]) (fun s => []) (fun s => s.1 ≤ x0.length ∧ R2 (x0.length - s.1) s.1 s.2.1 = R2 (x0.length - 0) 0 ()) (fun s => x0.length - s.1) (0, (), ()) sl3 (fun W hm => hm) ⟨(by omega), rfl⟩ ?_
  rintro ⟨k13, ⟨⟩, ⟨⟩⟩ H16
  obtain ⟨hk14, hF15⟩ : k13 ≤ x0.length ∧ R2 (x0.length - k13) k13 () = R2 (x0.length - 0) 0 () := H16
  show CM Tryz.prog 27 _ _ _ _ [(0, .slice A2 x0.length c3), (1, .slice A7 x1.length c8), (5, .int .i64 ((k13 : Nat) : Int))] []
  refine Qf (sr (wm (wm ?_)))
  refine wv (Qai Qas) ?_
  refine wv Qak ?_
  refine nt' ?_
  by_cases hl17 : k13 < x0.length
  ·have g18 := dlT hl17
   refine Ql rfl g18 ?_
   refine Qq (Qi (Qf (Qab (Qf ?_))))
   refine Qge (by kernel_rfl) (by kernel_rfl) ?_
   refine qm (qm ?_)
   obtain ⟨a19, rfl, hb20, he21⟩ := q4 (by omega)
   refine qv (vix 1 k13 Qas Qda) ?_
   obtain ⟨_, e23, hc22⟩ := he21 k13 _ (Qca (show k13 < x0.length from by omega))
   obtain ⟨v24, rfl, r25⟩ := e23
   obtain ⟨m26, A27, c28, rfl, q29, r30⟩ := Qk r25
   refine qv (fun W hm => Qaw Qav rfl rfl ((hm.cell0 (show (a19.add (k13 * 1)).block < w.heap.size from by rw [Qah]; exact hb20.1)).trans (hc22 0 _ rfl))) ?_
   refine qm (qm ?_)
   obtain ⟨a31, rfl, hb32, he33⟩ := q9 (by omega)
   refine qv (vix 1 k13 Qas Qda) ?_
   obtain ⟨_, e35, hc34⟩ := he33 k13 _ (Qca (show k13 < x1.length from by omega))
   obtain ⟨v36, rfl, r37⟩ := e35
   obtain ⟨m38, A39, c40, rfl, q41, r42⟩ := Qk r37
   refine qv (fun W hm => Qaw Qav rfl rfl ((hm.cell0 (show (a31.add (k13 * 1)).block < w.heap.size from by rw [Qah]; exact hb32.1)).trans (hc34 0 _ rfl))) ?_
   refine Qfu (Qr Qaic rfl) (fun W hm => Qamm W _ (gt x0 k13) _ (gt x1 k13) (hm.rdS0 r30) (hm.rdS0 r42)) (Qo rfl) (by decide) ?_
   refine qv Qbr ?_
   refine nq' ?_
   rcases Bool.eq_false_or_eq_true (Qpz (gt x0 k13) (gt x1 k13)) with g44 | g44
   ·
    refine Qp rfl (nt g44) ?_
    refine Qq (Qax (Qi (Qad (wm ?_))))
    refine wv (Qbd k13 1 (by omega)) ?_
    refine wa (Qal ?_)
    have hn45 := Qbb (R := Bool) (body := F1) (k := k13) (s := ()) (s' := ()) (show k13 < x0.length from by omega) (Qb g44 (rfl)) hF15
    exact Qaz (k13 + 1, (), ()) sl3 (fun W hm => hm) ⟨(by omega), hn45⟩ (rl (by omega))
   refine Ql rfl (nf g44) ?_
   refine sr (wa (nt' (Qj (Qy (Qe (Qe (Qy (Qe ?_))))))))
   exact rtb (h := Qc g12 (Qba (Qbc (body := F1) (k := k13) (s := ()) (show k13 < x0.length from by omega) (Qc g44 (rfl)) hF15) rfl))
  have g18 := dlF hl17
  refine Qp rfl g18 ?_
  refine Qbk (Qac (Qac ?_))
  have hE46 : R2 (x0.length - 0) 0 () = Sum.inr () := Qbn hl17 hF15
  refine Qbm (Qi (sr (wa (nt' (Qj ?_)))))
  exact rtb (h := Qc g12 (Qat hE46 (rfl)))
 have g12 : (((x0.length : Nat) : Int) != ((x1.length : Nat) : Int)) = true := bne_iff_ne.2 h11
 refine Ql rfl g12 ?_
 refine sr (wa (nt' (Qj (Qe ?_))))
 exact rtb (h := Qb g12 (rfl))

def Qpw (x0 : Qx) (x1 : Qx) : Bool :=
 cond (Qpy x0.Segments x1.Segments) (cond (x0.Now != x1.Now) false true) false
theorem cb88 : Cb Tryz.prog 88 := ⟨f88, _, func88, rfl, by decide⟩
theorem Qamg (w : World) (z0 : List Value) (x0 : Qx) (z1 : List Value) (x1 : Qx) (r_0 : Qcz.rd w w.heap.size z0 x0) (r_1 : Qcz.rd w w.heap.size z1 x1) :
  Calls Tryz.prog 88 #[.agg z0.toArray, .agg z1.toArray] w fun e w' => e = .returned (.bool (Qpw x0 x1)) ∧ Below w.heap.size w w' := by
 obtain ⟨v1, rfl, r2⟩ := Qgy r_0
 obtain ⟨m3, A4, c5, rfl, q6, r7⟩ := Qk r2
 obtain ⟨v8, rfl, r9⟩ := Qgy r_1
 obtain ⟨m10, A11, c12, rfl, q13, r14⟩ := Qk r9
 refine ce2 (L := [(0, .agg #[.slice A4 x0.Segments.length c5, .int .i64 x0.Now]), (1, .agg #[.slice A11 x1.Segments.length c12, .int .i64 x1.Now])]) (N := 16) func88 ?_
 refine sr ?_
 refine Qbj rfl (Qo rfl) (by decide) (fun p15 => ?_)
 refine Qbj rfl (Qo rfl) (by decide) (fun p16 => ?_)
 refine wa (nt' (Qf (sr ?_)))
 refine wv (vf Qaf rfl Qcu) ?_
 refine wv (vl 1 0 Qas) ?_
 refine wv (vf Qaf rfl Qcu) ?_
 refine wv (vl 0 0 Qas) ?_
 refine wcv (Qr Qagv rfl) (fun W hm => Qamk W _ x0.Segments _ x1.Segments (hm.rdS0 r7) (hm.rdS0 r14)) ?_
 refine wv Qbr ?_
 refine nt' ?_
 rcases Bool.eq_false_or_eq_true (Qpy x0.Segments x1.Segments) with g18 | g18
 ·
  refine Qp rfl (nt g18) ?_
  refine Qq (Qi (Qf (sr ?_)))
  refine wv (vf Qaf rfl Qh) ?_
  refine wv (vl 1 1 Qt) ?_
  refine wv (vf Qaf rfl Qh) ?_
  refine wv (vl 0 1 Qt) ?_
  refine wv Qcf ?_
  refine nt' ?_
  by_cases h19 : x0.Now = x1.Now
  ·have g20 : (x0.Now != x1.Now) = false := by rw [h19]; exact bne_self_eq_false _
   refine Qp rfl g20 ?_
   refine Qq (Qi (sr (wa (nt' (Qj ?_)))))
   exact rtb (h := Qb g18 (Qc g20 (rfl)))
  have g20 : (x0.Now != x1.Now) = true := bne_iff_ne.2 h19
  refine Ql rfl g20 ?_
  refine sr (wa (nt' (Qj (Qe ?_))))
  exact rtb (h := Qb g18 (Qb g20 (rfl)))
 refine Ql rfl (nf g18) ?_
 refine sr (wa (nt' (Qj (Qe ?_))))
 exact rtb (h := Qc g18 (rfl))

def Qpt (x0 : Qby) (x1 : Qby) : Bool :=
 cond (x0.Field != x1.Field) false (cond (x0.Low != x1.Low) false (cond (x0.High != x1.High) false true))
theorem Qahr : Cb Tryz.prog 204 := ⟨f204, _, func204, rfl, by decide⟩
theorem Qama (w : World) (z0 : List Value) (x0 : Qby) (z1 : List Value) (x1 : Qby) (r_0 : Qbz.rd w w.heap.size z0 x0) (r_1 : Qbz.rd w w.heap.size z1 x1) :
  Calls Tryz.prog 204 #[.agg z0.toArray, .agg z1.toArray] w fun e w' => e = .returned (.bool (Qpt x0 x1)) ∧ Below w.heap.size w w' := by
 obtain rfl := Qjk r_0
 obtain rfl := Qjk r_1
 refine ce2 (L := [(0, .agg #[.int .i64 x0.Field, .int .i64 x0.Low, .int .i64 x0.High]), (1, .agg #[.int .i64 x1.Field, .int .i64 x1.Low, .int .i64 x1.High])]) (N := 20) func204 ?_
 refine sr ?_
 refine Qbj rfl (Qo rfl) (by decide) (fun p1 => ?_)
 refine Qbj rfl (Qo rfl) (by decide) (fun p2 => ?_)
 refine wa (nt' (Qf (sr ?_)))
 refine wv (vf Qei rfl Qh) ?_
 refine wv (vl 1 0 Qt) ?_
 refine wv (vf Qei rfl Qh) ?_
 refine wv (vl 0 0 Qt) ?_
 refine wv Qcf ?_
 refine nt' ?_
 by_cases h3 : x0.Field = x1.Field
 ·have g4 : (x0.Field != x1.Field) = false := by rw [h3]; exact bne_self_eq_false _
  refine Qp rfl g4 ?_
  refine Qq (Qi (Qf (sr ?_)))
  refine wv (vf Qei rfl Qh) ?_
  refine wv (vl 1 1 Qt) ?_
  refine wv (vf Qei rfl Qh) ?_
  refine wv (vl 0 1 Qt) ?_
  refine wv Qcf ?_
  refine nt' ?_
  by_cases h5 : x0.Low = x1.Low
  ·have g6 : (x0.Low != x1.Low) = false := by rw [h5]; exact bne_self_eq_false _
   refine Qp rfl g6 ?_
   refine Qq (Qi (Qf (sr ?_)))
   refine wv (vf Qei rfl Qh) ?_
   refine wv (vl 1 2 Qt) ?_
   refine wv (vf Qei rfl Qh) ?_
   refine wv (vl 0 2 Qt) ?_
   refine wv Qcf ?_
   refine nt' ?_
   by_cases h7 : x0.High = x1.High
   ·have g8 : (x0.High != x1.High) = false := by rw [h7]; exact bne_self_eq_false _
    refine Qp rfl g8 ?_
    refine Qq (Qi (sr (wa (nt' (Qj ?_)))))
    exact rtb (h := Qc g4 (Qc g6 (Qc g8 (rfl))))
   have g8 : (x0.High != x1.High) = true := bne_iff_ne.2 h7
   refine Ql rfl g8 ?_
   refine sr (wa (nt' (Qj (Qe ?_))))
   exact rtb (h := Qc g4 (Qc g6 (Qb g8 (rfl))))
  have g6 : (x0.Low != x1.Low) = true := bne_iff_ne.2 h5
  refine Ql rfl g6 ?_
  refine sr (wa (nt' (Qj (Qe ?_))))
  exact rtb (h := Qc g4 (Qb g6 (rfl)))
 have g4 : (x0.Field != x1.Field) = true := bne_iff_ne.2 h3
 refine Ql rfl g4 ?_
 refine sr (wa (nt' (Qj (Qe ?_))))
 exact rtb (h := Qb g4 (rfl))

def Qus (x0 : (List Qby)) (x1 : (List Qby)) (k13 : Nat) : Bool ⊕ (Unit) :=
 cond (Qpt (gt x0 k13) (gt x1 k13)) (Sum.inr ()) (Sum.inl false)
def Qps (x0 : (List Qby)) (x1 : (List Qby)) : Bool :=
 cond (((x0.length : Nat) : Int) != ((x1.length : Nat) : Int)) false (Sum.elim id (fun (s : Unit) => true) (rng (R := Bool) (fun k (_ : Unit) => Qus x0 x1 k) (x0.length - 0) 0 ()))
theorem Qagi : Cb Tryz.prog 145 := ⟨f145, _, func145, rfl, by decide⟩
theorem Qaly (w : World) (z0 : Value) (x0 : (List Qby)) (z1 : Value) (x1 : (List Qby)) (r_0 : rdS Qbz w w.heap.size z0 x0) (r_1 : rdS Qbz w w.heap.size z1 x1) :
  Calls Tryz.prog 145 #[z0, z1] w fun e w' => e = .returned (.bool (Qps x0 x1)) ∧ Below w.heap.size w w' := by
 obtain ⟨m1, A2, c3, rfl, q4, r5⟩ := Qk r_0
 obtain ⟨m6, A7, c8, rfl, q9, r10⟩ := Qk r_1
 refine ce2 (L := [(0, .slice A2 x0.length c3), (1, .slice A7 x1.length c8)]) (N := 27) func145 ?_
 refine sr (wa (nt' (Qf (sr (wm ?_)))))
 refine wv (Qai Qds) ?_
 refine wm ?_
 refine wv (Qai Qds) ?_
 refine wv Qcf ?_
 refine nt' ?_
 by_cases h11 : ((x0.length : Nat) : Int) = ((x1.length : Nat) : Int)
 ·have g12 : (((x0.length : Nat) : Int) != ((x1.length : Nat) : Int)) = false := by rw [h11]; exact bne_self_eq_false _
  refine Qp rfl g12 ?_
  refine Qq (Qi (Qf (sr (wa (nt' (Qab ?_))))))
  let F1 := fun k (_ : Unit) => Qus x0 x1 k
  let R2 := rng (R := Bool) F1
  refine Qbl (σ := Nat × (Unit) × (Unit)) (fun s => [(0, .slice A2 x0.length c3), (1, .slice A7 x1.length c8), (5, .int .i64 ((s.1 : Nat) : Int))]) (fun s => []) (fun s => s.1 ≤ x0.length ∧ R2 (x0.length - s.1) s.1 s.2.1 = R2 (x0.length - 0) 0 ()) (fun s => x0.length - s.1) (0, (), ()) sl3 (fun W hm => hm) ⟨(by omega), rfl⟩ ?_
  rintro ⟨k13, ⟨⟩, ⟨⟩⟩ H16
  obtain ⟨hk14, hF15⟩ : k13 ≤ x0.length ∧ R2 (x0.length - k13) k13 () = R2 (x0.length - 0) 0 () := H16
  show CM Tryz.prog 27 _ _ _ _ [(0, .slice A2 x0.length c3), (1, .slice A7 x1.length c8), (5, .int .i64 ((k13 : Nat) : Int))] []
  refine Qf (sr (wm (wm ?_)))
  refine wv (Qai Qds) ?_
  refine wv Qak ?_
  refine nt' ?_
  by_cases hl17 : k13 < x0.length
  ·have g18 := dlT hl17
   refine Ql rfl g18 ?_
   refine Qq (Qi (Qf (Qab (Qf ?_))))
   refine Qge (by kernel_rfl) (by kernel_rfl) ?_
   refine qm (qm ?_)
   obtain ⟨a19, rfl, hb20, he21⟩ := q4 (by omega)
   refine qv (vix 3 k13 Qds Qeh) ?_
   obtain ⟨_, e23, hc22⟩ := he21 k13 _ (Qca (show k13 < x0.length from by omega))
   obtain rfl := Qjk e23
   refine qv (fun W hm => Qz (cs := [.int .i64 ((gt x0 k13).Field), .int .i64 ((gt x0 k13).Low), .int .i64 ((gt x0 k13).High)]) Qei Qeh rfl rfl (hm.elCells (show (a19.add (k13 * 3)).block < w.heap.size from by rw [Qah]; exact hb20.1) hc22)) ?_
   refine qm (qm ?_)
   obtain ⟨a24, rfl, hb25, he26⟩ := q9 (by omega)
   refine qv (vix 3 k13 Qds Qeh) ?_
   obtain ⟨_, e28, hc27⟩ := he26 k13 _ (Qca (show k13 < x1.length from by omega))
   obtain rfl := Qjk e28
   refine qv (fun W hm => Qz (cs := [.int .i64 ((gt x1 k13).Field), .int .i64 ((gt x1 k13).Low), .int .i64 ((gt x1 k13).High)]) Qei Qeh rfl rfl (hm.elCells (show (a24.add (k13 * 3)).block < w.heap.size from by rw [Qah]; exact hb25.1) hc27)) ?_
   refine Qfu (Qr Qahr rfl) (fun W hm => Qama W _ (gt x0 k13) _ (gt x1 k13) (Qsr (x := (gt x0 k13))) (Qsr (x := (gt x1 k13)))) (Qo rfl) (by decide) ?_
   refine qv Qbr ?_
   refine nq' ?_
   rcases Bool.eq_false_or_eq_true (Qpt (gt x0 k13) (gt x1 k13)) with g30 | g30
   ·
    refine Qp rfl (nt g30) ?_
    refine Qq (Qax (Qi (Qad (wm ?_))))
    refine wv (Qbd k13 1 (by omega)) ?_
    refine wa (Qal ?_)
    have hn31 := Qbb (R := Bool) (body := F1) (k := k13) (s := ()) (s' := ()) (show k13 < x0.length from by omega) (Qb g30 (rfl)) hF15
    exact Qaz (k13 + 1, (), ()) sl3 (fun W hm => hm) ⟨(by omega), hn31⟩ (rl (by omega))
   refine Ql rfl (nf g30) ?_
   refine sr (wa (nt' (Qj (Qy (Qe (Qe (Qy (Qe ?_))))))))
   exact rtb (h := Qc g12 (Qba (Qbc (body := F1) (k := k13) (s := ()) (show k13 < x0.length from by omega) (Qc g30 (rfl)) hF15) rfl))
  have g18 := dlF hl17
  refine Qp rfl g18 ?_
  refine Qbk (Qac (Qac ?_))
  have hE32 : R2 (x0.length - 0) 0 () = Sum.inr () := Qbn hl17 hF15
  refine Qbm (Qi (sr (wa (nt' (Qj ?_)))))
  exact rtb (h := Qc g12 (Qat hE32 (rfl)))
 have g12 : (((x0.length : Nat) : Int) != ((x1.length : Nat) : Int)) = true := bne_iff_ne.2 h11
 refine Ql rfl g12 ?_
 refine sr (wa (nt' (Qj (Qe ?_))))
 exact rtb (h := Qb g12 (rfl))

def Qmx (x0 : Qcg) (x1 : Qcg) : Bool :=
 cond (x0.Id != x1.Id) false (cond (x0.Tenant != x1.Tenant) false (cond (Qps x0.Conds x1.Conds) (cond (Qgm x0.Out x1.Out) true false) false))
theorem Qzb : Cb Tryz.prog 54 := ⟨f54, _, func54, rfl, by decide⟩
theorem Qaag (w : World) (z0 : List Value) (x0 : Qcg) (z1 : List Value) (x1 : Qcg) (r_0 : Qez.rd w w.heap.size z0 x0) (r_1 : Qez.rd w w.heap.size z1 x1) :
  Calls Tryz.prog 54 #[.agg z0.toArray, .agg z1.toArray] w fun e w' => e = .returned (.bool (Qmx x0 x1)) ∧ Below w.heap.size w w' := by
 obtain ⟨v1, v3, rfl, r2, r4⟩ := Qpa r_0
 obtain ⟨m5, A6, c7, rfl, q8, r9⟩ := Qk r2
 obtain ⟨m10, A11, c12, rfl, q13, r14⟩ := Qk r4
 obtain ⟨v15, v17, rfl, r16, r18⟩ := Qpa r_1
 obtain ⟨m19, A20, c21, rfl, q22, r23⟩ := Qk r16
 obtain ⟨m24, A25, c26, rfl, q27, r28⟩ := Qk r18
 refine ce2 (L := [(0, .agg #[.int .i64 x0.Id, .int .i64 x0.Tenant, .slice A6 x0.Conds.length c7, .slice A11 x0.Out.length c12]), (1, .agg #[.int .i64 x1.Id, .int .i64 x1.Tenant, .slice A20 x1.Conds.length c21, .slice A25 x1.Out.length c26])]) (N := 27) func54 ?_
 refine sr ?_
 refine Qbj rfl (Qo rfl) (by decide) (fun p29 => ?_)
 refine Qbj rfl (Qo rfl) (by decide) (fun p30 => ?_)
 refine wa (nt' (Qf (sr ?_)))
 refine wv (vf Qch rfl Qh) ?_
 refine wv (vl 1 0 Qt) ?_
 refine wv (vf Qch rfl Qh) ?_
 refine wv (vl 0 0 Qt) ?_
 refine wv Qcf ?_
 refine nt' ?_
 by_cases h31 : x0.Id = x1.Id
 ·have g32 : (x0.Id != x1.Id) = false := by rw [h31]; exact bne_self_eq_false _
  refine Qp rfl g32 ?_
  refine Qq (Qi (Qf (sr ?_)))
  refine wv (vf Qch rfl Qh) ?_
  refine wv (vl 1 1 Qt) ?_
  refine wv (vf Qch rfl Qh) ?_
  refine wv (vl 0 1 Qt) ?_
  refine wv Qcf ?_
  refine nt' ?_
  by_cases h33 : x0.Tenant = x1.Tenant
  ·have g34 : (x0.Tenant != x1.Tenant) = false := by rw [h33]; exact bne_self_eq_false _
   refine Qp rfl g34 ?_
   refine Qq (Qi (Qf (sr ?_)))
   refine wv (vf Qch rfl type32) ?_
   refine wv (vl 1 2 Qds) ?_
   refine wv (vf Qch rfl type32) ?_
   refine wv (vl 0 2 Qds) ?_
   refine wcv (Qr Qagi rfl) (fun W hm => Qaly W _ x0.Conds _ x1.Conds (hm.rdS0 r9) (hm.rdS0 r23)) ?_
   refine wv Qbr ?_
   refine nt' ?_
   rcases Bool.eq_false_or_eq_true (Qps x0.Conds x1.Conds) with g36 | g36
   ·
    refine Qp rfl (nt g36) ?_
    refine Qq (Qi (Qf (sr ?_)))
    refine wv (vf Qch rfl Qap) ?_
    refine wv (vl 1 3 Qv) ?_
    refine wv (vf Qch rfl Qap) ?_
    refine wv (vl 0 3 Qv) ?_
    refine wcv (Qr Qlm rfl) (fun W hm => Qlu W _ x0.Out _ x1.Out (hm.rdS0 r14) (hm.rdS0 r28)) ?_
    refine wv Qbr ?_
    refine nt' ?_
    rcases Bool.eq_false_or_eq_true (Qgm x0.Out x1.Out) with g38 | g38
    ·
     refine Qp rfl (nt g38) ?_
     refine Qq (Qi (sr (wa (nt' (Qj ?_)))))
     exact rtb (h := Qc g32 (Qc g34 (Qb g36 (Qb g38 (rfl)))))
    refine Ql rfl (nf g38) ?_
    refine sr (wa (nt' (Qj (Qe ?_))))
    exact rtb (h := Qc g32 (Qc g34 (Qb g36 (Qc g38 (rfl)))))
   refine Ql rfl (nf g36) ?_
   refine sr (wa (nt' (Qj (Qe ?_))))
   exact rtb (h := Qc g32 (Qc g34 (Qc g36 (rfl))))
  have g34 : (x0.Tenant != x1.Tenant) = true := bne_iff_ne.2 h33
  refine Ql rfl g34 ?_
  refine sr (wa (nt' (Qj (Qe ?_))))
  exact rtb (h := Qc g32 (Qb g34 (rfl)))
 have g32 : (x0.Id != x1.Id) = true := bne_iff_ne.2 h31
 refine Ql rfl g32 ?_
 refine sr (wa (nt' (Qj (Qe ?_))))
 exact rtb (h := Qb g32 (rfl))

def Qmz (x0 : Qaj) (x1 : Qaj) : Bool :=
 cond (x0.Id != x1.Id) false (cond (Qgm x0.Values x1.Values) true false)
theorem Qyo : Cb Tryz.prog 149 := ⟨f149, _, func149, rfl, by decide⟩
theorem Qaak (w : World) (z0 : List Value) (x0 : Qaj) (z1 : List Value) (x1 : Qaj) (r_0 : Qbp.rd w w.heap.size z0 x0) (r_1 : Qbp.rd w w.heap.size z1 x1) :
  Calls Tryz.prog 149 #[.agg z0.toArray, .agg z1.toArray] w fun e w' => e = .returned (.bool (Qmz x0 x1)) ∧ Below w.heap.size w w' := by
 obtain ⟨v1, rfl, r2⟩ := Qin r_0
 obtain ⟨m3, A4, c5, rfl, q6, r7⟩ := Qk r2
 obtain ⟨v8, rfl, r9⟩ := Qin r_1
 obtain ⟨m10, A11, c12, rfl, q13, r14⟩ := Qk r9
 refine ce2 (L := [(0, .agg #[.int .i64 x0.Id, .slice A4 x0.Values.length c5]), (1, .agg #[.int .i64 x1.Id, .slice A11 x1.Values.length c12])]) (N := 16) func149 ?_
 refine sr ?_
 refine Qbj rfl (Qo rfl) (by decide) (fun p15 => ?_)
 refine Qbj rfl (Qo rfl) (by decide) (fun p16 => ?_)
 refine wa (nt' (Qf (sr ?_)))
 refine wv (vf Qde rfl Qh) ?_
 refine wv (vl 1 0 Qt) ?_
 refine wv (vf Qde rfl Qh) ?_
 refine wv (vl 0 0 Qt) ?_
 refine wv Qcf ?_
 refine nt' ?_
 by_cases h17 : x0.Id = x1.Id
 ·have g18 : (x0.Id != x1.Id) = false := by rw [h17]; exact bne_self_eq_false _
  refine Qp rfl g18 ?_
  refine Qq (Qi (Qf (sr ?_)))
  refine wv (vf Qde rfl Qap) ?_
  refine wv (vl 1 1 Qv) ?_
  refine wv (vf Qde rfl Qap) ?_
  refine wv (vl 0 1 Qv) ?_
  refine wcv (Qr Qlm rfl) (fun W hm => Qlu W _ x0.Values _ x1.Values (hm.rdS0 r7) (hm.rdS0 r14)) ?_
  refine wv Qbr ?_
  refine nt' ?_
  rcases Bool.eq_false_or_eq_true (Qgm x0.Values x1.Values) with g20 | g20
  ·
   refine Qp rfl (nt g20) ?_
   refine Qq (Qi (sr (wa (nt' (Qj ?_)))))
   exact rtb (h := Qc g18 (Qb g20 (rfl)))
  refine Ql rfl (nf g20) ?_
  refine sr (wa (nt' (Qj (Qe ?_))))
  exact rtb (h := Qc g18 (Qc g20 (rfl)))
 have g18 : (x0.Id != x1.Id) = true := bne_iff_ne.2 h17
 refine Ql rfl g18 ?_
 refine sr (wa (nt' (Qj (Qe ?_))))
 exact rtb (h := Qb g18 (rfl))

def Quv (x0 : (List Qaj)) (x1 : (List Qaj)) (k13 : Nat) : Bool ⊕ (Unit) :=
 cond (Qmz (gt x0 k13) (gt x1 k13)) (Sum.inr ()) (Sum.inl false)
def Qmy (x0 : (List Qaj)) (x1 : (List Qaj)) : Bool :=
 cond (((x0.length : Nat) : Int) != ((x1.length : Nat) : Int)) false (Sum.elim id (fun (s : Unit) => true) (rng (R := Bool) (fun k (_ : Unit) => Quv x0 x1 k) (x0.length - 0) 0 ()))
theorem Qzc : Cb Tryz.prog 87 := ⟨f87, _, func87, rfl, by decide⟩
theorem Qaai (w : World) (z0 : Value) (x0 : (List Qaj)) (z1 : Value) (x1 : (List Qaj)) (r_0 : rdS Qbp w w.heap.size z0 x0) (r_1 : rdS Qbp w w.heap.size z1 x1) :
  Calls Tryz.prog 87 #[z0, z1] w fun e w' => e = .returned (.bool (Qmy x0 x1)) ∧ Below w.heap.size w w' := by
 obtain ⟨m1, A2, c3, rfl, q4, r5⟩ := Qk r_0
 obtain ⟨m6, A7, c8, rfl, q9, r10⟩ := Qk r_1
 refine ce2 (L := [(0, .slice A2 x0.length c3), (1, .slice A7 x1.length c8)]) (N := 27) func87 ?_
 refine sr (wa (nt' (Qf (sr (wm ?_)))))
 refine wv (Qai Qdv) ?_
 refine wm ?_
 refine wv (Qai Qdv) ?_
 refine wv Qcf ?_
 refine nt' ?_
 by_cases h11 : ((x0.length : Nat) : Int) = ((x1.length : Nat) : Int)
 ·have g12 : (((x0.length : Nat) : Int) != ((x1.length : Nat) : Int)) = false := by rw [h11]; exact bne_self_eq_false _
  refine Qp rfl g12 ?_
  refine Qq (Qi (Qf (sr (wa (nt' (Qab ?_))))))
  let F1 := fun k (_ : Unit) => Quv x0 x1 k
  let R2 := rng (R := Bool) F1
  refine Qbl (σ := Nat × (Unit) × (Unit)) (fun s => [(0, .slice A2 x0.length c3), (1, .slice A7 x1.length c8), (5, .int .i64 ((s.1 : Nat) : Int))]) (fun s => []) (fun s => s.1 ≤ x0.length ∧ R2 (x0.length - s.1) s.1 s.2.1 = R2 (x0.length - 0) 0 ()) (fun s => x0.length - s.1) (0, (), ()) sl3 (fun W hm => hm) ⟨(by omega), rfl⟩ ?_
  rintro ⟨k13, ⟨⟩, ⟨⟩⟩ H16
  obtain ⟨hk14, hF15⟩ : k13 ≤ x0.length ∧ R2 (x0.length - k13) k13 () = R2 (x0.length - 0) 0 () := H16
  show CM Tryz.prog 27 _ _ _ _ [(0, .slice A2 x0.length c3), (1, .slice A7 x1.length c8), (5, .int .i64 ((k13 : Nat) : Int))] []
  refine Qf (sr (wm (wm ?_)))
  refine wv (Qai Qdv) ?_
  refine wv Qak ?_
  refine nt' ?_
  by_cases hl17 : k13 < x0.length
  ·have g18 := dlT hl17
   refine Ql rfl g18 ?_
   refine Qq (Qi (Qf (Qab (Qf ?_))))
   refine Qge (by kernel_rfl) (by kernel_rfl) ?_
   refine qm (qm ?_)
   obtain ⟨a19, rfl, hb20, he21⟩ := q4 (by omega)
   refine qv (vix 2 k13 Qdv Qcc) ?_
   obtain ⟨_, e25, hc22⟩ := he21 k13 _ (Qca (show k13 < x0.length from by omega))
   obtain ⟨v23, rfl, r24⟩ := Qin e25
   obtain ⟨m26, A27, c28, rfl, q29, r30⟩ := Qk r24
   refine qv (fun W hm => Qz (cs := [.int .i64 ((gt x0 k13).Id), .slice A27 ((gt x0 k13).Values).length c28]) Qde Qcc rfl rfl (hm.elCells (show (a19.add (k13 * 2)).block < w.heap.size from by rw [Qah]; exact hb20.1) hc22)) ?_
   refine qm (qm ?_)
   obtain ⟨a31, rfl, hb32, he33⟩ := q9 (by omega)
   refine qv (vix 2 k13 Qdv Qcc) ?_
   obtain ⟨_, e37, hc34⟩ := he33 k13 _ (Qca (show k13 < x1.length from by omega))
   obtain ⟨v35, rfl, r36⟩ := Qin e37
   obtain ⟨m38, A39, c40, rfl, q41, r42⟩ := Qk r36
   refine qv (fun W hm => Qz (cs := [.int .i64 ((gt x1 k13).Id), .slice A39 ((gt x1 k13).Values).length c40]) Qde Qcc rfl rfl (hm.elCells (show (a31.add (k13 * 2)).block < w.heap.size from by rw [Qah]; exact hb32.1) hc34)) ?_
   refine Qfu (Qr Qyo rfl) (fun W hm => Qaak W _ (gt x0 k13) _ (gt x1 k13) (Qim (x := (gt x0 k13)) (hm.rdS0 r30)) (Qim (x := (gt x1 k13)) (hm.rdS0 r42))) (Qo rfl) (by decide) ?_
   refine qv Qbr ?_
   refine nq' ?_
   rcases Bool.eq_false_or_eq_true (Qmz (gt x0 k13) (gt x1 k13)) with g44 | g44
   ·
    refine Qp rfl (nt g44) ?_
    refine Qq (Qax (Qi (Qad (wm ?_))))
    refine wv (Qbd k13 1 (by omega)) ?_
    refine wa (Qal ?_)
    have hn45 := Qbb (R := Bool) (body := F1) (k := k13) (s := ()) (s' := ()) (show k13 < x0.length from by omega) (Qb g44 (rfl)) hF15
    exact Qaz (k13 + 1, (), ()) sl3 (fun W hm => hm) ⟨(by omega), hn45⟩ (rl (by omega))
   refine Ql rfl (nf g44) ?_
   refine sr (wa (nt' (Qj (Qy (Qe (Qe (Qy (Qe ?_))))))))
   exact rtb (h := Qc g12 (Qba (Qbc (body := F1) (k := k13) (s := ()) (show k13 < x0.length from by omega) (Qc g44 (rfl)) hF15) rfl))
  have g18 := dlF hl17
  refine Qp rfl g18 ?_
  refine Qbk (Qac (Qac ?_))
  have hE46 : R2 (x0.length - 0) 0 () = Sum.inr () := Qbn hl17 hF15
  refine Qbm (Qi (sr (wa (nt' (Qj ?_)))))
  exact rtb (h := Qc g12 (Qat hE46 (rfl)))
 have g12 : (((x0.length : Nat) : Int) != ((x1.length : Nat) : Int)) = true := bne_iff_ne.2 h11
 refine Ql rfl g12 ?_
 refine sr (wa (nt' (Qj (Qe ?_))))
 exact rtb (h := Qb g12 (rfl))

def Qpp (x0 : Qbf) (x1 : Qbf) : Bool :=
 cond (Qmx x0.Query x1.Query) (cond (x0.Time != x1.Time) false (cond (Qgm x0.Todo x1.Todo) (cond (x0.Age != x1.Age) false (cond (x0.Sent != x1.Sent) false (cond (x0.Cap != x1.Cap) false (cond (Qmy x0.Rows x1.Rows) true false)))) false)) false
theorem Qagw : Cb Tryz.prog 168 := ⟨f168, _, func168, rfl, by decide⟩
theorem Qals (w : World) (z0 : List Value) (x0 : Qbf) (z1 : List Value) (x1 : Qbf) (r_0 : Qbw.rd w w.heap.size z0 x0) (r_1 : Qbw.rd w w.heap.size z1 x1) :
  Calls Tryz.prog 168 #[.agg z0.toArray, .agg z1.toArray] w fun e w' => e = .returned (.bool (Qpp x0 x1)) ∧ Below w.heap.size w w' := by
 obtain ⟨v1, v3, v5, v7, rfl, r2, r4, r6, r8⟩ := Qhz r_0
 obtain ⟨m9, A10, c11, rfl, q12, r13⟩ := Qk r2
 obtain ⟨m14, A15, c16, rfl, q17, r18⟩ := Qk r4
 obtain ⟨m19, A20, c21, rfl, q22, r23⟩ := Qk r6
 obtain ⟨m24, A25, c26, rfl, q27, r28⟩ := Qk r8
 obtain ⟨v29, v31, v33, v35, rfl, r30, r32, r34, r36⟩ := Qhz r_1
 obtain ⟨m37, A38, c39, rfl, q40, r41⟩ := Qk r30
 obtain ⟨m42, A43, c44, rfl, q45, r46⟩ := Qk r32
 obtain ⟨m47, A48, c49, rfl, q50, r51⟩ := Qk r34
 obtain ⟨m52, A53, c54, rfl, q55, r56⟩ := Qk r36
 refine ce2 (L := [(0, .agg #[.int .i64 x0.Query.Id, .int .i64 x0.Query.Tenant, .slice A10 x0.Query.Conds.length c11, .slice A15 x0.Query.Out.length c16, .int .i64 x0.Time, .slice A20 x0.Todo.length c21, .int .i64 x0.Age, .int .i64 x0.Sent, .int .i64 x0.Cap, .slice A25 x0.Rows.length c26]), (1, .agg #[.int .i64 x1.Query.Id, .int .i64 x1.Query.Tenant, .slice A38 x1.Query.Conds.length c39, .slice A43 x1.Query.Out.length c44, .int .i64 x1.Time, .slice A48 x1.Todo.length c49, .int .i64 x1.Age, .int .i64 x1.Sent, .int .i64 x1.Cap, .slice A53 x1.Rows.length c54])]) (N := 43) func168 ?_
 refine sr ?_
 refine Qbj rfl (Qo rfl) (by decide) (fun p57 => ?_)
 refine Qbj rfl (Qo rfl) (by decide) (fun p58 => ?_)
 refine wa (nt' (Qf (sr ?_)))
 refine wv (vf Qbu rfl Qcl) ?_
 refine wv (fun W hm => Qz (cs := [.int .i64 x0.Query.Id, .int .i64 x0.Query.Tenant, .slice A10 x0.Query.Conds.length c11, .slice A15 x0.Query.Out.length c16]) Qch Qcl rfl rfl (hm.boxPart (n := 1) rfl rfl)) ?_
 refine wv (vf Qbu rfl Qcl) ?_
 refine wv (fun W hm => Qz (cs := [.int .i64 x1.Query.Id, .int .i64 x1.Query.Tenant, .slice A38 x1.Query.Conds.length c39, .slice A43 x1.Query.Out.length c44]) Qch Qcl rfl rfl (hm.boxPart (n := 0) rfl rfl)) ?_
 refine wcv (Qr Qzb rfl) (fun W hm => Qaag W _ x0.Query _ x1.Query (Qjb (x := x0.Query) (hm.rdS0 r13) (hm.rdS0 r18)) (Qjb (x := x1.Query) (hm.rdS0 r41) (hm.rdS0 r46))) ?_
 refine wv Qbr ?_
 refine nt' ?_
 rcases Bool.eq_false_or_eq_true (Qmx x0.Query x1.Query) with g60 | g60
 ·
  refine Qp rfl (nt g60) ?_
  refine Qq (Qi (Qf (sr ?_)))
  refine wv (vf Qbu rfl Qh) ?_
  refine wv (vl 1 4 Qt) ?_
  refine wv (vf Qbu rfl Qh) ?_
  refine wv (vl 0 4 Qt) ?_
  refine wv Qcf ?_
  refine nt' ?_
  by_cases h61 : x0.Time = x1.Time
  ·have g62 : (x0.Time != x1.Time) = false := by rw [h61]; exact bne_self_eq_false _
   refine Qp rfl g62 ?_
   refine Qq (Qi (Qf (sr ?_)))
   refine wv (vf Qbu rfl Qap) ?_
   refine wv (vl 1 5 Qv) ?_
   refine wv (vf Qbu rfl Qap) ?_
   refine wv (vl 0 5 Qv) ?_
   refine wcv (Qr Qlm rfl) (fun W hm => Qlu W _ x0.Todo _ x1.Todo (hm.rdS0 r23) (hm.rdS0 r51)) ?_
   refine wv Qbr ?_
   refine nt' ?_
   rcases Bool.eq_false_or_eq_true (Qgm x0.Todo x1.Todo) with g64 | g64
   ·
    refine Qp rfl (nt g64) ?_
    refine Qq (Qi (Qf (sr ?_)))
    refine wv (vf Qbu rfl Qh) ?_
    refine wv (vl 1 6 Qt) ?_
    refine wv (vf Qbu rfl Qh) ?_
    refine wv (vl 0 6 Qt) ?_
    refine wv Qcf ?_
    refine nt' ?_
    by_cases h65 : x0.Age = x1.Age
    ·have g66 : (x0.Age != x1.Age) = false := by rw [h65]; exact bne_self_eq_false _
     refine Qp rfl g66 ?_
     refine Qq (Qi (Qf (sr ?_)))
     refine wv (vf Qbu rfl Qh) ?_
     refine wv (vl 1 7 Qt) ?_
     refine wv (vf Qbu rfl Qh) ?_
     refine wv (vl 0 7 Qt) ?_
     refine wv Qcf ?_
     refine nt' ?_
     by_cases h67 : x0.Sent = x1.Sent
     ·have g68 : (x0.Sent != x1.Sent) = false := by rw [h67]; exact bne_self_eq_false _
      refine Qp rfl g68 ?_
      refine Qq (Qi (Qf (sr ?_)))
      refine wv (vf Qbu rfl Qh) ?_
      refine wv (vl 1 8 Qt) ?_
      refine wv (vf Qbu rfl Qh) ?_
      refine wv (vl 0 8 Qt) ?_
      refine wv Qcf ?_
      refine nt' ?_
      by_cases h69 : x0.Cap = x1.Cap
      ·have g70 : (x0.Cap != x1.Cap) = false := by rw [h69]; exact bne_self_eq_false _
       refine Qp rfl g70 ?_
       refine Qq (Qi (Qf (sr ?_)))
       refine wv (vf Qbu rfl Qfa) ?_
       refine wv (vl 1 9 Qdv) ?_
       refine wv (vf Qbu rfl Qfa) ?_
       refine wv (vl 0 9 Qdv) ?_
       refine wcv (Qr Qzc rfl) (fun W hm => Qaai W _ x0.Rows _ x1.Rows (hm.rdS0 r28) (hm.rdS0 r56)) ?_
       refine wv Qbr ?_
       refine nt' ?_
       rcases Bool.eq_false_or_eq_true (Qmy x0.Rows x1.Rows) with g72 | g72
       ·
        refine Qp rfl (nt g72) ?_
        refine Qq (Qi (sr (wa (nt' (Qj ?_)))))
        exact rtb (h := Qb g60 (Qc g62 (Qb g64 (Qc g66 (Qc g68 (Qc g70 (Qb g72 (rfl))))))))
       refine Ql rfl (nf g72) ?_
       refine sr (wa (nt' (Qj (Qe ?_))))
       exact rtb (h := Qb g60 (Qc g62 (Qb g64 (Qc g66 (Qc g68 (Qc g70 (Qc g72 (rfl))))))))
      have g70 : (x0.Cap != x1.Cap) = true := bne_iff_ne.2 h69
      refine Ql rfl g70 ?_
      refine sr (wa (nt' (Qj (Qe ?_))))
      exact rtb (h := Qb g60 (Qc g62 (Qb g64 (Qc g66 (Qc g68 (Qb g70 (rfl)))))))
     have g68 : (x0.Sent != x1.Sent) = true := bne_iff_ne.2 h67
     refine Ql rfl g68 ?_
     refine sr (wa (nt' (Qj (Qe ?_))))
     exact rtb (h := Qb g60 (Qc g62 (Qb g64 (Qc g66 (Qb g68 (rfl))))))
    have g66 : (x0.Age != x1.Age) = true := bne_iff_ne.2 h65
    refine Ql rfl g66 ?_
    refine sr (wa (nt' (Qj (Qe ?_))))
    exact rtb (h := Qb g60 (Qc g62 (Qb g64 (Qb g66 (rfl)))))
   refine Ql rfl (nf g64) ?_
   refine sr (wa (nt' (Qj (Qe ?_))))
   exact rtb (h := Qb g60 (Qc g62 (Qc g64 (rfl))))
  have g62 : (x0.Time != x1.Time) = true := bne_iff_ne.2 h61
  refine Ql rfl g62 ?_
  refine sr (wa (nt' (Qj (Qe ?_))))
  exact rtb (h := Qb g60 (Qb g62 (rfl)))
 refine Ql rfl (nf g60) ?_
 refine sr (wa (nt' (Qj (Qe ?_))))
 exact rtb (h := Qc g60 (rfl))

def Quq (x0 : (List Qbf)) (x1 : (List Qbf)) (k13 : Nat) : Bool ⊕ (Unit) :=
 cond (Qpp (gt x0 k13) (gt x1 k13)) (Sum.inr ()) (Sum.inl false)
def Qpo (x0 : (List Qbf)) (x1 : (List Qbf)) : Bool :=
 cond (((x0.length : Nat) : Int) != ((x1.length : Nat) : Int)) false (Sum.elim id (fun (s : Unit) => true) (rng (R := Bool) (fun k (_ : Unit) => Quq x0 x1 k) (x0.length - 0) 0 ()))
theorem cb89 : Cb Tryz.prog 89 := ⟨f89, _, func89, rfl, by decide⟩
theorem Qalq (w : World) (z0 : Value) (x0 : (List Qbf)) (z1 : Value) (x1 : (List Qbf)) (r_0 : rdS Qbw w w.heap.size z0 x0) (r_1 : rdS Qbw w w.heap.size z1 x1) :
  Calls Tryz.prog 89 #[z0, z1] w fun e w' => e = .returned (.bool (Qpo x0 x1)) ∧ Below w.heap.size w w' := by
 obtain ⟨m1, A2, c3, rfl, q4, r5⟩ := Qk r_0
 obtain ⟨m6, A7, c8, rfl, q9, r10⟩ := Qk r_1
 refine ce2 (L := [(0, .slice A2 x0.length c3), (1, .slice A7 x1.length c8)]) (N := 27) func89 ?_
 refine sr (wa (nt' (Qf (sr (wm ?_)))))
 refine wv (Qai Qcj) ?_
 refine wm ?_
 refine wv (Qai Qcj) ?_
 refine wv Qcf ?_
 refine nt' ?_
 by_cases h11 : ((x0.length : Nat) : Int) = ((x1.length : Nat) : Int)
 ·have g12 : (((x0.length : Nat) : Int) != ((x1.length : Nat) : Int)) = false := by rw [h11]; exact bne_self_eq_false _
  refine Qp rfl g12 ?_
  refine Qq (Qi (Qf (sr (wa (nt' (Qab ?_))))))
  let F1 := fun k (_ : Unit) => Quq x0 x1 k
  let R2 := rng (R := Bool) F1
  refine Qbl (σ := Nat × (Unit) × (Unit)) (fun s => [(0, .slice A2 x0.length c3), (1, .slice A7 x1.length c8), (5, .int .i64 ((s.1 : Nat) : Int))]) (fun s => []) (fun s => s.1 ≤ x0.length ∧ R2 (x0.length - s.1) s.1 s.2.1 = R2 (x0.length - 0) 0 ()) (fun s => x0.length - s.1) (0, (), ()) sl3 (fun W hm => hm) ⟨(by omega), rfl⟩ ?_
  rintro ⟨k13, ⟨⟩, ⟨⟩⟩ H16
  obtain ⟨hk14, hF15⟩ : k13 ≤ x0.length ∧ R2 (x0.length - k13) k13 () = R2 (x0.length - 0) 0 () := H16
  show CM Tryz.prog 27 _ _ _ _ [(0, .slice A2 x0.length c3), (1, .slice A7 x1.length c8), (5, .int .i64 ((k13 : Nat) : Int))] []
  refine Qf (sr (wm (wm ?_)))
  refine wv (Qai Qcj) ?_
  refine wv Qak ?_
  refine nt' ?_
  by_cases hl17 : k13 < x0.length
  ·have g18 := dlT hl17
   refine Ql rfl g18 ?_
   refine Qq (Qi (Qf (Qab (Qf ?_))))
   refine Qge (by kernel_rfl) (by kernel_rfl) ?_
   refine qm (qm ?_)
   obtain ⟨a19, rfl, hb20, he21⟩ := q4 (by omega)
   refine qv (vix 10 k13 Qcj Qcs) ?_
   obtain ⟨_, e31, hc22⟩ := he21 k13 _ (Qca (show k13 < x0.length from by omega))
   obtain ⟨v23, v25, v27, v29, rfl, r24, r26, r28, r30⟩ := Qhz e31
   obtain ⟨m32, A33, c34, rfl, q35, r36⟩ := Qk r24
   obtain ⟨m37, A38, c39, rfl, q40, r41⟩ := Qk r26
   obtain ⟨m42, A43, c44, rfl, q45, r46⟩ := Qk r28
   obtain ⟨m47, A48, c49, rfl, q50, r51⟩ := Qk r30
   refine qv (fun W hm => Qz (cs := [.int .i64 ((gt x0 k13).Query.Id), .int .i64 ((gt x0 k13).Query.Tenant), .slice A33 ((gt x0 k13).Query.Conds).length c34, .slice A38 ((gt x0 k13).Query.Out).length c39, .int .i64 ((gt x0 k13).Time), .slice A43 ((gt x0 k13).Todo).length c44, .int .i64 ((gt x0 k13).Age), .int .i64 ((gt x0 k13).Sent), .int .i64 ((gt x0 k13).Cap), .slice A48 ((gt x0 k13).Rows).length c49]) Qbu Qcs rfl rfl (hm.elCells (show (a19.add (k13 * 10)).block < w.heap.size from by rw [Qah]; exact hb20.1) hc22)) ?_
   refine qm (qm ?_)
   obtain ⟨a52, rfl, hb53, he54⟩ := q9 (by omega)
   refine qv (vix 10 k13 Qcj Qcs) ?_
   obtain ⟨_, e64, hc55⟩ := he54 k13 _ (Qca (show k13 < x1.length from by omega))
   obtain ⟨v56, v58, v60, v62, rfl, r57, r59, r61, r63⟩ := Qhz e64
   obtain ⟨m65, A66, c67, rfl, q68, r69⟩ := Qk r57
   obtain ⟨m70, A71, c72, rfl, q73, r74⟩ := Qk r59
   obtain ⟨m75, A76, c77, rfl, q78, r79⟩ := Qk r61
   obtain ⟨m80, A81, c82, rfl, q83, r84⟩ := Qk r63
   refine qv (fun W hm => Qz (cs := [.int .i64 ((gt x1 k13).Query.Id), .int .i64 ((gt x1 k13).Query.Tenant), .slice A66 ((gt x1 k13).Query.Conds).length c67, .slice A71 ((gt x1 k13).Query.Out).length c72, .int .i64 ((gt x1 k13).Time), .slice A76 ((gt x1 k13).Todo).length c77, .int .i64 ((gt x1 k13).Age), .int .i64 ((gt x1 k13).Sent), .int .i64 ((gt x1 k13).Cap), .slice A81 ((gt x1 k13).Rows).length c82]) Qbu Qcs rfl rfl (hm.elCells (show (a52.add (k13 * 10)).block < w.heap.size from by rw [Qah]; exact hb53.1) hc55)) ?_
   refine Qfu (Qr Qagw rfl) (fun W hm => Qals W _ (gt x0 k13) _ (gt x1 k13) (Qqu (x := (gt x0 k13)) (hm.rdS0 r36) (hm.rdS0 r41) (hm.rdS0 r46) (hm.rdS0 r51)) (Qqu (x := (gt x1 k13)) (hm.rdS0 r69) (hm.rdS0 r74) (hm.rdS0 r79) (hm.rdS0 r84))) (Qo rfl) (by decide) ?_
   refine qv Qbr ?_
   refine nq' ?_
   rcases Bool.eq_false_or_eq_true (Qpp (gt x0 k13) (gt x1 k13)) with g86 | g86
   ·
    refine Qp rfl (nt g86) ?_
    refine Qq (Qax (Qi (Qad (wm ?_))))
    refine wv (Qbd k13 1 (by omega)) ?_
    refine wa (Qal ?_)
    have hn87 := Qbb (R := Bool) (body := F1) (k := k13) (s := ()) (s' := ()) (show k13 < x0.length from by omega) (Qb g86 (rfl)) hF15
    exact Qaz (k13 + 1, (), ()) sl3 (fun W hm => hm) ⟨(by omega), hn87⟩ (rl (by omega))
   refine Ql rfl (nf g86) ?_
   refine sr (wa (nt' (Qj (Qy (Qe (Qe (Qy (Qe ?_))))))))
   exact rtb (h := Qc g12 (Qba (Qbc (body := F1) (k := k13) (s := ()) (show k13 < x0.length from by omega) (Qc g86 (rfl)) hF15) rfl))
  have g18 := dlF hl17
  refine Qp rfl g18 ?_
  refine Qbk (Qac (Qac ?_))
  have hE88 : R2 (x0.length - 0) 0 () = Sum.inr () := Qbn hl17 hF15
  refine Qbm (Qi (sr (wa (nt' (Qj ?_)))))
  exact rtb (h := Qc g12 (Qat hE88 (rfl)))
 have g12 : (((x0.length : Nat) : Int) != ((x1.length : Nat) : Int)) = true := bne_iff_ne.2 h11
 refine Ql rfl g12 ?_
 refine sr (wa (nt' (Qj (Qe ?_))))
 exact rtb (h := Qb g12 (rfl))

def Qpv (x0 : Qbg) (x1 : Qbg) : Bool :=
 cond (Qmx x0.Query x1.Query) (cond (x0.Time != x1.Time) false (cond (x0.Steps != x1.Steps) false (cond (Qmy x0.Rows x1.Rows) true false))) false
theorem cb18 : Cb Tryz.prog 18 := ⟨f18, _, func18, rfl, by decide⟩
theorem Qame (w : World) (z0 : List Value) (x0 : Qbg) (z1 : List Value) (x1 : Qbg) (r_0 : Qce.rd w w.heap.size z0 x0) (r_1 : Qce.rd w w.heap.size z1 x1) :
  Calls Tryz.prog 18 #[.agg z0.toArray, .agg z1.toArray] w fun e w' => e = .returned (.bool (Qpv x0 x1)) ∧ Below w.heap.size w w' := by
 obtain ⟨v1, v3, v5, rfl, r2, r4, r6⟩ := Qkj r_0
 obtain ⟨m7, A8, c9, rfl, q10, r11⟩ := Qk r2
 obtain ⟨m12, A13, c14, rfl, q15, r16⟩ := Qk r4
 obtain ⟨m17, A18, c19, rfl, q20, r21⟩ := Qk r6
 obtain ⟨v22, v24, v26, rfl, r23, r25, r27⟩ := Qkj r_1
 obtain ⟨m28, A29, c30, rfl, q31, r32⟩ := Qk r23
 obtain ⟨m33, A34, c35, rfl, q36, r37⟩ := Qk r25
 obtain ⟨m38, A39, c40, rfl, q41, r42⟩ := Qk r27
 refine ce2 (L := [(0, .agg #[.int .i64 x0.Query.Id, .int .i64 x0.Query.Tenant, .slice A8 x0.Query.Conds.length c9, .slice A13 x0.Query.Out.length c14, .int .i64 x0.Time, .int .i64 x0.Steps, .slice A18 x0.Rows.length c19]), (1, .agg #[.int .i64 x1.Query.Id, .int .i64 x1.Query.Tenant, .slice A29 x1.Query.Conds.length c30, .slice A34 x1.Query.Out.length c35, .int .i64 x1.Time, .int .i64 x1.Steps, .slice A39 x1.Rows.length c40])]) (N := 27) func18 ?_
 refine sr ?_
 refine Qbj rfl (Qo rfl) (by decide) (fun p43 => ?_)
 refine Qbj rfl (Qo rfl) (by decide) (fun p44 => ?_)
 refine wa (nt' (Qf (sr ?_)))
 refine wv (vf Qdh rfl Qcl) ?_
 refine wv (fun W hm => Qz (cs := [.int .i64 x0.Query.Id, .int .i64 x0.Query.Tenant, .slice A8 x0.Query.Conds.length c9, .slice A13 x0.Query.Out.length c14]) Qch Qcl rfl rfl (hm.boxPart (n := 1) rfl rfl)) ?_
 refine wv (vf Qdh rfl Qcl) ?_
 refine wv (fun W hm => Qz (cs := [.int .i64 x1.Query.Id, .int .i64 x1.Query.Tenant, .slice A29 x1.Query.Conds.length c30, .slice A34 x1.Query.Out.length c35]) Qch Qcl rfl rfl (hm.boxPart (n := 0) rfl rfl)) ?_
 refine wcv (Qr Qzb rfl) (fun W hm => Qaag W _ x0.Query _ x1.Query (Qjb (x := x0.Query) (hm.rdS0 r11) (hm.rdS0 r16)) (Qjb (x := x1.Query) (hm.rdS0 r32) (hm.rdS0 r37))) ?_
 refine wv Qbr ?_
 refine nt' ?_
 rcases Bool.eq_false_or_eq_true (Qmx x0.Query x1.Query) with g46 | g46
 ·
  refine Qp rfl (nt g46) ?_
  refine Qq (Qi (Qf (sr ?_)))
  refine wv (vf Qdh rfl Qh) ?_
  refine wv (vl 1 4 Qt) ?_
  refine wv (vf Qdh rfl Qh) ?_
  refine wv (vl 0 4 Qt) ?_
  refine wv Qcf ?_
  refine nt' ?_
  by_cases h47 : x0.Time = x1.Time
  ·have g48 : (x0.Time != x1.Time) = false := by rw [h47]; exact bne_self_eq_false _
   refine Qp rfl g48 ?_
   refine Qq (Qi (Qf (sr ?_)))
   refine wv (vf Qdh rfl Qh) ?_
   refine wv (vl 1 5 Qt) ?_
   refine wv (vf Qdh rfl Qh) ?_
   refine wv (vl 0 5 Qt) ?_
   refine wv Qcf ?_
   refine nt' ?_
   by_cases h49 : x0.Steps = x1.Steps
   ·have g50 : (x0.Steps != x1.Steps) = false := by rw [h49]; exact bne_self_eq_false _
    refine Qp rfl g50 ?_
    refine Qq (Qi (Qf (sr ?_)))
    refine wv (vf Qdh rfl Qfa) ?_
    refine wv (vl 1 6 Qdv) ?_
    refine wv (vf Qdh rfl Qfa) ?_
    refine wv (vl 0 6 Qdv) ?_
    refine wcv (Qr Qzc rfl) (fun W hm => Qaai W _ x0.Rows _ x1.Rows (hm.rdS0 r21) (hm.rdS0 r42)) ?_
    refine wv Qbr ?_
    refine nt' ?_
    rcases Bool.eq_false_or_eq_true (Qmy x0.Rows x1.Rows) with g52 | g52
    ·
     refine Qp rfl (nt g52) ?_
     refine Qq (Qi (sr (wa (nt' (Qj ?_)))))
     exact rtb (h := Qb g46 (Qc g48 (Qc g50 (Qb g52 (rfl)))))
    refine Ql rfl (nf g52) ?_
    refine sr (wa (nt' (Qj (Qe ?_))))
    exact rtb (h := Qb g46 (Qc g48 (Qc g50 (Qc g52 (rfl)))))
   have g50 : (x0.Steps != x1.Steps) = true := bne_iff_ne.2 h49
   refine Ql rfl g50 ?_
   refine sr (wa (nt' (Qj (Qe ?_))))
   exact rtb (h := Qb g46 (Qc g48 (Qb g50 (rfl))))
  have g48 : (x0.Time != x1.Time) = true := bne_iff_ne.2 h47
  refine Ql rfl g48 ?_
  refine sr (wa (nt' (Qj (Qe ?_))))
  exact rtb (h := Qb g46 (Qb g48 (rfl)))
 refine Ql rfl (nf g46) ?_
 refine sr (wa (nt' (Qj (Qe ?_))))
 exact rtb (h := Qc g46 (rfl))

def Qut (x0 : (List Qbg)) (x1 : (List Qbg)) (k13 : Nat) : Bool ⊕ (Unit) :=
 cond (Qpv (gt x0 k13) (gt x1 k13)) (Sum.inr ()) (Sum.inl false)
def Qpu (x0 : (List Qbg)) (x1 : (List Qbg)) : Bool :=
 cond (((x0.length : Nat) : Int) != ((x1.length : Nat) : Int)) false (Sum.elim id (fun (s : Unit) => true) (rng (R := Bool) (fun k (_ : Unit) => Qut x0 x1 k) (x0.length - 0) 0 ()))
theorem cb90 : Cb Tryz.prog 90 := ⟨f90, _, func90, rfl, by decide⟩
theorem Qamc (w : World) (z0 : Value) (x0 : (List Qbg)) (z1 : Value) (x1 : (List Qbg)) (r_0 : rdS Qce w w.heap.size z0 x0) (r_1 : rdS Qce w w.heap.size z1 x1) :
  Calls Tryz.prog 90 #[z0, z1] w fun e w' => e = .returned (.bool (Qpu x0 x1)) ∧ Below w.heap.size w w' := by
 obtain ⟨m1, A2, c3, rfl, q4, r5⟩ := Qk r_0
 obtain ⟨m6, A7, c8, rfl, q9, r10⟩ := Qk r_1
 refine ce2 (L := [(0, .slice A2 x0.length c3), (1, .slice A7 x1.length c8)]) (N := 27) func90 ?_
 refine sr (wa (nt' (Qf (sr (wm ?_)))))
 refine wv (Qai Qdn) ?_
 refine wm ?_
 refine wv (Qai Qdn) ?_
 refine wv Qcf ?_
 refine nt' ?_
 by_cases h11 : ((x0.length : Nat) : Int) = ((x1.length : Nat) : Int)
 ·have g12 : (((x0.length : Nat) : Int) != ((x1.length : Nat) : Int)) = false := by rw [h11]; exact bne_self_eq_false _
  refine Qp rfl g12 ?_
  refine Qq (Qi (Qf (sr (wa (nt' (Qab ?_))))))
  let F1 := fun k (_ : Unit) => Qut x0 x1 k
  let R2 := rng (R := Bool) F1
  refine Qbl (σ := Nat × (Unit) × (Unit)) (fun s => [(0, .slice A2 x0.length c3), (1, .slice A7 x1.length c8), (5, .int .i64 ((s.1 : Nat) : Int))]) (fun s => []) (fun s => s.1 ≤ x0.length ∧ R2 (x0.length - s.1) s.1 s.2.1 = R2 (x0.length - 0) 0 ()) (fun s => x0.length - s.1) (0, (), ()) sl3 (fun W hm => hm) ⟨(by omega), rfl⟩ ?_
  rintro ⟨k13, ⟨⟩, ⟨⟩⟩ H16
  obtain ⟨hk14, hF15⟩ : k13 ≤ x0.length ∧ R2 (x0.length - k13) k13 () = R2 (x0.length - 0) 0 () := H16
  show CM Tryz.prog 27 _ _ _ _ [(0, .slice A2 x0.length c3), (1, .slice A7 x1.length c8), (5, .int .i64 ((k13 : Nat) : Int))] []
  refine Qf (sr (wm (wm ?_)))
  refine wv (Qai Qdn) ?_
  refine wv Qak ?_
  refine nt' ?_
  by_cases hl17 : k13 < x0.length
  ·have g18 := dlT hl17
   refine Ql rfl g18 ?_
   refine Qq (Qi (Qf (Qab (Qf ?_))))
   refine Qge (by kernel_rfl) (by kernel_rfl) ?_
   refine qm (qm ?_)
   obtain ⟨a19, rfl, hb20, he21⟩ := q4 (by omega)
   refine qv (vix 7 k13 Qdn Qdl) ?_
   obtain ⟨_, e29, hc22⟩ := he21 k13 _ (Qca (show k13 < x0.length from by omega))
   obtain ⟨v23, v25, v27, rfl, r24, r26, r28⟩ := Qkj e29
   obtain ⟨m30, A31, c32, rfl, q33, r34⟩ := Qk r24
   obtain ⟨m35, A36, c37, rfl, q38, r39⟩ := Qk r26
   obtain ⟨m40, A41, c42, rfl, q43, r44⟩ := Qk r28
   refine qv (fun W hm => Qz (cs := [.int .i64 ((gt x0 k13).Query.Id), .int .i64 ((gt x0 k13).Query.Tenant), .slice A31 ((gt x0 k13).Query.Conds).length c32, .slice A36 ((gt x0 k13).Query.Out).length c37, .int .i64 ((gt x0 k13).Time), .int .i64 ((gt x0 k13).Steps), .slice A41 ((gt x0 k13).Rows).length c42]) Qdh Qdl rfl rfl (hm.elCells (show (a19.add (k13 * 7)).block < w.heap.size from by rw [Qah]; exact hb20.1) hc22)) ?_
   refine qm (qm ?_)
   obtain ⟨a45, rfl, hb46, he47⟩ := q9 (by omega)
   refine qv (vix 7 k13 Qdn Qdl) ?_
   obtain ⟨_, e55, hc48⟩ := he47 k13 _ (Qca (show k13 < x1.length from by omega))
   obtain ⟨v49, v51, v53, rfl, r50, r52, r54⟩ := Qkj e55
   obtain ⟨m56, A57, c58, rfl, q59, r60⟩ := Qk r50
   obtain ⟨m61, A62, c63, rfl, q64, r65⟩ := Qk r52
   obtain ⟨m66, A67, c68, rfl, q69, r70⟩ := Qk r54
   refine qv (fun W hm => Qz (cs := [.int .i64 ((gt x1 k13).Query.Id), .int .i64 ((gt x1 k13).Query.Tenant), .slice A57 ((gt x1 k13).Query.Conds).length c58, .slice A62 ((gt x1 k13).Query.Out).length c63, .int .i64 ((gt x1 k13).Time), .int .i64 ((gt x1 k13).Steps), .slice A67 ((gt x1 k13).Rows).length c68]) Qdh Qdl rfl rfl (hm.elCells (show (a45.add (k13 * 7)).block < w.heap.size from by rw [Qah]; exact hb46.1) hc48)) ?_
   refine Qfu (Qr cb18 rfl) (fun W hm => Qame W _ (gt x0 k13) _ (gt x1 k13) (Qxa (x := (gt x0 k13)) (hm.rdS0 r34) (hm.rdS0 r39) (hm.rdS0 r44)) (Qxa (x := (gt x1 k13)) (hm.rdS0 r60) (hm.rdS0 r65) (hm.rdS0 r70))) (Qo rfl) (by decide) ?_
   refine qv Qbr ?_
   refine nq' ?_
   rcases Bool.eq_false_or_eq_true (Qpv (gt x0 k13) (gt x1 k13)) with g72 | g72
   ·
    refine Qp rfl (nt g72) ?_
    refine Qq (Qax (Qi (Qad (wm ?_))))
    refine wv (Qbd k13 1 (by omega)) ?_
    refine wa (Qal ?_)
    have hn73 := Qbb (R := Bool) (body := F1) (k := k13) (s := ()) (s' := ()) (show k13 < x0.length from by omega) (Qb g72 (rfl)) hF15
    exact Qaz (k13 + 1, (), ()) sl3 (fun W hm => hm) ⟨(by omega), hn73⟩ (rl (by omega))
   refine Ql rfl (nf g72) ?_
   refine sr (wa (nt' (Qj (Qy (Qe (Qe (Qy (Qe ?_))))))))
   exact rtb (h := Qc g12 (Qba (Qbc (body := F1) (k := k13) (s := ()) (show k13 < x0.length from by omega) (Qc g72 (rfl)) hF15) rfl))
  have g18 := dlF hl17
  refine Qp rfl g18 ?_
  refine Qbk (Qac (Qac ?_))
  have hE74 : R2 (x0.length - 0) 0 () = Sum.inr () := Qbn hl17 hF15
  refine Qbm (Qi (sr (wa (nt' (Qj ?_)))))
  exact rtb (h := Qc g12 (Qat hE74 (rfl)))
 have g12 : (((x0.length : Nat) : Int) != ((x1.length : Nat) : Int)) = true := bne_iff_ne.2 h11
 refine Ql rfl g12 ?_
 refine sr (wa (nt' (Qj (Qe ?_))))
 exact rtb (h := Qb g12 (rfl))

def Qpr (x0 : Qay) (x1 : Qay) : Bool :=
 cond (x0.Segment != x1.Segment) false (cond (x0.Base != x1.Base) false (cond (Qgm x0.Ids x1.Ids) (cond (Qgm x0.Tenants x1.Tenants) (cond (Qgm x0.Rows x1.Rows) true false) false) false))
theorem Qagx : Cb Tryz.prog 169 := ⟨f169, _, func169, rfl, by decide⟩
theorem Qalw (w : World) (z0 : List Value) (x0 : Qay) (z1 : List Value) (x1 : Qay) (r_0 : Qbx.rd w w.heap.size z0 x0) (r_1 : Qbx.rd w w.heap.size z1 x1) :
  Calls Tryz.prog 169 #[.agg z0.toArray, .agg z1.toArray] w fun e w' => e = .returned (.bool (Qpr x0 x1)) ∧ Below w.heap.size w w' := by
 obtain ⟨v1, v3, v5, rfl, r2, r4, r6⟩ := Qik r_0
 obtain ⟨m7, A8, c9, rfl, q10, r11⟩ := Qk r2
 obtain ⟨m12, A13, c14, rfl, q15, r16⟩ := Qk r4
 obtain ⟨m17, A18, c19, rfl, q20, r21⟩ := Qk r6
 obtain ⟨v22, v24, v26, rfl, r23, r25, r27⟩ := Qik r_1
 obtain ⟨m28, A29, c30, rfl, q31, r32⟩ := Qk r23
 obtain ⟨m33, A34, c35, rfl, q36, r37⟩ := Qk r25
 obtain ⟨m38, A39, c40, rfl, q41, r42⟩ := Qk r27
 refine ce2 (L := [(0, .agg #[.int .i64 x0.Segment, .int .i64 x0.Base, .slice A8 x0.Ids.length c9, .slice A13 x0.Tenants.length c14, .slice A18 x0.Rows.length c19]), (1, .agg #[.int .i64 x1.Segment, .int .i64 x1.Base, .slice A29 x1.Ids.length c30, .slice A34 x1.Tenants.length c35, .slice A39 x1.Rows.length c40])]) (N := 33) func169 ?_
 refine sr ?_
 refine Qbj rfl (Qo rfl) (by decide) (fun p43 => ?_)
 refine Qbj rfl (Qo rfl) (by decide) (fun p44 => ?_)
 refine wa (nt' (Qf (sr ?_)))
 refine wv (vf Qcm rfl Qh) ?_
 refine wv (vl 1 0 Qt) ?_
 refine wv (vf Qcm rfl Qh) ?_
 refine wv (vl 0 0 Qt) ?_
 refine wv Qcf ?_
 refine nt' ?_
 by_cases h45 : x0.Segment = x1.Segment
 ·have g46 : (x0.Segment != x1.Segment) = false := by rw [h45]; exact bne_self_eq_false _
  refine Qp rfl g46 ?_
  refine Qq (Qi (Qf (sr ?_)))
  refine wv (vf Qcm rfl Qh) ?_
  refine wv (vl 1 1 Qt) ?_
  refine wv (vf Qcm rfl Qh) ?_
  refine wv (vl 0 1 Qt) ?_
  refine wv Qcf ?_
  refine nt' ?_
  by_cases h47 : x0.Base = x1.Base
  ·have g48 : (x0.Base != x1.Base) = false := by rw [h47]; exact bne_self_eq_false _
   refine Qp rfl g48 ?_
   refine Qq (Qi (Qf (sr ?_)))
   refine wv (vf Qcm rfl Qap) ?_
   refine wv (vl 1 2 Qv) ?_
   refine wv (vf Qcm rfl Qap) ?_
   refine wv (vl 0 2 Qv) ?_
   refine wcv (Qr Qlm rfl) (fun W hm => Qlu W _ x0.Ids _ x1.Ids (hm.rdS0 r11) (hm.rdS0 r32)) ?_
   refine wv Qbr ?_
   refine nt' ?_
   rcases Bool.eq_false_or_eq_true (Qgm x0.Ids x1.Ids) with g50 | g50
   ·
    refine Qp rfl (nt g50) ?_
    refine Qq (Qi (Qf (sr ?_)))
    refine wv (vf Qcm rfl Qap) ?_
    refine wv (vl 1 3 Qv) ?_
    refine wv (vf Qcm rfl Qap) ?_
    refine wv (vl 0 3 Qv) ?_
    refine wcv (Qr Qlm rfl) (fun W hm => Qlu W _ x0.Tenants _ x1.Tenants (hm.rdS0 r16) (hm.rdS0 r37)) ?_
    refine wv Qbr ?_
    refine nt' ?_
    rcases Bool.eq_false_or_eq_true (Qgm x0.Tenants x1.Tenants) with g52 | g52
    ·
     refine Qp rfl (nt g52) ?_
     refine Qq (Qi (Qf (sr ?_)))
     refine wv (vf Qcm rfl Qap) ?_
     refine wv (vl 1 4 Qv) ?_
     refine wv (vf Qcm rfl Qap) ?_
     refine wv (vl 0 4 Qv) ?_
     refine wcv (Qr Qlm rfl) (fun W hm => Qlu W _ x0.Rows _ x1.Rows (hm.rdS0 r21) (hm.rdS0 r42)) ?_
     refine wv Qbr ?_
     refine nt' ?_
     rcases Bool.eq_false_or_eq_true (Qgm x0.Rows x1.Rows) with g54 | g54
     ·
      refine Qp rfl (nt g54) ?_
      refine Qq (Qi (sr (wa (nt' (Qj ?_)))))
      exact rtb (h := Qc g46 (Qc g48 (Qb g50 (Qb g52 (Qb g54 (rfl))))))
     refine Ql rfl (nf g54) ?_
     refine sr (wa (nt' (Qj (Qe ?_))))
     exact rtb (h := Qc g46 (Qc g48 (Qb g50 (Qb g52 (Qc g54 (rfl))))))
    refine Ql rfl (nf g52) ?_
    refine sr (wa (nt' (Qj (Qe ?_))))
    exact rtb (h := Qc g46 (Qc g48 (Qb g50 (Qc g52 (rfl)))))
   refine Ql rfl (nf g50) ?_
   refine sr (wa (nt' (Qj (Qe ?_))))
   exact rtb (h := Qc g46 (Qc g48 (Qc g50 (rfl))))
  have g48 : (x0.Base != x1.Base) = true := bne_iff_ne.2 h47
  refine Ql rfl g48 ?_
  refine sr (wa (nt' (Qj (Qe ?_))))
  exact rtb (h := Qc g46 (Qb g48 (rfl)))
 have g46 : (x0.Segment != x1.Segment) = true := bne_iff_ne.2 h45
 refine Ql rfl g46 ?_
 refine sr (wa (nt' (Qj (Qe ?_))))
 exact rtb (h := Qb g46 (rfl))

def Qur (x0 : (List Qay)) (x1 : (List Qay)) (k13 : Nat) : Bool ⊕ (Unit) :=
 cond (Qpr (gt x0 k13) (gt x1 k13)) (Sum.inr ()) (Sum.inl false)
def Qpq (x0 : (List Qay)) (x1 : (List Qay)) : Bool :=
 cond (((x0.length : Nat) : Int) != ((x1.length : Nat) : Int)) false (Sum.elim id (fun (s : Unit) => true) (rng (R := Bool) (fun k (_ : Unit) => Qur x0 x1 k) (x0.length - 0) 0 ()))
theorem cb91 : Cb Tryz.prog 91 := ⟨f91, _, func91, rfl, by decide⟩
theorem Qalu (w : World) (z0 : Value) (x0 : (List Qay)) (z1 : Value) (x1 : (List Qay)) (r_0 : rdS Qbx w w.heap.size z0 x0) (r_1 : rdS Qbx w w.heap.size z1 x1) :
  Calls Tryz.prog 91 #[z0, z1] w fun e w' => e = .returned (.bool (Qpq x0 x1)) ∧ Below w.heap.size w w' := by
 obtain ⟨m1, A2, c3, rfl, q4, r5⟩ := Qk r_0
 obtain ⟨m6, A7, c8, rfl, q9, r10⟩ := Qk r_1
 refine ce2 (L := [(0, .slice A2 x0.length c3), (1, .slice A7 x1.length c8)]) (N := 27) func91 ?_
 refine sr (wa (nt' (Qf (sr (wm ?_)))))
 refine wv (Qai Qdt) ?_
 refine wm ?_
 refine wv (Qai Qdt) ?_
 refine wv Qcf ?_
 refine nt' ?_
 by_cases h11 : ((x0.length : Nat) : Int) = ((x1.length : Nat) : Int)
 ·have g12 : (((x0.length : Nat) : Int) != ((x1.length : Nat) : Int)) = false := by rw [h11]; exact bne_self_eq_false _
  refine Qp rfl g12 ?_
  refine Qq (Qi (Qf (sr (wa (nt' (Qab ?_))))))
  let F1 := fun k (_ : Unit) => Qur x0 x1 k
  let R2 := rng (R := Bool) F1
  refine Qbl (σ := Nat × (Unit) × (Unit)) (fun s => [(0, .slice A2 x0.length c3), (1, .slice A7 x1.length c8), (5, .int .i64 ((s.1 : Nat) : Int))]) (fun s => []) (fun s => s.1 ≤ x0.length ∧ R2 (x0.length - s.1) s.1 s.2.1 = R2 (x0.length - 0) 0 ()) (fun s => x0.length - s.1) (0, (), ()) sl3 (fun W hm => hm) ⟨(by omega), rfl⟩ ?_
  rintro ⟨k13, ⟨⟩, ⟨⟩⟩ H16
  obtain ⟨hk14, hF15⟩ : k13 ≤ x0.length ∧ R2 (x0.length - k13) k13 () = R2 (x0.length - 0) 0 () := H16
  show CM Tryz.prog 27 _ _ _ _ [(0, .slice A2 x0.length c3), (1, .slice A7 x1.length c8), (5, .int .i64 ((k13 : Nat) : Int))] []
  refine Qf (sr (wm (wm ?_)))
  refine wv (Qai Qdt) ?_
  refine wv Qak ?_
  refine nt' ?_
  by_cases hl17 : k13 < x0.length
  ·have g18 := dlT hl17
   refine Ql rfl g18 ?_
   refine Qq (Qi (Qf (Qab (Qf ?_))))
   refine Qge (by kernel_rfl) (by kernel_rfl) ?_
   refine qm (qm ?_)
   obtain ⟨a19, rfl, hb20, he21⟩ := q4 (by omega)
   refine qv (vix 5 k13 Qdt Qdr) ?_
   obtain ⟨_, e29, hc22⟩ := he21 k13 _ (Qca (show k13 < x0.length from by omega))
   obtain ⟨v23, v25, v27, rfl, r24, r26, r28⟩ := Qik e29
   obtain ⟨m30, A31, c32, rfl, q33, r34⟩ := Qk r24
   obtain ⟨m35, A36, c37, rfl, q38, r39⟩ := Qk r26
   obtain ⟨m40, A41, c42, rfl, q43, r44⟩ := Qk r28
   refine qv (fun W hm => Qz (cs := [.int .i64 ((gt x0 k13).Segment), .int .i64 ((gt x0 k13).Base), .slice A31 ((gt x0 k13).Ids).length c32, .slice A36 ((gt x0 k13).Tenants).length c37, .slice A41 ((gt x0 k13).Rows).length c42]) Qcm Qdr rfl rfl (hm.elCells (show (a19.add (k13 * 5)).block < w.heap.size from by rw [Qah]; exact hb20.1) hc22)) ?_
   refine qm (qm ?_)
   obtain ⟨a45, rfl, hb46, he47⟩ := q9 (by omega)
   refine qv (vix 5 k13 Qdt Qdr) ?_
   obtain ⟨_, e55, hc48⟩ := he47 k13 _ (Qca (show k13 < x1.length from by omega))
   obtain ⟨v49, v51, v53, rfl, r50, r52, r54⟩ := Qik e55
   obtain ⟨m56, A57, c58, rfl, q59, r60⟩ := Qk r50
   obtain ⟨m61, A62, c63, rfl, q64, r65⟩ := Qk r52
   obtain ⟨m66, A67, c68, rfl, q69, r70⟩ := Qk r54
   refine qv (fun W hm => Qz (cs := [.int .i64 ((gt x1 k13).Segment), .int .i64 ((gt x1 k13).Base), .slice A57 ((gt x1 k13).Ids).length c58, .slice A62 ((gt x1 k13).Tenants).length c63, .slice A67 ((gt x1 k13).Rows).length c68]) Qcm Qdr rfl rfl (hm.elCells (show (a45.add (k13 * 5)).block < w.heap.size from by rw [Qah]; exact hb46.1) hc48)) ?_
   refine Qfu (Qr Qagx rfl) (fun W hm => Qalw W _ (gt x0 k13) _ (gt x1 k13) (Qoy (x := (gt x0 k13)) (hm.rdS0 r34) (hm.rdS0 r39) (hm.rdS0 r44)) (Qoy (x := (gt x1 k13)) (hm.rdS0 r60) (hm.rdS0 r65) (hm.rdS0 r70))) (Qo rfl) (by decide) ?_
   refine qv Qbr ?_
   refine nq' ?_
   rcases Bool.eq_false_or_eq_true (Qpr (gt x0 k13) (gt x1 k13)) with g72 | g72
   ·
    refine Qp rfl (nt g72) ?_
    refine Qq (Qax (Qi (Qad (wm ?_))))
    refine wv (Qbd k13 1 (by omega)) ?_
    refine wa (Qal ?_)
    have hn73 := Qbb (R := Bool) (body := F1) (k := k13) (s := ()) (s' := ()) (show k13 < x0.length from by omega) (Qb g72 (rfl)) hF15
    exact Qaz (k13 + 1, (), ()) sl3 (fun W hm => hm) ⟨(by omega), hn73⟩ (rl (by omega))
   refine Ql rfl (nf g72) ?_
   refine sr (wa (nt' (Qj (Qy (Qe (Qe (Qy (Qe ?_))))))))
   exact rtb (h := Qc g12 (Qba (Qbc (body := F1) (k := k13) (s := ()) (show k13 < x0.length from by omega) (Qc g72 (rfl)) hF15) rfl))
  have g18 := dlF hl17
  refine Qp rfl g18 ?_
  refine Qbk (Qac (Qac ?_))
  have hE74 : R2 (x0.length - 0) 0 () = Sum.inr () := Qbn hl17 hF15
  refine Qbm (Qi (sr (wa (nt' (Qj ?_)))))
  exact rtb (h := Qc g12 (Qat hE74 (rfl)))
 have g12 : (((x0.length : Nat) : Int) != ((x1.length : Nat) : Int)) = true := bne_iff_ne.2 h11
 refine Ql rfl g12 ?_
 refine sr (wa (nt' (Qj (Qe ?_))))
 exact rtb (h := Qb g12 (rfl))

def Qkp (x0 : Qag) (x1 : Qag) : Bool :=
 cond (Qpw x0.Store x1.Store) (cond (x0.Cursor != x1.Cursor) false (cond (Qgm x0.Order x1.Order) (cond (Qpo x0.Active x1.Active) (cond (Qpu x0.Done x1.Done) (cond (Qpq x0.Ledger x1.Ledger) (cond (x0.Steps != x1.Steps) false true) false) false) false) false)) false
theorem Qrb : Cb Tryz.prog 19 := ⟨f19, _, func19, rfl, by decide⟩
theorem Qrw (w : World) (z0 : List Value) (x0 : Qag) (z1 : List Value) (x1 : Qag) (r_0 : Qdd.rd w w.heap.size z0 x0) (r_1 : Qdd.rd w w.heap.size z1 x1) :
  Calls Tryz.prog 19 #[.agg z0.toArray, .agg z1.toArray] w fun e w' => e = .returned (.bool (Qkp x0 x1)) ∧ Below w.heap.size w w' := by
 obtain ⟨v1, v3, v5, v7, v9, rfl, r2, r4, r6, r8, r10⟩ := Qki r_0
 obtain ⟨m11, A12, c13, rfl, q14, r15⟩ := Qk r2
 obtain ⟨m16, A17, c18, rfl, q19, r20⟩ := Qk r4
 obtain ⟨m21, A22, c23, rfl, q24, r25⟩ := Qk r6
 obtain ⟨m26, A27, c28, rfl, q29, r30⟩ := Qk r8
 obtain ⟨m31, A32, c33, rfl, q34, r35⟩ := Qk r10
 obtain ⟨v36, v38, v40, v42, v44, rfl, r37, r39, r41, r43, r45⟩ := Qki r_1
 obtain ⟨m46, A47, c48, rfl, q49, r50⟩ := Qk r37
 obtain ⟨m51, A52, c53, rfl, q54, r55⟩ := Qk r39
 obtain ⟨m56, A57, c58, rfl, q59, r60⟩ := Qk r41
 obtain ⟨m61, A62, c63, rfl, q64, r65⟩ := Qk r43
 obtain ⟨m66, A67, c68, rfl, q69, r70⟩ := Qk r45
 refine ce2 (L := [(0, .agg #[.slice A12 x0.Store.Segments.length c13, .int .i64 x0.Store.Now, .int .i64 x0.Cursor, .slice A17 x0.Order.length c18, .slice A22 x0.Active.length c23, .slice A27 x0.Done.length c28, .slice A32 x0.Ledger.length c33, .int .i64 x0.Steps]), (1, .agg #[.slice A47 x1.Store.Segments.length c48, .int .i64 x1.Store.Now, .int .i64 x1.Cursor, .slice A52 x1.Order.length c53, .slice A57 x1.Active.length c58, .slice A62 x1.Done.length c63, .slice A67 x1.Ledger.length c68, .int .i64 x1.Steps])]) (N := 45) func19 ?_
 refine sr ?_
 refine Qbj rfl (Qo rfl) (by decide) (fun p71 => ?_)
 refine Qbj rfl (Qo rfl) (by decide) (fun p72 => ?_)
 refine wa (nt' (Qf (sr ?_)))
 refine wv (vf Qaq rfl Qae) ?_
 refine wv (fun W hm => Qz (cs := [.slice A12 x0.Store.Segments.length c13, .int .i64 x0.Store.Now]) Qaf Qae rfl rfl (hm.boxPart (n := 1) rfl rfl)) ?_
 refine wv (vf Qaq rfl Qae) ?_
 refine wv (fun W hm => Qz (cs := [.slice A47 x1.Store.Segments.length c48, .int .i64 x1.Store.Now]) Qaf Qae rfl rfl (hm.boxPart (n := 0) rfl rfl)) ?_
 refine wcv (Qr cb88 rfl) (fun W hm => Qamg W _ x0.Store _ x1.Store (Qeg (x := x0.Store) (hm.rdS0 r15)) (Qeg (x := x1.Store) (hm.rdS0 r50))) ?_
 refine wv Qbr ?_
 refine nt' ?_
 rcases Bool.eq_false_or_eq_true (Qpw x0.Store x1.Store) with g74 | g74
 ·
  refine Qp rfl (nt g74) ?_
  refine Qq (Qi (Qf (sr ?_)))
  refine wv (vf Qaq rfl Qh) ?_
  refine wv (vl 1 2 Qt) ?_
  refine wv (vf Qaq rfl Qh) ?_
  refine wv (vl 0 2 Qt) ?_
  refine wv Qcf ?_
  refine nt' ?_
  by_cases h75 : x0.Cursor = x1.Cursor
  ·have g76 : (x0.Cursor != x1.Cursor) = false := by rw [h75]; exact bne_self_eq_false _
   refine Qp rfl g76 ?_
   refine Qq (Qi (Qf (sr ?_)))
   refine wv (vf Qaq rfl Qap) ?_
   refine wv (vl 1 3 Qv) ?_
   refine wv (vf Qaq rfl Qap) ?_
   refine wv (vl 0 3 Qv) ?_
   refine wcv (Qr Qlm rfl) (fun W hm => Qlu W _ x0.Order _ x1.Order (hm.rdS0 r20) (hm.rdS0 r55)) ?_
   refine wv Qbr ?_
   refine nt' ?_
   rcases Bool.eq_false_or_eq_true (Qgm x0.Order x1.Order) with g78 | g78
   ·
    refine Qp rfl (nt g78) ?_
    refine Qq (Qi (Qf (sr ?_)))
    refine wv (vf Qaq rfl Qfn) ?_
    refine wv (vl 1 4 Qcj) ?_
    refine wv (vf Qaq rfl Qfn) ?_
    refine wv (vl 0 4 Qcj) ?_
    refine wcv (Qr cb89 rfl) (fun W hm => Qalq W _ x0.Active _ x1.Active (hm.rdS0 r25) (hm.rdS0 r60)) ?_
    refine wv Qbr ?_
    refine nt' ?_
    rcases Bool.eq_false_or_eq_true (Qpo x0.Active x1.Active) with g80 | g80
    ·
     refine Qp rfl (nt g80) ?_
     refine Qq (Qi (Qf (sr ?_)))
     refine wv (vf Qaq rfl type44) ?_
     refine wv (vl 1 5 Qdn) ?_
     refine wv (vf Qaq rfl type44) ?_
     refine wv (vl 0 5 Qdn) ?_
     refine wcv (Qr cb90 rfl) (fun W hm => Qamc W _ x0.Done _ x1.Done (hm.rdS0 r30) (hm.rdS0 r65)) ?_
     refine wv Qbr ?_
     refine nt' ?_
     rcases Bool.eq_false_or_eq_true (Qpu x0.Done x1.Done) with g82 | g82
     ·
      refine Qp rfl (nt g82) ?_
      refine Qq (Qi (Qf (sr ?_)))
      refine wv (vf Qaq rfl type45) ?_
      refine wv (vl 1 6 Qdt) ?_
      refine wv (vf Qaq rfl type45) ?_
      refine wv (vl 0 6 Qdt) ?_
      refine wcv (Qr cb91 rfl) (fun W hm => Qalu W _ x0.Ledger _ x1.Ledger (hm.rdS0 r35) (hm.rdS0 r70)) ?_
      refine wv Qbr ?_
      refine nt' ?_
      rcases Bool.eq_false_or_eq_true (Qpq x0.Ledger x1.Ledger) with g84 | g84
      ·
       refine Qp rfl (nt g84) ?_
       refine Qq (Qi (Qf (sr ?_)))
       refine wv (vf Qaq rfl Qh) ?_
       refine wv (vl 1 7 Qt) ?_
       refine wv (vf Qaq rfl Qh) ?_
       refine wv (vl 0 7 Qt) ?_
       refine wv Qcf ?_
       refine nt' ?_
       by_cases h85 : x0.Steps = x1.Steps
       ·have g86 : (x0.Steps != x1.Steps) = false := by rw [h85]; exact bne_self_eq_false _
        refine Qp rfl g86 ?_
        refine Qq (Qi (sr (wa (nt' (Qj ?_)))))
        exact rtb (h := Qb g74 (Qc g76 (Qb g78 (Qb g80 (Qb g82 (Qb g84 (Qc g86 (rfl))))))))
       have g86 : (x0.Steps != x1.Steps) = true := bne_iff_ne.2 h85
       refine Ql rfl g86 ?_
       refine sr (wa (nt' (Qj (Qe ?_))))
       exact rtb (h := Qb g74 (Qc g76 (Qb g78 (Qb g80 (Qb g82 (Qb g84 (Qb g86 (rfl))))))))
      refine Ql rfl (nf g84) ?_
      refine sr (wa (nt' (Qj (Qe ?_))))
      exact rtb (h := Qb g74 (Qc g76 (Qb g78 (Qb g80 (Qb g82 (Qc g84 (rfl)))))))
     refine Ql rfl (nf g82) ?_
     refine sr (wa (nt' (Qj (Qe ?_))))
     exact rtb (h := Qb g74 (Qc g76 (Qb g78 (Qb g80 (Qc g82 (rfl))))))
    refine Ql rfl (nf g80) ?_
    refine sr (wa (nt' (Qj (Qe ?_))))
    exact rtb (h := Qb g74 (Qc g76 (Qb g78 (Qc g80 (rfl)))))
   refine Ql rfl (nf g78) ?_
   refine sr (wa (nt' (Qj (Qe ?_))))
   exact rtb (h := Qb g74 (Qc g76 (Qc g78 (rfl))))
  have g76 : (x0.Cursor != x1.Cursor) = true := bne_iff_ne.2 h75
  refine Ql rfl g76 ?_
  refine sr (wa (nt' (Qj (Qe ?_))))
  exact rtb (h := Qb g74 (Qb g76 (rfl)))
 refine Ql rfl (nf g74) ?_
 refine sr (wa (nt' (Qj (Qe ?_))))
 exact rtb (h := Qc g74 (rfl))

def Qpx (x0 : Qci) (x1 : Qci) : Bool :=
 cond (x0.Kind != x1.Kind) false (cond (Qmz x0.Row x1.Row) (cond (x0.Field != x1.Field) false (cond (x0.Value != x1.Value) false true)) false)
theorem cb58 : Cb Tryz.prog 58 := ⟨f58, _, func58, rfl, by decide⟩
theorem Qami (w : World) (z0 : List Value) (x0 : Qci) (z1 : List Value) (x1 : Qci) (r_0 : Qfi.rd w w.heap.size z0 x0) (r_1 : Qfi.rd w w.heap.size z1 x1) :
  Calls Tryz.prog 58 #[.agg z0.toArray, .agg z1.toArray] w fun e w' => e = .returned (.bool (Qpx x0 x1)) ∧ Below w.heap.size w w' := by
 obtain ⟨v1, rfl, r2⟩ := Qmo r_0
 obtain ⟨m3, A4, c5, rfl, q6, r7⟩ := Qk r2
 obtain ⟨v8, rfl, r9⟩ := Qmo r_1
 obtain ⟨m10, A11, c12, rfl, q13, r14⟩ := Qk r9
 refine ce2 (L := [(0, .agg #[.int .i64 x0.Kind, .int .i64 x0.Row.Id, .slice A4 x0.Row.Values.length c5, .int .i64 x0.Field, .int .i64 x0.Value]), (1, .agg #[.int .i64 x1.Kind, .int .i64 x1.Row.Id, .slice A11 x1.Row.Values.length c12, .int .i64 x1.Field, .int .i64 x1.Value])]) (N := 26) func58 ?_
 refine sr ?_
 refine Qbj rfl (Qo rfl) (by decide) (fun p15 => ?_)
 refine Qbj rfl (Qo rfl) (by decide) (fun p16 => ?_)
 refine wa (nt' (Qf (sr ?_)))
 refine wv (vf Qbs rfl Qh) ?_
 refine wv (vl 1 0 Qt) ?_
 refine wv (vf Qbs rfl Qh) ?_
 refine wv (vl 0 0 Qt) ?_
 refine wv Qcf ?_
 refine nt' ?_
 by_cases h17 : x0.Kind = x1.Kind
 ·have g18 : (x0.Kind != x1.Kind) = false := by rw [h17]; exact bne_self_eq_false _
  refine Qp rfl g18 ?_
  refine Qq (Qi (Qf (sr ?_)))
  refine wv (vf Qbs rfl Qcc) ?_
  refine wv (fun W hm => Qz (cs := [.int .i64 x0.Row.Id, .slice A4 x0.Row.Values.length c5]) Qde Qcc rfl rfl (hm.boxPart (n := 1) rfl rfl)) ?_
  refine wv (vf Qbs rfl Qcc) ?_
  refine wv (fun W hm => Qz (cs := [.int .i64 x1.Row.Id, .slice A11 x1.Row.Values.length c12]) Qde Qcc rfl rfl (hm.boxPart (n := 0) rfl rfl)) ?_
  refine wcv (Qr Qyo rfl) (fun W hm => Qaak W _ x0.Row _ x1.Row (Qim (x := x0.Row) (hm.rdS0 r7)) (Qim (x := x1.Row) (hm.rdS0 r14))) ?_
  refine wv Qbr ?_
  refine nt' ?_
  rcases Bool.eq_false_or_eq_true (Qmz x0.Row x1.Row) with g20 | g20
  ·
   refine Qp rfl (nt g20) ?_
   refine Qq (Qi (Qf (sr ?_)))
   refine wv (vf Qbs rfl Qh) ?_
   refine wv (vl 1 3 Qt) ?_
   refine wv (vf Qbs rfl Qh) ?_
   refine wv (vl 0 3 Qt) ?_
   refine wv Qcf ?_
   refine nt' ?_
   by_cases h21 : x0.Field = x1.Field
   ·have g22 : (x0.Field != x1.Field) = false := by rw [h21]; exact bne_self_eq_false _
    refine Qp rfl g22 ?_
    refine Qq (Qi (Qf (sr ?_)))
    refine wv (vf Qbs rfl Qh) ?_
    refine wv (vl 1 4 Qt) ?_
    refine wv (vf Qbs rfl Qh) ?_
    refine wv (vl 0 4 Qt) ?_
    refine wv Qcf ?_
    refine nt' ?_
    by_cases h23 : x0.Value = x1.Value
    ·have g24 : (x0.Value != x1.Value) = false := by rw [h23]; exact bne_self_eq_false _
     refine Qp rfl g24 ?_
     refine Qq (Qi (sr (wa (nt' (Qj ?_)))))
     exact rtb (h := Qc g18 (Qb g20 (Qc g22 (Qc g24 (rfl)))))
    have g24 : (x0.Value != x1.Value) = true := bne_iff_ne.2 h23
    refine Ql rfl g24 ?_
    refine sr (wa (nt' (Qj (Qe ?_))))
    exact rtb (h := Qc g18 (Qb g20 (Qc g22 (Qb g24 (rfl)))))
   have g22 : (x0.Field != x1.Field) = true := bne_iff_ne.2 h21
   refine Ql rfl g22 ?_
   refine sr (wa (nt' (Qj (Qe ?_))))
   exact rtb (h := Qc g18 (Qb g20 (Qb g22 (rfl))))
  refine Ql rfl (nf g20) ?_
  refine sr (wa (nt' (Qj (Qe ?_))))
  exact rtb (h := Qc g18 (Qc g20 (rfl)))
 have g18 : (x0.Kind != x1.Kind) = true := bne_iff_ne.2 h17
 refine Ql rfl g18 ?_
 refine sr (wa (nt' (Qj (Qe ?_))))
 exact rtb (h := Qb g18 (rfl))

def Qvk (k5 : Nat) (s6 : Int) (d7 : (List Int)) : (Int × (List Int)) ⊕ (Int × (List Int)) :=
 Sum.inr ((IntKind.i64.wrap (s6 + 1)), (d7.set k5 s6))
def Qu (x0 : (List Int)) (x1 : Int) : (Int × (List Int)) :=
 Sum.elim id (fun (s : Int × (List Int)) => (s.1, s.2)) (rng (R := (Int × (List Int))) (fun k (s : Int × (List Int)) => Qvk k s.1 s.2) (x0.length - 0) 0 (x1, x0))
theorem Qjw : Cb Tryz.prog 50 := ⟨f50, _, func50, rfl, by decide⟩
theorem Qjz (B : Nat) (w0 : World) (is : List It) (w : World) (z0 : Value) (x0 : (List Int)) (x1 : Int) (hm : Mem B w0 (Qd (tSl Qg 3) [z0] x0 :: is) w) :
  Calls Tryz.prog 50 #[z0, .int .i64 x1] w fun e w' => e = .returned (.int .i64 (Qu x0 x1).1) ∧ Mem B w0 (Qd (tSl Qg 3) [z0] (Qu x0 x1).2 :: is) w' := by
 refine Qhi (L := [(0, z0), (1, .int .i64 x1)]) (N := 19) func50 rfl rfl (Nat.le_of_ble_eq_true rfl) (Qee rfl (Qee rfl Qgl)) hm ?_
 refine Qel (n := 0) rfl ?_
 rintro A1 c2 rfl m3
 refine sr (wa (nt' (Qf (sr (wa (nt' (Qab ?_)))))))
 let F1 := fun k (s : Int × (List Int)) => Qvk k s.1 s.2
 let R2 := rng (R := (Int × (List Int))) F1
 refine Qbl (σ := Nat × (Int × (List Int)) × (Unit)) (fun s => [(0, .slice A1 x0.length c2), (1, .int .i64 s.2.1.1), (5, .int .i64 ((s.1 : Nat) : Int))]) (fun s => (Qd (tSl Qg 3) [.slice A1 x0.length c2] s.2.1.2 :: is)) (fun s => s.1 ≤ x0.length ∧ R2 (x0.length - s.1) s.1 s.2.1 = R2 (x0.length - 0) 0 (x1, x0)) (fun s => x0.length - s.1) (0, (x1, x0), ()) sl3 (fun W hm => hm) ⟨(by omega), rfl⟩ ?_
 rintro ⟨k5, ⟨s6, d7⟩, ⟨⟩⟩ H10
 obtain ⟨hk8, hF9⟩ : k5 ≤ x0.length ∧ R2 (x0.length - k5) k5 (s6, d7) = R2 (x0.length - 0) 0 (x1, x0) := H10
 show CM Tryz.prog 19 _ _ _ _ [(0, .slice A1 x0.length c2), (1, .int .i64 s6), (5, .int .i64 ((k5 : Nat) : Int))] (Qd (tSl Qg 3) [.slice A1 x0.length c2] d7 :: is)
 refine Qf (sr (wm (wm ?_)))
 refine wv (Qai Qv) ?_
 refine wv Qak ?_
 refine nt' ?_
 by_cases hl11 : k5 < x0.length
 ·have g12 := dlT hl11
  refine Ql rfl g12 ?_
  refine Qq (Qi (Qf (Qab (sr (wm (wm (wm ?_)))))))
  refine Qfj (n := 0) rfl (by omega) ?_
  rintro g13 rfl
  refine wv (vix 1 k5 Qv Qh) ?_
  refine Qhh (E := Qg) (e := 3) (u := .int .i64 s6) (k := k5) (p := g13) (n := x0.length) (xs := d7) (eis := []) (js := (is)) (yv := s6) (fun W hm => (hm.front (n := 0) rfl)) (fun _ _ hs => (Sep.nil hs ▸ Qcy)) rfl Qh rfl (by omega) rfl rfl (Qo rfl) ?_
  refine nt' (Qad (wm ?_))
  refine wv Qdq ?_
  refine wa (Qal (Qax (Qi (Qad (wm ?_)))))
  refine wv (Qbd k5 1 (by omega)) ?_
  refine wa (Qal ?_)
  have hn14 := Qbb (R := (Int × (List Int))) (body := F1) (k := k5) (s := (s6, d7)) (s' := ((IntKind.i64.wrap (s6 + 1)), (d7.set k5 s6))) (show k5 < x0.length from by omega) (rfl) hF9
  exact Qaz (k5 + 1, ((IntKind.i64.wrap (s6 + 1)), (d7.set k5 s6)), ()) sl3 (fun W hm => hm) ⟨(by omega), hn14⟩ (rl (by omega))
 have g12 := dlF hl11
 refine Qp rfl g12 ?_
 refine Qbk (Qac (Qac ?_))
 have hE15 : R2 (x0.length - 0) 0 (x1, x0) = Sum.inr (s6, d7) := Qbn hl11 hF9
 refine Qbm (Qi (sr (wm (wa (nt' (Qj ?_))))))
 have he16 := (show Qu x0 x1 = (s6, d7) from Qat hE15 (rfl))
 refine Qir rfl rfl (fun W hm => ⟨?_, ?_⟩)
 ·rw [he16]
 rw [he16]; exact hm

def Qvn (k5 : Nat) (s6 : Int) (d7 : (List Qn)) : (Int × (List Qn)) ⊕ (Int × (List Qn)) :=
 Sum.inr ((IntKind.i64.wrap ((IntKind.i64.wrap (((Qu ((gt d7 k5).Values) (IntKind.i64.wrap (s6 + 1))).1) + 1)) + 1)), (d7.set k5 (⟨s6, (Qu ((gt d7 k5).Values) (IntKind.i64.wrap (s6 + 1))).2, (Qu ((gt d7 k5).Values) (IntKind.i64.wrap (s6 + 1))).1, (IntKind.i64.wrap (((Qu ((gt d7 k5).Values) (IntKind.i64.wrap (s6 + 1))).1) + 1))⟩ : Qn)))
def Qht (x0 : (List Qn)) (x1 : Int) : (Int × (List Qn)) :=
 Sum.elim id (fun (s : Int × (List Qn)) => (s.1, s.2)) (rng (R := (Int × (List Qn))) (fun k (s : Int × (List Qn)) => Qvn k s.1 s.2) (x0.length - 0) 0 (x1, x0))
theorem Qaid : Cb Tryz.prog 219 := ⟨f219, _, func219, rfl, by decide⟩
theorem Qanr (B : Nat) (w0 : World) (is : List It) (w : World) (z0 : Value) (x0 : (List Qn)) (x1 : Int) (hm : Mem B w0 (Qd (tSl Qm 191) [z0] x0 :: is) w) :
  Calls Tryz.prog 219 #[z0, .int .i64 x1] w fun e w' => e = .returned (.int .i64 (Qht x0 x1).1) ∧ Mem B w0 (Qd (tSl Qm 191) [z0] (Qht x0 x1).2 :: is) w' := by
 refine Qhi (L := [(0, z0), (1, .int .i64 x1)]) (N := 41) func219 rfl rfl (Nat.le_of_ble_eq_true rfl) (Qee rfl (Qee rfl Qgl)) hm ?_
 refine Qel (n := 0) rfl ?_
 rintro A1 c2 rfl m3
 refine sr (wa (nt' (Qf (sr (wa (nt' (Qab ?_)))))))
 let F1 := fun k (s : Int × (List Qn)) => Qvn k s.1 s.2
 let R2 := rng (R := (Int × (List Qn))) F1
 refine Qbl (σ := Nat × (Int × (List Qn)) × (Unit)) (fun s => [(0, .slice A1 x0.length c2), (1, .int .i64 s.2.1.1), (5, .int .i64 ((s.1 : Nat) : Int))]) (fun s => (Qd (tSl Qm 191) [.slice A1 x0.length c2] s.2.1.2 :: is)) (fun s => s.1 ≤ x0.length ∧ R2 (x0.length - s.1) s.1 s.2.1 = R2 (x0.length - 0) 0 (x1, x0)) (fun s => x0.length - s.1) (0, (x1, x0), ()) sl3 (fun W hm => hm) ⟨(by omega), rfl⟩ ?_
 rintro ⟨k5, ⟨s6, d7⟩, ⟨⟩⟩ H10
 obtain ⟨hk8, hF9⟩ : k5 ≤ x0.length ∧ R2 (x0.length - k5) k5 (s6, d7) = R2 (x0.length - 0) 0 (x1, x0) := H10
 show CM Tryz.prog 41 _ _ _ _ [(0, .slice A1 x0.length c2), (1, .int .i64 s6), (5, .int .i64 ((k5 : Nat) : Int))] (Qd (tSl Qm 191) [.slice A1 x0.length c2] d7 :: is)
 refine Qf (sr (wm (wm ?_)))
 refine wv (Qai Qav) ?_
 refine wv Qak ?_
 refine nt' ?_
 by_cases hl11 : k5 < x0.length
 ·have g12 := dlT hl11
  refine Ql rfl g12 ?_
  refine Qq (Qi (Qf (Qab (sr (wm (wm (wm ?_)))))))
  refine Qfj (n := 0) rfl (by omega) ?_
  rintro g13 rfl
  refine wv (vix 4 k5 Qav Qar) ?_
  refine wv (vf Qbe rfl Qh) ?_
  refine Qgk (E := Qm) (e := 191) (A := (some ⟨g13, 0, none⟩)) (n := x0.length) (c := c2) (xs := d7) (k := k5) (js := (is)) (by omega) (fun W hm => (hm.front (n := 0) rfl)) (fun ck14 => ?_)
  refine Qmp ?_
  rintro v15 rfl
  refine Qs (n := 0) rfl ?_
  rintro A16 c17 rfl m18
  let K3 : List Value := [.int .i64 s6, .slice A16 ((gt d7 k5).Values).length c17, .int .i64 ((gt d7 k5).Born), .int .i64 ((gt d7 k5).Died)]
  refine sf 0 4 K3 (Qd (tSl Qg 3) [.slice A16 ((gt d7 k5).Values).length c17] ((gt d7 k5).Values) :: is) (fun W hm => (hm.front (n := 1) rfl)) Qh ?_
  refine nt' (sr (wm ?_))
  refine wv Qdq ?_
  refine wa (nt' (sr (wm (wm ?_))))
  refine wv (vix 4 k5 Qav Qar) ?_
  refine wv (vf Qbe rfl Qap) ?_
  refine wv (fun W hm => Qaw Qv rfl rfl (hm.focCells (i := 0) rfl rfl 1 _ rfl)) ?_
  refine wm ?_
  refine cw (Qr Qjw rfl) (fun W hm => Qjz B w0 (Qao Qm 191 (some ⟨g13, 0, none⟩) x0.length c2 d7 k5 K3 :: is) W (.slice A16 ((gt d7 k5).Values).length c17) ((gt d7 k5).Values) (IntKind.i64.wrap (s6 + 1)) (hm.front (n := 1) rfl)) ?_
  refine wa (nt' (sr (wm (wm (wm ?_)))))
  refine wv (vix 4 k5 Qav Qar) ?_
  refine wv (vf Qbe rfl Qh) ?_
  let I5 : It := Qd (tSl Qg 3) [.slice A16 ((gt d7 k5).Values).length c17] ((Qu ((gt d7 k5).Values) (IntKind.i64.wrap (s6 + 1))).2)
  refine sf 2 4 [.int .i64 s6, .slice A16 ((gt d7 k5).Values).length c17, .int .i64 ((Qu ((gt d7 k5).Values) (IntKind.i64.wrap (s6 + 1))).1), .int .i64 ((gt d7 k5).Died)] (I5 :: is) (fun W hm => (hm.front (n := 1) rfl)) Qh ?_
  refine nt' (sr (wm ?_))
  refine wv Qdq ?_
  refine wa (nt' (sr (wm (wm (wm ?_)))))
  refine wv (vix 4 k5 Qav Qar) ?_
  refine wv (vf Qbe rfl Qh) ?_
  let K4 : List Value := [.int .i64 s6, .slice A16 ((gt d7 k5).Values).length c17, .int .i64 ((Qu ((gt d7 k5).Values) (IntKind.i64.wrap (s6 + 1))).1), .int .i64 (IntKind.i64.wrap (((Qu ((gt d7 k5).Values) (IntKind.i64.wrap (s6 + 1))).1) + 1))]
  refine sf 3 4 K4 (I5 :: is) (fun W hm => (hm.front (n := 0) rfl)) Qh ?_
  refine nt' (Qad (wm ?_))
  refine wv Qdq ?_
  refine wa (Qal (Qax (Qi (Qad (wm ?_)))))
  refine wv (Qbd k5 1 (by omega)) ?_
  refine wa (Qal ?_)
  refine Qdu (fun W hm => Mem.unfocus (Mem.join (is := [I5]) (js := (Qao Qm 191 (some ⟨g13, 0, none⟩) x0.length c2 d7 k5 K4 :: (is))) (fun _ _ hs => Qfs (x := (⟨s6, (Qu ((gt d7 k5).Values) (IntKind.i64.wrap (s6 + 1))).2, (Qu ((gt d7 k5).Values) (IntKind.i64.wrap (s6 + 1))).1, (IntKind.i64.wrap (((Qu ((gt d7 k5).Values) (IntKind.i64.wrap (s6 + 1))).1) + 1))⟩ : Qn)) hs) ((hm.front (n := 0) rfl).front (n := 1) rfl))) ?_
  have hn20 := Qbb (R := (Int × (List Qn))) (body := F1) (k := k5) (s := (s6, d7)) (s' := ((IntKind.i64.wrap ((IntKind.i64.wrap (((Qu ((gt d7 k5).Values) (IntKind.i64.wrap (s6 + 1))).1) + 1)) + 1)), (d7.set k5 (⟨s6, (Qu ((gt d7 k5).Values) (IntKind.i64.wrap (s6 + 1))).2, (Qu ((gt d7 k5).Values) (IntKind.i64.wrap (s6 + 1))).1, (IntKind.i64.wrap (((Qu ((gt d7 k5).Values) (IntKind.i64.wrap (s6 + 1))).1) + 1))⟩ : Qn)))) (show k5 < x0.length from by omega) (rfl) hF9
  exact Qaz (k5 + 1, ((IntKind.i64.wrap ((IntKind.i64.wrap (((Qu ((gt d7 k5).Values) (IntKind.i64.wrap (s6 + 1))).1) + 1)) + 1)), (d7.set k5 (⟨s6, (Qu ((gt d7 k5).Values) (IntKind.i64.wrap (s6 + 1))).2, (Qu ((gt d7 k5).Values) (IntKind.i64.wrap (s6 + 1))).1, (IntKind.i64.wrap (((Qu ((gt d7 k5).Values) (IntKind.i64.wrap (s6 + 1))).1) + 1))⟩ : Qn))), ()) sl3 (fun W hm => hm) ⟨(by omega), hn20⟩ (rl (by omega))
 have g12 := dlF hl11
 refine Qp rfl g12 ?_
 refine Qbk (Qac (Qac ?_))
 have hE21 : R2 (x0.length - 0) 0 (x1, x0) = Sum.inr (s6, d7) := Qbn hl11 hF9
 refine Qbm (Qi (sr (wm (wa (nt' (Qj ?_))))))
 have he22 := (show Qht x0 x1 = (s6, d7) from Qat hE21 (rfl))
 refine Qir rfl rfl (fun W hm => ⟨?_, ?_⟩)
 ·rw [he22]
 rw [he22]; exact hm

def Qvm (k5 : Nat) (s6 : Int) (d7 : (List (List Qn))) : (Int × (List (List Qn))) ⊕ (Int × (List (List Qn))) :=
 Sum.inr ((Qht (gt d7 k5) s6).1, (d7.set k5 ((Qht (gt d7 k5) s6).2)))
def Qjh (x0 : (List (List Qn))) (x1 : Int) : (Int × (List (List Qn))) :=
 Sum.elim id (fun (s : Int × (List (List Qn))) => (s.1, s.2)) (rng (R := (Int × (List (List Qn)))) (fun k (s : Int × (List (List Qn))) => Qvm k s.1 s.2) (x0.length - 0) 0 (x1, x0))
theorem Qagy : Cb Tryz.prog 170 := ⟨f170, _, func170, rfl, by decide⟩
theorem Qano (B : Nat) (w0 : World) (is : List It) (w : World) (z0 : Value) (x0 : (List (List Qn))) (x1 : Int) (hm : Mem B w0 (Qd (tSl (tSl Qm 191) 131) [z0] x0 :: is) w) :
  Calls Tryz.prog 170 #[z0, .int .i64 x1] w fun e w' => e = .returned (.int .i64 (Qjh x0 x1).1) ∧ Mem B w0 (Qd (tSl (tSl Qm 191) 131) [z0] (Qjh x0 x1).2 :: is) w' := by
 refine Qhi (L := [(0, z0), (1, .int .i64 x1)]) (N := 19) func170 rfl rfl (Nat.le_of_ble_eq_true rfl) (Qee rfl (Qee rfl Qgl)) hm ?_
 refine Qel (n := 0) rfl ?_
 rintro A1 c2 rfl m3
 refine sr (wa (nt' (Qf (sr (wa (nt' (Qab ?_)))))))
 let F1 := fun k (s : Int × (List (List Qn))) => Qvm k s.1 s.2
 let R2 := rng (R := (Int × (List (List Qn)))) F1
 refine Qbl (σ := Nat × (Int × (List (List Qn))) × (Unit)) (fun s => [(0, .slice A1 x0.length c2), (1, .int .i64 s.2.1.1), (5, .int .i64 ((s.1 : Nat) : Int))]) (fun s => (Qd (tSl (tSl Qm 191) 131) [.slice A1 x0.length c2] s.2.1.2 :: is)) (fun s => s.1 ≤ x0.length ∧ R2 (x0.length - s.1) s.1 s.2.1 = R2 (x0.length - 0) 0 (x1, x0)) (fun s => x0.length - s.1) (0, (x1, x0), ()) sl3 (fun W hm => hm) ⟨(by omega), rfl⟩ ?_
 rintro ⟨k5, ⟨s6, d7⟩, ⟨⟩⟩ H10
 obtain ⟨hk8, hF9⟩ : k5 ≤ x0.length ∧ R2 (x0.length - k5) k5 (s6, d7) = R2 (x0.length - 0) 0 (x1, x0) := H10
 show CM Tryz.prog 19 _ _ _ _ [(0, .slice A1 x0.length c2), (1, .int .i64 s6), (5, .int .i64 ((k5 : Nat) : Int))] (Qd (tSl (tSl Qm 191) 131) [.slice A1 x0.length c2] d7 :: is)
 refine Qf (sr (wm (wm ?_)))
 refine wv (Qai Qas) ?_
 refine wv Qak ?_
 refine nt' ?_
 by_cases hl11 : k5 < x0.length
 ·have g12 := dlT hl11
  refine Ql rfl g12 ?_
  refine Qq (Qi (Qf (Qab (Qad (wm (wm ?_))))))
  refine Qfj (n := 0) rfl (by omega) ?_
  rintro g13 rfl
  refine wv (vix 1 k5 Qas Qda) ?_
  refine Qgk (E := (tSl Qm 191)) (e := 131) (A := (some ⟨g13, 0, none⟩)) (n := x0.length) (c := c2) (xs := d7) (k := k5) (js := (is)) (by omega) (fun W hm => (hm.front (n := 0) rfl)) (fun ck14 => ?_)
  refine Qgp (γ := Value) (js := fun g => [Qd (tSl Qm 191) [g] (gt d7 k5)]) (C := fun g => ck14 = [g]) (fun _ _ h => Qhy h) ?_
  rintro v15 rfl
  refine Qs (n := 0) rfl ?_
  rintro A16 c17 rfl m18
  refine wv (fun W hm => Qaw Qav rfl rfl (hm.focInt (i := 1) rfl rfl)) ?_
  refine wm ?_
  refine cw (Qr Qaid rfl) (fun W hm => Qanr B w0 (Qao (tSl Qm 191) 131 (some ⟨g13, 0, none⟩) x0.length c2 d7 k5 [.slice A16 (gt d7 k5).length c17] :: is) W (.slice A16 (gt d7 k5).length c17) (gt d7 k5) s6 (hm.front (n := 0) rfl)) ?_
  refine wa (Qal (Qax (Qi (Qad (wm ?_)))))
  refine wv (Qbd k5 1 (by omega)) ?_
  refine wa (Qal ?_)
  refine Qdu (fun W hm => Mem.unfocus (Mem.join (is := [Qd (tSl Qm 191) [.slice A16 (gt d7 k5).length c17] ((Qht (gt d7 k5) s6).2)]) (js := (Qao (tSl Qm 191) 131 (some ⟨g13, 0, none⟩) x0.length c2 d7 k5 [.slice A16 (gt d7 k5).length c17] :: (is))) (fun _ _ hs => Sep.one hs) ((hm.front (n := 1) rfl).front (n := 1) rfl))) ?_
  have hn20 := Qbb (R := (Int × (List (List Qn)))) (body := F1) (k := k5) (s := (s6, d7)) (s' := ((Qht (gt d7 k5) s6).1, (d7.set k5 ((Qht (gt d7 k5) s6).2)))) (show k5 < x0.length from by omega) (rfl) hF9
  exact Qaz (k5 + 1, ((Qht (gt d7 k5) s6).1, (d7.set k5 ((Qht (gt d7 k5) s6).2))), ()) sl3 (fun W hm => hm) ⟨(by omega), hn20⟩ (rl (by omega))
 have g12 := dlF hl11
 refine Qp rfl g12 ?_
 refine Qbk (Qac (Qac ?_))
 have hE21 : R2 (x0.length - 0) 0 (x1, x0) = Sum.inr (s6, d7) := Qbn hl11 hF9
 refine Qbm (Qi (sr (wm (wa (nt' (Qj ?_))))))
 have he22 := (show Qjh x0 x1 = (s6, d7) from Qat hE21 (rfl))
 refine Qir rfl rfl (fun W hm => ⟨?_, ?_⟩)
 ·rw [he22]
 rw [he22]; exact hm

def Qdz (x0 : Qx) (x1 : Int) : (Int × Qx) :=
 ((Qjh x0.Segments x1).1, (⟨(Qjh x0.Segments x1).2, x0.Now⟩ : Qx))
theorem cb92 : Cb Tryz.prog 92 := ⟨f92, _, func92, rfl, by decide⟩
theorem Qank (B : Nat) (w0 : World) (is : List It) (w : World) (z0 : List Value) (x0 : Qx) (x1 : Int) (hm : Mem B w0 (Qd Qcz z0 x0 :: is) w) :
  Calls Tryz.prog 92 #[.agg z0.toArray, .int .i64 x1] w fun e w' => e = .returned (.int .i64 (Qdz x0 x1).1) ∧ Mem B w0 (Qd Qcz z0 (Qdz x0 x1).2 :: is) w' := by
 refine Qhi (L := [(0, .agg z0.toArray), (1, .int .i64 x1)]) (N := 10) func92 rfl rfl (Nat.le_of_ble_eq_true rfl) (Qee rfl (Qee rfl Qgl)) hm ?_
 refine Qiq (γ := Value) (js := fun g => [Qd (tSl (tSl Qm 191) 131) [g] x0.Segments]) (C := fun g => z0 = [g, .int .i64 x0.Now]) (fun _ _ h => Qadm h) ?_
 rintro v1 rfl
 refine Qel (n := 0) rfl ?_
 rintro A2 c3 rfl m4
 refine sr ?_
 refine Qbj rfl (Qo rfl) (by decide) (fun p6 => ?_)
 refine wa (nt' (sr ?_))
 refine wv (vf Qaf rfl Qcu) ?_
 refine wv (vl 0 0 Qas) ?_
 refine wm ?_
 refine cw (Qr Qagy rfl) (fun W hm => Qano B w0 (Qa p6 42 [.slice A2 x0.Segments.length c3, .int .i64 x0.Now] :: is) W (.slice A2 x0.Segments.length c3) x0.Segments x1 (hm.front (n := 1) rfl)) ?_
 refine wa (nt' (sr (wm (wa (nt' (Qj ?_))))))
 have he7 := (show Qdz x0 x1 = ((Qjh x0.Segments x1).1, (⟨(Qjh x0.Segments x1).2, x0.Now⟩ : Qx)) from rfl)
 refine Qir rfl rfl (fun W hm => ⟨?_, ?_⟩)
 ·rw [he7]
 rw [he7]; exact Mem.join (is := [Qd (tSl (tSl Qm 191) 131) [.slice A2 x0.Segments.length c3] ((Qjh x0.Segments x1).2)]) (js := is) (fun _ _ hs => Qed (x := (⟨(Qjh x0.Segments x1).2, x0.Now⟩ : Qx)) hs) ((hm.front (n := 0) rfl).front (n := 1) rfl).tail

def Qvi (k5 : Nat) (s6 : Int) (d7 : (List Qby)) : (Int × (List Qby)) ⊕ (Int × (List Qby)) :=
 Sum.inr ((IntKind.i64.wrap ((IntKind.i64.wrap ((IntKind.i64.wrap (s6 + 1)) + 1)) + 1)), (d7.set k5 (⟨s6, (IntKind.i64.wrap (s6 + 1)), (IntKind.i64.wrap ((IntKind.i64.wrap (s6 + 1)) + 1))⟩ : Qby)))
def Qau (x0 : (List Qby)) (x1 : Int) : (Int × (List Qby)) :=
 Sum.elim id (fun (s : Int × (List Qby)) => (s.1, s.2)) (rng (R := (Int × (List Qby))) (fun k (s : Int × (List Qby)) => Qvi k s.1 s.2) (x0.length - 0) 0 (x1, x0))
theorem Qyl : Cb Tryz.prog 146 := ⟨f146, _, func146, rfl, by decide⟩
theorem Qaap (B : Nat) (w0 : World) (is : List It) (w : World) (z0 : Value) (x0 : (List Qby)) (x1 : Int) (hm : Mem B w0 (Qd (tSl Qbz 201) [z0] x0 :: is) w) :
  Calls Tryz.prog 146 #[z0, .int .i64 x1] w fun e w' => e = .returned (.int .i64 (Qau x0 x1).1) ∧ Mem B w0 (Qd (tSl Qbz 201) [z0] (Qau x0 x1).2 :: is) w' := by
 refine Qhi (L := [(0, z0), (1, .int .i64 x1)]) (N := 34) func146 rfl rfl (Nat.le_of_ble_eq_true rfl) (Qee rfl (Qee rfl Qgl)) hm ?_
 refine Qel (n := 0) rfl ?_
 rintro A1 c2 rfl m3
 refine sr (wa (nt' (Qf (sr (wa (nt' (Qab ?_)))))))
 let F1 := fun k (s : Int × (List Qby)) => Qvi k s.1 s.2
 let R2 := rng (R := (Int × (List Qby))) F1
 refine Qbl (σ := Nat × (Int × (List Qby)) × (Unit)) (fun s => [(0, .slice A1 x0.length c2), (1, .int .i64 s.2.1.1), (5, .int .i64 ((s.1 : Nat) : Int))]) (fun s => (Qd (tSl Qbz 201) [.slice A1 x0.length c2] s.2.1.2 :: is)) (fun s => s.1 ≤ x0.length ∧ R2 (x0.length - s.1) s.1 s.2.1 = R2 (x0.length - 0) 0 (x1, x0)) (fun s => x0.length - s.1) (0, (x1, x0), ()) sl3 (fun W hm => hm) ⟨(by omega), rfl⟩ ?_
 rintro ⟨k5, ⟨s6, d7⟩, ⟨⟩⟩ H10
 obtain ⟨hk8, hF9⟩ : k5 ≤ x0.length ∧ R2 (x0.length - k5) k5 (s6, d7) = R2 (x0.length - 0) 0 (x1, x0) := H10
 show CM Tryz.prog 34 _ _ _ _ [(0, .slice A1 x0.length c2), (1, .int .i64 s6), (5, .int .i64 ((k5 : Nat) : Int))] (Qd (tSl Qbz 201) [.slice A1 x0.length c2] d7 :: is)
 refine Qf (sr (wm (wm ?_)))
 refine wv (Qai Qds) ?_
 refine wv Qak ?_
 refine nt' ?_
 by_cases hl11 : k5 < x0.length
 ·have g12 := dlT hl11
  refine Ql rfl g12 ?_
  refine Qq (Qi (Qf (Qab (sr (wm (wm (wm ?_)))))))
  refine Qfj (n := 0) rfl (by omega) ?_
  rintro g13 rfl
  refine wv (vix 3 k5 Qds Qeh) ?_
  refine wv (vf Qei rfl Qh) ?_
  refine Qgk (E := Qbz) (e := 201) (A := (some ⟨g13, 0, none⟩)) (n := x0.length) (c := c2) (xs := d7) (k := k5) (js := (is)) (by omega) (fun W hm => (hm.front (n := 0) rfl)) (fun ck14 => ?_)
  refine Qacy ?_
  rintro ⟨⟩ rfl
  refine sf 0 3 [.int .i64 s6, .int .i64 ((gt d7 k5).Low), .int .i64 ((gt d7 k5).High)] (is) (fun W hm => (hm.front (n := 0) rfl)) Qh ?_
  refine nt' (sr (wm ?_))
  refine wv Qdq ?_
  refine wa (nt' (sr (wm (wm (wm ?_)))))
  refine wv (vix 3 k5 Qds Qeh) ?_
  refine wv (vf Qei rfl Qh) ?_
  refine sf 1 3 [.int .i64 s6, .int .i64 (IntKind.i64.wrap (s6 + 1)), .int .i64 ((gt d7 k5).High)] (is) (fun W hm => (hm.front (n := 0) rfl)) Qh ?_
  refine nt' (sr (wm ?_))
  refine wv Qdq ?_
  refine wa (nt' (sr (wm (wm (wm ?_)))))
  refine wv (vix 3 k5 Qds Qeh) ?_
  refine wv (vf Qei rfl Qh) ?_
  let K3 : List Value := [.int .i64 s6, .int .i64 (IntKind.i64.wrap (s6 + 1)), .int .i64 (IntKind.i64.wrap ((IntKind.i64.wrap (s6 + 1)) + 1))]
  refine sf 2 3 K3 (is) (fun W hm => (hm.front (n := 0) rfl)) Qh ?_
  refine nt' (Qad (wm ?_))
  refine wv Qdq ?_
  refine wa (Qal (Qax (Qi (Qad (wm ?_)))))
  refine wv (Qbd k5 1 (by omega)) ?_
  refine wa (Qal ?_)
  refine Qdu (fun W hm => Mem.unfocus (Mem.join (is := []) (js := (Qao Qbz 201 (some ⟨g13, 0, none⟩) x0.length c2 d7 k5 K3 :: (is))) (fun _ _ hs => Qwz (x := (⟨s6, (IntKind.i64.wrap (s6 + 1)), (IntKind.i64.wrap ((IntKind.i64.wrap (s6 + 1)) + 1))⟩ : Qby)) hs) (hm.front (n := 0) rfl))) ?_
  have hn15 := Qbb (R := (Int × (List Qby))) (body := F1) (k := k5) (s := (s6, d7)) (s' := ((IntKind.i64.wrap ((IntKind.i64.wrap ((IntKind.i64.wrap (s6 + 1)) + 1)) + 1)), (d7.set k5 (⟨s6, (IntKind.i64.wrap (s6 + 1)), (IntKind.i64.wrap ((IntKind.i64.wrap (s6 + 1)) + 1))⟩ : Qby)))) (show k5 < x0.length from by omega) (rfl) hF9
  exact Qaz (k5 + 1, ((IntKind.i64.wrap ((IntKind.i64.wrap ((IntKind.i64.wrap (s6 + 1)) + 1)) + 1)), (d7.set k5 (⟨s6, (IntKind.i64.wrap (s6 + 1)), (IntKind.i64.wrap ((IntKind.i64.wrap (s6 + 1)) + 1))⟩ : Qby))), ()) sl3 (fun W hm => hm) ⟨(by omega), hn15⟩ (rl (by omega))
 have g12 := dlF hl11
 refine Qp rfl g12 ?_
 refine Qbk (Qac (Qac ?_))
 have hE16 : R2 (x0.length - 0) 0 (x1, x0) = Sum.inr (s6, d7) := Qbn hl11 hF9
 refine Qbm (Qi (sr (wm (wa (nt' (Qj ?_))))))
 have he17 := (show Qau x0 x1 = (s6, d7) from Qat hE16 (rfl))
 refine Qir rfl rfl (fun W hm => ⟨?_, ?_⟩)
 ·rw [he17]
 rw [he17]; exact hm

end Go.Proofs.YtmikmbmdibabmaaGreat
